/- One call, run by the kernel. -/
import Derived.Test.YtijmadhlpmikbaaGreatDoorEvYD
import Derived.KernelRfl
set_option maxRecDepth 1000000
namespace Go.Ab
theorem m4 : chk (run E0 400000 26 [Uv 3, Iv 2]) (.c (.bool true)) = true := by kernel_rfl
end Go.Ab
