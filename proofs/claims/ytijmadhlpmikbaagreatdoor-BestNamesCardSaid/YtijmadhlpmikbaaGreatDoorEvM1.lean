/- One call, run by the kernel. -/
import Derived.Test.YtijmadhlpmikbaaGreatDoorEvYD
import Derived.KernelRfl
set_option maxRecDepth 1000000
namespace Go.Ab
theorem m1 : chk (run E0 400000 26 [Uv 0, Iv 0]) (.c (.bool true)) = true := by kernel_rfl
end Go.Ab
