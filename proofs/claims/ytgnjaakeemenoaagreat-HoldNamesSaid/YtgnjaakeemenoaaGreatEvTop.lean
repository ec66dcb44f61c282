/- The law's own run, by the kernel. -/
import Derived.Test.YtgnjaakeemenoaaGreatEvYD
import Derived.KernelRfl
set_option maxRecDepth 1000000
namespace Go.Ab
theorem top : chk (run E0 400000 3 []) (.c (.bool true)) = true := by kernel_rfl
end Go.Ab
