/- The law's own run, by the kernel. -/
import Derived.Test.YtkagodjlajednaaGreatEvZ1
set_option maxRecDepth 1000000
namespace Go.Ab
def tb1 : List TRow := [⟨16, [dd, ww 1 1 1 false], .tup [Iv 6, Iv 0]⟩, ⟨16, [dd, ww 3 1 1 false], .tup [Iv 2, Iv 0]⟩, ⟨16, [dd, ww 2 1 1 false], .tup [Iv 6, Iv 0]⟩, ⟨16, [dd, ww 4 1 1 false], .tup [Iv 0, Iv 0]⟩, ⟨16, [dd, ww 2 1 1 true], .tup [Iv 9, Iv 0]⟩]
noncomputable def E1 : XE := { E0 with tb := tbL tb1 }
theorem top : chk (run E1 400000 3 []) (.c (.bool true)) = true := by kernel_rfl
end Go.Ab
