/- Five calls of the pattern counter, run by the kernel. -/
import Derived.Test.YtkagodjlajednaaGreatEvY1
import Derived.Test.YtkagodjlajednaaGreatEvX8
set_option maxRecDepth 1000000
namespace Go.Ab
def dd : AV := .agg [Iv 3, Iv 2, Iv 1]
def ww (a b c : Int) (t : Bool) : AV := .agg [Iv a, Iv b, Iv c, Bv false, Bv false, Bv false, Bv t]
theorem m1 : chk (run E0 200000 16 [dd, ww 1 1 1 false]) (.tup [Iv 6, Iv 0]) = true := by kernel_rfl
theorem m2 : chk (run E0 200000 16 [dd, ww 3 1 1 false]) (.tup [Iv 2, Iv 0]) = true := by kernel_rfl
theorem m3 : chk (run E0 200000 16 [dd, ww 2 1 1 false]) (.tup [Iv 6, Iv 0]) = true := by kernel_rfl
theorem m4 : chk (run E0 200000 16 [dd, ww 4 1 1 false]) (.tup [Iv 0, Iv 0]) = true := by kernel_rfl
theorem m5 : chk (run E0 200000 16 [dd, ww 2 1 1 true]) (.tup [Iv 9, Iv 0]) = true := by kernel_rfl
end Go.Ab
