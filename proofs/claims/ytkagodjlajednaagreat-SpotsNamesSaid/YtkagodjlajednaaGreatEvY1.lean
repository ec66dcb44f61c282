/- The evaluator at this seat's tables. -/
import Derived.Test.YtkagodjlajednaaGreatEvXT
import Derived.Test.YtkagodjlajednaaGreatEvX7
set_option maxRecDepth 100000
namespace Go.Ab
def GG0 : Gl := fun _ => none
/-- functions whose captured variables are never written -/
noncomputable def fz0 : Tr Unit := ((Tr.lf.set () 86).set () 28).set () 82
noncomputable def E0 : XE := ⟨te, GG0, ft, (fun _ _ => none), (Tr.lf.set () 14), fz0⟩
def isI (o : Option AV) (n : Int) : Bool := match o with
  | some (.c (.int .i64 m)) => ieq m n
  | some (.tup [.c (.int .i64 m), _]) => ieq m n
  | _ => false
def isSm (o : Option AV) : Bool := match o with
  | some _ => true
  | _ => false
def Iv (n : Int) : AV := .c (.int .i64 n)
def Bv (n : Bool) : AV := .c (.bool n)
theorem t0 : isI (run E0 100 88 [.c (.bool true)]) 1 = true := by kernel_rfl
theorem t3 : isI (run E0 5000 146 [.agg [Iv 3, Iv 2, Iv 1], Iv 4, Iv 0, Iv 1]) 5 = true := by kernel_rfl
end Go.Ab
