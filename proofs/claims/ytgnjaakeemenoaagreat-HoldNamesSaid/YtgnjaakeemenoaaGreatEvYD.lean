/- The evaluator at this seat's tables. -/
import Derived.Test.YtgnjaakeemenoaaGreatEvXT
import Derived.Test.YtgnjaakeemenoaaGreatEvX8
set_option maxRecDepth 100000
namespace Go.Ab
def Iv (n : Int) : AV := .c (.int .i64 n)
def Bv (n : Bool) : AV := .c (.bool n)
def Uv (n : Int) : AV := .c (.int .u64 n)
def GG0 : Gl := fun _ => none
/-- functions whose captured variables are never written -/
noncomputable def fz0 : Tr Unit := .lf
def im1 (o : Oper) : Bool := match o.op with
  | .call ⟨.value _, _, _⟩ => true
  | _ => false
def im2 : List Oper → Bool
  | [] => false
  | o :: l => match im1 o with
    | true => true
    | false => im2 l
def im0 (ops : Array Oper) : Bool := im2 ops.toList
noncomputable def E0 : XE := ⟨te, GG0, ft, (fun _ _ => none), Tr.lf.set () 81, fz0, im0⟩
end Go.Ab
