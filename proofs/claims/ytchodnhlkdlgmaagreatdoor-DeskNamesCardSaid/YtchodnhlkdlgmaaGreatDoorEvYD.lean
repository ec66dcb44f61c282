/- The evaluator at this seat's tables. -/
import Derived.Test.YtchodnhlkdlgmaaGreatDoorEvXT
import Derived.Test.YtchodnhlkdlgmaaGreatDoorEvX8
set_option maxRecDepth 100000
namespace Go.Ab
def Iv (n : Int) : AV := .c (.int .i64 n)
def Bv (n : Bool) : AV := .c (.bool n)
def Uv (n : Int) : AV := .c (.int .u64 n)
def tab0 : List AV := [0, 1, 56, 2, 57, 49, 28, 3, 61, 58, 42, 50, 38, 29, 17, 4, 62, 47, 59, 36, 45, 43, 51, 22, 53, 39, 33, 30, 24, 18, 12, 5, 63, 55, 48, 27, 60, 41, 37, 16, 46, 35, 44, 21, 52, 32, 23, 11, 54, 26, 40, 15, 34, 20, 31, 10, 25, 14, 19, 9, 13, 8, 7, 6].map fun n => .c (.int .u8 n)
def GG0 : Gl := fun g => match g with
  | 1 => some tab0
  | _ => none
/-- functions whose captured variables are never written -/
noncomputable def fz0 : Tr Unit := .lf
def im1 (o : Oper) : Bool := match o.op with
  | .call ⟨.value _, _, _⟩ => true
  | _ => false
def im2 : List Oper → Bool
  | [] => false
  | o :: l => match im1 o with
    | true => true
    | false => im2 l
def im0 (ops : Array Oper) : Bool := im2 ops.toList
noncomputable def E0 : XE := ⟨te, GG0, ft, (fun _ _ => none), .lf, fz0, im0, some 71⟩
end Go.Ab
