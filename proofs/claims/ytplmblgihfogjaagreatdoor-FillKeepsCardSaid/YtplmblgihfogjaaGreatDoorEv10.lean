/- A text of this claim. -/
import Derived.Test.YtplmblgihfogjaaGreatDoorEv9
import Derived.IntWalk
set_option maxHeartbeats 40000000
set_option maxRecDepth 400000
set_option linter.all false
namespace Go.Ab
structure TI where
 und:TypeDesc
 agg:Bool
 sz:Nat
 byt:Nat
 zc:Option (List AV)
 ze:Option AV
 eqg:Bool
 held:Bool
def knum:IntKind->Nat
 | .i8=>0 | .i16=>1 | .i32=>2 | .i64=>3 | .u8=>4 | .u16=>5 | .u32=>6 | .u64=>7
def ieq:Int->Int->Bool
 | .ofNat a,.ofNat b=>Nat.beq a b
 | .negSucc a,.negSucc b=>Nat.beq a b
 | _,_=>false
def xnot:Bool->Bool
 | true=>false
 | false=>true
def xbeq(a b:Bool):Bool:=match a with
 | true=>b
 | false=>xnot b
section
variable {β:Type} {P:Program} {te:Tr TI} {G:Gl}
def xand(a b:Bool):Bool:=match a with
 | true=>b
 | false=>false
end
section
variable {β:Type} {P:Program} {te:Tr TI} {G:Gl}
def veq:Value->Value->Bool
 | .int k a,.int k' b=>match Nat.beq (knum k) (knum k')with
  | true=>ieq a b
  | false=>false
 | .bool a,.bool b=>xbeq a b
 | _,_=>false
def vq:Value->Value->Bool
 | .slice none 0 0,.slice none 0 0=>true
 | .pointer none,.pointer none=>true
 | .map none,.map none=>true
 | .nilFunc,.nilFunc=>true
 | .nilIface,.nilIface=>true
 | a,b=>veq a b
mutual
def aeq:AV->AV->Bool
 | .c a,.c b=>vq a b
 | .agg l,.agg m=>aeqL l m
 | .tup l,.tup m=>aeqL l m
 | .isl l,.isl m=>aeqL l m
 | .zs,.zs=>true
 | .ptr a b,.ptr a' b'=>xand (Nat.beq a a') (Nat.beq b b')
 | .sl a b c d,.sl a' b' c' d'=>xand (xand (Nat.beq a a') (Nat.beq b b')) (xand (Nat.beq c c') (Nat.beq d d'))
 | .mp a,.mp a'=>Nat.beq a a'
 | .eptr a b c,.eptr a' b' c'=>xand (xand (Nat.beq a a') (Nat.beq b b')) (Nat.beq c c')
 | .gp a b,.gp a' b'=>xand (Nat.beq a a') (Nat.beq b b')
 | .bs a b c d e,.bs a' b' c' d' e'=>xand (xand (xand (Nat.beq a a') (Nat.beq b b')) (xand (Nat.beq c c') (Nat.beq d d'))) (Nat.beq e e')
 | .iptr l k,.iptr m k'=>xand (Nat.beq k k') (aeqL l m)
 | .fn f l m,.fn f' l' m'=>xand (Nat.beq f f') (xand (aeqL l l') (aeqL m m'))
 | _,_=>false
def aeqL:List AV->List AV->Bool
 | [],[]=>true
 | a::l,b::m=>xand (aeq a b) (aeqL l m)
 | _,_=>false
end
end
end Go.Ab
