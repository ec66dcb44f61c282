/- A text of this claim. -/
import Derived.Test.YtplmblgihfogjaaGreatDoorEv46
set_option maxHeartbeats 40000000
set_option maxRecDepth 400000
set_option linter.all false
namespace Go.Ab.Pd
open Go.Proofs
def isCnt(u c:Int)(j:Jb):Bool:=decide (j.st=2)&&(decide (j.user=u)&&decide (j.cls=c))
def cntR(l:List Jb)(u c:Int):Int:=((l.filter (isCnt u c)).length:Int)
theorem cntR_cons(j:Jb)(l:List Jb)(u c:Int):cntR (j::l) u c=(if isCnt u c j=true then 1 else 0)+cntR l u c:=by
 unfold cntR;rw[List.filter_cons]
 split
 ·rw[List.length_cons]; omega
 ·omega
theorem cntR_le(l:List Jb)(u c:Int):0<=cntR l u c/\cntR l u c<=l.length:=by
 unfold cntR;have:=List.length_filter_le (isCnt u c) l;omega
end Go.Ab.Pd
