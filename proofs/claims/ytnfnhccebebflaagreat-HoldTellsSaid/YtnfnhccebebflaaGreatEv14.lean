/- One of the texts that this claim stands on. -/
import Derived.Test.YtnfnhccebebflaaGreatEv8
import Derived.Lib.MakeNoZero
import Derived.Laws.Externs
set_option maxHeartbeats 40000000
set_option maxRecDepth 400000
set_option linter.all false
namespace Go.Ab
def MZ(P:Program)(f:FuncId):Prop:=∃ fn ps t e,P.funcs[f]?=some fn∧(fn.name== "runtime.NumGoroutine")=false∧fn.body.isNone=true∧Extern.findNext fn=none ∧
 Extern.find fn=some (Extern.BytealgMakeNoZero.makeNoZero ps #[t])∧P.underlying t=some (.slice e)
end Go.Ab
