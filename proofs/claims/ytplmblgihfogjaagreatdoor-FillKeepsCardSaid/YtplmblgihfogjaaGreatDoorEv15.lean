/- A text of this claim. -/
import Derived.Test.YtplmblgihfogjaaGreatDoorEv10
import Derived.Test.YtplmblgihfogjaaGreatDoorEv11
import Derived.Test.YtplmblgihfogjaaGreatDoorEv12
import Derived.Test.YtplmblgihfogjaaGreatDoorEv13
import Derived.Test.YtplmblgihfogjaaGreatDoorEv14
set_option maxHeartbeats 40000000
set_option maxRecDepth 400000
set_option linter.all false
namespace Go.Ab
def chk(o:Option AV)(v:AV):Bool:=match o with
 | some u=>aeq u v
 | none=>false
end Go.Ab
