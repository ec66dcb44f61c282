/- A text of this claim. -/
import Derived.Test.YtplmblgihfogjaaGreatDoorEv3
import Derived.Recover
set_option maxHeartbeats 40000000
set_option maxRecDepth 400000
set_option linter.all false
