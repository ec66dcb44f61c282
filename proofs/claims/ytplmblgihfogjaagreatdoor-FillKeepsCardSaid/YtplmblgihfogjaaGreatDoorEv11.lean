/- A text of this claim. -/
import Derived.Test.YtplmblgihfogjaaGreatDoorEv8
set_option maxHeartbeats 40000000
set_option maxRecDepth 400000
set_option linter.all false
