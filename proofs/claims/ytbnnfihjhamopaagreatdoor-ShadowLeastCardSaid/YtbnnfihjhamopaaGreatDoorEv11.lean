/- One of the texts that this claim stands on. -/
import Derived.Test.YtbnnfihjhamopaaGreatDoorEv8
set_option maxHeartbeats 40000000
set_option maxRecDepth 400000
set_option linter.all false
