/-
  PROVED HERE: 'Rows.HoldTurnsSaid' (the walk, and the row, stand in the text before).
-/
import Derived.Test.YtnfnhccebebflaaGreatEv52
set_option maxHeartbeats 40000000
set_option maxRecDepth 400000
set_option linter.all false
namespace Go.Proofs.YtnfnhccebebflaaGreat.holdTurns
theorem proved:Rows.HoldTurnsSaid :=
 over
end Go.Proofs.YtnfnhccebebflaaGreat.holdTurns
