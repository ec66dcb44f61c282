/-
  PROVED HERE: 'Rows.HoldTellsSaid' (the walk, and the row, stand in the text before).
-/
import Derived.Test.YtnfnhccebebflaaGreatEv52
set_option maxHeartbeats 40000000
set_option maxRecDepth 400000
set_option linter.all false
namespace Go.Proofs.YtnfnhccebebflaaGreat.holdTells
theorem proved:Rows.HoldTellsSaid :=
 over
end Go.Proofs.YtnfnhccebebflaaGreat.holdTells
