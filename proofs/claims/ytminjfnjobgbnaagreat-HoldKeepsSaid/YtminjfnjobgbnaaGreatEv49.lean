/-
  PROVED HERE: 'Rows.HoldKeepsSaid' (the walk, and the row, stand in the text before).
-/
import Derived.Test.YtminjfnjobgbnaaGreatEv48
set_option linter.unusedVariables false
set_option linter.unusedSimpArgs false
namespace Go.Proofs.YtminjfnjobgbnaaGreat.holdKeeps
theorem proved : Rows.HoldKeepsSaid :=
  over
end Go.Proofs.YtminjfnjobgbnaaGreat.holdKeeps
