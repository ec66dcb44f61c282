/-
  PROVED HERE: 'Rows.HoldLessSaid' (the walk, and the row, stand in the text before).
-/
import Derived.Test.YtminjfnjobgbnaaGreatEv49
set_option linter.unusedVariables false
set_option linter.unusedSimpArgs false
namespace Go.Proofs.YtminjfnjobgbnaaGreat.holdLess
theorem proved : Rows.HoldLessSaid :=
  over
end Go.Proofs.YtminjfnjobgbnaaGreat.holdLess
