/-
  PROVED HERE: 'Rows.HoldApartSaid' (the walk, and the row, stand in the text before).
-/
import Derived.Test.YtminjfnjobgbnaaGreatEv47
set_option linter.unusedVariables false
set_option linter.unusedSimpArgs false
namespace Go.Proofs.YtminjfnjobgbnaaGreat.holdApart
theorem proved : Rows.HoldApartSaid :=
  over
end Go.Proofs.YtminjfnjobgbnaaGreat.holdApart
