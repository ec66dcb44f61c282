/-
  PROVED HERE: 'Rows.SpotsManySaid' (the walk, and the row, stand in the text before).
-/
import Derived.Test.YtfiglmdmnfdldaaGreatEv43
set_option linter.unusedVariables false
set_option linter.unusedSimpArgs false
namespace Go.Proofs.YtfiglmdmnfdldaaGreat.spotsMany
theorem proved : Rows.SpotsManySaid :=
  over
end Go.Proofs.YtfiglmdmnfdldaaGreat.spotsMany
