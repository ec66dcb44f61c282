/-
  PROVED HERE: 'Rows.SpotsHasSaid' (the walk, and the row, stand in the text before).
-/
import Derived.Test.YtfiglmdmnfdldaaGreatEv39
set_option linter.unusedVariables false
set_option linter.unusedSimpArgs false
namespace Go.Proofs.YtfiglmdmnfdldaaGreat.spotsHas
theorem proved : Rows.SpotsHasSaid :=
  over
end Go.Proofs.YtfiglmdmnfdldaaGreat.spotsHas
