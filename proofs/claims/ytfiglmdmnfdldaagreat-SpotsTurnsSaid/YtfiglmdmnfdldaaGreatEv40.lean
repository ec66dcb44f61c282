/-
  PROVED HERE: 'Rows.SpotsTurnsSaid' (the walk, and the row, stand in the text before).
-/
import Derived.Test.YtfiglmdmnfdldaaGreatEv39
set_option linter.unusedVariables false
set_option linter.unusedSimpArgs false
namespace Go.Proofs.YtfiglmdmnfdldaaGreat.spotsTurns
theorem proved : Rows.SpotsTurnsSaid :=
  over
end Go.Proofs.YtfiglmdmnfdldaaGreat.spotsTurns
