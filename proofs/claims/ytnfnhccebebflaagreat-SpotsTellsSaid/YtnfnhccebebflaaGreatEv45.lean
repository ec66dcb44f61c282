/-
  PROVED HERE: 'Rows.SpotsTellsSaid' (the walk, and the row, stand in the text before).
-/
import Derived.Test.YtnfnhccebebflaaGreatEv44
set_option linter.unusedVariables false
set_option linter.unusedSimpArgs false
namespace Go.Proofs.YtnfnhccebebflaaGreat.spotsTells
theorem proved : Rows.SpotsTellsSaid :=
  over
end Go.Proofs.YtnfnhccebebflaaGreat.spotsTells
