/- One of the texts that this claim stands on. -/
import Derived.Test.YtnfnhccebebflaaGreatEv25
set_option linter.unusedVariables false
set_option linter.unusedSimpArgs false
set_option linter.unusedVariables false
set_option linter.unusedSimpArgs false
