/- Reference of centroid: Same of equal moments. -/
import Derived.Test.YtkippclhbkjbmaaZn36
import Derived.Test.YtkippclhbkjbmaaZn20
set_option linter.unusedSimpArgs false
set_option linter.unusedVariables false

namespace Go.Proofs.Ytkippclhbkjbmaa
open Go.RowKit
attribute [local go_sem] add_lit

end Go.Proofs.Ytkippclhbkjbmaa
