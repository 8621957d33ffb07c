/- Package planisphereref01: Sub. -/
import Derived.Test.YtkippclhbkjbmaaZn17
set_option linter.unusedSimpArgs false
set_option linter.unusedVariables false

namespace Go.Proofs.Ytkippclhbkjbmaa
open Go.RowKit
attribute [local go_sem] add_lit

end Go.Proofs.Ytkippclhbkjbmaa
