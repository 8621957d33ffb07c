/- Reference: Twin; Same of rows and matrices that hold the -/
import Derived.Test.YtigdclhagmnopaaGreatZp42
set_option linter.unusedSimpArgs false
set_option linter.unusedVariables false
namespace Go.Proofs.YtigdclhagmnopaaGreat
open Go.RowKit
attribute [local go_sem] Zh
end Go.Proofs.YtigdclhagmnopaaGreat
