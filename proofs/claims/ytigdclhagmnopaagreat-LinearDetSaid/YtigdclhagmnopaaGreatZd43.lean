/- Reference: Twin; Same of rows and matrices that hold the -/
import Derived.Test.YtigdclhagmnopaaGreatZd42
set_option linter.unusedSimpArgs false
set_option linter.unusedVariables false
namespace Go.Proofs.YtigdclhagmnopaaGreat
open Go.RowKit
attribute [local go_sem] Zg
end Go.Proofs.YtigdclhagmnopaaGreat
