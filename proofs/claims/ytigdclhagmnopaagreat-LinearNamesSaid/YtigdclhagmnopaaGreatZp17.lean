/- Package planisphereref01: Add. Package planisphereref01: Sub. -/
import Derived.Test.YtigdclhagmnopaaGreatZp10
set_option linter.unusedSimpArgs false
set_option linter.unusedVariables false
namespace Go.Proofs.YtigdclhagmnopaaGreat
open Go.RowKit
attribute [local go_sem] Zh
end Go.Proofs.YtigdclhagmnopaaGreat
