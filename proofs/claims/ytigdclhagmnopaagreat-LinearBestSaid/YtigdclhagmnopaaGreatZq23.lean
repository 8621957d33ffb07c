/- The reference of linear: echelon. -/
import Derived.Test.YtigdclhagmnopaaGreatZq20
set_option linter.unusedSimpArgs false
set_option linter.unusedVariables false
namespace Go.Proofs.YtigdclhagmnopaaGreat
open Go.RowKit
attribute [local go_sem] Zh
end Go.Proofs.YtigdclhagmnopaaGreat
