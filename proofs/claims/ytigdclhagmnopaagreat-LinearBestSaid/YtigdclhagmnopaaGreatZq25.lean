/- The reference of linear: Check, square. -/
import Derived.Test.YtigdclhagmnopaaGreatZq24
set_option linter.unusedSimpArgs false
set_option linter.unusedVariables false
namespace Go.Proofs.YtigdclhagmnopaaGreat
open Go.RowKit
attribute [local go_sem] Zh
end Go.Proofs.YtigdclhagmnopaaGreat
