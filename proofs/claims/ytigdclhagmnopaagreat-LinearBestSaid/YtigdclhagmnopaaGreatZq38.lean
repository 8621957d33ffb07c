/- The reference's System, without a right side. -/
import Derived.Test.YtigdclhagmnopaaGreatZq37
set_option linter.unusedSimpArgs false
set_option linter.unusedVariables false
namespace Go.Proofs.YtigdclhagmnopaaGreat
open Go.RowKit
attribute [local go_sem] Zh
end Go.Proofs.YtigdclhagmnopaaGreat
