/- The reference's System, without a right side. The -/
import Derived.Test.YthappeninglakaaGreatZi19
set_option linter.unusedSimpArgs false
set_option linter.unusedVariables false
namespace Go.Proofs.YthappeninglakaaGreat
open Go.RowKit
attribute [local go_sem] Zg
