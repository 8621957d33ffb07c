/- The reference's System. -/
import Derived.Test.YthappeninglakaaGreatZi18
set_option linter.unusedSimpArgs false
set_option linter.unusedVariables false
namespace Go.Proofs.YthappeninglakaaGreat
open Go.RowKit
attribute [local go_sem] Zg
