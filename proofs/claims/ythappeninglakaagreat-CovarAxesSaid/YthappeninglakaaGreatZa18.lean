/- The reference's System. -/
import Derived.Test.YthappeninglakaaGreatZa17
set_option linter.unusedSimpArgs false
set_option linter.unusedVariables false
namespace Go.Proofs.YthappeninglakaaGreat
open Go.RowKit
attribute [local go_sem] Zi
