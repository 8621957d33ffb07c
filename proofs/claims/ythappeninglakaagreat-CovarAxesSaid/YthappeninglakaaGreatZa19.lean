/- The reference's System, without a right side. The -/
import Derived.Test.YthappeninglakaaGreatZa18
set_option linter.unusedSimpArgs false
set_option linter.unusedVariables false
namespace Go.Proofs.YthappeninglakaaGreat
open Go.RowKit
attribute [local go_sem] Zi
