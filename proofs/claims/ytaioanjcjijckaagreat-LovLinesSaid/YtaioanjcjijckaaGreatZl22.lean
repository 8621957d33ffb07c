/- Package frac: Add of small fractions. -/
import Derived.Test.YtaioanjcjijckaaGreatZl17
set_option linter.unusedSimpArgs false
set_option linter.unusedVariables false
namespace Go.Proofs.YtaioanjcjijckaaGreat
open Go.RowKit
attribute [local go_sem] Zg
end Go.Proofs.YtaioanjcjijckaaGreat
