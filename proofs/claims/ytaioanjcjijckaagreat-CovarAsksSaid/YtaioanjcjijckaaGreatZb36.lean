/- The reference of linear: Check, square. -/
import Derived.Test.YtaioanjcjijckaaGreatZb35
set_option linter.unusedSimpArgs false
set_option linter.unusedVariables false
namespace Go.Proofs.YtaioanjcjijckaaGreat
open Go.RowKit
attribute [local go_sem] Zf
end Go.Proofs.YtaioanjcjijckaaGreat
