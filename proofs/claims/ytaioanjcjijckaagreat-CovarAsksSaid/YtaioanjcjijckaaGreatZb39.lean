/- Package linear: eliminate. -/
import Derived.ScopeJumps
import Derived.WalkMore
import Derived.Test.YtaioanjcjijckaaGreatZb38
set_option linter.unusedSimpArgs false
set_option linter.unusedVariables false
namespace Go.Proofs.YtaioanjcjijckaaGreat
open Go.RowKit
attribute [local go_sem] Zf
end Go.Proofs.YtaioanjcjijckaaGreat
