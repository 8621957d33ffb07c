/- Package linear: back. -/
import Derived.Test.YtaioanjcjijckaaGreatZb45
set_option linter.unusedSimpArgs false
set_option linter.unusedVariables false
namespace Go.Proofs.YtaioanjcjijckaaGreat
open Go.RowKit Go.Shelf
attribute [local go_sem] Zf
attribute [local go_sem] Oper.semAt_some
end Go.Proofs.YtaioanjcjijckaaGreat
