/- Package linear: back, where there is no solution. -/
import Derived.Lib.AppendZeros
import Derived.Test.YtaioanjcjijckaaGreatZb46
set_option linter.unusedSimpArgs false
set_option linter.unusedVariables false
namespace Go.Proofs.YtaioanjcjijckaaGreat
open Go.RowKit Go.Shelf
attribute [local go_sem] Zf
attribute [local go_sem] Oper.semAt_some
open Go.RowKit
end Go.Proofs.YtaioanjcjijckaaGreat
