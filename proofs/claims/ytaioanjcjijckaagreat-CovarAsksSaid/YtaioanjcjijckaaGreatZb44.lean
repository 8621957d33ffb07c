/- Package linear: Posdef. How great the numbers of the -/
import Derived.RangeFuncNested
import Derived.Test.YtaioanjcjijckaaGreatZb43
import Derived.Test.YtaioanjcjijckaaGreatZb32
set_option linter.unusedSimpArgs false
set_option linter.unusedVariables false
namespace Go.Proofs.YtaioanjcjijckaaGreat
open Go.RowKit
attribute [local go_sem] Zf
section
variable {k n m:Nat} {Q:List (List Rat)}
end
section
variable {A:Option Addr} {n c:Nat} {rs:List RX} {w:World}
end
open Go.RowKit Go.Shelf
attribute [local go_sem] Oper.semAt_some
end Go.Proofs.YtaioanjcjijckaaGreat
