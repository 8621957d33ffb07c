/- The reference of linear: Rank, Posdef. The reference of -/
import Derived.Test.YtaioanjcjijckaaGreatZb34
import Derived.Test.YtaioanjcjijckaaGreatZb36
set_option linter.unusedSimpArgs false
set_option linter.unusedVariables false
namespace Go.Proofs.YtaioanjcjijckaaGreat
open Go.RowKit
attribute [local go_sem] Zf
section
variable {w:World} {A:Option Addr} {n c:Nat} {rs:List RX}
end
structure RZ where
 g:Nat
 q:List Int
section
variable {tS tF:TypeId} {w w':World} {go:Nat} {L:List RZ}
end
end Go.Proofs.YtaioanjcjijckaaGreat
