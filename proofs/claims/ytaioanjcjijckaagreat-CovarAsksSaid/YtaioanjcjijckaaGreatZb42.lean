/- Package linear: Rank. -/
import Derived.Test.YtaioanjcjijckaaGreatZb41
set_option linter.unusedSimpArgs false
set_option linter.unusedVariables false
namespace Go.Proofs.YtaioanjcjijckaaGreat
open Go.RowKit
attribute [local go_sem] Zf
def FineM (Q:List (List Rat)) (n m:Nat):Prop:=(∀ i k,i < n->k <= m->denTo (Q[i]?.getD []) k < pw 1000)/\∀ i j,(Zg Q i j).num.natAbs < pw 1000
end Go.Proofs.YtaioanjcjijckaaGreat
