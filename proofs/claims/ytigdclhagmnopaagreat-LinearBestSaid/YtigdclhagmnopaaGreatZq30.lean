/- Package linear: Rank. -/
import Derived.Test.YtigdclhagmnopaaGreatZq29
import Derived.Test.YtigdclhagmnopaaGreatZq26
set_option linter.unusedSimpArgs false
set_option linter.unusedVariables false
namespace Go.Proofs.YtigdclhagmnopaaGreat
open Go.RowKit
attribute [local go_sem] Zh
def Zgl (Q:List (List Rat)) (n m:Nat):Prop:=(∀ i k,i < n->k <= m->denTo (Q[i]?.getD []) k < pw 1000)/\∀ i j,(Zn Q i j).num.natAbs < pw 1000
end Go.Proofs.YtigdclhagmnopaaGreat
