/- Package linear: Rank. -/
import Derived.Test.YtigdclhagmnopaaGreatZm39
import Derived.Test.YtigdclhagmnopaaGreatZm34
set_option linter.unusedSimpArgs false
set_option linter.unusedVariables false
namespace Go.Proofs.YtigdclhagmnopaaGreat
open Go.RowKit
attribute [local go_sem] Zh
def Znx (Q : List (List Rat)) (n m : Nat) : Prop := (∀ i k, i < n -> k <= m -> Zas (Q[i]?.getD []) k < pw 1000) /\ ∀ i j, (Zo Q i j).num.natAbs < pw 1000
end Go.Proofs.YtigdclhagmnopaaGreat
