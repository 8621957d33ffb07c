/- Package linear: Rank. -/
import Derived.Test.YtigdclhagmnopaaGreatZl42
set_option linter.unusedSimpArgs false
set_option linter.unusedVariables false
namespace Go.Proofs.YtigdclhagmnopaaGreat
open Go.RowKit
attribute [local go_sem] Zi
def Zft (Q : List (List Rat)) (n m : Nat) : Prop := (∀ i k, i < n -> k <= m -> denTo (Q[i]?.getD []) k < pw 1000) /\ ∀ i j, (Zl Q i j).num.natAbs < pw 1000
end Go.Proofs.YtigdclhagmnopaaGreat
