/- Package frac: Cmp of small fractions. Package linear: Posdef. -/
import Derived.Test.YtigdclhagmnopaaGreatZl44
set_option linter.unusedSimpArgs false
set_option linter.unusedVariables false
namespace Go.Proofs.YtigdclhagmnopaaGreat
open Go.RowKit
attribute [local go_sem] Zi
def GoodD (Q : List (List Rat)) (n : Nat) : Prop := okZ (pw 200) n n 0 0 (Zo Q) 1 /\ Zft Q n n /\ (∀ k, k <= n -> byZ Q k < pw 4096) /\ (Zeh Q).natAbs < pw 4096 /\ Rat.divInt (Zeh Q) (byZ Q n) = Zg4 Q
end Go.Proofs.YtigdclhagmnopaaGreat
