/- Package frac: Cmp of small fractions. Package linear: -/
import Derived.Test.YtigdclhagmnopaaGreatZm42
set_option linter.unusedSimpArgs false
set_option linter.unusedVariables false
namespace Go.Proofs.YtigdclhagmnopaaGreat
open Go.RowKit
attribute [local go_sem] Zh
theorem Zj3 {C C' m : Nat} (hC : C <= C') : ∀ (f c r : Nat) (Z : List (List Int)) (la : Int), okZ C m f c r Z la -> okZ C' m f c r Z la
 | 0, _, _, _, _, h => ⟨⟨h.1.1, fun i j => Nat.lt_of_lt_of_le (h.1.2 i j) hC⟩, h.2.1, Nat.lt_of_lt_of_le h.2.2 hC⟩
 | f + 1, _, _, _, _, h => ⟨⟨h.1.1, fun i j => Nat.lt_of_lt_of_le (h.1.2 i j) hC⟩, ⟨h.2.1.1, Nat.lt_of_lt_of_le h.2.1.2 hC⟩, h.2.2.imp id (fun ⟨h1, h2⟩ => ⟨fun e => Zj3 hC f _ _ _ _ (h1 e), fun e => Zj3 hC f _ _ _ _ (h2 e)⟩)⟩
theorem le_pw1 {n : Nat} (h : n <= 900) : n <= pw 1 := by rw [Zbd, Zd3]; omega
theorem Zm5 {b : Nat} : ∀ n, n <= 900 -> Za7 (pw b) n <= pw ((b + 1) * n)
 | 0, _ => Nat.le_refl _
 | n + 1, h => by
  have h1 := Zm5 (b := b) n (by omega)
  have h2 : (n + 1) * (pw b * Za7 (pw b) n) <= pw 1 * (pw b * pw ((b + 1) * n)) := Nat.mul_le_mul (le_pw1 h) (Nat.mul_le_mul (Nat.le_refl _) h1)
  rw [<- Ziq, <- Ziq] at h2
  rw [show (b + 1) * (n + 1) = 1 + (b + (b + 1) * n) by rw [Nat.mul_succ]; omega]
  exact h2
section
variable {k n m : Nat} {Q : List (List Rat)}
end
section
variable {A : Option Addr} {n c : Nat} {rs : List RX} {w : World}
end
end Go.Proofs.YtigdclhagmnopaaGreat
