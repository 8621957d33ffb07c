/- Reference of centroid: mean. -/
import Derived.Test.YtkippclhbkjbmaaZn38
import Derived.Test.YtkippclhbkjbmaaZn27
set_option linter.unusedSimpArgs false
set_option linter.unusedVariables false

namespace Go.Proofs.Ytkippclhbkjbmaa
open Go.RowKit
attribute [local go_sem] add_lit

def pl (row : Bool) (W : Int) (ps : List Int) (i : Int) : Int := plc row W i * pix ps i
theorem plc_bound {row : Bool} {W H i : Int} {n : Nat} (h : 1 ≤ W ∧ W ≤ 100 ∧ 1 ≤ H ∧ H ≤ 100 ∧ (n : Int) = W * H) (h0 : 0 ≤ i) (h1 : i < n) : 0 ≤ plc row W i ∧ plc row W i ≤ 99 := by
  cases row
  · exact colv_bound h h0 h1
  · exact rowv_bound h h0 h1
theorem mul_rng {p x : Int} (h0 : 0 ≤ p) (h1 : p ≤ 99) (a : -8589934592 ≤ x) (b : x ≤ 8589934592) : -(99 * 8589934592) ≤ p * x ∧ p * x ≤ 99 * 8589934592 := by
  have e1 : (p * x).natAbs ≤ 99 * 8589934592 := by
    rw [Int.natAbs_mul]; exact Nat.mul_le_mul (by omega) (by omega)
  omega
theorem Rng.pl {W H : Int} {ps l : List Int} {n m k : Nat} (row : Bool) (hf : 1 ≤ W ∧ W ≤ 100 ∧ 1 ≤ H ∧ H ≤ 100 ∧ (n : Int) = W * H) (h : Rng ps l n m) (hk : k ≤ m) : -(99 * 8589934592 * (k : Int)) ≤ sumK (pl row W ps) l k ∧ sumK (pl row W ps) l k ≤ 99 * 8589934592 * (k : Int) := by
  induction k with
  | zero => simp [sumK]
  | succ k ih =>
    have h1 := ih (by omega)
    have h2 := h k (by omega)
    have h3 := plc_bound (row := row) hf h2.1 h2.2.1
    have h4 := mul_rng h3.1 h3.2 h2.2.2.1 h2.2.2.2
    simp only [sumK, Go.Proofs.Ytkippclhbkjbmaa.pl]
    omega

end Go.Proofs.Ytkippclhbkjbmaa
