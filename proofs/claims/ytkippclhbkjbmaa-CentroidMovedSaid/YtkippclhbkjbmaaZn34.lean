/- Reference of calib and centroid: Great, Same, Check, Listed, Start; package centroid: start, column, row. -/
import Derived.Test.YtkippclhbkjbmaaZn33
set_option linter.unusedSimpArgs false
set_option linter.unusedVariables false

namespace Go.Proofs.Ytkippclhbkjbmaa
open Go.RowKit
attribute [local go_sem] add_lit

theorem LimI.lenI {w : World} {A : Option Addr} {n c : Nat} {l : List Int} (h : LimI w A n c l) : l.length = n := h.1

set_option maxRecDepth 100000 in
set_option maxHeartbeats 1000000 in
theorem rGreat_ok (W H : Int) (A : Option Addr) (n c : Nat) (w : World) (b : Bool) (hb : decide (100 < (n : Int)) = b) :
    Calls Try.prog 46 #[.agg #[.int .i64 W, .int .i64 H, .slice A n c]] w fun e w' => e = .returned (.bool b) ∧ Below w.heap.size w w' := by
  obtain ⟨W0, hW0, hB0, q0, s0⟩ := alloc1 w 24 #[.int .i64 W, .int .i64 H, .slice A n c]
  have c2 := q0.cell 2
  simp at c2
  subst hb
  go_enter Try.func46, Try.ntmps46
  go_wp2_with fail
  go_ret
  exact ⟨rfl, hB0⟩

set_option maxRecDepth 100000 in
set_option maxHeartbeats 2000000 in
theorem rCheck10_ok (W H : Int) (A : Option Addr) (n c : Nat) (l : List Int) (w : World) (h : LimI w A n c l) (h9 : n ≤ 1000000000) (iW : I64 W) (iH : I64 H) (b : Bool) (hb : fieldOk W H n l = b) :
    Calls Try.prog 47 #[.agg #[.int .i64 W, .int .i64 H, .slice A n c]] w fun e w' => e = .returned (.int .i64 (errOf b)) ∧ Below w.heap.size w w' := by
  obtain ⟨W0, hW0, hB0, q0, s0⟩ := alloc1 w 24 #[.int .i64 W, .int .i64 H, .slice A n c]
  have c0 := q0.cell 0
  have c1 := q0.cell 1
  have c2 := q0.cell 2
  simp at c0 c1 c2
  replace h := hide (h.below hB0)
  go_enter Try.func47, Try.ntmps47
  by_cases hs : sizeOk W H n = true
  case neg =>
    rw [Bool.not_eq_true] at hs
    have hb0 : b = false := by rw [← hb]; simp [fieldOk, hs]
    subst hb0
    have hwr : 1 ≤ W → W ≤ 100 → 1 ≤ H → H ≤ 100 → (n : Int) = wrap64 (W * H) → False := fun a1 a2 a3 a4 a5 => by
      have b1 : 0 ≤ W * H := Int.mul_nonneg (by omega) (by omega)
      have b2 : W * H ≤ 100 * 100 := Int.mul_le_mul a2 a4 (by omega) (by omega)
      rw [show wrap64 (W * H) = W * H by unfold wrap64; omega] at a5
      simp [sizeOk, a1, a2, a3, a4, a5] at hs
    by_cases u1 : W < 1
    · have u1' : decide (W < 1) = true := by simpa using u1
      clear hwr hb
      go_wp2_with fail
      go_ret
      exact ⟨rfl, hB0⟩
    have u1' : decide (W < 1) = false := by simpa using u1
    by_cases u2 : 100 < W
    · have u2' : decide (100 < W) = true := by simpa using u2
      clear hwr hb
      go_wp2_with fail
      go_ret
      exact ⟨rfl, hB0⟩
    have u2' : decide (100 < W) = false := by simpa using u2
    by_cases u3 : H < 1
    · have u3' : decide (H < 1) = true := by simpa using u3
      clear hwr hb
      go_wp2_with fail
      go_ret
      exact ⟨rfl, hB0⟩
    have u3' : decide (H < 1) = false := by simpa using u3
    by_cases u4 : 100 < H
    · have u4' : decide (100 < H) = true := by simpa using u4
      clear hwr hb
      go_wp2_with fail
      go_ret
      exact ⟨rfl, hB0⟩
    have u4' : decide (100 < H) = false := by simpa using u4
    have u5' : ((n : Int) == wrap64 (W * H)) = false := by
      rw [Bool.eq_false_iff]; intro e; exact hwr (by omega) (by omega) (by omega) (by omega) (by simpa using e)
    clear hwr hb
    go_wp2_with fail
    go_ret
    exact ⟨rfl, hB0⟩
  have hb2 : okPix l n = b := by rw [← hb]; simp [fieldOk, hs]
  replace hb2 := hide hb2
  obtain ⟨a1, a2, a3, a4, a5⟩ : 1 ≤ W ∧ W ≤ 100 ∧ 1 ≤ H ∧ H ≤ 100 ∧ (n : Int) = W * H := by simpa [sizeOk] using hs
  have b1 : 1 * 1 ≤ W * H := Int.mul_le_mul a1 a3 (by omega) (by omega)
  have b2 : W * H ≤ 100 * 100 := Int.mul_le_mul a2 a4 (by omega) (by omega)
  have u1' : decide (W < 1) = false := by simp; omega
  have u2' : decide (100 < W) = false := by simp; omega
  have u3' : decide (H < 1) = false := by simp; omega
  have u4' : decide (100 < H) = false := by simp; omega
  have t5 : ((n : Int) == wrap64 (W * H)) = true := by rw [show wrap64 (W * H) = W * H by unfold wrap64; omega, a5]; simp
  have hn : 0 < n := by omega
  obtain ⟨g, o, rfl, hc⟩ := h.out.2.2.2.2 hn
  clear a5 b1 b2 hs hb
  go_wp2_with fail
  clear hW0
  clear u1' u2' u3' u4' t5 c0 c1
  go_loop [3] (fun i => ∃ k : Nat, k ≤ n ∧ i = .int .i64 k ∧ Hid (okPix l k = true)) (fun i => n - (intOf i).toNat)
  case atStart => exact ⟨0, by omega, rfl, hide rfl⟩
  case round =>
    obtain ⟨k, h1, rfl, heq⟩ := hrel
    by_cases hk : k < n
    · have htk : decide ((k : Int) < (n : Int)) = true := by simp; omega
      have hck := hc k hk
      obtain ⟨x, hx⟩ : ∃ x, l[k]?.getD 0 = x := ⟨_, rfl⟩
      rw [hx] at hck
      replace hc := hide hc
      by_cases e : inPix x = true
      · have v1 : decide (x < -4294967296) = false := by simp [inPix] at e ⊢; omega
        have v2 : decide (4294967296 < x) = false := by simp [inPix] at e ⊢; omega
        replace hx := hide hx
        replace e := hide e
        go_wp2_with fail
        go_round
        case rel => exact ⟨k + 1, by omega, by go_num, hide (by simp only [okPix, heq.out, hx.out, e.out, Bool.and_self])⟩
        case measure => simp [intOf]; omega
      · rw [Bool.not_eq_true] at e
        have hb0 : b = false := by rw [← hb2.out]; exact okPix_bad hk (by rw [hx]; exact e)
        subst hb0
        by_cases f : x < -4294967296
        · have v1 : decide (x < -4294967296) = true := by simpa using f
          clear hx e heq
          go_wp2_with fail
          go_ret
          exact ⟨rfl, hB0⟩
        · have v1 : decide (x < -4294967296) = false := by simpa using f
          have v2 : decide (4294967296 < x) = true := by simp [inPix] at e ⊢; omega
          clear hx e heq
          go_wp2_with fail
          go_ret
          exact ⟨rfl, hB0⟩
    · obtain rfl : k = n := by omega
      have htk : decide ((k : Int) < (k : Int)) = false := by simp
      have hb0 : b = true := by rw [← hb2.out, heq.out]
      subst hb0
      replace hc := hide hc
      go_wp2_with fail
      go_ret
      exact ⟨rfl, hB0⟩
end Go.Proofs.Ytkippclhbkjbmaa
