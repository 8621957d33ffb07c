/- Lists of pixels: reference (Listed, Start, place, sum) and package centroid (start, column, row). -/
import Derived.Test.YtkippclhbkjbmaaGreatZm40
set_option linter.unusedSimpArgs false
set_option linter.unusedVariables false

namespace Go.Proofs.YtkippclhbkjbmaaGreat
open Go.RowKit
attribute [local go_sem] add_lit


set_option maxRecDepth 100000 in
set_option maxHeartbeats 2000000 in
theorem rListed_ok (W H : Int) (A : Option Addr) (n c : Nat) (B : Option Addr) (m d : Nat) (l : List Int) (w : World) (hl : LimI w B m d l) (h9 : n ≤ 1000000000) (h8 : m ≤ 1000000000) (b : Bool) (hb : listed l n = b) :
    Calls Tryz.prog 55 #[.agg #[.int .i64 W, .int .i64 H, .slice A n c], .slice B m d] w fun e w' => e = .returned (.bool b) ∧ Below w.heap.size w w' := by
  obtain ⟨W0, hW0, hB0, q0, s0⟩ := alloc1 w 24 #[.int .i64 W, .int .i64 H, .slice A n c]
  have c2 := q0.cell 2
  simp at c2
  replace hl := hide (hl.below hB0)
  replace hb := hide hb
  have hlm : l.length = m := hl.out.lenI
  go_enter Tryz.func55, Tryz.ntmps55
  go_wp2_with fail
  clear hW0
  go_loopw [5] (fun i wr => ∃ k : Nat, k ≤ m ∧ i = .int .i64 k ∧ Hid (listedTo l n k = true) ∧ ∃ m0, wr = W0.drewN m0) (fun i _ => m - (intOf i).toNat)
  case atStart => exact ⟨0, by omega, rfl, hide rfl, 0, rfl⟩
  case round =>
    obtain ⟨k, h1, rfl, heq, m0, rfl⟩ := hrel
    by_cases hk : k < m
    case neg =>
      obtain rfl : k = m := by omega
      have htk : decide ((k : Int) < (k : Int)) = false := by simp
      have hb0 : b = decide (0 < k) := by rw [← hb.out]; unfold listed; rw [hlm, heq.out]; simp
      subst hb0
      have hpos : decide ((0 : Int) < (k : Int)) = decide (0 < k) := by simp
      go_wp2_with fail
      go_ret
      exact ⟨by simp [hpos], (by first | exact hB0 | exact below_dn hB0 _ | exact below_dn (below_dn hB0 _) _)⟩
    have htk : decide ((k : Int) < (m : Int)) = true := by simp; omega
    obtain ⟨g, o, rfl, hc⟩ := hl.out.2.2.2.2 (by omega)
    have hck := hc k hk
    obtain ⟨x, hx⟩ : ∃ x, l[k]?.getD 0 = x := ⟨_, rfl⟩
    rw [hx] at hck
    by_cases f1 : x < 0
    · have v1 : decide (x < 0) = true := by simpa using f1
      have hbad : badAt l n k = true := badAt_true.2 (by omega)
      clear hc hx
      have hb0 : b = false := by rw [← hb.out]; unfold listed; rw [listedTo_bad (k := k) (by omega) hbad]; simp
      subst hb0
      clear hb heq hbad
      go_wp2_with fail
      go_quiet (fail)
      go_wp2_with fail
      go_ret
      exact ⟨rfl, (by first | exact hB0 | exact below_dn hB0 _ | exact below_dn (below_dn hB0 _) _)⟩
    have v1 : decide (x < 0) = false := by simpa using f1
    by_cases f2 : (n : Int) ≤ x
    · have v2 : decide ((n : Int) ≤ x) = true := by simpa using f2
      have hbad : badAt l n k = true := badAt_true.2 (by omega)
      clear hc hx
      have hb0 : b = false := by rw [← hb.out]; unfold listed; rw [listedTo_bad (k := k) (by omega) hbad]; simp
      subst hb0
      clear hb heq hbad
      go_wp2_with fail
      go_quiet (fail)
      go_wp2_with fail
      go_ret
      exact ⟨rfl, (by first | exact hB0 | exact below_dn hB0 _ | exact below_dn (below_dn hB0 _) _)⟩
    have v2 : decide ((n : Int) ≤ x) = false := by simpa using f2
    rcases Nat.eq_zero_or_pos k with k0 | k0
    · subst k0
      simp only [Nat.add_zero] at hck
      have htk' : decide ((0 : Int) < (m : Int)) = true := decide_eq_true (by omega)
      have hgood : badAt l n 0 = false := by rw [Bool.eq_false_iff]; intro e; have := badAt_true.1 e; omega
      clear hc hx
      replace hgood := hide hgood
      go_wp2_with fail
      go_quiet (fail)
      go_wp2_with fail
      go_round
      case rel => exact ⟨0 + 1, by omega, by go_num, hide (by first | (show (listedTo l n 0 && !badAt l n 0) = true; rw [heq.out, hgood.out]; rfl) | (show (listedTo l n (j + 1) && !badAt l n (j + 1)) = true; rw [heq.out, hgood.out]; rfl)), _, (by first | rfl | exact World.drewN_drewN _ _ _)⟩
      case measure => simp [intOf]; omega
    obtain ⟨j, rfl⟩ : ∃ j, k = j + 1 := ⟨k - 1, by omega⟩
    have v3 : decide ((0 : Int) < ((j + 1 : Nat) : Int)) = true := decide_eq_true (by omega)
    have hcj := hc j (by omega)
    have hz : wrap64 (((j + 1 : Nat) : Int) - 1) = (j : Int) := by unfold wrap64; omega
    obtain ⟨y, hy⟩ : ∃ y, l[j]?.getD 0 = y := ⟨_, rfl⟩
    rw [hy] at hcj
    by_cases f3 : x ≤ y
    · have v4 : decide (x ≤ y) = true := by simpa using f3
      have hbad : badAt l n (j + 1) = true := badAt_true.2 (by rw [Nat.add_sub_cancel]; omega)
      clear hc hx hy
      have hb0 : b = false := by rw [← hb.out]; unfold listed; rw [listedTo_bad (k := j + 1) (by omega) hbad]; simp
      subst hb0
      clear hb heq hbad
      go_wp2_with fail
      go_quiet (fail)
      go_wp2_with fail
      go_ret
      exact ⟨rfl, (by first | exact hB0 | exact below_dn hB0 _ | exact below_dn (below_dn hB0 _) _)⟩
    have v4 : decide (x ≤ y) = false := by simpa using f3
    have hgood : badAt l n (j + 1) = false := by rw [Bool.eq_false_iff]; intro e; have := badAt_true.1 e; rw [Nat.add_sub_cancel] at this; omega
    clear hc hx hy
    replace hgood := hide hgood
    go_wp2_with fail
    go_quiet (fail)
    go_wp2_with fail
    go_round
    case rel => exact ⟨(j + 1) + 1, by omega, by go_num, hide (by first | (show (listedTo l n 0 && !badAt l n 0) = true; rw [heq.out, hgood.out]; rfl) | (show (listedTo l n (j + 1) && !badAt l n (j + 1)) = true; rw [heq.out, hgood.out]; rfl)), _, (by first | rfl | exact World.drewN_drewN _ _ _)⟩
    case measure => simp [intOf]; omega
end Go.Proofs.YtkippclhbkjbmaaGreat
