/- The reference of layer 1: made, compare, Same. -/
import Derived.Test.YtljocgdhdilglaaGreatZr05
import Derived.Test.YtljocgdhdilglaaGreatZr06
set_option linter.unusedSimpArgs false
set_option linter.unusedVariables false

namespace Go.Proofs.YtljocgdhdilglaaGreat
open Go.RowKit
attribute [local go_sem] add_lit

set_option maxRecDepth 100000 in
set_option maxHeartbeats 1000000 in
theorem rmade_any (neg : Bool) (A : Option Addr) (n c : Nat) (l : List Nat) (w : World) (h : Lim w A n c l) (hn9 : n ≤ 1000000000) :
    Calls Tryz.prog 57 #[.bool neg, .slice A n c] w (ResW w (sg neg (val l))) := by
  have HI := hide (length_digits_le (val l) 4096)
  have HP := hide (@length_digits_pos (val l))
  go_enter Tryz.func57, Tryz.ntmps57
  go_wp2_with fail
  refine (rtrim_any _ _ _ _ _ (h.alloc _) hn9).mono ?_
  rintro e w1 ⟨A1, n1, c1, l1, rfl, hL, hl1, hb1⟩
  subst hl1
  have hlen := hide hL.len
  have hnc := hL.2.1
  have hcm := hL.2.2.1
  unfold maxLen at hcm
  have hb0 := Blk.new w 25 #[.bool false, .slice none 0 0]
  have m7 := keep_blk hb1 hb0
  have hB1 : Below w.heap.size w w1 := ((Below.refl w.heap.size w).alloc (Nat.le_refl _) _).trans (hb1.mono (by simp))
  have m3 := m7.cell 0
  have m4 := m7.cell 1
  have m5 := m7.frozen 0
  have m6 := m7.frozen 1
  simp at m3 m4
  have HM := hide m7
  clear m7 hb0
  by_cases h1 : n1 ≤ 4096
  · by_cases h2 : 0 < n1
    · have hd : decide (0 < n1) = true := by simpa using h2
      cases neg
      · go_wp2_with fail
        refine bodyPost_ret (v := .tuple #[.agg #[.bool false, .slice A1 n1 c1], .int .i64 0]) (by simp [results, Tryz.results57, go_sem, m3, m4]) rfl ?_
        refine ResW.box (.inl ⟨?_, rfl, ?_, h1, ?_⟩) hB1 (Nat.le_refl _) HM.out
        · rw [sg_natAbs]; exact HI.out.1 (by rw [hlen.out]; exact h1)
        · rw [sg_neg]; rfl
        · rw [sg_natAbs]; exact hL
      · go_wp2_with fail
        refine bodyPost_ret (v := .tuple #[.agg #[.bool true, .slice A1 n1 c1], .int .i64 0]) (by simp [results, Tryz.results57, go_sem, m3, m4]) rfl ?_
        refine ResW.box (.inl ⟨?_, rfl, ?_, h1, ?_⟩) hB1 (Nat.le_refl _) HM.out
        · rw [sg_natAbs]; exact HI.out.1 (by rw [hlen.out]; exact h1)
        · rw [sg_neg]; have := HP.out.1 (by rw [hlen.out]; exact h2); simp [this]
        · rw [sg_natAbs]; exact hL
    · obtain rfl : n1 = 0 := by omega
      cases neg
      all_goals
        go_wp2_with fail
        refine bodyPost_ret (v := .tuple #[.agg #[.bool false, .slice A1 0 c1], .int .i64 0]) (by simp [results, Tryz.results57, go_sem, m3, m4]) rfl ?_
        refine ResW.box (.inl ⟨?_, rfl, ?_, h1, ?_⟩) hB1 (Nat.le_refl _) HM.out
        · rw [sg_natAbs]; exact HI.out.1 (by rw [hlen.out]; exact h1)
        · rw [sg_neg]
          have : ¬ 0 < val l := fun hh => by have := HP.out.2 hh; rw [hlen.out] at this; omega
          simp [this]
        · rw [sg_natAbs]; exact hL
  · have hp : pw 4096 ≤ val l := by
      rcases Nat.lt_or_ge (val l) (pw 4096) with h' | h'
      · have := HI.out.2 h'; rw [hlen.out] at this; exact absurd this h1
      · exact h'
    have HPW := hide hp
    clear hp
    go_wp2_with fail
    refine bodyPost_ret (v := .tuple #[.agg #[.bool false, .slice none 0 0], .int .i64 16]) (by simp [results, Tryz.results57, go_sem, m3, m4]) rfl ?_
    exact ResW.box (.inr ⟨by rw [sg_natAbs]; exact HPW.out, rfl, rfl, rfl, rfl, rfl⟩) hB1 (Nat.le_refl _) HM.out

set_option maxRecDepth 100000 in
set_option maxHeartbeats 2000000 in
theorem rcompare_any (A B : Option Addr) (n c m d : Nat) (a b : List Nat) (w : World) (ha : Lim w A n c a) (hb : Lim w B m d b) :
    Calls Tryz.prog 63 #[.slice A n c, .slice B m d] w fun e w' => e = .returned (.int .i64 (cmpL a b)) ∧ Below w.heap.size w w' := by
  have hnc := ha.2.1
  have hmd := hb.2.1
  have hcm := ha.2.2.1
  have hdm := hb.2.2.1
  unfold maxLen at hcm hdm
  by_cases h1 : n < m
  · have hne : (((n : Nat) : Int) != m) = true := by simp; omega
    have hd : decide (n < m) = true := by simpa using h1
    have hr : cmpL a b = -1 := by unfold cmpL; rw [ha.len, hb.len, if_pos h1]
    rw [hr]
    go_enter Tryz.func63, Tryz.ntmps63
    go_wp2
    go_ret
    exact ⟨rfl, Below.refl _ _⟩
  by_cases h2 : m < n
  · have hne : (((n : Nat) : Int) != m) = true := by simp; omega
    have hd : decide (n < m) = false := by simpa using h1
    have hr : cmpL a b = 1 := by unfold cmpL; rw [ha.len, hb.len, if_neg h1, if_pos h2]
    rw [hr]
    go_enter Tryz.func63, Tryz.ntmps63
    go_wp2
    go_ret
    exact ⟨rfl, Below.refl _ _⟩
  obtain rfl : n = m := by omega
  have hne : (((n : Nat) : Int) != n) = false := by simp
  go_enter Tryz.func63, Tryz.ntmps63
  go_wp2
  go_loopw [5] (fun iv wr => ∃ k : Nat, k ≤ n ∧ iv = .int .i64 ((n : Int) - 1 - k) ∧ Hid (∀ j, n - k ≤ j → j < n → a[j]?.getD 0 = b[j]?.getD 0) ∧ Below w.heap.size w wr) (fun iv _ => (intOf iv + 1).toNat)
  case atStart => exact ⟨0, Nat.zero_le _, by go_num, fun j h h' => by omega, Below.refl _ _⟩
  case round =>
    obtain ⟨k, hk, rfl, he, hB⟩ := hrel
    by_cases hlt : k < n
    · obtain ⟨ba, oa, rfl, hca⟩ := (ha.below hB).at_ (k := n - 1 - k) (by omega)
      obtain ⟨bb, ob, rfl, hcb⟩ := (hb.below hB).at_ (k := n - 1 - k) (by omega)
      have hla := hide ha.len
      have hlb := hide hb.len
      by_cases t1 : a[n - 1 - k]?.getD 0 < b[n - 1 - k]?.getD 0
      · have hd1 : decide (a[n - 1 - k]?.getD 0 < b[n - 1 - k]?.getD 0) = true := by simpa using t1
        have HR : Hid (cmpL a b = -1) := by
          have := part_lt ha.len hb.len ha.lt (by omega) (fun j h h' => he.out j (by omega) h') t1
          unfold Hid cmpL; rw [ha.len, hb.len]; simp [this]
        go_wp2
        go_quiet (fail)
        go_wp2
        go_ret
        exact ⟨ret_int HR.out.symm, (by first | exact below_dn hB _ | exact below_dn (below_dn hB _) _)⟩
      · have hd1 : decide (a[n - 1 - k]?.getD 0 < b[n - 1 - k]?.getD 0) = false := by simpa using t1
        by_cases t2 : b[n - 1 - k]?.getD 0 < a[n - 1 - k]?.getD 0
        · have hd2 : decide (b[n - 1 - k]?.getD 0 < a[n - 1 - k]?.getD 0) = true := by simpa using t2
          have HR : Hid (cmpL a b = 1) := by
            have := part_lt hb.len ha.len hb.lt (by omega) (fun j h h' => (he.out j (by omega) h').symm) t2
            unfold Hid cmpL; rw [ha.len, hb.len]; simp [this]; omega
          go_wp2
          go_quiet (fail)
          go_wp2
          go_quiet (fail)
          go_wp2
          go_ret
          exact ⟨ret_int HR.out.symm, (by first | exact below_dn hB _ | exact below_dn (below_dn hB _) _)⟩
        · have hd2 : decide (b[n - 1 - k]?.getD 0 < a[n - 1 - k]?.getD 0) = false := by simpa using t2
          have HE : Hid (∀ j, n - (k + 1) ≤ j → j < n → a[j]?.getD 0 = b[j]?.getD 0) := fun j h h' => by
            rcases Nat.lt_or_ge j (n - k) with h3 | h3
            · obtain rfl : j = n - 1 - k := by omega
              omega
            · exact he.out j h3 h'
          go_wp2
          go_quiet (fail)
          go_wp2
          go_quiet (fail)
          go_wp2
          go_roundw
          case rel => exact ⟨k + 1, by omega, by go_num, HE, (by first | exact below_dn hB _ | exact below_dn (below_dn hB _) _)⟩
          case measure => simp [intOf]; omega
    · obtain rfl : k = n := by omega
      have HR : Hid (cmpL a b = 0) := by
        have := eq_all ha.len hb.len (fun j hj => he.out j (by omega) hj)
        unfold Hid; rw [this, cmpL_self]
      go_wp2
      go_ret
      exact ⟨ret_int HR.out.symm, hB⟩

/-- Two numbers, limb by limb. -/
def sameB (na nb : Bool) (a b : List Nat) : Bool := (na == nb) && (cmpL a b == 0)

set_option maxRecDepth 100000 in
set_option maxHeartbeats 1000000 in
theorem rSame_any (na nb : Bool) (A B : Option Addr) (n c m d : Nat) (a b : List Nat) (w : World) (ha : Lim w A n c a) (hb : Lim w B m d b) :
    Calls Tryz.prog 34 #[.agg #[.bool na, .slice A n c], .agg #[.bool nb, .slice B m d]] w fun e w' => e = .returned (.bool (sameB na nb a b)) ∧ Below w.heap.size w w' := by
  by_cases h : na = nb
  · subst h
    have hs : sameB na na a b = (cmpL a b == 0) := by simp [sameB]
    rw [hs]
    generalize hx : cmpL a b = x at *
    have HX := hide hx
    clear hx hs
    go_enter Tryz.func34, Tryz.ntmps34
    go_wp2_with (go_at_call 63; refine (rcompare_any _ _ _ _ _ _ _ _ _ ((ha.alloc _).alloc _) ((hb.alloc _).alloc _)).mono ?_; rintro e w1 ⟨he, hb1⟩; rw [HX.out] at he; subst he)
    go_ret
    exact ⟨rfl, (((Below.refl w.heap.size w).alloc (Nat.le_refl _) _).alloc (by simp) _).trans (hb1.mono (by simp; omega))⟩
  · have hne : (na == nb) = false := by simpa using h
    have hs : sameB na nb a b = false := by simp [sameB, hne]
    rw [hs]
    clear hs
    go_enter Tryz.func34, Tryz.ntmps34
    go_wp2
    go_ret
    exact ⟨rfl, ((Below.refl w.heap.size w).alloc (Nat.le_refl _) _).alloc (by simp) _⟩
end Go.Proofs.YtljocgdhdilglaaGreat
