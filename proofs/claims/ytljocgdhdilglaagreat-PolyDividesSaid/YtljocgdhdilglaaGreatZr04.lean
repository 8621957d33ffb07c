/- Package wide: check, Check. -/
import Derived.Deep.RegionHeld3
import Derived.Test.YtljocgdhdilglaaGreatZr02
import Derived.Test.YtljocgdhdilglaaGreatZr03
import Derived.Test.YtljocgdhdilglaaGreatZr01
set_option linter.unusedSimpArgs false
set_option linter.unusedVariables false

namespace Go.Proofs.YtljocgdhdilglaaGreat
open Go.RowKit
attribute [local go_sem] add_lit

def errOf (b : Bool) : Int := if b then 0 else 8

set_option maxRecDepth 100000 in
set_option maxHeartbeats 1000000 in
theorem check_any (A : Option Addr) (n c : Nat) (es : List WE) (w : World) (h : WL w A n c es) :
    Calls Tryz.prog 80 #[.slice A n c] w fun e w' => e = .returned (.int .i64 (errOf (es.all WE.ok))) ∧ Below w.heap.size w w' := by
  have hnc := h.2.1
  have hcm := h.2.2.1
  unfold maxLen at hcm
  go_enter Tryz.func80, Tryz.ntmps80
  go_wp2
  go_loopw [8] (fun v wr => ∃ k : Nat, k ≤ n ∧ v = .int .i64 k ∧ Hid (∀ e ∈ es.take k, e.ok = true) ∧ Below w.heap.size w wr) (fun v _ => n - (intOf v).toNat)
  case atStart => exact ⟨0, Nat.zero_le _, rfl, by unfold Hid; simp, Below.refl _ _⟩
  case round =>
    obtain ⟨k, hk, rfl, ho, hB⟩ := hrel
    by_cases hk0 : k < n
    · obtain ⟨b, o, e, rfl, he, hc1, hc2, hL⟩ := (h.below hB).at_ hk0
      have hle := hL.2.1
      have hem := hL.2.2.1
      unfold maxLen at hem
      have HE := hide he
      have HLen := hide hL.len
      have hgood : Hid (e.ok = true → ∀ x ∈ es.take (k + 1), x.ok = true) := fun hok x hx => by
        rw [List.take_add_one, HE.out] at hx
        rcases List.mem_append.1 hx with hx | hx
        · exact ho.out x hx
        · simp at hx; subst hx; exact hok
      have hbad : Hid (e.ok = false → Ending.returned (.int .i64 8) = .returned (.int .i64 (errOf (es.all WE.ok)))) := fun hok => by
        have : es.all WE.ok = false := by
          rw [List.all_eq_false]
          exact ⟨e, List.mem_of_getElem? HE.out, by simp [hok]⟩
        rw [this]; rfl
      obtain ⟨neg, A1, n1, c1, l1⟩ := e
      dsimp only at hc1 hc2 hL hle hem HLen
      clear he
      by_cases t1 : n1 ≤ 4096
      · by_cases t2 : 0 < n1
        · obtain ⟨b1, o1, rfl, hx⟩ := hL.at_ (k := n1 - 1) (by omega)
          have hb1 := lt_of_cell hx
          by_cases t3 : l1[n1 - 1]?.getD 0 = 0
          · have hx3 : (((l1[n1-1]?.getD 0 : Nat) : Int) == 0) = true := by simp [t3]
            have H8 := hide (hbad.out (okW_last (by rw [HLen.out]; exact t2) (by rw [HLen.out]; exact t3)))
            clear t3 hL
            go_wp2
            go_ret
            exact ⟨H8.out, hB.alloc hB.size _⟩
          · have hx3 : (((l1[n1-1]?.getD 0 : Nat) : Int) == 0) = false := by simpa using t3
            have HG := hide (hgood.out (okW_ok (by rw [HLen.out]; exact t2) (by rw [HLen.out]; exact t1) (by rw [HLen.out]; exact t3)))
            have hd1 : ((n1 : Int) == 0) = false := by simp; omega
            clear t3 hL
            cases neg
            all_goals
              go_wp2
              go_roundw
              case rel => exact ⟨k + 1, by omega, by go_num, HG, hB.alloc hB.size _⟩
              case measure => simp [intOf]; omega
        · obtain rfl : n1 = 0 := by omega
          cases neg
          · have HG := hide (hgood.out (by unfold WE.ok; rw [okW_nil HLen.out]; rfl))
            clear hL
            go_wp2
            go_roundw
            case rel => exact ⟨k + 1, by omega, by go_num, HG, hB.alloc hB.size _⟩
            case measure => simp [intOf]; omega
          · have H8 := hide (hbad.out (by unfold WE.ok; rw [okW_nil HLen.out]; rfl))
            clear hL
            go_wp2
            go_ret
            exact ⟨H8.out, hB.alloc hB.size _⟩
      · have H8 := hide (hbad.out (okW_big (by rw [HLen.out]; omega)))
        clear hL
        go_wp2
        go_ret
        exact ⟨H8.out, hB.alloc hB.size _⟩
    · obtain rfl : k = n := by omega
      have HA : Hid (es.all WE.ok = true) := by
        unfold Hid
        rw [List.all_eq_true]
        have := ho.out
        rw [List.take_of_length_le (by rw [h.len]; exact Nat.le_refl _)] at this
        exact this
      go_wp2
      go_ret
      exact ⟨by rw [HA.out]; rfl, hB⟩

theorem check_ok {A : Option Addr} {n c : Nat} {es : List WE} {w : World} (h : WL w A n c es) (hk : es.all WE.ok = true) :
    Calls Tryz.prog 80 #[.slice A n c] w fun e w' => e = .returned (.int .i64 0) ∧ Below w.heap.size w w' :=
  (check_any A n c es w h).mono fun _ _ ⟨he, hb⟩ => ⟨by rw [he, hk]; rfl, hb⟩
theorem check_bad {A : Option Addr} {n c : Nat} {es : List WE} {w : World} (h : WL w A n c es) (hk : es.all WE.ok = false) :
    Calls Tryz.prog 80 #[.slice A n c] w fun e w' => e = .returned (.int .i64 8) ∧ Below w.heap.size w w' :=
  (check_any A n c es w h).mono fun _ _ ⟨he, hb⟩ => ⟨by rw [he, hk]; rfl, hb⟩

set_option maxHeartbeats 400000 in
theorem Check_any (neg : Bool) (A : Option Addr) (n c : Nat) (l : List Nat) (w : World) (h : Lim w A n c l) :
    Calls Tryz.prog 59 #[.agg #[.bool neg, .slice A n c]] w fun e w' => e = .returned (.int .i64 (errOf (okW neg l))) ∧ Below w.heap.size w w' := by
  have hW : ∀ X t, WL ((w.alloc X).alloc (.cells #[.bool neg, .slice A n c] t)) (some ⟨w.heap.size + 1, 0, none⟩) 1 1 [⟨neg, A, n, c, l⟩] := fun X t => by
    have := WL.one (neg := neg) (h.alloc X) t
    rw [World.size_alloc] at this; exact this
  have hW := hide hW
  go_enter Tryz.func59, Tryz.ntmps59
  go_wp2_with (go_at_call 80; refine (check_any _ _ _ _ _ (hW.out _ _)).mono ?_; rintro e w1 ⟨rfl, hb⟩)
  go_ret
  exact ⟨by simp [WE.ok], ((Below.refl _ _).alloc (Nat.le_refl _) _).alloc (by simp) _ |>.trans (hb.mono (by simp; omega))⟩

theorem cmp_ge {va vb : Nat} : (0 ≤ cmpL (digits va) (digits vb)) ↔ vb ≤ va := by
  unfold cmpL
  rw [val_digits, val_digits]
  split
  · rename_i h
    have := (length_digits_le va ((digits vb).length - 1)).1 (by omega)
    have h2 := pw_le_of_digits (n := vb) (k := (digits vb).length - 1) (by omega)
    constructor <;> intro <;> omega
  · split
    · rename_i h
      have := (length_digits_le vb ((digits va).length - 1)).1 (by omega)
      have h2 := pw_le_of_digits (n := va) (k := (digits va).length - 1) (by omega)
      constructor <;> intro <;> omega
    · split
      · constructor <;> intro <;> omega
      · split <;> constructor <;> intro <;> omega

theorem sg_add_same (s : Bool) (a b : Nat) : sg s (a + b) = sg s a + sg s b := by unfold sg; split <;> omega
theorem sg_add_diff {s t : Bool} (h : s ≠ t) {a b d : Nat} (hd : d + b = a) : sg s d = sg s a + sg t b := by
  cases s <;> cases t <;> simp_all [sg] <;> omega

theorem ResW.of {w0 w : World} {z z' : Int} {e : Ending} {w' : World} (h : ResW w z e w') (hb : Below w0.heap.size w0 w) (hz : z = z') : ResW w0 z' e w' :=
  ⟨hb.trans (h.1.mono hb.size), by subst hz; exact h.2⟩

end Go.Proofs.YtljocgdhdilglaaGreat
