/- The reference of layer 1: Check, both, trim, made. -/
import Derived.BigQuiet
import Derived.Deep.QuietTactic
import Derived.Test.YtljocgdhdilglaaGreatZr01
import Derived.Test.YtljocgdhdilglaaGreatZr04
set_option linter.unusedSimpArgs false
set_option linter.unusedVariables false

namespace Go.Proofs.YtljocgdhdilglaaGreat
open Go.RowKit
attribute [local go_sem] add_lit

set_option maxRecDepth 100000 in
set_option maxHeartbeats 1000000 in
theorem rCheck_any (neg : Bool) (A : Option Addr) (n c : Nat) (l : List Nat) (w : World) (h : Lim w A n c l) :
    Calls Tryz.prog 35 #[.agg #[.bool neg, .slice A n c]] w fun e w' => e = .returned (.int .i64 (errOf (okW neg l))) ∧ Below w.heap.size w w' := by
  have hnc := h.2.1
  have hcm := h.2.2.1
  unfold maxLen at hcm
  have HLen := hide h.len
  by_cases t1 : n ≤ 4096
  · by_cases t2 : 0 < n
    · obtain ⟨b1, o1, rfl, hx⟩ := h.at_ (k := n - 1) (by omega)
      have hb1 := lt_of_cell hx
      have hd1 : ((n : Int) == 0) = false := by simp; omega
      by_cases t3 : l[n - 1]?.getD 0 = 0
      · have hx3 : (((l[n-1]?.getD 0 : Nat) : Int) == 0) = true := by simp [t3]
        rw [okW_last (by rw [HLen.out]; exact t2) (by rw [HLen.out]; exact t3)]
        clear t3 h
        go_enter Tryz.func35, Tryz.ntmps35
        go_wp2
        go_ret
        exact ⟨rfl, (Below.refl _ _).alloc (Nat.le_refl _) _⟩
      · have hx3 : (((l[n-1]?.getD 0 : Nat) : Int) == 0) = false := by simpa using t3
        rw [okW_ok (by rw [HLen.out]; exact t2) (by rw [HLen.out]; exact t1) (by rw [HLen.out]; exact t3)]
        clear t3 h
        cases neg
        all_goals
          go_enter Tryz.func35, Tryz.ntmps35
          go_wp2
          go_ret
          exact ⟨rfl, (Below.refl _ _).alloc (Nat.le_refl _) _⟩
    · obtain rfl : n = 0 := by omega
      rw [okW_nil HLen.out]
      clear h
      cases neg
      all_goals
        go_enter Tryz.func35, Tryz.ntmps35
        go_wp2
        go_ret
        exact ⟨rfl, (Below.refl _ _).alloc (Nat.le_refl _) _⟩
  · rw [okW_big (by rw [HLen.out]; omega)]
    clear h
    go_enter Tryz.func35, Tryz.ntmps35
    go_wp2
    go_ret
    exact ⟨rfl, (Below.refl _ _).alloc (Nat.le_refl _) _⟩

set_option maxRecDepth 100000 in
set_option maxHeartbeats 1000000 in
theorem rtrim_any (A : Option Addr) (n c : Nat) (l : List Nat) (w : World) (h : Lim w A n c l) (hn9 : n ≤ 1000000000) :
    Calls Tryz.prog 89 #[.slice A n c] w (OutL w fun l' => l' = digits (val l)) := by
  obtain ⟨i0, hi, hz0, hz1, hz2⟩ := info_parts info32
  have hn := h.2.1
  have hm := h.2.2.1
  unfold maxLen at hm
  go_enter Tryz.func89, Tryz.ntmps89
  go_wp2
  go_loop [3] (fun v => ∃ k : Nat, k ≤ n ∧ v = .int .i64 k ∧ Hid (∀ j, k ≤ j → l[j]?.getD 0 = 0)) (fun v => (intOf v).toNat)
  case atStart => exact ⟨n, Nat.le_refl _, rfl, fun j hj => by rw [List.getElem?_eq_none (by rw [h.len]; exact hj)]; rfl⟩
  case round =>
    obtain ⟨k, hk, rfl, hz⟩ := hrel
    by_cases hk0 : 0 < k
    · obtain ⟨b, o, rfl, hcell⟩ := h.at_ (k := k - 1) (by omega)
      by_cases hx : l[k-1]?.getD 0 = 0
      · have hb : (((l[k-1]?.getD 0 : Nat) : Int) == 0) = true := by simp [hx]
        clear h
        have hx := hide hx
        go_wp2
        go_round
        case rel => exact ⟨k - 1, by omega, by go_num, fun j hj => by
            rcases Nat.lt_or_ge j k with h' | h'
            · obtain rfl : j = k - 1 := by omega
              exact hx.out
            · exact hz.out j h'⟩
        case measure => simp [intOf]; omega
      · have hb : (((l[k-1]?.getD 0 : Nat) : Int) == 0) = false := by simpa using hx
        have HD := hide (canon_take hz.out (Or.inr hx) h.lt)
        clear hx
        go_wp2_with (at_builtin; refine wpList_append_any _ rfl (.tmp 18) (.tmp 21) 23 rfl w.heap.size 52 i0 _ 1 4 Tryz.underlying23 hi hz0 hz1 hz2 rfl (by omega) (.slice (some ⟨w.heap.size, 0, none⟩) 0 0) 0 [] rfl (own_empty _ _ _) _ _ k c ((l.take k).map limb) rfl (by exact ((h.take hk).alloc _).reads) (oneCell_limbs _) (by simp only [maxLen]; omega) (by omega) (by simp) ?_; intro v1 w1 hown1 hg1 hat1)
        go_ret
        exact OutL.of_append hown1 (by rw [List.length_take, h.len]; omega) (h.lt.take _) ((Below.refl _ _).alloc (Nat.le_refl _) _) hg1 (fun j hj => by simp [Value.ownBlock] at hj; omega) HD.out.symm
    · obtain rfl : k = 0 := by omega
      have HD := hide (canon_take hz.out (Or.inl rfl) h.lt)
      go_wp2_with (at_builtin; refine wpList_append_any _ rfl (.tmp 18) (.tmp 21) 23 rfl w.heap.size 52 i0 _ 1 4 Tryz.underlying23 hi hz0 hz1 hz2 rfl (by omega) (.slice (some ⟨w.heap.size, 0, none⟩) 0 0) 0 [] rfl (own_empty _ _ _) _ _ 0 c ((l.take 0).map limb) rfl (by exact ((h.take hk).alloc _).reads) (oneCell_limbs _) (by simp only [maxLen]; omega) (by omega) (by simp) ?_; intro v1 w1 hown1 hg1 hat1)
      go_ret
      exact OutL.of_append hown1 (by rw [List.length_take, h.len]; omega) (h.lt.take _) ((Below.refl _ _).alloc (Nat.le_refl _) _) hg1 (fun j hj => by simp [Value.ownBlock] at hj; omega) HD.out.symm
end Go.Proofs.YtljocgdhdilglaaGreat
