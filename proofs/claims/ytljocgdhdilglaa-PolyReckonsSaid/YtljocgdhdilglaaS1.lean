/- The reference of layer 4: Check, both, at. -/
import Derived.Test.YtljocgdhdilglaaP4
import Derived.Test.YtljocgdhdilglaaR5
namespace Go.Proofs.Ytljocgdhdilglaa
open Go.RowKit
attribute [local go_sem] add_lit

theorem any_bad_of {es : List WE} {i : Nat} {e : WE} (he : es[i]? = some e) (hb : e.bad = true) : es.any WE.bad = true := List.any_eq_true.2 ⟨e, List.mem_of_getElem? he, hb⟩
theorem any_bad_none {es : List WE} (h : ∀ (j : Nat) (e : WE), j < es.length → es[j]? = some e → e.bad = false) : es.any WE.bad = false := by
  rw [List.any_eq_false]
  intro e he
  obtain ⟨j, hj, rfl⟩ := List.getElem_of_mem he
  rw [h j _ hj (List.getElem?_eq_getElem hj)]; simp
theorem pOk_empty {es : List WE} {e : WE} (h3 : es[es.length - 1]? = some e) (he : e.l.isEmpty = true) : pOk es = false := by
  unfold pOk; rw [List.getLast?_eq_getElem?, h3]; simp [he]

set_option maxRecDepth 100000 in
set_option maxHeartbeats 2000000 in
theorem sCheck_any (A : Option Addr) (n c : Nat) (es : List WE) (w : World) (h : WL w A n c es) :
    Calls Try.prog 15 #[.slice A n c] w fun e w' => e = .returned (.int .i64 (errOf (pOk es))) ∧ Below w.heap.size w w' := by
  have hnc := h.2.1
  have hcm := h.2.2.1
  unfold maxLen at hcm
  have hl := hide h.len
  by_cases h9 : 9 < n
  · rw [pOk_long (by rw [hl.out]; exact h9)]
    have d9 : decide ((9 : Int) < (n : Int)) = true := by simp; omega
    go_enter Try.func15, Try.ntmps15
    go_wp2
    go_ret
    exact ⟨rfl, Below.refl _ _⟩
  · have d9 : decide ((9 : Int) < (n : Int)) = false := by simp; omega
    by_cases h0 : 0 < n
    · have d0 : decide ((0 : Int) < (n : Int)) = true := by simp; omega
      obtain ⟨b, o, e, rfl, he, hc1, hc2, hL⟩ := h.at_ (k := n - 1) (by omega)
      obtain ⟨neg, A1, n1, c1, l1⟩ := e
      dsimp only at hc1 hc2 hL
      have hl1 := hide hL.len
      have h1m := Nat.le_trans hL.2.1 hL.2.2.1
      unfold maxLen at h1m
      have he' : es[es.length - 1]? = some ⟨neg, A1, n1, c1, l1⟩ := by rw [hl.out]; exact he
      clear he
      by_cases hn1 : n1 = 0
      · have hz : l1.isEmpty = true := by have := hl1.out; cases l1 <;> simp_all
        rw [pOk_empty he' hz]
        have dz : ((n1 : Int) == 0) = true := by simp; exact hn1
        clear he' hz
        replace hn1 := hide hn1
        go_enter Try.func15, Try.ntmps15
        go_wp2
        go_ret
        exact ⟨rfl, Below.refl _ _⟩
      · have hz : l1.isEmpty = false := by have := hl1.out; cases l1 <;> simp_all
        have dz : ((n1 : Int) == 0) = false := by simp; exact hn1
        have hOK : Hid (es.any WE.bad = false → pOk es = true) := fun hb => by rw [pOk_last (by rw [hl.out]; omega) hb he', hz]; rfl
        have hlt := lt_of_cell hc2
        clear he' hz
        replace hn1 := hide hn1
        obtain ⟨v, hv⟩ : ∃ v, errOf (pOk es) = v := ⟨_, rfl⟩
        rw [hv]
        replace hv := hide hv
        go_enter Try.func15, Try.ntmps15
        go_wp2
        clear dz hc1 hc2 hL
        go_loopw [3] (fun iv wr => ∃ i : Nat, i ≤ n ∧ iv = .int .i64 i ∧ Hid (∀ (j : Nat) (e : WE), j < i → es[j]? = some e → e.bad = false) ∧ Below w.heap.size w wr) (fun iv _ => n - (intOf iv).toNat)
        case atStart => exact ⟨0, Nat.zero_le _, rfl, fun j e hj => by omega, Below.refl _ _⟩
        case round =>
          obtain ⟨i, hik, rfl, hok, hB⟩ := hrel
          by_cases hin : i < n
          · obtain ⟨b2, o2, e2, hbb, he2, hc1, hc2, hL2⟩ := (h.below hB).at_ hin
            obtain ⟨rfl, rfl⟩ : b2 = b ∧ o2 = o := by injection hbb with hbb; injection hbb with h1 h2; exact ⟨h1.symm, h2.symm⟩
            obtain ⟨neg2, A2, n2, c2, l2⟩ := e2
            dsimp only at hc1 hc2 hL2
            have hl2 := hide hL2.len
            have h2m := Nat.le_trans hL2.2.1 hL2.2.2.1
            unfold maxLen at h2m
            replace he2 := hide he2
            by_cases hk : okW neg2 l2 = true
            · have HK := hide (show errOf (okW neg2 l2) = 0 by rw [hk]; rfl)
              by_cases h40 : 40 < n2
              · have d40 : decide ((40 : Int) < (n2 : Int)) = true := by simp; omega
                have hv8 : Hid ((8 : Int) = v) := by unfold Hid; rw [← hv.out, pOk_bad (any_bad_of he2.out (by unfold WE.bad; rw [hl2.out]; simp; omega))]; rfl
                go_wp2_with (go_at_call 39; refine (rCheck_any _ _ _ _ _ _ hL2).mono ?_; rintro e w1 ⟨he1, hb1⟩; rw [HK.out] at he1; subst he1; have k2 := keep_cell hb1 hc2)
                go_ret
                exact ⟨ret_int hv8.out, hB.trans (hb1.mono hB.size)⟩
              · have d40 : decide ((40 : Int) < (n2 : Int)) = false := by simp; omega
                have hgood : (⟨neg2, A2, n2, c2, l2⟩ : WE).bad = false := by unfold WE.bad WE.ok; rw [hl2.out, hk]; simp; omega
                replace hgood := hide hgood
                replace hk := hide hk
                go_wp2_with (go_at_call 39; refine (rCheck_any _ _ _ _ _ _ hL2).mono ?_; rintro e w1 ⟨he1, hb1⟩; rw [HK.out] at he1; subst he1; have k2 := keep_cell hb1 hc2)
                go_roundw
                case rel => exact ⟨i + 1, by omega, by go_num, fun j e hj hje => by
                    rcases Nat.lt_or_ge j i with h' | h'
                    · exact hok.out j e h' hje
                    · obtain rfl : j = i := by omega
                      rw [he2.out] at hje; injection hje with hje; rw [← hje]; exact hgood.out, hB.trans (hb1.mono hB.size)⟩
                case measure => simp [intOf]; omega
            · have hk' : okW neg2 l2 = false := by simpa using hk
              have HK := hide (show errOf (okW neg2 l2) = 8 by rw [hk']; rfl)
              have hv8 : Hid ((8 : Int) = v) := by unfold Hid; rw [← hv.out, pOk_bad (any_bad_of he2.out (by unfold WE.bad WE.ok; rw [hk']; simp))]; rfl
              clear hk hk'
              go_wp2_with (go_at_call 39; refine (rCheck_any _ _ _ _ _ _ hL2).mono ?_; rintro e w1 ⟨he1, hb1⟩; rw [HK.out] at he1; subst he1)
              go_ret
              exact ⟨ret_int hv8.out, hB.trans (hb1.mono hB.size)⟩
          · obtain rfl : i = n := by omega
            have hv0 : Hid ((0 : Int) = v) := by unfold Hid; rw [← hv.out, hOK.out (any_bad_none fun j e hj => hok.out j e (by rw [← hl.out]; exact hj))]; rfl
            go_wp2
            go_ret
            exact ⟨ret_int hv0.out, hB⟩
    · obtain rfl : n = 0 := by omega
      rw [pOk_nil hl.out]
      go_enter Try.func15, Try.ntmps15
      go_wp2
      refine wp_loop_rounds 1 ?_
      rw [rounds_succ]
      go_wp2
      go_ret
      exact ⟨rfl, Below.refl _ _⟩

set_option maxHeartbeats 400000 in
theorem sboth_any (A B : Option Addr) (n c m d : Nat) (ps qs : List WE) (w : World) (hp : WL w A n c ps) (hq : WL w B m d qs) :
    Calls Try.prog 24 #[.slice A n c, .slice B m d] w fun e w' => e = .returned (.int .i64 (errOf (pOk ps && pOk qs))) ∧ Below w.heap.size w w' := by
  by_cases kp : pOk ps = true
  · rw [kp, Bool.true_and]
    replace kp : Hid (errOf (pOk ps) = 0) := by unfold Hid; rw [kp]; rfl
    generalize hk : pOk qs = k at *
    replace hk := hide hk
    go_enter Try.func24, Try.ntmps24
    go_wp2_with fail
    refine (sCheck_any _ _ _ _ _ hp).mono ?_
    rintro e w1 ⟨he1, hb1⟩
    rw [kp.out] at he1
    subst he1
    go_wp2_with fail
    refine (sCheck_any _ _ _ _ _ (hq.below hb1)).mono ?_
    rintro e w2 ⟨he2, hb2⟩
    rw [hk.out] at he2
    subst he2
    go_wp2_with fail
    go_returns
    exact ⟨rfl, hb1.trans (hb2.mono hb1.size)⟩
  · have kp' : pOk ps = false := by simpa using kp
    rw [kp', Bool.false_and]
    replace kp : Hid (errOf (pOk ps) = 8) := by unfold Hid; rw [kp']; rfl
    clear kp'
    rw [show errOf false = 8 from rfl]
    go_enter Try.func24, Try.ntmps24
    go_wp2_with fail
    refine (sCheck_any _ _ _ _ _ hp).mono ?_
    rintro e w1 ⟨he1, hb1⟩
    rw [kp.out] at he1
    subst he1
    go_wp2_with fail
    refine (sCheck_any _ _ _ _ _ (hp.below hb1)).mono ?_
    rintro e w2 ⟨he2, hb2⟩
    rw [kp.out] at he2
    subst he2
    go_wp2_with fail
    go_returns
    exact ⟨rfl, hb1.trans (hb2.mono hb1.size)⟩
end Go.Proofs.Ytljocgdhdilglaa
