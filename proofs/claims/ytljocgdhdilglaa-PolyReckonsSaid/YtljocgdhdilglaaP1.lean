/- Package poly: zero, Check, trim, made. -/
import Derived.Test.YtljocgdhdilglaaF1
import Derived.Test.YtljocgdhdilglaaPoly
namespace Go.Proofs.Ytljocgdhdilglaa
open Go.RowKit
attribute [local go_sem] add_lit

set_option maxHeartbeats 400000 in
theorem pzero_any (neg : Bool) (A : Option Addr) (n c : Nat) (w : World) (h : n ≤ maxLen) :
    Calls Try.prog 38 #[.agg #[.bool neg, .slice A n c]] w fun e w' => e = .returned (.bool (decide (n = 0))) ∧ Below w.heap.size w w' := by
  unfold maxLen at h
  by_cases h0 : n = 0
  · subst h0
    go_enter Try.func38, Try.ntmps38
    go_wp2
    go_ret
    exact ⟨rfl, (Below.refl _ _).alloc (Nat.le_refl _) _⟩
  · have h1 : ((n : Int) == 0) = false := by simp; omega
    have h2 : decide (n = 0) = false := by simpa using h0
    rw [h2]
    go_enter Try.func38, Try.ntmps38
    go_wp2
    go_ret
    exact ⟨rfl, (Below.refl _ _).alloc (Nat.le_refl _) _⟩

set_option maxRecDepth 100000 in
set_option maxHeartbeats 400000 in
theorem pbad_any (neg : Bool) (A : Option Addr) (n c : Nat) (l : List Nat) (w : World) (h : Lim w A n c l) :
    Calls Try.prog 35 #[.agg #[.bool neg, .slice A n c]] w fun e w' => e = .returned (.bool (WE.bad ⟨neg, A, n, c, l⟩)) ∧ Below w.heap.size w w' := by
  have hnc := h.2.1
  have hcm := h.2.2.1
  unfold maxLen at hcm
  have hl := hide h.len
  by_cases h0 : 40 < n
  · have hb : WE.bad ⟨neg, A, n, c, l⟩ = true := by unfold WE.bad; simp [hl.out]; omega
    rw [hb]
    go_enter Try.func35, Try.ntmps35
    go_wp2
    go_ret
    exact ⟨rfl, (Below.refl _ _).alloc (Nat.le_refl _) _⟩
  · have hb : WE.bad ⟨neg, A, n, c, l⟩ = !(okW neg l) := by unfold WE.bad WE.ok; simp [hl.out]; omega
    rw [hb]
    generalize hk : okW neg l = k at *
    have HK := hide hk
    have hd : decide ((40 : Int) < (n : Int)) = false := by simp; omega
    clear hk hb
    cases k
    all_goals
      go_enter Try.func35, Try.ntmps35
      go_wp2_with (go_at_call 36; refine (Check_any _ _ _ _ _ _ (h.alloc _)).mono ?_; rintro e w1 ⟨he, hb1⟩; rw [HK.out] at he; subst he)
      simp only [errOf] at *
      go_wp2
      go_ret
      exact ⟨rfl, ((Below.refl w.heap.size w).alloc (Nat.le_refl _) _).trans (hb1.mono (by simp))⟩

/-- Does an element of a list from some place on meet a test? -/
def IdxP (w : World) (es : List WE) (e : Ending) (w' : World) : Prop := ∃ i : Int, e = .returned (.int .i64 i) ∧ (decide (0 ≤ i) = es.any WE.bad) ∧ Below w.heap.size w w'

set_option maxRecDepth 100000 in
set_option maxHeartbeats 1000000 in
theorem pidx_any (A : Option Addr) (n c : Nat) (es : List WE) (w : World) (h : WL w A n c es) :
    Calls Try.prog 56 #[.slice A n c, .func (.func 35) #[] #[]] w (IdxP w es) := by
  have hnc := h.2.1
  have hcm := h.2.2.1
  unfold maxLen at hcm
  go_enter Try.func56, Try.ntmps56
  go_wp2
  go_loopw [8] (fun v wr => ∃ k : Nat, k ≤ n ∧ v = .int .i64 k ∧ Hid (∀ e ∈ es.take k, e.bad = false) ∧ Below w.heap.size w wr) (fun v _ => n - (intOf v).toNat)
  case atStart => exact ⟨0, Nat.zero_le _, rfl, by unfold Hid; simp, Below.refl _ _⟩
  case round =>
    obtain ⟨k, hk, rfl, ho, hB⟩ := hrel
    by_cases hk0 : k < n
    · obtain ⟨b, o, e, rfl, he, hc1, hc2, hL⟩ := (h.below hB).at_ hk0
      have HE := hide he
      generalize hb : e.bad = bb at *
      have HB := hide hb
      cases bb
      · have HG : Hid (∀ x ∈ es.take (k + 1), x.bad = false) := fun x hx => by
          rw [List.take_add_one, HE.out] at hx
          rcases List.mem_append.1 hx with hx | hx
          · exact ho.out x hx
          · simp at hx; subst hx; exact HB.out
        obtain ⟨neg, A1, n1, c1, l1⟩ := e
        dsimp only at hc1 hc2 hL
        clear he hb
        go_wp2_with (go_at_call 35; refine (pbad_any _ _ _ _ _ _ hL).mono ?_; rintro e w1 ⟨he1, hb1⟩; rw [HB.out] at he1; subst he1)
        go_roundw
        case rel => exact ⟨k + 1, by omega, by go_num, HG, hB.trans (hb1.mono hB.size)⟩
        case measure => simp [intOf]; omega
      · have HG : Hid (es.any WE.bad = true) := by
          unfold Hid
          rw [List.any_eq_true]
          exact ⟨e, List.mem_of_getElem? HE.out, HB.out⟩
        obtain ⟨neg, A1, n1, c1, l1⟩ := e
        dsimp only at hc1 hc2 hL
        clear he hb
        go_wp2_with (go_at_call 35; refine (pbad_any _ _ _ _ _ _ hL).mono ?_; rintro e w1 ⟨he1, hb1⟩; rw [HB.out] at he1; subst he1)
        go_ret
        exact ⟨k, rfl, by rw [HG.out]; simp, hB.trans (hb1.mono hB.size)⟩
    · obtain rfl : k = n := by omega
      have HA : Hid (es.any WE.bad = false) := by
        unfold Hid
        rw [List.any_eq_false]
        have := ho.out
        rw [List.take_of_length_le (by rw [h.len]; exact Nat.le_refl _)] at this
        exact fun x hx => by rw [this x hx]; simp
      go_wp2
      go_ret
      exact ⟨-1, rfl, by rw [HA.out]; rfl, hB⟩

set_option maxHeartbeats 400000 in
theorem pcontains_any (A : Option Addr) (n c : Nat) (es : List WE) (w : World) (h : WL w A n c es) :
    Calls Try.prog 37 #[.slice A n c, .func (.func 35) #[] #[]] w fun e w' => e = .returned (.bool (es.any WE.bad)) ∧ Below w.heap.size w w' := by
  go_enter Try.func37, Try.ntmps37
  go_wp2_with (go_at_call 56; refine (pidx_any _ _ _ _ _ h).mono ?_; rintro e w1 ⟨i, rfl, hi, hb1⟩; have HI := hide hi; clear hi)
  go_ret
  exact ⟨ret_bool HI.out, hb1⟩

theorem pOk_long {es : List WE} (h : 9 < es.length) : pOk es = false := by unfold pOk; simp; omega
theorem pOk_bad {es : List WE} (h : es.any WE.bad = true) : pOk es = false := by unfold pOk; rw [h]; simp
theorem pOk_nil {es : List WE} (h : es.length = 0) : pOk es = true := by
  have := List.eq_nil_of_length_eq_zero h
  subst this; rfl
theorem pOk_last {es : List WE} {e : WE} (h1 : es.length ≤ 9) (h2 : es.any WE.bad = false) (h3 : es[es.length - 1]? = some e) : pOk es = !e.l.isEmpty := by
  unfold pOk; rw [h2, List.getLast?_eq_getElem?, h3]; simp [h1]

set_option maxRecDepth 100000 in
set_option maxHeartbeats 1000000 in
theorem pCheck_any (A : Option Addr) (n c : Nat) (es : List WE) (w : World) (h : WL w A n c es) :
    Calls Try.prog 14 #[.slice A n c] w fun e w' => e = .returned (.int .i64 (errOf (pOk es))) ∧ Below w.heap.size w w' := by
  have hnc := h.2.1
  have hcm := h.2.2.1
  unfold maxLen at hcm
  have hl := hide h.len
  by_cases h9 : 9 < n
  · rw [pOk_long (by rw [hl.out]; exact h9)]
    go_enter Try.func14, Try.ntmps14
    go_wp2
    go_ret
    exact ⟨rfl, Below.refl _ _⟩
  · have hd9 : decide ((9 : Int) < (n : Int)) = false := by simp; omega
    generalize hb : es.any WE.bad = bb at *
    have HB := hide hb
    clear hb
    cases bb
    · by_cases h0 : 0 < n
      · have hd0 : decide ((0 : Int) < (n : Int)) = true := by simp; omega
        obtain ⟨b, o, e, rfl, he, hc1, hc2, hL⟩ := h.at_ (k := n - 1) (by omega)
        have hx := pOk_last (es := es) (e := e) (by rw [hl.out]; omega) HB.out (by rw [hl.out]; exact he)
        obtain ⟨neg, A1, n1, c1, l1⟩ := e
        dsimp only at hc1 hc2 hL hx
        have hl1 := hide hL.len
        have h1m := Nat.le_trans hL.2.1 hL.2.2.1
        clear he
        by_cases hn1 : n1 = 0
        · have hz : l1.isEmpty = true := by have := hl1.out; cases l1 <;> simp_all
          rw [hx, hz]
          have hd : decide (n1 = 0) = true := by simpa using hn1
          have HD := hide hd
          clear hd hz hx hn1
          go_enter Try.func14, Try.ntmps14
          go_wp2_with (first | (go_at_call 37; refine (pcontains_any _ _ _ _ _ h).mono ?_; rintro e w1 ⟨he1, hb1⟩; rw [HB.out] at he1; subst he1; have hd1 := keep_cell hb1 hc1; have hd2 := keep_cell hb1 hc2) | (go_at_call 38; refine (pzero_any _ _ _ _ _ h1m).mono ?_; rintro e w2 ⟨he2, hb2⟩; rw [HD.out] at he2; subst he2))
          go_ret
          exact ⟨rfl, hb1.trans (hb2.mono hb1.size)⟩
        · have hz : l1.isEmpty = false := by have := hl1.out; cases l1 <;> simp_all
          rw [hx, hz]
          have hd : decide (n1 = 0) = false := by simpa using hn1
          have HD := hide hd
          clear hd hz hx hn1
          go_enter Try.func14, Try.ntmps14
          go_wp2_with (first | (go_at_call 37; refine (pcontains_any _ _ _ _ _ h).mono ?_; rintro e w1 ⟨he1, hb1⟩; rw [HB.out] at he1; subst he1; have hd1 := keep_cell hb1 hc1; have hd2 := keep_cell hb1 hc2) | (go_at_call 38; refine (pzero_any _ _ _ _ _ h1m).mono ?_; rintro e w2 ⟨he2, hb2⟩; rw [HD.out] at he2; subst he2))
          go_ret
          exact ⟨rfl, hb1.trans (hb2.mono hb1.size)⟩
      · obtain rfl : n = 0 := by omega
        rw [pOk_nil hl.out]
        go_enter Try.func14, Try.ntmps14
        go_wp2_with (go_at_call 37; refine (pcontains_any _ _ _ _ _ h).mono ?_; rintro e w1 ⟨he1, hb1⟩; rw [HB.out] at he1; subst he1)
        go_ret
        exact ⟨rfl, hb1⟩
    · rw [pOk_bad HB.out]
      go_enter Try.func14, Try.ntmps14
      go_wp2_with (go_at_call 37; refine (pcontains_any _ _ _ _ _ h).mono ?_; rintro e w1 ⟨he1, hb1⟩; rw [HB.out] at he1; subst he1)
      go_ret
      exact ⟨rfl, hb1⟩

set_option maxRecDepth 100000 in
set_option maxHeartbeats 1000000 in
theorem ptrim_any (A : Option Addr) (n c : Nat) (xs : List Int) (w : World) (h : PolyL w A n c xs) :
    Calls Try.prog 51 #[.slice A n c] w fun e w' => e = .returned (.slice A (trimP xs).length (trimP xs).length) ∧ (trimP xs).length ≤ n ∧ trimP xs = xs.take (trimP xs).length ∧ Below w.heap.size w w' := by
  have hxl := hide h.len
  obtain ⟨es, h, hxs, hok⟩ := h
  have hnc := h.2.1
  have hcm := h.2.2.1
  unfold maxLen at hcm
  have HF : Hid (∀ k w', k ≤ n → Below w.heap.size w w' → (∀ j, k ≤ j → xs[j]?.getD 0 = 0) → (k = 0 ∨ xs[k - 1]?.getD 0 ≠ 0) →
      Ending.returned (.slice A k k) = .returned (.slice A (trimP xs).length (trimP xs).length) ∧ (trimP xs).length ≤ n ∧ trimP xs = xs.take (trimP xs).length ∧ Below w.heap.size w w') := fun k w' hk hB hz hk0 => by
    have h1 := trimP_take hz hk0
    have h2 : (trimP xs).length = k := by rw [h1, List.length_take, hxl.out]; omega
    rw [h2]
    exact ⟨rfl, hk, h1, hB⟩
  replace hxs := hide hxs
  replace hok := hide hok
  go_enter Try.func51, Try.ntmps51
  go_wp2
  go_loopw [3] (fun v wr => ∃ k : Nat, k ≤ n ∧ v = .int .i64 k ∧ Hid (∀ j, k ≤ j → xs[j]?.getD 0 = 0) ∧ Below w.heap.size w wr) (fun v _ => (intOf v).toNat)
  case atStart => exact ⟨n, Nat.le_refl _, rfl, fun j hj => by rw [List.getElem?_eq_none (by rw [hxl.out]; exact hj)]; rfl, Below.refl _ _⟩
  case round =>
    obtain ⟨k, hk, rfl, hz, hB⟩ := hrel
    by_cases hk0 : 0 < k
    · have hd0 : decide ((0 : Int) < (k : Int)) = true := by simp; omega
      obtain ⟨b, o, e, rfl, he, hc1, hc2, hL⟩ := (h.below hB).at_ (k := k - 1) (by omega)
      have hm1 := Nat.le_trans hL.2.1 hL.2.2.1
      have hnz := WE.num_zero hL (hok.out e (List.mem_of_getElem? he))
      have hxk : xs[k - 1]?.getD 0 = e.num := by rw [← hxs.out, List.getElem?_map, he]; rfl
      obtain ⟨neg, A1, n1, c1, l1⟩ := e
      dsimp only at hc1 hc2 hL hm1 hnz
      replace hxk := hide hxk
      replace hnz := hide hnz
      clear he hL
      by_cases hx : n1 = 0
      · have hd : decide (n1 = 0) = true := by simpa using hx
        have HD := hide hd
        replace hx := hide hx
        clear hd
        go_wp2_with (go_at_call 38; refine (pzero_any _ _ _ _ _ hm1).mono ?_; rintro e w2 ⟨he2, hb2⟩; rw [HD.out] at he2; subst he2)
        go_roundw
        case rel => exact ⟨k - 1, by omega, by go_num, fun j hj => by
            rcases Nat.lt_or_ge j k with h' | h'
            · obtain rfl : j = k - 1 := by omega
              rw [hxk.out]; exact hnz.out.1 hx.out
            · exact hz.out j h', hB.trans (hb2.mono hB.size)⟩
        case measure => simp [intOf]; omega
      · have hd : decide (n1 = 0) = false := by simpa using hx
        have HD := hide hd
        replace hx := hide hx
        clear hd
        go_wp2_with (go_at_call 38; refine (pzero_any _ _ _ _ _ hm1).mono ?_; rintro e w2 ⟨he2, hb2⟩; rw [HD.out] at he2; subst he2)
        go_ret
        exact HF.out k _ hk (hB.trans (hb2.mono hB.size)) hz.out (.inr (by rw [hxk.out]; exact fun h' => hx.out (hnz.out.2 h')))
    · obtain rfl : k = 0 := by omega
      go_wp2
      go_ret
      exact HF.out 0 _ hk hB hz.out (.inl rfl)

set_option maxRecDepth 100000 in
set_option maxHeartbeats 1000000 in
theorem pmade_any (A : Option Addr) (n c : Nat) (xs : List Int) (w : World) (h : PolyL w A n c xs) :
    Calls Try.prog 30 #[.slice A n c] w (ResPoly w xs) := by
  have hT := hide (ptrim_any A n c xs w h)
  go_enter Try.func30, Try.ntmps30
  go_wp2_with fail
  refine hT.out.mono ?_
  rintro e w1 ⟨rfl, hle, htk, hb1⟩
  have hP1 : PolyL w1 A (trimP xs).length (trimP xs).length (trimP xs) := by
    have := (h.below hb1).take hle
    rw [← htk] at this
    obtain ⟨es, h1, h2, h3⟩ := this
    exact ⟨es, ⟨h1.1, Nat.le_refl _, Nat.le_trans h1.2.1 h1.2.2.1, h1.2.2.2⟩, h2, h3⟩
  replace htk := hide htk
  obtain ⟨es, h1, h2, h3⟩ := hP1
  have hpk := PolyL.pok h1 h3 (by rw [h2]; exact trimP_last xs)
  rw [h2] at hpk
  have HP := hide (show PolyL w1 A (trimP xs).length (trimP xs).length (trimP xs) from ⟨es, h1, h2, h3⟩)
  replace h2 := hide h2
  replace h3 := hide h3
  generalize hk : okP (trimP xs) = k at *
  have HK := hide hk
  replace hpk := hide hpk
  generalize hm : (trimP xs).length = m at *
  replace hm := hide hm
  clear hk
  cases k
  · go_wp2_with (go_at_call 14; refine (pCheck_any _ _ _ _ _ h1).mono ?_; rintro e w2 ⟨he2, hb2⟩; rw [hpk.out] at he2; subst he2; simp only [errOf] at *)
    go_returns
    exact ⟨hb1.trans (hb2.mono hb1.size), none, 0, 0, 16, rfl, .inr ⟨HK.out, rfl, rfl, rfl⟩⟩
  · go_wp2_with (go_at_call 14; refine (pCheck_any _ _ _ _ _ h1).mono ?_; rintro e w2 ⟨he2, hb2⟩; rw [hpk.out] at he2; subst he2; simp only [errOf] at *)
    go_returns
    exact ⟨hb1.trans (hb2.mono hb1.size), _, _, _, _, rfl, .inl ⟨HK.out, rfl, HP.out.below hb2⟩⟩
end Go.Proofs.Ytljocgdhdilglaa
