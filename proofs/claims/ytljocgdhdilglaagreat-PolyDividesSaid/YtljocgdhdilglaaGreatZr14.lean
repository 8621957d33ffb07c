/- Package poly: zero, Check, trim, made. Lists of whole numbers in a block of the call's own. -/
import Derived.Test.YtljocgdhdilglaaGreatZr13
import Derived.Test.YtljocgdhdilglaaGreatZr01
set_option linter.unusedSimpArgs false
set_option linter.unusedVariables false

namespace Go.Proofs.YtljocgdhdilglaaGreat
open Go.RowKit
attribute [local go_sem] add_lit

set_option maxHeartbeats 400000 in
theorem pzero_any (neg : Bool) (A : Option Addr) (n c : Nat) (w : World) (h : n ≤ maxLen) :
    Calls Tryz.prog 61 #[.agg #[.bool neg, .slice A n c]] w fun e w' => e = .returned (.bool (decide (n = 0))) ∧ Below w.heap.size w w' := by
  unfold maxLen at h
  by_cases h0 : n = 0
  · subst h0
    go_enter Tryz.func61, Tryz.ntmps61
    go_wp2
    go_ret
    exact ⟨rfl, (Below.refl _ _).alloc (Nat.le_refl _) _⟩
  · have h1 : ((n : Int) == 0) = false := by simp; omega
    have h2 : decide (n = 0) = false := by simpa using h0
    rw [h2]
    go_enter Tryz.func61, Tryz.ntmps61
    go_wp2
    go_ret
    exact ⟨rfl, (Below.refl _ _).alloc (Nat.le_refl _) _⟩

set_option maxRecDepth 100000 in
set_option maxHeartbeats 400000 in
theorem pbad_any (neg : Bool) (A : Option Addr) (n c : Nat) (l : List Nat) (w : World) (h : Lim w A n c l) :
    Calls Tryz.prog 58 #[.agg #[.bool neg, .slice A n c]] w fun e w' => e = .returned (.bool (WE.bad ⟨neg, A, n, c, l⟩)) ∧ Below w.heap.size w w' := by
  have hnc := h.2.1
  have hcm := h.2.2.1
  unfold maxLen at hcm
  have hl := hide h.len
  by_cases h0 : 40 < n
  · have hb : WE.bad ⟨neg, A, n, c, l⟩ = true := by unfold WE.bad; simp [hl.out]; omega
    rw [hb]
    go_enter Tryz.func58, Tryz.ntmps58
    go_wp2
    go_ret
    exact ⟨rfl, (Below.refl _ _).alloc (Nat.le_refl _) _⟩
  · have hb : WE.bad ⟨neg, A, n, c, l⟩ = !(okW neg l) := by unfold WE.bad WE.ok; simp [hl.out]; omega
    rw [hb]
    generalize hk : okW neg l = k at *
    have HK := hide hk
    have hd : decide ((40 : Int) < (n : Int)) = false := by simp; omega
    clear hk hb
    cases k
    all_goals
      go_enter Tryz.func58, Tryz.ntmps58
      go_wp2_with (go_at_call 59; refine (Check_any _ _ _ _ _ _ (h.alloc _)).mono ?_; rintro e w1 ⟨he, hb1⟩; rw [HK.out] at he; subst he)
      simp only [errOf] at *
      go_wp2
      go_ret
      exact ⟨rfl, ((Below.refl w.heap.size w).alloc (Nat.le_refl _) _).trans (hb1.mono (by simp))⟩

/-- Does an element of a list from some place on meet a test? -/
def IdxP (w : World) (es : List WE) (e : Ending) (w' : World) : Prop := ∃ i : Int, e = .returned (.int .i64 i) ∧ (decide (0 ≤ i) = es.any WE.bad) ∧ Below w.heap.size w w'

set_option maxRecDepth 100000 in
set_option maxHeartbeats 1000000 in
theorem pidx_any (A : Option Addr) (n c : Nat) (es : List WE) (w : World) (h : WL w A n c es) :
    Calls Tryz.prog 90 #[.slice A n c, .func (.func 58) #[] #[]] w (IdxP w es) := by
  have hnc := h.2.1
  have hcm := h.2.2.1
  unfold maxLen at hcm
  go_enter Tryz.func90, Tryz.ntmps90
  go_wp2
  go_loopw [8] (fun v wr => ∃ k : Nat, k ≤ n ∧ v = .int .i64 k ∧ Hid (∀ e ∈ es.take k, e.bad = false) ∧ Below w.heap.size w wr) (fun v _ => n - (intOf v).toNat)
  case atStart => exact ⟨0, Nat.zero_le _, rfl, by unfold Hid; simp, Below.refl _ _⟩
  case round =>
    obtain ⟨k, hk, rfl, ho, hB⟩ := hrel
    by_cases hk0 : k < n
    · obtain ⟨b, o, e, rfl, he, hc1, hc2, hL⟩ := (h.below hB).at_ hk0
      have HE := hide he
      generalize hb : e.bad = bb at *
      have HB := hide hb
      cases bb
      · have HG : Hid (∀ x ∈ es.take (k + 1), x.bad = false) := fun x hx => by
          rw [List.take_add_one, HE.out] at hx
          rcases List.mem_append.1 hx with hx | hx
          · exact ho.out x hx
          · simp at hx; subst hx; exact HB.out
        obtain ⟨neg, A1, n1, c1, l1⟩ := e
        dsimp only at hc1 hc2 hL
        clear he hb
        go_wp2_with (go_at_call 58; refine (pbad_any _ _ _ _ _ _ hL).mono ?_; rintro e w1 ⟨he1, hb1⟩; rw [HB.out] at he1; subst he1)
        go_roundw
        case rel => exact ⟨k + 1, by omega, by go_num, HG, hB.trans (hb1.mono hB.size)⟩
        case measure => simp [intOf]; omega
      · have HG : Hid (es.any WE.bad = true) := by
          unfold Hid
          rw [List.any_eq_true]
          exact ⟨e, List.mem_of_getElem? HE.out, HB.out⟩
        obtain ⟨neg, A1, n1, c1, l1⟩ := e
        dsimp only at hc1 hc2 hL
        clear he hb
        go_wp2_with (go_at_call 58; refine (pbad_any _ _ _ _ _ _ hL).mono ?_; rintro e w1 ⟨he1, hb1⟩; rw [HB.out] at he1; subst he1)
        go_ret
        exact ⟨k, rfl, by rw [HG.out]; simp, hB.trans (hb1.mono hB.size)⟩
    · obtain rfl : k = n := by omega
      have HA : Hid (es.any WE.bad = false) := by
        unfold Hid
        rw [List.any_eq_false]
        have := ho.out
        rw [List.take_of_length_le (by rw [h.len]; exact Nat.le_refl _)] at this
        exact fun x hx => by rw [this x hx]; simp
      go_wp2
      go_ret
      exact ⟨-1, rfl, by rw [HA.out]; rfl, hB⟩

set_option maxHeartbeats 400000 in
theorem pcontains_any (A : Option Addr) (n c : Nat) (es : List WE) (w : World) (h : WL w A n c es) :
    Calls Tryz.prog 60 #[.slice A n c, .func (.func 58) #[] #[]] w fun e w' => e = .returned (.bool (es.any WE.bad)) ∧ Below w.heap.size w w' := by
  go_enter Tryz.func60, Tryz.ntmps60
  go_wp2_with (go_at_call 90; refine (pidx_any _ _ _ _ _ h).mono ?_; rintro e w1 ⟨i, rfl, hi, hb1⟩; have HI := hide hi; clear hi)
  go_ret
  exact ⟨ret_bool HI.out, hb1⟩

theorem pOk_long {es : List WE} (h : 9 < es.length) : pOk es = false := by unfold pOk; simp; omega
theorem pOk_bad {es : List WE} (h : es.any WE.bad = true) : pOk es = false := by unfold pOk; rw [h]; simp
theorem pOk_nil {es : List WE} (h : es.length = 0) : pOk es = true := by
  have := List.eq_nil_of_length_eq_zero h
  subst this; rfl
theorem pOk_last {es : List WE} {e : WE} (h1 : es.length ≤ 9) (h2 : es.any WE.bad = false) (h3 : es[es.length - 1]? = some e) : pOk es = !e.l.isEmpty := by
  unfold pOk; rw [h2, List.getLast?_eq_getElem?, h3]; simp [h1]

set_option maxRecDepth 100000 in
set_option maxHeartbeats 1000000 in
theorem pCheck_any (A : Option Addr) (n c : Nat) (es : List WE) (w : World) (h : WL w A n c es) :
    Calls Tryz.prog 31 #[.slice A n c] w fun e w' => e = .returned (.int .i64 (errOf (pOk es))) ∧ Below w.heap.size w w' := by
  have hnc := h.2.1
  have hcm := h.2.2.1
  unfold maxLen at hcm
  have hl := hide h.len
  by_cases h9 : 9 < n
  · rw [pOk_long (by rw [hl.out]; exact h9)]
    go_enter Tryz.func31, Tryz.ntmps31
    go_wp2
    go_ret
    exact ⟨rfl, Below.refl _ _⟩
  · have hd9 : decide ((9 : Int) < (n : Int)) = false := by simp; omega
    generalize hb : es.any WE.bad = bb at *
    have HB := hide hb
    clear hb
    cases bb
    · by_cases h0 : 0 < n
      · have hd0 : decide ((0 : Int) < (n : Int)) = true := by simp; omega
        obtain ⟨b, o, e, rfl, he, hc1, hc2, hL⟩ := h.at_ (k := n - 1) (by omega)
        have hx := pOk_last (es := es) (e := e) (by rw [hl.out]; omega) HB.out (by rw [hl.out]; exact he)
        obtain ⟨neg, A1, n1, c1, l1⟩ := e
        dsimp only at hc1 hc2 hL hx
        have hl1 := hide hL.len
        have h1m := Nat.le_trans hL.2.1 hL.2.2.1
        clear he
        by_cases hn1 : n1 = 0
        · have hz : l1.isEmpty = true := by have := hl1.out; cases l1 <;> simp_all
          rw [hx, hz]
          have hd : decide (n1 = 0) = true := by simpa using hn1
          have HD := hide hd
          clear hd hz hx hn1
          go_enter Tryz.func31, Tryz.ntmps31
          go_wp2_with (first | (go_at_call 60; refine (pcontains_any _ _ _ _ _ h).mono ?_; rintro e w1 ⟨he1, hb1⟩; rw [HB.out] at he1; subst he1; have hd1 := keep_cell hb1 hc1; have hd2 := keep_cell hb1 hc2) | (go_at_call 61; refine (pzero_any _ _ _ _ _ h1m).mono ?_; rintro e w2 ⟨he2, hb2⟩; rw [HD.out] at he2; subst he2))
          go_ret
          exact ⟨rfl, hb1.trans (hb2.mono hb1.size)⟩
        · have hz : l1.isEmpty = false := by have := hl1.out; cases l1 <;> simp_all
          rw [hx, hz]
          have hd : decide (n1 = 0) = false := by simpa using hn1
          have HD := hide hd
          clear hd hz hx hn1
          go_enter Tryz.func31, Tryz.ntmps31
          go_wp2_with (first | (go_at_call 60; refine (pcontains_any _ _ _ _ _ h).mono ?_; rintro e w1 ⟨he1, hb1⟩; rw [HB.out] at he1; subst he1; have hd1 := keep_cell hb1 hc1; have hd2 := keep_cell hb1 hc2) | (go_at_call 61; refine (pzero_any _ _ _ _ _ h1m).mono ?_; rintro e w2 ⟨he2, hb2⟩; rw [HD.out] at he2; subst he2))
          go_ret
          exact ⟨rfl, hb1.trans (hb2.mono hb1.size)⟩
      · obtain rfl : n = 0 := by omega
        rw [pOk_nil hl.out]
        go_enter Tryz.func31, Tryz.ntmps31
        go_wp2_with (go_at_call 60; refine (pcontains_any _ _ _ _ _ h).mono ?_; rintro e w1 ⟨he1, hb1⟩; rw [HB.out] at he1; subst he1)
        go_ret
        exact ⟨rfl, hb1⟩
    · rw [pOk_bad HB.out]
      go_enter Tryz.func31, Tryz.ntmps31
      go_wp2_with (go_at_call 60; refine (pcontains_any _ _ _ _ _ h).mono ?_; rintro e w1 ⟨he1, hb1⟩; rw [HB.out] at he1; subst he1)
      go_ret
      exact ⟨rfl, hb1⟩

set_option maxRecDepth 100000 in
set_option maxHeartbeats 1000000 in
theorem ptrim_any (A : Option Addr) (n c : Nat) (xs : List Int) (w : World) (h : PolyL w A n c xs) :
    Calls Tryz.prog 67 #[.slice A n c] w fun e w' => e = .returned (.slice A (trimP xs).length (trimP xs).length) ∧ (trimP xs).length ≤ n ∧ trimP xs = xs.take (trimP xs).length ∧ Below w.heap.size w w' := by
  have hxl := hide h.len
  obtain ⟨es, h, hxs, hok⟩ := h
  have hnc := h.2.1
  have hcm := h.2.2.1
  unfold maxLen at hcm
  have HF : Hid (∀ k w', k ≤ n → Below w.heap.size w w' → (∀ j, k ≤ j → xs[j]?.getD 0 = 0) → (k = 0 ∨ xs[k - 1]?.getD 0 ≠ 0) →
      Ending.returned (.slice A k k) = .returned (.slice A (trimP xs).length (trimP xs).length) ∧ (trimP xs).length ≤ n ∧ trimP xs = xs.take (trimP xs).length ∧ Below w.heap.size w w') := fun k w' hk hB hz hk0 => by
    have h1 := trimP_take hz hk0
    have h2 : (trimP xs).length = k := by rw [h1, List.length_take, hxl.out]; omega
    rw [h2]
    exact ⟨rfl, hk, h1, hB⟩
  replace hxs := hide hxs
  replace hok := hide hok
  go_enter Tryz.func67, Tryz.ntmps67
  go_wp2
  go_loopw [3] (fun v wr => ∃ k : Nat, k ≤ n ∧ v = .int .i64 k ∧ Hid (∀ j, k ≤ j → xs[j]?.getD 0 = 0) ∧ Below w.heap.size w wr) (fun v _ => (intOf v).toNat)
  case atStart => exact ⟨n, Nat.le_refl _, rfl, fun j hj => by rw [List.getElem?_eq_none (by rw [hxl.out]; exact hj)]; rfl, Below.refl _ _⟩
  case round =>
    obtain ⟨k, hk, rfl, hz, hB⟩ := hrel
    by_cases hk0 : 0 < k
    · have hd0 : decide ((0 : Int) < (k : Int)) = true := by simp; omega
      obtain ⟨b, o, e, rfl, he, hc1, hc2, hL⟩ := (h.below hB).at_ (k := k - 1) (by omega)
      have hm1 := Nat.le_trans hL.2.1 hL.2.2.1
      have hnz := WE.num_zero hL (hok.out e (List.mem_of_getElem? he))
      have hxk : xs[k - 1]?.getD 0 = e.num := by rw [← hxs.out, List.getElem?_map, he]; rfl
      obtain ⟨neg, A1, n1, c1, l1⟩ := e
      dsimp only at hc1 hc2 hL hm1 hnz
      replace hxk := hide hxk
      replace hnz := hide hnz
      clear he hL
      by_cases hx : n1 = 0
      · have hd : decide (n1 = 0) = true := by simpa using hx
        have HD := hide hd
        replace hx := hide hx
        clear hd
        go_wp2_with (go_at_call 61; refine (pzero_any _ _ _ _ _ hm1).mono ?_; rintro e w2 ⟨he2, hb2⟩; rw [HD.out] at he2; subst he2)
        go_roundw
        case rel => exact ⟨k - 1, by omega, by go_num, fun j hj => by
            rcases Nat.lt_or_ge j k with h' | h'
            · obtain rfl : j = k - 1 := by omega
              rw [hxk.out]; exact hnz.out.1 hx.out
            · exact hz.out j h', hB.trans (hb2.mono hB.size)⟩
        case measure => simp [intOf]; omega
      · have hd : decide (n1 = 0) = false := by simpa using hx
        have HD := hide hd
        replace hx := hide hx
        clear hd
        go_wp2_with (go_at_call 61; refine (pzero_any _ _ _ _ _ hm1).mono ?_; rintro e w2 ⟨he2, hb2⟩; rw [HD.out] at he2; subst he2)
        go_ret
        exact HF.out k _ hk (hB.trans (hb2.mono hB.size)) hz.out (.inr (by rw [hxk.out]; exact fun h' => hx.out (hnz.out.2 h')))
    · obtain rfl : k = 0 := by omega
      go_wp2
      go_ret
      exact HF.out 0 _ hk hB hz.out (.inl rfl)

set_option maxRecDepth 100000 in
set_option maxHeartbeats 1000000 in
theorem pmade_any (A : Option Addr) (n c : Nat) (xs : List Int) (w : World) (h : PolyL w A n c xs) :
    Calls Tryz.prog 40 #[.slice A n c] w (ResPoly w xs) := by
  have hT := hide (ptrim_any A n c xs w h)
  go_enter Tryz.func40, Tryz.ntmps40
  go_wp2_with fail
  refine hT.out.mono ?_
  rintro e w1 ⟨rfl, hle, htk, hb1⟩
  have hP1 : PolyL w1 A (trimP xs).length (trimP xs).length (trimP xs) := by
    have := (h.below hb1).take hle
    rw [← htk] at this
    obtain ⟨es, h1, h2, h3⟩ := this
    exact ⟨es, ⟨h1.1, Nat.le_refl _, Nat.le_trans h1.2.1 h1.2.2.1, h1.2.2.2⟩, h2, h3⟩
  replace htk := hide htk
  obtain ⟨es, h1, h2, h3⟩ := hP1
  have hpk := PolyL.pok h1 h3 (by rw [h2]; exact trimP_last xs)
  rw [h2] at hpk
  have HP := hide (show PolyL w1 A (trimP xs).length (trimP xs).length (trimP xs) from ⟨es, h1, h2, h3⟩)
  replace h2 := hide h2
  replace h3 := hide h3
  generalize hk : okP (trimP xs) = k at *
  have HK := hide hk
  replace hpk := hide hpk
  generalize hm : (trimP xs).length = m at *
  replace hm := hide hm
  clear hk
  cases k
  · go_wp2_with (go_at_call 31; refine (pCheck_any _ _ _ _ _ h1).mono ?_; rintro e w2 ⟨he2, hb2⟩; rw [hpk.out] at he2; subst he2; simp only [errOf] at *)
    go_returns
    exact ⟨hb1.trans (hb2.mono hb1.size), none, 0, 0, 16, rfl, .inr ⟨HK.out, rfl, rfl, rfl⟩⟩
  · go_wp2_with (go_at_call 31; refine (pCheck_any _ _ _ _ _ h1).mono ?_; rintro e w2 ⟨he2, hb2⟩; rw [hpk.out] at he2; subst he2; simp only [errOf] at *)
    go_returns
    exact ⟨hb1.trans (hb2.mono hb1.size), _, _, _, _, rfl, .inl ⟨HK.out, rfl, HP.out.below hb2⟩⟩
end Go.Proofs.YtljocgdhdilglaaGreat

namespace Go.Proofs.YtljocgdhdilglaaGreat
open Go.RowKit

/-- The cells of numbers. -/
def cellsL : List WE → List Value
  | [] => []
  | e :: l => .bool e.neg :: .slice e.A e.n e.c :: cellsL l
def cellsW (es : List WE) : Array Value := (cellsL es).toArray

theorem cellsL_length (es : List WE) : (cellsL es).length = es.length * 2 := by
  induction es with
  | nil => rfl
  | cons e l ih => simp only [cellsL, List.length_cons, ih]; omega
theorem cellsL_get {es : List WE} {i : Nat} {e : WE} (h : es[i]? = some e) : (cellsL es)[i * 2]? = some (.bool e.neg) ∧ (cellsL es)[i * 2 + 1]? = some (.slice e.A e.n e.c) := by
  induction es generalizing i with
  | nil => simp at h
  | cons a l ih =>
    cases i with
    | zero => simp at h; subst h; exact ⟨rfl, rfl⟩
    | succ i =>
      have := ih (i := i) (by simpa using h)
      rw [show (i + 1) * 2 = i * 2 + 1 + 1 by omega]
      simpa [cellsL] using this
theorem cellsL_set {es : List WE} {i : Nat} (e : WE) (h : i < es.length) : ((cellsL es).set (i * 2) (.bool e.neg)).set (i * 2 + 1) (.slice e.A e.n e.c) = cellsL (es.set i e) := by
  induction es generalizing i with
  | nil => simp at h
  | cons a l ih =>
    cases i with
    | zero => rfl
    | succ i =>
      have := ih (i := i) (by simpa using h)
      rw [show (i + 1) * 2 = i * 2 + 1 + 1 by omega]
      simp only [cellsL, List.set_cons_succ, this]
theorem cellsL_noLimb (es : List WE) : ∀ (i x : Nat), (cellsL es)[i]? ≠ some (limb x) := by
  induction es with
  | nil => intro i x; simp [cellsL]
  | cons a l ih =>
    intro i x
    match i with
    | 0 => simp [cellsL]
    | 1 => simp [cellsL]
    | i + 2 => simpa [cellsL] using ih i x
theorem cellsW_get {es : List WE} {i : Nat} {e : WE} (h : es[i]? = some e) : (cellsW es)[i * 2]? = some (.bool e.neg) ∧ (cellsW es)[i * 2 + 1]? = some (.slice e.A e.n e.c) := by
  simpa [cellsW] using cellsL_get h
theorem cellsW_set {es : List WE} {i : Nat} (e : WE) (h : i < es.length) : ((cellsW es).setIfInBounds (i * 2) (.bool e.neg)).setIfInBounds (i * 2 + 1) (.slice e.A e.n e.c) = cellsW (es.set i e) := by
  unfold cellsW; rw [← cellsL_set e h]; simp
theorem cellsW_noLimb (es : List WE) : NoLimb (cellsW es) := fun i x => by simpa [cellsW] using cellsL_noLimb es i x
theorem cellsW_noLimb1 (es : List WE) (i : Nat) (b : Bool) : NoLimb ((cellsW es).setIfInBounds i (.bool b)) := fun j x => by
  rw [Array.getElem?_setIfInBounds]
  split
  · split <;> simp
  · exact cellsW_noLimb es j x

/-- A block of the call's own holds valid numbers, worth xs. -/
def POwn (t : TypeId) (w : World) (g : Nat) (xs : List Int) : Prop :=
  ∃ es : List WE, Blk w g t (cellsW es) ∧ (∀ e ∈ es, Lim w e.A e.n e.c e.l ∧ e.ok = true) ∧ es.map WE.num = xs

section
variable {t : TypeId} {w w' : World} {g : Nat} {xs : List Int}
theorem POwn.below (h : POwn t w g xs) (hb : Below w.heap.size w w') : POwn t w' g xs := by
  obtain ⟨es, h1, h2, h3⟩ := h
  exact ⟨es, keep_blk hb h1, fun e he => ⟨(h2 e he).1.below hb, (h2 e he).2⟩, h3⟩
theorem POwn.alloc (h : POwn t w g xs) (o : Obj) : POwn t (w.alloc o) g xs := h.below ((Below.refl _ _).alloc (Nat.le_refl _) _)
theorem POwn.drewN (h : POwn t w g xs) (k : Nat) : POwn t (w.drewN k) g xs := h.below (below_dn (Below.refl _ _) _)
theorem POwn.lt (h : POwn t w g xs) : g < w.heap.size := by obtain ⟨es, h1, _⟩ := h; exact h1.lt
theorem POwn.frozen (h : POwn t w g xs) (i : Nat) : w.frozen? ⟨g, i, none⟩ = false := by obtain ⟨es, h1, _⟩ := h; exact h1.frozen i
/-- An element. -/
theorem POwn.at_ (h : POwn t w g xs) {i : Nat} (hi : i < xs.length) : ∃ neg A n c, w.cell? ⟨g, i * 2, none⟩ = some (.bool neg) ∧ w.cell? ⟨g, i * 2 + 1, none⟩ = some (.slice A n c) ∧ Wd w neg A n c (xs[i]?.getD 0) := by
  obtain ⟨es, h1, h2, rfl⟩ := h
  have hl : i < es.length := by simpa using hi
  have he := List.getElem?_eq_getElem hl
  have hc := cellsW_get he
  have hm := h2 es[i] (List.getElem_mem hl)
  refine ⟨es[i].neg, es[i].A, es[i].n, es[i].c, by rw [h1.cell]; exact hc.1, by rw [h1.cell]; exact hc.2, ?_⟩
  rw [List.getElem?_map, he]
  exact WE.wd hm.1 hm.2
/-- A store of an element. -/
theorem POwn.set_ (h : POwn t w g xs) {i : Nat} (hi : i < xs.length) {neg : Bool} {A : Option Addr} {n c : Nat} {z : Int} (hz : Wd w neg A n c z) :
    POwn t ((w.setCell ⟨g, i * 2, none⟩ (.bool neg)).setCell ⟨g, i * 2 + 1, none⟩ (.slice A n c)) g (xs.set i z) := by
  obtain ⟨es, h1, h2, rfl⟩ := h
  have hl : i < es.length := by simpa using hi
  have hb1 : Blk (w.setCell ⟨g, i * 2, none⟩ (.bool neg)) g t ((cellsW es).setIfInBounds (i * 2) (.bool neg)) := h1.set_ _ _
  have hb2 := hb1.set_ (i * 2 + 1) (.slice A n c)
  have hs := cellsW_set (es := es) (i := i) ⟨neg, A, n, c, digits z.natAbs⟩ hl
  dsimp only at hs
  rw [hs] at hb2
  have keep : ∀ (A' : Option Addr) (n' c' : Nat) (l : List Nat), Lim w A' n' c' l → Lim ((w.setCell ⟨g, i * 2, none⟩ (.bool neg)).setCell ⟨g, i * 2 + 1, none⟩ (.slice A n c)) A' n' c' l := fun _ _ _ _ h => (h.set_box h1 (cellsW_noLimb es) _ _).set_box hb1 (cellsW_noLimb1 _ _ _) _ _
  refine ⟨_, hb2, fun e he => ?_, ?_⟩
  · rcases List.mem_or_eq_of_mem_set he with he | rfl
    · exact ⟨keep _ _ _ _ (h2 e he).1, (h2 e he).2⟩
    · exact ⟨keep _ _ _ _ hz.2.2, hz.ok⟩
  · rw [List.map_set]; congr 1; exact hz.sgEq
theorem POwn.poly (h : POwn t w g xs) (hn : xs.length ≤ maxLen) : PolyL w (some ⟨g, 0, none⟩) xs.length xs.length xs := by
  obtain ⟨es, h1, h2, rfl⟩ := h
  refine ⟨es, ⟨by simp, Nat.le_refl _, hn, fun _ => ⟨_, _, rfl, fun k e he => ?_⟩, fun e he => (h2 e he).1⟩, rfl, fun e he => (h2 e he).2⟩
  have hc := cellsW_get he
  rw [Nat.zero_add, h1.cell, h1.cell]
  exact hc
end

def zeroWE : WE := ⟨false, none, 0, 0, []⟩
theorem cellsL_zero (n : Nat) : cellsL (List.replicate n zeroWE) = (madeCells #[.bool false, .slice none 0 0] (n * 2)).toList := by
  apply List.ext_getElem?
  intro i
  have hm : (madeCells #[.bool false, .slice none 0 0] (n * 2)).toList[i]? = if i < n * 2 then some ((#[Value.bool false, Value.slice none 0 0])[i % 2]!) else none := by
    unfold madeCells
    by_cases h : i < n * 2
    · simp [h]
    · simp [h]
  rw [hm]
  by_cases h : i < n * 2
  · rw [if_pos h]
    have he : (List.replicate n zeroWE)[i / 2]? = some zeroWE := by rw [List.getElem?_replicate, if_pos (by omega)]
    have hc := cellsL_get he
    rcases Nat.mod_two_eq_zero_or_one i with h2 | h2
    · rw [show i / 2 * 2 = i by omega] at hc; rw [hc.1, h2]; rfl
    · rw [show i / 2 * 2 + 1 = i by omega] at hc; rw [hc.2, h2]; rfl
  · rw [if_neg h]
    exact List.getElem?_eq_none (by rw [cellsL_length]; simp; omega)

theorem makeW {P : Program} (t e : TypeId) {i : TypeInfo} (ht : P.underlying t = some (.slice e)) (hi : P.info? e = some i) (hz : i.zero = some (.agg #[.bool false, .slice none 0 0])) (hs : i.size = 2) (hb : i.bytes = 32)
    (x : Int) (n : Nat) (hx : x = n) (hn : n ≤ 1000000000000) (W : World) :
    (Instr.makeSlice t (.int .i64 x) (.int .i64 x)).run P W = .ok (.slice (some ⟨W.heap.size, 0, none⟩) n n) (W.alloc (.cells (cellsW (List.replicate n zeroWE)) e)) := by
  subst hx
  have hr := run_make (P := P) W t e i _ ht hi hz .i64 .i64 n n (by omega) (by omega) (by rw [hb]; omega) (by omega)
  simp only [Int.toNat_natCast] at hr
  rw [hr]
  have : madeCells (Value.agg #[.bool false, .slice none 0 0]).cells (n * i.size) = cellsW (List.replicate n zeroWE) := by
    rw [hs]
    apply Array.toList_inj.1
    unfold cellsW
    rw [cellsL_zero]
    rfl
  rw [this]
theorem POwn.new (t : TypeId) (w : World) (n : Nat) : POwn t (w.alloc (.cells (cellsW (List.replicate n zeroWE)) t)) w.heap.size (List.replicate n 0) :=
  ⟨List.replicate n zeroWE, Blk.new _ _ _, fun e he => by rw [(List.mem_replicate.1 he).2]; exact ⟨Lim.nil _ _ _ (Nat.zero_le _), rfl⟩, by simp [zeroWE, WE.num, sg, val]⟩
end Go.Proofs.YtljocgdhdilglaaGreat
