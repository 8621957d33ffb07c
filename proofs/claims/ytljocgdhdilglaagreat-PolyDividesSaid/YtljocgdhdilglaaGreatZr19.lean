/- The reference of layer 4: at, trim, made. The reference of layer 4: Add, Sub. The reference of layer 4: Derived, Deriv. The reference of layer 4: Times, Mul. -/
import Derived.Test.YtljocgdhdilglaaGreatZr18
set_option linter.unusedSimpArgs false
set_option linter.unusedVariables false

namespace Go.Proofs.YtljocgdhdilglaaGreat
open Go.RowKit
attribute [local go_sem] add_lit

theorem WL.reads {w : World} {A : Option Addr} {n c : Nat} {es : List WE} (h : WL w A n c es) : Reads w w.heap.size 2 A n (cellsL es) :=
  ⟨by rw [cellsL_length, h.len], fun hn => by
    obtain ⟨b, o, e, hc⟩ := h.2.2.2.1 hn
    have h0 := hc 0 _ (List.getElem?_eq_getElem (show 0 < es.length by rw [h.len]; exact hn))
    refine ⟨_, e, lt_of_cell h0.1, fun j u hu => ?_⟩
    rw [add_lit]
    have hj : j < (cellsL es).length := (List.getElem?_eq_some_iff.1 hu).1
    rw [cellsL_length] at hj
    have he := List.getElem?_eq_getElem (show j / 2 < es.length by omega)
    have h1 := hc _ _ he
    have h2 := cellsL_get he
    rcases Nat.mod_two_eq_zero_or_one j with hm | hm
    · have hj2 : j / 2 * 2 = j := by omega
      rw [hj2] at h1 h2
      rw [h1.1, ← hu, h2.1]
    · have hj2 : j / 2 * 2 + 1 = j := by omega
      rw [Nat.add_assoc, hj2] at h1
      rw [hj2] at h2
      rw [h1.2, ← hu, h2.2]⟩
theorem OwnP.empty (t : TypeId) (w : World) : OwnP t (w.alloc (.cells #[] t)) w.heap.size (.slice (some ⟨w.heap.size, 0, none⟩) 0 0) [] :=
  ⟨[], .inr ⟨w.heap.size, 0, rfl, Nat.le_refl _, Nat.zero_le _, Blk.new w t #[]⟩, fun e h => by simp at h, rfl⟩

set_option maxRecDepth 100000 in
set_option maxHeartbeats 1000000 in
theorem strim_any (A : Option Addr) (n c : Nat) (xs : List Int) (w : World) (h : PolyL w A n c xs) (hn1000 : n ≤ 900) :
    Calls Tryz.prog 55 #[.slice A n c] w (OutP w (trimP xs)) := by
  obtain ⟨iw, hi, hz0, hz1, hz2⟩ := info_parts infoW
  have hxl := hide h.len
  obtain ⟨es, h, hxs, hok⟩ := h
  have hnc := h.2.1
  have hcm := h.2.2.1
  unfold maxLen at hcm
  have hel := hide h.len
  have HF : Hid (∀ (k : Nat) (v1 : Value) (w1 : World), k ≤ n → (∀ j, k ≤ j → xs[j]?.getD 0 = 0) → (k = 0 ∨ xs[k - 1]?.getD 0 ≠ 0) → OwnP 25 w1 w.heap.size v1 ([] ++ (es.take k).map WE.num) → (w.alloc (.cells #[] 25)).grownBy w1 (Value.slice (some ⟨w.heap.size, 0, none⟩) 0 0).ownBlock → OutP w (trimP xs) (.returned v1) w1) := fun k v1 w1 hk hz hk0 ho hg => by
    rw [List.nil_append, List.map_take, hxs, ← trimP_take hz hk0] at ho
    obtain ⟨A1, c1, rfl, hP⟩ := ho.poly
    exact ⟨_, _, _, rfl, hP, ((Below.refl w.heap.size w).alloc (Nat.le_refl _) _).grown hg (by simp) (fun j hj => by simp [Value.ownBlock] at hj; omega)⟩
  have hfs : Hid (∀ k, ∀ e ∈ es.take k, Lim (w.alloc (.cells #[] 25)) e.A e.n e.c e.l ∧ e.ok = true) := fun k e he => ⟨(h.2.2.2.2 e (List.mem_of_mem_take he)).alloc _, hok e (List.mem_of_mem_take he)⟩
  replace hxs := hide hxs
  replace hok := hide hok
  go_enter Tryz.func55, Tryz.ntmps55
  go_wp2
  go_loop [3] (fun v => ∃ k : Nat, k ≤ n ∧ v = .int .i64 k ∧ Hid (∀ j, k ≤ j → xs[j]?.getD 0 = 0)) (fun v => (intOf v).toNat)
  case atStart => exact ⟨n, Nat.le_refl _, rfl, fun j hj => by rw [List.getElem?_eq_none (by rw [hxl.out]; exact hj)]; rfl⟩
  case round =>
    obtain ⟨k, hk, rfl, hz⟩ := hrel
    by_cases hk0 : 0 < k
    · have hd0 : decide ((0 : Int) < (k : Int)) = true := by simp; omega
      obtain ⟨b, o, e, rfl, he, hc1, hc2, hL⟩ := h.at_ (k := k - 1) (by omega)
      have hm1 := Nat.le_trans hL.2.1 hL.2.2.1
      unfold maxLen at hm1
      have hnz := WE.num_zero hL (hok.out e (List.mem_of_getElem? he))
      have hxk : xs[k - 1]?.getD 0 = e.num := by rw [← hxs.out, List.getElem?_map, he]; rfl
      obtain ⟨neg, A1, n1, c1, l1⟩ := e
      dsimp only at hc1 hc2 hL hm1 hnz
      replace hxk := hide hxk
      replace hnz := hide hnz
      clear he hL
      by_cases hx : n1 = 0
      · have hd : ((n1 : Int) == 0) = true := by simpa using hx
        replace hx := hide hx
        have hr := hide h
        clear h
        go_wp2
        go_round
        case rel => exact ⟨k - 1, by omega, by go_num, fun j hj => by
            rcases Nat.lt_or_ge j k with h' | h'
            · obtain rfl : j = k - 1 := by omega
              rw [hxk.out]; exact hnz.out.1 hx.out
            · exact hz.out j h'⟩
        case measure => simp [intOf]; omega
      · have hd : ((n1 : Int) == 0) = false := by simpa using hx
        have hxz := hide (show xs[k - 1]?.getD 0 ≠ 0 by rw [hxk.out]; exact fun h' => hx (hnz.out.2 h'))
        replace hx := hide hx
        have hr := hide (h.take hk)
        have hrl := hide (show (es.take k).length = k by rw [List.length_take, hel.out]; omega)
        clear h
        go_wp2_with (at_builtin; refine wpList_append_num _ rfl (.tmp 20) (.tmp 23) 22 rfl w.heap.size 25 iw Tryz.underlying22 hi hz0 hz1 hz2 _ _ rfl (OwnP.empty _ _) _ _ k c (es.take k) rfl (by exact (hr.out.alloc _).reads) hrl.out (hfs.out k) (by simp; omega) (by simp) ?_; intro v1 w1 hown1 hg1 hk1)
        go_ret
        exact HF.out k _ _ hk hz.out (.inr hxz.out) hown1 hg1
    · obtain rfl : k = 0 := by omega
      have hr := hide (h.take hk)
      clear h
      go_wp2_with (at_builtin; refine wpList_append_num _ rfl (.tmp 20) (.tmp 23) 22 rfl w.heap.size 25 iw Tryz.underlying22 hi hz0 hz1 hz2 _ _ rfl (OwnP.empty _ _) _ _ 0 c (es.take 0) rfl (by exact (hr.out.alloc _).reads) rfl (hfs.out 0) (by simp) (by simp) ?_; intro v1 w1 hown1 hg1 hk1)
      go_ret
      exact HF.out 0 _ _ hk hz.out (.inl rfl) hown1 hg1

end Go.Proofs.YtljocgdhdilglaaGreat

namespace Go.Proofs.YtljocgdhdilglaaGreat
open Go.RowKit
attribute [local go_sem] add_lit

theorem pOk_small {w : World} {A : Option Addr} {n c : Nat} {ps : List WE} (hp : WL w A n c ps) (kp : pOk ps = true) : ∀ i : Nat, ((ps.map WE.num)[i]?.getD 0).natAbs < pw 40 := fun i => by
  obtain ⟨_, hpk⟩ := pOk_parts kp
  rw [List.getElem?_map]
  rcases Option.eq_none_or_eq_some ps[i]? with h | ⟨e, h⟩
  · rw [h]; exact pw_pos 40
  · rw [h]; exact WE.small (hp.2.2.2.2 e (List.mem_of_getElem? h)) (hpk e (List.mem_of_getElem? h)).1 (hpk e (List.mem_of_getElem? h)).2
theorem map_range_snoc (f : Nat → Int) (i : Nat) : (List.range i).map f ++ [f i] = (List.range (i + 1)).map f := by rw [List.range_succ, List.map_append]; rfl

end Go.Proofs.YtljocgdhdilglaaGreat

namespace Go.Proofs.YtljocgdhdilglaaGreat
open Go.RowKit
attribute [local go_sem] add_lit

end Go.Proofs.YtljocgdhdilglaaGreat

namespace Go.Proofs.YtljocgdhdilglaaGreat
open Go.RowKit
attribute [local go_sem] add_lit

theorem trimP_length (xs : List Int) : (trimP xs).length ≤ xs.length := by
  induction xs with
  | nil => simp [trimP]
  | cons x l ih =>
    rw [trimP]
    cases h : trimP l with
    | nil => dsimp only; split <;> simp
    | cons y m => rw [h] at ih; simpa using ih
theorem mulP_zero {xs ys : List Int} (h : xs.length = 0 ∨ ys.length = 0) : trimP (mulP xs ys) = [] := by
  have hz : ∀ j, 0 ≤ j → (mulP xs ys)[j]?.getD 0 = 0 := fun j _ => by
    unfold mulP
    rw [List.getElem?_map]
    rcases Option.eq_none_or_eq_some (List.range (xs.length + ys.length - 1))[j]? with h' | ⟨v, h'⟩
    · rw [h']; rfl
    · rw [h']
      show coP xs ys v = 0
      unfold coP
      refine psum_zero fun i _ => ?_
      rcases h with h | h
      · rw [List.eq_nil_of_length_eq_zero h]; simp
      · rw [List.eq_nil_of_length_eq_zero h]; simp
  rw [trimP_take hz (.inl rfl), List.take_zero]

end Go.Proofs.YtljocgdhdilglaaGreat
