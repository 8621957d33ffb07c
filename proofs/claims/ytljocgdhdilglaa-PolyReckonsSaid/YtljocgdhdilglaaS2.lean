/- The reference of layer 4: at, trim, made. -/
import Derived.Test.YtljocgdhdilglaaS1
namespace Go.Proofs.Ytljocgdhdilglaa
open Go.RowKit
attribute [local go_sem] add_lit

set_option maxRecDepth 100000 in
set_option maxHeartbeats 1000000 in
theorem sat_any (A : Option Addr) (n c i : Nat) (es : List WE) (w : World) (h : WL w A n c es) (hk : ∀ e ∈ es, e.ok = true) (_hi : i ≤ 1000) :
    Calls Try.prog 26 #[.slice A n c, .int .i64 i] w (NumW w ((es.map WE.num)[i]?.getD 0)) := by
  have hnc := h.2.1
  have hcm := h.2.2.1
  unfold maxLen at hcm
  by_cases hin : i < n
  · obtain ⟨b, o, e, rfl, he, hc1, hc2, hL⟩ := h.at_ hin
    rw [h.num_at he]
    have hW := WE.wd hL (hk e (List.mem_of_getElem? he))
    obtain ⟨neg, A1, n1, c1, l1⟩ := e
    dsimp only at hc1 hc2 hL hW
    generalize WE.num ⟨neg, A1, n1, c1, l1⟩ = x at *
    have hlt := lt_of_cell hc1
    replace he := hide he
    replace hk := hide hk
    clear hL
    go_enter Try.func26, Try.ntmps26
    go_wp2
    refine bodyPost_ret (v := .agg #[.bool neg, .slice A1 n1 c1]) (by simp [results, Try.results26, go_sem]) rfl ?_
    exact ⟨(Below.refl _ _).alloc (Nat.le_refl _) _, _, _, _, _, rfl, hW.alloc _⟩
  · rw [h.num_none (by omega)]
    replace hk := hide hk
    have hd : decide ((i : Int) < (n : Int)) = false := by simp; omega
    go_enter Try.func26, Try.ntmps26
    go_wp2
    refine bodyPost_ret (v := .agg #[.bool false, .slice none 0 0]) (by simp [results, Try.results26, go_sem]) rfl ?_
    exact ⟨(Below.refl _ _).alloc (Nat.le_refl _) _, _, _, _, _, rfl, Wd.zero _⟩

theorem WL.reads {w : World} {A : Option Addr} {n c : Nat} {es : List WE} (h : WL w A n c es) : Reads w w.heap.size 2 A n (cellsL es) :=
  ⟨by rw [cellsL_length, h.len], fun hn => by
    obtain ⟨b, o, e, hc⟩ := h.2.2.2.1 hn
    have h0 := hc 0 _ (List.getElem?_eq_getElem (show 0 < es.length by rw [h.len]; exact hn))
    refine ⟨_, e, lt_of_cell h0.1, fun j u hu => ?_⟩
    rw [add_lit]
    have hj : j < (cellsL es).length := (List.getElem?_eq_some_iff.1 hu).1
    rw [cellsL_length] at hj
    have he := List.getElem?_eq_getElem (show j / 2 < es.length by omega)
    have h1 := hc _ _ he
    have h2 := cellsL_get he
    rcases Nat.mod_two_eq_zero_or_one j with hm | hm
    · have hj2 : j / 2 * 2 = j := by omega
      rw [hj2] at h1 h2
      rw [h1.1, ← hu, h2.1]
    · have hj2 : j / 2 * 2 + 1 = j := by omega
      rw [Nat.add_assoc, hj2] at h1
      rw [hj2] at h2
      rw [h1.2, ← hu, h2.2]⟩
theorem OwnP.empty (t : TypeId) (w : World) : OwnP t (w.alloc (.cells #[] t)) w.heap.size (.slice (some ⟨w.heap.size, 0, none⟩) 0 0) [] :=
  ⟨[], .inr ⟨w.heap.size, 0, rfl, Nat.le_refl _, Nat.zero_le _, Blk.new w t #[]⟩, fun e h => by simp at h, rfl⟩

set_option maxRecDepth 100000 in
set_option maxHeartbeats 1000000 in
theorem strim_any (A : Option Addr) (n c : Nat) (xs : List Int) (w : World) (h : PolyL w A n c xs) (hn1000 : n ≤ 900) :
    Calls Try.prog 50 #[.slice A n c] w (OutP w (trimP xs)) := by
  obtain ⟨iw, hi, hz0, hz1, hz2⟩ := info_parts infoW
  have hxl := hide h.len
  obtain ⟨es, h, hxs, hok⟩ := h
  have hnc := h.2.1
  have hcm := h.2.2.1
  unfold maxLen at hcm
  have hel := hide h.len
  have HF : Hid (∀ (k : Nat) (v1 : Value) (w1 : World), k ≤ n → (∀ j, k ≤ j → xs[j]?.getD 0 = 0) → (k = 0 ∨ xs[k - 1]?.getD 0 ≠ 0) → OwnP 36 w1 w.heap.size v1 ([] ++ (es.take k).map WE.num) → (w.alloc (.cells #[] 36)).grownBy w1 (Value.slice (some ⟨w.heap.size, 0, none⟩) 0 0).ownBlock → OutP w (trimP xs) (.returned v1) w1) := fun k v1 w1 hk hz hk0 ho hg => by
    rw [List.nil_append, List.map_take, hxs, ← trimP_take hz hk0] at ho
    obtain ⟨A1, c1, rfl, hP⟩ := ho.poly
    exact ⟨_, _, _, rfl, hP, ((Below.refl w.heap.size w).alloc (Nat.le_refl _) _).grown hg (by simp) (fun j hj => by simp [Value.ownBlock] at hj; omega)⟩
  have hfs : Hid (∀ k, ∀ e ∈ es.take k, Lim (w.alloc (.cells #[] 36)) e.A e.n e.c e.l ∧ e.ok = true) := fun k e he => ⟨(h.2.2.2.2 e (List.mem_of_mem_take he)).alloc _, hok e (List.mem_of_mem_take he)⟩
  replace hxs := hide hxs
  replace hok := hide hok
  go_enter Try.func50, Try.ntmps50
  go_wp2
  go_loop [3] (fun v => ∃ k : Nat, k ≤ n ∧ v = .int .i64 k ∧ Hid (∀ j, k ≤ j → xs[j]?.getD 0 = 0)) (fun v => (intOf v).toNat)
  case atStart => exact ⟨n, Nat.le_refl _, rfl, fun j hj => by rw [List.getElem?_eq_none (by rw [hxl.out]; exact hj)]; rfl⟩
  case round =>
    obtain ⟨k, hk, rfl, hz⟩ := hrel
    by_cases hk0 : 0 < k
    · have hd0 : decide ((0 : Int) < (k : Int)) = true := by simp; omega
      obtain ⟨b, o, e, rfl, he, hc1, hc2, hL⟩ := h.at_ (k := k - 1) (by omega)
      have hm1 := Nat.le_trans hL.2.1 hL.2.2.1
      unfold maxLen at hm1
      have hnz := WE.num_zero hL (hok.out e (List.mem_of_getElem? he))
      have hxk : xs[k - 1]?.getD 0 = e.num := by rw [← hxs.out, List.getElem?_map, he]; rfl
      obtain ⟨neg, A1, n1, c1, l1⟩ := e
      dsimp only at hc1 hc2 hL hm1 hnz
      replace hxk := hide hxk
      replace hnz := hide hnz
      clear he hL
      by_cases hx : n1 = 0
      · have hd : ((n1 : Int) == 0) = true := by simpa using hx
        replace hx := hide hx
        have hr := hide h
        clear h
        go_wp2
        go_round
        case rel => exact ⟨k - 1, by omega, by go_num, fun j hj => by
            rcases Nat.lt_or_ge j k with h' | h'
            · obtain rfl : j = k - 1 := by omega
              rw [hxk.out]; exact hnz.out.1 hx.out
            · exact hz.out j h'⟩
        case measure => simp [intOf]; omega
      · have hd : ((n1 : Int) == 0) = false := by simpa using hx
        have hxz := hide (show xs[k - 1]?.getD 0 ≠ 0 by rw [hxk.out]; exact fun h' => hx (hnz.out.2 h'))
        replace hx := hide hx
        have hr := hide (h.take hk)
        have hrl := hide (show (es.take k).length = k by rw [List.length_take, hel.out]; omega)
        clear h
        go_wp2_with (at_builtin; refine wpList_append_num _ rfl (.tmp 20) (.tmp 23) 22 rfl w.heap.size 36 iw Try.underlying22 hi hz0 hz1 hz2 _ _ rfl (OwnP.empty _ _) _ _ k c (es.take k) rfl (by exact (hr.out.alloc _).reads) hrl.out (hfs.out k) (by simp; omega) (by simp) ?_; intro v1 w1 hown1 hg1 hk1)
        go_ret
        exact HF.out k _ _ hk hz.out (.inr hxz.out) hown1 hg1
    · obtain rfl : k = 0 := by omega
      have hr := hide (h.take hk)
      clear h
      go_wp2_with (at_builtin; refine wpList_append_num _ rfl (.tmp 20) (.tmp 23) 22 rfl w.heap.size 36 iw Try.underlying22 hi hz0 hz1 hz2 _ _ rfl (OwnP.empty _ _) _ _ 0 c (es.take 0) rfl (by exact (hr.out.alloc _).reads) rfl (hfs.out 0) (by simp) (by simp) ?_; intro v1 w1 hown1 hg1 hk1)
      go_ret
      exact HF.out 0 _ _ hk hz.out (.inl rfl) hown1 hg1

set_option maxRecDepth 100000 in
set_option maxHeartbeats 1000000 in
theorem smade_any (A : Option Addr) (n c : Nat) (xs : List Int) (w : World) (h : PolyL w A n c xs) (hn : n ≤ 900) :
    Calls Try.prog 27 #[.slice A n c] w (ResPoly w xs) := by
  have hT := hide (strim_any A n c xs w h hn)
  go_enter Try.func27, Try.ntmps27
  go_wp2_with fail
  refine hT.out.mono ?_
  rintro e w1 ⟨A1, n1, c1, rfl, hP1, hb1⟩
  clear hT
  obtain ⟨es, h1, h2, h3⟩ := hP1
  have hpk := PolyL.pok h1 h3 (by rw [h2]; exact trimP_last xs)
  rw [h2] at hpk
  have HP := hide (show PolyL w1 A1 n1 c1 (trimP xs) from ⟨es, h1, h2, h3⟩)
  replace h2 := hide h2
  replace h3 := hide h3
  by_cases hk : okP (trimP xs) = true
  · have he : Hid (errOf (pOk es) = 0) := by unfold Hid; rw [hpk, hk]; rfl
    replace hpk := hide hpk
    replace hk := hide hk
    go_wp2_with fail
    refine (sCheck_any _ _ _ _ _ h1).mono ?_
    rintro e w2 ⟨he2, hb2⟩
    rw [he.out] at he2
    subst he2
    go_wp2_with fail
    go_returns
    exact ⟨hb1.trans (hb2.mono hb1.size), _, _, _, _, rfl, .inl ⟨hk.out, rfl, HP.out.below hb2⟩⟩
  · have hk' : okP (trimP xs) = false := by simpa using hk
    have he : Hid (errOf (pOk es) = 8) := by unfold Hid; rw [hpk, hk']; rfl
    replace hpk := hide hpk
    replace hk := hide hk'
    clear hk'
    go_wp2_with fail
    refine (sCheck_any _ _ _ _ _ h1).mono ?_
    rintro e w2 ⟨he2, hb2⟩
    rw [he.out] at he2
    subst he2
    go_wp2_with fail
    go_returns
    exact ⟨hb1.trans (hb2.mono hb1.size), none, 0, 0, 16, rfl, .inr ⟨hk.out, rfl, rfl, rfl⟩⟩
end Go.Proofs.Ytljocgdhdilglaa
