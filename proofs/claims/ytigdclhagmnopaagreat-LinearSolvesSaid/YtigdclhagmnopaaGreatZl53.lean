/- The reference's Inverted, Inverse. -/
import Derived.Test.YtigdclhagmnopaaGreatZl52
set_option maxRecDepth 100000
set_option maxHeartbeats 8000000
set_option linter.unusedSimpArgs false
set_option linter.unusedVariables false
namespace Go.Proofs.YtigdclhagmnopaaGreat
open Go.RowKit
attribute [local go_sem] Zi
def Ze3 (n j : Nat) : List Rat := (List.range n).map fun k => if j = k then 1 else 0
def wideI (Q : List (List Rat)) (n i t : Nat) : List (List Rat) := (List.range n).map fun j => Q[j]?.getD [] ++ if j < i then Ze3 n j else if j = i then (Ze3 n j).take t else []
theorem Zir (Q : List (List Rat)) (n i t : Nat) : (wideI Q n i t).length = n := by unfold wideI; simp
theorem Zd7 {Q : List (List Rat)} {n i t j : Nat} (hj : j < n) : (wideI Q n i t)[j]?.getD [] = Q[j]?.getD [] ++ if j < i then Ze3 n j else if j = i then (Ze3 n j).take t else [] := by
 unfold wideI
 rw [List.getElem?_map, List.getElem?_range hj]; rfl
theorem Zpf (Q : List (List Rat)) : wideI Q Q.length 0 0 = Q := by
 unfold wideI
 apply List.ext_getElem?
 intro j
 rw [List.getElem?_map]
 by_cases hj : j < Q.length
 ·rw [List.getElem?_range hj, Option.map_some, if_neg (Nat.not_lt_zero _), List.take_zero, ite_self, List.append_nil, List.getElem?_eq_getElem hj]; rfl
 ·rw [List.getElem?_eq_none (by simpa using hj), List.getElem?_eq_none (l := Q) (by omega)]; rfl
theorem Zc2 (n j : Nat) : (Ze3 n j).length = n := by unfold Ze3; simp
theorem Zo5 (Q : List (List Rat)) (n i : Nat) : wideI Q n i n = wideI Q n (i + 1) 0 := by
 unfold wideI
 refine List.map_congr_left fun j hj => ?_
 congr 1
 rcases Nat.lt_trichotomy j i with h | h | h
 ·rw [if_pos h, if_pos (by omega)]
 ·subst h; rw [if_neg (Nat.lt_irrefl _), if_pos rfl, if_pos (by omega), List.take_of_length_le (by rw [Zc2]; exact Nat.le_refl _)]
 ·rw [if_neg (by omega), if_neg (by omega), if_neg (by omega), List.take_zero, ite_self]
theorem Zma {Q : List (List Rat)} {n i t : Nat} (hi : i < n) (ht : t < n) : (wideI Q n i t).set i ((wideI Q n i t)[i]?.getD [] ++ [if i = t then 1 else 0]) = wideI Q n i (t + 1) := by
 apply List.ext_getElem?
 intro j
 rw [List.getElem?_set, Zir, Zd7 hi, if_neg (Nat.lt_irrefl _), if_pos rfl]
 by_cases hij : i = j
 ·subst hij
  rw [if_pos rfl, if_pos hi]
  unfold wideI
  rw [List.getElem?_map, List.getElem?_range hi, Option.map_some, if_neg (Nat.lt_irrefl _), if_pos rfl, List.append_assoc]
  congr 2
  rw [List.take_add_one]
  congr 1
  unfold Ze3
  rw [List.getElem?_map, List.getElem?_range ht]; rfl
 ·rw [if_neg hij]
  unfold wideI
  rw [List.getElem?_map, List.getElem?_map]
  by_cases hj : j < n
  ·rw [List.getElem?_range hj]
   simp only [Option.map_some, Option.some.injEq]
   congr 1
   by_cases h : j < i
   ·rw [if_pos h, if_pos h]
   ·rw [if_neg h, if_neg h, if_neg (by omega), if_neg (by omega)]
  ·rw [List.getElem?_eq_none (by simpa using hj)]; rfl
def InvtR (Q : List (List Rat)) (n : Nat) (X : Nat -> Nat -> Rat) (w : World) (e : Ending) (w' : World) : Prop :=
 ((Zs n 0 0 (wideI Q n n 0) false).2.1 < n /\ e = .returned (.tuple #[.slice none 0 0, .bool false]) /\ Below w.heap.size w w') \/
 ((Zs n 0 0 (wideI Q n n 0) false).2.1 = n /\ ∃ v L, e = .returned (.tuple #[v, .bool true]) /\ Below w.heap.size w w' /\ MatO 40 45 w' w.heap.size v L /\ L.map RF.q = Zcg X n (n + n))
theorem Zg8 (A : Option Addr) (n c : Nat) (Q : List (List Rat)) (w : World) (h : MFL w A n c Q) (hn0 : 0 < n) (hn9 : n <= 12) (hQr : ∀ i, i < n -> (Q[i]?.getD []).length = n) (hok : okR (pw 200) (pw 200) (n + n) n 0 0 (wideI Q n n 0)) (hrk : (Zs n 0 0 (wideI Q n n 0) false).2.1 <= n)
    (X : Nat -> Nat -> Rat) (hX : (Zs n 0 0 (wideI Q n n 0) false).2.1 = n -> Zdw (Zl (Zs n 0 0 (wideI Q n n 0) false).1) X n (n + n)) :
    Calls Tryz.prog 80 #[.slice A n c] w (InvtR Q n X w) := by
 have hmx : Tryz.prog.follows .mixedOrders = true := by kernel_rfl
 have hts : (40 : TypeId) ≠ 45 := by decide
 obtain ⟨iF, hi, hz0, hz1, hz2⟩ := info_parts Zcq
 have hQl := h.1
 replace h := Za h
 replace hQr := Za hQr
 replace hok := Za hok
 replace hrk := Za hrk
 replace hX := Za hX
 go_enter Tryz.func80, Tryz.ntmps80
 go_wp2_with fail
 refine (Zje A n c n Q w h.out (by omega) hQr.out (by omega) (by omega)).mono ?_
 rintro e w3 ⟨v, rs3, rfl, hb3, hMO⟩
 have hrl : rs3.length = n := by rw [hMO.2.1, hQl]
 obtain ⟨go, cap, rfl, hc1, hc2, hM3⟩ := hMO.mat (fun e => by rw [e] at hrl; simp at hrl; omega)
 rw [hrl] at hc1 ⊢
 obtain ⟨base, hbase⟩ : ∃ x, w.heap.size = x := ⟨_, rfl⟩
 rw [hbase] at hM3
 have hb3b : base <= w3.heap.size := by rw [<- hbase]; exact hb3.size
 rw [<- Zpf Q, hQl] at hM3
 replace hM3 := Za hM3
 replace hc2 := Za hc2
 replace hb3 := Za hb3
 clear hMO
 go_wp2_with fail
 go_loopg [5] n (fun k iv wr => ∃ (i : Nat) (rs4 : List RS), i + k = n /\ iv = .int .i64 i /\ Hid (rs4.length = n) /\ MatA 40 45 wr base go rs4 (wideI Q n i 0) /\ Below base w3 wr)
 case atStart => exact ⟨0, rs3, by omega, rfl, Za hrl, hM3.out, Below.refl _ _⟩
 case round =>
  clear hM3 hrl
  obtain ⟨i, rs4, hik, rfl, hrl, hM, hBr⟩ := hrel
  cases gk with
  | zero =>
   obtain rfl : i = n := by omega
   have hBw := hb3.out.trans (hBr.mono (by rw [hbase]; exact Nat.le_refl _))
   have t2 : decide ((i : Int) < (i : Int)) = false := by simp
   have hMF := hM.mfl (c := cap) (by rw [hrl.out]; exact hc1) hc2.out
   rw [hrl.out] at hMF
   have hml : ∀ j, j < i -> ((wideI Q i i 0)[j]?.getD []).length = i + i := fun j hj => by
    rw [Zd7 hj, if_pos hj, List.length_append, hQr.out j hj, Zc2]
   replace hMF := Za hMF
   replace hml := Za hml
   clear hM
   go_wp2_with fail
   by_cases hlt : (Zs i 0 0 (wideI Q i i 0) false).2.1 < i
   ·replace hlt := Za hlt
    refine (Zjy (some ⟨go, 0, none⟩) i cap (i + i) (wideI Q i i 0) wr hMF.out (by omega) (by omega) (by omega) (by omega) hml.out hok.out hlt.out).mono ?_
    rintro e w5 ⟨rfl, hb5⟩
    go_wp2_with fail
    go_returns
    exact .inl ⟨hlt.out, rfl, hBw.trans (hb5.mono hBw.size)⟩
   ·have hre : Hid ((Zs i 0 0 (wideI Q i i 0) false).2.1 = i) := Za (Nat.le_antisymm hrk.out (Nat.not_lt.1 hlt))
    clear hlt
    refine (Zj4 (some ⟨go, 0, none⟩) i cap (i + i) (wideI Q i i 0) wr hMF.out (by omega) (by omega) (by omega) (by omega) hml.out hok.out hre.out X (hX.out hre.out)).mono ?_
    rintro e w5 ⟨v, L, rfl, hb5, hMO5, hLq⟩
    replace hMO5 := Za hMO5
    go_wp2_with fail
    go_returns
    exact .inr ⟨hre.out, _, L, rfl, hBw.trans (hb5.mono hBw.size), hMO5.out.base hBw.size, hLq⟩
  | succ k' =>
   obtain rfl : k' = n - (i + 1) := by omega
   have hin : i < n := by omega
   have t2 : decide ((i : Int) < (n : Int)) = true := decide_eq_true (by omega)
   have bi : (i : Int) < (n : Int) := by omega
   replace hM := Za hM
   replace hBr := Za hBr
   go_wp2_with fail
   go_loopg [6] n (fun k kv wx => ∃ (t : Nat) (rs5 : List RS), t + k = n /\ kv = .int .i64 t /\ Hid (rs5.length = n) /\ MatA 40 45 wx base go rs5 (wideI Q n i t) /\ Below base w3 wx)
   case atStart => exact ⟨0, rs4, by omega, rfl, hrl, hM.out, hBr.out⟩
   case round =>
    clear hM hBr hrl
    obtain ⟨t, rs5, htk, rfl, hrl, hM, hBr⟩ := hrel
    cases gk with
    | zero =>
     obtain rfl : t = n := by omega
     have t3 : decide ((t : Int) < (t : Int)) = false := by simp
     rw [Zo5] at hM
     replace hM := Za hM
     replace hBr := Za hBr
     go_wp2_with fail
     go_roundg (t - (i + 1))
     case measure => omega
     case rel => exact ⟨i + 1, rs5, by omega, by go_num, hrl, hM.out, hBr.out⟩
    | succ k2 =>
     obtain rfl : k2 = n - (t + 1) := by omega
     have htn : t < n := by omega
     have t3 : decide ((t : Int) < (n : Int)) = true := decide_eq_true (by omega)
     obtain ⟨r, hr⟩ := Zat (L := rs5) (i := i) (by rw [hrl.out]; exact hin)
     obtain ⟨cr, zr⟩ := hM.cell hr
     have hqi : ((wideI Q n i t)[i]?.getD []).length + 1 <= 1000 := by
      rw [Zd7 hin, if_neg (Nat.lt_irrefl _), if_pos rfl, List.length_append, hQr.out i hin, List.length_take, Zc2]; omega
     have hbase0 : base <= wr.heap.size := Nat.le_trans hb3b hBr.size
     replace hM := Za hM
     replace hqi := Za hqi
     by_cases hit : i = t
     ·skip
      have t4 : decide ((i : Int) = (t : Int)) = true := decide_eq_true (by omega)
      have t5 : ((i : Int) == (t : Int)) = true := by simp; omega
      replace hit := Za hit
      go_wp2_with fail
      obtain ⟨X0, hX0⟩ : ∃ X, wr.drew = X := ⟨_, rfl⟩
      have hr1 : Below wr.heap.size wr X0 := by rw [<- hX0]; exact Zf (Below.refl _ _) 1
      have hSv1 : Hid (∀ wx, Below wr.heap.size wr wx -> wx.cell? ⟨go, i, none⟩ = some (.slice r.A r.n r.c)) := Za (fun wx hbx => Zb hbx cr)
      refine wp_heldS [11] hmx hSv1 (by rw [hX0]; exact hr1) (fun hxs => ?_)
      rw [hX0]
      refine Zij 7 [0, 1, 2, 3, 4, 5, 6] rfl (by kernel_rfl) (hSv1.out _ hr1) ?_
      iterate 7 (refine tk1 (v := ?_) rfl (Or.inl ⟨by kernel_rfl, ?_⟩) ?_; rotate_left; (· intro W2 hSw; (try dsimp only at hSw); go_simp; try with_reducible rfl); try simp only [Act.put, Zfg, Zfj, Zfc, putG_a, putG_s, putG_z])
      refine tk0 ?_
      refine Ze (i := 7) rfl (by kernel_rfl) (fun K hK => ?_)
      go_simp
      refine (Zgv 1 X0 (by omega) (by omega)).mono ?_
      rintro e X00 ⟨hb00, n6, A6, k6, c6, m6, B6, j6, d6, rfl, hf6⟩
      have hr0 : Below wr.heap.size wr X00 := hr1.trans (hb00.mono hr1.size)
      refine hK.out _ _ (fun _ => hSv1.out _ hr0) ?_
      clear hK K
      try simp only [Act.put, Zfg, Zfj, Zfc]
      obtain ⟨Y1, hY1⟩ : ∃ Y, X00.alloc (.cells #[.bool n6, .slice A6 k6 c6, .bool m6, .slice B6 j6 d6] 45) = Y := ⟨_, rfl⟩
      obtain ⟨ga, hga⟩ : ∃ g, X00.heap.size = g := ⟨_, rfl⟩
      have hBY : Below X00.heap.size X00 Y1 := by rw [<- hY1]; exact (Below.refl _ _).alloc (Nat.le_refl _) _
      have hbl : Blk Y1 ga 45 #[.bool n6, .slice A6 k6 c6, .bool m6, .slice B6 j6 d6] := by rw [<- hY1, <- hga]; exact Blk.new _ _ _
      have hr2 : Below wr.heap.size wr Y1 := hr0.trans (hBY.mono hr0.size)
      refine Ze (i := 8) rfl (by kernel_rfl) (fun K hK => ?_)
      go_simp
      (try rw [hY1])
      (try rw [hga])
      refine hK.out _ _ (fun _ => hSv1.out _ hr2) ?_
      clear hK K hY1 hga
      try simp only [Act.put, Zfg, Zfj, Zfc]
      have hAY := (hM.out).below hr2
      have hfY := hf6.below hBY
      have hYb : base <= Y1.heap.size := Nat.le_trans hbase0 hr2.size
      have hOr := hAY.2.2.2.1 i r hr
      refine Ze (i := 9) rfl (by kernel_rfl) (fun K hK => ?_)
      rw [if_pos (by rfl)]
      refine Zdv _ (.tmp 30) (.tmp 33) 40 rfl base 45 iF Tryz.underlying40 hi hz0 hz1 hz2 (r).val _ rfl hOr _ (some ⟨ga, 0, none⟩) 1 1 [⟨n6, A6, k6, c6, m6, B6, j6, d6, ((1 : Int) : Rat)⟩] rfl (Zde _ hbl) rfl (by intro e he; rw [List.mem_singleton] at he; subst he; exact hfY) hqi.out hYb ?_
      intro v2 Y2 hO2 hg2 hk2 hw2
      obtain ⟨nA, nn, nc, rfl⟩ : ∃ A n c, v2 = .slice A n c := by
       obtain ⟨A, c, e, -⟩ := hO2.fl
       exact ⟨_, _, _, e⟩
      have hown := hOr.ownBlk
      have hsame : ∀ (g o : Nat) (v : Value), (r).val.ownBlock ≠ some g -> Y1.cell? ⟨g, o, none⟩ = some v -> Y2.cell? ⟨g, o, none⟩ = some v := fun g o v hgg hv => by
       rw [<- hv]
       exact World.cell?_of_block (hg2.block g (Zr hv) (fun e => hgg e.symm))
      have hM9 := Za (hAY.app hts (i := i) (r' := ⟨nA, nn, nc⟩) hr hg2 hO2 hk2 hw2)
      rw [show (wideI Q n i t)[i]?.getD [] ++ List.map FE.q [⟨n6, A6, k6, c6, m6, B6, j6, d6, ((1 : Int) : Rat)⟩] = (wideI Q n i t)[i]?.getD [] ++ [if i = t then 1 else 0] by
       rw [if_pos hit.out]; rfl, Zma hin htn] at hM9
      have hngo : r.val.ownBlock ≠ some go := fun e => by
       obtain ⟨cs, a1, -, -⟩ := hown go e
       obtain ⟨⟨zs, a2⟩, -⟩ := hAY
       exact hts (a2.type a1)
      have hS2 : Y2.cell? ⟨go, i, none⟩ = some (.slice r.A r.n r.c) := hsame _ _ _ hngo (hSv1.out _ hr2)
      have hB9 : Hid (Below base w3 (Y2.setCell ⟨go, i, none⟩ (RS.val ⟨nA, nn, nc⟩))) := Za (((hBr.trans (hr2.mono hbase0)).grown hg2 (Nat.le_trans hb3b (hBr.trans (hr2.mono hbase0)).size) (fun k hk => (hown k hk).choose_spec.2.2)).setCell hM9.out.2.1 _)
      have kzO : Y2.frozen? ⟨go, i, none⟩ = false := by
       rw [World.frozen?_of_block (hg2.block go (by obtain ⟨⟨zs, a2⟩, -⟩ := hAY; exact a2.lt) (fun e => hngo e.symm))]
       exact (hAY.cell hr).2
      refine hK.out _ _ (fun _ => hS2) ?_
      clear hK K
      try simp only [Act.put, Zfg, Zfj, Zfc]
      refine Zfh 1 [10] rfl (by kernel_rfl) hS2 ?_
      (refine tk1 (v := ?_) rfl (Or.inl ⟨by kernel_rfl, ?_⟩) ?_; rotate_left; (· intro W2 _; go_simp; try with_reducible rfl); try simp only [Act.put, Zfg, Zfj, Zfc, putG_a, putG_s, putG_z])
      refine tk0 ?_
      have kO2 := hS2
      have hl9 : Hid ((rs5.set i ⟨nA, nn, nc⟩).length = n) := Za (by rw [List.length_set]; exact hrl.out)
      clear hS2 hO2 hown hOr hAY hfY hbl hBY hr2 hsame hngo
      refine Zt (i := 11) rfl (by kernel_rfl) (by kernel_rfl) (fun K hK => ?_)
      go_simp
      refine hK.out _ _ ?_
      clear hK K
      try simp only [Act.put, Zfg, Zfj, Zfc]
      refine Zk (by kernel_rfl) ?_ _
      refine OnlyNormal.normal ?_
      clear kO2 kzO hxs hSv1 hr1 hr0 hb00 hf6 cr zr hg2 hk2 hw2
      go_wp2_with fail
      go_roundg (n - (t + 1))
      case measure => omega
      case rel => exact ⟨t + 1, _, by omega, by go_num, hl9, hM9.out, hB9.out⟩
     ·skip
      have t4 : decide ((i : Int) = (t : Int)) = false := decide_eq_false (by omega)
      have t5 : ((i : Int) == (t : Int)) = false := by simp; omega
      replace hit := Za hit
      go_wp2_with fail
      obtain ⟨X0, hX0⟩ : ∃ X, wr.drew = X := ⟨_, rfl⟩
      have hr1 : Below wr.heap.size wr X0 := by rw [<- hX0]; exact Zf (Below.refl _ _) 1
      have hSv1 : Hid (∀ wx, Below wr.heap.size wr wx -> wx.cell? ⟨go, i, none⟩ = some (.slice r.A r.n r.c)) := Za (fun wx hbx => Zb hbx cr)
      refine wp_heldS [11] hmx hSv1 (by rw [hX0]; exact hr1) (fun hxs => ?_)
      rw [hX0]
      refine Zij 7 [0, 1, 2, 3, 4, 5, 6] rfl (by kernel_rfl) (hSv1.out _ hr1) ?_
      iterate 7 (refine tk1 (v := ?_) rfl (Or.inl ⟨by kernel_rfl, ?_⟩) ?_; rotate_left; (· intro W2 hSw; (try dsimp only at hSw); go_simp; try with_reducible rfl); try simp only [Act.put, Zfg, Zfj, Zfc, putG_a, putG_s, putG_z])
      refine tk0 ?_
      refine Ze (i := 7) rfl (by kernel_rfl) (fun K hK => ?_)
      go_simp
      refine (Zgv 0 X0 (by omega) (by omega)).mono ?_
      rintro e X00 ⟨hb00, n6, A6, k6, c6, m6, B6, j6, d6, rfl, hf6⟩
      have hr0 : Below wr.heap.size wr X00 := hr1.trans (hb00.mono hr1.size)
      refine hK.out _ _ (fun _ => hSv1.out _ hr0) ?_
      clear hK K
      try simp only [Act.put, Zfg, Zfj, Zfc]
      obtain ⟨Y1, hY1⟩ : ∃ Y, X00.alloc (.cells #[.bool n6, .slice A6 k6 c6, .bool m6, .slice B6 j6 d6] 45) = Y := ⟨_, rfl⟩
      obtain ⟨ga, hga⟩ : ∃ g, X00.heap.size = g := ⟨_, rfl⟩
      have hBY : Below X00.heap.size X00 Y1 := by rw [<- hY1]; exact (Below.refl _ _).alloc (Nat.le_refl _) _
      have hbl : Blk Y1 ga 45 #[.bool n6, .slice A6 k6 c6, .bool m6, .slice B6 j6 d6] := by rw [<- hY1, <- hga]; exact Blk.new _ _ _
      have hr2 : Below wr.heap.size wr Y1 := hr0.trans (hBY.mono hr0.size)
      refine Ze (i := 8) rfl (by kernel_rfl) (fun K hK => ?_)
      go_simp
      (try rw [hY1])
      (try rw [hga])
      refine hK.out _ _ (fun _ => hSv1.out _ hr2) ?_
      clear hK K hY1 hga
      try simp only [Act.put, Zfg, Zfj, Zfc]
      have hAY := (hM.out).below hr2
      have hfY := hf6.below hBY
      have hYb : base <= Y1.heap.size := Nat.le_trans hbase0 hr2.size
      have hOr := hAY.2.2.2.1 i r hr
      refine Ze (i := 9) rfl (by kernel_rfl) (fun K hK => ?_)
      rw [if_pos (by rfl)]
      refine Zdv _ (.tmp 30) (.tmp 33) 40 rfl base 45 iF Tryz.underlying40 hi hz0 hz1 hz2 (r).val _ rfl hOr _ (some ⟨ga, 0, none⟩) 1 1 [⟨n6, A6, k6, c6, m6, B6, j6, d6, ((0 : Int) : Rat)⟩] rfl (Zde _ hbl) rfl (by intro e he; rw [List.mem_singleton] at he; subst he; exact hfY) hqi.out hYb ?_
      intro v2 Y2 hO2 hg2 hk2 hw2
      obtain ⟨nA, nn, nc, rfl⟩ : ∃ A n c, v2 = .slice A n c := by
       obtain ⟨A, c, e, -⟩ := hO2.fl
       exact ⟨_, _, _, e⟩
      have hown := hOr.ownBlk
      have hsame : ∀ (g o : Nat) (v : Value), (r).val.ownBlock ≠ some g -> Y1.cell? ⟨g, o, none⟩ = some v -> Y2.cell? ⟨g, o, none⟩ = some v := fun g o v hgg hv => by
       rw [<- hv]
       exact World.cell?_of_block (hg2.block g (Zr hv) (fun e => hgg e.symm))
      have hM9 := Za (hAY.app hts (i := i) (r' := ⟨nA, nn, nc⟩) hr hg2 hO2 hk2 hw2)
      rw [show (wideI Q n i t)[i]?.getD [] ++ List.map FE.q [⟨n6, A6, k6, c6, m6, B6, j6, d6, ((0 : Int) : Rat)⟩] = (wideI Q n i t)[i]?.getD [] ++ [if i = t then 1 else 0] by
       rw [if_neg hit.out]; rfl, Zma hin htn] at hM9
      have hngo : r.val.ownBlock ≠ some go := fun e => by
       obtain ⟨cs, a1, -, -⟩ := hown go e
       obtain ⟨⟨zs, a2⟩, -⟩ := hAY
       exact hts (a2.type a1)
      have hS2 : Y2.cell? ⟨go, i, none⟩ = some (.slice r.A r.n r.c) := hsame _ _ _ hngo (hSv1.out _ hr2)
      have hB9 : Hid (Below base w3 (Y2.setCell ⟨go, i, none⟩ (RS.val ⟨nA, nn, nc⟩))) := Za (((hBr.trans (hr2.mono hbase0)).grown hg2 (Nat.le_trans hb3b (hBr.trans (hr2.mono hbase0)).size) (fun k hk => (hown k hk).choose_spec.2.2)).setCell hM9.out.2.1 _)
      have kzO : Y2.frozen? ⟨go, i, none⟩ = false := by
       rw [World.frozen?_of_block (hg2.block go (by obtain ⟨⟨zs, a2⟩, -⟩ := hAY; exact a2.lt) (fun e => hngo e.symm))]
       exact (hAY.cell hr).2
      refine hK.out _ _ (fun _ => hS2) ?_
      clear hK K
      try simp only [Act.put, Zfg, Zfj, Zfc]
      refine Zfh 1 [10] rfl (by kernel_rfl) hS2 ?_
      (refine tk1 (v := ?_) rfl (Or.inl ⟨by kernel_rfl, ?_⟩) ?_; rotate_left; (· intro W2 _; go_simp; try with_reducible rfl); try simp only [Act.put, Zfg, Zfj, Zfc, putG_a, putG_s, putG_z])
      refine tk0 ?_
      have kO2 := hS2
      have hl9 : Hid ((rs5.set i ⟨nA, nn, nc⟩).length = n) := Za (by rw [List.length_set]; exact hrl.out)
      clear hS2 hO2 hown hOr hAY hfY hbl hBY hr2 hsame hngo
      refine Zt (i := 11) rfl (by kernel_rfl) (by kernel_rfl) (fun K hK => ?_)
      go_simp
      refine hK.out _ _ ?_
      clear hK K
      try simp only [Act.put, Zfg, Zfj, Zfc]
      refine Zk (by kernel_rfl) ?_ _
      refine OnlyNormal.normal ?_
      clear kO2 kzO hxs hSv1 hr1 hr0 hb00 hf6 cr zr hg2 hk2 hw2
      go_wp2_with fail
      go_roundg (n - (t + 1))
      case measure => omega
      case rel => exact ⟨t + 1, _, by omega, by go_num, hl9, hM9.out, hB9.out⟩
theorem Zm7 (A : Option Addr) (n c : Nat) (Q : List (List Rat)) (w : World) (h : MFL w A n c Q) (hn0 : 0 < n) (hn9 : n <= 12) (hQr : ∀ i, i < n -> (Q[i]?.getD []).length = n) (hok : okR (pw 200) (pw 200) (n + n) n 0 0 (wideI Q n n 0)) (hrk : (Zs n 0 0 (wideI Q n n 0) false).2.1 < n) :
    Calls Tryz.prog 80 #[.slice A n c] w fun e w' => e = .returned (.tuple #[.slice none 0 0, .bool false]) /\ Below w.heap.size w w' :=
 (Zg8 A n c Q w h hn0 hn9 hQr hok (by omega) (fun _ _ => 0) (fun h => by omega)).mono fun e w' h => by
  rcases h with h | h
  ·exact h.2
  ·have := h.1; omega
theorem Zm8 (A : Option Addr) (n c : Nat) (Q : List (List Rat)) (w : World) (h : MFL w A n c Q) (hn0 : 0 < n) (hn9 : n <= 12) (hQr : ∀ i, i < n -> (Q[i]?.getD []).length = n) (hok : okR (pw 200) (pw 200) (n + n) n 0 0 (wideI Q n n 0)) (hrk : (Zs n 0 0 (wideI Q n n 0) false).2.1 = n)
    (X : Nat -> Nat -> Rat) (hX : Zdw (Zl (Zs n 0 0 (wideI Q n n 0) false).1) X n (n + n)) :
    Calls Tryz.prog 80 #[.slice A n c] w fun e w' => ∃ v L, e = .returned (.tuple #[v, .bool true]) /\ Below w.heap.size w w' /\ MatO 40 45 w' w.heap.size v L /\ L.map RF.q = Zcg X n (n + n) :=
 (Zg8 A n c Q w h hn0 hn9 hQr hok (by omega) X (fun _ => hX)).mono fun e w' h => by
  rcases h with h | h
  ·have := h.1; omega
  ·exact h.2
theorem Zmm (A : Option Addr) (n c : Nat) (rs : List RX) (w : World) (h : MXL w A n c rs) (E : Int) (hs : sqE rs = E) (hE : E ≠ 0) :
    Calls Tryz.prog 29 #[.slice A n c] w fun e w' => e = .returned (.tuple #[.slice none 0 0, .int .i64 E]) /\ Below w.heap.size w w' := by
 have t1 : decide (E ≠ 0) = true := decide_eq_true hE
 have t1' : (E != 0) = true := by simpa using hE
 replace h := Za h
 replace hs := Za hs
 replace hE := Za hE
 go_enter Tryz.func29, Tryz.ntmps29
 go_wp2_with fail
 refine (Zbc A n c rs w h.out E hs.out).mono ?_
 rintro e w1 ⟨rfl, hb1⟩
 go_wp2_with fail
 refine (Zbc A n c rs w1 (h.out.below hb1) E hs.out).mono ?_
 rintro e w2 ⟨rfl, hb2⟩
 go_wp2_with fail
 go_returns
 exact ⟨rfl, hb1.trans (hb2.mono hb1.size)⟩
theorem Znw (A : Option Addr) (n c : Nat) (rs : List RX) (w : World) (h : MXL w A n c rs) (hs : sqE rs = 0) (hn9 : n <= 12) (hok : okR (pw 200) (pw 200) (n + n) n 0 0 (wideI (qM rs) n n 0)) (hrk : (Zs n 0 0 (wideI (qM rs) n n 0) false).2.1 < n) :
    Calls Tryz.prog 29 #[.slice A n c] w fun e w' => e = .returned (.tuple #[.slice none 0 0, .int .i64 18]) /\ Below w.heap.size w w' := by
 replace hok := Za hok
 replace hrk := Za hrk
 obtain ⟨hE1, hE2⟩ := Zc4 hs
 obtain ⟨f1, f2, f3, f4, f5⟩ := Zbg hE1
 have hl := h.1
 have hQr := Zgb h hE1
 rw [show n0R rs = n by omega] at hQr
 have hF0 := h.good hE1
 have hn1 : 1 <= n := by omega
 replace h := Za h
 replace hs := Za hs
 replace hF0 := Za hF0
 replace hQr := Za hQr
 clear f3 f4 f5 hE1 hE2
 go_enter Tryz.func29, Tryz.ntmps29
 go_wp2_with fail
 refine (Zbc A n c rs w h.out 0 hs.out).mono ?_
 rintro e w1 ⟨rfl, hb1⟩
 go_wp2_with fail
 refine (Zm7 A n c (qM rs) w1 (hF0.out.below hb1) (by omega) hn9 hQr.out hok.out hrk.out).mono ?_
 rintro e w2 ⟨rfl, hb2⟩
 go_wp2_with fail
 go_returns
 exact ⟨rfl, hb1.trans (hb2.mono hb1.size)⟩
theorem Zoz (A : Option Addr) (n c : Nat) (rs : List RX) (w : World) (h : MXL w A n c rs) (hs : sqE rs = 0) (hn9 : n <= 12) (hok : okR (pw 200) (pw 200) (n + n) n 0 0 (wideI (qM rs) n n 0)) (hrk : (Zs n 0 0 (wideI (qM rs) n n 0) false).2.1 = n)
    (X : Nat -> Nat -> Rat) (hX : Zdw (Zl (Zs n 0 0 (wideI (qM rs) n n 0) false).1) X n (n + n)) :
    Calls Tryz.prog 29 #[.slice A n c] w fun e w' => ∃ v L, e = .returned (.tuple #[v, .int .i64 0]) /\ Below w.heap.size w w' /\ MatO 40 45 w' w.heap.size v L /\ L.map RF.q = Zcg X n (n + n) := by
 replace hok := Za hok
 replace hrk := Za hrk
 replace hX := Za hX
 obtain ⟨hE1, hE2⟩ := Zc4 hs
 obtain ⟨f1, f2, f3, f4, f5⟩ := Zbg hE1
 have hl := h.1
 have hQr := Zgb h hE1
 rw [show n0R rs = n by omega] at hQr
 have hF0 := h.good hE1
 have hn1 : 1 <= n := by omega
 replace h := Za h
 replace hs := Za hs
 replace hF0 := Za hF0
 replace hQr := Za hQr
 clear f3 f4 f5 hE1 hE2
 go_enter Tryz.func29, Tryz.ntmps29
 go_wp2_with fail
 refine (Zbc A n c rs w h.out 0 hs.out).mono ?_
 rintro e w1 ⟨rfl, hb1⟩
 go_wp2_with fail
 refine (Zm8 A n c (qM rs) w1 (hF0.out.below hb1) (by omega) hn9 hQr.out hok.out hrk.out X hX.out).mono ?_
 rintro e w2 ⟨v, L, rfl, hb2, hM, hq⟩
 replace hM := Za hM
 go_wp2_with fail
 go_returns
 exact ⟨_, L, rfl, hb1.trans (hb2.mono hb1.size), hM.out.base hb1.size, hq⟩
end Go.Proofs.YtigdclhagmnopaaGreat
