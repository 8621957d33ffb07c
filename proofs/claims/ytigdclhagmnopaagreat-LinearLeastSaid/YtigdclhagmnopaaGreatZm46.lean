/- Package linear: back, where there is no solution. -/
import Derived.Lib.AppendZeros
import Derived.Test.YtigdclhagmnopaaGreatZm45
set_option maxRecDepth 100000
set_option maxHeartbeats 8000000
set_option linter.unusedSimpArgs false
set_option linter.unusedVariables false
namespace Go.Proofs.YtigdclhagmnopaaGreat
open Go.RowKit Go.Shelf
attribute [local go_sem] Zh
attribute [local go_sem] Oper.semAt_some
theorem Zub (A : Option Addr) (n c m : Nat) (Q : List (List Rat)) (w : World) (h : MFL w A n c Q) (hn0 : 0 < n) (hn9 : n <= 900) (hnm : n <= m) (hm9 : m <= 900) (hm : ∀ i, i < n -> (Q[i]?.getD []).length = m) (hok : okZ (pw 200) m n 0 0 (Z8 Q) 1) (hfin : Znx Q n m) (hrk : (Zaq n 0 0 (Z8 Q) false 1).2.1 < n) :
    Calls Tryz.prog 63 #[.slice A n c, .int .i64 n] w fun e w' => e = .returned (.tuple #[.slice none 0 0, .bool false]) /\ Below w.heap.size w w' := by
 have hmx : Tryz.prog.follows .mixedOrders = true := by kernel_rfl
 have hne : (89 : TypeId) ≠ 43 := by decide
 have hts : (40 : TypeId) ≠ 45 := by decide
 have ntF : Hid (NoT 3 22 88 89 43 45) := Za (by unfold NoT; decide)
 have ntS : Hid (NoT 3 22 88 89 43 40) := Za (by unfold NoT; decide)
 obtain ⟨iF, hi, hz0, hz1, hz2⟩ := info_parts Zdq
 obtain ⟨iS, ki, kz0, kz1, kz2⟩ := info_parts Zg0
 have hQl := Za h.1
 obtain ⟨W0, hW0, hB0, q0, s0⟩ := Zea w 3 #[.int .i64 n]
 replace h := h.below hB0
 obtain ⟨FIN, hFIN⟩ : ∃ X, Zaq n 0 0 (Z8 Q) false 1 = X := ⟨_, rfl⟩
 rw [hFIN] at hrk
 obtain ⟨E', rk, ng, la⟩ := FIN
 replace hrk : rk < n := hrk
 replace hFIN := Za hFIN
 replace hok := Za hok
 refine (callsIn_wide (n := 9)).1 ?_
 refine callsIn_of_wp_marks Tryz.func63 rfl trivial ?_ rfl
 simp only [Tryz.ntmps63, List.size_toArray, List.length_cons, List.length_nil, Nat.reduceAdd, Nat.reduceSub, Array.replicate_succ, Array.replicate_zero, List.push_toArray, List.append_toArray, List.nil_append, List.cons_append]
 refine wpIn_wide.2 ?_
 go_wp2_with fail
 refine (Zmd A n c m Q W0 h hn9 hm (by omega) hm9 hfin.1 hfin.2).mono ?_
 rintro e w1 ⟨v, vb, L, rfl, hb1, hM, hq, hP, hdis⟩
 obtain ⟨vA, vc, rfl, hbc1, hbc2, -⟩ := hP.poly_at
 rw [List.length_map, List.length_range] at hbc1 hP hdis ⊢
 unfold maxLen at hbc2
 have hLl := congrArg List.length hq
 rw [List.length_map] at hLl
 unfold Z8 at hLl
 rw [List.length_map, hQl.out] at hLl
 obtain ⟨go, cap, rfl, hc1, hc2, hgo, hMM, hgs⟩ := hM.mat hne (fun e => by rw [e] at hLl; simp at hLl; omega)
 rw [hLl] at hc1 ⊢
 obtain ⟨g3, hg3⟩ : ∃ g, w1.heap.size = g := ⟨_, rfl⟩
 obtain ⟨V, hV, hBV, qv, kW, kB, sV⟩ := Z0 91 #[.slice (some ⟨go, 0, none⟩) n cap, .slice vA n vc] (Below.refl w1.heap.size w1) (Nat.le_refl _)
 have hMV := hMM.below hBV
 have q0V := (Zc hb1 q0).below hBV (Zc hb1 q0).lt
 rw [hg3] at qv
 obtain ⟨x0, x1, -, -⟩ := qv.two
 have nV := q0V.cell 0
 simp at nV
 replace hLl := Za hLl
 have hsz0 : Hid (w.heap.size < W0.heap.size) := Za (by omega)
 have hBV0 : Hid (Below W0.heap.size W0 V) := Za (hb1.trans (hBV.mono hb1.size))
 have hgo1 : ∀ k, (k = go \/ k ∈ L.map RZ.g) -> W0.heap.size <= k := fun k hk => by
  rcases hk with rfl | hk
  ·exact hgo
  ·obtain ⟨s, hs, rfl⟩ := List.mem_map.1 hk
   exact hgs s hs
 have hlt3 : ∀ k, (k = go \/ k ∈ L.map RZ.g) -> k < g3 := fun k hk => by
  obtain ⟨t, cs, hb, -⟩ := hMM.boxes k hk
  rw [<- hg3]; exact hb.lt
 replace hgo1 := Za hgo1
 replace hlt3 := Za hlt3
 replace qv := Za qv
 replace q0V := Za q0V
 clear hM hMM kW kB sV hdis hP h hW0 hgo hgs q0 hb1 hBV
 go_wp2_with fail
 (try rw [hg3])
 (try rw [hV])
 refine (Zg6 go n cap L (.slice vA n vc) m n V hMV hLl.out hn0 hn9 hc1 hc2 (by omega) hm9 (by rw [hq]; exact hok.out)).mono ?_
 rw [hq, hFIN.out]
 rintro e w2 ⟨L2, ln, lA, lk, lc, rfl, hwl, hL2l, -, hL2q, hM2, hK2⟩
 replace hL2q : L2.map RZ.q = E' := hL2q
 clear hV x0 x1 nV
 have hne3 : ¬ (g3 = go \/ g3 ∈ L.map RZ.g) := fun h => by have := hlt3.out g3 h; omega
 have q3 := hK2.blk qv.out hne3
 have q0w := hK2.blk q0V.out (fun h => by have := hgo1.out _ h; have := hsz0.out; omega)
 have hB2 : Below W0.heap.size W0 w2 := hBV0.out.trans (hK2.to_below hgo1.out hBV0.out.size)
 obtain ⟨g6, hg6⟩ : ∃ g, w2.heap.size = g := ⟨_, rfl⟩
 obtain ⟨V2, hV2, hBV2, qv2, kW, kB, sV⟩ := Z0 43 #[.bool ln, .slice lA lk lc] (Below.refl w2.heap.size w2) (Nat.le_refl _)
 have q3V2 := q3.below hBV2 q3.lt
 have q0V2 := q0w.below hBV2 q0w.lt
 have hM2V := hM2.below hBV2
 have hBV02 := Za (hB2.trans (hBV2.mono hB2.size))
 obtain ⟨y0, y1, -, -⟩ := q3V2.two
 have nV2 := q0V2.cell 0
 simp at nV2
 have t1 : decide ((rk : Int) < (n : Int)) = true := decide_eq_true (by omega)
 have hB9 : Hid (Below w.heap.size w V2) := Za (hB0.trans (hBV02.out.mono hB0.size))
 clear hMV hK2 hB2 hwl q3 q0w kW kB sV hgo1 hlt3 hBV2 q3V2 q0V2 hM2 qv2 hne3 q0V qv hBV0 hM2V hm hfin hok
 go_wp2_with fail
 (try rw [hg6])
 (try rw [hV2])
 go_wp2_with fail
 exact ⟨.tuple #[.slice none 0 0, .bool false], by simp [results, Tryz.f63, go_sem], rfl, hB9.out⟩
open Go.RowKit
theorem Zt9 (k : Nat) (w : World) (h0 : 0 < k) (h9 : k <= 900) :
    Calls Tryz.prog 118 #[.slice none 0 0, .int .i64 k] w fun e w' => ∃ v, e = .returned v /\ Below w.heap.size w w' /\ OwnF 45 w' w.heap.size v [] := by
 obtain ⟨iF, hi, hz0, hz1, hz2⟩ := info_parts Zdq
 have hge := grownCap_ge w k 0 45
 have hcm := grownCap_le_maxLen w k 0 45 (by unfold maxLen; omega)
 obtain ⟨cap, hcap⟩ : ∃ c, grownCap w k 0 45 = c := ⟨_, rfl⟩
 have hrun := fun ty => Go.Lib.run_append_nil_zeros (P := Tryz.prog) w 40 3 ty 45 iF _ .i64 .i64 Tryz.underlying40 Tryz.underlying3 hi hz0 k h0 (by omega) (by omega) (by rw [hz2]; omega)
 obtain ⟨W1, hW1⟩ : ∃ W, w.drew.alloc (.cells (Builtin.zeroCells (Value.agg #[.bool false, .slice none 0 0, .bool false, .slice none 0 0]).cells k ++ Builtin.zeroCells (Value.agg #[.bool false, .slice none 0 0, .bool false, .slice none 0 0]).cells (grownCap w k 0 45 - k)) 45) = W := ⟨_, rfl⟩
 rw [hW1, hcap] at hrun
 rw [hcap] at hge hcm hW1
 obtain ⟨g, hg⟩ : ∃ g, w.heap.size = g := ⟨_, rfl⟩
 have hb : Below w.heap.size w W1 := by rw [<- hW1]; exact ((Ze (Below.refl _ _) 1).alloc (Nat.le_refl _) _)
 have hbk : Blk W1 g 45 (Zan (List.replicate cap Zbk)) := by
  have h1 : Builtin.zeroCells (Value.agg #[.bool false, .slice none 0 0, .bool false, .slice none 0 0]).cells k ++ Builtin.zeroCells (Value.agg #[.bool false, .slice none 0 0, .bool false, .slice none 0 0]).cells (cap - k) = Zan (List.replicate cap Zbk) := by
   apply Array.toList_inj.1
   rw [Array.toList_append, show (Value.agg #[.bool false, .slice none 0 0, .bool false, .slice none 0 0]).cells = #[.bool false, .slice none 0 0, .bool false, .slice none 0 0] from rfl, Zb0, Zb0, <- Zat, List.replicate_append_replicate, Nat.add_sub_cancel' hge]
   rfl
  rw [<- hW1, h1, <- hg]
  exact Blk.new _ _ _
 rw [hg] at hrun hb ⊢
 have t1 : ¬ ((k : Int) < 0) := by omega
 have t2 : decide ((k : Int) < 0) = false := decide_eq_false t1
 have t3 : decide ((k : Int) > 0) = true := decide_eq_true (by omega)
 have t4 : decide ((0 : Int) < (k : Int)) = true := decide_eq_true (by omega)
 have t5 : decide (0 < k) = true := decide_eq_true h0
 have hcap0 : (0 : Int) <= (cap : Int) := by omega
 clear hW1 hg hcap
 go_enter Tryz.func118, Tryz.ntmps118
 go_wp2_with (at_builtin; refine Go.Lib.wpList_append_run w rfl (.tmp 20) (.tmp 21) 40 3 rfl (.slice none 0 0) (.int .i64 k) rfl rfl _ _ (hrun _) ?_)
 go_ret
 exact ⟨_, rfl, hb, [], .inr ⟨g, cap, by simp, Nat.le_refl _, by simpa using hcm, by simpa using hbk⟩, fun e he => (by cases he), rfl⟩
theorem Zlx {α : Type} (l : List (List α)) {i : Nat} {x : List α} (h : l[i]? = some x) : (l.take (i + 1)).flatten = (l.take i).flatten ++ x := by
 rw [List.take_add_one, h, List.flatten_append]; simp
theorem Zm2 {α : Type} (l : List (List α)) (i : Nat) : (l.take i).flatten.length <= l.flatten.length := by
 have h : l.flatten = (l.take i).flatten ++ (l.drop i).flatten := by rw [<- List.flatten_append, List.take_append_drop]
 rw [h, List.length_append]; omega
theorem Zsf (go n c : Nat) (L : List RF) (w : World) (hM : MatB 40 45 w go L) (hl : L.length = n) (hn9 : n <= 900) (hc : n <= c) (hcm : c <= maxLen) (h0 : 0 < (L.map RF.q).flatten.length) (h9 : (L.map RF.q).flatten.length <= 900) :
    Calls Tryz.prog 64 #[.slice (some ⟨go, 0, none⟩) n c] w fun e w' => ∃ v, e = .returned v /\ Below w.heap.size w w' /\ OwnF 45 w' w.heap.size v (L.map RF.q).flatten := by
 obtain ⟨iF, hi, hz0, hz1, hz2⟩ := info_parts Zdq
 unfold maxLen at hcm
 replace hl := Za hl
 replace hM := Za hM
 obtain ⟨T, hT⟩ : ∃ T, (L.map RF.q).flatten.length = T := ⟨_, rfl⟩
 rw [hT] at h0 h9
 have hTi : Hid (∀ i, ((L.map RF.q).take i).flatten.length <= T) := Za (fun i => by rw [<- hT]; exact Zm2 _ i)
 replace hT := Za hT
 go_enter Tryz.func64, Tryz.ntmps64
 go_wp2_with fail
 go_loopg [11, 3] n (fun k iv sv wr => ∃ i s : Nat, i + k = n /\ iv = .int .i64 i /\ sv = .int .i64 s /\ Hid (((L.map RF.q).take i).flatten.length = s) /\ Hid (wr = w))
 case atStart => exact ⟨0, 0, by omega, rfl, rfl, Za (by simp), Za rfl⟩
 case round =>
  obtain ⟨i, s, hik, rfl, rfl, hs, hwr⟩ := hrel
  have hwr := hwr.out
  subst hwr
  obtain ⟨w3, hw3⟩ : ∃ x : World, x = wr := ⟨_, rfl⟩
  subst hw3
  cases gk with
  | zero =>
   obtain rfl : i = n := by omega
   have t1 : decide ((i : Int) < (i : Int)) = false := by simp
   obtain rfl : s = T := by
    rw [<- hs.out, List.take_of_length_le (by rw [List.length_map, hl.out]; exact Nat.le_refl _)]; exact hT.out
   go_wp2_with fail
   refine (Zt9 s _ h0 h9).mono ?_
   rintro e w1 ⟨v, rfl, hb1, hO1⟩
   obtain ⟨vA, vc, rfl, -⟩ := hO1.fl
   replace hO1 := Za hO1
   go_wp2_with fail
   go_loopg [27, 6] i (fun k iv ov w2 => ∃ (j : Nat) (v : Value), j + k = i /\ iv = .int .i64 j /\ ov = v /\ Below w3.heap.size w3 w2 /\ OwnF 45 w2 w3.heap.size v ((L.map RF.q).take j).flatten)
   case atStart => exact ⟨0, _, by omega, rfl, rfl, hb1, hO1.out⟩
   case round =>
    clear hb1 hO1
    obtain ⟨j, v, hjk, rfl, rfl, hB, hO⟩ := hrel
    cases gk with
    | zero =>
     obtain rfl : j = i := by omega
     have t1 : decide ((j : Int) < (j : Int)) = false := by simp
     replace hO := Za hO
     go_wp2_with fail
     go_ret
     refine ⟨_, rfl, hB, ?_⟩
     have h1 := hO.out
     rw [List.take_of_length_le (by rw [List.length_map, hl.out]; exact Nat.le_refl _)] at h1
     exact h1
    | succ k' =>
     obtain rfl : k' = i - (j + 1) := by omega
     have hji : j < i := by omega
     have t1 : decide ((j : Int) < (i : Int)) = true := decide_eq_true (by omega)
     have bi : (j : Int) < (i : Int) := by omega
     obtain ⟨x, hx⟩ := Zax (L := L) (i := j) (by rw [hl.out]; exact hji)
     have hM2 := hM.out.below hB
     obtain ⟨cx, -⟩ := hM2.cell hx
     obtain ⟨fx, fx1, fx2⟩ := hM2.row hx
     obtain ⟨fs, hR, hfl, hfe, hfq⟩ := (fx.fl fx1 fx2).reads
     have e1 := Zlx (L.map RF.q) (i := j) (x := x.q) (by rw [List.getElem?_map, hx]; rfl)
     have e2 := hTi.out (j + 1)
     rw [e1, List.length_append] at e2
     replace e1 := Za e1
     have e3 : ((L.map RF.q).take j).flatten.length + x.q.length <= 1000 := by omega
     replace e3 := Za e3
     replace hfe := Za hfe
     have hs := hB.size
     clear fx e2 hM2
     go_wp2_with (at_builtin; refine Zbq _ rfl (.tmp 31) (.tmp 32) 40 rfl w3.heap.size 45 iF Tryz.underlying40 hi hz0 hz1 hz2 _ ((L.map RF.q).take j).flatten rfl hO _ _ _ _ fs rfl hR hfl hfe.out e3.out hs ?_; intro v2 w5 hO2 hg5 hk5)
     have hB5 := hB.grown hg5 hs (fun k hk => hO.row_ge k hk)
     rw [hfq, <- e1.out] at hO2
     go_roundg (i - (j + 1))
     case measure => omega
     case rel => exact ⟨j + 1, _, by omega, by go_num, rfl, hB5, hO2⟩
  | succ k' =>
   obtain rfl : k' = n - (i + 1) := by omega
   have hin : i < n := by omega
   have t1 : decide ((i : Int) < (n : Int)) = true := decide_eq_true (by omega)
   have bi : (i : Int) < (n : Int) := by omega
   obtain ⟨x, hx⟩ := Zax (L := L) (i := i) (by rw [hl.out]; exact hin)
   obtain ⟨cx, -⟩ := hM.out.cell hx
   have e1 := Zlx (L.map RF.q) (i := i) (x := x.q) (by rw [List.getElem?_map, hx]; rfl)
   have e2 := hTi.out (i + 1)
   rw [e1, List.length_append, hs.out] at e2
   have e3 : Hid (((L.map RF.q).take (i + 1)).flatten.length = s + x.q.length) := Za (by rw [e1, List.length_append, hs.out])
   obtain ⟨y, hy⟩ : ∃ y, x.q.length = y := ⟨_, rfl⟩
   rw [hy] at cx e2 e3
   have t2 : decide ((s : Int) + (y : Int) < 0) = false := decide_eq_false (by omega)
   clear e1
   go_wp2_with fail
   go_roundg (n - (i + 1))
   case measure => omega
   case rel => exact ⟨i + 1, s + y, by omega, by go_num, by go_num, e3, Za rfl⟩
theorem Zr0 (A : Option Addr) (n c : Nat) (Q : List (List Rat)) (w : World) (h : MFL w A n c Q) (hn9 : n <= 900) (hm : ∀ i, i < n -> 0 < (Q[i]?.getD []).length) :
    Calls Tryz.prog 71 #[.slice A n c] w fun e w' => ∃ v, e = .returned v /\ Below w.heap.size w w' /\ OwnF 45 w' w.heap.size v (Q.map fun r => r[0]?.getD 0) := by
 obtain ⟨iF, hi, hz0, hz1, hz2⟩ := info_parts Zdq
 have hl := Za h.1
 have hcm := h.2.2.1
 unfold maxLen at hcm
 have hnc := h.2.1
 replace h := Za h
 replace hm := Za hm
 go_enter Tryz.func71, Tryz.ntmps71
 go_wp2_with fail
 go_loopg [3, 4] n (fun k ov iv wr => ∃ i : Nat, i + k = n /\ iv = .int .i64 i /\ Below w.heap.size w wr /\ OwnF 45 wr w.heap.size ov ((Q.map fun r => r[0]?.getD 0).take i))
 case atStart => exact ⟨0, by omega, rfl, Below.refl _ _, OwnF.nil _ _ _⟩
 case round =>
  obtain ⟨i, hik, rfl, hB, hO⟩ := hrel
  cases gk with
  | zero =>
   obtain rfl : i = n := by omega
   have t1 : decide ((i : Int) < (i : Int)) = false := by simp
   replace hO := Za hO
   go_wp2_with fail
   go_ret
   refine ⟨_, rfl, hB, ?_⟩
   have h1 := hO.out
   rw [List.take_of_length_le (by rw [List.length_map, hl.out]; exact Nat.le_refl _)] at h1
   exact h1
  | succ k' =>
   obtain rfl : k' = n - (i + 1) := by omega
   have hin : i < n := by omega
   have t1 : decide ((i : Int) < (n : Int)) = true := decide_eq_true (by omega)
   have bi : (i : Int) < (n : Int) := by omega
   obtain ⟨g, o, A1, n1, c1, rfl, k0, hF⟩ := (h.out.below hB).at_ hin
   have hn1 := hm.out i hin
   rw [hF.len] at hn1
   have bn1 : (0 : Int) < (n1 : Int) := by omega
   obtain ⟨g1, o1, na, B1, m1, d1, nb, B2, m2, d2, rfl, hA4, hf⟩ := hF.at_ (k := 0) hn1
   obtain ⟨r0, r1, r2, r3⟩ := hA4
   simp only [Nat.zero_mul, Nat.add_zero] at r0 r1 r2 r3
   have hs := hB.size
   have hll : ((Q.map fun r => r[0]?.getD 0).take i).length + 1 <= 1000 := by rw [List.length_take, List.length_map]; omega
   have hq : Hid ((Q.map fun r => r[0]?.getD 0).take i ++ [(Q[i]?.getD [])[0]?.getD 0] = (Q.map fun r => r[0]?.getD 0).take (i + 1)) := Za (by
    rw [List.take_add_one, List.getElem?_map, List.getElem?_eq_getElem (l := Q) (i := i) (by rw [hl.out]; exact hin)]; rfl)
   obtain ⟨Y1, hY1⟩ : ∃ Y, wr.alloc (.cells #[.bool na, .slice B1 m1 d1, .bool nb, .slice B2 m2 d2] 45) = Y := ⟨_, rfl⟩
   have hBY : Below wr.heap.size wr Y1 := by rw [<- hY1]; exact (Below.refl _ _).alloc (Nat.le_refl _) _
   have hbl : Blk Y1 wr.heap.size 45 #[.bool na, .slice B1 m1 d1, .bool nb, .slice B2 m2 d2] := by rw [<- hY1]; exact Blk.new _ _ _
   have hfY : Fr Y1 na B1 m1 d1 nb B2 m2 d2 ((Q[i]?.getD [])[0]?.getD 0) := hf.below hBY
   have hOY := hO.kept hBY
   have hBB := hB.trans (hBY.mono hs)
   have hs2 := hBB.size
   replace hll := Za hll
   replace hf := Za hf
   go_wp2_with ((try rw [hY1]); at_builtin; refine Zbq _ rfl (.tmp 11) (.tmp 18) 40 rfl w.heap.size 45 iF Tryz.underlying40 hi hz0 hz1 hz2 _ _ rfl hOY _ (some ⟨wr.heap.size, 0, none⟩) 1 1 [⟨na, B1, m1, d1, nb, B2, m2, d2, (Q[i]?.getD [])[0]?.getD 0⟩] rfl (Zdh _ hbl) rfl (by intro e he; rw [List.mem_singleton] at he; subst he; exact hfY) hll.out hs2 ?_; intro v2 w5 hO2 hg5 hk5)
   have hB5 := hBB.grown hg5 hs2 (fun k hk => hOY.row_ge k hk)
   simp only [List.map_cons, List.map_nil] at hO2
   rw [hq.out] at hO2
   go_roundg (n - (i + 1))
   case measure => omega
   case rel => exact ⟨i + 1, by omega, by go_num, hB5, hO2⟩
def Zdv (Q : List (List Rat)) (b : List Rat) (n i : Nat) : List (List Rat) := (List.range n).map fun j => Q[j]?.getD [] ++ if j < i then [b[j]?.getD 0] else []
theorem Zpr (Q : List (List Rat)) (b : List Rat) : Zdv Q b Q.length 0 = Q := by
 unfold Zdv
 apply List.ext_getElem?
 intro j
 rw [List.getElem?_map]
 by_cases hj : j < Q.length
 ·rw [List.getElem?_range hj, List.getElem?_eq_getElem hj]; simp; rw [List.getElem?_eq_getElem hj]; rfl
 ·rw [List.getElem?_eq_none (by simpa using hj), List.getElem?_eq_none (l := Q) (by omega)]; rfl
theorem Zma {Q : List (List Rat)} {b : List Rat} {n i j : Nat} (hj : j < n) : (Zdv Q b n i)[j]?.getD [] = Q[j]?.getD [] ++ if j < i then [b[j]?.getD 0] else [] := by
 unfold Zdv
 rw [List.getElem?_map, List.getElem?_range hj]; rfl
theorem Zsn (Q : List (List Rat)) (b : List Rat) (n i : Nat) : (Zdv Q b n i).length = n := by unfold Zdv; simp
theorem Zst {Q : List (List Rat)} {b : List Rat} {n i : Nat} (hi : i < n) : (Zdv Q b n i).set i ((Zdv Q b n i)[i]?.getD [] ++ [b[i]?.getD 0]) = Zdv Q b n (i + 1) := by
 apply List.ext_getElem?
 intro j
 rw [List.getElem?_set, Zsn, Zma hi, if_neg (Nat.lt_irrefl _), List.append_nil]
 by_cases hij : i = j
 ·subst hij
  rw [if_pos rfl, if_pos hi]
  unfold Zdv
  rw [List.getElem?_map, List.getElem?_range hi]
  simp
 ·rw [if_neg hij]
  unfold Zdv
  rw [List.getElem?_map, List.getElem?_map]
  by_cases hj : j < n
  ·rw [List.getElem?_range hj]
   simp only [Option.map_some, Option.some.injEq]
   congr 1
   by_cases h : j < i
   ·rw [if_pos h, if_pos (by omega)]
   ·rw [if_neg h, if_neg (by omega)]
  ·rw [List.getElem?_eq_none (by simpa using hj)]; rfl
end Go.Proofs.YtigdclhagmnopaaGreat
