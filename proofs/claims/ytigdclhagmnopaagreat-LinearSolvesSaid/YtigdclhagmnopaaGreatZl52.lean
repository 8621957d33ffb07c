/- Package linear: back, where there is no solution. -/
import Derived.Lib.AppendZeros
import Derived.Test.YtigdclhagmnopaaGreatZl51
set_option maxRecDepth 100000
set_option maxHeartbeats 8000000
set_option linter.unusedSimpArgs false
set_option linter.unusedVariables false
namespace Go.Proofs.YtigdclhagmnopaaGreat
open Go.RowKit Go.Shelf
attribute [local go_sem] Zi
attribute [local go_sem] Oper.semAt_some
theorem Zn3 (A : Option Addr) (n c m : Nat) (Q : List (List Rat)) (w : World) (h : MFL w A n c Q) (hn0 : 0 < n) (hn9 : n <= 900) (hnm : n <= m) (hm9 : m <= 900) (hm : ∀ i, i < n -> (Q[i]?.getD []).length = m) (hok : okZ (pw 200) m n 0 0 (Zo Q) 1) (hfin : Zft Q n m) (hrk : (Z6 n 0 0 (Zo Q) false 1).2.1 < n) :
    Calls Tryz.prog 63 #[.slice A n c, .int .i64 n] w fun e w' => e = .returned (.tuple #[.slice none 0 0, .bool false]) /\ Below w.heap.size w w' := by
 have hmx : Tryz.prog.follows .mixedOrders = true := by kernel_rfl
 have hne : (89 : TypeId) ≠ 43 := by decide
 have hts : (40 : TypeId) ≠ 45 := by decide
 have ntF : Hid (NoT 3 22 88 89 43 45) := Za (by unfold NoT; decide)
 have ntS : Hid (NoT 3 22 88 89 43 40) := Za (by unfold NoT; decide)
 obtain ⟨iF, hi, hz0, hz1, hz2⟩ := info_parts Zcq
 obtain ⟨iS, ki, kz0, kz1, kz2⟩ := info_parts Zfl
 have hQl := Za h.1
 obtain ⟨W0, hW0, hB0, q0, s0⟩ := Za8 w 3 #[.int .i64 n]
 replace h := h.below hB0
 obtain ⟨FIN, hFIN⟩ : ∃ X, Z6 n 0 0 (Zo Q) false 1 = X := ⟨_, rfl⟩
 rw [hFIN] at hrk
 obtain ⟨E', rk, ng, la⟩ := FIN
 replace hrk : rk < n := hrk
 replace hFIN := Za hFIN
 replace hok := Za hok
 refine (callsIn_wide (n := 9)).1 ?_
 refine callsIn_of_wp_marks Tryz.func63 rfl trivial ?_ rfl
 simp only [Tryz.ntmps63, List.size_toArray, List.length_cons, List.length_nil, Nat.reduceAdd, Nat.reduceSub, Array.replicate_succ, Array.replicate_zero, List.push_toArray, List.append_toArray, List.nil_append, List.cons_append]
 refine wpIn_wide.2 ?_
 go_wp2_with fail
 refine (Ziv A n c m Q W0 h hn9 hm (by omega) hm9 hfin.1 hfin.2).mono ?_
 rintro e w1 ⟨v, vb, L, rfl, hb1, hM, hq, hP, hdis⟩
 obtain ⟨vA, vc, rfl, hbc1, hbc2, -⟩ := hP.poly_at
 rw [List.length_map, List.length_range] at hbc1 hP hdis ⊢
 unfold maxLen at hbc2
 have hLl := congrArg List.length hq
 rw [List.length_map] at hLl
 unfold Zo at hLl
 rw [List.length_map, hQl.out] at hLl
 obtain ⟨go, cap, rfl, hc1, hc2, hgo, hMM, hgs⟩ := hM.mat hne (fun e => by rw [e] at hLl; simp at hLl; omega)
 rw [hLl] at hc1 ⊢
 obtain ⟨g3, hg3⟩ : ∃ g, w1.heap.size = g := ⟨_, rfl⟩
 obtain ⟨V, hV, hBV, qv, kW, kB, sV⟩ := Zn 91 #[.slice (some ⟨go, 0, none⟩) n cap, .slice vA n vc] (Below.refl w1.heap.size w1) (Nat.le_refl _)
 have hMV := hMM.below hBV
 have q0V := (Zc hb1 q0).below hBV (Zc hb1 q0).lt
 rw [hg3] at qv
 obtain ⟨x0, x1, -, -⟩ := qv.two
 have nV := q0V.cell 0
 simp at nV
 replace hLl := Za hLl
 have hsz0 : Hid (w.heap.size < W0.heap.size) := Za (by omega)
 have hBV0 : Hid (Below W0.heap.size W0 V) := Za (hb1.trans (hBV.mono hb1.size))
 have hgo1 : ∀ k, (k = go \/ k ∈ L.map RZ.g) -> W0.heap.size <= k := fun k hk => by
  rcases hk with rfl | hk
  ·exact hgo
  ·obtain ⟨s, hs, rfl⟩ := List.mem_map.1 hk
   exact hgs s hs
 have hlt3 : ∀ k, (k = go \/ k ∈ L.map RZ.g) -> k < g3 := fun k hk => by
  obtain ⟨t, cs, hb, -⟩ := hMM.boxes k hk
  rw [<- hg3]; exact hb.lt
 replace hgo1 := Za hgo1
 replace hlt3 := Za hlt3
 replace qv := Za qv
 replace q0V := Za q0V
 clear hM hMM kW kB sV hdis hP h hW0 hgo hgs q0 hb1 hBV
 go_wp2_with fail
 (try rw [hg3])
 (try rw [hV])
 refine (Zet go n cap L (.slice vA n vc) m n V hMV hLl.out hn0 hn9 hc1 hc2 (by omega) hm9 (by rw [hq]; exact hok.out)).mono ?_
 rw [hq, hFIN.out]
 rintro e w2 ⟨L2, ln, lA, lk, lc, rfl, hwl, hL2l, -, hL2q, hM2, hK2⟩
 replace hL2q : L2.map RZ.q = E' := hL2q
 clear hV x0 x1 nV
 have hne3 : ¬ (g3 = go \/ g3 ∈ L.map RZ.g) := fun h => by have := hlt3.out g3 h; omega
 have q3 := hK2.blk qv.out hne3
 have q0w := hK2.blk q0V.out (fun h => by have := hgo1.out _ h; have := hsz0.out; omega)
 have hB2 : Below W0.heap.size W0 w2 := hBV0.out.trans (hK2.to_below hgo1.out hBV0.out.size)
 obtain ⟨g6, hg6⟩ : ∃ g, w2.heap.size = g := ⟨_, rfl⟩
 obtain ⟨V2, hV2, hBV2, qv2, kW, kB, sV⟩ := Zn 43 #[.bool ln, .slice lA lk lc] (Below.refl w2.heap.size w2) (Nat.le_refl _)
 have q3V2 := q3.below hBV2 q3.lt
 have q0V2 := q0w.below hBV2 q0w.lt
 have hM2V := hM2.below hBV2
 have hBV02 := Za (hB2.trans (hBV2.mono hB2.size))
 obtain ⟨y0, y1, -, -⟩ := q3V2.two
 have nV2 := q0V2.cell 0
 simp at nV2
 have t1 : decide ((rk : Int) < (n : Int)) = true := decide_eq_true (by omega)
 have hB9 : Hid (Below w.heap.size w V2) := Za (hB0.trans (hBV02.out.mono hB0.size))
 clear hMV hK2 hB2 hwl q3 q0w kW kB sV hgo1 hlt3 hBV2 q3V2 q0V2 hM2 qv2 hne3 q0V qv hBV0 hM2V hm hfin hok
 go_wp2_with fail
 (try rw [hg6])
 (try rw [hV2])
 go_wp2_with fail
 exact ⟨.tuple #[.slice none 0 0, .bool false], by simp [results, Tryz.f63, go_sem], rfl, hB9.out⟩
open Go.RowKit
theorem Zsz (k : Nat) (w : World) (h0 : 0 < k) (h9 : k <= 900) :
    Calls Tryz.prog 118 #[.slice none 0 0, .int .i64 k] w fun e w' => ∃ v, e = .returned v /\ Below w.heap.size w w' /\ OwnF 45 w' w.heap.size v [] := by
 obtain ⟨iF, hi, hz0, hz1, hz2⟩ := info_parts Zcq
 have hge := grownCap_ge w k 0 45
 have hcm := grownCap_le_maxLen w k 0 45 (by unfold maxLen; omega)
 obtain ⟨cap, hcap⟩ : ∃ c, grownCap w k 0 45 = c := ⟨_, rfl⟩
 have hrun := fun ty => Go.Lib.run_append_nil_zeros (P := Tryz.prog) w 40 3 ty 45 iF _ .i64 .i64 Tryz.underlying40 Tryz.underlying3 hi hz0 k h0 (by omega) (by omega) (by rw [hz2]; omega)
 obtain ⟨W1, hW1⟩ : ∃ W, w.drew.alloc (.cells (Builtin.zeroCells (Value.agg #[.bool false, .slice none 0 0, .bool false, .slice none 0 0]).cells k ++ Builtin.zeroCells (Value.agg #[.bool false, .slice none 0 0, .bool false, .slice none 0 0]).cells (grownCap w k 0 45 - k)) 45) = W := ⟨_, rfl⟩
 rw [hW1, hcap] at hrun
 rw [hcap] at hge hcm hW1
 obtain ⟨g, hg⟩ : ∃ g, w.heap.size = g := ⟨_, rfl⟩
 have hb : Below w.heap.size w W1 := by rw [<- hW1]; exact ((Zf (Below.refl _ _) 1).alloc (Nat.le_refl _) _)
 have hbk : Blk W1 g 45 (Z0 (List.replicate cap Zal)) := by
  have h1 : Builtin.zeroCells (Value.agg #[.bool false, .slice none 0 0, .bool false, .slice none 0 0]).cells k ++ Builtin.zeroCells (Value.agg #[.bool false, .slice none 0 0, .bool false, .slice none 0 0]).cells (cap - k) = Z0 (List.replicate cap Zal) := by
   apply Array.toList_inj.1
   rw [Array.toList_append, show (Value.agg #[.bool false, .slice none 0 0, .bool false, .slice none 0 0]).cells = #[.bool false, .slice none 0 0, .bool false, .slice none 0 0] from rfl, Zbz, Zbz, <- Zae, List.replicate_append_replicate, Nat.add_sub_cancel' hge]
   rfl
  rw [<- hW1, h1, <- hg]
  exact Blk.new _ _ _
 rw [hg] at hrun hb ⊢
 have t1 : ¬ ((k : Int) < 0) := by omega
 have t2 : decide ((k : Int) < 0) = false := decide_eq_false t1
 have t3 : decide ((k : Int) > 0) = true := decide_eq_true (by omega)
 have t4 : decide ((0 : Int) < (k : Int)) = true := decide_eq_true (by omega)
 have t5 : decide (0 < k) = true := decide_eq_true h0
 have hcap0 : (0 : Int) <= (cap : Int) := by omega
 clear hW1 hg hcap
 go_enter Tryz.func118, Tryz.ntmps118
 go_wp2_with (at_builtin; refine Go.Lib.wpList_append_run w rfl (.tmp 20) (.tmp 21) 40 3 rfl (.slice none 0 0) (.int .i64 k) rfl rfl _ _ (hrun _) ?_)
 go_ret
 exact ⟨_, rfl, hb, [], .inr ⟨g, cap, by simp, Nat.le_refl _, by simpa using hcm, by simpa using hbk⟩, fun e he => (by cases he), rfl⟩
theorem Zmb {α : Type} (l : List (List α)) {i : Nat} {x : List α} (h : l[i]? = some x) : (l.take (i + 1)).flatten = (l.take i).flatten ++ x := by
 rw [List.take_add_one, h, List.flatten_append]; simp
theorem Zmk {α : Type} (l : List (List α)) (i : Nat) : (l.take i).flatten.length <= l.flatten.length := by
 have h : l.flatten = (l.take i).flatten ++ (l.drop i).flatten := by rw [<- List.flatten_append, List.take_append_drop]
 rw [h, List.length_append]; omega
theorem Zq1 (go n c : Nat) (L : List RF) (w : World) (hM : MatB 40 45 w go L) (hl : L.length = n) (hn9 : n <= 900) (hc : n <= c) (hcm : c <= maxLen) (h0 : 0 < (L.map RF.q).flatten.length) (h9 : (L.map RF.q).flatten.length <= 900) :
    Calls Tryz.prog 64 #[.slice (some ⟨go, 0, none⟩) n c] w fun e w' => ∃ v, e = .returned v /\ Below w.heap.size w w' /\ OwnF 45 w' w.heap.size v (L.map RF.q).flatten := by
 obtain ⟨iF, hi, hz0, hz1, hz2⟩ := info_parts Zcq
 unfold maxLen at hcm
 replace hl := Za hl
 replace hM := Za hM
 obtain ⟨T, hT⟩ : ∃ T, (L.map RF.q).flatten.length = T := ⟨_, rfl⟩
 rw [hT] at h0 h9
 have hTi : Hid (∀ i, ((L.map RF.q).take i).flatten.length <= T) := Za (fun i => by rw [<- hT]; exact Zmk _ i)
 replace hT := Za hT
 go_enter Tryz.func64, Tryz.ntmps64
 go_wp2_with fail
 go_loopg [11, 3] n (fun k iv sv wr => ∃ i s : Nat, i + k = n /\ iv = .int .i64 i /\ sv = .int .i64 s /\ Hid (((L.map RF.q).take i).flatten.length = s) /\ Hid (wr = w))
 case atStart => exact ⟨0, 0, by omega, rfl, rfl, Za (by simp), Za rfl⟩
 case round =>
  obtain ⟨i, s, hik, rfl, rfl, hs, hwr⟩ := hrel
  have hwr := hwr.out
  subst hwr
  obtain ⟨w3, hw3⟩ : ∃ x : World, x = wr := ⟨_, rfl⟩
  subst hw3
  cases gk with
  | zero =>
   obtain rfl : i = n := by omega
   have t1 : decide ((i : Int) < (i : Int)) = false := by simp
   obtain rfl : s = T := by
    rw [<- hs.out, List.take_of_length_le (by rw [List.length_map, hl.out]; exact Nat.le_refl _)]; exact hT.out
   go_wp2_with fail
   refine (Zsz s _ h0 h9).mono ?_
   rintro e w1 ⟨v, rfl, hb1, hO1⟩
   obtain ⟨vA, vc, rfl, -⟩ := hO1.fl
   replace hO1 := Za hO1
   go_wp2_with fail
   go_loopg [27, 6] i (fun k iv ov w2 => ∃ (j : Nat) (v : Value), j + k = i /\ iv = .int .i64 j /\ ov = v /\ Below w3.heap.size w3 w2 /\ OwnF 45 w2 w3.heap.size v ((L.map RF.q).take j).flatten)
   case atStart => exact ⟨0, _, by omega, rfl, rfl, hb1, hO1.out⟩
   case round =>
    clear hb1 hO1
    obtain ⟨j, v, hjk, rfl, rfl, hB, hO⟩ := hrel
    cases gk with
    | zero =>
     obtain rfl : j = i := by omega
     have t1 : decide ((j : Int) < (j : Int)) = false := by simp
     replace hO := Za hO
     go_wp2_with fail
     go_ret
     refine ⟨_, rfl, hB, ?_⟩
     have h1 := hO.out
     rw [List.take_of_length_le (by rw [List.length_map, hl.out]; exact Nat.le_refl _)] at h1
     exact h1
    | succ k' =>
     obtain rfl : k' = i - (j + 1) := by omega
     have hji : j < i := by omega
     have t1 : decide ((j : Int) < (i : Int)) = true := decide_eq_true (by omega)
     have bi : (j : Int) < (i : Int) := by omega
     obtain ⟨x, hx⟩ := Zat (L := L) (i := j) (by rw [hl.out]; exact hji)
     have hM2 := hM.out.below hB
     obtain ⟨cx, -⟩ := hM2.cell hx
     obtain ⟨fx, fx1, fx2⟩ := hM2.row hx
     obtain ⟨fs, hR, hfl, hfe, hfq⟩ := (fx.fl fx1 fx2).reads
     have e1 := Zmb (L.map RF.q) (i := j) (x := x.q) (by rw [List.getElem?_map, hx]; rfl)
     have e2 := hTi.out (j + 1)
     rw [e1, List.length_append] at e2
     replace e1 := Za e1
     have e3 : ((L.map RF.q).take j).flatten.length + x.q.length <= 1000 := by omega
     replace e3 := Za e3
     replace hfe := Za hfe
     have hs := hB.size
     clear fx e2 hM2
     go_wp2_with (at_builtin; refine Zbn _ rfl (.tmp 31) (.tmp 32) 40 rfl w3.heap.size 45 iF Tryz.underlying40 hi hz0 hz1 hz2 _ ((L.map RF.q).take j).flatten rfl hO _ _ _ _ fs rfl hR hfl hfe.out e3.out hs ?_; intro v2 w5 hO2 hg5 hk5)
     have hB5 := hB.grown hg5 hs (fun k hk => hO.row_ge k hk)
     rw [hfq, <- e1.out] at hO2
     go_roundg (i - (j + 1))
     case measure => omega
     case rel => exact ⟨j + 1, _, by omega, by go_num, rfl, hB5, hO2⟩
  | succ k' =>
   obtain rfl : k' = n - (i + 1) := by omega
   have hin : i < n := by omega
   have t1 : decide ((i : Int) < (n : Int)) = true := decide_eq_true (by omega)
   have bi : (i : Int) < (n : Int) := by omega
   obtain ⟨x, hx⟩ := Zat (L := L) (i := i) (by rw [hl.out]; exact hin)
   obtain ⟨cx, -⟩ := hM.out.cell hx
   have e1 := Zmb (L.map RF.q) (i := i) (x := x.q) (by rw [List.getElem?_map, hx]; rfl)
   have e2 := hTi.out (i + 1)
   rw [e1, List.length_append, hs.out] at e2
   have e3 : Hid (((L.map RF.q).take (i + 1)).flatten.length = s + x.q.length) := Za (by rw [e1, List.length_append, hs.out])
   obtain ⟨y, hy⟩ : ∃ y, x.q.length = y := ⟨_, rfl⟩
   rw [hy] at cx e2 e3
   have t2 : decide ((s : Int) + (y : Int) < 0) = false := decide_eq_false (by omega)
   clear e1
   go_wp2_with fail
   go_roundg (n - (i + 1))
   case measure => omega
   case rel => exact ⟨i + 1, s + y, by omega, by go_num, by go_num, e3, Za rfl⟩
section
variable {P : Program} (w : World)
theorem Zi3 (base : Nat) (t ty e : TypeId) (i : TypeInfo) (ht : P.underlying t = some (.slice e)) (hi : P.info? e = some i) (hz : i.zero = some (.agg #[.bool false, .slice none 0 0, .bool false, .slice none 0 0]))
    (hs : i.size = 4) (hby : i.bytes = 64) (v : Value) (es : List FE) (hown : RowF e w base v es)
    (B : Nat) (A : Option Addr) (m c : Nat) (fs : List FE) (hr : Reads w B 4 A m (Zm fs)) (hm : fs.length = m) (h63 : es.length + m <= 1000) (hbase : base <= w.heap.size) :
    ∃ v' w', (Builtin.append_ #[t, t] ty #[v, .slice A m c]).run P w = .ok v' w' /\ RowF e w' base v' (es ++ fs) /\ w.grownBy w' v.ownBlock /\ (v'.ownBlock = v.ownBlock \/ ∀ k, v'.ownBlock = some k -> w.heap.size <= k) := by
 rcases Nat.eq_zero_or_pos m with h0 | h0
 ·subst h0
  obtain rfl : fs = [] := List.eq_nil_of_length_eq_zero hm
  rw [List.append_nil]
  rcases A with _ | ad
  ·exact ⟨v, w, Zbr w base t ty e i 4 ht hi v _ _ hown.own c, hown, World.grownBy.refl w _, .inl rfl⟩
  ·have hf := run_firstCells_some (P := P) w i.size 0 ad 0 c [] (by simp) (by simp)
   rcases hown with ⟨rfl, rfl⟩ | ⟨g, sp, rfl, h2, h3, h4⟩
   ·refine ⟨.slice none 0 0, w, ?_, .inl ⟨rfl, rfl⟩, World.grownBy.refl w _, .inl rfl⟩
    simp [Builtin.append_, run_underlying ht, sizeOf, typeInfo, hi, Builtin.lenOf, Builtin.firstCells, loadCells, loadCellsFrom]
   ·refine ⟨_, w, ?_, .inr ⟨g, sp, rfl, h2, h3, h4⟩, World.grownBy.refl w _, .inl rfl⟩
    simp [Builtin.append_, run_underlying ht, sizeOf, typeInfo, hi, Builtin.lenOf, Builtin.firstCells, loadCells, loadCellsFrom, storeCells]
 ·obtain ⟨ad, rfl, _, hc⟩ := hr.2 h0
  have hl : (Zm fs).length = m * i.size := by rw [Zp, hm, hs]
  have hle : es.length * i.size = (Zm es).length := by rw [Zp, hs]
  rcases hown with ⟨rfl, rfl⟩ | ⟨g, sp, rfl, h2, h3, h4⟩
  ·have hrun := run_append_nil (P := P) w t ty e i _ ht hi hz ad m c (Zm fs) hl hc h0 (by omega) (by rw [hby]; omega)
   have hge := grownCap_ge w m 0 e
   have hcm := grownCap_le_maxLen w m 0 e (by unfold maxLen; simp only [List.length_nil] at h63; omega)
   refine ⟨_, _, hrun, .inr ⟨w.heap.size, grownCap w m 0 e - m, ?_, hbase, ?_, ?_⟩, ⟨rfl, rfl, rfl, by simp, fun k hk _ => Below.heap_alloc w.drew _ k hk⟩, .inr (fun k hk => by first | (simp [Value.ownBlock] at hk; omega) | (cases hk; exact Nat.le_refl _))⟩
   ·rw [List.nil_append, hm, Nat.add_sub_cancel' hge]
   ·rw [List.nil_append, hm, Nat.add_sub_cancel' hge]; exact hcm
   ·have := heap_alloc_new w.drew (.cells ((Zm fs).toArray ++ Builtin.zeroCells (Value.agg #[.bool false, .slice none 0 0, .bool false, .slice none 0 0]).cells (grownCap w m 0 e - m)) e)
    unfold Blk
    refine this.trans ?_
    congr 1
    have hx : (Zm fs).toArray ++ Builtin.zeroCells (Value.agg #[.bool false, .slice none 0 0, .bool false, .slice none 0 0]).cells (grownCap w m 0 e - m) = Z0 ([] ++ fs ++ List.replicate (grownCap w m 0 e - m) Zal) := by
     apply Array.toList_inj.1
     rw [Array.toList_append, show (Value.agg #[.bool false, .slice none 0 0, .bool false, .slice none 0 0]).cells = #[.bool false, .slice none 0 0, .bool false, .slice none 0 0] from rfl, Zbz]
     simp [Z0, Zae]
    rw [hx]
  ·by_cases hroom : m <= sp
   ·have hrun := run_append_room (P := P) w t ty e i ht hi g es.length (es.length + sp) _ h4 ad m c (Zm fs) hl hc (Zhi fs) (by omega) (by rw [hle, Zp, Zp]; simp [Z0, Zp]; omega)
    refine ⟨_, _, hrun, .inr ⟨g, sp - m, ?_, h2, ?_, ?_⟩, ⟨rfl, rfl, rfl, by simp [World.setRow], fun k _ hk => setRow_other w g k _ (fun e' => hk (by simp [Value.ownBlock, e']))⟩, .inl rfl⟩
    ·rw [List.length_append, hm, show es.length + m + (sp - m) = es.length + sp by omega]
    ·rw [List.length_append, hm]; omega
    ·refine (setRow_heap w g _ _ e _ h4).trans ?_
     congr 2
     unfold Z0
     congr 1
     rw [hle]
     have hrep : List.replicate sp Zal = List.replicate m Zal ++ List.replicate (sp - m) Zal := by rw [List.replicate_append_replicate]; congr 1; omega
     have hlm : (Zm fs).length = (Zm (List.replicate m Zal)).length := by rw [Zp, Zp, hm, List.length_replicate]
     simp only [Zae]
     rw [List.take_left, hlm, <- List.length_append, hrep, Zae, <- List.append_assoc (Zm es), List.drop_left, List.append_assoc]
   ·have holds : ∀ j u, (Zm es)[j]? = some u -> w.cell? ((⟨g, 0, none⟩ : Addr).add j) = some u := fun j u hu => by
      rw [Zi, Nat.zero_add, h4.cell]
      simp only [Z0, List.getElem?_toArray, Zae]
      rw [List.getElem?_append_left (by rw [List.getElem?_eq_some_iff] at hu; exact hu.1)]; exact hu
    have hrun := run_append_grow (P := P) w t ty e i _ ht hi hz ⟨g, 0, none⟩ es.length (es.length + sp) (Zm es) hle.symm holds ad m c (Zm fs) hl hc (by omega) (by omega) (growslice_fits (by omega) (by rw [hby]; omega))
    have hge := grownCap_ge w (es.length + m) (es.length + sp) e
    have hcm := grownCap_le_maxLen w (es.length + m) (es.length + sp) e (by unfold maxLen; omega)
    refine ⟨_, _, hrun, .inr ⟨w.heap.size, grownCap w (es.length + m) (es.length + sp) e - (es.length + m), ?_, hbase, ?_, ?_⟩, ⟨rfl, rfl, rfl, by simp, fun k hk _ => Below.heap_alloc w.drew _ k hk⟩, .inr (fun k hk => by first | (simp [Value.ownBlock] at hk; omega) | (cases hk; exact Nat.le_refl _))⟩
    ·rw [List.length_append, hm, Nat.add_sub_cancel' hge]
    ·rw [List.length_append, hm, Nat.add_sub_cancel' hge]; exact hcm
    ·have := heap_alloc_new w.drew (.cells ((Zm es).toArray ++ (Zm fs).toArray ++ Builtin.zeroCells (Value.agg #[.bool false, .slice none 0 0, .bool false, .slice none 0 0]).cells (grownCap w (es.length + m) (es.length + sp) e - (es.length + m))) e)
     unfold Blk
     refine this.trans ?_
     congr 1
     have hx : (Zm es).toArray ++ (Zm fs).toArray ++ Builtin.zeroCells (Value.agg #[.bool false, .slice none 0 0, .bool false, .slice none 0 0]).cells (grownCap w (es.length + m) (es.length + sp) e - (es.length + m)) = Z0 (es ++ fs ++ List.replicate (grownCap w (es.length + m) (es.length + sp) e - (es.length + m)) Zal) := by
      apply Array.toList_inj.1
      rw [Array.toList_append, Array.toList_append, show (Value.agg #[.bool false, .slice none 0 0, .bool false, .slice none 0 0]).cells = #[.bool false, .slice none 0 0, .bool false, .slice none 0 0] from rfl, Zbz]
      simp [Z0, Zae]
     rw [hx]
theorem Zdv {o : Oper} {a : Act} {K : Act -> World -> Prop} {Q : Exit -> Act -> World -> Prop} (s x : Operand) (t : TypeId)
    (ho : o.op = .call { callee := .builtin .append, args := #[s, x], argTypes := #[t, t] })
    (base : Nat) (e : TypeId) (i : TypeInfo) (ht : P.underlying t = some (.slice e)) (hi : P.info? e = some i) (hz : i.zero = some (.agg #[.bool false, .slice none 0 0, .bool false, .slice none 0 0])) (hsi : i.size = 4) (hby : i.bytes = 64)
    (v : Value) (qs : List Rat) (hs : a.eval s = v) (hown : OwnF e w base v qs)
    (B : Nat) (A : Option Addr) (m c : Nat) (fs : List FE) (hx : a.eval x = .slice A m c) (hr : Reads w B 4 A m (Zm fs)) (hm : fs.length = m) (hfs : ∀ e ∈ fs, e.in_ w)
    (h63 : qs.length + m <= 1000) (hbase : base <= w.heap.size)
    (h : ∀ v' w', OwnF e w' base v' (qs ++ fs.map FE.q) -> w.grownBy w' v.ownBlock -> (∀ (A : Option Addr) (n c : Nat) (l : List Nat), Lim w A n c l -> Lim w' A n c l) -> (v'.ownBlock = v.ownBlock \/ ∀ k, v'.ownBlock = some k -> w.heap.size <= k) -> K (a.put o.dst v') w') : o.wp P a w K Q := by
 obtain ⟨es, h1, h2, rfl⟩ := hown
 rw [List.length_map] at h63
 obtain ⟨v', w', hrun, h3, h4, h5⟩ := Zi3 (P := P) w base t o.type e i ht hi hz hsi hby v es h1 B A m c fs hr hm h63 hbase
 unfold Oper.wp execOp
 simp only [ho, resolve, invoke, builtin, Sem.run_bind, Sem.run_pure, Result.andThen_ok, List.map_toArray, List.map_cons, List.map_nil, hs, hx, hrun]
 have hk : ∀ (A : Option Addr) (n c : Nat) (l : List Nat), Lim w A n c l -> Lim w' A n c l := fun _ _ _ _ hL => h1.keep h4 hL
 refine h v' w' ⟨es ++ fs, h3, fun e he => ?_, by rw [List.map_append]⟩ h4 hk h5
 rcases List.mem_append.1 he with he | he
 ·exact (h2 e he).of_keep hk
 ·exact (hfs e he).of_keep hk
end
def MatA (tS tF : TypeId) (w : World) (base go : Nat) (rs : List RS) (Q : List (List Rat)) : Prop :=
 (∃ zs, Blk w go tS (Z1 (rs ++ zs))) /\ base <= go /\ rs.length = Q.length /\ (∀ (i : Nat) (r : RS), rs[i]? = some r -> OwnF tF w base r.val (Q[i]?.getD [])) /\
  ∀ (i j : Nat) (r s : RS) (k : Nat), rs[i]? = some r -> rs[j]? = some s -> i ≠ j -> r.val.ownBlock = some k -> s.val.ownBlock ≠ some k
section
variable {tS tF : TypeId} {w w' : World} {base go : Nat} {rs : List RS} {Q : List (List Rat)}
theorem MatA.below (h : MatA tS tF w base go rs Q) (hb : Below w.heap.size w w') : MatA tS tF w' base go rs Q := by
 obtain ⟨⟨zs, h1⟩, h2, h3, h4, h5⟩ := h
 exact ⟨⟨zs, Zc hb h1⟩, h2, h3, fun i r hr => (h4 i r hr).kept hb, h5⟩
theorem MatA.cell (h : MatA tS tF w base go rs Q) {i : Nat} {r : RS} (hr : rs[i]? = some r) : w.cell? ⟨go, i, none⟩ = some (.slice r.A r.n r.c) /\ w.frozen? ⟨go, i, none⟩ = false := by
 obtain ⟨⟨zs, h1⟩, -⟩ := h
 refine ⟨?_, h1.frozen i⟩
 rw [h1.cell]
 exact Zb2 (by rw [List.getElem?_append_left (List.getElem?_eq_some_iff.1 hr).1]; exact hr)
theorem OwnF.rsn {r : RS} {q : List Rat} (h : OwnF tF w base r.val q) : r.n = q.length /\ FL w r.A r.n r.c q := by
 obtain ⟨A, c, e, hf⟩ := h.fl
 simp only [RS.val, Value.slice.injEq] at e
 obtain ⟨rfl, e2, rfl⟩ := e
 refine ⟨e2, ?_⟩
 rw [e2]; exact hf
theorem MatA.mfl (h : MatA tS tF w base go rs Q) {c : Nat} (hc : rs.length <= c) (hm : c <= maxLen) : MFL w (some ⟨go, 0, none⟩) rs.length c Q := by
 refine ⟨h.2.2.1.symm, hc, hm, fun _ => ⟨go, 0, rfl, fun k q hq => ?_⟩⟩
 have hk : k < rs.length := by rw [h.2.2.1]; exact (List.getElem?_eq_some_iff.1 hq).1
 have hr := List.getElem?_eq_getElem hk
 have h1 := (h.cell hr).1
 have h2 := (h.2.2.2.1 k _ hr).rsn.2
 rw [hq] at h2
 exact ⟨_, _, _, by rw [Nat.zero_add]; exact h1, h2⟩
theorem MatA.app (h : MatA tS tF w base go rs Q) (hts : tS ≠ tF) {i : Nat} {r r' : RS} {q' : List Rat} (hr : rs[i]? = some r) (hg : w.grownBy w' r.val.ownBlock) (ho : OwnF tF w' base r'.val q') (hk : ∀ (A : Option Addr) (n c : Nat) (l : List Nat), Lim w A n c l -> Lim w' A n c l)
    (hw : r'.val.ownBlock = r.val.ownBlock \/ ∀ k, r'.val.ownBlock = some k -> w.heap.size <= k) : MatA tS tF (w'.setCell ⟨go, i, none⟩ r'.val) base go (rs.set i r') (Q.set i q') := by
 obtain ⟨⟨zs, h1⟩, h2, h3, h4, h5⟩ := h
 have hi : i < rs.length := (List.getElem?_eq_some_iff.1 hr).1
 have hnO : ∀ (v : Value) (q : List Rat), OwnF tF w base v q -> v.ownBlock ≠ some go := fun v q hv e => by
  obtain ⟨cs, a, -, -⟩ := hv.ownBlk go e
  exact hts (h1.type a)
 have b1 : Blk w' go tS (Z1 (rs ++ zs)) := (hg.block go h1.lt (fun e => hnO _ _ (h4 i r hr) e.symm)).trans h1
 have hnl := Zap (rs ++ zs)
 have kS : Kept (fun k => k = go) w' (w'.setCell ⟨go, i, none⟩ r'.val) := Kept.set_ (G := fun k => k = go) (Kept.refl _ _) (p := ⟨go, i, none⟩) (.inl rfl) _
 have hoO : r'.val.ownBlock ≠ some go := fun e => by
  obtain ⟨cs, a, -, -⟩ := ho.ownBlk go e
  exact hts (b1.type a)
 refine ⟨⟨zs, ?_⟩, h2, by rw [List.length_set, List.length_set]; exact h3, fun j s hs => ?_, fun j l s t k hs ht hjl hsk => ?_⟩
 ·have := b1.set_ i r'.val
  rw [show r'.val = .slice r'.A r'.n r'.c from rfl, Zcp r'] at this
  rw [List.set_append_left _ _ hi] at this
  exact this
 ·rw [List.getElem?_set] at hs
  by_cases hij : i = j
  ·subst hij
   rw [if_pos rfl, if_pos hi] at hs
   cases hs
   rw [List.getElem?_set_self (by omega), Option.getD_some]
   exact ho.keptG b1 hnl hoO kS
  ·rw [if_neg hij] at hs
   rw [List.getElem?_set_ne hij]
   have o := h4 j s hs
   have ne : ∀ k, s.val.ownBlock = some k -> r.val.ownBlock ≠ some k := fun k e => h5 j i s r k hs hr (Ne.symm hij) e
   have o2 : OwnF tF w' base s.val (Q[j]?.getD []) := by
    obtain ⟨es, e1, e2, e3⟩ := o
    refine ⟨es, ?_, fun e he => ⟨⟨(e2 e he).1.1, (e2 e he).1.2.1, hk _ _ _ _ (e2 e he).1.2.2⟩, ⟨(e2 e he).2.1, (e2 e he).2.2.1, hk _ _ _ _ (e2 e he).2.2.2⟩⟩, e3⟩
    rcases e1 with e1 | ⟨g2, sp, e4, e5, e6, e7⟩
    ·exact .inl e1
    ·exact .inr ⟨g2, sp, e4, e5, e6, (hg.block g2 e7.lt (fun e => ne g2 (by rw [e4]; rfl) e.symm)).trans e7⟩
   exact o2.keptG b1 hnl (hnO _ _ o) kS
 ·have fresh : ∀ (j : Nat) (s : RS) (k : Nat), j ≠ i -> rs[j]? = some s -> s.val.ownBlock = some k -> r'.val.ownBlock ≠ some k := fun j s k hji hs hsk e => by
    obtain ⟨cs, a, -, -⟩ := (h4 j s hs).ownBlk k hsk
    have := a.lt
    rcases hw with hw | hw
    ·exact h5 j i s r k hs hr hji hsk (by rw [<- hw]; exact e)
    ·have := hw k e; omega
  rw [List.getElem?_set] at hs ht
  by_cases h6 : i = j
  ·subst h6
   rw [if_pos rfl, if_pos hi] at hs
   rw [if_neg hjl] at ht
   cases hs
   intro e
   exact fresh l t k (Ne.symm hjl) ht e hsk
  ·rw [if_neg h6] at hs
   by_cases h7 : i = l
   ·subst h7
    rw [if_pos rfl, if_pos hi] at ht
    cases ht
    exact fresh j s k (Ne.symm h6) hs hsk
   ·rw [if_neg h7] at ht
    exact h5 j l s t k hs ht hjl hsk
end
def MatOA (tS tF : TypeId) (w : World) (base : Nat) (v : Value) (rs : List RS) (Q : List (List Rat)) : Prop :=
 RowS tS w base v rs /\ rs.length = Q.length /\ (∀ (i : Nat) (r : RS), rs[i]? = some r -> OwnF tF w base r.val (Q[i]?.getD [])) /\
  ∀ (i j : Nat) (r s : RS) (k : Nat), rs[i]? = some r -> rs[j]? = some s -> i ≠ j -> r.val.ownBlock = some k -> s.val.ownBlock ≠ some k
section
variable {tS tF : TypeId} {w w' : World} {base : Nat} {v v' : Value} {rs : List RS} {Q : List (List Rat)}
theorem MatOA.nil (tS tF : TypeId) (w : World) (base : Nat) : MatOA tS tF w base (.slice none 0 0) [] [] := ⟨.inl ⟨rfl, rfl⟩, rfl, fun i r hr => (by cases hr), fun i j r s k hr => (by cases hr)⟩
theorem MatOA.kept (h : MatOA tS tF w base v rs Q) (hb : Below w.heap.size w w') : MatOA tS tF w' base v rs Q := ⟨h.1.kept hb, h.2.1, fun i r hr => (h.2.2.1 i r hr).kept hb, h.2.2.2⟩
theorem OwnF.grownT (hts : tS ≠ tF) {q : List Rat} {b : Nat} {u : Value} (h : OwnF tF w b u q) {rs : List RS} (hv : RowS tS w base v rs) (hg : w.grownBy w' v.ownBlock) (hk : ∀ (A : Option Addr) (n c : Nat) (l : List Nat), Lim w A n c l -> Lim w' A n c l) : OwnF tF w' b u q := by
 obtain ⟨es, e1, e2, e3⟩ := h
 refine ⟨es, ?_, fun e he => ⟨⟨(e2 e he).1.1, (e2 e he).1.2.1, hk _ _ _ _ (e2 e he).1.2.2⟩, ⟨(e2 e he).2.1, (e2 e he).2.2.1, hk _ _ _ _ (e2 e he).2.2.2⟩⟩, e3⟩
 rcases e1 with e1 | ⟨g2, sp, e4, e5, e6, e7⟩
 ·exact .inl e1
 ·exact .inr ⟨g2, sp, e4, e5, e6, (hg.block g2 e7.lt (fun e => hv.ownType e7 hts e.symm)).trans e7⟩
theorem OwnF.lower {b b' : Nat} {u : Value} {q : List Rat} (h : OwnF tF w b u q) (hb : b' <= b) : OwnF tF w b' u q := by
 obtain ⟨es, e1, e2, e3⟩ := h
 refine ⟨es, ?_, e2, e3⟩
 rcases e1 with e1 | ⟨g2, sp, e4, e5, e6, e7⟩
 ·exact .inl e1
 ·exact .inr ⟨g2, sp, e4, Nat.le_trans hb e5, e6, e7⟩
theorem MatOA.snoc (h : MatOA tS tF w base v rs Q) (hts : tS ≠ tF) {r : RS} {q : List Rat} {b : Nat} (ho : OwnF tF w b r.val q) (hb : base <= b) (hlt : ∀ s ∈ rs, ∀ k, s.val.ownBlock = some k -> k < b) (h1 : RowS tS w' base v' (rs ++ [r])) (hg : w.grownBy w' v.ownBlock) (hk : ∀ (A : Option Addr) (n c : Nat) (l : List Nat), Lim w A n c l -> Lim w' A n c l) :
    MatOA tS tF w' base v' (rs ++ [r]) (Q ++ [q]) := by
 obtain ⟨a1, a2, a3, a4⟩ := h
 refine ⟨h1, by simp [a2], fun i s hs => ?_, fun i j s t k hs ht hij hsk => ?_⟩
 ·by_cases hi : i < rs.length
  ·rw [List.getElem?_append_left hi] at hs
   rw [List.getElem?_append_left (by omega)]
   exact (a3 i s hs).grownT hts a1 hg hk
  ·have hl := (List.getElem?_eq_some_iff.1 hs).1
   rw [List.length_append, List.length_singleton] at hl
   obtain rfl : i = rs.length := by omega
   rw [List.getElem?_append_right (Nat.le_refl _), Nat.sub_self] at hs
   cases hs
   rw [List.getElem?_append_right (by omega), a2, Nat.sub_self]
   exact (ho.lower hb).grownT hts a1 hg hk
 ·have new : ∀ (x : RS) (k : Nat), x ∈ rs -> x.val.ownBlock = some k -> r.val.ownBlock ≠ some k := fun x k hx hxk e => by
    have h2 := hlt x hx k hxk
    obtain ⟨cs, -, -, h3⟩ := ho.ownBlk k e
    omega
  have hli := (List.getElem?_eq_some_iff.1 hs).1
  have hlj := (List.getElem?_eq_some_iff.1 ht).1
  rw [List.length_append, List.length_singleton] at hli hlj
  by_cases hi : i < rs.length
  ·rw [List.getElem?_append_left hi] at hs
   by_cases hj : j < rs.length
   ·rw [List.getElem?_append_left hj] at ht
    exact a4 i j s t k hs ht hij hsk
   ·obtain rfl : j = rs.length := by omega
    rw [List.getElem?_append_right (Nat.le_refl _), Nat.sub_self] at ht
    cases ht
    exact new s k (List.mem_of_getElem? hs) hsk
  ·obtain rfl : i = rs.length := by omega
   rw [List.getElem?_append_right (Nat.le_refl _), Nat.sub_self] at hs
   cases hs
   rw [List.getElem?_append_left (by omega)] at ht
   exact fun e => new t k (List.mem_of_getElem? ht) e hsk
theorem MatOA.mat (h : MatOA tS tF w base v rs Q) (hl : rs ≠ []) : ∃ go cap, v = .slice (some ⟨go, 0, none⟩) rs.length cap /\ rs.length <= cap /\ cap <= maxLen /\ MatA tS tF w base go rs Q := by
 obtain ⟨a1, a2, a3, a4⟩ := h
 rcases a1 with ⟨-, e⟩ | ⟨g, sp, h1, h2, h3, h4⟩
 ·exact absurd e hl
 ·exact ⟨g, rs.length + sp, h1, by omega, h3, ⟨_, h4⟩, h2, a2, a3, a4⟩
end
theorem Zje (A : Option Addr) (n c m : Nat) (Q : List (List Rat)) (w : World) (h : MFL w A n c Q) (hn9 : n <= 900) (hm : ∀ i, i < n -> (Q[i]?.getD []).length = m) (hm0 : 0 < m) (hm9 : m <= 900) :
    Calls Tryz.prog 53 #[.slice A n c] w fun e w' => ∃ v rs, e = .returned v /\ Below w.heap.size w w' /\ MatOA 40 45 w' w.heap.size v rs Q := by
 obtain ⟨iF, hi, hz0, hz1, hz2⟩ := info_parts Zcq
 obtain ⟨iS, ki, kz0, kz1, kz2⟩ := info_parts Zfl
 have hmx : Tryz.prog.follows .mixedOrders = true := by kernel_rfl
 have hl := Za h.1
 have hnc := h.2.1
 have hcm := h.2.2.1
 unfold maxLen at hcm
 have hne : (40 : TypeId) ≠ 45 := by decide
 replace hm := Za hm
 replace h := Za h
 go_enter Tryz.func53, Tryz.ntmps53
 go_wp2_with fail
 go_loopg [3, 4] n (fun k ov iv wr => ∃ (i : Nat) (rs : List RS), i + k = n /\ iv = .int .i64 i /\ MatOA 40 45 wr w.heap.size ov rs (Q.take i) /\ Below w.heap.size w wr)
 case atStart => exact ⟨0, [], by omega, rfl, MatOA.nil _ _ _ _, Below.refl _ _⟩
 case round =>
  obtain ⟨i, rs, hik, rfl, hM, hB⟩ := hrel
  have hLl : rs.length = i := by
   rw [hM.2.1, List.length_take, hl.out]; omega
  cases gk with
  | zero =>
   obtain rfl : i = n := by omega
   have t1 : decide ((i : Int) < (i : Int)) = false := by simp
   replace hM := Za hM
   go_wp2_with fail
   go_ret
   refine ⟨_, rs, rfl, hB, ?_⟩
   have h1 := hM.out
   rw [List.take_of_length_le (by rw [hl.out]; exact Nat.le_refl _)] at h1
   exact h1
  | succ j =>
   obtain rfl : j = n - (i + 1) := by omega
   have hin : i < n := by omega
   have t1 : decide ((i : Int) < (n : Int)) = true := decide_eq_true (by omega)
   have bi : (i : Int) < (n : Int) := by omega
   obtain ⟨g, o, A1, n1, c1, rfl, k0, hF⟩ := (h.out.below hB).at_ hin
   have hn1 : n1 = m := by rw [<- hF.len]; exact hm.out i hin
   subst hn1
   have hF0 := hF.below ((Below.refl wr.heap.size wr).alloc (Nat.le_refl _) (.cells #[] 45))
   have k1 := Zb ((Below.refl wr.heap.size wr).alloc (Nat.le_refl _) (.cells #[] 45)) k0
   have hnil : OwnF 45 (wr.alloc (.cells #[] 45)) wr.heap.size (.slice (some ⟨wr.heap.size, 0, none⟩) 0 0) [] := ⟨[], .inr ⟨wr.heap.size, 0, rfl, Nat.le_refl _, Nat.zero_le _, Blk.new _ _ _⟩, fun e he => (by cases he), rfl⟩
   obtain ⟨fs, hR, hfl, hfe, hfq⟩ := hF0.reads
   have hB1 : Below wr.heap.size wr (wr.alloc (.cells #[] 45)) := (Below.refl wr.heap.size wr).alloc (Nat.le_refl _) _
   replace hM := Za hM
   clear hF hF0
   go_wp2_with (first
    | (at_builtin; refine Zbn _ rfl (.tmp 12) (.tmp 16) 40 rfl wr.heap.size 45 iF Tryz.underlying40 hi hz0 hz1 hz2 _ [] rfl hnil _ _ _ _ fs rfl hR hfl hfe (by simp; omega) (by simp) ?_
       intro v2 w2 hO2 hg2 hk2
       have hbW2 : Below wr.heap.size wr w2 := hB1.grown hg2 hB1.size (fun k hk => by cases hk; exact Nat.le_refl _)
       rw [List.nil_append, hfq] at hO2
       obtain ⟨vA, vc, rfl, -⟩ := hO2.fl
       have hMw := hM.out.kept hbW2
       have hqn : (Q[i]?.getD []).length = n1 := hm.out i hin
       rw [hqn] at hO2 ⊢
       have hbA : Below w2.heap.size w2 (w2.alloc (.cells #[.slice vA n1 vc] 40)) := (Below.refl _ _).alloc (Nat.le_refl _) _
       have hMA := hMw.kept hbA
       have hB2 := hB.trans ((hbW2.mono hB.size).trans (hbA.mono (Nat.le_trans hB.size hbW2.size)))
       have hFA := hO2.kept hbA
       have hQ2 : Hid (Q.take i ++ [Q[i]?.getD []] = Q.take (i + 1)) := Za (by
        rw [List.take_add_one, List.getElem?_eq_getElem (by rw [hl.out]; exact hin)]; rfl)
       have hRA := Zgu w2 vA n1 vc 40
       have hown := hMA.1
       have hll : rs.length + 1 <= 1000 := by omega
       have hbs : w.heap.size <= (w2.alloc (.cells #[.slice vA n1 vc] 40)).heap.size := Nat.le_trans hB.size (Nat.le_trans hbW2.size hbA.size)
       replace hMA := Za hMA
       replace hFA := Za hFA
       clear hk2 hg2 hnil hR hfe hfq hfl hMw hO2)
    | (at_builtin; refine Zcf _ rfl (.tmp 11) (.tmp 18) 22 rfl w.heap.size 40 iS Tryz.underlying22 ki kz0 kz1 kz2 _ _ rfl hown _ _ 1 1 [⟨vA, n1, vc⟩] rfl hRA rfl hll hbs ?_; intro v5 w5 hO5 hg5 hk5))
   have hM5 := hMA.out.snoc hne (r := ⟨vA, n1, vc⟩) hFA.out hB.size (fun s hs k hk => by
    obtain ⟨j, hj, rfl⟩ := List.getElem_of_mem hs
    obtain ⟨cs, a1, -, -⟩ := (hM.out.2.2.1 j _ (List.getElem?_eq_getElem hj)).ownBlk k hk
    exact a1.lt) hO5 hg5 hk5
   rw [hQ2.out] at hM5
   have hB5 := hB2.grown hg5 hbs (fun k hk => hown.row_ge k hk)
   replace hM5 := Za hM5
   go_roundg (n - (i + 1))
   case measure => omega
   case rel => exact ⟨i + 1, _, by omega, by go_num, hM5.out, hB5⟩
theorem Zrq (A : Option Addr) (n c : Nat) (Q : List (List Rat)) (w : World) (h : MFL w A n c Q) (hn9 : n <= 900) (hm : ∀ i, i < n -> 0 < (Q[i]?.getD []).length) :
    Calls Tryz.prog 71 #[.slice A n c] w fun e w' => ∃ v, e = .returned v /\ Below w.heap.size w w' /\ OwnF 45 w' w.heap.size v (Q.map fun r => r[0]?.getD 0) := by
 obtain ⟨iF, hi, hz0, hz1, hz2⟩ := info_parts Zcq
 have hl := Za h.1
 have hcm := h.2.2.1
 unfold maxLen at hcm
 have hnc := h.2.1
 replace h := Za h
 replace hm := Za hm
 go_enter Tryz.func71, Tryz.ntmps71
 go_wp2_with fail
 go_loopg [3, 4] n (fun k ov iv wr => ∃ i : Nat, i + k = n /\ iv = .int .i64 i /\ Below w.heap.size w wr /\ OwnF 45 wr w.heap.size ov ((Q.map fun r => r[0]?.getD 0).take i))
 case atStart => exact ⟨0, by omega, rfl, Below.refl _ _, OwnF.nil _ _ _⟩
 case round =>
  obtain ⟨i, hik, rfl, hB, hO⟩ := hrel
  cases gk with
  | zero =>
   obtain rfl : i = n := by omega
   have t1 : decide ((i : Int) < (i : Int)) = false := by simp
   replace hO := Za hO
   go_wp2_with fail
   go_ret
   refine ⟨_, rfl, hB, ?_⟩
   have h1 := hO.out
   rw [List.take_of_length_le (by rw [List.length_map, hl.out]; exact Nat.le_refl _)] at h1
   exact h1
  | succ k' =>
   obtain rfl : k' = n - (i + 1) := by omega
   have hin : i < n := by omega
   have t1 : decide ((i : Int) < (n : Int)) = true := decide_eq_true (by omega)
   have bi : (i : Int) < (n : Int) := by omega
   obtain ⟨g, o, A1, n1, c1, rfl, k0, hF⟩ := (h.out.below hB).at_ hin
   have hn1 := hm.out i hin
   rw [hF.len] at hn1
   have bn1 : (0 : Int) < (n1 : Int) := by omega
   obtain ⟨g1, o1, na, B1, m1, d1, nb, B2, m2, d2, rfl, hA4, hf⟩ := hF.at_ (k := 0) hn1
   obtain ⟨r0, r1, r2, r3⟩ := hA4
   simp only [Nat.zero_mul, Nat.add_zero] at r0 r1 r2 r3
   have hs := hB.size
   have hll : ((Q.map fun r => r[0]?.getD 0).take i).length + 1 <= 1000 := by rw [List.length_take, List.length_map]; omega
   have hq : Hid ((Q.map fun r => r[0]?.getD 0).take i ++ [(Q[i]?.getD [])[0]?.getD 0] = (Q.map fun r => r[0]?.getD 0).take (i + 1)) := Za (by
    rw [List.take_add_one, List.getElem?_map, List.getElem?_eq_getElem (l := Q) (i := i) (by rw [hl.out]; exact hin)]; rfl)
   obtain ⟨Y1, hY1⟩ : ∃ Y, wr.alloc (.cells #[.bool na, .slice B1 m1 d1, .bool nb, .slice B2 m2 d2] 45) = Y := ⟨_, rfl⟩
   have hBY : Below wr.heap.size wr Y1 := by rw [<- hY1]; exact (Below.refl _ _).alloc (Nat.le_refl _) _
   have hbl : Blk Y1 wr.heap.size 45 #[.bool na, .slice B1 m1 d1, .bool nb, .slice B2 m2 d2] := by rw [<- hY1]; exact Blk.new _ _ _
   have hfY : Fr Y1 na B1 m1 d1 nb B2 m2 d2 ((Q[i]?.getD [])[0]?.getD 0) := hf.below hBY
   have hOY := hO.kept hBY
   have hBB := hB.trans (hBY.mono hs)
   have hs2 := hBB.size
   replace hll := Za hll
   replace hf := Za hf
   go_wp2_with ((try rw [hY1]); at_builtin; refine Zbn _ rfl (.tmp 11) (.tmp 18) 40 rfl w.heap.size 45 iF Tryz.underlying40 hi hz0 hz1 hz2 _ _ rfl hOY _ (some ⟨wr.heap.size, 0, none⟩) 1 1 [⟨na, B1, m1, d1, nb, B2, m2, d2, (Q[i]?.getD [])[0]?.getD 0⟩] rfl (Zde _ hbl) rfl (by intro e he; rw [List.mem_singleton] at he; subst he; exact hfY) hll.out hs2 ?_; intro v2 w5 hO2 hg5 hk5)
   have hB5 := hBB.grown hg5 hs2 (fun k hk => hOY.row_ge k hk)
   simp only [List.map_cons, List.map_nil] at hO2
   rw [hq.out] at hO2
   go_roundg (n - (i + 1))
   case measure => omega
   case rel => exact ⟨i + 1, by omega, by go_num, hB5, hO2⟩
def wideB (Q : List (List Rat)) (b : List Rat) (n i : Nat) : List (List Rat) := (List.range n).map fun j => Q[j]?.getD [] ++ if j < i then [b[j]?.getD 0] else []
theorem Zpu (Q : List (List Rat)) (b : List Rat) : wideB Q b Q.length 0 = Q := by
 unfold wideB
 apply List.ext_getElem?
 intro j
 rw [List.getElem?_map]
 by_cases hj : j < Q.length
 ·rw [List.getElem?_range hj, List.getElem?_eq_getElem hj]; simp; rw [List.getElem?_eq_getElem hj]; rfl
 ·rw [List.getElem?_eq_none (by simpa using hj), List.getElem?_eq_none (l := Q) (by omega)]; rfl
theorem Zd4 {Q : List (List Rat)} {b : List Rat} {n i j : Nat} (hj : j < n) : (wideB Q b n i)[j]?.getD [] = Q[j]?.getD [] ++ if j < i then [b[j]?.getD 0] else [] := by
 unfold wideB
 rw [List.getElem?_map, List.getElem?_range hj]; rfl
theorem Zi6 (Q : List (List Rat)) (b : List Rat) (n i : Nat) : (wideB Q b n i).length = n := by unfold wideB; simp
theorem Zra {Q : List (List Rat)} {b : List Rat} {n i : Nat} (hi : i < n) : (wideB Q b n i).set i ((wideB Q b n i)[i]?.getD [] ++ [b[i]?.getD 0]) = wideB Q b n (i + 1) := by
 apply List.ext_getElem?
 intro j
 rw [List.getElem?_set, Zi6, Zd4 hi, if_neg (Nat.lt_irrefl _), List.append_nil]
 by_cases hij : i = j
 ·subst hij
  rw [if_pos rfl, if_pos hi]
  unfold wideB
  rw [List.getElem?_map, List.getElem?_range hi]
  simp
 ·rw [if_neg hij]
  unfold wideB
  rw [List.getElem?_map, List.getElem?_map]
  by_cases hj : j < n
  ·rw [List.getElem?_range hj]
   simp only [Option.map_some, Option.some.injEq]
   congr 1
   by_cases h : j < i
   ·rw [if_pos h, if_pos (by omega)]
   ·rw [if_neg h, if_neg (by omega)]
  ·rw [List.getElem?_eq_none (by simpa using hj)]; rfl
theorem Zpt (A B : Option Addr) (n c nb cb : Nat) (rs : List RX) (es : List FX) (w : World) (h : MXL w A n c rs) (hb : FXL w B nb cb es) (E : Int) (hs : sqE rs = E) (hE : E ≠ 0) :
    Calls Tryz.prog 27 #[.slice A n c, .slice B nb cb] w fun e w' => e = .returned (.tuple #[.slice none 0 0, .int .i64 E]) /\ Below w.heap.size w w' := by
 have t1 : decide (E ≠ 0) = true := decide_eq_true hE
 have t1' : (E != 0) = true := by simpa using hE
 replace h := Za h
 replace hs := Za hs
 replace hE := Za hE
 go_enter Tryz.func27, Tryz.ntmps27
 go_wp2_with fail
 refine (Zbc A n c rs w h.out E hs.out).mono ?_
 rintro e w1 ⟨rfl, hb1⟩
 go_wp2_with fail
 refine (Zbc A n c rs w1 (h.out.below hb1) E hs.out).mono ?_
 rintro e w2 ⟨rfl, hb2⟩
 go_wp2_with fail
 go_returns
 exact ⟨rfl, hb1.trans (hb2.mono hb1.size)⟩
theorem Znh (A B : Option Addr) (n c nb cb : Nat) (rs : List RX) (es : List FX) (w : World) (h : MXL w A n c rs) (hb : FXL w B nb cb es) (hs : sqE rs = 0) (hv : nb ≠ n \/ Za7 es = false) :
    Calls Tryz.prog 27 #[.slice A n c, .slice B nb cb] w fun e w' => e = .returned (.tuple #[.slice none 0 0, .int .i64 8]) /\ Below w.heap.size w w' := by
 replace h := Za h
 replace hs := Za hs
 replace hb := Za hb
 obtain ⟨V, hV⟩ : ∃ V, Za7 es = V := ⟨_, rfl⟩
 rw [hV] at hv
 replace hV := Za hV
 go_enter Tryz.func27, Tryz.ntmps27
 go_wp2_with fail
 refine (Zbc A n c rs w h.out 0 hs.out).mono ?_
 rintro e w1 ⟨rfl, hb1⟩
 by_cases hl : nb = n
 ·subst hl
  have t1 : (((nb : Int)) != (nb : Int)) = false := by simp
  obtain rfl : V = false := by
   rcases hv with hv | hv
   ·exact absurd rfl hv
   ·exact hv
  go_wp2_with fail
  refine (Zgh B nb cb es w1 (hb.out.below hb1) false hV.out).mono ?_
  rintro e w2 ⟨rfl, hb2⟩
  go_wp2_with fail
  go_returns
  exact ⟨rfl, hb1.trans (hb2.mono hb1.size)⟩
 ·have t1 : (((nb : Int)) != (n : Int)) = true := by simp; omega
  have t2 : decide ((nb : Int) = (n : Int)) = false := decide_eq_false (by omega)
  go_wp2_with fail
  go_returns
  exact ⟨rfl, hb1⟩
def SolR (Q : List (List Rat)) (b : List Rat) (n : Nat) (X : Nat -> Nat -> Rat) (w : World) (e : Ending) (w' : World) : Prop :=
 ((Zs n 0 0 (wideB Q b n n) false).2.1 < n /\ e = .returned (.tuple #[.slice none 0 0, .int .i64 18]) /\ Below w.heap.size w w') \/
 ((Zs n 0 0 (wideB Q b n n) false).2.1 = n /\ ∃ v, e = .returned (.tuple #[v, .int .i64 0]) /\ Below w.heap.size w w' /\ OwnF 45 w' w.heap.size v ((List.range n).map fun j => X j n))
theorem Zkn (A B : Option Addr) (n c cb : Nat) (rs : List RX) (es : List FX) (w : World) (h : MXL w A n c rs) (hb : FXL w B n cb es) (hs : sqE rs = 0) (hv : Za7 es = true) (hn9 : n <= 12) (hok : okR (pw 200) (pw 200) (n + 1) n 0 0 (wideB (qM rs) (es.map FX.q) n n)) (hrk : (Zs n 0 0 (wideB (qM rs) (es.map FX.q) n n) false).2.1 <= n)
    (X : Nat -> Nat -> Rat) (hX : (Zs n 0 0 (wideB (qM rs) (es.map FX.q) n n) false).2.1 = n -> Zdw (Zl (Zs n 0 0 (wideB (qM rs) (es.map FX.q) n n) false).1) X n (n + 1)) :
    Calls Tryz.prog 27 #[.slice A n c, .slice B n cb] w (SolR (qM rs) (es.map FX.q) n X w) := by
 have hmx : Tryz.prog.follows .mixedOrders = true := by kernel_rfl
 have hts : (40 : TypeId) ≠ 45 := by decide
 obtain ⟨iF, hi, hz0, hz1, hz2⟩ := info_parts Zcq
 obtain ⟨hE1, hE2⟩ := Zc4 hs
 obtain ⟨f1, f2, f3, f4, f5⟩ := Zbg hE1
 have hl := h.1
 have hQl : (qM rs).length = n := Zmg h
 have hQr := Zgb h hE1
 rw [show n0R rs = n by omega] at hQr
 have hF0 := h.good hE1
 have hFb : FL w B n cb (es.map FX.q) := hb.fl (fun e he => by
  unfold Za7 at hv
  rw [List.all_eq_true] at hv
  have h1 := hv e he
  unfold FX.fine at h1
  rw [Bool.and_eq_true] at h1
  exact h1.2)
 obtain ⟨Q, hQ⟩ : ∃ Q, qM rs = Q := ⟨_, rfl⟩
 obtain ⟨b, hbq⟩ : ∃ b, es.map FX.q = b := ⟨_, rfl⟩
 unfold SolR
 rw [hQ, hbq]
 rw [hQ] at hQl hQr hF0 hok hrk
 rw [hbq] at hFb hok hrk
 rw [hQ, hbq] at hX
 replace hX := Za hX
 have t1 : (((n : Int)) != (n : Int)) = false := by simp
 have hn1 : 1 <= n := by omega
 replace h := Za h
 replace hs := Za hs
 replace hb := Za hb
 replace hv := Za hv
 replace hF0 := Za hF0
 replace hFb := Za hFb
 replace hQr := Za hQr
 replace hok := Za hok
 replace hrk := Za hrk
 clear f3 f4 f5 hE1 hE2
 go_enter Tryz.func27, Tryz.ntmps27
 go_wp2_with fail
 refine (Zbc A n c rs w h.out 0 hs.out).mono ?_
 rintro e w1 ⟨rfl, hb1⟩
 go_wp2_with fail
 refine (Zgh B n cb es w1 (hb.out.below hb1) true hv.out).mono ?_
 rintro e w2 ⟨rfl, hb2⟩
 have hB2 := hb1.trans (hb2.mono hb1.size)
 go_wp2_with fail
 refine (Zje A n c n Q w2 (hF0.out.below hB2) (by omega) hQr.out (by omega) (by omega)).mono ?_
 rintro e w3 ⟨v, rs3, rfl, hb3, hMO⟩
 have hB3 := hB2.trans (hb3.mono hB2.size)
 have hrl : rs3.length = n := by rw [hMO.2.1, hQl]
 obtain ⟨go, cap, rfl, hc1, hc2, hM3⟩ := hMO.mat (fun e => by rw [e] at hrl; simp at hrl; omega)
 rw [hrl] at hc1 ⊢
 obtain ⟨base, hbase⟩ : ∃ x, w2.heap.size = x := ⟨_, rfl⟩
 rw [hbase] at hM3
 have hbw : w.heap.size <= base := by rw [<- hbase]; exact hB2.size
 have hb3b : base <= w3.heap.size := by rw [<- hbase]; exact hb3.size
 have hB3' : Hid (Below base w3 w3) := Za (Below.refl _ _)
 rw [<- Zpu Q b, hQl] at hM3
 replace hM3 := Za hM3
 replace hc2 := Za hc2
 replace hB3 := Za hB3
 clear hMO hbase hb3 hB2 hb2 hb1 hB3'
 go_wp2_with fail
 go_loopg [7] n (fun k iv wr => ∃ (i : Nat) (rs4 : List RS), i + k = n /\ iv = .int .i64 i /\ Hid (rs4.length = n) /\ MatA 40 45 wr base go rs4 (wideB Q b n i) /\ Below base w3 wr)
 case atStart => exact ⟨0, rs3, by omega, rfl, Za hrl, hM3.out, Below.refl _ _⟩
 case round =>
  clear hM3 hrl
  obtain ⟨i, rs4, hik, rfl, hrl, hM, hBr⟩ := hrel
  have hBw := hB3.out.trans (hBr.mono hbw)
  cases gk with
  | zero =>
   obtain rfl : i = n := by omega
   have t2 : decide ((i : Int) < (i : Int)) = false := by simp
   have hMF := hM.mfl (c := cap) (by rw [hrl.out]; exact hc1) hc2.out
   rw [hrl.out] at hMF
   have hml : ∀ j, j < i -> ((wideB Q b i i)[j]?.getD []).length = i + 1 := fun j hj => by
    rw [Zd4 hj, if_pos hj, List.length_append, hQr.out j hj]; rfl
   replace hMF := Za hMF
   replace hml := Za hml
   clear hM
   go_wp2_with fail
   by_cases hlt : (Zs i 0 0 (wideB Q b i i) false).2.1 < i
   ·replace hlt := Za hlt
    refine (Zjy (some ⟨go, 0, none⟩) i cap (i + 1) (wideB Q b i i) wr hMF.out (by omega) (by omega) (by omega) (by omega) hml.out hok.out hlt.out).mono ?_
    rintro e w5 ⟨rfl, hb5⟩
    go_wp2_with fail
    go_returns
    exact .inl ⟨hlt.out, rfl, hBw.trans (hb5.mono hBw.size)⟩
   ·have hre : Hid ((Zs i 0 0 (wideB Q b i i) false).2.1 = i) := Za (Nat.le_antisymm hrk.out (Nat.not_lt.1 hlt))
    clear hlt
    refine (Zj4 (some ⟨go, 0, none⟩) i cap (i + 1) (wideB Q b i i) wr hMF.out (by omega) (by omega) (by omega) (by omega) hml.out hok.out hre.out X (hX.out hre.out)).mono ?_
    rintro e w5 ⟨v, L, rfl, hb5, hMO5, hLq⟩
    have hLl : L.length = i := by rw [<- List.length_map (f := RF.q), hLq]; unfold Zcg; simp
    obtain ⟨go5, cap5, rfl, hc51, hc52, hgo5, hM5, hgs5⟩ := hMO5.mat hts (fun e => by rw [e] at hLl; simp at hLl; omega)
    have hMF5 := hM5.mfl hLl (by rw [<- hLl]; exact hc51) hc52
    rw [hLq] at hMF5
    rw [hLl] at hc51 ⊢
    have hB5 := hBw.trans (hb5.mono hBw.size)
    replace hMF5 := Za hMF5
    clear hMO5 hM5
    go_wp2_with fail
    refine (Zrq (some ⟨go5, 0, none⟩) i cap5 (Zcg X i (i + 1)) w5 hMF5.out (by omega) (fun j hj => by
     unfold Zcg; rw [List.getElem?_map, List.getElem?_range hj]; simp)).mono ?_
    rintro e w6 ⟨v6, rfl, hb6, hO6⟩
    have hO7 := hO6.lower hB5.size
    rw [show (Zcg X i (i + 1)).map (fun r => r[0]?.getD 0) = (List.range i).map fun j => X j i by
     unfold Zcg
     rw [List.map_map]
     refine List.map_congr_left fun j _ => ?_
     simp] at hO7
    replace hO7 := Za hO7
    go_wp2_with fail
    go_returns
    exact .inr ⟨hre.out, _, rfl, hB5.trans (hb6.mono hB5.size), hO7.out⟩
  | succ k' =>
   obtain rfl : k' = n - (i + 1) := by omega
   have hin : i < n := by omega
   have t2 : decide ((i : Int) < (n : Int)) = true := decide_eq_true (by omega)
   have bi : (i : Int) < (n : Int) := by omega
   obtain ⟨r, hr⟩ := Zat (L := rs4) (i := i) (by rw [hrl.out]; exact hin)
   obtain ⟨cr, zr⟩ := hM.cell hr
   obtain ⟨gb, ob, n6, A6, k6, c6, m6, B6, j6, d6, rfl, hA4, hf6⟩ := (hFb.out.below hBw).at_ hin
   obtain ⟨r0, r1, r2, r3⟩ := hA4
   have hgb : gb < w.heap.size := by
    obtain ⟨g', o', _, _, _, _, _, _, _, _, e, h4, -⟩ := hFb.out.at_ hin
    cases e
    exact Zr h4.1
   have hqi : ((wideB Q b n i)[i]?.getD []).length = n := by rw [Zd4 hin, if_neg (Nat.lt_irrefl _), List.append_nil]; exact hQr.out i hin
   have hbase0 : base <= wr.heap.size := Nat.le_trans hb3b hBr.size
   replace hM := Za hM
   replace hf6 := Za hf6
   go_wp2_with fail
   obtain ⟨X0, hX0⟩ : ∃ X, wr.drew = X := ⟨_, rfl⟩
   have hr1 : Below wr.heap.size wr X0 := by rw [<- hX0]; exact Zf (Below.refl _ _) 1
   have hSv1 : Hid (∀ wx, Below wr.heap.size wr wx -> wx.cell? ⟨go, i, none⟩ = some (.slice r.A r.n r.c) /\ wx.cell? ⟨gb, ob + i * 4, none⟩ = some (.bool n6) /\ wx.cell? ⟨gb, ob + i * 4 + 1, none⟩ = some (.slice A6 k6 c6) /\ wx.cell? ⟨gb, ob + i * 4 + 2, none⟩ = some (.bool m6) /\ wx.cell? ⟨gb, ob + i * 4 + 3, none⟩ = some (.slice B6 j6 d6)) := Za (fun wx hbx => ⟨Zb hbx cr, Zb hbx r0, Zb hbx r1, Zb hbx r2, Zb hbx r3⟩)
   refine wp_heldS [13] hmx hSv1 (by rw [hX0]; exact hr1) (fun hxs => ?_)
   rw [hX0]
   refine Zij 10 [0, 1, 2, 3, 4, 5, 6, 7, 8, 9] rfl (by kernel_rfl) (hSv1.out _ hr1) ?_
   iterate 10 (refine tk1 (v := ?_) rfl (Or.inl ⟨by kernel_rfl, ?_⟩) ?_; rotate_left; (· intro W2 hSw; (try dsimp only at hSw); go_simp; try with_reducible rfl); try simp only [Act.put, Zfg, Zfj, Zfc, putG_a, putG_s, putG_z])
   refine tk0 ?_
   obtain ⟨Y1, hY1⟩ : ∃ Y, X0.alloc (.cells #[.bool n6, .slice A6 k6 c6, .bool m6, .slice B6 j6 d6] 45) = Y := ⟨_, rfl⟩
   obtain ⟨ga, hga⟩ : ∃ g, X0.heap.size = g := ⟨_, rfl⟩
   have hBY : Below X0.heap.size X0 Y1 := by rw [<- hY1]; exact (Below.refl _ _).alloc (Nat.le_refl _) _
   have hbl : Blk Y1 ga 45 #[.bool n6, .slice A6 k6 c6, .bool m6, .slice B6 j6 d6] := by rw [<- hY1, <- hga]; exact Blk.new _ _ _
   have hr2 : Below wr.heap.size wr Y1 := hr1.trans (hBY.mono hr1.size)
   refine Ze (i := 10) rfl (by kernel_rfl) (fun K hK => ?_)
   go_simp
   (try rw [hY1])
   (try rw [hga])
   refine hK.out _ _ (fun _ => hSv1.out _ hr2) ?_
   clear hK K hY1 hga
   try simp only [Act.put, Zfg, Zfj, Zfc]
   have hAY := (hM.out).below hr2
   have hfY := hf6.out.below hr2
   have hYb : base <= Y1.heap.size := Nat.le_trans hbase0 hr2.size
   have hOr := hAY.2.2.2.1 i r hr
   refine Ze (i := 11) rfl (by kernel_rfl) (fun K hK => ?_)
   rw [if_pos (by rfl)]
   refine Zdv _ (.tmp 38) (.tmp 43) 40 rfl base 45 iF Tryz.underlying40 hi hz0 hz1 hz2 (r).val _ rfl hOr _ (some ⟨ga, 0, none⟩) 1 1 [⟨n6, A6, k6, c6, m6, B6, j6, d6, b[i]?.getD 0⟩] rfl (Zde _ hbl) rfl (by intro e he; rw [List.mem_singleton] at he; subst he; exact hfY) (by rw [hqi]; simp; omega) hYb ?_
   intro v2 Y2 hO2 hg2 hk2 hw2
   obtain ⟨nA, nn, nc, rfl⟩ : ∃ A n c, v2 = .slice A n c := by
    obtain ⟨A, c, e, -⟩ := hO2.fl
    exact ⟨_, _, _, e⟩
   have hown := hOr.ownBlk
   have hsame : ∀ (g o : Nat) (v : Value), (r).val.ownBlock ≠ some g -> Y1.cell? ⟨g, o, none⟩ = some v -> Y2.cell? ⟨g, o, none⟩ = some v := fun g o v hgg hv => by
    rw [<- hv]
    exact World.cell?_of_block (hg2.block g (Zr hv) (fun e => hgg e.symm))
   have hM9 := Za (hAY.app hts (i := i) (r' := ⟨nA, nn, nc⟩) hr hg2 hO2 hk2 hw2)
   rw [show (wideB Q b n i)[i]?.getD [] ++ List.map FE.q [⟨n6, A6, k6, c6, m6, B6, j6, d6, b[i]?.getD 0⟩] = (wideB Q b n i)[i]?.getD [] ++ [b[i]?.getD 0] from rfl, Zra hin] at hM9
   have hngo : r.val.ownBlock ≠ some go := fun e => by
    obtain ⟨cs, a1, -, -⟩ := hown go e
    obtain ⟨⟨zs, a2⟩, -⟩ := hAY
    exact hts (a2.type a1)
   have hngb : r.val.ownBlock ≠ some gb := fun e => by
    obtain ⟨cs, -, -, a2⟩ := hown gb e
    omega
   have hS2 : Y2.cell? ⟨go, i, none⟩ = some (.slice r.A r.n r.c) /\ Y2.cell? ⟨gb, ob + i * 4, none⟩ = some (.bool n6) /\ Y2.cell? ⟨gb, ob + i * 4 + 1, none⟩ = some (.slice A6 k6 c6) /\ Y2.cell? ⟨gb, ob + i * 4 + 2, none⟩ = some (.bool m6) /\ Y2.cell? ⟨gb, ob + i * 4 + 3, none⟩ = some (.slice B6 j6 d6) := by
    obtain ⟨a0, a1, a2, a3, a4⟩ := hSv1.out _ hr2
    exact ⟨hsame _ _ _ hngo a0, hsame _ _ _ hngb a1, hsame _ _ _ hngb a2, hsame _ _ _ hngb a3, hsame _ _ _ hngb a4⟩
   have hB9 : Hid (Below base w3 (Y2.setCell ⟨go, i, none⟩ (RS.val ⟨nA, nn, nc⟩))) := Za (((hBr.trans (hr2.mono hbase0)).grown hg2 (Nat.le_trans hb3b (hBr.trans (hr2.mono hbase0)).size) (fun k hk => (hown k hk).choose_spec.2.2)).setCell hM9.out.2.1 _)
   have kzO : Y2.frozen? ⟨go, i, none⟩ = false := by
    rw [World.frozen?_of_block (hg2.block go (by obtain ⟨⟨zs, a2⟩, -⟩ := hAY; exact a2.lt) (fun e => hngo e.symm))]
    exact (hAY.cell hr).2
   refine hK.out _ _ (fun _ => hS2) ?_
   clear hK K
   try simp only [Act.put, Zfg, Zfj, Zfc]
   refine Zfh 1 [12] rfl (by kernel_rfl) hS2 ?_
   (refine tk1 (v := ?_) rfl (Or.inl ⟨by kernel_rfl, ?_⟩) ?_; rotate_left; (· intro W2 _; go_simp; try with_reducible rfl); try simp only [Act.put, Zfg, Zfj, Zfc, putG_a, putG_s, putG_z])
   refine tk0 ?_
   have kO2 := hS2.1
   have hl9 : Hid ((rs4.set i ⟨nA, nn, nc⟩).length = n) := Za (by rw [List.length_set]; exact hrl.out)
   clear hS2 hO2 hown hOr hAY hfY hbl hBY hr2 hsame hngo hngb
   refine Zt (i := 13) rfl (by kernel_rfl) (by kernel_rfl) (fun K hK => ?_)
   go_simp
   refine hK.out _ _ ?_
   clear hK K
   try simp only [Act.put, Zfg, Zfj, Zfc]
   refine Zk (by kernel_rfl) ?_ _
   refine OnlyNormal.normal ?_
   clear kO2 kzO hxs hSv1 hr1 r0 r1 r2 r3 cr zr hg2 hk2 hw2
   go_wp2_with fail
   go_roundg (n - (i + 1))
   case measure => omega
   case rel => exact ⟨i + 1, _, by omega, by go_num, hl9, hM9.out, hB9.out⟩
theorem Zr5 (A B : Option Addr) (n c cb : Nat) (rs : List RX) (es : List FX) (w : World) (h : MXL w A n c rs) (hb : FXL w B n cb es) (hs : sqE rs = 0) (hv : Za7 es = true) (hn9 : n <= 12) (hok : okR (pw 200) (pw 200) (n + 1) n 0 0 (wideB (qM rs) (es.map FX.q) n n)) (hrk : (Zs n 0 0 (wideB (qM rs) (es.map FX.q) n n) false).2.1 < n) :
    Calls Tryz.prog 27 #[.slice A n c, .slice B n cb] w fun e w' => e = .returned (.tuple #[.slice none 0 0, .int .i64 18]) /\ Below w.heap.size w w' :=
 (Zkn A B n c cb rs es w h hb hs hv hn9 hok (by omega) (fun _ _ => 0) (fun h => by omega)).mono fun e w' h => by
  rcases h with h | h
  ·exact h.2
  ·have := h.1; omega
theorem Zrn (A B : Option Addr) (n c cb : Nat) (rs : List RX) (es : List FX) (w : World) (h : MXL w A n c rs) (hb : FXL w B n cb es) (hs : sqE rs = 0) (hv : Za7 es = true) (hn9 : n <= 12) (hok : okR (pw 200) (pw 200) (n + 1) n 0 0 (wideB (qM rs) (es.map FX.q) n n)) (hrk : (Zs n 0 0 (wideB (qM rs) (es.map FX.q) n n) false).2.1 = n)
    (X : Nat -> Nat -> Rat) (hX : Zdw (Zl (Zs n 0 0 (wideB (qM rs) (es.map FX.q) n n) false).1) X n (n + 1)) :
    Calls Tryz.prog 27 #[.slice A n c, .slice B n cb] w fun e w' => ∃ v, e = .returned (.tuple #[v, .int .i64 0]) /\ Below w.heap.size w w' /\ OwnF 45 w' w.heap.size v ((List.range n).map fun j => X j n) :=
 (Zkn A B n c cb rs es w h hb hs hv hn9 hok (by omega) X (fun _ => hX)).mono fun e w' h => by
  rcases h with h | h
  ·have := h.1; omega
  ·exact h.2
theorem Zm3 (x y : Value) (W : World) : (callFunc 77 #[x, y]).run Tryz.prog W = .ok (.enter 77 #[x, y]) W := by simp [go_sem]
theorem Zrb (gx : Nat) (B : Option Addr) (n cb i : Nat) (b : List Rat) (w : World) (hx : w.cell? ⟨gx, 0, none⟩ = some (.slice B n cb)) (h : FL w B n cb b) (hi : i < n) :
    Calls Tryz.prog 77 #[.int .i64 i, .pointer (some ⟨gx, 0, none⟩)] w fun e w' => ∃ A c, e = .returned (.slice A 1 c) /\ Below w.heap.size w w' /\ FL w' A 1 c [b[i]?.getD 0] := by
 obtain ⟨hnc, hcm⟩ := h.cap
 unfold maxLen at hcm
 have hbl := h.len
 obtain ⟨g, o, -, -, -, -, -, -, -, -, rfl, -, -⟩ := h.at_ hi
 have h1 := (h.drop rfl (k := i) (by omega)).take (k := 1) (by omega)
 have e1 : (b.drop i).take 1 = [b[i]?.getD 0] := by
  rw [List.drop_eq_getElem_cons (by omega), List.take_succ_cons, List.take_zero, List.getElem?_eq_getElem (by omega)]; rfl
 rw [e1] at h1
 have b1 : (0 : Int) <= (i : Int) := by omega
 have b2 : (i : Int) <= (i : Int) + 1 := by omega
 have b3 : (i : Int) + 1 <= (cb : Int) := by omega
 have e2 : ((i : Int) + 1).toNat = i + 1 := by omega
 have e3 : i + 1 - i = 1 := by omega
 replace h1 := Za h1
 clear h e1
 go_enter Tryz.func77, Tryz.ntmps77
 go_wp2
 go_ret
 exact ⟨_, _, rfl, Below.refl _ _, h1.out⟩
theorem Zpi (A B : Option Addr) (n c nb cb : Nat) (rs : List RX) (es : List FX) (w : World) (h : MXL w A n c rs) (hb : FXL w B nb cb es) (E : Int) (hs : sqE rs = E) (hE : E ≠ 0) :
    Calls Tryz.prog 26 #[.slice A n c, .slice B nb cb] w fun e w' => e = .returned (.tuple #[.slice none 0 0, .int .i64 E]) /\ Below w.heap.size w w' := by
 obtain ⟨W0, hW0, hB0, q0, s0⟩ := Za8 w 40 #[.slice B nb cb]
 have t1 : decide (E ≠ 0) = true := decide_eq_true hE
 have t1' : (E != 0) = true := by simpa using hE
 replace h := Za (h.below hB0)
 replace hs := Za hs
 replace hE := Za hE
 go_enter Tryz.func26, Tryz.ntmps26
 go_wp2_with fail
 (try rw [hW0])
 refine (Zcl A n c rs W0 h.out E hs.out).mono ?_
 rintro e w1 ⟨rfl, hb1⟩
 go_wp2_with fail
 go_returns
 exact ⟨rfl, hB0.trans (hb1.mono hB0.size)⟩
theorem Zos (A B : Option Addr) (n c nb cb : Nat) (rs : List RX) (es : List FX) (w : World) (h : MXL w A n c rs) (hb : FXL w B nb cb es) (hs : sqE rs = 0) (hv : nb ≠ n \/ Za7 es = false) :
    Calls Tryz.prog 26 #[.slice A n c, .slice B nb cb] w fun e w' => e = .returned (.tuple #[.slice none 0 0, .int .i64 8]) /\ Below w.heap.size w w' := by
 obtain ⟨W0, hW0, hB0, q0, s0⟩ := Za8 w 40 #[.slice B nb cb]
 replace h := Za (h.below hB0)
 replace hs := Za hs
 replace hb := Za (hb.below hB0)
 obtain ⟨V, hV⟩ : ∃ V, Za7 es = V := ⟨_, rfl⟩
 rw [hV] at hv
 replace hV := Za hV
 go_enter Tryz.func26, Tryz.ntmps26
 go_wp2_with fail
 (try rw [hW0])
 refine (Zcl A n c rs W0 h.out 0 hs.out).mono ?_
 rintro e w1 ⟨rfl, hb1⟩
 have k0 := (Zc hb1 q0).cell 0
 simp at k0
 by_cases hl : nb = n
 ·subst hl
  have t1 : (((nb : Int)) != (nb : Int)) = false := by simp
  obtain rfl : V = false := by
   rcases hv with hv | hv
   ·exact absurd rfl hv
   ·exact hv
  go_wp2_with fail
  refine (Zf6 B nb cb es w1 (hb.out.below hb1) false hV.out).mono ?_
  rintro e w2 ⟨rfl, hb2⟩
  go_wp2_with fail
  go_returns
  exact ⟨rfl, (hB0.trans (hb1.mono hB0.size)).trans (hb2.mono (Nat.le_trans hB0.size hb1.size))⟩
 ·have t1 : (((nb : Int)) != (n : Int)) = true := by simp; omega
  have t2 : decide ((nb : Int) = (n : Int)) = false := decide_eq_false (by omega)
  go_wp2_with fail
  go_returns
  exact ⟨rfl, hB0.trans (hb1.mono hB0.size)⟩
def SolZ (Q : List (List Rat)) (b : List Rat) (n : Nat) (X : Nat -> Nat -> Rat) (w : World) (e : Ending) (w' : World) : Prop :=
 ((Z6 n 0 0 (Zo (wideB Q b n n)) false 1).2.1 < n /\ e = .returned (.tuple #[.slice none 0 0, .int .i64 18]) /\ Below w.heap.size w w') \/
 ((Z6 n 0 0 (Zo (wideB Q b n n)) false 1).2.1 = n /\ ∃ v, e = .returned (.tuple #[v, .int .i64 0]) /\ Below w.heap.size w w' /\ OwnF 45 w' w.heap.size v ((List.range n).map fun j => X j n))
theorem Zj3 (A B : Option Addr) (n c cb : Nat) (rs : List RX) (es : List FX) (w : World) (h : MXL w A n c rs) (hb : FXL w B n cb es) (hs : sqE rs = 0) (hv : Za7 es = true) (hn9 : n <= 12) (hok : okZ (pw 200) (n + 1) n 0 0 (Zo (wideB (qM rs) (es.map FX.q) n n)) 1) (hfin : Zft (wideB (qM rs) (es.map FX.q) n n) n (n + 1)) (hrk : (Z6 n 0 0 (Zo (wideB (qM rs) (es.map FX.q) n n)) false 1).2.1 <= n)
    (X : Nat -> Nat -> Rat) (hX : (Z6 n 0 0 (Zo (wideB (qM rs) (es.map FX.q) n n)) false 1).2.1 = n -> Zdw (fun i j => (Zaa (Z6 n 0 0 (Zo (wideB (qM rs) (es.map FX.q) n n)) false 1).1 i j : Rat)) X n (n + 1)) :
    Calls Tryz.prog 26 #[.slice A n c, .slice B n cb] w (SolZ (qM rs) (es.map FX.q) n X w) := by
 have hts : (40 : TypeId) ≠ 45 := by decide
 obtain ⟨hE1, hE2⟩ := Zc4 hs
 obtain ⟨f1, f2, f3, f4, f5⟩ := Zbg hE1
 have hl := h.1
 have hQl : (qM rs).length = n := Zmg h
 have hQr := Zgb h hE1
 rw [show n0R rs = n by omega] at hQr
 have hF0 := h.good hE1
 have hFb : FL w B n cb (es.map FX.q) := hb.fl (fun e he => by
  unfold Za7 at hv
  rw [List.all_eq_true] at hv
  have h1 := hv e he
  unfold FX.fine at h1
  rw [Bool.and_eq_true] at h1
  exact h1.2)
 obtain ⟨W0, hW0, hB0, q0, s0⟩ := Za8 w 40 #[.slice B n cb]
 obtain ⟨Q, hQ⟩ : ∃ Q, qM rs = Q := ⟨_, rfl⟩
 obtain ⟨b, hbq⟩ : ∃ b, es.map FX.q = b := ⟨_, rfl⟩
 rw [hQ] at hQl hQr hF0 hok hfin hrk
 rw [hbq] at hFb hok hfin hrk
 rw [hQ, hbq] at hX
 replace hX := Za hX
 unfold SolZ
 rw [hQ, hbq]
 have t1 : (((n : Int)) != (n : Int)) = false := by simp
 have hn1 : 1 <= n := by omega
 replace h := Za (h.below hB0)
 replace hs := Za hs
 replace hb := Za (hb.below hB0)
 replace hv := Za hv
 replace hF0 := Za (hF0.below hB0)
 replace hFb := Za (hFb.below hB0)
 replace hQr := Za hQr
 replace hok := Za hok
 replace hrk := Za hrk
 replace hfin := Za hfin
 clear f3 f4 f5 hE1 hE2
 go_enter Tryz.func26, Tryz.ntmps26
 go_wp2_with fail
 (try rw [hW0])
 refine (Zcl A n c rs W0 h.out 0 hs.out).mono ?_
 rintro e w1 ⟨rfl, hb1⟩
 have q1 := Zc hb1 q0
 have k0 := q1.cell 0
 simp at k0
 go_wp2_with fail
 refine (Zf6 B n cb es w1 (hb.out.below hb1) true hv.out).mono ?_
 rintro e w2 ⟨rfl, hb2⟩
 have hB2 : Below W0.heap.size W0 w2 := hb1.trans (hb2.mono hb1.size)
 have q2 := Zc hb2 q1
 replace q2 := Za q2
 clear k0
 go_wp2_with fail
 refine (Zlu 77 (.pointer (some ⟨w.heap.size, 0, none⟩)) A n c n 1 Q (fun i => [b[i]?.getD 0]) w2 (hF0.out.below hB2) (by omega) hQr.out (by omega) (by omega) (by omega) (by omega) (fun i hi => rfl) (fun x W => Zm3 _ _ _) (fun W i hbW hi => Zrb w.heap.size B n cb i b W (by
  have h1 := (q2.out.below hbW q2.out.lt).cell 0
  simpa using h1) ((hFb.out.below hB2).below hbW) hi)).mono ?_
 rintro e w3 ⟨go, L, rfl, hb3, -, hLl, hM3, hLq⟩
 have hwide : L.map RF.q = wideB Q b n n := by
  rw [hLq]
  unfold wideB
  refine List.map_congr_left fun j hj => ?_
  rw [if_pos (List.mem_range.1 hj)]
 have hMF := hM3.mfl hLl (Nat.le_refl n) (by unfold maxLen; omega)
 rw [hwide] at hMF
 have hB3 := hB2.trans (hb3.mono hB2.size)
 have hml : ∀ j, j < n -> ((wideB Q b n n)[j]?.getD []).length = n + 1 := fun j hj => by
  rw [Zd4 hj, if_pos hj, List.length_append, hQr.out j hj]; rfl
 replace hMF := Za hMF
 replace hml := Za hml
 replace hB3 := Za hB3
 clear hM3 hwide hLq hb3 hB2 hb2 hb1 q1 q2 hLl
 go_wp2_with fail
 by_cases hlt : (Z6 n 0 0 (Zo (wideB Q b n n)) false 1).2.1 < n
 ·replace hlt := Za hlt
  refine (Zn3 (some ⟨go, 0, none⟩) n n (n + 1) (wideB Q b n n) w3 hMF.out (by omega) (by omega) (by omega) (by omega) hml.out hok.out hfin.out hlt.out).mono ?_
  rintro e w5 ⟨rfl, hb5⟩
  have hB5 := hB3.out.trans (hb5.mono hB3.out.size)
  go_wp2_with fail
  go_returns
  exact .inl ⟨hlt.out, rfl, hB0.trans (hB5.mono hB0.size)⟩
 ·have hre : Hid ((Z6 n 0 0 (Zo (wideB Q b n n)) false 1).2.1 = n) := Za (Nat.le_antisymm hrk.out (Nat.not_lt.1 hlt))
  clear hlt
  refine (Znu (some ⟨go, 0, none⟩) n n (n + 1) (wideB Q b n n) w3 hMF.out (by omega) (by omega) (by omega) (by omega) hml.out hok.out hfin.out hre.out X (hX.out hre.out)).mono ?_
  rintro e w5 ⟨gO, L5, rfl, hb5, hgO, hM5, hLq5, -⟩
  have hLl5 : L5.length = n := by rw [<- List.length_map (f := RF.q), hLq5]; unfold Zcg; simp
  have hfl : (L5.map RF.q).flatten = (List.range n).map fun j => X j n := by
   rw [hLq5]
   unfold Zcg
   rw [show n + 1 - n = 1 by omega]
   have : ∀ l : List Nat, (l.map fun i => (List.range 1).map fun c => X i (n + c)).flatten = l.map fun j => X j n := by
    intro l
    induction l with
    | nil => rfl
    | cons x l ih => rw [List.map_cons, List.flatten_cons, ih]; rfl
   exact this _
  have hfll : (L5.map RF.q).flatten.length = n := by rw [hfl]; simp
  have hB5 := hB3.out.trans (hb5.mono hB3.out.size)
  replace hM5 := Za hM5
  go_wp2_with fail
  refine (Zq1 gO n n L5 w5 hM5.out hLl5 (by omega) (Nat.le_refl _) (by unfold maxLen; omega) (by omega) (by omega)).mono ?_
  rintro e w6 ⟨v6, rfl, hb6, hO6⟩
  rw [hfl] at hO6
  have hB6 := hB0.trans ((hB5.trans (hb6.mono hB5.size)).mono hB0.size)
  have hO7 := hO6.lower (show w.heap.size <= w5.heap.size from Nat.le_trans hB0.size hB5.size)
  replace hO7 := Za hO7
  go_wp2_with fail
  go_returns
  exact .inr ⟨hre.out, _, rfl, hB6, hO7.out⟩
theorem Zrk (A B : Option Addr) (n c cb : Nat) (rs : List RX) (es : List FX) (w : World) (h : MXL w A n c rs) (hb : FXL w B n cb es) (hs : sqE rs = 0) (hv : Za7 es = true) (hn9 : n <= 12) (hok : okZ (pw 200) (n + 1) n 0 0 (Zo (wideB (qM rs) (es.map FX.q) n n)) 1) (hfin : Zft (wideB (qM rs) (es.map FX.q) n n) n (n + 1)) (hrk : (Z6 n 0 0 (Zo (wideB (qM rs) (es.map FX.q) n n)) false 1).2.1 < n) :
    Calls Tryz.prog 26 #[.slice A n c, .slice B n cb] w fun e w' => e = .returned (.tuple #[.slice none 0 0, .int .i64 18]) /\ Below w.heap.size w w' :=
 (Zj3 A B n c cb rs es w h hb hs hv hn9 hok hfin (by omega) (fun _ _ => 0) (fun h => by omega)).mono fun e w' h => by
  rcases h with h | h
  ·exact h.2
  ·have := h.1; omega
theorem Zse (A B : Option Addr) (n c cb : Nat) (rs : List RX) (es : List FX) (w : World) (h : MXL w A n c rs) (hb : FXL w B n cb es) (hs : sqE rs = 0) (hv : Za7 es = true) (hn9 : n <= 12) (hok : okZ (pw 200) (n + 1) n 0 0 (Zo (wideB (qM rs) (es.map FX.q) n n)) 1) (hfin : Zft (wideB (qM rs) (es.map FX.q) n n) n (n + 1)) (hrk : (Z6 n 0 0 (Zo (wideB (qM rs) (es.map FX.q) n n)) false 1).2.1 = n)
    (X : Nat -> Nat -> Rat) (hX : Zdw (fun i j => (Zaa (Z6 n 0 0 (Zo (wideB (qM rs) (es.map FX.q) n n)) false 1).1 i j : Rat)) X n (n + 1)) :
    Calls Tryz.prog 26 #[.slice A n c, .slice B n cb] w fun e w' => ∃ v, e = .returned (.tuple #[v, .int .i64 0]) /\ Below w.heap.size w w' /\ OwnF 45 w' w.heap.size v ((List.range n).map fun j => X j n) :=
 (Zj3 A B n c cb rs es w h hb hs hv hn9 hok hfin (by omega) X (fun _ => hX)).mono fun e w' h => by
  rcases h with h | h
  ·have := h.1; omega
  ·exact h.2
end Go.Proofs.YtigdclhagmnopaaGreat
