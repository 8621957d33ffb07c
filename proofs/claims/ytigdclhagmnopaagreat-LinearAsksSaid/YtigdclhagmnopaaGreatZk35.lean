/- The reference of frac: Neg; the reference of linear: det. -/
import Derived.Test.YtigdclhagmnopaaGreatZk34
set_option linter.unusedSimpArgs false
set_option linter.unusedVariables false

namespace Go.Proofs.YtigdclhagmnopaaGreat
open Go.RowKit
attribute [local go_sem] add_lit

set_option maxRecDepth 100000 in
set_option maxHeartbeats 2000000 in
theorem rfNeg_ok (na nb : Bool) (A B : Option Addr) (n c m d : Nat) (a : Rat) (w : World) (ha : Fr w na A n c nb B m d a) :
    Calls Tryz.prog 38 #[.agg #[.bool na, .slice A n c, .bool nb, .slice B m d]] w (FracE w (-a)) := by
 obtain ⟨W0, hW0, hB0, ⟨q0, q1⟩, s0⟩ := alloc2 w 45 #[.bool na, .slice A n c, .bool nb, .slice B m d] 45 #[.bool false, .slice none 0 0, .bool false, .slice none 0 0]
 have hA := hide (ha.below hB0)
 have hsm : Hid ((-a.num).natAbs < pw 4096) := hide (by rw [Int.natAbs_neg]; exact ha.1.small)
 clear ha
 obtain ⟨a0, a1, a2, a3, -⟩ := q0.four
 have hq := hide (And.intro q0 q1)
 clear q0 q1
 go_enter Tryz.func38, Tryz.ntmps38
 go_wp2_with fail
 refine (rfCheck_ok na nb A B n c m d a W0 hA.out).mono ?_
 rintro e w1 ⟨rfl, hb1⟩
 have hB1 := hB0.trans (hb1.mono hB0.size)
 have s1 := hb1.size
 replace hA := hide (hA.out.below hb1)
 obtain ⟨q0, q1⟩ := hq.out
 replace q0 := keep_blk hb1 q0
 replace q1 := keep_blk hb1 q1
 clear hW0 hb1 a0 a1 a2 a3 hq hB0
 obtain ⟨a0, a1, a2, a3, -⟩ := q0.four
 have hq := hide (And.intro q0 q1)
 clear q0 q1
 go_wp2_with fail
 refine (rNeg_ok na A n c a.num w1 hA.out.1).mono ?_
 rintro e w2 ⟨hb2, n2, A2, k2, c2, code, rfl, hR⟩
 have hN := hR.small hsm.out
 have hcode := hR.code0 hsm.out
 subst hcode
 have hB2 := hB1.trans (hb2.mono hB1.size)
 have s2 := hb2.size
 replace hA := hide (hA.out.below hb2)
 obtain ⟨q0, q1⟩ := hq.out
 replace q0 := keep_blk hb2 q0
 replace q1 := keep_blk hb2 q1
 clear hb2 a0 a1 a2 a3 hq hB1 hR
 obtain ⟨V, hV, hBV, qv, kW, kB, sV⟩ := new_obj 43 #[.bool n2, .slice A2 k2 c2] hB2 hB2.size
 replace q0 := kB _ _ _ q0
 replace q1 := kB _ _ _ q1
 replace hN := hide (kW _ _ _ _ _ hN)
 have hD := hide (kW _ _ _ _ _ hA.out.2)
 clear kW kB hA hB2
 obtain ⟨a0, a1, a2, a3, -⟩ := q0.four
 obtain ⟨v0, v1, v2, v3⟩ := qv.two
 obtain ⟨r0, r1, r2, r3, r4, r5, r6, r7⟩ := q1.four
 go_wp2_with fail
 obtain ⟨W7, hW7, hB7, q3, kW, -, s7⟩ := set_frac n2 A2 k2 c2 nb B m d hBV (by omega) q1
 rw [hW7]
 obtain ⟨r0, r1, r2, r3, -⟩ := q3.four
 refine bodyPost_ret (v := .tuple #[.agg #[.bool n2, .slice A2 k2 c2, .bool nb, .slice B m d], .int .i64 0]) (by simp [results, Tryz.results38, go_sem, r0, r1, r2, r3]) rfl ?_
 exact ⟨hB7, _, _, _, _, _, _, _, _, rfl, kW _ _ _ _ _ hN.out, kW _ _ _ _ _ hD.out⟩

theorem SmN.one : SmN 1 1 1 := ⟨by rw [show (1 : Rat).num.natAbs = 1 from rfl]; exact pw_gt_one, by rw [show (1 : Rat).den = 1 from rfl]; exact pw_gt_one⟩
theorem prodQ_smN {f : Nat → Rat} (h : ∀ i, SmN 190 190 (f i)) : ∀ n, SmN (190 * n + 1) (190 * n + 1) (prodQ n f)
 | 0 => SmN.one
 | n + 1 => by
  have := (prodQ_smN h n).mulN (h n)
  rw [show 190 * n + 1 + 190 = 190 * (n + 1) + 1 by omega] at this
  exact this
theorem okR_final {C D m : Nat} : ∀ (f c r : Nat) (R : List (List Rat)) (ng : Bool), okR C D m f c r R → BdR C D m (elimR f c r R ng).1
 | 0, _, _, _, _, h => h
 | f + 1, c, r, R, ng, h => by
  by_cases h0 : r = R.length
  · rw [elimR_stop h0]; exact h.1
  · obtain ⟨q, hq⟩ : ∃ q, pivAt (fun i => entR R i c == 0) R.length R.length r = q := ⟨_, rfl⟩
    by_cases hn : q = R.length
    · rw [elimR_skip h0 hq hn]; exact okR_final f _ _ _ _ (okR_skip h h0 hq hn)
    · rw [elimR_step h0 hq hn]; exact okR_final f _ _ _ _ (okR_step h h0 hq hn)
theorem elimR_rank : ∀ (f c r : Nat) (R : List (List Rat)) (ng : Bool), r ≤ R.length → (elimR f c r R ng).2.1 ≤ R.length
 | 0, _, _, _, _, h => h
 | f + 1, c, r, R, ng, h => by
  by_cases h0 : r = R.length
  · rw [elimR_stop h0]; exact h
  · obtain ⟨q, hq⟩ : ∃ q, pivAt (fun i => entR R i c == 0) R.length R.length r = q := ⟨_, rfl⟩
    by_cases hn : q = R.length
    · rw [elimR_skip h0 hq hn]; exact elimR_rank f _ _ _ _ h
    · rw [elimR_step h0 hq hn]
      have h1 := elimR_rank f (c + 1) (r + 1) (clearR (swapL R q r) r c) (ng != decide (q ≠ r)) (by rw [clearR_len, swapL_len]; omega)
      rw [clearR_len, swapL_len] at h1
      exact h1
theorem BdR.mono {C D C' D' m : Nat} {R : List (List Rat)} (h : BdR C D m R) (hC : C ≤ C') (hD : D ≤ D') : BdR C' D' m R := ⟨h.1, fun i j => ⟨Nat.lt_of_lt_of_le (h.2 i j).1 hC, Nat.lt_of_lt_of_le (h.2 i j).2 hD⟩⟩
theorem okR_mono {C D C' D' m : Nat} (hC : C ≤ C') (hD : D ≤ D') : ∀ (f c r : Nat) (R : List (List Rat)), okR C D m f c r R → okR C' D' m f c r R
 | 0, _, _, _, h => BdR.mono h hC hD
 | f + 1, c, r, R, h => ⟨h.1.mono hC hD, h.2.imp id (fun ⟨h1, h2⟩ => ⟨fun e => okR_mono hC hD f _ _ _ (h1 e), fun e => okR_mono hC hD f _ _ _ (h2 e)⟩)⟩

set_option maxRecDepth 100000 in
set_option maxHeartbeats 4000000 in
theorem rdet_ok (A : Option Addr) (n c : Nat) (Q : List (List Rat)) (w : World) (h : MFL w A n c Q) (hn0 : 0 < n) (hn5 : n ≤ 5) (hm : ∀ i, i < n → (Q[i]?.getD []).length = n) (hok : okR (pw 190) (pw 190) n n 0 0 Q) :
    Calls Tryz.prog 59 #[.slice A n c] w (FracW w (detR Q)) := by
 have hmx : Tryz.prog.follows .mixedOrders = true := by kernel_rfl
 have hne : (40 : TypeId) ≠ 45 := by decide
 have hQl := hide h.1
 obtain ⟨W0, hW0, hB0, q0, s0⟩ := alloc1 w 45 #[.bool false, .slice none 0 0, .bool false, .slice none 0 0]
 replace h := h.below hB0
 go_enter Tryz.func59, Tryz.ntmps59
 go_wp2_with fail
 refine (rcopied_ok A n c n Q W0 h (by omega) hm hn0 (by omega)).mono ?_
 rintro e w1 ⟨v, L, rfl, hb1, hMO, hLq⟩
 have hLl : L.length = n := by rw [← hQl.out, ← hLq, List.length_map]
 obtain ⟨go, cap, rfl, hc1, hc2, hgo, hM, hgs⟩ := hMO.mat hne (fun e => by rw [e] at hLl; simp at hLl; omega)
 rw [hLl] at hc1 ⊢
 replace hLl := hide hLl
 have hok1 := hide (okR_mono (pw_le (by decide : 190 ≤ 200)) (pw_le (by decide : 190 ≤ 200)) n 0 0 Q hok)
 have hfin : Hid (BdR (pw 190) (pw 190) n (elimR n 0 0 Q false).1) := hide (okR_final n 0 0 Q false hok)
 clear hMO h hok
 unfold maxLen at hc2
 go_wp2_with fail
 refine (rechelon_ok go n cap L n n w1 hM hLl.out hn0 (by omega) hc1 (by unfold maxLen; exact hc2) (Nat.le_refl _) (by omega) (by rw [hLq]; exact hok1.out)).mono ?_
 rw [hLq]
 rintro e w2 ⟨L2, rfl, hl2, hg2, hq2, hM2, hK2⟩
 obtain ⟨FIN, hFIN⟩ : ∃ X, elimR n 0 0 Q false = X := ⟨_, rfl⟩
 obtain ⟨E, rank, neg⟩ := FIN
 rw [hFIN] at hq2 hfin ⊢
 simp only at hq2 hfin ⊢
 clear hM
 have hgG : ∀ k, (k = go ∨ k ∈ L.map RF.g) → W0.heap.size ≤ k := fun k hk => by
  rcases hk with rfl | hk
  · exact hgo
  · obtain ⟨r, hr, rfl⟩ := List.mem_map.1 hk
    exact hgs r hr
 have hB2 : Below W0.heap.size W0 w2 := hb1.trans (hK2.to_below hgG hb1.size)
 have hBw2 := hB0.trans (hB2.mono hB0.size)
 replace q0 := keep_blk hB2 q0
 clear hK2 hgG hgs hg2 hb1 hW0
 have hdet : Hid (detR Q = if rank < n then 0 else sgB neg * prodQ n (fun i => entR E i i)) := hide (by unfold detR; rw [hQl.out, hFIN])
 replace hFIN := hide hFIN
 have sw : w.heap.size < w2.heap.size := by have := hB2.size; omega
 replace q0 := hide q0
 replace hM2 := hide hM2
 go_wp2_with fail
 refine (rWhole_ok 1 w2 (by decide) (by decide)).mono ?_
 rintro e w3 ⟨hb3, n1, A1, k1, c1, m1, B1, j1, d1, rfl, hf3⟩
 obtain ⟨gd, hgd⟩ : ∃ g, w3.heap.size = g := ⟨_, rfl⟩
 obtain ⟨V, hV, hBV, qv, kW, kB, sV⟩ := new_obj 45 #[.bool n1, .slice A1 k1 c1, .bool m1, .slice B1 j1 d1] hb3 hb3.size
 have hf4 : Fr V n1 A1 k1 c1 m1 B1 j1 d1 1 := Fr.keep (by simpa using hf3) kW
 rw [hgd] at qv
 have hgd2 : w2.heap.size ≤ gd := by rw [← hgd]; exact hb3.size
 clear kW kB hf3
 by_cases hr : rank < n
 case pos =>
  have t1 : decide ((rank : Int) < (n : Int)) = true := decide_eq_true (by omega)
  have t1' : decide (rank < n) = true := decide_eq_true hr
  have hd0 : Hid (detR Q = 0) := hide (by rw [hdet.out, if_pos hr])
  clear hfin hdet
  replace hr := hide hr
  go_wp2_with fail
  (try rw [hV])
  refine (rWhole_ok 0 V (by decide) (by decide)).mono ?_
  rintro e w4 ⟨hb4, n2, A2, k2, c2, m2, B2, j2, d2, rfl, hf5⟩
  have hB4 := hBw2.trans ((hBV.trans (hb4.mono hBV.size)).mono hBw2.size)
  have q4 := q0.out.below (hBV.trans (hb4.mono hBV.size)) sw
  obtain ⟨x0, x1, x2, x3, x4, x5, x6, x7⟩ := q4.four
  go_wp2_with fail
  obtain ⟨W7, hW7, hB7, q3, kW, -, s7⟩ := set_frac n2 A2 k2 c2 m2 B2 j2 d2 hB4 (Nat.le_refl _) q4
  (try rw [hW7])
  obtain ⟨r0, r1, r2, r3, -⟩ := q3.four
  refine bodyPost_ret (v := .agg #[.bool n2, .slice A2 k2 c2, .bool m2, .slice B2 j2 d2]) (by simp [results, Tryz.results59, go_sem, r0, r1, r2, r3]) rfl ?_
  have hf6 : Fr w4 n2 A2 k2 c2 m2 B2 j2 d2 (detR Q) := by rw [hd0.out]; simpa using hf5
  exact ⟨hB7, _, _, _, _, _, _, _, _, rfl, kW _ _ _ _ _ hf6.1, kW _ _ _ _ _ hf6.2⟩
 have t1 : decide ((rank : Int) < (n : Int)) = false := decide_eq_false (by omega)
 have t1' : decide (rank < n) = false := decide_eq_false hr
 have hrank : rank ≤ n := by
  have h1 := elimR_rank n 0 0 Q false (Nat.zero_le _)
  rw [hFIN.out, hQl.out] at h1
  exact h1
 obtain rfl : rank = n := by omega
 have hE0 : ∀ i, SmN 190 190 (entR E i i) := fun i => ⟨(hfin.out.2 i i).1, (hfin.out.2 i i).2⟩
 replace hE0 := hide hE0
 have hEl : Hid (E.length = rank) := hide (by rw [← hq2, List.length_map]; exact hl2)
 have hdet2 : Hid (detR Q = sgB neg * prodQ rank (fun i => entR E i i)) := hide (by rw [hdet.out, if_neg hr])
 replace hr := hide hr
 clear hdet
 have hBV3 : Below w2.heap.size w2 V := hBV
 replace hf4 := hide hf4
 replace qv := hide qv
 go_wp2_with fail
 (try rw [hV])
 clear hV
 go_loopg [7] rank (fun k iv wr => ∃ (i : Nat) (xn : Bool) (xA : Option Addr) (xk xc : Nat) (xm : Bool) (xB : Option Addr) (xj xd : Nat), i + k = rank ∧ iv = .int .i64 i ∧ Blk wr gd 45 #[.bool xn, .slice xA xk xc, .bool xm, .slice xB xj xd] ∧ Fr wr xn xA xk xc xm xB xj xd (prodQ i (fun t => entR E t t)) ∧ Below w2.heap.size w2 wr)
 case atStart => exact ⟨0, n1, A1, k1, c1, m1, B1, j1, d1, by omega, rfl, qv.out, hf4.out, hBV3⟩
 case round =>
  clear qv hf4
  obtain ⟨i, xn, xA, xk, xc, xm, xB, xj, xd, hik, rfl, qd, hfx, hbr⟩ := hrel
  cases gk with
  | zero =>
   obtain rfl : i = rank := by omega
   have t2 : decide ((i : Int) < (i : Int)) = false := by simp
   have hBr := hBw2.trans (hbr.mono hBw2.size)
   have q4 := q0.out.below hbr sw
   have hgne : gd ≠ w.heap.size := by omega
   obtain ⟨y0, y1, y2, y3, y4, y5, y6, y7⟩ := qd.four
   cases neg with
   | false =>
    have hd1 : Hid (Fr wr xn xA xk xc xm xB xj xd (detR Q)) := hide (by
     rw [hdet2.out]
     have : sgB false * prodQ i (fun t => entR E t t) = prodQ i (fun t => entR E t t) := by simp only [sgB]; simp
     rw [this]; exact hfx)
    obtain ⟨x0, x1, x2, x3, x4, x5, x6, x7⟩ := q4.four
    go_wp2_with fail
    obtain ⟨W7, hW7, hB7, q3, kW, -, s7⟩ := set_frac xn xA xk xc xm xB xj xd hBr (Nat.le_refl _) q4
    (try rw [hW7])
    obtain ⟨r0, r1, r2, r3, -⟩ := q3.four
    refine bodyPost_ret (v := .agg #[.bool xn, .slice xA xk xc, .bool xm, .slice xB xj xd]) (by simp [results, Tryz.results59, go_sem, r0, r1, r2, r3]) rfl ?_
    exact ⟨hB7, _, _, _, _, _, _, _, _, rfl, kW _ _ _ _ _ hd1.out.1, kW _ _ _ _ _ hd1.out.2⟩
   | true =>
    replace qd := hide qd
    replace q4 := hide q4
    go_wp2_with fail
    refine (rfNeg_ok xn xm xA xB xk xc xj xd _ wr hfx).mono ?_
    rintro e w4 ⟨hb4, n2, A2, k2, c2, m2, B2, j2, d2, rfl, hf5⟩
    have hd1 : Hid (Fr w4 n2 A2 k2 c2 m2 B2 j2 d2 (detR Q)) := hide (by
     rw [hdet2.out]
     have : sgB true * prodQ i (fun t => entR E t t) = - prodQ i (fun t => entR E t t) := by simp only [sgB]; simp; grind
     rw [this]; exact hf5)
    have q5 := keep_blk hb4 q4.out
    have qd5 := keep_blk hb4 qd.out
    have hB4 := hBr.trans (hb4.mono hBr.size)
    obtain ⟨x0, x1, x2, x3, x4, x5, x6, x7⟩ := qd5.four
    obtain ⟨W6, hW6, hB6, q6, kW6, -, s6⟩ := set_frac n2 A2 k2 c2 m2 B2 j2 d2 hB4 (by omega) qd5
    have q7 : Blk W6 w.heap.size 45 #[.bool false, .slice none 0 0, .bool false, .slice none 0 0] := by
     rw [← hW6]
     exact (((q5.far (Ne.symm hgne) _).far (Ne.symm hgne) _).far (Ne.symm hgne) _).far (Ne.symm hgne) _
    have hd2 := hide (Fr.keep hd1.out kW6)
    clear y0 y1 y2 y3 y4 y5 y6 y7 kW6
    obtain ⟨y0, y1, y2, y3, y4, y5, y6, y7⟩ := q6.four
    obtain ⟨v0, v1, v2, v3, v4, v5, v6, v7⟩ := q7.four
    go_wp2_with fail
    (try rw [hW6])
    go_wp2_with fail
    obtain ⟨W7, hW7, hB7, q3, kW, -, s7⟩ := set_frac n2 A2 k2 c2 m2 B2 j2 d2 hB6 (Nat.le_refl _) q7
    (try rw [hW7])
    obtain ⟨r0, r1, r2, r3, -⟩ := q3.four
    refine bodyPost_ret (v := .agg #[.bool n2, .slice A2 k2 c2, .bool m2, .slice B2 j2 d2]) (by simp [results, Tryz.results59, go_sem, r0, r1, r2, r3]) rfl ?_
    exact ⟨hB7, _, _, _, _, _, _, _, _, rfl, kW _ _ _ _ _ hd2.out.1, kW _ _ _ _ _ hd2.out.2⟩
  | succ j =>
   obtain rfl : j = rank - (i + 1) := by omega
   have hin : i < rank := by omega
   have t2 : decide ((i : Int) < (rank : Int)) = true := decide_eq_true (by omega)
   have bi : (i : Int) < (rank : Int) := by omega
   have hM3 := hM2.out.below hbr
   obtain ⟨x, hx⟩ := list_at (L := L2) (i := i) (by omega)
   have hlx : x.q.length = rank := by
    have := hfin.out.1 i (by rw [hEl.out]; exact hin)
    rw [← hq2, List.getElem?_map, hx] at this
    exact this
   obtain ⟨cx, -⟩ := hM3.cell hx
   obtain ⟨fx, kx1, kx2⟩ := hM3.row hx
   rw [hlx] at cx kx1
   unfold maxLen at kx2
   obtain ⟨n5, A5, k5, c5, m5, B5, j5, d5, p0, p1, p2, p3, hf1⟩ := fx.at_ (i := i) (by rw [hlx]; exact hin)
   have hex : entR E i i = x.q[i]?.getD 0 := by rw [← hq2, entR_row, rowQ_of hx]
   rw [← hex] at hf1
   obtain ⟨y0, y1, y2, y3, y4, y5, y6, y7⟩ := qd.four
   have sc1 : Sm (prodQ i (fun t => entR E t t)) := (prodQ_smN hE0.out i).sm (by omega) (by omega)
   have sc2 := (hE0.out i).sm (by decide) (by decide)
   clear fx hM3
   replace qd := hide qd
   go_wp2_with fail
   have hSv9 : Hid (∀ wx, Below wr.heap.size wr wx → wx.cell? ⟨gd, 0, none⟩ = some (.bool xn) ∧ wx.cell? ⟨gd, 1, none⟩ = some (.slice xA xk xc) ∧ wx.cell? ⟨gd, 2, none⟩ = some (.bool xm) ∧ wx.cell? ⟨gd, 3, none⟩ = some (.slice xB xj xd) ∧ wx.cell? ⟨go, i, none⟩ = some (.slice (some ⟨x.g, 0, none⟩) rank x.c) ∧ wx.cell? ⟨x.g, i * 4, none⟩ = some (.bool n5) ∧ wx.cell? ⟨x.g, i * 4 + 1, none⟩ = some (.slice A5 k5 c5) ∧ wx.cell? ⟨x.g, i * 4 + 2, none⟩ = some (.bool m5) ∧ wx.cell? ⟨x.g, i * 4 + 3, none⟩ = some (.slice B5 j5 d5)) := hide (fun wx hbx => ⟨keep_cell hbx y0, keep_cell hbx y1, keep_cell hbx y2, keep_cell hbx y3, keep_cell hbx cx, keep_cell hbx p0, keep_cell hbx p1, keep_cell hbx p2, keep_cell hbx p3⟩)
   have hr9 : Below wr.heap.size wr wr.drew := below_dn (Below.refl _ _) 1
   refine wp_held [12] (fun wx => wx.cell? ⟨gd, 0, none⟩ = some (.bool xn) ∧ wx.cell? ⟨gd, 1, none⟩ = some (.slice xA xk xc) ∧ wx.cell? ⟨gd, 2, none⟩ = some (.bool xm) ∧ wx.cell? ⟨gd, 3, none⟩ = some (.slice xB xj xd) ∧ wx.cell? ⟨go, i, none⟩ = some (.slice (some ⟨x.g, 0, none⟩) rank x.c) ∧ wx.cell? ⟨x.g, i * 4, none⟩ = some (.bool n5) ∧ wx.cell? ⟨x.g, i * 4 + 1, none⟩ = some (.slice A5 k5 c5) ∧ wx.cell? ⟨x.g, i * 4 + 2, none⟩ = some (.bool m5) ∧ wx.cell? ⟨x.g, i * 4 + 3, none⟩ = some (.slice B5 j5 d5)) hmx (hSv9.out _ hr9) (fun hxs9 => ?_)
   refine wpAnyL_take (i := 0) (v := ?v1) rfl (by kernel_rfl) (by kernel_rfl) (by kernel_rfl) (by kernel_rfl) (by kernel_rfl) (Or.inl ⟨by kernel_rfl, ?hy1⟩) (hSv9.out _ hr9) ?rest1
   case hy1 => (intro W2 hSw; (try dsimp only at hSw); go_simp; try with_reducible rfl)
   try simp only [Act.put, List.setIfInBounds_toArray, List.set_cons_zero, List.set_cons_succ, List.getElem_toArray, List.getElem_cons_succ, List.getElem_cons_zero]
   refine wpAnyL_take (i := 1) (v := ?v2) rfl (by kernel_rfl) (by kernel_rfl) (by kernel_rfl) (by kernel_rfl) (by kernel_rfl) (Or.inl ⟨by kernel_rfl, ?hy2⟩) (hSv9.out _ hr9) ?rest2
   case hy2 => (intro W2 hSw; (try dsimp only at hSw); go_simp; try with_reducible rfl)
   try simp only [Act.put, List.setIfInBounds_toArray, List.set_cons_zero, List.set_cons_succ, List.getElem_toArray, List.getElem_cons_succ, List.getElem_cons_zero]
   refine wpAnyL_take (i := 2) (v := ?v3) rfl (by kernel_rfl) (by kernel_rfl) (by kernel_rfl) (by kernel_rfl) (by kernel_rfl) (Or.inl ⟨by kernel_rfl, ?hy3⟩) (hSv9.out _ hr9) ?rest3
   case hy3 => (intro W2 hSw; (try dsimp only at hSw); go_simp; try with_reducible rfl)
   try simp only [Act.put, List.setIfInBounds_toArray, List.set_cons_zero, List.set_cons_succ, List.getElem_toArray, List.getElem_cons_succ, List.getElem_cons_zero]
   refine wpAnyL_take (i := 3) (v := ?v4) rfl (by kernel_rfl) (by kernel_rfl) (by kernel_rfl) (by kernel_rfl) (by kernel_rfl) (Or.inl ⟨by kernel_rfl, ?hy4⟩) (hSv9.out _ hr9) ?rest4
   case hy4 => (intro W2 hSw; (try dsimp only at hSw); go_simp; try with_reducible rfl)
   try simp only [Act.put, List.setIfInBounds_toArray, List.set_cons_zero, List.set_cons_succ, List.getElem_toArray, List.getElem_cons_succ, List.getElem_cons_zero]
   refine wpAnyL_take (i := 4) (v := ?v5) rfl (by kernel_rfl) (by kernel_rfl) (by kernel_rfl) (by kernel_rfl) (by kernel_rfl) (Or.inl ⟨by kernel_rfl, ?hy5⟩) (hSv9.out _ hr9) ?rest5
   case hy5 => (intro W2 hSw; (try dsimp only at hSw); go_simp; try with_reducible rfl)
   try simp only [Act.put, List.setIfInBounds_toArray, List.set_cons_zero, List.set_cons_succ, List.getElem_toArray, List.getElem_cons_succ, List.getElem_cons_zero]
   refine wpAnyL_take (i := 5) (v := ?v6) rfl (by kernel_rfl) (by kernel_rfl) (by kernel_rfl) (by kernel_rfl) (by kernel_rfl) (Or.inl ⟨by kernel_rfl, ?hy6⟩) (hSv9.out _ hr9) ?rest6
   case hy6 => (intro W2 hSw; (try dsimp only at hSw); go_simp; try with_reducible rfl)
   try simp only [Act.put, List.setIfInBounds_toArray, List.set_cons_zero, List.set_cons_succ, List.getElem_toArray, List.getElem_cons_succ, List.getElem_cons_zero]
   refine wpAnyL_take (i := 6) (v := ?v7) rfl (by kernel_rfl) (by kernel_rfl) (by kernel_rfl) (by kernel_rfl) (by kernel_rfl) (Or.inl ⟨by kernel_rfl, ?hy7⟩) (hSv9.out _ hr9) ?rest7
   case hy7 => (intro W2 hSw; (try dsimp only at hSw); go_simp; try with_reducible rfl)
   try simp only [Act.put, List.setIfInBounds_toArray, List.set_cons_zero, List.set_cons_succ, List.getElem_toArray, List.getElem_cons_succ, List.getElem_cons_zero]
   refine wpAnyL_take (i := 7) (v := ?v8) rfl (by kernel_rfl) (by kernel_rfl) (by kernel_rfl) (by kernel_rfl) (by kernel_rfl) (Or.inl ⟨by kernel_rfl, ?hy8⟩) (hSv9.out _ hr9) ?rest8
   case hy8 => (intro W2 hSw; (try dsimp only at hSw); go_simp; try with_reducible rfl)
   try simp only [Act.put, List.setIfInBounds_toArray, List.set_cons_zero, List.set_cons_succ, List.getElem_toArray, List.getElem_cons_succ, List.getElem_cons_zero]
   refine wpAnyL_one (i := 8) rfl (by kernel_rfl) (fun K hK => ?_)
   go_simp
   refine (rTimes_ok xn xm n5 m5 xA xB A5 B5 xk xc xj xd k5 c5 j5 d5 _ _ wr.drew (hfx.below hr9) (hf1.below hr9) sc1 sc2).mono ?_
   rintro e w5 ⟨hb5, n6, A6, k6, c6, m6, B6, j6, d6, rfl, hf6⟩
   have hr10 := hr9.trans (hb5.mono hr9.size)
   refine hK.out _ _ (fun _ => hSv9.out _ hr10) ?_
   clear hK K
   try simp only [Act.put, List.setIfInBounds_toArray, List.set_cons_zero, List.set_cons_succ]
   refine wpAnyL_pure (i := 9) (v := ?v9) rfl (by kernel_rfl) (by kernel_rfl) (by kernel_rfl) (by kernel_rfl) (Or.inl ⟨by kernel_rfl, ?hy9⟩) (fun _ => (hSv9.out _ hr10)) ?rest9
   case hy9 => (intro W2 _; go_simp; try with_reducible rfl)
   try simp only [Act.put, List.setIfInBounds_toArray, List.set_cons_zero, List.set_cons_succ, List.getElem_toArray, List.getElem_cons_succ, List.getElem_cons_zero]
   refine wpAnyL_pure (i := 10) (v := ?v10) rfl (by kernel_rfl) (by kernel_rfl) (by kernel_rfl) (by kernel_rfl) (Or.inl ⟨by kernel_rfl, ?hy10⟩) (fun _ => (hSv9.out _ hr10)) ?rest10
   case hy10 => (intro W2 _; go_simp; try with_reducible rfl)
   try simp only [Act.put, List.setIfInBounds_toArray, List.set_cons_zero, List.set_cons_succ, List.getElem_toArray, List.getElem_cons_succ, List.getElem_cons_zero]
   refine wpAnyL_pure (i := 11) (v := ?v11) rfl (by kernel_rfl) (by kernel_rfl) (by kernel_rfl) (by kernel_rfl) (Or.inl ⟨by kernel_rfl, ?hy11⟩) (fun _ => (hSv9.out _ hr10)) ?rest11
   case hy11 => (intro W2 _; go_simp; try with_reducible rfl)
   try simp only [Act.put, List.setIfInBounds_toArray, List.set_cons_zero, List.set_cons_succ, List.getElem_toArray, List.getElem_cons_succ, List.getElem_cons_zero]
   have hb5' : Below wr.heap.size wr w5 := below_drewL hb5
   have hb6 := hbr.trans (hb5'.mono hbr.size)
   have qd5 := keep_blk hb5' qd.out
   obtain ⟨W6, hW6, hB6, q6, kW6, -, s6⟩ := set_frac n6 A6 k6 c6 m6 B6 j6 d6 hb6 hgd2 qd5
   have hf7 := hide (Fr.keep hf6 kW6)
   obtain ⟨g0, g1, g2, g3, f0, f1, f2, f3⟩ := qd5.four
   refine wpAnyL_late (i := 12) rfl (by kernel_rfl) (by kernel_rfl) (fun K hK => ?_)
   go_simp
   (try rw [hW6])
   refine hK.out _ _ ?_
   clear hK K
   try simp only [Act.put, List.setIfInBounds_toArray, List.set_cons_zero, List.set_cons_succ]
   refine wpAnyL_done (by kernel_rfl) ?_ _
   refine OnlyNormal.normal ?_
   clear hW6 g0 g1 g2 g3 f0 f1 f2 f3 hb5 hb5' hr9 hr10 hSv9 hxs9 y0 y1 y2 y3 y4 y5 y6 y7 p0 p1 p2 p3 cx kW6 hf6 hf1 hfx
   go_wp2_with fail
   go_roundg (rank - (i + 1))
   case measure => omega
   case rel => exact ⟨i + 1, n6, A6, k6, c6, m6, B6, j6, d6, by omega, by go_num, q6, by rw [prodQ]; exact hf7.out, hB6⟩
end Go.Proofs.YtigdclhagmnopaaGreat
