/- Reference of centroid: Bound. -/
import Derived.Test.YtkippclhbkjbmaaGreatZb49
import Derived.Test.YtkippclhbkjbmaaGreatZb33
set_option linter.unusedSimpArgs false
set_option linter.unusedVariables false

namespace Go.Proofs.YtkippclhbkjbmaaGreat
open Go.RowKit
attribute [local go_sem] add_lit

set_option maxRecDepth 100000 in
set_option maxHeartbeats 8000000 in
theorem rbound_any (W H : Int) (A : Option Addr) (n c : Nat) (B : Option Addr) (m d : Nat) (ps l : List Int) (off : Int) (w : World) (hp : LimI w A n c ps) (hl : LimI w B m d l) (h9 : n ≤ 1000000000) (h8 : m ≤ 40) (iW : I64 W) (iH : I64 H) (E : Int) (hE : boundE W H n ps l off = E) :
    Calls Tryz.prog 15 #[.agg #[.int .i64 W, .int .i64 H, .slice A n c], .slice B m d, .int .i64 off] w fun e w' => (E ≠ 0 → BoxP w E (0, 0) (0, 0) (0, 0) (0, 0) e w') ∧ (E = 0 → BoxP w 0 (prQ (leastQ (colv W) ps l off)) (prQ (mostQ (colv W) ps l off)) (prQ (leastQ (rowv W) ps l off)) (prQ (mostQ (rowv W) ps l off)) e w') := by
  have hlm : l.length = m := hl.lenI
  have hpl0 : ps.length = n := hp.lenI
  obtain ⟨W0, hW0, hB, ⟨q0, qm⟩, sz⟩ := alloc2 w 24 #[.int .i64 W, .int .i64 H, .slice A n c] 43 #[.bool false, .slice none 0 0, .bool false, .slice none 0 0, .bool false, .slice none 0 0, .bool false, .slice none 0 0, .bool false, .slice none 0 0, .bool false, .slice none 0 0, .bool false, .slice none 0 0, .bool false, .slice none 0 0]
  have c0 := q0.cell 0
  have c1 := q0.cell 1
  have c2 := q0.cell 2
  simp at c0 c1 c2
  replace hp := hide (hp.below hB)
  replace hl := hide (hl.below hB)
  obtain ⟨E1, hE1⟩ : ∃ E1, startE W H n ps l = E1 := ⟨_, rfl⟩
  go_enter Tryz.func15, Tryz.ntmps15
  go_wp2_with fail
  refine (rStart_ok W H A n c B m d ps l W0 hp.out hl.out h9 (by omega) iW iH E1 hE1).mono ?_
  rintro e w1 ⟨rfl, hb1⟩
  clear hW0 c0 c1 c2
  replace hB := hB.trans (hb1.mono hB.size)
  replace q0 := keep_blk hb1 q0
  replace qm := keep_blk hb1 qm
  replace hp := hide (hp.out.below hb1)
  replace hl := hide (hl.out.below hb1)
  have hsz : W0.heap.size ≤ w1.heap.size := hb1.size
  by_cases hz : E1 = 0
  case neg =>
    have hEb : (E1 == 0) = false := by simpa using hz
    obtain rfl : E = E1 := by rw [← hE]; unfold boundE; rw [hE1, if_neg hz]
    clear hE hE1
    go_wp2_with ((refine wpList_store_mid rfl 43 _ _ rfl (w.heap.size + 1) 0 #[.bool false, .slice none 0 0, .bool false, .slice none 0 0, .bool false, .slice none 0 0, .bool false, .slice none 0 0, .bool false, .slice none 0 0, .bool false, .slice none 0 0, .bool false, .slice none 0 0, .bool false, .slice none 0 0] rfl rfl (qm.there (by simp)) info_box (by simp [Value.oneCell']) ?_; obtain ⟨V3, hV3, hB3, qm3, -⟩ := set_all [.bool false, .slice none 0 0, .bool false, .slice none 0 0, .bool false, .slice none 0 0, .bool false, .slice none 0 0, .bool false, .slice none 0 0, .bool false, .slice none 0 0, .bool false, .slice none 0 0, .bool false, .slice none 0 0] [.bool false, .slice none 0 0, .bool false, .slice none 0 0, .bool false, .slice none 0 0, .bool false, .slice none 0 0, .bool false, .slice none 0 0, .bool false, .slice none 0 0, .bool false, .slice none 0 0, .bool false, .slice none 0 0] rfl rfl rfl hB (by omega) qm; rw [hV3]))
    obtain ⟨d0, hd1, hd2⟩ := und_box
    refine bodyPost_ret (results_cell_tmp rfl _ _ (w.heap.size + 1) [.bool false, .slice none 0 0, .bool false, .slice none 0 0, .bool false, .slice none 0 0, .bool false, .slice none 0 0, .bool false, .slice none 0 0, .bool false, .slice none 0 0, .bool false, .slice none 0 0, .bool false, .slice none 0 0] d0 rfl (qm3.rangeAt [] (rest := []) rfl) hd1 hd2 info_box) rfl ?_
    exact ⟨fun _ => ⟨hB3, _, rfl, BoxF.zero _⟩, fun h => absurd h hz⟩
  subst hz
  obtain ⟨hfo, hli⟩ := startE_zero hE1
  have hf := fieldOk_size hfo
  have hr := rng_of hfo hli hlm
  have hdis : ∀ i j, i < j → j < m → l[i]?.getD 0 < l[j]?.getD 0 := fun i j hi hj => listed_incr hli i j hi (by omega)
  have hpx : ∀ k, k < m → (pix ps (l[k]?.getD 0)).natAbs ≤ 4294967296 := fun k hk => by
    have h := listed_in hli (k := k) (by omega)
    have h2 := fieldOk_pix hfo h.1 h.2
    omega
  have hm0 := listed_pos hli
  have hn0 : 0 < n := by
    have h := listed_in hli (k := 0) hm0
    omega
  have hps : psum ps l = sumK (pix ps) l m := by unfold psum; rw [hlm]
  have hE3 : (if off < 0 ∨ 4294967296 < off then 2 else if sumK (pix ps) l m ≤ off * (m : Int) then 18 else 0) = E := by rw [← hE]; unfold boundE; rw [hE1, hps, hlm]; simp
  replace hE3 := hide hE3
  clear hE hE1 hfo hli hps
  replace hf := hide hf
  replace hdis := hide hdis
  replace hpx := hide hpx
  by_cases o1 : off < 0
  · have t1 : decide (off < 0) = true := by simpa using o1
    obtain rfl : E = 2 := by rw [← hE3.out, if_pos (Or.inl o1)]
    clear hE3
    go_wp2_with ((refine wpList_store_mid rfl 43 _ _ rfl (w.heap.size + 1) 0 #[.bool false, .slice none 0 0, .bool false, .slice none 0 0, .bool false, .slice none 0 0, .bool false, .slice none 0 0, .bool false, .slice none 0 0, .bool false, .slice none 0 0, .bool false, .slice none 0 0, .bool false, .slice none 0 0] rfl rfl (qm.there (by simp)) info_box (by simp [Value.oneCell']) ?_; obtain ⟨V3, hV3, hB3, qm3, -⟩ := set_all [.bool false, .slice none 0 0, .bool false, .slice none 0 0, .bool false, .slice none 0 0, .bool false, .slice none 0 0, .bool false, .slice none 0 0, .bool false, .slice none 0 0, .bool false, .slice none 0 0, .bool false, .slice none 0 0] [.bool false, .slice none 0 0, .bool false, .slice none 0 0, .bool false, .slice none 0 0, .bool false, .slice none 0 0, .bool false, .slice none 0 0, .bool false, .slice none 0 0, .bool false, .slice none 0 0, .bool false, .slice none 0 0] rfl rfl rfl hB (by omega) qm; rw [hV3]))
    obtain ⟨d0, hd1, hd2⟩ := und_box
    refine bodyPost_ret (results_cell_tmp rfl _ _ (w.heap.size + 1) [.bool false, .slice none 0 0, .bool false, .slice none 0 0, .bool false, .slice none 0 0, .bool false, .slice none 0 0, .bool false, .slice none 0 0, .bool false, .slice none 0 0, .bool false, .slice none 0 0, .bool false, .slice none 0 0] d0 rfl (qm3.rangeAt [] (rest := []) rfl) hd1 hd2 info_box) rfl ?_
    exact ⟨fun _ => ⟨hB3, _, rfl, BoxF.zero _⟩, fun h => absurd h (by decide)⟩
  have t1 : decide (off < 0) = false := by simpa using o1
  by_cases o2 : 4294967296 < off
  · have t2 : decide (4294967296 < off) = true := by simpa using o2
    obtain rfl : E = 2 := by rw [← hE3.out, if_pos (Or.inr o2)]
    clear hE3
    go_wp2_with ((refine wpList_store_mid rfl 43 _ _ rfl (w.heap.size + 1) 0 #[.bool false, .slice none 0 0, .bool false, .slice none 0 0, .bool false, .slice none 0 0, .bool false, .slice none 0 0, .bool false, .slice none 0 0, .bool false, .slice none 0 0, .bool false, .slice none 0 0, .bool false, .slice none 0 0] rfl rfl (qm.there (by simp)) info_box (by simp [Value.oneCell']) ?_; obtain ⟨V3, hV3, hB3, qm3, -⟩ := set_all [.bool false, .slice none 0 0, .bool false, .slice none 0 0, .bool false, .slice none 0 0, .bool false, .slice none 0 0, .bool false, .slice none 0 0, .bool false, .slice none 0 0, .bool false, .slice none 0 0, .bool false, .slice none 0 0] [.bool false, .slice none 0 0, .bool false, .slice none 0 0, .bool false, .slice none 0 0, .bool false, .slice none 0 0, .bool false, .slice none 0 0, .bool false, .slice none 0 0, .bool false, .slice none 0 0, .bool false, .slice none 0 0] rfl rfl rfl hB (by omega) qm; rw [hV3]))
    obtain ⟨d0, hd1, hd2⟩ := und_box
    refine bodyPost_ret (results_cell_tmp rfl _ _ (w.heap.size + 1) [.bool false, .slice none 0 0, .bool false, .slice none 0 0, .bool false, .slice none 0 0, .bool false, .slice none 0 0, .bool false, .slice none 0 0, .bool false, .slice none 0 0, .bool false, .slice none 0 0, .bool false, .slice none 0 0] d0 rfl (qm3.rangeAt [] (rest := []) rfl) hd1 hd2 info_box) rfl ?_
    exact ⟨fun _ => ⟨hB3, _, rfl, BoxF.zero _⟩, fun h => absurd h (by decide)⟩
  have t2 : decide (4294967296 < off) = false := by simpa using o2
  have hE4 : (if sumK (pix ps) l m ≤ off * (m : Int) then 18 else 0) = E := by
    have h := hE3.out
    rw [if_neg (show ¬ (off < 0 ∨ 4294967296 < off) by omega)] at h
    exact h
  replace hE4 := hide hE4
  clear hE3
  have hmo : (off * (m : Int)).natAbs ≤ 4294967296 * 40 := by rw [Int.natAbs_mul]; exact Nat.mul_le_mul (by omega) (by omega)
  have hwm : wrap64 (off * (m : Int)) = off * (m : Int) := wrapS (by omega)
  replace hmo := hide hmo
  have c0 := q0.cell 0
  have c1 := q0.cell 1
  have c2 := q0.cell 2
  simp at c0 c1 c2
  have hr2 := hr
  replace hr := hide hr
  go_wp2_with fail
  refine (sum_ok W H A n c B m d ps l w1 hp.out hl.out h9 (by omega) hr2).mono ?_
  rintro e w2 ⟨rfl, hb2⟩
  clear c0 c1 c2 hr2
  replace hB := hB.trans (hb2.mono hB.size)
  replace q0 := keep_blk hb2 q0
  replace qm := keep_blk hb2 qm
  replace hp := hide (hp.out.below hb2)
  replace hl := hide (hl.out.below hb2)
  by_cases hs : sumK (pix ps) l m ≤ off * (m : Int)
  · have ts : decide (sumK (pix ps) l m ≤ off * (m : Int)) = true := by simpa using hs
    obtain rfl : E = 18 := by rw [← hE4.out, if_pos hs]
    clear hE4
    go_wp2_with ((refine wpList_store_mid rfl 43 _ _ rfl (w.heap.size + 1) 0 #[.bool false, .slice none 0 0, .bool false, .slice none 0 0, .bool false, .slice none 0 0, .bool false, .slice none 0 0, .bool false, .slice none 0 0, .bool false, .slice none 0 0, .bool false, .slice none 0 0, .bool false, .slice none 0 0] rfl rfl (qm.there (by simp)) info_box (by simp [Value.oneCell']) ?_; obtain ⟨V3, hV3, hB3, qm3, -⟩ := set_all [.bool false, .slice none 0 0, .bool false, .slice none 0 0, .bool false, .slice none 0 0, .bool false, .slice none 0 0, .bool false, .slice none 0 0, .bool false, .slice none 0 0, .bool false, .slice none 0 0, .bool false, .slice none 0 0] [.bool false, .slice none 0 0, .bool false, .slice none 0 0, .bool false, .slice none 0 0, .bool false, .slice none 0 0, .bool false, .slice none 0 0, .bool false, .slice none 0 0, .bool false, .slice none 0 0, .bool false, .slice none 0 0] rfl rfl rfl hB (by omega) qm; rw [hV3]))
    obtain ⟨d0, hd1, hd2⟩ := und_box
    refine bodyPost_ret (results_cell_tmp rfl _ _ (w.heap.size + 1) [.bool false, .slice none 0 0, .bool false, .slice none 0 0, .bool false, .slice none 0 0, .bool false, .slice none 0 0, .bool false, .slice none 0 0, .bool false, .slice none 0 0, .bool false, .slice none 0 0, .bool false, .slice none 0 0] d0 rfl (qm3.rangeAt [] (rest := []) rfl) hd1 hd2 info_box) rfl ?_
    first | exact ⟨fun _ => ⟨hB3, _, rfl, BoxF.zero _⟩, fun h => absurd h (by decide)⟩ | exact ⟨hB3, _, rfl, BoxF.zero _⟩
  have ts : decide (sumK (pix ps) l m ≤ off * (m : Int)) = false := by simpa using hs
  obtain rfl : E = 0 := by rw [← hE4.out, if_neg hs]
  clear hE4
  have hD : ∀ (u : Int → Int) (f : Int), 0 < tden u ps l f off m ∧ 0 < tden u ps l f (-off) m := fun u f => by
    have e1 := tden_ge u ps l f off m
    have e2 := tden_ge u ps l f (-off) m
    have e3 : ((off.natAbs : Nat) : Int) = off := by omega
    have e4 : (((-off).natAbs : Nat) : Int) = off := by omega
    rw [e3] at e1
    rw [e4] at e2
    generalize off * (m : Int) = z at *
    omega
  replace hD := hide hD
  have pc : plc false W = colv W := rfl
  have pr : plc true W = rowv W := rfl
  replace pc := hide pc
  replace pr := hide pr
  obtain ⟨V5, hV5, hB5, q14, -, hk5', sV5⟩ := new_obj 43 #[.bool false, .slice none 0 0, .bool false, .slice none 0 0, .bool false, .slice none 0 0, .bool false, .slice none 0 0, .bool false, .slice none 0 0, .bool false, .slice none 0 0, .bool false, .slice none 0 0, .bool false, .slice none 0 0] (Below.refl w2.heap.size w2) (Nat.le_refl _)
  have hbw := hB5
  have hlmm := (Array.getElem?_eq_some_iff.1 qm).1
  have c0 := (keep_blk hbw q0).cell 0
  have c1 := (keep_blk hbw q0).cell 1
  have c2 := (keep_blk hbw q0).cell 2
  simp at c0 c1 c2
  go_wp2_with fail
  refine (rends_ok W H A n c B m d ps l false off V5 (hp.out.below hbw) (hl.out.below hbw) hf.out h8 hn0 hr.out hpx.out hdis.out (by omega) (hD.out _)).mono ?_
  rw [pc.out]
  rintro e x1 ⟨hbe, na1, A1, n1, c1', nb1, B1, m1, d1, na2, A2, n2, c2', nb2, B2, m2, d2, rfl, hF1, hF2⟩
  clear c0 c1 c2 hV5 hB5 hk5' sV5
  replace hbw := hbw.trans (hbe.mono hbw.size)
  replace q14 := keep_blk hbe q14
  have y0 := q14.cell 0
  have y1 := q14.cell 1
  have y2 := q14.cell 2
  have y3 := q14.cell 3
  have y4 := q14.cell 4
  have y5 := q14.cell 5
  have y6 := q14.cell 6
  have y7 := q14.cell 7
  simp at y0 y1 y2 y3 y4 y5 y6 y7
  have z0 := q14.frozen 0
  have z1 := q14.frozen 1
  have z2 := q14.frozen 2
  have z3 := q14.frozen 3
  have z4 := q14.frozen 4
  have z5 := q14.frozen 5
  have z6 := q14.frozen 6
  have z7 := q14.frozen 7
  obtain ⟨U1, hU1, hbw2, q14u, hst⟩ := set_mid (t := 43) (B := w2.heap.size) (w0 := w2) (g := w2.heap.size) [.bool false, .slice none 0 0, .bool false, .slice none 0 0, .bool false, .slice none 0 0, .bool false, .slice none 0 0] [.bool na1, .slice A1 n1 c1', .bool nb1, .slice B1 m1 d1, .bool na2, .slice A2 n2 c2', .bool nb2, .slice B2 m2 d2] [.bool false, .slice none 0 0, .bool false, .slice none 0 0, .bool false, .slice none 0 0, .bool false, .slice none 0 0] [] x1 0 rfl rfl rfl rfl hbw (Nat.le_refl _) q14
  simp only [World.setCells, Nat.reduceAdd, Nat.zero_add] at hU1
  replace hbw := hbw2
  replace q14 : Blk U1 w2.heap.size 43 #[.bool na1, .slice A1 n1 c1', .bool nb1, .slice B1 m1 d1, .bool na2, .slice A2 n2 c2', .bool nb2, .slice B2 m2 d2, .bool false, .slice none 0 0, .bool false, .slice none 0 0, .bool false, .slice none 0 0, .bool false, .slice none 0 0] := q14u
  replace hF1 := hide (hF1.keep hst.1)
  replace hF2 := hide (hF2.keep hst.1)
  have c0 := (keep_blk hbw q0).cell 0
  have c1 := (keep_blk hbw q0).cell 1
  have c2 := (keep_blk hbw q0).cell 2
  simp at c0 c1 c2
  go_wp2_with fail
  refine (rends_ok W H A n c B m d ps l true off U1 (hp.out.below hbw) (hl.out.below hbw) hf.out h8 hn0 hr.out hpx.out hdis.out (by omega) (hD.out _)).mono ?_
  rw [pr.out]
  rintro e x2 ⟨hbe, na3, A3, n3, c3, nb3, B3, m3, d3, na4, A4, n4, c4, nb4, B4, m4, d4, rfl, hF3, hF4⟩
  clear c0 c1 c2 hU1 hst hbw2 q14u
  clear y0 y1 y2 y3 y4 y5 y6 y7 z0 z1 z2 z3 z4 z5 z6 z7
  replace hbw := hbw.trans (hbe.mono hbw.size)
  replace q14 := keep_blk hbe q14
  replace hF1 := hide (hF1.out.below hbe)
  replace hF2 := hide (hF2.out.below hbe)
  have y0 := q14.cell 8
  have y1 := q14.cell 9
  have y2 := q14.cell 10
  have y3 := q14.cell 11
  have y4 := q14.cell 12
  have y5 := q14.cell 13
  have y6 := q14.cell 14
  have y7 := q14.cell 15
  simp at y0 y1 y2 y3 y4 y5 y6 y7
  have z0 := q14.frozen 8
  have z1 := q14.frozen 9
  have z2 := q14.frozen 10
  have z3 := q14.frozen 11
  have z4 := q14.frozen 12
  have z5 := q14.frozen 13
  have z6 := q14.frozen 14
  have z7 := q14.frozen 15
  obtain ⟨U2, hU2, hbw2, q14u, hst⟩ := set_mid (t := 43) (B := w2.heap.size) (w0 := w2) (g := w2.heap.size) [] [.bool na3, .slice A3 n3 c3, .bool nb3, .slice B3 m3 d3, .bool na4, .slice A4 n4 c4, .bool nb4, .slice B4 m4 d4] [.bool false, .slice none 0 0, .bool false, .slice none 0 0, .bool false, .slice none 0 0, .bool false, .slice none 0 0] [.bool na1, .slice A1 n1 c1', .bool nb1, .slice B1 m1 d1, .bool na2, .slice A2 n2 c2', .bool nb2, .slice B2 m2 d2] x2 8 rfl rfl rfl rfl hbw (Nat.le_refl _) q14
  simp only [World.setCells, Nat.reduceAdd, Nat.zero_add] at hU2
  replace hbw := hbw2
  replace q14 : Blk U2 w2.heap.size 43 #[.bool na1, .slice A1 n1 c1', .bool nb1, .slice B1 m1 d1, .bool na2, .slice A2 n2 c2', .bool nb2, .slice B2 m2 d2, .bool na3, .slice A3 n3 c3, .bool nb3, .slice B3 m3 d3, .bool na4, .slice A4 n4 c4, .bool nb4, .slice B4 m4 d4] := q14u
  replace hF1 := hide (hF1.out.keep hst.1)
  replace hF2 := hide (hF2.out.keep hst.1)
  replace hF3 := hide (hF3.keep hst.1)
  replace hF4 := hide (hF4.keep hst.1)
  have qmz := keep_blk hbw qm
  have hBz := hB.trans (hbw.mono hB.size)
  obtain ⟨d0, hd1, hd2⟩ := und_box
  go_upto_region 11 with fail
  clear hU2 hbw2 q14u
  clear y0 y1 y2 y3 y4 y5 y6 y7 z0 z1 z2 z3 z4 z5 z6 z7
  go_wp2_with (first | (refine wpList_load_mid rfl 43 _ rfl w2.heap.size 0 rfl [.bool na1, .slice A1 n1 c1', .bool nb1, .slice B1 m1 d1, .bool na2, .slice A2 n2 c2', .bool nb2, .slice B2 m2 d2, .bool na3, .slice A3 n3 c3, .bool nb3, .slice B3 m3 d3, .bool na4, .slice A4 n4 c4, .bool nb4, .slice B4 m4 d4] d0 (q14.rangeAt [] (rest := []) rfl) hd1 hd2 info_box ?_) | (refine wpList_store_mid rfl 43 _ _ rfl (w.heap.size + 1) 0 #[.bool na1, .slice A1 n1 c1', .bool nb1, .slice B1 m1 d1, .bool na2, .slice A2 n2 c2', .bool nb2, .slice B2 m2 d2, .bool na3, .slice A3 n3 c3, .bool nb3, .slice B3 m3 d3, .bool na4, .slice A4 n4 c4, .bool nb4, .slice B4 m4 d4] rfl rfl (qmz.there (by simp)) info_box (by simp [Value.oneCell']) ?_; obtain ⟨V9, hV9, hB9, qm9, hst9⟩ := set_all [.bool na1, .slice A1 n1 c1', .bool nb1, .slice B1 m1 d1, .bool na2, .slice A2 n2 c2', .bool nb2, .slice B2 m2 d2, .bool na3, .slice A3 n3 c3, .bool nb3, .slice B3 m3 d3, .bool na4, .slice A4 n4 c4, .bool nb4, .slice B4 m4 d4] [.bool false, .slice none 0 0, .bool false, .slice none 0 0, .bool false, .slice none 0 0, .bool false, .slice none 0 0, .bool false, .slice none 0 0, .bool false, .slice none 0 0, .bool false, .slice none 0 0, .bool false, .slice none 0 0] rfl rfl rfl hBz (by omega) qmz; rw [hV9]))
  refine bodyPost_ret (results_cell_tmp rfl _ _ (w.heap.size + 1) [.bool na1, .slice A1 n1 c1', .bool nb1, .slice B1 m1 d1, .bool na2, .slice A2 n2 c2', .bool nb2, .slice B2 m2 d2, .bool na3, .slice A3 n3 c3, .bool nb3, .slice B3 m3 d3, .bool na4, .slice A4 n4 c4, .bool nb4, .slice B4 m4 d4] d0 rfl (qm9.rangeAt [] (rest := []) rfl) hd1 hd2 info_box) rfl ?_
  have fin : BoxP w 0 (prQ (leastQ (colv W) ps l off)) (prQ (mostQ (colv W) ps l off)) (prQ (leastQ (rowv W) ps l off)) (prQ (mostQ (rowv W) ps l off)) (.returned (.tuple #[.agg #[.bool na1, .slice A1 n1 c1', .bool nb1, .slice B1 m1 d1, .bool na2, .slice A2 n2 c2', .bool nb2, .slice B2 m2 d2, .bool na3, .slice A3 n3 c3, .bool nb3, .slice B3 m3 d3, .bool na4, .slice A4 n4 c4, .bool nb4, .slice B4 m4 d4], .int .i64 0])) V9 := ⟨hB9, _, rfl, _, _, _, _, _, _, _, _, _, _, _, _, _, _, _, _, _, _, _, _, _, _, _, _, _, _, _, _, _, _, _, _, rfl, (hF1.out.keep hst9.1).fz, (hF2.out.keep hst9.1).fz, (hF3.out.keep hst9.1).fz, (hF4.out.keep hst9.1).fz⟩
  first | exact ⟨fun h => absurd rfl h, fun _ => fin⟩ | exact fin
end Go.Proofs.YtkippclhbkjbmaaGreat
