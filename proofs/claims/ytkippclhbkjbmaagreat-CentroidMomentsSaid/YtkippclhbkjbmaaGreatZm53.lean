/- The law's body: CentroidMoments returns true. -/
import Derived.Test.YtkippclhbkjbmaaGreatZm50
import Derived.Test.YtkippclhbkjbmaaGreatZm51
import Derived.Test.YtkippclhbkjbmaaGreatZm52
import Derived.Test.YtkippclhbkjbmaaGreatZm45
set_option linter.unusedSimpArgs false
set_option linter.unusedVariables false

namespace Go.Proofs.YtkippclhbkjbmaaGreat
open Go.RowKit
attribute [local go_sem] add_lit

theorem MomF.keep {w W : World} {cs : Array Value} {M : Mom} (h : MomF w cs M) (k : ∀ na A n c z, Wd w na A n c z → Wd W na A n c z) : MomF W cs M := by
  obtain ⟨n0, A0, k0, c0, m0, B0, j0, d0, n1, A1, k1, c1, m1, B1, j1, d1, n2, A2, k2, c2, m2, B2, j2, d2, n3, A3, k3, c3, m3, B3, j3, d3, n4, A4, k4, c4, m4, B4, j4, d4, rfl, h0, h1, h2, h3, h4⟩ := h
  exact ⟨_, _, _, _, _, _, _, _, _, _, _, _, _, _, _, _, _, _, _, _, _, _, _, _, _, _, _, _, _, _, _, _, _, _, _, _, _, _, _, _, rfl, ⟨k _ _ _ _ _ h0.1, k _ _ _ _ _ h0.2⟩, ⟨k _ _ _ _ _ h1.1, k _ _ _ _ _ h1.2⟩, ⟨k _ _ _ _ _ h2.1, k _ _ _ _ _ h2.2⟩, ⟨k _ _ _ _ _ h3.1, k _ _ _ _ _ h3.2⟩, ⟨k _ _ _ _ _ h4.1, k _ _ _ _ _ h4.2⟩⟩

set_option maxRecDepth 100000 in
set_option maxHeartbeats 1000000 in
theorem great_ok (W H : Int) (A : Option Addr) (n c : Nat) (B : Option Addr) (m d : Nat) (w : World) (b : Bool) (hb : (decide (100 < (n : Int)) || decide (40 < (m : Int))) = b) :
    Calls Tryz.prog 7 #[.agg #[.int .i64 W, .int .i64 H, .slice A n c], .slice B m d] w fun e w' => e = .returned (.bool b) ∧ Below w.heap.size w w' := by
  obtain ⟨W0, hW0, hB0, q0, s0⟩ := alloc1 w 24 #[.int .i64 W, .int .i64 H, .slice A n c]
  have c0 := q0.cell 0
  have c1 := q0.cell 1
  have c2 := q0.cell 2
  simp at c0 c1 c2
  go_enter Tryz.func7, Tryz.ntmps7
  go_wp2_with fail
  obtain ⟨b1, hb1⟩ : ∃ b1, decide (100 < (n : Int)) = b1 := ⟨_, rfl⟩
  refine (rGreat_ok W H A n c W0 b1 hb1).mono ?_
  rw [hb1] at hb
  rintro e w1 ⟨rfl, hbw⟩
  replace hB0 := hB0.trans (hbw.mono hB0.size)
  clear hb1 c0 c1 c2 hW0
  cases b1
  · simp at hb
    go_wp2_with fail
    go_ret
    exact ⟨by simp [hb], hB0⟩
  · simp at hb
    subst hb
    go_wp2_with fail
    go_ret
    exact ⟨rfl, hB0⟩

/-- Both 'Moments' answer alike. -/
theorem both_moments (W H : Int) (n m : Nat) (ps l : List Int) (h9 : n ≤ 1000000000) (h8 : m ≤ 40) (iW : I64 W) (iH : I64 H) :
    ∃ (E : Int) (M : Mom), (∀ (A : Option Addr) (c : Nat) (B : Option Addr) (d : Nat) (w : World), LimI w A n c ps → LimI w B m d l → Calls Tryz.prog 9 #[.agg #[.int .i64 W, .int .i64 H, .slice A n c], .slice B m d] w (MomP w E M)) ∧
      (∀ (A : Option Addr) (c : Nat) (B : Option Addr) (d : Nat) (w : World), LimI w A n c ps → LimI w B m d l → Calls Tryz.prog 10 #[.agg #[.int .i64 W, .int .i64 H, .slice A n c], .slice B m d] w (MomP w E M)) := by
  by_cases hE : startE W H n ps l = 0
  · by_cases hs : psum ps l ≤ 0
    · exact ⟨18, Mom.zero, fun A c B d w hp hl => (moments_good W H A n c B m d ps l w hp hl h8 iW iH hE).mono fun e w' h => h.1 hs, fun A c B d w hp hl => (rmoments_good W H A n c B m d ps l w hp hl h8 iW iH hE).mono fun e w' h => h.1 hs⟩
    · exact ⟨0, momOf W ps l, fun A c B d w hp hl => (moments_good W H A n c B m d ps l w hp hl h8 iW iH hE).mono fun e w' h => h.2 (by omega), fun A c B d w hp hl => (rmoments_good W H A n c B m d ps l w hp hl h8 iW iH hE).mono fun e w' h => h.2 (by omega)⟩
  · exact ⟨startE W H n ps l, Mom.zero, fun A c B d w hp hl => moments_bad W H A n c B m d ps l w hp hl h9 (by omega) iW iH _ rfl hE, fun A c B d w hp hl => rmoments_bad W H A n c B m d ps l w hp hl h9 (by omega) iW iH _ rfl hE⟩

set_option maxRecDepth 100000 in
set_option maxHeartbeats 4000000 in
theorem law_moments (W H : Int) (A : Option Addr) (n c : Nat) (B : Option Addr) (m d : Nat) (ps l : List Int) (w : World) (hp : LimI w A n c ps) (hl : LimI w B m d l) (iW : I64 W) (iH : I64 H) :
    Calls Tryz.prog 3 #[.agg #[.int .i64 W, .int .i64 H, .slice A n c], .slice B m d] w fun e w' => e = .returned (.bool true) ∧ Below w.heap.size w w' := by
  obtain ⟨W0, hW0, hB, q0, s0⟩ := alloc1 w 24 #[.int .i64 W, .int .i64 H, .slice A n c]
  have hpi := hp.2.2.2.1
  have hlen := hp.lenI
  have c0 := q0.cell 0
  have c1 := q0.cell 1
  have c2 := q0.cell 2
  simp at c0 c1 c2
  replace hp := hide (hp.below hB)
  replace hl := hide (hl.below hB)
  go_enter Tryz.func3, Tryz.ntmps3
  go_wp2_with fail
  obtain ⟨b, hb⟩ : ∃ b, (decide (100 < (n : Int)) || decide (40 < (m : Int))) = b := ⟨_, rfl⟩
  refine (great_ok W H A n c B m d W0 b hb).mono ?_
  rintro e w1 ⟨rfl, hbw⟩
  replace hB := hB.trans (hbw.mono hB.size)
  replace q0 := keep_blk hbw q0
  replace hp := hide (hp.out.below hbw)
  replace hl := hide (hl.out.below hbw)
  clear c0 c1 c2 hW0 hbw
  have c0 := q0.cell 0
  have c1 := q0.cell 1
  have c2 := q0.cell 2
  simp at c0 c1 c2
  cases b
  case true =>
    go_wp2_with fail
    go_ret
    exact ⟨rfl, hB⟩
  simp at hb
  obtain ⟨h9, h8⟩ : n ≤ 100 ∧ m ≤ 40 := by omega
  clear hb
  obtain ⟨E, M, hMa, hMb⟩ := both_moments W H n m ps l (by omega) h8 iW iH
  replace hMa := hide hMa
  replace hMb := hide hMb
  go_wp2_with fail
  refine (twin_ok W H A n c ps w1 hp.out (by omega)).mono ?_
  rintro e w2 ⟨v, rfl, hOI, hb2⟩
  obtain ⟨A2, c2', rfl, hL2⟩ := hOI.lim
  rw [hlen] at hL2
  clear hOI c0 c1 c2
  replace hB := hB.trans (hb2.mono hB.size)
  replace q0 := keep_blk hb2 q0
  replace hp := hide (hp.out.below hb2)
  replace hl := hide (hl.out.below hb2)
  replace hL2 := hide hL2
  obtain ⟨V1, hV1, hB1, q5, hk1, hk1', sV1⟩ := new_obj 24 #[.int .i64 0, .int .i64 0, .slice none 0 0] (Below.refl w2.heap.size w2) (Nat.le_refl _)
  have y0 := q5.cell 0
  have y1 := q5.cell 1
  have y2 := q5.cell 2
  simp at y0 y1 y2
  have z0 := q5.frozen 0
  have z1 := q5.frozen 1
  have z2 := q5.frozen 2
  obtain ⟨V2, hV2, hB2, q5b, hst⟩ := set_all [.int .i64 W, .int .i64 H, .slice A2 n c2'] [.int .i64 0, .int .i64 0, .slice none 0 0] rfl rfl rfl hB1 (Nat.le_refl _) q5
  simp only [World.setCells, Nat.reduceAdd, Nat.zero_add] at hV2
  replace q0 := keep_blk hB2 q0
  replace hp := hide (hp.out.below hB2)
  replace hl := hide (hl.out.below hB2)
  replace hL2 := hide (hL2.out.below hB2)
  replace hB := hB.trans (hB2.mono hB.size)
  have c0 := q0.cell 0
  have c1 := q0.cell 1
  have c2 := q0.cell 2
  simp at c0 c1 c2
  rw [hlen]
  go_wp2_with fail
  refine (hMa.out A c B d V2 hp.out hl.out).mono ?_
  rintro e w3 ⟨hb3, csA, rfl, hFa⟩
  clear hV1 hV2 y0 y1 y2 z0 z1 z2 q5 hst hB1 hB2 hk1 hk1' c0 c1 c2 hb2
  generalize w2.heap.size = g5 at *

  replace hB := hB.trans (hb3.mono hB.size)
  replace q0 := keep_blk hb3 q0
  replace q5b := keep_blk hb3 q5b
  replace hp := hide (hp.out.below hb3)
  replace hl := hide (hl.out.below hb3)
  replace hL2 := hide (hL2.out.below hb3)
  obtain ⟨pn0, pA0, pk0, pc0, pm0, pB0, pj0, pd0, pn1, pA1, pk1, pc1, pm1, pB1, pj1, pd1, pn2, pA2, pk2, pc2, pm2, pB2, pj2, pd2, pn3, pA3, pk3, pc3, pm3, pB3, pj3, pd3, pn4, pA4, pk4, pc4, pm4, pB4, pj4, pd4, rfl, hp0, hp1, hp2, hp3, hp4⟩ := hFa
  have hFa : MomF w3 #[.int .i64 M.s, .bool pn0, .slice pA0 pk0 pc0, .bool pm0, .slice pB0 pj0 pd0, .bool pn1, .slice pA1 pk1 pc1, .bool pm1, .slice pB1 pj1 pd1, .bool pn2, .slice pA2 pk2 pc2, .bool pm2, .slice pB2 pj2 pd2, .bool pn3, .slice pA3 pk3 pc3, .bool pm3, .slice pB3 pj3 pd3, .bool pn4, .slice pA4 pk4 pc4, .bool pm4, .slice pB4 pj4 pd4] M := ⟨_, _, _, _, _, _, _, _, _, _, _, _, _, _, _, _, _, _, _, _, _, _, _, _, _, _, _, _, _, _, _, _, _, _, _, _, _, _, _, _, rfl, hp0, hp1, hp2, hp3, hp4⟩
  clear hp0 hp1 hp2 hp3 hp4
  replace hFa := hide hFa
  obtain ⟨V3, hV3, hB3, q6, hk3, hk3', sV3⟩ := new_obj 34 #[.int .i64 0, .bool false, .slice none 0 0, .bool false, .slice none 0 0, .bool false, .slice none 0 0, .bool false, .slice none 0 0, .bool false, .slice none 0 0, .bool false, .slice none 0 0, .bool false, .slice none 0 0, .bool false, .slice none 0 0, .bool false, .slice none 0 0, .bool false, .slice none 0 0] (Below.refl w3.heap.size w3) (Nat.le_refl _)
  obtain ⟨V4, hV4, hB4, q6b, hst⟩ := set_all [.int .i64 M.s, .bool pn0, .slice pA0 pk0 pc0, .bool pm0, .slice pB0 pj0 pd0, .bool pn1, .slice pA1 pk1 pc1, .bool pm1, .slice pB1 pj1 pd1, .bool pn2, .slice pA2 pk2 pc2, .bool pm2, .slice pB2 pj2 pd2, .bool pn3, .slice pA3 pk3 pc3, .bool pm3, .slice pB3 pj3 pd3, .bool pn4, .slice pA4 pk4 pc4, .bool pm4, .slice pB4 pj4 pd4] [.int .i64 0, .bool false, .slice none 0 0, .bool false, .slice none 0 0, .bool false, .slice none 0 0, .bool false, .slice none 0 0, .bool false, .slice none 0 0, .bool false, .slice none 0 0, .bool false, .slice none 0 0, .bool false, .slice none 0 0, .bool false, .slice none 0 0, .bool false, .slice none 0 0] rfl rfl rfl hB3 (Nat.le_refl _) q6
  replace q0 := keep_blk hB4 q0
  replace q5b := keep_blk hB4 q5b
  replace hp := hide (hp.out.below hB4)
  replace hl := hide (hl.out.below hB4)
  replace hL2 := hide (hL2.out.below hB4)
  replace hFa := hide (hFa.out.below hB4)
  replace hB := hB.trans (hB4.mono hB.size)
  have d0 := q5b.cell 0
  have d1 := q5b.cell 1
  have d2 := q5b.cell 2
  simp at d0 d1 d2
  go_wp2_with (refine wpList_store_mid rfl 34 _ _ rfl w3.heap.size 0 #[.int .i64 M.s, .bool pn0, .slice pA0 pk0 pc0, .bool pm0, .slice pB0 pj0 pd0, .bool pn1, .slice pA1 pk1 pc1, .bool pm1, .slice pB1 pj1 pd1, .bool pn2, .slice pA2 pk2 pc2, .bool pm2, .slice pB2 pj2 pd2, .bool pn3, .slice pA3 pk3 pc3, .bool pm3, .slice pB3 pj3 pd3, .bool pn4, .slice pA4 pk4 pc4, .bool pm4, .slice pB4 pj4 pd4] rfl rfl (q6.there (by simp)) info_mom (by simp [Value.oneCell']) ?_; rw [hV4])
  refine (hMb.out A2 c2' B d V4 hL2.out hl.out).mono ?_
  rintro e w4 ⟨hb4, csB, rfl, hFb⟩
  clear hV3 hV4 q6 hst hB3 hB4 hk3 hk3' d0 d1 d2
  generalize w3.heap.size = g6 at *
  replace hB := hB.trans (hb4.mono hB.size)
  replace q0 := keep_blk hb4 q0
  replace q5b := keep_blk hb4 q5b
  replace q6b := keep_blk hb4 q6b
  replace hp := hide (hp.out.below hb4)
  replace hL2 := hide (hL2.out.below hb4)
  replace hFa := hide (hFa.out.below hb4)
  obtain ⟨qn0, qA0, qk0, qc0, qm0, qB0, qj0, qd0, qn1, qA1, qk1, qc1, qm1, qB1, qj1, qd1, qn2, qA2, qk2, qc2, qm2, qB2, qj2, qd2, qn3, qA3, qk3, qc3, qm3, qB3, qj3, qd3, qn4, qA4, qk4, qc4, qm4, qB4, qj4, qd4, rfl, hq0, hq1, hq2, hq3, hq4⟩ := hFb
  have hFb : MomF w4 #[.int .i64 M.s, .bool qn0, .slice qA0 qk0 qc0, .bool qm0, .slice qB0 qj0 qd0, .bool qn1, .slice qA1 qk1 qc1, .bool qm1, .slice qB1 qj1 qd1, .bool qn2, .slice qA2 qk2 qc2, .bool qm2, .slice qB2 qj2 qd2, .bool qn3, .slice qA3 qk3 qc3, .bool qm3, .slice qB3 qj3 qd3, .bool qn4, .slice qA4 qk4 qc4, .bool qm4, .slice qB4 qj4 qd4] M := ⟨_, _, _, _, _, _, _, _, _, _, _, _, _, _, _, _, _, _, _, _, _, _, _, _, _, _, _, _, _, _, _, _, _, _, _, _, _, _, _, _, rfl, hq0, hq1, hq2, hq3, hq4⟩
  clear hq0 hq1 hq2 hq3 hq4
  replace hFb := hide hFb
  obtain ⟨V5, hV5, hB5, q8, hk5, hk5', sV5⟩ := new_obj 34 #[.int .i64 0, .bool false, .slice none 0 0, .bool false, .slice none 0 0, .bool false, .slice none 0 0, .bool false, .slice none 0 0, .bool false, .slice none 0 0, .bool false, .slice none 0 0, .bool false, .slice none 0 0, .bool false, .slice none 0 0, .bool false, .slice none 0 0, .bool false, .slice none 0 0] (Below.refl w4.heap.size w4) (Nat.le_refl _)
  obtain ⟨V6, hV6, hB6, q8b, hst⟩ := set_all [.int .i64 M.s, .bool qn0, .slice qA0 qk0 qc0, .bool qm0, .slice qB0 qj0 qd0, .bool qn1, .slice qA1 qk1 qc1, .bool qm1, .slice qB1 qj1 qd1, .bool qn2, .slice qA2 qk2 qc2, .bool qm2, .slice qB2 qj2 qd2, .bool qn3, .slice qA3 qk3 qc3, .bool qm3, .slice qB3 qj3 qd3, .bool qn4, .slice qA4 qk4 qc4, .bool qm4, .slice qB4 qj4 qd4] [.int .i64 0, .bool false, .slice none 0 0, .bool false, .slice none 0 0, .bool false, .slice none 0 0, .bool false, .slice none 0 0, .bool false, .slice none 0 0, .bool false, .slice none 0 0, .bool false, .slice none 0 0, .bool false, .slice none 0 0, .bool false, .slice none 0 0, .bool false, .slice none 0 0] rfl rfl rfl hB5 (Nat.le_refl _) q8
  replace q0 := keep_blk hB6 q0
  replace q5b := keep_blk hB6 q5b
  replace q6b := keep_blk hB6 q6b
  replace hp := hide (hp.out.below hB6)
  replace hL2 := hide (hL2.out.below hB6)
  replace hFa := hide (hFa.out.below hB6)
  replace hFb := hide (hFb.out.below hB6)
  replace hB := hB.trans (hB6.mono hB.size)
  obtain ⟨dd, hd1, hd2⟩ := und_mom
  go_wp2_with (first | (refine wpList_store_mid rfl 34 _ _ rfl w4.heap.size 0 #[.int .i64 M.s, .bool qn0, .slice qA0 qk0 qc0, .bool qm0, .slice qB0 qj0 qd0, .bool qn1, .slice qA1 qk1 qc1, .bool qm1, .slice qB1 qj1 qd1, .bool qn2, .slice qA2 qk2 qc2, .bool qm2, .slice qB2 qj2 qd2, .bool qn3, .slice qA3 qk3 qc3, .bool qm3, .slice qB3 qj3 qd3, .bool qn4, .slice qA4 qk4 qc4, .bool qm4, .slice qB4 qj4 qd4] rfl rfl (q8.there (by simp)) info_mom (by simp [Value.oneCell']) ?_; rw [hV6]) | (refine wpList_load_mid rfl 34 _ rfl g6 0 rfl [.int .i64 M.s, .bool pn0, .slice pA0 pk0 pc0, .bool pm0, .slice pB0 pj0 pd0, .bool pn1, .slice pA1 pk1 pc1, .bool pm1, .slice pB1 pj1 pd1, .bool pn2, .slice pA2 pk2 pc2, .bool pm2, .slice pB2 pj2 pd2, .bool pn3, .slice pA3 pk3 pc3, .bool pm3, .slice pB3 pj3 pd3, .bool pn4, .slice pA4 pk4 pc4, .bool pm4, .slice pB4 pj4 pd4] dd (q6b.rangeAt [] (rest := []) rfl) hd1 hd2 info_mom ?_) | (refine wpList_load_mid rfl 34 _ rfl w4.heap.size 0 rfl [.int .i64 M.s, .bool qn0, .slice qA0 qk0 qc0, .bool qm0, .slice qB0 qj0 qd0, .bool qn1, .slice qA1 qk1 qc1, .bool qm1, .slice qB1 qj1 qd1, .bool qn2, .slice qA2 qk2 qc2, .bool qm2, .slice qB2 qj2 qd2, .bool qn3, .slice qA3 qk3 qc3, .bool qm3, .slice qB3 qj3 qd3, .bool qn4, .slice qA4 qk4 qc4, .bool qm4, .slice qB4 qj4 qd4] dd (q8b.rangeAt [] (rest := []) rfl) hd1 hd2 info_mom ?_))
  refine (rsameM_true _ _ M V6 hFa.out hFb.out).mono ?_
  rintro e w5 ⟨rfl, hb5⟩
  clear hV5 hV6 q8 hst hB5 hB6 hk5 hk5' hFa hFb q6b q8b
  replace hB := hB.trans (hb5.mono hB.size)
  replace q0 := keep_blk hb5 q0
  replace q5b := keep_blk hb5 q5b
  replace hp := hide (hp.out.below hb5)
  replace hL2 := hide (hL2.out.below hb5)
  have c0 := q0.cell 0
  have c1 := q0.cell 1
  have c2 := q0.cell 2
  simp at c0 c1 c2
  have d0 := q5b.cell 0
  have d1 := q5b.cell 1
  have d2 := q5b.cell 2
  simp at d0 d1 d2
  go_wp2_with fail
  refine (rSame10_ok W H W H A A2 n c n c2' ps ps w5 hp.out hL2.out (by omega) true (by simp)).mono ?_
  rintro e w6 ⟨rfl, hb6⟩
  replace hB := hB.trans (hb6.mono hB.size)
  go_wp2_with fail
  go_ret
  exact ⟨rfl, hB⟩
end Go.Proofs.YtkippclhbkjbmaaGreat
