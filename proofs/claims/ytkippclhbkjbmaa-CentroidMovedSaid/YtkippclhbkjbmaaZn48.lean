/- Reference of centroid: SameBox of equal boxes; the law's row and of. -/
import Derived.Test.YtkippclhbkjbmaaZn46
import Derived.Test.YtkippclhbkjbmaaZn35
import Derived.Test.YtkippclhbkjbmaaZn27
set_option linter.unusedSimpArgs false
set_option linter.unusedVariables false

namespace Go.Proofs.Ytkippclhbkjbmaa
open Go.RowKit
attribute [local go_sem] add_lit

set_option maxRecDepth 100000 in
set_option maxHeartbeats 4000000 in
theorem rsameB_true (csA csB : Array Value) (a b c d : Int × Int) (w : World) (hA : BoxF w csA a b c d) (hB : BoxF w csB a b c d) :
    Calls Try.prog 14 #[.agg csA, .agg csB] w fun e w' => e = .returned (.bool true) ∧ Below w.heap.size w w' := by
  obtain ⟨pn0, pA0, pk0, pc0, pm0, pB0, pj0, pd0, pn1, pA1, pk1, pc1, pm1, pB1, pj1, pd1, pn2, pA2, pk2, pc2, pm2, pB2, pj2, pd2, pn3, pA3, pk3, pc3, pm3, pB3, pj3, pd3, rfl, hp0, hp1, hp2, hp3⟩ := hA
  obtain ⟨qn0, qA0, qk0, qc0, qm0, qB0, qj0, qd0, qn1, qA1, qk1, qc1, qm1, qB1, qj1, qd1, qn2, qA2, qk2, qc2, qm2, qB2, qj2, qd2, qn3, qA3, qk3, qc3, qm3, qB3, qj3, qd3, rfl, hq0, hq1, hq2, hq3⟩ := hB
  obtain ⟨W0, hW0, hb0, ⟨bp, bq⟩, sz⟩ := alloc2 w 38 #[.bool pn0, .slice pA0 pk0 pc0, .bool pm0, .slice pB0 pj0 pd0, .bool pn1, .slice pA1 pk1 pc1, .bool pm1, .slice pB1 pj1 pd1, .bool pn2, .slice pA2 pk2 pc2, .bool pm2, .slice pB2 pj2 pd2, .bool pn3, .slice pA3 pk3 pc3, .bool pm3, .slice pB3 pj3 pd3] 38 #[.bool qn0, .slice qA0 qk0 qc0, .bool qm0, .slice qB0 qj0 qd0, .bool qn1, .slice qA1 qk1 qc1, .bool qm1, .slice qB1 qj1 qd1, .bool qn2, .slice qA2 qk2 qc2, .bool qm2, .slice qB2 qj2 qd2, .bool qn3, .slice qA3 qk3 qc3, .bool qm3, .slice qB3 qj3 qd3]
  replace hp0 := hide (hp0.below hb0)
  replace hp1 := hide (hp1.below hb0)
  replace hp2 := hide (hp2.below hb0)
  replace hp3 := hide (hp3.below hb0)
  replace hq0 := hide (hq0.below hb0)
  replace hq1 := hide (hq1.below hb0)
  replace hq2 := hide (hq2.below hb0)
  replace hq3 := hide (hq3.below hb0)
  have x0 := bp.cell 0
  have x1 := bp.cell 1
  have x2 := bp.cell 2
  have x3 := bp.cell 3
  have y0 := bq.cell 0
  have y1 := bq.cell 1
  have y2 := bq.cell 2
  have y3 := bq.cell 3
  simp at x0 x1 x2 x3 y0 y1 y2 y3
  go_enter Try.func14, Try.ntmps14
  go_wp2_with fail
  refine (rfSame_fz pn0 pm0 qn0 qm0 pA0 pB0 qA0 qB0 pk0 pc0 pj0 pd0 qk0 qc0 qj0 qd0 a a W0 hp0.out hq0.out true (by simp)).mono ?_
  rintro e w0 ⟨rfl, hb⟩
  replace hb0 := hb0.trans (hb.mono hb0.size)
  replace bp := keep_blk hb bp
  replace bq := keep_blk hb bq
  replace hp1 := hide (hp1.out.below hb)
  replace hp2 := hide (hp2.out.below hb)
  replace hp3 := hide (hp3.out.below hb)
  replace hq1 := hide (hq1.out.below hb)
  replace hq2 := hide (hq2.out.below hb)
  replace hq3 := hide (hq3.out.below hb)
  clear hb x0 x1 x2 x3 y0 y1 y2 y3 hW0
  have x0 := bp.cell 4
  have x1 := bp.cell 5
  have x2 := bp.cell 6
  have x3 := bp.cell 7
  have y0 := bq.cell 4
  have y1 := bq.cell 5
  have y2 := bq.cell 6
  have y3 := bq.cell 7
  simp at x0 x1 x2 x3 y0 y1 y2 y3
  go_wp2_with fail
  refine (rfSame_fz pn1 pm1 qn1 qm1 pA1 pB1 qA1 qB1 pk1 pc1 pj1 pd1 qk1 qc1 qj1 qd1 b b w0 hp1.out hq1.out true (by simp)).mono ?_
  rintro e w1 ⟨rfl, hb⟩
  replace hb0 := hb0.trans (hb.mono hb0.size)
  replace bp := keep_blk hb bp
  replace bq := keep_blk hb bq
  replace hp2 := hide (hp2.out.below hb)
  replace hp3 := hide (hp3.out.below hb)
  replace hq2 := hide (hq2.out.below hb)
  replace hq3 := hide (hq3.out.below hb)
  clear hb x0 x1 x2 x3 y0 y1 y2 y3
  have x0 := bp.cell 8
  have x1 := bp.cell 9
  have x2 := bp.cell 10
  have x3 := bp.cell 11
  have y0 := bq.cell 8
  have y1 := bq.cell 9
  have y2 := bq.cell 10
  have y3 := bq.cell 11
  simp at x0 x1 x2 x3 y0 y1 y2 y3
  go_wp2_with fail
  refine (rfSame_fz pn2 pm2 qn2 qm2 pA2 pB2 qA2 qB2 pk2 pc2 pj2 pd2 qk2 qc2 qj2 qd2 c c w1 hp2.out hq2.out true (by simp)).mono ?_
  rintro e w2 ⟨rfl, hb⟩
  replace hb0 := hb0.trans (hb.mono hb0.size)
  replace bp := keep_blk hb bp
  replace bq := keep_blk hb bq
  replace hp3 := hide (hp3.out.below hb)
  replace hq3 := hide (hq3.out.below hb)
  clear hb x0 x1 x2 x3 y0 y1 y2 y3
  have x0 := bp.cell 12
  have x1 := bp.cell 13
  have x2 := bp.cell 14
  have x3 := bp.cell 15
  have y0 := bq.cell 12
  have y1 := bq.cell 13
  have y2 := bq.cell 14
  have y3 := bq.cell 15
  simp at x0 x1 x2 x3 y0 y1 y2 y3
  go_wp2_with fail
  refine (rfSame_fz pn3 pm3 qn3 qm3 pA3 pB3 qA3 qB3 pk3 pc3 pj3 pd3 qk3 qc3 qj3 qd3 d d w2 hp3.out hq3.out true (by simp)).mono ?_
  rintro e w3 ⟨rfl, hb⟩
  replace hb0 := hb0.trans (hb.mono hb0.size)
  replace bp := keep_blk hb bp
  replace bq := keep_blk hb bq
  clear hb x0 x1 x2 x3 y0 y1 y2 y3
  go_wp2_with fail
  go_ret
  exact ⟨rfl, hb0⟩

set_option maxRecDepth 100000 in
set_option maxHeartbeats 1000000 in
theorem lawRow_ok (A : Option Addr) (n c : Nat) (w : World) :
    Calls Try.prog 7 #[.slice A n c] w fun e w' => e = .returned (.agg #[.int .i64 n, .int .i64 1, .slice A n c]) ∧ Below w.heap.size w w' := by
  obtain ⟨W0, hW0, hB, q0, sz⟩ := alloc1 w 24 #[.int .i64 0, .int .i64 0, .slice none 0 0]
  have y0 := q0.cell 0
  have y1 := q0.cell 1
  have y2 := q0.cell 2
  simp at y0 y1 y2
  have z0 := q0.frozen 0
  have z1 := q0.frozen 1
  have z2 := q0.frozen 2
  go_enter Try.func7, Try.ntmps7
  go_wp2_with fail
  obtain ⟨V, hV, hB2, q1, -⟩ := set_all [.int .i64 n, .int .i64 1, .slice A n c] [.int .i64 0, .int .i64 0, .slice none 0 0] rfl rfl rfl hB (by omega) q0
  simp only [World.setCells, Nat.reduceAdd, Nat.zero_add] at hV
  (try rw [hV])
  have r0 := q1.cell 0
  have r1 := q1.cell 1
  have r2 := q1.cell 2
  simp at r0 r1 r2
  refine bodyPost_ret (v := .agg #[.int .i64 n, .int .i64 1, .slice A n c]) (by simp [results, Try.results7, go_sem, r0, r1, r2]) rfl ?_
  exact ⟨rfl, hB2⟩

set_option maxRecDepth 100000 in
set_option maxHeartbeats 1000000 in
theorem lawOf_ok (x y : Int) (w : World) (hx1 : -9223372036854775808 ≤ x) (hx2 : x ≤ 9223372036854775807) (h0 : 0 < y) (hy : y ≤ 9223372036854775807) :
    Calls Try.prog 9 #[.int .i64 x, .int .i64 y] w (FracW w (Rat.divInt x y)) := by
  obtain ⟨W0, hW0, hB, q9, sz⟩ := alloc1 w 29 #[.bool false, .slice none 0 0, .bool false, .slice none 0 0]
  go_enter Try.func9, Try.ntmps9
  go_wp2_with fail
  refine (rOf_pos x y W0 hx1 hx2 h0 hy).mono ?_
  rintro e w2 ⟨hb2, na, A2, n2, c2', nb, B2, m2, d2, rfl, hF⟩
  have hB2 := hB.trans (hb2.mono hB.size)
  have z2 := hb2.size
  replace q9 := keep_blk hb2 q9
  clear hW0
  obtain ⟨V, hV, hB3, q3, hk3, hk3', s3⟩ := new_obj 29 #[.bool false, .slice none 0 0, .bool false, .slice none 0 0] hB2 (by omega)
  replace hF := hide (hF.keep hk3)
  replace q9 := hk3' _ _ _ q9
  obtain ⟨y0, y1, y2, y3, z0, z1, z2', z3⟩ := q3.four
  obtain ⟨y0', y1', y2', y3', z0', z1', z2'', z3'⟩ := q9.four
  go_wp2_with fail
  obtain ⟨V2, hV2, hB4, q4, hst⟩ := set_frac na A2 n2 c2' nb B2 m2 d2 hB3 (by omega) q3
  rw [hV2]
  replace hF := hide (hF.out.keep hst.1)
  replace q9 := hst.2.1 _ _ _ (by omega) q9
  obtain ⟨V3, hV3, hB5, q5, hst5⟩ := set_frac na A2 n2 c2' nb B2 m2 d2 hB4 (by omega) q9
  rw [hV3]
  replace hF := hF.out.keep hst5.1
  obtain ⟨r0, r1, r2, r3, -⟩ := q5.four
  refine bodyPost_ret (v := .agg #[.bool na, .slice A2 n2 c2', .bool nb, .slice B2 m2 d2]) (by simp [results, Try.results9, go_sem, r0, r1, r2, r3]) rfl ?_
  exact ⟨hB5, _, _, _, _, _, _, _, _, rfl, hF⟩
end Go.Proofs.Ytkippclhbkjbmaa
