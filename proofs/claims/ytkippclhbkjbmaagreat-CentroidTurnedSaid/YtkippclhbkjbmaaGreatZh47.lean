/- Reference of centroid: Same of equal moments. -/
import Derived.Test.YtkippclhbkjbmaaGreatZh34
import Derived.Test.YtkippclhbkjbmaaGreatZh19
set_option linter.unusedSimpArgs false
set_option linter.unusedVariables false

namespace Go.Proofs.YtkippclhbkjbmaaGreat
open Go.RowKit
attribute [local go_sem] add_lit

set_option maxRecDepth 100000 in
set_option maxHeartbeats 4000000 in
theorem rsameM_true (csA csB : Array Value) (M : Mom) (w : World) (hA : MomF w csA M) (hB : MomF w csB M) :
    Calls Tryz.prog 11 #[.agg csA, .agg csB] w fun e w' => e = .returned (.bool true) ∧ Below w.heap.size w w' := by
  obtain ⟨pn0, pA0, pk0, pc0, pm0, pB0, pj0, pd0, pn1, pA1, pk1, pc1, pm1, pB1, pj1, pd1, pn2, pA2, pk2, pc2, pm2, pB2, pj2, pd2, pn3, pA3, pk3, pc3, pm3, pB3, pj3, pd3, pn4, pA4, pk4, pc4, pm4, pB4, pj4, pd4, rfl, hp0, hp1, hp2, hp3, hp4⟩ := hA
  obtain ⟨qn0, qA0, qk0, qc0, qm0, qB0, qj0, qd0, qn1, qA1, qk1, qc1, qm1, qB1, qj1, qd1, qn2, qA2, qk2, qc2, qm2, qB2, qj2, qd2, qn3, qA3, qk3, qc3, qm3, qB3, qj3, qd3, qn4, qA4, qk4, qc4, qm4, qB4, qj4, qd4, rfl, hq0, hq1, hq2, hq3, hq4⟩ := hB
  obtain ⟨W0, hW0, hb0, ⟨bp, bq⟩, sz⟩ := alloc2 w 34 #[.int .i64 M.s, .bool pn0, .slice pA0 pk0 pc0, .bool pm0, .slice pB0 pj0 pd0, .bool pn1, .slice pA1 pk1 pc1, .bool pm1, .slice pB1 pj1 pd1, .bool pn2, .slice pA2 pk2 pc2, .bool pm2, .slice pB2 pj2 pd2, .bool pn3, .slice pA3 pk3 pc3, .bool pm3, .slice pB3 pj3 pd3, .bool pn4, .slice pA4 pk4 pc4, .bool pm4, .slice pB4 pj4 pd4] 34 #[.int .i64 M.s, .bool qn0, .slice qA0 qk0 qc0, .bool qm0, .slice qB0 qj0 qd0, .bool qn1, .slice qA1 qk1 qc1, .bool qm1, .slice qB1 qj1 qd1, .bool qn2, .slice qA2 qk2 qc2, .bool qm2, .slice qB2 qj2 qd2, .bool qn3, .slice qA3 qk3 qc3, .bool qm3, .slice qB3 qj3 qd3, .bool qn4, .slice qA4 qk4 qc4, .bool qm4, .slice qB4 qj4 qd4]
  replace hp0 := hide (hp0.below hb0)
  replace hp1 := hide (hp1.below hb0)
  replace hp2 := hide (hp2.below hb0)
  replace hp3 := hide (hp3.below hb0)
  replace hp4 := hide (hp4.below hb0)
  replace hq0 := hide (hq0.below hb0)
  replace hq1 := hide (hq1.below hb0)
  replace hq2 := hide (hq2.below hb0)
  replace hq3 := hide (hq3.below hb0)
  replace hq4 := hide (hq4.below hb0)
  have e0 := bp.cell 0
  have e1 := bq.cell 0
  simp at e0 e1
  have x0 := bp.cell 1
  have x1 := bp.cell 2
  have x2 := bp.cell 3
  have x3 := bp.cell 4
  have y0 := bq.cell 1
  have y1 := bq.cell 2
  have y2 := bq.cell 3
  have y3 := bq.cell 4
  simp at x0 x1 x2 x3 y0 y1 y2 y3
  go_enter Tryz.func11, Tryz.ntmps11
  go_wp2_with fail
  refine (rfSame_fz pn0 pm0 qn0 qm0 pA0 pB0 qA0 qB0 pk0 pc0 pj0 pd0 qk0 qc0 qj0 qd0 M.x M.x W0 hp0.out hq0.out true (by simp)).mono ?_
  rintro e w0 ⟨rfl, hb⟩
  replace hb0 := hb0.trans (hb.mono hb0.size)
  replace bp := keep_blk hb bp
  replace bq := keep_blk hb bq
  replace hp1 := hide (hp1.out.below hb)
  replace hp2 := hide (hp2.out.below hb)
  replace hp3 := hide (hp3.out.below hb)
  replace hp4 := hide (hp4.out.below hb)
  replace hq1 := hide (hq1.out.below hb)
  replace hq2 := hide (hq2.out.below hb)
  replace hq3 := hide (hq3.out.below hb)
  replace hq4 := hide (hq4.out.below hb)
  clear hb x0 x1 x2 x3 y0 y1 y2 y3 e0 e1 hW0
  have x0 := bp.cell 5
  have x1 := bp.cell 6
  have x2 := bp.cell 7
  have x3 := bp.cell 8
  have y0 := bq.cell 5
  have y1 := bq.cell 6
  have y2 := bq.cell 7
  have y3 := bq.cell 8
  simp at x0 x1 x2 x3 y0 y1 y2 y3
  go_wp2_with fail
  refine (rfSame_fz pn1 pm1 qn1 qm1 pA1 pB1 qA1 qB1 pk1 pc1 pj1 pd1 qk1 qc1 qj1 qd1 M.y M.y w0 hp1.out hq1.out true (by simp)).mono ?_
  rintro e w1 ⟨rfl, hb⟩
  replace hb0 := hb0.trans (hb.mono hb0.size)
  replace bp := keep_blk hb bp
  replace bq := keep_blk hb bq
  replace hp2 := hide (hp2.out.below hb)
  replace hp3 := hide (hp3.out.below hb)
  replace hp4 := hide (hp4.out.below hb)
  replace hq2 := hide (hq2.out.below hb)
  replace hq3 := hide (hq3.out.below hb)
  replace hq4 := hide (hq4.out.below hb)
  clear hb x0 x1 x2 x3 y0 y1 y2 y3
  have x0 := bp.cell 9
  have x1 := bp.cell 10
  have x2 := bp.cell 11
  have x3 := bp.cell 12
  have y0 := bq.cell 9
  have y1 := bq.cell 10
  have y2 := bq.cell 11
  have y3 := bq.cell 12
  simp at x0 x1 x2 x3 y0 y1 y2 y3
  go_wp2_with fail
  refine (rfSame_fz pn2 pm2 qn2 qm2 pA2 pB2 qA2 qB2 pk2 pc2 pj2 pd2 qk2 qc2 qj2 qd2 M.xx M.xx w1 hp2.out hq2.out true (by simp)).mono ?_
  rintro e w2 ⟨rfl, hb⟩
  replace hb0 := hb0.trans (hb.mono hb0.size)
  replace bp := keep_blk hb bp
  replace bq := keep_blk hb bq
  replace hp3 := hide (hp3.out.below hb)
  replace hp4 := hide (hp4.out.below hb)
  replace hq3 := hide (hq3.out.below hb)
  replace hq4 := hide (hq4.out.below hb)
  clear hb x0 x1 x2 x3 y0 y1 y2 y3
  have x0 := bp.cell 13
  have x1 := bp.cell 14
  have x2 := bp.cell 15
  have x3 := bp.cell 16
  have y0 := bq.cell 13
  have y1 := bq.cell 14
  have y2 := bq.cell 15
  have y3 := bq.cell 16
  simp at x0 x1 x2 x3 y0 y1 y2 y3
  go_wp2_with fail
  refine (rfSame_fz pn3 pm3 qn3 qm3 pA3 pB3 qA3 qB3 pk3 pc3 pj3 pd3 qk3 qc3 qj3 qd3 M.xy M.xy w2 hp3.out hq3.out true (by simp)).mono ?_
  rintro e w3 ⟨rfl, hb⟩
  replace hb0 := hb0.trans (hb.mono hb0.size)
  replace bp := keep_blk hb bp
  replace bq := keep_blk hb bq
  replace hp4 := hide (hp4.out.below hb)
  replace hq4 := hide (hq4.out.below hb)
  clear hb x0 x1 x2 x3 y0 y1 y2 y3
  have x0 := bp.cell 17
  have x1 := bp.cell 18
  have x2 := bp.cell 19
  have x3 := bp.cell 20
  have y0 := bq.cell 17
  have y1 := bq.cell 18
  have y2 := bq.cell 19
  have y3 := bq.cell 20
  simp at x0 x1 x2 x3 y0 y1 y2 y3
  go_wp2_with fail
  refine (rfSame_fz pn4 pm4 qn4 qm4 pA4 pB4 qA4 qB4 pk4 pc4 pj4 pd4 qk4 qc4 qj4 qd4 M.yy M.yy w3 hp4.out hq4.out true (by simp)).mono ?_
  rintro e w4 ⟨rfl, hb⟩
  replace hb0 := hb0.trans (hb.mono hb0.size)
  replace bp := keep_blk hb bp
  replace bq := keep_blk hb bq
  clear hb x0 x1 x2 x3 y0 y1 y2 y3
  go_wp2_with fail
  go_ret
  exact ⟨rfl, hb0⟩
end Go.Proofs.YtkippclhbkjbmaaGreat
