/- The example that every law of the layer looks at: alive returns true. -/
import Derived.Test.YtkippclhbkjbmaaZn47
import Derived.Test.YtkippclhbkjbmaaZn48
import Derived.Test.YtkippclhbkjbmaaZn49
import Derived.Test.YtkippclhbkjbmaaZn50
set_option linter.unusedSimpArgs false
set_option linter.unusedVariables false

namespace Go.Proofs.Ytkippclhbkjbmaa
open Go.RowKit
attribute [local go_sem] add_lit

instance decI64 (x : Int) : Decidable (I64 x) := by unfold I64; exact inferInstance
theorem LimI.of_blk {w : World} {g : Nat} {t : TypeId} {l : List Int} {cs : Array Value} (h : Blk w g t cs) (hc : cs = (l.map (fun x => Value.int .i64 x)).toArray) (hl : ∀ x ∈ l, I64 x) (hn : l.length ≤ 1000) : LimI w (some ⟨g, 0, none⟩) l.length l.length l := by
  subst hc
  refine ⟨rfl, Nat.le_refl _, by unfold maxLen; omega, hl, fun _ => ⟨g, 0, rfl, fun k hk => ?_⟩⟩
  rw [Nat.zero_add, h.cell]
  simp [List.getElem?_eq_getElem hk]

theorem BoxF.below_ {w w' : World} {cs : Array Value} {a b c d : Int × Int} (h : BoxF w cs a b c d) (hb : Below w.heap.size w w') : BoxF w' cs a b c d := by
  obtain ⟨pn0, pA0, pk0, pc0, pm0, pB0, pj0, pd0, pn1, pA1, pk1, pc1, pm1, pB1, pj1, pd1, pn2, pA2, pk2, pc2, pm2, pB2, pj2, pd2, pn3, pA3, pk3, pc3, pm3, pB3, pj3, pd3, rfl, hp0, hp1, hp2, hp3⟩ := h
  exact ⟨_, _, _, _, _, _, _, _, _, _, _, _, _, _, _, _, _, _, _, _, _, _, _, _, _, _, _, _, _, _, _, _, rfl, hp0.below hb, hp1.below hb, hp2.below hb, hp3.below hb⟩

set_option maxRecDepth 100000 in
set_option maxHeartbeats 8000000 in
theorem alive_ok (w : World) :
    Calls Try.prog 12 #[] w fun e w' => e = .returned (.bool true) ∧ Below w.heap.size w w' := by
  have hmx : Try.prog.follows .mixedOrders = true := by kernel_rfl
  obtain ⟨V1, hV1, hB, q1, -, -, sV1⟩ := new_obj 2 #[.int .i64 1, .int .i64 2, .int .i64 1] (Below.refl w.heap.size w) (Nat.le_refl _)
  have hp := hide (LimI.of_blk (l := [1, 2, 1]) q1 rfl (by decide) (by decide))
  go_enter Try.func12, Try.ntmps12
  go_wp2_with fail
  refine (lawRow_ok _ 3 3 V1).mono ?_
  rintro e w1 ⟨rfl, hb1⟩
  replace hB := hB.trans (hb1.mono hB.size)
  replace hp := hide (hp.out.below hb1)
  clear hV1 q1 sV1
  obtain ⟨V2, hV2, hB2, q2, -, -, sV2⟩ := new_obj 3 #[.int .i64 0, .int .i64 1, .int .i64 2] (Below.refl w1.heap.size w1) (Nat.le_refl _)
  have hl := hide (LimI.of_blk (l := [0, 1, 2]) q2 rfl (by decide) (by decide))
  replace hB := hB.trans (hB2.mono hB.size)
  replace hp := hide (hp.out.below hB2)
  go_wp2_with fail
  refine ((moments_good 3 1 _ 3 3 _ 3 3 [1, 2, 1] [0, 1, 2] V2 hp.out hl.out (by decide) (by decide) (by decide) ex_start).mono fun e w' h => h.2 (by rw [ex_sum]; decide)).mono ?_
  rintro e w2 ⟨hb2, csA, rfl, hFa⟩
  clear hV2 hB2 q2 sV2 hp hl
  replace hB := hB.trans (hb2.mono hB.size)
  obtain ⟨pn0, pA0, pk0, pc0, pm0, pB0, pj0, pd0, pn1, pA1, pk1, pc1, pm1, pB1, pj1, pd1, pn2, pA2, pk2, pc2, pm2, pB2, pj2, pd2, pn3, pA3, pk3, pc3, pm3, pB3, pj3, pd3, pn4, pA4, pk4, pc4, pm4, pB4, pj4, pd4, rfl, hp0, hp1, hp2, -, -⟩ := hFa
  have hs4 : (momOf 3 [1, 2, 1] [0, 1, 2]).s = 4 := ex_sum
  rw [hs4]
  replace hp0 : Hid (Fz w2 pn0 pA0 pk0 pc0 pm0 pB0 pj0 pd0 (1, 1)) := hide (by rw [← ex_x]; exact hp0)
  replace hp1 : Hid (Fz w2 pn1 pA1 pk1 pc1 pm1 pB1 pj1 pd1 (0, 1)) := hide (by rw [← ex_y]; exact hp1)
  replace hp2 : Hid (Fz w2 pn2 pA2 pk2 pc2 pm2 pB2 pj2 pd2 (1, 2)) := hide (by rw [← ex_xx]; exact hp2)
  obtain ⟨V3, hV3, hB3, q6, -, -, sV3⟩ := new_obj 31 #[.int .i64 0, .bool false, .slice none 0 0, .bool false, .slice none 0 0, .bool false, .slice none 0 0, .bool false, .slice none 0 0, .bool false, .slice none 0 0, .bool false, .slice none 0 0, .bool false, .slice none 0 0, .bool false, .slice none 0 0, .bool false, .slice none 0 0, .bool false, .slice none 0 0] (Below.refl w2.heap.size w2) (Nat.le_refl _)
  obtain ⟨V4, hV4, hB4, qm, -⟩ := set_all [.int .i64 4, .bool pn0, .slice pA0 pk0 pc0, .bool pm0, .slice pB0 pj0 pd0, .bool pn1, .slice pA1 pk1 pc1, .bool pm1, .slice pB1 pj1 pd1, .bool pn2, .slice pA2 pk2 pc2, .bool pm2, .slice pB2 pj2 pd2, .bool pn3, .slice pA3 pk3 pc3, .bool pm3, .slice pB3 pj3 pd3, .bool pn4, .slice pA4 pk4 pc4, .bool pm4, .slice pB4 pj4 pd4] [.int .i64 0, .bool false, .slice none 0 0, .bool false, .slice none 0 0, .bool false, .slice none 0 0, .bool false, .slice none 0 0, .bool false, .slice none 0 0, .bool false, .slice none 0 0, .bool false, .slice none 0 0, .bool false, .slice none 0 0, .bool false, .slice none 0 0, .bool false, .slice none 0 0] rfl rfl rfl hB3 (Nat.le_refl _) q6
  replace hp0 := hide (hp0.out.below hB4)
  replace hp1 := hide (hp1.out.below hB4)
  replace hp2 := hide (hp2.out.below hB4)
  replace hB := hB.trans (hB4.mono hB.size)
  have sV4 := hB4.size
  obtain ⟨V5, hV5, hB5, q7, -, hk5, sV5⟩ := new_obj 2 #[.int .i64 6, .int .i64 3] (Below.refl V4.heap.size V4) (Nat.le_refl _)
  have hp := hide (LimI.of_blk (l := [6, 3]) q7 rfl (by decide) (by decide))
  replace hB := hB.trans (hB5.mono hB.size)
  replace qm := keep_blk hB5 qm
  replace hp0 := hide (hp0.out.below hB5)
  replace hp1 := hide (hp1.out.below hB5)
  replace hp2 := hide (hp2.out.below hB5)
  go_wp2_with (refine wpList_store_mid rfl 31 _ _ rfl w2.heap.size 0 #[.int .i64 4, .bool pn0, .slice pA0 pk0 pc0, .bool pm0, .slice pB0 pj0 pd0, .bool pn1, .slice pA1 pk1 pc1, .bool pm1, .slice pB1 pj1 pd1, .bool pn2, .slice pA2 pk2 pc2, .bool pm2, .slice pB2 pj2 pd2, .bool pn3, .slice pA3 pk3 pc3, .bool pm3, .slice pB3 pj3 pd3, .bool pn4, .slice pA4 pk4 pc4, .bool pm4, .slice pB4 pj4 pd4] rfl rfl (q6.there (by simp)) info_mom (by simp [Value.oneCell']) ?_; rw [hV4])
  refine (lawRow_ok _ 2 2 V5).mono ?_
  rintro e w3 ⟨rfl, hb3⟩
  clear hV3 hV4 q6 hB3 hB4 sV3 sV4 hV5 hB5 q7 sV5 hk5
  generalize w2.heap.size = g1 at *
  replace hB := hB.trans (hb3.mono hB.size)
  replace hp := hide (hp.out.below hb3)
  replace qm := keep_blk hb3 qm
  replace hp0 := hide (hp0.out.below hb3)
  replace hp1 := hide (hp1.out.below hb3)
  replace hp2 := hide (hp2.out.below hb3)
  obtain ⟨V6, hV6, hB6, q8, -, -, sV6⟩ := new_obj 3 #[.int .i64 0, .int .i64 1] (Below.refl w3.heap.size w3) (Nat.le_refl _)
  have hl := hide (LimI.of_blk (l := [0, 1]) q8 rfl (by decide) (by decide))
  replace hB := hB.trans (hB6.mono hB.size)
  replace hp := hide (hp.out.below hB6)
  replace qm := keep_blk hB6 qm
  replace hp0 := hide (hp0.out.below hB6)
  replace hp1 := hide (hp1.out.below hB6)
  replace hp2 := hide (hp2.out.below hB6)
  go_wp2_with fail
  refine ((bound_any 2 1 _ 2 2 _ 2 2 [6, 3] [0, 1] 1 V6 hp.out hl.out (by decide) (by decide) (by decide) (by decide) 0 ex_bound).mono fun e w' h => h.2 rfl).mono ?_
  rw [ex_lx, ex_mx, ex_ly, ex_my]
  rintro e w4 ⟨hb4, csB, rfl, hFb⟩
  clear hV6 hB6 q8 sV6 hp hl
  replace hB := hB.trans (hb4.mono hB.size)
  replace qm := keep_blk hb4 qm
  replace hp0 := hide (hp0.out.below hb4)
  replace hp1 := hide (hp1.out.below hb4)
  replace hp2 := hide (hp2.out.below hb4)
  obtain ⟨qn0, qA0, qk0, qc0, qm0, qB0, qj0, qd0, qn1, qA1, qk1, qc1, qm1, qB1, qj1, qd1, qn2, qA2, qk2, qc2, qm2, qB2, qj2, qd2, qn3, qA3, qk3, qc3, qm3, qB3, qj3, qd3, rfl, hq0, hq1, hq2, hq3⟩ := hFb
  have hFb : Hid (BoxF w4 #[.bool qn0, .slice qA0 qk0 qc0, .bool qm0, .slice qB0 qj0 qd0, .bool qn1, .slice qA1 qk1 qc1, .bool qm1, .slice qB1 qj1 qd1, .bool qn2, .slice qA2 qk2 qc2, .bool qm2, .slice qB2 qj2 qd2, .bool qn3, .slice qA3 qk3 qc3, .bool qm3, .slice qB3 qj3 qd3] (2, 9) (4, 9) (0, 1) (0, 1)) := hide ⟨_, _, _, _, _, _, _, _, _, _, _, _, _, _, _, _, _, _, _, _, _, _, _, _, _, _, _, _, _, _, _, _, rfl, hq0, hq1, hq2, hq3⟩
  clear hq0 hq1 hq2 hq3
  obtain ⟨V7, hV7, hB7, q9, -, -, sV7⟩ := new_obj 38 #[.bool false, .slice none 0 0, .bool false, .slice none 0 0, .bool false, .slice none 0 0, .bool false, .slice none 0 0, .bool false, .slice none 0 0, .bool false, .slice none 0 0, .bool false, .slice none 0 0, .bool false, .slice none 0 0] (Below.refl w4.heap.size w4) (Nat.le_refl _)
  obtain ⟨V8, hV8, hB8, qb, -⟩ := set_all [.bool qn0, .slice qA0 qk0 qc0, .bool qm0, .slice qB0 qj0 qd0, .bool qn1, .slice qA1 qk1 qc1, .bool qm1, .slice qB1 qj1 qd1, .bool qn2, .slice qA2 qk2 qc2, .bool qm2, .slice qB2 qj2 qd2, .bool qn3, .slice qA3 qk3 qc3, .bool qm3, .slice qB3 qj3 qd3] [.bool false, .slice none 0 0, .bool false, .slice none 0 0, .bool false, .slice none 0 0, .bool false, .slice none 0 0, .bool false, .slice none 0 0, .bool false, .slice none 0 0, .bool false, .slice none 0 0, .bool false, .slice none 0 0] rfl rfl rfl hB7 (Nat.le_refl _) q9
  replace hB := hB.trans (hB8.mono hB.size)
  replace qm := keep_blk hB8 qm
  replace hFb := hide (hFb.out.below_ hB8)
  replace hp0 := hide (hp0.out.below hB8)
  replace hp1 := hide (hp1.out.below hB8)
  replace hp2 := hide (hp2.out.below hB8)
  go_wp2_with (refine wpList_store_mid rfl 38 _ _ rfl w4.heap.size 0 #[.bool qn0, .slice qA0 qk0 qc0, .bool qm0, .slice qB0 qj0 qd0, .bool qn1, .slice qA1 qk1 qc1, .bool qm1, .slice qB1 qj1 qd1, .bool qn2, .slice qA2 qk2 qc2, .bool qm2, .slice qB2 qj2 qd2, .bool qn3, .slice qA3 qk3 qc3, .bool qm3, .slice qB3 qj3 qd3] rfl rfl (q9.there (by simp)) info_box (by simp [Value.oneCell']) ?_; rw [hV8])
  refine (lawOf_ok 2 9 V8 (by decide) (by decide) (by decide) (by decide)).mono ?_
  rintro e y0 ⟨hby, rn0, rA0, rk0, rc0, rm0, rB0, rj0, rd0, rfl, hr0⟩
  clear hV7 hB7 hV8 hB8 q9 sV7
  generalize w4.heap.size = g3 at *
  replace hr0 : Hid (Fz y0 rn0 rA0 rk0 rc0 rm0 rB0 rj0 rd0 (2, 9)) := hide (by rw [← of_29]; exact hr0.fz)
  replace hB := hB.trans (hby.mono hB.size)
  replace qm := keep_blk hby qm
  replace qb := keep_blk hby qb
  replace hFb := hide (hFb.out.below_ hby)
  replace hp0 := hide (hp0.out.below hby)
  replace hp1 := hide (hp1.out.below hby)
  replace hp2 := hide (hp2.out.below hby)
  clear hby
  go_wp2_with fail
  refine (lawOf_ok 4 9 y0 (by decide) (by decide) (by decide) (by decide)).mono ?_
  rintro e y1 ⟨hby, rn1, rA1, rk1, rc1, rm1, rB1, rj1, rd1, rfl, hr1⟩
  replace hr1 : Hid (Fz y1 rn1 rA1 rk1 rc1 rm1 rB1 rj1 rd1 (4, 9)) := hide (by rw [← of_49]; exact hr1.fz)
  replace hB := hB.trans (hby.mono hB.size)
  replace qm := keep_blk hby qm
  replace qb := keep_blk hby qb
  replace hFb := hide (hFb.out.below_ hby)
  replace hp0 := hide (hp0.out.below hby)
  replace hp1 := hide (hp1.out.below hby)
  replace hp2 := hide (hp2.out.below hby)
  replace hr0 := hide (hr0.out.below hby)
  clear hby
  go_wp2_with fail
  refine (lawOf_ok 0 1 y1 (by decide) (by decide) (by decide) (by decide)).mono ?_
  rintro e y2 ⟨hby, rn2, rA2, rk2, rc2, rm2, rB2, rj2, rd2, rfl, hr2⟩
  replace hr2 : Hid (Fz y2 rn2 rA2 rk2 rc2 rm2 rB2 rj2 rd2 (0, 1)) := hide (by rw [← of_01]; exact hr2.fz)
  replace hB := hB.trans (hby.mono hB.size)
  replace qm := keep_blk hby qm
  replace qb := keep_blk hby qb
  replace hFb := hide (hFb.out.below_ hby)
  replace hp0 := hide (hp0.out.below hby)
  replace hp1 := hide (hp1.out.below hby)
  replace hp2 := hide (hp2.out.below hby)
  replace hr0 := hide (hr0.out.below hby)
  replace hr1 := hide (hr1.out.below hby)
  clear hby
  go_wp2_with fail
  refine (lawOf_ok 0 1 y2 (by decide) (by decide) (by decide) (by decide)).mono ?_
  rintro e y3 ⟨hby, rn3, rA3, rk3, rc3, rm3, rB3, rj3, rd3, rfl, hr3⟩
  replace hr3 : Hid (Fz y3 rn3 rA3 rk3 rc3 rm3 rB3 rj3 rd3 (0, 1)) := hide (by rw [← of_01]; exact hr3.fz)
  replace hB := hB.trans (hby.mono hB.size)
  replace qm := keep_blk hby qm
  replace qb := keep_blk hby qb
  replace hFb := hide (hFb.out.below_ hby)
  replace hp0 := hide (hp0.out.below hby)
  replace hp1 := hide (hp1.out.below hby)
  replace hp2 := hide (hp2.out.below hby)
  replace hr0 := hide (hr0.out.below hby)
  replace hr1 := hide (hr1.out.below hby)
  replace hr2 := hide (hr2.out.below hby)
  clear hby
  have hFc : Hid (BoxF y3 #[.bool rn0, .slice rA0 rk0 rc0, .bool rm0, .slice rB0 rj0 rd0, .bool rn1, .slice rA1 rk1 rc1, .bool rm1, .slice rB1 rj1 rd1, .bool rn2, .slice rA2 rk2 rc2, .bool rm2, .slice rB2 rj2 rd2, .bool rn3, .slice rA3 rk3 rc3, .bool rm3, .slice rB3 rj3 rd3] (2, 9) (4, 9) (0, 1) (0, 1)) := hide ⟨_, _, _, _, _, _, _, _, _, _, _, _, _, _, _, _, _, _, _, _, _, _, _, _, _, _, _, _, _, _, _, _, rfl, hr0.out, hr1.out, hr2.out, hr3.out⟩
  clear hr0 hr1 hr2 hr3
  obtain ⟨V9, hV9, hB9, q9, -, -, sV9⟩ := new_obj 38 #[.bool false, .slice none 0 0, .bool false, .slice none 0 0, .bool false, .slice none 0 0, .bool false, .slice none 0 0, .bool false, .slice none 0 0, .bool false, .slice none 0 0, .bool false, .slice none 0 0, .bool false, .slice none 0 0] (Below.refl y3.heap.size y3) (Nat.le_refl _)
  obtain ⟨Va, hVa, hBa, qc, -⟩ := set_all [.bool rn0, .slice rA0 rk0 rc0, .bool rm0, .slice rB0 rj0 rd0, .bool rn1, .slice rA1 rk1 rc1, .bool rm1, .slice rB1 rj1 rd1, .bool rn2, .slice rA2 rk2 rc2, .bool rm2, .slice rB2 rj2 rd2, .bool rn3, .slice rA3 rk3 rc3, .bool rm3, .slice rB3 rj3 rd3] [.bool false, .slice none 0 0, .bool false, .slice none 0 0, .bool false, .slice none 0 0, .bool false, .slice none 0 0, .bool false, .slice none 0 0, .bool false, .slice none 0 0, .bool false, .slice none 0 0, .bool false, .slice none 0 0] rfl rfl rfl hB9 (Nat.le_refl _) q9
  replace hB := hB.trans (hBa.mono hB.size)
  replace qm := keep_blk hBa qm
  replace qb := keep_blk hBa qb
  replace hFb := hide (hFb.out.below_ hBa)
  replace hFc := hide (hFc.out.below_ hBa)
  replace hp0 := hide (hp0.out.below hBa)
  replace hp1 := hide (hp1.out.below hBa)
  replace hp2 := hide (hp2.out.below hBa)
  go_wp2_with (refine wpList_store_mid rfl 38 _ _ rfl y3.heap.size 0 #[.bool rn0, .slice rA0 rk0 rc0, .bool rm0, .slice rB0 rj0 rd0, .bool rn1, .slice rA1 rk1 rc1, .bool rm1, .slice rB1 rj1 rd1, .bool rn2, .slice rA2 rk2 rc2, .bool rm2, .slice rB2 rj2 rd2, .bool rn3, .slice rA3 rk3 rc3, .bool rm3, .slice rB3 rj3 rd3] rfl rfl (q9.there (by simp)) info_box (by simp [Value.oneCell']) ?_; rw [hVa])
  clear hV9 hVa hB9 hBa q9 sV9
  generalize y3.heap.size = g5 at *
  obtain ⟨dd, hd1, hd2⟩ := und_box
  have hS : ∀ wx, Below Va.heap.size Va wx → wx.cell? ⟨g1, 0, none⟩ = some (.int .i64 4) ∧ wx.cell? ⟨g1, 1, none⟩ = some (.bool pn0) ∧ wx.cell? ⟨g1, 2, none⟩ = some (.slice pA0 pk0 pc0) ∧ wx.cell? ⟨g1, 3, none⟩ = some (.bool pm0) ∧ wx.cell? ⟨g1, 4, none⟩ = some (.slice pB0 pj0 pd0) ∧ wx.cell? ⟨g1, 5, none⟩ = some (.bool pn1) ∧ wx.cell? ⟨g1, 6, none⟩ = some (.slice pA1 pk1 pc1) ∧ wx.cell? ⟨g1, 7, none⟩ = some (.bool pm1) ∧ wx.cell? ⟨g1, 8, none⟩ = some (.slice pB1 pj1 pd1) ∧ wx.cell? ⟨g1, 9, none⟩ = some (.bool pn2) ∧ wx.cell? ⟨g1, 10, none⟩ = some (.slice pA2 pk2 pc2) ∧ wx.cell? ⟨g1, 11, none⟩ = some (.bool pm2) ∧ wx.cell? ⟨g1, 12, none⟩ = some (.slice pB2 pj2 pd2) ∧ wx.rangeAt g3 0 [.bool qn0, .slice qA0 qk0 qc0, .bool qm0, .slice qB0 qj0 qd0, .bool qn1, .slice qA1 qk1 qc1, .bool qm1, .slice qB1 qj1 qd1, .bool qn2, .slice qA2 qk2 qc2, .bool qm2, .slice qB2 qj2 qd2, .bool qn3, .slice qA3 qk3 qc3, .bool qm3, .slice qB3 qj3 qd3] ∧ wx.rangeAt g5 0 [.bool rn0, .slice rA0 rk0 rc0, .bool rm0, .slice rB0 rj0 rd0, .bool rn1, .slice rA1 rk1 rc1, .bool rm1, .slice rB1 rj1 rd1, .bool rn2, .slice rA2 rk2 rc2, .bool rm2, .slice rB2 rj2 rd2, .bool rn3, .slice rA3 rk3 rc3, .bool rm3, .slice rB3 rj3 rd3] := fun wx hbx => by
    have qmx := keep_blk hbx qm
    have qbx := keep_blk hbx qb
    have qcx := keep_blk hbx qc
    have a0 := qmx.cell 0
    have a1 := qmx.cell 1
    have a2 := qmx.cell 2
    have a3 := qmx.cell 3
    have a4 := qmx.cell 4
    have a5 := qmx.cell 5
    have a6 := qmx.cell 6
    have a7 := qmx.cell 7
    have a8 := qmx.cell 8
    have a9 := qmx.cell 9
    have a10 := qmx.cell 10
    have a11 := qmx.cell 11
    have a12 := qmx.cell 12
    simp at a0 a1 a2 a3 a4 a5 a6 a7 a8 a9 a10 a11 a12
    exact ⟨a0, a1, a2, a3, a4, a5, a6, a7, a8, a9, a10, a11, a12, qbx.rangeAt [] (rest := []) rfl, qcx.rangeAt [] (rest := []) rfl⟩
  replace hS := hide hS
  replace qm := hide qm
  replace qb := hide qb
  replace qc := hide qc
  have hb : Below Va.heap.size Va Va.drew := below_dn (Below.refl _ _) 1
  refine wp_held [] (fun wx => wx.cell? ⟨g1, 0, none⟩ = some (.int .i64 4) ∧ wx.cell? ⟨g1, 1, none⟩ = some (.bool pn0) ∧ wx.cell? ⟨g1, 2, none⟩ = some (.slice pA0 pk0 pc0) ∧ wx.cell? ⟨g1, 3, none⟩ = some (.bool pm0) ∧ wx.cell? ⟨g1, 4, none⟩ = some (.slice pB0 pj0 pd0) ∧ wx.cell? ⟨g1, 5, none⟩ = some (.bool pn1) ∧ wx.cell? ⟨g1, 6, none⟩ = some (.slice pA1 pk1 pc1) ∧ wx.cell? ⟨g1, 7, none⟩ = some (.bool pm1) ∧ wx.cell? ⟨g1, 8, none⟩ = some (.slice pB1 pj1 pd1) ∧ wx.cell? ⟨g1, 9, none⟩ = some (.bool pn2) ∧ wx.cell? ⟨g1, 10, none⟩ = some (.slice pA2 pk2 pc2) ∧ wx.cell? ⟨g1, 11, none⟩ = some (.bool pm2) ∧ wx.cell? ⟨g1, 12, none⟩ = some (.slice pB2 pj2 pd2) ∧ wx.rangeAt g3 0 [.bool qn0, .slice qA0 qk0 qc0, .bool qm0, .slice qB0 qj0 qd0, .bool qn1, .slice qA1 qk1 qc1, .bool qm1, .slice qB1 qj1 qd1, .bool qn2, .slice qA2 qk2 qc2, .bool qm2, .slice qB2 qj2 qd2, .bool qn3, .slice qA3 qk3 qc3, .bool qm3, .slice qB3 qj3 qd3] ∧ wx.rangeAt g5 0 [.bool rn0, .slice rA0 rk0 rc0, .bool rm0, .slice rB0 rj0 rd0, .bool rn1, .slice rA1 rk1 rc1, .bool rm1, .slice rB1 rj1 rd1, .bool rn2, .slice rA2 rk2 rc2, .bool rm2, .slice rB2 rj2 rd2, .bool rn3, .slice rA3 rk3 rc3, .bool rm3, .slice rB3 rj3 rd3]) hmx (hS.out _ hb) (fun _ => ?_)
  refine wpAnyL_one (i := 0) rfl (by kernel_rfl) (fun K hK => ?_)
  go_simp
  refine hK.out _ _ (fun _ => hS.out _ hb) ?_
  clear hK K
  try simp only [Act.put, List.setIfInBounds_toArray, List.set_cons_zero, List.set_cons_succ]
  refine wpAnyL_one (i := 1) rfl (by kernel_rfl) (fun K hK => ?_)
  go_simp
  refine hK.out _ _ (fun _ => hS.out _ hb) ?_
  clear hK K
  try simp only [Act.put, List.setIfInBounds_toArray, List.set_cons_zero, List.set_cons_succ]
  refine wpAnyL_one (i := 2) rfl (by kernel_rfl) (fun K hK => ?_)
  go_simp
  refine hK.out _ _ (fun _ => hS.out _ hb) ?_
  clear hK K
  try simp only [Act.put, List.setIfInBounds_toArray, List.set_cons_zero, List.set_cons_succ]
  refine wpAnyL_one (i := 3) rfl (by kernel_rfl) (fun K hK => ?_)
  go_simp
  refine hK.out _ _ (fun _ => hS.out _ hb) ?_
  clear hK K
  try simp only [Act.put, List.setIfInBounds_toArray, List.set_cons_zero, List.set_cons_succ]
  refine wpAnyL_take (i := 4) (v := ?v1) rfl (by kernel_rfl) (by kernel_rfl) (by kernel_rfl) (by kernel_rfl) (by kernel_rfl) (Or.inl ⟨by rfl, ?hy1⟩) (hS.out _ hb) ?rest1
  case hy1 => (intro W2 hSw; (try dsimp only at hSw); go_simp; try with_reducible rfl)
  try simp only [Act.put, List.setIfInBounds_toArray, List.set_cons_zero, List.set_cons_succ]
  refine wpAnyL_one (i := 5) rfl (by kernel_rfl) (fun K hK => ?_)
  go_simp
  refine hK.out _ _ (fun _ => hS.out _ hb) ?_
  clear hK K
  try simp only [Act.put, List.setIfInBounds_toArray, List.set_cons_zero, List.set_cons_succ]
  refine wpAnyL_one (i := 6) rfl (by kernel_rfl) (fun K hK => ?_)
  go_simp
  refine hK.out _ _ (fun _ => hS.out _ hb) ?_
  clear hK K
  try simp only [Act.put, List.setIfInBounds_toArray, List.set_cons_zero, List.set_cons_succ]
  refine wpAnyL_one (i := 7) rfl (by kernel_rfl) (fun K hK => ?_)
  go_simp
  refine hK.out _ _ (fun _ => hS.out _ hb) ?_
  clear hK K
  try simp only [Act.put, List.setIfInBounds_toArray, List.set_cons_zero, List.set_cons_succ]
  refine wpAnyL_take (i := 8) (v := ?v2) rfl (by kernel_rfl) (by kernel_rfl) (by kernel_rfl) (by kernel_rfl) (by kernel_rfl) (Or.inl ⟨by rfl, ?hy2⟩) (hS.out _ hb) ?rest2
  case hy2 => (intro W2 hSw; (try dsimp only at hSw); go_simp; try with_reducible rfl)
  try simp only [Act.put, List.setIfInBounds_toArray, List.set_cons_zero, List.set_cons_succ]
  refine wpAnyL_take (i := 9) (v := ?v3) rfl (by kernel_rfl) (by kernel_rfl) (by kernel_rfl) (by kernel_rfl) (by kernel_rfl) (Or.inl ⟨by rfl, ?hy3⟩) (hS.out _ hb) ?rest3
  case hy3 => (intro W2 hSw; (try dsimp only at hSw); go_simp; try with_reducible rfl)
  try simp only [Act.put, List.setIfInBounds_toArray, List.set_cons_zero, List.set_cons_succ]
  refine wpAnyL_one (i := 10) rfl (by kernel_rfl) (fun K hK => ?_)
  go_simp
  refine (lawOf_ok 1 1 _ (by decide) (by decide) (by decide) (by decide)).mono ?_
  rintro e z0 ⟨hbz, sn, sA, sk, sc, sm, sB, sj, sd, rfl, hs⟩
  replace hs : Hid (Fz z0 sn sA sk sc sm sB sj sd (1, 1)) := hide (by rw [← of_11]; exact hs.fz)
  replace hb := hb.trans (hbz.mono hb.size)
  clear hbz
  refine hK.out _ _ (fun _ => hS.out _ hb) ?_
  clear hK K
  try simp only [Act.put, List.setIfInBounds_toArray, List.set_cons_zero, List.set_cons_succ]
  refine wpAnyL_one (i := 11) rfl (by kernel_rfl) (fun K hK => ?_)
  go_simp
  refine (rfSame_fz pn0 pm0 sn sm pA0 pB0 sA sB pk0 pc0 pj0 pd0 sk sc sj sd (1, 1) (1, 1) z0 (hp0.out.below hb) hs.out true (by simp)).mono ?_
  rintro e z0b ⟨rfl, hbz⟩
  replace hb := hb.trans (hbz.mono hb.size)
  clear hbz hs
  refine hK.out _ _ (fun _ => hS.out _ hb) ?_
  clear hK K
  try simp only [Act.put, List.setIfInBounds_toArray, List.set_cons_zero, List.set_cons_succ]
  refine wpAnyL_one (i := 12) rfl (by kernel_rfl) (fun K hK => ?_)
  go_simp
  refine hK.out _ _ (fun _ => hS.out _ hb) ?_
  clear hK K
  try simp only [Act.put, List.setIfInBounds_toArray, List.set_cons_zero, List.set_cons_succ]
  refine wpAnyL_one (i := 13) rfl (by kernel_rfl) (fun K hK => ?_)
  go_simp
  refine hK.out _ _ (fun _ => hS.out _ hb) ?_
  clear hK K
  try simp only [Act.put, List.setIfInBounds_toArray, List.set_cons_zero, List.set_cons_succ]
  refine wpAnyL_take (i := 14) (v := ?v4) rfl (by kernel_rfl) (by kernel_rfl) (by kernel_rfl) (by kernel_rfl) (by kernel_rfl) (Or.inl ⟨by rfl, ?hy4⟩) (hS.out _ hb) ?rest4
  case hy4 => (intro W2 hSw; (try dsimp only at hSw); go_simp; try with_reducible rfl)
  try simp only [Act.put, List.setIfInBounds_toArray, List.set_cons_zero, List.set_cons_succ]
  refine wpAnyL_take (i := 15) (v := ?v5) rfl (by kernel_rfl) (by kernel_rfl) (by kernel_rfl) (by kernel_rfl) (by kernel_rfl) (Or.inl ⟨by rfl, ?hy5⟩) (hS.out _ hb) ?rest5
  case hy5 => (intro W2 hSw; (try dsimp only at hSw); go_simp; try with_reducible rfl)
  try simp only [Act.put, List.setIfInBounds_toArray, List.set_cons_zero, List.set_cons_succ]
  refine wpAnyL_one (i := 16) rfl (by kernel_rfl) (fun K hK => ?_)
  go_simp
  refine (lawOf_ok 0 1 _ (by decide) (by decide) (by decide) (by decide)).mono ?_
  rintro e z1 ⟨hbz, sn, sA, sk, sc, sm, sB, sj, sd, rfl, hs⟩
  replace hs : Hid (Fz z1 sn sA sk sc sm sB sj sd (0, 1)) := hide (by rw [← of_01]; exact hs.fz)
  replace hb := hb.trans (hbz.mono hb.size)
  clear hbz
  refine hK.out _ _ (fun _ => hS.out _ hb) ?_
  clear hK K
  try simp only [Act.put, List.setIfInBounds_toArray, List.set_cons_zero, List.set_cons_succ]
  refine wpAnyL_one (i := 17) rfl (by kernel_rfl) (fun K hK => ?_)
  go_simp
  refine (rfSame_fz pn1 pm1 sn sm pA1 pB1 sA sB pk1 pc1 pj1 pd1 sk sc sj sd (0, 1) (0, 1) z1 (hp1.out.below hb) hs.out true (by simp)).mono ?_
  rintro e z1b ⟨rfl, hbz⟩
  replace hb := hb.trans (hbz.mono hb.size)
  clear hbz hs
  refine hK.out _ _ (fun _ => hS.out _ hb) ?_
  clear hK K
  try simp only [Act.put, List.setIfInBounds_toArray, List.set_cons_zero, List.set_cons_succ]
  refine wpAnyL_one (i := 18) rfl (by kernel_rfl) (fun K hK => ?_)
  go_simp
  refine hK.out _ _ (fun _ => hS.out _ hb) ?_
  clear hK K
  try simp only [Act.put, List.setIfInBounds_toArray, List.set_cons_zero, List.set_cons_succ]
  refine wpAnyL_one (i := 19) rfl (by kernel_rfl) (fun K hK => ?_)
  go_simp
  refine hK.out _ _ (fun _ => hS.out _ hb) ?_
  clear hK K
  try simp only [Act.put, List.setIfInBounds_toArray, List.set_cons_zero, List.set_cons_succ]
  refine wpAnyL_take (i := 20) (v := ?v6) rfl (by kernel_rfl) (by kernel_rfl) (by kernel_rfl) (by kernel_rfl) (by kernel_rfl) (Or.inl ⟨by rfl, ?hy6⟩) (hS.out _ hb) ?rest6
  case hy6 => (intro W2 hSw; (try dsimp only at hSw); go_simp; try with_reducible rfl)
  try simp only [Act.put, List.setIfInBounds_toArray, List.set_cons_zero, List.set_cons_succ]
  refine wpAnyL_take (i := 21) (v := ?v7) rfl (by kernel_rfl) (by kernel_rfl) (by kernel_rfl) (by kernel_rfl) (by kernel_rfl) (Or.inl ⟨by rfl, ?hy7⟩) (hS.out _ hb) ?rest7
  case hy7 => (intro W2 hSw; (try dsimp only at hSw); go_simp; try with_reducible rfl)
  try simp only [Act.put, List.setIfInBounds_toArray, List.set_cons_zero, List.set_cons_succ]
  refine wpAnyL_one (i := 22) rfl (by kernel_rfl) (fun K hK => ?_)
  go_simp
  refine (lawOf_ok 1 2 _ (by decide) (by decide) (by decide) (by decide)).mono ?_
  rintro e z2 ⟨hbz, sn, sA, sk, sc, sm, sB, sj, sd, rfl, hs⟩
  replace hs : Hid (Fz z2 sn sA sk sc sm sB sj sd (1, 2)) := hide (by rw [← of_12]; exact hs.fz)
  replace hb := hb.trans (hbz.mono hb.size)
  clear hbz
  refine hK.out _ _ (fun _ => hS.out _ hb) ?_
  clear hK K
  try simp only [Act.put, List.setIfInBounds_toArray, List.set_cons_zero, List.set_cons_succ]
  refine wpAnyL_one (i := 23) rfl (by kernel_rfl) (fun K hK => ?_)
  go_simp
  refine (rfSame_fz pn2 pm2 sn sm pA2 pB2 sA sB pk2 pc2 pj2 pd2 sk sc sj sd (1, 2) (1, 2) z2 (hp2.out.below hb) hs.out true (by simp)).mono ?_
  rintro e z2b ⟨rfl, hbz⟩
  replace hb := hb.trans (hbz.mono hb.size)
  clear hbz hs
  refine hK.out _ _ (fun _ => hS.out _ hb) ?_
  clear hK K
  try simp only [Act.put, List.setIfInBounds_toArray, List.set_cons_zero, List.set_cons_succ]
  refine wpAnyL_one (i := 24) rfl (by kernel_rfl) (fun K hK => ?_)
  go_simp
  refine hK.out _ _ (fun _ => hS.out _ hb) ?_
  clear hK K
  try simp only [Act.put, List.setIfInBounds_toArray, List.set_cons_zero, List.set_cons_succ]
  refine wpAnyL_one (i := 25) rfl (by kernel_rfl) (fun K hK => ?_)
  go_simp
  refine hK.out _ _ (fun _ => hS.out _ hb) ?_
  clear hK K
  try simp only [Act.put, List.setIfInBounds_toArray, List.set_cons_zero, List.set_cons_succ]
  refine wpAnyL_one (i := 26) rfl (by kernel_rfl) (fun K hK => ?_)
  go_simp
  refine hK.out _ _ (fun _ => hS.out _ hb) ?_
  clear hK K
  try simp only [Act.put, List.setIfInBounds_toArray, List.set_cons_zero, List.set_cons_succ]
  refine wpAnyL_one (i := 27) rfl (by kernel_rfl) (fun K hK => ?_)
  go_simp
  refine hK.out _ _ (fun _ => hS.out _ hb) ?_
  clear hK K
  try simp only [Act.put, List.setIfInBounds_toArray, List.set_cons_zero, List.set_cons_succ]
  refine wpAnyL_one (i := 28) rfl (by kernel_rfl) (fun K hK => ?_)
  go_simp
  refine hK.out _ _ (fun _ => hS.out _ hb) ?_
  clear hK K
  try simp only [Act.put, List.setIfInBounds_toArray, List.set_cons_zero, List.set_cons_succ]
  refine wpAnyL_one (i := 29) rfl (by kernel_rfl) (fun K hK => ?_)
  go_simp
  refine hK.out _ _ (fun _ => hS.out _ hb) ?_
  clear hK K
  try simp only [Act.put, List.setIfInBounds_toArray, List.set_cons_zero, List.set_cons_succ]
  refine wpAnyL_take (i := 30) rfl (by kernel_rfl) (by kernel_rfl) (by kernel_rfl) (by kernel_rfl) (by kernel_rfl) (yieldsIf_load_mid (by rfl) 38 _ rfl g3 0 rfl [.bool qn0, .slice qA0 qk0 qc0, .bool qm0, .slice qB0 qj0 qd0, .bool qn1, .slice qA1 qk1 qc1, .bool qm1, .slice qB1 qj1 qd1, .bool qn2, .slice qA2 qk2 qc2, .bool qm2, .slice qB2 qj2 qd2, .bool qn3, .slice qA3 qk3 qc3, .bool qm3, .slice qB3 qj3 qd3] dd (fun wx hw => hw.2.2.2.2.2.2.2.2.2.2.2.2.2.1) hd1 hd2 info_box) (hS.out _ hb) ?_
  try simp only [Act.put, List.setIfInBounds_toArray, List.set_cons_zero, List.set_cons_succ]
  refine wpAnyL_take (i := 31) rfl (by kernel_rfl) (by kernel_rfl) (by kernel_rfl) (by kernel_rfl) (by kernel_rfl) (yieldsIf_load_mid (by rfl) 38 _ rfl g5 0 rfl [.bool rn0, .slice rA0 rk0 rc0, .bool rm0, .slice rB0 rj0 rd0, .bool rn1, .slice rA1 rk1 rc1, .bool rm1, .slice rB1 rj1 rd1, .bool rn2, .slice rA2 rk2 rc2, .bool rm2, .slice rB2 rj2 rd2, .bool rn3, .slice rA3 rk3 rc3, .bool rm3, .slice rB3 rj3 rd3] dd (fun wx hw => hw.2.2.2.2.2.2.2.2.2.2.2.2.2.2) hd1 hd2 info_box) (hS.out _ hb) ?_
  try simp only [Act.put, List.setIfInBounds_toArray, List.set_cons_zero, List.set_cons_succ]
  refine wpAnyL_one (i := 32) rfl (by kernel_rfl) (fun K hK => ?_)
  go_simp
  refine (rsameB_true _ _ (2, 9) (4, 9) (0, 1) (0, 1) _ (hFb.out.below_ hb) (hFc.out.below_ hb)).mono ?_
  rintro e z9 ⟨rfl, hbz⟩
  replace hb := hb.trans (hbz.mono hb.size)
  clear hbz
  refine hK.out _ _ (fun _ => hS.out _ hb) ?_
  clear hK K
  try simp only [Act.put, List.setIfInBounds_toArray, List.set_cons_zero, List.set_cons_succ]
  refine wpAnyL_one (i := 33) rfl (by kernel_rfl) (fun K hK => ?_)
  go_simp
  refine hK.out _ _ (fun _ => hS.out _ hb) ?_
  clear hK K
  try simp only [Act.put, List.setIfInBounds_toArray, List.set_cons_zero, List.set_cons_succ]
  refine wpAnyL_one (i := 34) rfl (by kernel_rfl) (fun K hK => ?_)
  go_simp
  refine hK.out _ _ (fun _ => hS.out _ hb) ?_
  clear hK K
  try simp only [Act.put, List.setIfInBounds_toArray, List.set_cons_zero, List.set_cons_succ]
  refine wpAnyL_done (by kernel_rfl) ?_ _
  refine OnlyNormal.normal ?_
  go_wp2_with fail
  go_ret
  exact ⟨rfl, hB.trans (hb.mono hB.size)⟩
end Go.Proofs.Ytkippclhbkjbmaa
