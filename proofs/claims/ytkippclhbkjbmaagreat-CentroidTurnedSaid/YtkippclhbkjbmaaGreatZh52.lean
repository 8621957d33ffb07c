/- Package centroid: Holds of valid fractions. The law's words: great. -/
import Derived.Test.YtkippclhbkjbmaaGreatZh39
import Derived.Test.YtkippclhbkjbmaaGreatZh19
import Derived.Test.YtkippclhbkjbmaaGreatZh33
set_option linter.unusedSimpArgs false
set_option linter.unusedVariables false

namespace Go.Proofs.YtkippclhbkjbmaaGreat
open Go.RowKit
attribute [local go_sem] add_lit

theorem index85 (cs : Array Value) (r : Nat) (w : World) (hr : r < 4) : (Instr.index 85 (.agg cs) (.int .i64 r)).run Tryz.prog w = .ok (.agg (cs.extract (r * 8) (r * 8 + 8))) w := by
  have hu : Tryz.prog.underlying 85 = some (.array 4 84) := by kernel_rfl
  have hs : ∀ w, (sizeOf 84).run Tryz.prog w = .ok 8 w := fun w => by simp [go_sem]
  have ha : ∀ w, (isAgg 84).run Tryz.prog w = .ok true w := fun w => by simp [go_sem]
  unfold Instr.index
  simp only [asIntOf, Sem.run_bind, Sem.run_pure, Result.andThen_ok, run_underlying hu]
  rw [if_pos ⟨by omega, by omega⟩]
  simp only [Sem.run_bind, hs, Result.andThen_ok, part, ha, Int.toNat_natCast]
  simp [hs]
theorem wpList_index85 {ops : Array Oper} {rest : List Oper} {op : Oper} {a : Act} {w : World} {Q : Exit → Act → World → Prop} (hgd : op.guard = none) (x y : Operand) (ho : op.op = .index 85 x y) (cs : Array Value) (r : Nat) (hx : a.eval x = .agg cs) (hy : a.eval y = .int .i64 r) (hr : r < 4) (vs : Array Value) (hv : cs.extract (r * 8) (r * 8 + 8) = vs)
    (h : wpList Tryz.prog ops Q rest (a.put op.dst (.agg vs)) w) : wpList Tryz.prog ops Q (op :: rest) a w :=
  wpList_plain hgd fun _ hK => by
    unfold Oper.wp execOp
    simp only [ho, hx, hy, index85 cs r w hr, Sem.run_bind, Sem.run_pure, Result.andThen_ok, hv]
    exact hK _ _ h

def accB (es : List Bool) : Nat → Bool
  | 0 => true
  | k + 1 => (es[k]?.getD false) && accB es k


set_option maxRecDepth 100000 in
set_option maxHeartbeats 4000000 in
theorem holds_ok (n0 m0 : Bool) (A0 B0 : Option Addr) (k0 c0 j0 d0 : Nat) (n1 m1 : Bool) (A1 B1 : Option Addr) (k1 c1 j1 d1 : Nat) (n2 m2 : Bool) (A2 B2 : Option Addr) (k2 c2 j2 d2 : Nat) (n3 m3 : Bool) (A3 B3 : Option Addr) (k3 c3 j3 d3 : Nat) (n4 m4 : Bool) (A4 B4 : Option Addr) (k4 c4 j4 d4 : Nat) (n5 m5 : Bool) (A5 B5 : Option Addr) (k5 c5 j5 d5 : Nat) (q0 : Rat) (q1 : Rat) (q2 : Rat) (q3 : Rat) (q4 : Rat) (q5 : Rat) (w : World) (h0 : Fr w n0 A0 k0 c0 m0 B0 j0 d0 q0) (s0 : Sm q0) (h1 : Fr w n1 A1 k1 c1 m1 B1 j1 d1 q1) (s1 : Sm q1) (h2 : Fr w n2 A2 k2 c2 m2 B2 j2 d2 q2) (s2 : Sm q2) (h3 : Fr w n3 A3 k3 c3 m3 B3 j3 d3 q3) (s3 : Sm q3) (h4 : Fr w n4 A4 k4 c4 m4 B4 j4 d4 q4) (s4 : Sm q4) (h5 : Fr w n5 A5 k5 c5 m5 B5 j5 d5 q5) (s5 : Sm q5) (r : Bool) (hr : accB [decide (cmpQ q0 q4 ≤ 0), decide (cmpQ q4 q1 ≤ 0), decide (cmpQ q2 q5 ≤ 0), decide (cmpQ q5 q3 ≤ 0)] 4 = r) :
    Calls Tryz.prog 16 #[.agg #[.bool n0, .slice A0 k0 c0, .bool m0, .slice B0 j0 d0, .bool n1, .slice A1 k1 c1, .bool m1, .slice B1 j1 d1, .bool n2, .slice A2 k2 c2, .bool m2, .slice B2 j2 d2, .bool n3, .slice A3 k3 c3, .bool m3, .slice B3 j3 d3], .agg #[.bool n4, .slice A4 k4 c4, .bool m4, .slice B4 j4 d4], .agg #[.bool n5, .slice A5 k5 c5, .bool m5, .slice B5 j5 d5]] w fun e w' => e = .returned (.tuple #[.bool r, .int .i64 0]) ∧ Below w.heap.size w w' := by
  obtain ⟨W0, hW0, hB, ⟨qb, qx, qy, qc⟩, sz⟩ := alloc4 w 43 #[.bool n0, .slice A0 k0 c0, .bool m0, .slice B0 j0 d0, .bool n1, .slice A1 k1 c1, .bool m1, .slice B1 j1 d1, .bool n2, .slice A2 k2 c2, .bool m2, .slice B2 j2 d2, .bool n3, .slice A3 k3 c3, .bool m3, .slice B3 j3 d3] 32 #[.bool n4, .slice A4 k4 c4, .bool m4, .slice B4 j4 d4] 32 #[.bool n5, .slice A5 k5 c5, .bool m5, .slice B5 j5 d5] 70 #[.int .i64 0]
  replace h0 := hide (h0.below hB)
  replace h1 := hide (h1.below hB)
  replace h2 := hide (h2.below hB)
  replace h3 := hide (h3.below hB)
  replace h4 := hide (h4.below hB)
  replace h5 := hide (h5.below hB)
  have b0 := qb.cell 0
  have b1 := qb.cell 1
  have b2 := qb.cell 2
  have b3 := qb.cell 3
  have b4 := qb.cell 4
  have b5 := qb.cell 5
  have b6 := qb.cell 6
  have b7 := qb.cell 7
  have b8 := qb.cell 8
  have b9 := qb.cell 9
  have b10 := qb.cell 10
  have b11 := qb.cell 11
  have b12 := qb.cell 12
  have b13 := qb.cell 13
  have b14 := qb.cell 14
  have b15 := qb.cell 15
  simp at b0 b1 b2 b3 b4 b5 b6 b7 b8 b9 b10 b11 b12 b13 b14 b15
  obtain ⟨x0, x1, x2, x3, -⟩ := qx.four
  obtain ⟨y0, y1, y2, y3, -⟩ := qy.four
  go_enter Tryz.func16, Tryz.ntmps16
  go_wp2_with fail
  clear hW0 x0 x1 x2 x3 y0 y1 y2 y3 b0 b1 b2 b3 b4 b5 b6 b7 b8 b9 b10 b11 b12 b13 b14 b15
  go_loopw [9, 29] (fun bv iv wr => ∃ i : Nat, i ≤ 4 ∧ iv = .int .i64 i ∧ bv = .bool (accB [decide (cmpQ q0 q4 ≤ 0), decide (cmpQ q4 q1 ≤ 0), decide (cmpQ q2 q5 ≤ 0), decide (cmpQ q5 q3 ≤ 0)] i) ∧ Below W0.heap.size W0 wr) (fun _ iv _ => 4 - (intOf iv).toNat)
  case atStart => exact ⟨0, by omega, rfl, rfl, Below.refl _ _⟩
  case round =>
    obtain ⟨i, hi4, rfl, rfl, hbr⟩ := hrel
    have qcr := keep_blk hbr qc
    have hBr := hB.trans (hbr.mono hB.size)
    rcases i with _ | _ | _ | _ | i
    · have hac : accB [decide (cmpQ q0 q4 ≤ 0), decide (cmpQ q4 q1 ≤ 0), decide (cmpQ q2 q5 ≤ 0), decide (cmpQ q5 q3 ≤ 0)] 1 = (decide (cmpQ q0 q4 ≤ 0) && accB [decide (cmpQ q0 q4 ≤ 0), decide (cmpQ q4 q1 ≤ 0), decide (cmpQ q2 q5 ≤ 0), decide (cmpQ q5 q3 ≤ 0)] 0) := rfl
      (try simp only [Nat.zero_add, Nat.reduceAdd])
      generalize accB [decide (cmpQ q0 q4 ≤ 0), decide (cmpQ q4 q1 ≤ 0), decide (cmpQ q2 q5 ≤ 0), decide (cmpQ q5 q3 ≤ 0)] 0 = bb at *
      obtain ⟨z, hz⟩ : ∃ z, cmpQ q0 q4 = z := ⟨_, rfl⟩
      obtain ⟨V1, hV1, hB1, q11, hk1, hk1', sV1⟩ := new_obj 84 #[.bool false, .slice none 0 0, .bool false, .slice none 0 0, .bool false, .slice none 0 0, .bool false, .slice none 0 0] hbr hbr.size
      have y0 := q11.cell 0
      have y1 := q11.cell 1
      have y2 := q11.cell 2
      have y3 := q11.cell 3
      have y4 := q11.cell 4
      have y5 := q11.cell 5
      have y6 := q11.cell 6
      have y7 := q11.cell 7
      simp at y0 y1 y2 y3 y4 y5 y6 y7
      have z0 := q11.frozen 0
      have z1 := q11.frozen 1
      have z2 := q11.frozen 2
      have z3 := q11.frozen 3
      have z4 := q11.frozen 4
      have z5 := q11.frozen 5
      have z6 := q11.frozen 6
      have z7 := q11.frozen 7
      obtain ⟨V2, hV2, hB2, q11b, hst⟩ := set_all [.bool n0, .slice A0 k0 c0, .bool m0, .slice B0 j0 d0, .bool n4, .slice A4 k4 c4, .bool m4, .slice B4 j4 d4] [.bool false, .slice none 0 0, .bool false, .slice none 0 0, .bool false, .slice none 0 0, .bool false, .slice none 0 0] rfl rfl rfl hB1 hbr.size q11
      simp only [World.setCells, Nat.reduceAdd, Nat.zero_add] at hV2
      have qc2 := hst.2.1 _ _ _ (by have := (Array.getElem?_eq_some_iff.1 qcr).1; omega) (hk1' _ _ _ qcr)
      have e0 := q11b.cell 0
      have e1 := q11b.cell 1
      have e2 := q11b.cell 2
      have e3 := q11b.cell 3
      have e4 := q11b.cell 4
      have e5 := q11b.cell 5
      have e6 := q11b.cell 6
      have e7 := q11b.cell 7
      simp at e0 e1 e2 e3 e4 e5 e6 e7
      go_wp2_with (refine wpList_index85 rfl _ _ rfl _ 0 rfl rfl (by omega) #[.bool n0, .slice A0 k0 c0, .bool m0, .slice B0 j0 d0, .bool n4, .slice A4 k4 c4, .bool m4, .slice B4 j4 d4] rfl ?_)
      refine (compare_ok (w.heap.size + 1 + 1 + 1) _ n0 m0 n4 m4 A0 B0 A4 B4 k0 c0 j0 d0 k4 c4 j4 d4 q0 q4 V2 qc2 (h0.out.below hB2) (h4.out.below hB2) s0 s4).mono ?_
      rw [hz]
      rintro e w5 ⟨rfl, hb5⟩
      have hb25 := hB2.trans (hb5.mono hB2.size)
      by_cases hc : z ≤ 0
      · have hcd : decide (z ≤ 0) = true := by simpa using hc
        go_wp2_with fail
        go_round
        case rel => exact ⟨1, by omega, by go_num, by rw [hac, hz, hcd]; simp, hb25⟩
        case measure => simp [intOf]
      · have hcd : decide (z ≤ 0) = false := by simpa using hc
        go_wp2_with fail
        go_round
        case rel => exact ⟨1, by omega, by go_num, by rw [hac, hz, hcd]; simp, hb25⟩
        case measure => simp [intOf]
    · have hac : accB [decide (cmpQ q0 q4 ≤ 0), decide (cmpQ q4 q1 ≤ 0), decide (cmpQ q2 q5 ≤ 0), decide (cmpQ q5 q3 ≤ 0)] 2 = (decide (cmpQ q4 q1 ≤ 0) && accB [decide (cmpQ q0 q4 ≤ 0), decide (cmpQ q4 q1 ≤ 0), decide (cmpQ q2 q5 ≤ 0), decide (cmpQ q5 q3 ≤ 0)] 1) := rfl
      (try simp only [Nat.zero_add, Nat.reduceAdd])
      generalize accB [decide (cmpQ q0 q4 ≤ 0), decide (cmpQ q4 q1 ≤ 0), decide (cmpQ q2 q5 ≤ 0), decide (cmpQ q5 q3 ≤ 0)] 1 = bb at *
      obtain ⟨z, hz⟩ : ∃ z, cmpQ q4 q1 = z := ⟨_, rfl⟩
      obtain ⟨V1, hV1, hB1, q11, hk1, hk1', sV1⟩ := new_obj 84 #[.bool false, .slice none 0 0, .bool false, .slice none 0 0, .bool false, .slice none 0 0, .bool false, .slice none 0 0] hbr hbr.size
      have y0 := q11.cell 0
      have y1 := q11.cell 1
      have y2 := q11.cell 2
      have y3 := q11.cell 3
      have y4 := q11.cell 4
      have y5 := q11.cell 5
      have y6 := q11.cell 6
      have y7 := q11.cell 7
      simp at y0 y1 y2 y3 y4 y5 y6 y7
      have z0 := q11.frozen 0
      have z1 := q11.frozen 1
      have z2 := q11.frozen 2
      have z3 := q11.frozen 3
      have z4 := q11.frozen 4
      have z5 := q11.frozen 5
      have z6 := q11.frozen 6
      have z7 := q11.frozen 7
      obtain ⟨V2, hV2, hB2, q11b, hst⟩ := set_all [.bool n4, .slice A4 k4 c4, .bool m4, .slice B4 j4 d4, .bool n1, .slice A1 k1 c1, .bool m1, .slice B1 j1 d1] [.bool false, .slice none 0 0, .bool false, .slice none 0 0, .bool false, .slice none 0 0, .bool false, .slice none 0 0] rfl rfl rfl hB1 hbr.size q11
      simp only [World.setCells, Nat.reduceAdd, Nat.zero_add] at hV2
      have qc2 := hst.2.1 _ _ _ (by have := (Array.getElem?_eq_some_iff.1 qcr).1; omega) (hk1' _ _ _ qcr)
      have e0 := q11b.cell 0
      have e1 := q11b.cell 1
      have e2 := q11b.cell 2
      have e3 := q11b.cell 3
      have e4 := q11b.cell 4
      have e5 := q11b.cell 5
      have e6 := q11b.cell 6
      have e7 := q11b.cell 7
      simp at e0 e1 e2 e3 e4 e5 e6 e7
      go_wp2_with (refine wpList_index85 rfl _ _ rfl _ 1 rfl rfl (by omega) #[.bool n4, .slice A4 k4 c4, .bool m4, .slice B4 j4 d4, .bool n1, .slice A1 k1 c1, .bool m1, .slice B1 j1 d1] rfl ?_)
      refine (compare_ok (w.heap.size + 1 + 1 + 1) _ n4 m4 n1 m1 A4 B4 A1 B1 k4 c4 j4 d4 k1 c1 j1 d1 q4 q1 V2 qc2 (h4.out.below hB2) (h1.out.below hB2) s4 s1).mono ?_
      rw [hz]
      rintro e w5 ⟨rfl, hb5⟩
      have hb25 := hB2.trans (hb5.mono hB2.size)
      by_cases hc : z ≤ 0
      · have hcd : decide (z ≤ 0) = true := by simpa using hc
        go_wp2_with fail
        go_round
        case rel => exact ⟨2, by omega, by go_num, by rw [hac, hz, hcd]; simp, hb25⟩
        case measure => simp [intOf]
      · have hcd : decide (z ≤ 0) = false := by simpa using hc
        go_wp2_with fail
        go_round
        case rel => exact ⟨2, by omega, by go_num, by rw [hac, hz, hcd]; simp, hb25⟩
        case measure => simp [intOf]
    · have hac : accB [decide (cmpQ q0 q4 ≤ 0), decide (cmpQ q4 q1 ≤ 0), decide (cmpQ q2 q5 ≤ 0), decide (cmpQ q5 q3 ≤ 0)] 3 = (decide (cmpQ q2 q5 ≤ 0) && accB [decide (cmpQ q0 q4 ≤ 0), decide (cmpQ q4 q1 ≤ 0), decide (cmpQ q2 q5 ≤ 0), decide (cmpQ q5 q3 ≤ 0)] 2) := rfl
      (try simp only [Nat.zero_add, Nat.reduceAdd])
      generalize accB [decide (cmpQ q0 q4 ≤ 0), decide (cmpQ q4 q1 ≤ 0), decide (cmpQ q2 q5 ≤ 0), decide (cmpQ q5 q3 ≤ 0)] 2 = bb at *
      obtain ⟨z, hz⟩ : ∃ z, cmpQ q2 q5 = z := ⟨_, rfl⟩
      obtain ⟨V1, hV1, hB1, q11, hk1, hk1', sV1⟩ := new_obj 84 #[.bool false, .slice none 0 0, .bool false, .slice none 0 0, .bool false, .slice none 0 0, .bool false, .slice none 0 0] hbr hbr.size
      have y0 := q11.cell 0
      have y1 := q11.cell 1
      have y2 := q11.cell 2
      have y3 := q11.cell 3
      have y4 := q11.cell 4
      have y5 := q11.cell 5
      have y6 := q11.cell 6
      have y7 := q11.cell 7
      simp at y0 y1 y2 y3 y4 y5 y6 y7
      have z0 := q11.frozen 0
      have z1 := q11.frozen 1
      have z2 := q11.frozen 2
      have z3 := q11.frozen 3
      have z4 := q11.frozen 4
      have z5 := q11.frozen 5
      have z6 := q11.frozen 6
      have z7 := q11.frozen 7
      obtain ⟨V2, hV2, hB2, q11b, hst⟩ := set_all [.bool n2, .slice A2 k2 c2, .bool m2, .slice B2 j2 d2, .bool n5, .slice A5 k5 c5, .bool m5, .slice B5 j5 d5] [.bool false, .slice none 0 0, .bool false, .slice none 0 0, .bool false, .slice none 0 0, .bool false, .slice none 0 0] rfl rfl rfl hB1 hbr.size q11
      simp only [World.setCells, Nat.reduceAdd, Nat.zero_add] at hV2
      have qc2 := hst.2.1 _ _ _ (by have := (Array.getElem?_eq_some_iff.1 qcr).1; omega) (hk1' _ _ _ qcr)
      have e0 := q11b.cell 0
      have e1 := q11b.cell 1
      have e2 := q11b.cell 2
      have e3 := q11b.cell 3
      have e4 := q11b.cell 4
      have e5 := q11b.cell 5
      have e6 := q11b.cell 6
      have e7 := q11b.cell 7
      simp at e0 e1 e2 e3 e4 e5 e6 e7
      go_wp2_with (refine wpList_index85 rfl _ _ rfl _ 2 rfl rfl (by omega) #[.bool n2, .slice A2 k2 c2, .bool m2, .slice B2 j2 d2, .bool n5, .slice A5 k5 c5, .bool m5, .slice B5 j5 d5] rfl ?_)
      refine (compare_ok (w.heap.size + 1 + 1 + 1) _ n2 m2 n5 m5 A2 B2 A5 B5 k2 c2 j2 d2 k5 c5 j5 d5 q2 q5 V2 qc2 (h2.out.below hB2) (h5.out.below hB2) s2 s5).mono ?_
      rw [hz]
      rintro e w5 ⟨rfl, hb5⟩
      have hb25 := hB2.trans (hb5.mono hB2.size)
      by_cases hc : z ≤ 0
      · have hcd : decide (z ≤ 0) = true := by simpa using hc
        go_wp2_with fail
        go_round
        case rel => exact ⟨3, by omega, by go_num, by rw [hac, hz, hcd]; simp, hb25⟩
        case measure => simp [intOf]
      · have hcd : decide (z ≤ 0) = false := by simpa using hc
        go_wp2_with fail
        go_round
        case rel => exact ⟨3, by omega, by go_num, by rw [hac, hz, hcd]; simp, hb25⟩
        case measure => simp [intOf]
    · have hac : accB [decide (cmpQ q0 q4 ≤ 0), decide (cmpQ q4 q1 ≤ 0), decide (cmpQ q2 q5 ≤ 0), decide (cmpQ q5 q3 ≤ 0)] 4 = (decide (cmpQ q5 q3 ≤ 0) && accB [decide (cmpQ q0 q4 ≤ 0), decide (cmpQ q4 q1 ≤ 0), decide (cmpQ q2 q5 ≤ 0), decide (cmpQ q5 q3 ≤ 0)] 3) := rfl
      (try simp only [Nat.zero_add, Nat.reduceAdd])
      generalize accB [decide (cmpQ q0 q4 ≤ 0), decide (cmpQ q4 q1 ≤ 0), decide (cmpQ q2 q5 ≤ 0), decide (cmpQ q5 q3 ≤ 0)] 3 = bb at *
      obtain ⟨z, hz⟩ : ∃ z, cmpQ q5 q3 = z := ⟨_, rfl⟩
      obtain ⟨V1, hV1, hB1, q11, hk1, hk1', sV1⟩ := new_obj 84 #[.bool false, .slice none 0 0, .bool false, .slice none 0 0, .bool false, .slice none 0 0, .bool false, .slice none 0 0] hbr hbr.size
      have y0 := q11.cell 0
      have y1 := q11.cell 1
      have y2 := q11.cell 2
      have y3 := q11.cell 3
      have y4 := q11.cell 4
      have y5 := q11.cell 5
      have y6 := q11.cell 6
      have y7 := q11.cell 7
      simp at y0 y1 y2 y3 y4 y5 y6 y7
      have z0 := q11.frozen 0
      have z1 := q11.frozen 1
      have z2 := q11.frozen 2
      have z3 := q11.frozen 3
      have z4 := q11.frozen 4
      have z5 := q11.frozen 5
      have z6 := q11.frozen 6
      have z7 := q11.frozen 7
      obtain ⟨V2, hV2, hB2, q11b, hst⟩ := set_all [.bool n5, .slice A5 k5 c5, .bool m5, .slice B5 j5 d5, .bool n3, .slice A3 k3 c3, .bool m3, .slice B3 j3 d3] [.bool false, .slice none 0 0, .bool false, .slice none 0 0, .bool false, .slice none 0 0, .bool false, .slice none 0 0] rfl rfl rfl hB1 hbr.size q11
      simp only [World.setCells, Nat.reduceAdd, Nat.zero_add] at hV2
      have qc2 := hst.2.1 _ _ _ (by have := (Array.getElem?_eq_some_iff.1 qcr).1; omega) (hk1' _ _ _ qcr)
      have e0 := q11b.cell 0
      have e1 := q11b.cell 1
      have e2 := q11b.cell 2
      have e3 := q11b.cell 3
      have e4 := q11b.cell 4
      have e5 := q11b.cell 5
      have e6 := q11b.cell 6
      have e7 := q11b.cell 7
      simp at e0 e1 e2 e3 e4 e5 e6 e7
      go_wp2_with (refine wpList_index85 rfl _ _ rfl _ 3 rfl rfl (by omega) #[.bool n5, .slice A5 k5 c5, .bool m5, .slice B5 j5 d5, .bool n3, .slice A3 k3 c3, .bool m3, .slice B3 j3 d3] rfl ?_)
      refine (compare_ok (w.heap.size + 1 + 1 + 1) _ n5 m5 n3 m3 A5 B5 A3 B3 k5 c5 j5 d5 k3 c3 j3 d3 q5 q3 V2 qc2 (h5.out.below hB2) (h3.out.below hB2) s5 s3).mono ?_
      rw [hz]
      rintro e w5 ⟨rfl, hb5⟩
      have hb25 := hB2.trans (hb5.mono hB2.size)
      by_cases hc : z ≤ 0
      · have hcd : decide (z ≤ 0) = true := by simpa using hc
        go_wp2_with fail
        go_round
        case rel => exact ⟨4, by omega, by go_num, by rw [hac, hz, hcd]; simp, hb25⟩
        case measure => simp [intOf]
      · have hcd : decide (z ≤ 0) = false := by simpa using hc
        go_wp2_with fail
        go_round
        case rel => exact ⟨4, by omega, by go_num, by rw [hac, hz, hcd]; simp, hb25⟩
        case measure => simp [intOf]
    · obtain rfl : i = 0 := by omega
      (try simp only [Nat.zero_add, Nat.reduceAdd])
      rw [hr]
      have e0 := qcr.cell 0
      simp at e0
      go_wp2_with fail
      go_ret2
      exact ⟨rfl, hBr⟩
end Go.Proofs.YtkippclhbkjbmaaGreat

namespace Go.Proofs.YtkippclhbkjbmaaGreat
open Go.RowKit
attribute [local go_sem] add_lit

set_option maxRecDepth 100000 in
set_option maxHeartbeats 1000000 in
theorem greatL_ok (W H : Int) (A : Option Addr) (n c : Nat) (B : Option Addr) (m d : Nat) (w : World) (b : Bool) (hb : (decide (100 < (n : Int)) || decide (40 < (m : Int))) = b) :
    Calls Tryz.prog 7 #[.agg #[.int .i64 W, .int .i64 H, .slice A n c], .slice B m d] w fun e w' => e = .returned (.bool b) ∧ Below w.heap.size w w' := by
  obtain ⟨W0, hW0, hB0, q0, s0⟩ := alloc1 w 24 #[.int .i64 W, .int .i64 H, .slice A n c]
  have c0 := q0.cell 0
  have c1 := q0.cell 1
  have c2 := q0.cell 2
  simp at c0 c1 c2
  go_enter Tryz.func7, Tryz.ntmps7
  go_wp2_with fail
  obtain ⟨b1, hb1⟩ : ∃ b1, decide (100 < (n : Int)) = b1 := ⟨_, rfl⟩
  refine (rGreat_ok W H A n c W0 b1 hb1).mono ?_
  rw [hb1] at hb
  rintro e w1 ⟨rfl, hbw⟩
  replace hB0 := hB0.trans (hbw.mono hB0.size)
  clear hb1 c0 c1 c2 hW0
  cases b1
  · simp at hb
    go_wp2_with fail
    go_ret
    exact ⟨by simp [hb], hB0⟩
  · simp at hb
    subst hb
    go_wp2_with fail
    go_ret
    exact ⟨rfl, hB0⟩
end Go.Proofs.YtkippclhbkjbmaaGreat
