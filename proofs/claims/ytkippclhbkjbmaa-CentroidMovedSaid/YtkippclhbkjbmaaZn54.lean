/- Package centroid: Holds of valid fractions. The law's body: CentroidNested returns true. -/
import Derived.Test.YtkippclhbkjbmaaZn42
import Derived.Test.YtkippclhbkjbmaaZn20
import Derived.Test.YtkippclhbkjbmaaZn51
import Derived.Test.YtkippclhbkjbmaaZn53
set_option linter.unusedSimpArgs false
set_option linter.unusedVariables false

namespace Go.Proofs.Ytkippclhbkjbmaa
open Go.RowKit
attribute [local go_sem] add_lit

theorem index85 (cs : Array Value) (r : Nat) (w : World) (hr : r < 4) : (Instr.index 69 (.agg cs) (.int .i64 r)).run Try.prog w = .ok (.agg (cs.extract (r * 8) (r * 8 + 8))) w := by
  have hu : Try.prog.underlying 69 = some (.array 4 68) := by kernel_rfl
  have hs : ∀ w, (sizeOf 68).run Try.prog w = .ok 8 w := fun w => by simp [go_sem]
  have ha : ∀ w, (isAgg 68).run Try.prog w = .ok true w := fun w => by simp [go_sem]
  unfold Instr.index
  simp only [asIntOf, Sem.run_bind, Sem.run_pure, Result.andThen_ok, run_underlying hu]
  rw [if_pos ⟨by omega, by omega⟩]
  simp only [Sem.run_bind, hs, Result.andThen_ok, part, ha, Int.toNat_natCast]
  simp [hs]
theorem wpList_index85 {ops : Array Oper} {rest : List Oper} {op : Oper} {a : Act} {w : World} {Q : Exit → Act → World → Prop} (hgd : op.guard = none) (x y : Operand) (ho : op.op = .index 69 x y) (cs : Array Value) (r : Nat) (hx : a.eval x = .agg cs) (hy : a.eval y = .int .i64 r) (hr : r < 4) (vs : Array Value) (hv : cs.extract (r * 8) (r * 8 + 8) = vs)
    (h : wpList Try.prog ops Q rest (a.put op.dst (.agg vs)) w) : wpList Try.prog ops Q (op :: rest) a w :=
  wpList_plain hgd fun _ hK => by
    unfold Oper.wp execOp
    simp only [ho, hx, hy, index85 cs r w hr, Sem.run_bind, Sem.run_pure, Result.andThen_ok, hv]
    exact hK _ _ h

def accB (es : List Bool) : Nat → Bool
  | 0 => true
  | k + 1 => (es[k]?.getD false) && accB es k


set_option maxRecDepth 100000 in
set_option maxHeartbeats 4000000 in
theorem holds_ok (n0 m0 : Bool) (A0 B0 : Option Addr) (k0 c0 j0 d0 : Nat) (n1 m1 : Bool) (A1 B1 : Option Addr) (k1 c1 j1 d1 : Nat) (n2 m2 : Bool) (A2 B2 : Option Addr) (k2 c2 j2 d2 : Nat) (n3 m3 : Bool) (A3 B3 : Option Addr) (k3 c3 j3 d3 : Nat) (n4 m4 : Bool) (A4 B4 : Option Addr) (k4 c4 j4 d4 : Nat) (n5 m5 : Bool) (A5 B5 : Option Addr) (k5 c5 j5 d5 : Nat) (q0 : Rat) (q1 : Rat) (q2 : Rat) (q3 : Rat) (q4 : Rat) (q5 : Rat) (w : World) (h0 : Fr w n0 A0 k0 c0 m0 B0 j0 d0 q0) (s0 : Sm q0) (h1 : Fr w n1 A1 k1 c1 m1 B1 j1 d1 q1) (s1 : Sm q1) (h2 : Fr w n2 A2 k2 c2 m2 B2 j2 d2 q2) (s2 : Sm q2) (h3 : Fr w n3 A3 k3 c3 m3 B3 j3 d3 q3) (s3 : Sm q3) (h4 : Fr w n4 A4 k4 c4 m4 B4 j4 d4 q4) (s4 : Sm q4) (h5 : Fr w n5 A5 k5 c5 m5 B5 j5 d5 q5) (s5 : Sm q5) (r : Bool) (hr : accB [decide (cmpQ q0 q4 ≤ 0), decide (cmpQ q4 q1 ≤ 0), decide (cmpQ q2 q5 ≤ 0), decide (cmpQ q5 q3 ≤ 0)] 4 = r) :
    Calls Try.prog 10 #[.agg #[.bool n0, .slice A0 k0 c0, .bool m0, .slice B0 j0 d0, .bool n1, .slice A1 k1 c1, .bool m1, .slice B1 j1 d1, .bool n2, .slice A2 k2 c2, .bool m2, .slice B2 j2 d2, .bool n3, .slice A3 k3 c3, .bool m3, .slice B3 j3 d3], .agg #[.bool n4, .slice A4 k4 c4, .bool m4, .slice B4 j4 d4], .agg #[.bool n5, .slice A5 k5 c5, .bool m5, .slice B5 j5 d5]] w fun e w' => e = .returned (.tuple #[.bool r, .int .i64 0]) ∧ Below w.heap.size w w' := by
  obtain ⟨W0, hW0, hB, ⟨qb, qx, qy, qc⟩, sz⟩ := alloc4 w 38 #[.bool n0, .slice A0 k0 c0, .bool m0, .slice B0 j0 d0, .bool n1, .slice A1 k1 c1, .bool m1, .slice B1 j1 d1, .bool n2, .slice A2 k2 c2, .bool m2, .slice B2 j2 d2, .bool n3, .slice A3 k3 c3, .bool m3, .slice B3 j3 d3] 29 #[.bool n4, .slice A4 k4 c4, .bool m4, .slice B4 j4 d4] 29 #[.bool n5, .slice A5 k5 c5, .bool m5, .slice B5 j5 d5] 59 #[.int .i64 0]
  replace h0 := hide (h0.below hB)
  replace h1 := hide (h1.below hB)
  replace h2 := hide (h2.below hB)
  replace h3 := hide (h3.below hB)
  replace h4 := hide (h4.below hB)
  replace h5 := hide (h5.below hB)
  have b0 := qb.cell 0
  have b1 := qb.cell 1
  have b2 := qb.cell 2
  have b3 := qb.cell 3
  have b4 := qb.cell 4
  have b5 := qb.cell 5
  have b6 := qb.cell 6
  have b7 := qb.cell 7
  have b8 := qb.cell 8
  have b9 := qb.cell 9
  have b10 := qb.cell 10
  have b11 := qb.cell 11
  have b12 := qb.cell 12
  have b13 := qb.cell 13
  have b14 := qb.cell 14
  have b15 := qb.cell 15
  simp at b0 b1 b2 b3 b4 b5 b6 b7 b8 b9 b10 b11 b12 b13 b14 b15
  obtain ⟨x0, x1, x2, x3, -⟩ := qx.four
  obtain ⟨y0, y1, y2, y3, -⟩ := qy.four
  go_enter Try.func10, Try.ntmps10
  go_wp2_with fail
  clear hW0 x0 x1 x2 x3 y0 y1 y2 y3 b0 b1 b2 b3 b4 b5 b6 b7 b8 b9 b10 b11 b12 b13 b14 b15
  go_loopw [9, 29] (fun bv iv wr => ∃ i : Nat, i ≤ 4 ∧ iv = .int .i64 i ∧ bv = .bool (accB [decide (cmpQ q0 q4 ≤ 0), decide (cmpQ q4 q1 ≤ 0), decide (cmpQ q2 q5 ≤ 0), decide (cmpQ q5 q3 ≤ 0)] i) ∧ Below W0.heap.size W0 wr) (fun _ iv _ => 4 - (intOf iv).toNat)
  case atStart => exact ⟨0, by omega, rfl, rfl, Below.refl _ _⟩
  case round =>
    obtain ⟨i, hi4, rfl, rfl, hbr⟩ := hrel
    have qcr := keep_blk hbr qc
    have hBr := hB.trans (hbr.mono hB.size)
    rcases i with _ | _ | _ | _ | i
    · have hac : accB [decide (cmpQ q0 q4 ≤ 0), decide (cmpQ q4 q1 ≤ 0), decide (cmpQ q2 q5 ≤ 0), decide (cmpQ q5 q3 ≤ 0)] 1 = (decide (cmpQ q0 q4 ≤ 0) && accB [decide (cmpQ q0 q4 ≤ 0), decide (cmpQ q4 q1 ≤ 0), decide (cmpQ q2 q5 ≤ 0), decide (cmpQ q5 q3 ≤ 0)] 0) := rfl
      (try simp only [Nat.zero_add, Nat.reduceAdd])
      generalize accB [decide (cmpQ q0 q4 ≤ 0), decide (cmpQ q4 q1 ≤ 0), decide (cmpQ q2 q5 ≤ 0), decide (cmpQ q5 q3 ≤ 0)] 0 = bb at *
      obtain ⟨z, hz⟩ : ∃ z, cmpQ q0 q4 = z := ⟨_, rfl⟩
      obtain ⟨V1, hV1, hB1, q11, hk1, hk1', sV1⟩ := new_obj 68 #[.bool false, .slice none 0 0, .bool false, .slice none 0 0, .bool false, .slice none 0 0, .bool false, .slice none 0 0] hbr hbr.size
      have y0 := q11.cell 0
      have y1 := q11.cell 1
      have y2 := q11.cell 2
      have y3 := q11.cell 3
      have y4 := q11.cell 4
      have y5 := q11.cell 5
      have y6 := q11.cell 6
      have y7 := q11.cell 7
      simp at y0 y1 y2 y3 y4 y5 y6 y7
      have z0 := q11.frozen 0
      have z1 := q11.frozen 1
      have z2 := q11.frozen 2
      have z3 := q11.frozen 3
      have z4 := q11.frozen 4
      have z5 := q11.frozen 5
      have z6 := q11.frozen 6
      have z7 := q11.frozen 7
      obtain ⟨V2, hV2, hB2, q11b, hst⟩ := set_all [.bool n0, .slice A0 k0 c0, .bool m0, .slice B0 j0 d0, .bool n4, .slice A4 k4 c4, .bool m4, .slice B4 j4 d4] [.bool false, .slice none 0 0, .bool false, .slice none 0 0, .bool false, .slice none 0 0, .bool false, .slice none 0 0] rfl rfl rfl hB1 hbr.size q11
      simp only [World.setCells, Nat.reduceAdd, Nat.zero_add] at hV2
      have qc2 := hst.2.1 _ _ _ (by have := (Array.getElem?_eq_some_iff.1 qcr).1; omega) (hk1' _ _ _ qcr)
      have e0 := q11b.cell 0
      have e1 := q11b.cell 1
      have e2 := q11b.cell 2
      have e3 := q11b.cell 3
      have e4 := q11b.cell 4
      have e5 := q11b.cell 5
      have e6 := q11b.cell 6
      have e7 := q11b.cell 7
      simp at e0 e1 e2 e3 e4 e5 e6 e7
      go_wp2_with (refine wpList_index85 rfl _ _ rfl _ 0 rfl rfl (by omega) #[.bool n0, .slice A0 k0 c0, .bool m0, .slice B0 j0 d0, .bool n4, .slice A4 k4 c4, .bool m4, .slice B4 j4 d4] rfl ?_)
      refine (compare_ok (w.heap.size + 1 + 1 + 1) _ n0 m0 n4 m4 A0 B0 A4 B4 k0 c0 j0 d0 k4 c4 j4 d4 q0 q4 V2 qc2 (h0.out.below hB2) (h4.out.below hB2) s0 s4).mono ?_
      rw [hz]
      rintro e w5 ⟨rfl, hb5⟩
      have hb25 := hB2.trans (hb5.mono hB2.size)
      by_cases hc : z ≤ 0
      · have hcd : decide (z ≤ 0) = true := by simpa using hc
        go_wp2_with fail
        go_round
        case rel => exact ⟨1, by omega, by go_num, by rw [hac, hz, hcd]; simp, hb25⟩
        case measure => simp [intOf]
      · have hcd : decide (z ≤ 0) = false := by simpa using hc
        go_wp2_with fail
        go_round
        case rel => exact ⟨1, by omega, by go_num, by rw [hac, hz, hcd]; simp, hb25⟩
        case measure => simp [intOf]
    · have hac : accB [decide (cmpQ q0 q4 ≤ 0), decide (cmpQ q4 q1 ≤ 0), decide (cmpQ q2 q5 ≤ 0), decide (cmpQ q5 q3 ≤ 0)] 2 = (decide (cmpQ q4 q1 ≤ 0) && accB [decide (cmpQ q0 q4 ≤ 0), decide (cmpQ q4 q1 ≤ 0), decide (cmpQ q2 q5 ≤ 0), decide (cmpQ q5 q3 ≤ 0)] 1) := rfl
      (try simp only [Nat.zero_add, Nat.reduceAdd])
      generalize accB [decide (cmpQ q0 q4 ≤ 0), decide (cmpQ q4 q1 ≤ 0), decide (cmpQ q2 q5 ≤ 0), decide (cmpQ q5 q3 ≤ 0)] 1 = bb at *
      obtain ⟨z, hz⟩ : ∃ z, cmpQ q4 q1 = z := ⟨_, rfl⟩
      obtain ⟨V1, hV1, hB1, q11, hk1, hk1', sV1⟩ := new_obj 68 #[.bool false, .slice none 0 0, .bool false, .slice none 0 0, .bool false, .slice none 0 0, .bool false, .slice none 0 0] hbr hbr.size
      have y0 := q11.cell 0
      have y1 := q11.cell 1
      have y2 := q11.cell 2
      have y3 := q11.cell 3
      have y4 := q11.cell 4
      have y5 := q11.cell 5
      have y6 := q11.cell 6
      have y7 := q11.cell 7
      simp at y0 y1 y2 y3 y4 y5 y6 y7
      have z0 := q11.frozen 0
      have z1 := q11.frozen 1
      have z2 := q11.frozen 2
      have z3 := q11.frozen 3
      have z4 := q11.frozen 4
      have z5 := q11.frozen 5
      have z6 := q11.frozen 6
      have z7 := q11.frozen 7
      obtain ⟨V2, hV2, hB2, q11b, hst⟩ := set_all [.bool n4, .slice A4 k4 c4, .bool m4, .slice B4 j4 d4, .bool n1, .slice A1 k1 c1, .bool m1, .slice B1 j1 d1] [.bool false, .slice none 0 0, .bool false, .slice none 0 0, .bool false, .slice none 0 0, .bool false, .slice none 0 0] rfl rfl rfl hB1 hbr.size q11
      simp only [World.setCells, Nat.reduceAdd, Nat.zero_add] at hV2
      have qc2 := hst.2.1 _ _ _ (by have := (Array.getElem?_eq_some_iff.1 qcr).1; omega) (hk1' _ _ _ qcr)
      have e0 := q11b.cell 0
      have e1 := q11b.cell 1
      have e2 := q11b.cell 2
      have e3 := q11b.cell 3
      have e4 := q11b.cell 4
      have e5 := q11b.cell 5
      have e6 := q11b.cell 6
      have e7 := q11b.cell 7
      simp at e0 e1 e2 e3 e4 e5 e6 e7
      go_wp2_with (refine wpList_index85 rfl _ _ rfl _ 1 rfl rfl (by omega) #[.bool n4, .slice A4 k4 c4, .bool m4, .slice B4 j4 d4, .bool n1, .slice A1 k1 c1, .bool m1, .slice B1 j1 d1] rfl ?_)
      refine (compare_ok (w.heap.size + 1 + 1 + 1) _ n4 m4 n1 m1 A4 B4 A1 B1 k4 c4 j4 d4 k1 c1 j1 d1 q4 q1 V2 qc2 (h4.out.below hB2) (h1.out.below hB2) s4 s1).mono ?_
      rw [hz]
      rintro e w5 ⟨rfl, hb5⟩
      have hb25 := hB2.trans (hb5.mono hB2.size)
      by_cases hc : z ≤ 0
      · have hcd : decide (z ≤ 0) = true := by simpa using hc
        go_wp2_with fail
        go_round
        case rel => exact ⟨2, by omega, by go_num, by rw [hac, hz, hcd]; simp, hb25⟩
        case measure => simp [intOf]
      · have hcd : decide (z ≤ 0) = false := by simpa using hc
        go_wp2_with fail
        go_round
        case rel => exact ⟨2, by omega, by go_num, by rw [hac, hz, hcd]; simp, hb25⟩
        case measure => simp [intOf]
    · have hac : accB [decide (cmpQ q0 q4 ≤ 0), decide (cmpQ q4 q1 ≤ 0), decide (cmpQ q2 q5 ≤ 0), decide (cmpQ q5 q3 ≤ 0)] 3 = (decide (cmpQ q2 q5 ≤ 0) && accB [decide (cmpQ q0 q4 ≤ 0), decide (cmpQ q4 q1 ≤ 0), decide (cmpQ q2 q5 ≤ 0), decide (cmpQ q5 q3 ≤ 0)] 2) := rfl
      (try simp only [Nat.zero_add, Nat.reduceAdd])
      generalize accB [decide (cmpQ q0 q4 ≤ 0), decide (cmpQ q4 q1 ≤ 0), decide (cmpQ q2 q5 ≤ 0), decide (cmpQ q5 q3 ≤ 0)] 2 = bb at *
      obtain ⟨z, hz⟩ : ∃ z, cmpQ q2 q5 = z := ⟨_, rfl⟩
      obtain ⟨V1, hV1, hB1, q11, hk1, hk1', sV1⟩ := new_obj 68 #[.bool false, .slice none 0 0, .bool false, .slice none 0 0, .bool false, .slice none 0 0, .bool false, .slice none 0 0] hbr hbr.size
      have y0 := q11.cell 0
      have y1 := q11.cell 1
      have y2 := q11.cell 2
      have y3 := q11.cell 3
      have y4 := q11.cell 4
      have y5 := q11.cell 5
      have y6 := q11.cell 6
      have y7 := q11.cell 7
      simp at y0 y1 y2 y3 y4 y5 y6 y7
      have z0 := q11.frozen 0
      have z1 := q11.frozen 1
      have z2 := q11.frozen 2
      have z3 := q11.frozen 3
      have z4 := q11.frozen 4
      have z5 := q11.frozen 5
      have z6 := q11.frozen 6
      have z7 := q11.frozen 7
      obtain ⟨V2, hV2, hB2, q11b, hst⟩ := set_all [.bool n2, .slice A2 k2 c2, .bool m2, .slice B2 j2 d2, .bool n5, .slice A5 k5 c5, .bool m5, .slice B5 j5 d5] [.bool false, .slice none 0 0, .bool false, .slice none 0 0, .bool false, .slice none 0 0, .bool false, .slice none 0 0] rfl rfl rfl hB1 hbr.size q11
      simp only [World.setCells, Nat.reduceAdd, Nat.zero_add] at hV2
      have qc2 := hst.2.1 _ _ _ (by have := (Array.getElem?_eq_some_iff.1 qcr).1; omega) (hk1' _ _ _ qcr)
      have e0 := q11b.cell 0
      have e1 := q11b.cell 1
      have e2 := q11b.cell 2
      have e3 := q11b.cell 3
      have e4 := q11b.cell 4
      have e5 := q11b.cell 5
      have e6 := q11b.cell 6
      have e7 := q11b.cell 7
      simp at e0 e1 e2 e3 e4 e5 e6 e7
      go_wp2_with (refine wpList_index85 rfl _ _ rfl _ 2 rfl rfl (by omega) #[.bool n2, .slice A2 k2 c2, .bool m2, .slice B2 j2 d2, .bool n5, .slice A5 k5 c5, .bool m5, .slice B5 j5 d5] rfl ?_)
      refine (compare_ok (w.heap.size + 1 + 1 + 1) _ n2 m2 n5 m5 A2 B2 A5 B5 k2 c2 j2 d2 k5 c5 j5 d5 q2 q5 V2 qc2 (h2.out.below hB2) (h5.out.below hB2) s2 s5).mono ?_
      rw [hz]
      rintro e w5 ⟨rfl, hb5⟩
      have hb25 := hB2.trans (hb5.mono hB2.size)
      by_cases hc : z ≤ 0
      · have hcd : decide (z ≤ 0) = true := by simpa using hc
        go_wp2_with fail
        go_round
        case rel => exact ⟨3, by omega, by go_num, by rw [hac, hz, hcd]; simp, hb25⟩
        case measure => simp [intOf]
      · have hcd : decide (z ≤ 0) = false := by simpa using hc
        go_wp2_with fail
        go_round
        case rel => exact ⟨3, by omega, by go_num, by rw [hac, hz, hcd]; simp, hb25⟩
        case measure => simp [intOf]
    · have hac : accB [decide (cmpQ q0 q4 ≤ 0), decide (cmpQ q4 q1 ≤ 0), decide (cmpQ q2 q5 ≤ 0), decide (cmpQ q5 q3 ≤ 0)] 4 = (decide (cmpQ q5 q3 ≤ 0) && accB [decide (cmpQ q0 q4 ≤ 0), decide (cmpQ q4 q1 ≤ 0), decide (cmpQ q2 q5 ≤ 0), decide (cmpQ q5 q3 ≤ 0)] 3) := rfl
      (try simp only [Nat.zero_add, Nat.reduceAdd])
      generalize accB [decide (cmpQ q0 q4 ≤ 0), decide (cmpQ q4 q1 ≤ 0), decide (cmpQ q2 q5 ≤ 0), decide (cmpQ q5 q3 ≤ 0)] 3 = bb at *
      obtain ⟨z, hz⟩ : ∃ z, cmpQ q5 q3 = z := ⟨_, rfl⟩
      obtain ⟨V1, hV1, hB1, q11, hk1, hk1', sV1⟩ := new_obj 68 #[.bool false, .slice none 0 0, .bool false, .slice none 0 0, .bool false, .slice none 0 0, .bool false, .slice none 0 0] hbr hbr.size
      have y0 := q11.cell 0
      have y1 := q11.cell 1
      have y2 := q11.cell 2
      have y3 := q11.cell 3
      have y4 := q11.cell 4
      have y5 := q11.cell 5
      have y6 := q11.cell 6
      have y7 := q11.cell 7
      simp at y0 y1 y2 y3 y4 y5 y6 y7
      have z0 := q11.frozen 0
      have z1 := q11.frozen 1
      have z2 := q11.frozen 2
      have z3 := q11.frozen 3
      have z4 := q11.frozen 4
      have z5 := q11.frozen 5
      have z6 := q11.frozen 6
      have z7 := q11.frozen 7
      obtain ⟨V2, hV2, hB2, q11b, hst⟩ := set_all [.bool n5, .slice A5 k5 c5, .bool m5, .slice B5 j5 d5, .bool n3, .slice A3 k3 c3, .bool m3, .slice B3 j3 d3] [.bool false, .slice none 0 0, .bool false, .slice none 0 0, .bool false, .slice none 0 0, .bool false, .slice none 0 0] rfl rfl rfl hB1 hbr.size q11
      simp only [World.setCells, Nat.reduceAdd, Nat.zero_add] at hV2
      have qc2 := hst.2.1 _ _ _ (by have := (Array.getElem?_eq_some_iff.1 qcr).1; omega) (hk1' _ _ _ qcr)
      have e0 := q11b.cell 0
      have e1 := q11b.cell 1
      have e2 := q11b.cell 2
      have e3 := q11b.cell 3
      have e4 := q11b.cell 4
      have e5 := q11b.cell 5
      have e6 := q11b.cell 6
      have e7 := q11b.cell 7
      simp at e0 e1 e2 e3 e4 e5 e6 e7
      go_wp2_with (refine wpList_index85 rfl _ _ rfl _ 3 rfl rfl (by omega) #[.bool n5, .slice A5 k5 c5, .bool m5, .slice B5 j5 d5, .bool n3, .slice A3 k3 c3, .bool m3, .slice B3 j3 d3] rfl ?_)
      refine (compare_ok (w.heap.size + 1 + 1 + 1) _ n5 m5 n3 m3 A5 B5 A3 B3 k5 c5 j5 d5 k3 c3 j3 d3 q5 q3 V2 qc2 (h5.out.below hB2) (h3.out.below hB2) s5 s3).mono ?_
      rw [hz]
      rintro e w5 ⟨rfl, hb5⟩
      have hb25 := hB2.trans (hb5.mono hB2.size)
      by_cases hc : z ≤ 0
      · have hcd : decide (z ≤ 0) = true := by simpa using hc
        go_wp2_with fail
        go_round
        case rel => exact ⟨4, by omega, by go_num, by rw [hac, hz, hcd]; simp, hb25⟩
        case measure => simp [intOf]
      · have hcd : decide (z ≤ 0) = false := by simpa using hc
        go_wp2_with fail
        go_round
        case rel => exact ⟨4, by omega, by go_num, by rw [hac, hz, hcd]; simp, hb25⟩
        case measure => simp [intOf]
    · obtain rfl : i = 0 := by omega
      (try simp only [Nat.zero_add, Nat.reduceAdd])
      rw [hr]
      have e0 := qcr.cell 0
      simp at e0
      go_wp2_with fail
      go_ret2
      exact ⟨rfl, hBr⟩
end Go.Proofs.Ytkippclhbkjbmaa

namespace Go.Proofs.Ytkippclhbkjbmaa
open Go.RowKit
attribute [local go_sem] add_lit

set_option maxRecDepth 100000 in
set_option maxHeartbeats 16000000 in
theorem law_nested (W H : Int) (A : Option Addr) (n c : Nat) (B : Option Addr) (m d : Nat) (ps l : List Int) (off more : Int) (w : World) (hp : LimI w A n c ps) (hl : LimI w B m d l) (iW : I64 W) (iH : I64 H) :
    Calls Try.prog 4 #[.agg #[.int .i64 W, .int .i64 H, .slice A n c], .slice B m d, .int .i64 off, .int .i64 more] w fun e w' => e = .returned (.bool true) ∧ Below w.heap.size w w' := by
  obtain ⟨W0, hW0, hB, q0, s0⟩ := alloc1 w 24 #[.int .i64 W, .int .i64 H, .slice A n c]
  have hlm : l.length = m := hl.lenI
  have hpl : ps.length = n := hp.lenI
  replace hp := hide hp
  replace hl := hide hl
  go_enter Try.func4, Try.ntmps4
  go_wp2_with fail
  refine (alive_ok W0).mono ?_
  rintro e w1 ⟨rfl, hbw⟩
  replace hB := hB.trans (hbw.mono hB.size)
  replace q0 := keep_blk hbw q0
  clear hW0 hbw s0
  have c0 := q0.cell 0
  have c1 := q0.cell 1
  have c2 := q0.cell 2
  simp at c0 c1 c2
  obtain ⟨b, hb⟩ : ∃ b, (!(decide (100 < (n : Int)) || decide (40 < (m : Int))) && decide (startE W H n ps l = 0)) = b := ⟨_, rfl⟩
  go_wp2_with fail
  refine (valid_any W H A n c B m d ps l w1 (hp.out.below hB) (hl.out.below hB) iW iH b hb).mono ?_
  rintro e w2 ⟨rfl, hbw⟩
  replace hB := hB.trans (hbw.mono hB.size)
  replace q0 := keep_blk hbw q0
  clear hbw c0 c1 c2
  cases b
  case false =>
    go_wp2_with fail
    go_ret
    exact ⟨rfl, hB⟩
  simp at hb
  obtain ⟨⟨h9, h8⟩, hE⟩ := hb
  replace h9 : n ≤ 100 := by omega
  replace h8 : m ≤ 40 := by omega
  obtain ⟨hfo, hli⟩ := startE_zero hE
  have hf := fieldOk_size hfo
  have hr := rng_of hfo hli hlm
  have hdis : ∀ i j, i < j → j < m → l[i]?.getD 0 < l[j]?.getD 0 := fun i j hi hj => listed_incr hli i j hi (by omega)
  have hpx : ∀ k, k < m → (pix ps (l[k]?.getD 0)).natAbs ≤ 4294967296 := fun k hk => by
    have h := listed_in hli (k := k) (by omega)
    have h2 := fieldOk_pix hfo h.1 h.2
    omega
  have hm0 : 0 < m := by rw [← hlm]; exact listed_pos hli
  have hn0 : 0 < n := by
    have h := listed_in hli (k := 0) (by omega)
    omega
  have hps : psum ps l = sumK (pix ps) l m := by unfold psum; rw [hlm]
  replace hlm := hide hlm
  replace hpl := hide hpl
  replace hf := hide hf
  replace hr := hide hr
  replace hdis := hide hdis
  replace hpx := hide hpx
  replace hli := hide hli
  replace hfo := hide hfo
  by_cases o1 : off < 0
  · have t_o1 : decide (off < 0) = true := by simpa using o1
    go_wp2_with fail
    go_ret
    exact ⟨rfl, hB⟩
  have t_o1 : decide (off < 0) = false := by simpa using o1
  by_cases o2 : 2147483648 < off
  · have t_o2 : decide (2147483648 < off) = true := by simpa using o2
    go_wp2_with fail
    go_ret
    exact ⟨rfl, hB⟩
  have t_o2 : decide (2147483648 < off) = false := by simpa using o2
  by_cases o3 : more < 0
  · have t_o3 : decide (more < 0) = true := by simpa using o3
    go_wp2_with fail
    go_ret
    exact ⟨rfl, hB⟩
  have t_o3 : decide (more < 0) = false := by simpa using o3
  by_cases o4 : 2147483648 < more
  · have t_o4 : decide (2147483648 < more) = true := by simpa using o4
    go_wp2_with fail
    go_ret
    exact ⟨rfl, hB⟩
  have t_o4 : decide (2147483648 < more) = false := by simpa using o4
  have c0 := q0.cell 0
  have c1 := q0.cell 1
  have c2 := q0.cell 2
  simp at c0 c1 c2
  obtain ⟨E, hEE⟩ : ∃ E, momE' ps l = E := ⟨_, rfl⟩
  obtain ⟨M, hMM⟩ : ∃ M, momM' W ps l = M := ⟨_, rfl⟩
  have hb0 : boundE W H n ps l 0 = E := by
    rw [← hEE]; unfold boundE momE'
    rw [if_pos hE, if_neg (show ¬ ((0 : Int) < 0 ∨ 4294967296 < (0 : Int)) by omega), Int.zero_mul]
  go_wp2_with fail
  refine (moments_any W H A n c B m d ps l w2 (hp.out.below hB) (hl.out.below hB) h8 iW iH hE E M hEE hMM).mono ?_
  rintro e w3 ⟨hb3, csM, rfl, hFm⟩
  clear c0 c1 c2
  replace hB := hB.trans (hb3.mono hB.size)
  replace q0 := keep_blk hb3 q0
  obtain ⟨pn0, pA0, pk0, pc0, pm0, pB0, pj0, pd0, pn1, pA1, pk1, pc1, pm1, pB1, pj1, pd1, pn2, pA2, pk2, pc2, pm2, pB2, pj2, pd2, pn3, pA3, pk3, pc3, pm3, pB3, pj3, pd3, pn4, pA4, pk4, pc4, pm4, pB4, pj4, pd4, rfl, f0, f1, -, -, -⟩ := hFm
  obtain ⟨mx, hmx⟩ : ∃ mx, M.x = mx := ⟨_, rfl⟩
  obtain ⟨my, hmy⟩ : ∃ my, M.y = my := ⟨_, rfl⟩
  rw [hmx] at f0
  rw [hmy] at f1
  replace hmx := hide hmx
  replace hmy := hide hmy
  replace hMM := hide hMM
  replace hEE := hide hEE
  replace hE := hide hE
  replace f0 := hide f0
  replace f1 := hide f1
  generalize M.s = sv
  obtain ⟨V3, hV3, hB3, q6, -, -, -⟩ := new_obj 31 #[.int .i64 0, .bool false, .slice none 0 0, .bool false, .slice none 0 0, .bool false, .slice none 0 0, .bool false, .slice none 0 0, .bool false, .slice none 0 0, .bool false, .slice none 0 0, .bool false, .slice none 0 0, .bool false, .slice none 0 0, .bool false, .slice none 0 0, .bool false, .slice none 0 0] (Below.refl w3.heap.size w3) (Nat.le_refl _)
  obtain ⟨V4, hV4, hB4, qm, -⟩ := set_all [.int .i64 sv, .bool pn0, .slice pA0 pk0 pc0, .bool pm0, .slice pB0 pj0 pd0, .bool pn1, .slice pA1 pk1 pc1, .bool pm1, .slice pB1 pj1 pd1, .bool pn2, .slice pA2 pk2 pc2, .bool pm2, .slice pB2 pj2 pd2, .bool pn3, .slice pA3 pk3 pc3, .bool pm3, .slice pB3 pj3 pd3, .bool pn4, .slice pA4 pk4 pc4, .bool pm4, .slice pB4 pj4 pd4] [.int .i64 0, .bool false, .slice none 0 0, .bool false, .slice none 0 0, .bool false, .slice none 0 0, .bool false, .slice none 0 0, .bool false, .slice none 0 0, .bool false, .slice none 0 0, .bool false, .slice none 0 0, .bool false, .slice none 0 0, .bool false, .slice none 0 0, .bool false, .slice none 0 0] rfl rfl rfl hB3 (Nat.le_refl _) q6
  replace hB := hB.trans (hB4.mono hB.size)
  replace q0 := keep_blk hB4 q0
  replace f0 := hide (f0.out.below hB4)
  replace f1 := hide (f1.out.below hB4)
  have c0 := q0.cell 0
  have c1 := q0.cell 1
  have c2 := q0.cell 2
  simp at c0 c1 c2
  go_wp2_with (refine wpList_store_mid rfl 31 _ _ rfl w3.heap.size 0 #[.int .i64 sv, .bool pn0, .slice pA0 pk0 pc0, .bool pm0, .slice pB0 pj0 pd0, .bool pn1, .slice pA1 pk1 pc1, .bool pm1, .slice pB1 pj1 pd1, .bool pn2, .slice pA2 pk2 pc2, .bool pm2, .slice pB2 pj2 pd2, .bool pn3, .slice pA3 pk3 pc3, .bool pm3, .slice pB3 pj3 pd3, .bool pn4, .slice pA4 pk4 pc4, .bool pm4, .slice pB4 pj4 pd4] rfl rfl (q6.there (by simp)) info_mom (by simp [Value.oneCell']) ?_; rw [hV4])
  refine (bound_one W H A n c B m d ps l 0 V4 (hp.out.below hB) (hl.out.below hB) (by omega) h8 iW iH E hb0).mono ?_
  rintro e w4 ⟨hb4, csA, rfl, hFa⟩
  clear c0 c1 c2 hV3 hV4 hB3 hB4 q6
  generalize w3.heap.size = g10 at *
  replace hB := hB.trans (hb4.mono hB.size)
  replace q0 := keep_blk hb4 q0
  replace qm := keep_blk hb4 qm
  replace f0 := hide (f0.out.below hb4)
  replace f1 := hide (f1.out.below hb4)
  obtain ⟨zn0, zA0, zk0, zc0, zm0, zB0, zj0, zd0, zn1, zA1, zk1, zc1, zm1, zB1, zj1, zd1, zn2, zA2, zk2, zc2, zm2, zB2, zj2, zd2, zn3, zA3, zk3, zc3, zm3, zB3, zj3, zd3, rfl, zf0, zf1, zf2, zf3⟩ := hFa
  replace zf0 := hide zf0
  replace zf1 := hide zf1
  replace zf2 := hide zf2
  replace zf3 := hide zf3
  obtain ⟨V5, hV5, hB5, y5, -, -, -⟩ := new_obj 38 #[.bool false, .slice none 0 0, .bool false, .slice none 0 0, .bool false, .slice none 0 0, .bool false, .slice none 0 0, .bool false, .slice none 0 0, .bool false, .slice none 0 0, .bool false, .slice none 0 0, .bool false, .slice none 0 0] (Below.refl w4.heap.size w4) (Nat.le_refl _)
  obtain ⟨U5, hU5, hC5, z5, -⟩ := set_all [.bool zn0, .slice zA0 zk0 zc0, .bool zm0, .slice zB0 zj0 zd0, .bool zn1, .slice zA1 zk1 zc1, .bool zm1, .slice zB1 zj1 zd1, .bool zn2, .slice zA2 zk2 zc2, .bool zm2, .slice zB2 zj2 zd2, .bool zn3, .slice zA3 zk3 zc3, .bool zm3, .slice zB3 zj3 zd3] [.bool false, .slice none 0 0, .bool false, .slice none 0 0, .bool false, .slice none 0 0, .bool false, .slice none 0 0, .bool false, .slice none 0 0, .bool false, .slice none 0 0, .bool false, .slice none 0 0, .bool false, .slice none 0 0] rfl rfl rfl hB5 (Nat.le_refl _) y5
  replace hB := hB.trans (hC5.mono hB.size)
  replace zf0 := hide (zf0.out.below hC5)
  replace zf1 := hide (zf1.out.below hC5)
  replace zf2 := hide (zf2.out.below hC5)
  replace zf3 := hide (zf3.out.below hC5)
  replace q0 := keep_blk hC5 q0
  replace qm := keep_blk hC5 qm
  replace f0 := hide (f0.out.below hC5)
  replace f1 := hide (f1.out.below hC5)
  obtain ⟨dd, hd1, hd2⟩ := und_box
  by_cases hz : E = 0
  case neg =>
    have h18 : E = 18 := by
      have h := hEE.out
      unfold momE' at h
      split at h
      · exact h.symm
      · exact absurd h.symm hz
    subst h18
    clear f0 f1 zf0 zf1 zf2 zf3
    go_wp2_with (refine wpList_store_mid rfl 38 _ _ rfl w4.heap.size 0 #[.bool zn0, .slice zA0 zk0 zc0, .bool zm0, .slice zB0 zj0 zd0, .bool zn1, .slice zA1 zk1 zc1, .bool zm1, .slice zB1 zj1 zd1, .bool zn2, .slice zA2 zk2 zc2, .bool zm2, .slice zB2 zj2 zd2, .bool zn3, .slice zA3 zk3 zc3, .bool zm3, .slice zB3 zj3 zd3] rfl rfl (y5.there (by simp)) info_box (by simp [Value.oneCell']) ?_; rw [hU5])
    go_ret
    exact ⟨rfl, hB⟩
  subst hz
  have hps : 0 < psum ps l := by
    have h := hEE.out
    unfold momE' at h
    split at h
    · cases h
    · omega
  have hMv : M = momOf W ps l := by rw [← hMM.out]; unfold momM'; rw [if_neg (by omega)]
  have hx2 : mx = prQ (mean1 (colv W) ps l) := by rw [← hmx.out, hMv]; rfl
  have hy2 : my = prQ (mean1 (rowv W) ps l) := by rw [← hmy.out, hMv]; rfl
  rw [(least_zero (colv W) ps l).1, pz_zero, ← hx2] at zf0
  rw [(least_zero (colv W) ps l).2, pz_zero, ← hx2] at zf1
  rw [(least_zero (rowv W) ps l).1, pz_zero, ← hy2] at zf2
  rw [(least_zero (rowv W) ps l).2, pz_zero, ← hy2] at zf3
  replace hx2 := hide hx2
  replace hy2 := hide hy2
  replace hMv := hide hMv
  replace hps := hide hps
  have a1 := qm.cell 1
  have a2 := qm.cell 2
  have a3 := qm.cell 3
  have a4 := qm.cell 4
  have a5 := qm.cell 5
  have a6 := qm.cell 6
  have a7 := qm.cell 7
  have a8 := qm.cell 8
  simp at a1 a2 a3 a4 a5 a6 a7 a8
  have c0 := q0.cell 0
  have c1 := q0.cell 1
  have c2 := q0.cell 2
  simp at c0 c1 c2
  go_wp2_with (first | (refine wpList_store_mid rfl 38 _ _ rfl w4.heap.size 0 #[.bool zn0, .slice zA0 zk0 zc0, .bool zm0, .slice zB0 zj0 zd0, .bool zn1, .slice zA1 zk1 zc1, .bool zm1, .slice zB1 zj1 zd1, .bool zn2, .slice zA2 zk2 zc2, .bool zm2, .slice zB2 zj2 zd2, .bool zn3, .slice zA3 zk3 zc3, .bool zm3, .slice zB3 zj3 zd3] rfl rfl (y5.there (by simp)) info_box (by simp [Value.oneCell']) ?_; rw [hU5]) | (refine wpList_load_mid rfl 38 _ rfl w4.heap.size 0 rfl [.bool zn0, .slice zA0 zk0 zc0, .bool zm0, .slice zB0 zj0 zd0, .bool zn1, .slice zA1 zk1 zc1, .bool zm1, .slice zB1 zj1 zd1, .bool zn2, .slice zA2 zk2 zc2, .bool zm2, .slice zB2 zj2 zd2, .bool zn3, .slice zA3 zk3 zc3, .bool zm3, .slice zB3 zj3 zd3] dd (z5.rangeAt [] (rest := []) rfl) hd1 hd2 info_box ?_))
  refine (rsameB_true _ _ mx mx my my U5 ⟨_, _, _, _, _, _, _, _, _, _, _, _, _, _, _, _, _, _, _, _, _, _, _, _, _, _, _, _, _, _, _, _, rfl, zf0.out, zf1.out, zf2.out, zf3.out⟩ ⟨_, _, _, _, _, _, _, _, _, _, _, _, _, _, _, _, _, _, _, _, _, _, _, _, _, _, _, _, _, _, _, _, rfl, f0.out, f0.out, f1.out, f1.out⟩).mono ?_
  rintro e w6 ⟨rfl, hb6⟩
  clear hV5 hU5 hB5 hC5 y5 z5 f0 f1 zf0 zf1 zf2 zf3 qm a1 a2 a3 a4 a5 a6 a7 a8 c0 c1 c2 hb0
  replace hB := hB.trans (hb6.mono hB.size)
  replace q0 := keep_blk hb6 q0
  have c0 := q0.cell 0
  have c1 := q0.cell 1
  have c2 := q0.cell 2
  simp at c0 c1 c2
  obtain ⟨E1, hE1⟩ : ∃ E1, boundE W H n ps l off = E1 := ⟨_, rfl⟩
  have hE1' : E1 = if psum ps l ≤ off * l.length then 18 else 0 := by
    rw [← hE1]; unfold boundE
    rw [if_pos hE.out, if_neg (by omega)]
  go_wp2_with fail
  refine (bound_one W H A n c B m d ps l off w6 (hp.out.below hB) (hl.out.below hB) (by omega) h8 iW iH E1 hE1).mono ?_
  rintro e w7 ⟨hb7, csB, rfl, hFa⟩
  clear c0 c1 c2
  replace hE1 := hide hE1
  replace hE1' := hide hE1'
  replace hB := hB.trans (hb7.mono hB.size)
  replace q0 := keep_blk hb7 q0
  obtain ⟨an0, aA0, ak0, ac0, am0, aB0, aj0, ad0, an1, aA1, ak1, ac1, am1, aB1, aj1, ad1, an2, aA2, ak2, ac2, am2, aB2, aj2, ad2, an3, aA3, ak3, ac3, am3, aB3, aj3, ad3, rfl, af0, af1, af2, af3⟩ := hFa
  replace af0 := hide af0
  replace af1 := hide af1
  replace af2 := hide af2
  replace af3 := hide af3
  obtain ⟨V8, hV8, hB8, y8, -, -, -⟩ := new_obj 38 #[.bool false, .slice none 0 0, .bool false, .slice none 0 0, .bool false, .slice none 0 0, .bool false, .slice none 0 0, .bool false, .slice none 0 0, .bool false, .slice none 0 0, .bool false, .slice none 0 0, .bool false, .slice none 0 0] (Below.refl w7.heap.size w7) (Nat.le_refl _)
  obtain ⟨U8, hU8, hC8, z8, -⟩ := set_all [.bool an0, .slice aA0 ak0 ac0, .bool am0, .slice aB0 aj0 ad0, .bool an1, .slice aA1 ak1 ac1, .bool am1, .slice aB1 aj1 ad1, .bool an2, .slice aA2 ak2 ac2, .bool am2, .slice aB2 aj2 ad2, .bool an3, .slice aA3 ak3 ac3, .bool am3, .slice aB3 aj3 ad3] [.bool false, .slice none 0 0, .bool false, .slice none 0 0, .bool false, .slice none 0 0, .bool false, .slice none 0 0, .bool false, .slice none 0 0, .bool false, .slice none 0 0, .bool false, .slice none 0 0, .bool false, .slice none 0 0] rfl rfl rfl hB8 (Nat.le_refl _) y8
  replace hB := hB.trans (hC8.mono hB.size)
  replace af0 := hide (af0.out.below hC8)
  replace af1 := hide (af1.out.below hC8)
  replace af2 := hide (af2.out.below hC8)
  replace af3 := hide (af3.out.below hC8)
  replace q0 := keep_blk hC8 q0
  have c0 := q0.cell 0
  have c1 := q0.cell 1
  have c2 := q0.cell 2
  simp at c0 c1 c2
  obtain ⟨of2, hof2⟩ : ∃ o, off + more = o := ⟨_, rfl⟩
  have hof3 : 0 ≤ of2 ∧ of2 ≤ 4294967296 ∧ off ≤ of2 := by omega
  have hwr : IntKind.i64.wrap (off + more) = of2 := by rw [hof2, IntKind.wrap_i64]; omega
  have hwr2 : wrap64 (off + more) = of2 := by rw [hof2]; unfold wrap64; omega
  replace hof2 := hide hof2
  replace hof3 := hide hof3
  obtain ⟨E2, hE2⟩ : ∃ E2, boundE W H n ps l of2 = E2 := ⟨_, rfl⟩
  have hE2' : E2 = if psum ps l ≤ of2 * l.length then 18 else 0 := by
    rw [← hE2]; unfold boundE
    have := hof3.out
    rw [if_pos hE.out, if_neg (by omega)]
  replace hE2' := hide hE2'
  go_wp2_with (refine wpList_store_mid rfl 38 _ _ rfl w7.heap.size 0 #[.bool an0, .slice aA0 ak0 ac0, .bool am0, .slice aB0 aj0 ad0, .bool an1, .slice aA1 ak1 ac1, .bool am1, .slice aB1 aj1 ad1, .bool an2, .slice aA2 ak2 ac2, .bool am2, .slice aB2 aj2 ad2, .bool an3, .slice aA3 ak3 ac3, .bool am3, .slice aB3 aj3 ad3] rfl rfl (y8.there (by simp)) info_box (by simp [Value.oneCell']) ?_; rw [hU8])
  refine (bound_one W H A n c B m d ps l of2 U8 (hp.out.below hB) (hl.out.below hB) (by omega) h8 iW iH E2 hE2).mono ?_
  rintro e w9 ⟨hb9, csC, rfl, hFa⟩
  clear c0 c1 c2 hV8 hU8 hB8 hC8 y8 hwr hwr2
  generalize w7.heap.size = g14 at *
  replace hE2 := hide hE2
  replace hB := hB.trans (hb9.mono hB.size)
  replace z8 := keep_blk hb9 z8
  replace af0 := hide (af0.out.below hb9)
  replace af1 := hide (af1.out.below hb9)
  replace af2 := hide (af2.out.below hb9)
  replace af3 := hide (af3.out.below hb9)
  obtain ⟨bn0, bA0, bk0, bc0, bm0, bB0, bj0, bd0, bn1, bA1, bk1, bc1, bm1, bB1, bj1, bd1, bn2, bA2, bk2, bc2, bm2, bB2, bj2, bd2, bn3, bA3, bk3, bc3, bm3, bB3, bj3, bd3, rfl, bf0, bf1, bf2, bf3⟩ := hFa
  replace bf0 := hide bf0
  replace bf1 := hide bf1
  replace bf2 := hide bf2
  replace bf3 := hide bf3
  obtain ⟨V10, hV10, hB10, y10, -, -, -⟩ := new_obj 38 #[.bool false, .slice none 0 0, .bool false, .slice none 0 0, .bool false, .slice none 0 0, .bool false, .slice none 0 0, .bool false, .slice none 0 0, .bool false, .slice none 0 0, .bool false, .slice none 0 0, .bool false, .slice none 0 0] (Below.refl w9.heap.size w9) (Nat.le_refl _)
  obtain ⟨U10, hU10, hC10, z10, -⟩ := set_all [.bool bn0, .slice bA0 bk0 bc0, .bool bm0, .slice bB0 bj0 bd0, .bool bn1, .slice bA1 bk1 bc1, .bool bm1, .slice bB1 bj1 bd1, .bool bn2, .slice bA2 bk2 bc2, .bool bm2, .slice bB2 bj2 bd2, .bool bn3, .slice bA3 bk3 bc3, .bool bm3, .slice bB3 bj3 bd3] [.bool false, .slice none 0 0, .bool false, .slice none 0 0, .bool false, .slice none 0 0, .bool false, .slice none 0 0, .bool false, .slice none 0 0, .bool false, .slice none 0 0, .bool false, .slice none 0 0, .bool false, .slice none 0 0] rfl rfl rfl hB10 (Nat.le_refl _) y10
  replace hB := hB.trans (hC10.mono hB.size)
  replace bf0 := hide (bf0.out.below hC10)
  replace bf1 := hide (bf1.out.below hC10)
  replace bf2 := hide (bf2.out.below hC10)
  replace bf3 := hide (bf3.out.below hC10)
  replace z8 := keep_blk hC10 z8
  replace af0 := hide (af0.out.below hC10)
  replace af1 := hide (af1.out.below hC10)
  replace af2 := hide (af2.out.below hC10)
  replace af3 := hide (af3.out.below hC10)
  by_cases s1 : psum ps l ≤ off * l.length
  · have s2 : psum ps l ≤ of2 * l.length := by
      have h := hof3.out
      have := Int.mul_le_mul_of_nonneg_right h.2.2 (show (0 : Int) ≤ (l.length : Int) by omega)
      omega
    have e1 := hE1'.out
    have e2 := hE2'.out
    rw [if_pos s1] at e1
    rw [if_pos s2] at e2
    subst e1 e2
    go_wp2_with (refine wpList_store_mid rfl 38 _ _ rfl w9.heap.size 0 #[.bool bn0, .slice bA0 bk0 bc0, .bool bm0, .slice bB0 bj0 bd0, .bool bn1, .slice bA1 bk1 bc1, .bool bm1, .slice bB1 bj1 bd1, .bool bn2, .slice bA2 bk2 bc2, .bool bm2, .slice bB2 bj2 bd2, .bool bn3, .slice bA3 bk3 bc3, .bool bm3, .slice bB3 bj3 bd3] rfl rfl (y10.there (by simp)) info_box (by simp [Value.oneCell']) ?_; rw [hU10])
    go_ret
    exact ⟨rfl, hB⟩
  have e1 := hE1'.out
  rw [if_neg s1] at e1
  subst e1
  by_cases s2 : psum ps l ≤ of2 * l.length
  · have e2 := hE2'.out
    rw [if_pos s2] at e2
    subst e2
    go_wp2_with (refine wpList_store_mid rfl 38 _ _ rfl w9.heap.size 0 #[.bool bn0, .slice bA0 bk0 bc0, .bool bm0, .slice bB0 bj0 bd0, .bool bn1, .slice bA1 bk1 bc1, .bool bm1, .slice bB1 bj1 bd1, .bool bn2, .slice bA2 bk2 bc2, .bool bm2, .slice bB2 bj2 bd2, .bool bn3, .slice bA3 bk3 bc3, .bool bm3, .slice bB3 bj3 bd3] rfl rfl (y10.there (by simp)) info_box (by simp [Value.oneCell']) ?_; rw [hU10])
    go_ret
    exact ⟨rfl, hB⟩
  have e2 := hE2'.out
  rw [if_neg s2] at e2
  subst e2
  rw [hlm.out] at s1 s2
  have hN := fun (row : Bool) hu => nest_one (row := row) (W := W) (off := off) (off2 := of2) hlm.out hpl.out hr.out hdis.out hu h8 (by omega) hof3.out.2.2 hof3.out.2.1 (by omega) (by omega)
  have hX := hN false (fun j hj => colv_bound hf.out (hr.out j hj).1 (hr.out j hj).2.1)
  have hY := hN true (fun j hj => rowv_bound hf.out (hr.out j hj).1 (hr.out j hj).2.1)
  rw [show plc false W = colv W from rfl] at hX
  rw [show plc true W = rowv W from rfl] at hY
  clear hN
  rw [pz_zero] at af0
  rw [pz_zero] at bf0
  rw [pz_zero] at af1
  rw [pz_zero] at bf1
  rw [pz_zero] at af2
  rw [pz_zero] at bf2
  rw [pz_zero] at af3
  rw [pz_zero] at bf3
  replace af0 : Hid (Fr U10 an0 aA0 ak0 ac0 am0 aB0 aj0 ad0 (leastQ (colv W) ps l off)) := hide af0.out
  replace af1 : Hid (Fr U10 an1 aA1 ak1 ac1 am1 aB1 aj1 ad1 (mostQ (colv W) ps l off)) := hide af1.out
  replace af2 : Hid (Fr U10 an2 aA2 ak2 ac2 am2 aB2 aj2 ad2 (leastQ (rowv W) ps l off)) := hide af2.out
  replace af3 : Hid (Fr U10 an3 aA3 ak3 ac3 am3 aB3 aj3 ad3 (mostQ (rowv W) ps l off)) := hide af3.out
  replace bf0 : Hid (Fr U10 bn0 bA0 bk0 bc0 bm0 bB0 bj0 bd0 (leastQ (colv W) ps l of2)) := hide bf0.out
  replace bf1 : Hid (Fr U10 bn1 bA1 bk1 bc1 bm1 bB1 bj1 bd1 (mostQ (colv W) ps l of2)) := hide bf1.out
  replace bf2 : Hid (Fr U10 bn2 bA2 bk2 bc2 bm2 bB2 bj2 bd2 (leastQ (rowv W) ps l of2)) := hide bf2.out
  replace bf3 : Hid (Fr U10 bn3 bA3 bk3 bc3 bm3 bB3 bj3 bd3 (mostQ (rowv W) ps l of2)) := hide bf3.out
  generalize leastQ (colv W) ps l off = ra0 at *
  generalize mostQ (colv W) ps l off = ra1 at *
  generalize leastQ (rowv W) ps l off = ra2 at *
  generalize mostQ (rowv W) ps l off = ra3 at *
  generalize leastQ (colv W) ps l of2 = rb0 at *
  generalize mostQ (colv W) ps l of2 = rb1 at *
  generalize leastQ (rowv W) ps l of2 = rb2 at *
  generalize mostQ (rowv W) ps l of2 = rb3 at *
  obtain ⟨⟨sa0, sa1, sb0, sb1⟩, ⟨x1, x2⟩, x3, x4⟩ := hX
  obtain ⟨⟨sa2, sa3, sb2, sb3⟩, ⟨x5, x6⟩, x7, x8⟩ := hY
  have hc : Hid (accB [decide (cmpQ rb0 ra0 ≤ 0), decide (cmpQ ra0 rb1 ≤ 0), decide (cmpQ rb2 ra2 ≤ 0), decide (cmpQ ra2 rb3 ≤ 0)] 4 = true ∧ accB [decide (cmpQ rb0 ra1 ≤ 0), decide (cmpQ ra1 rb1 ≤ 0), decide (cmpQ rb2 ra3 ≤ 0), decide (cmpQ ra3 rb3 ≤ 0)] 4 = true) := hide ⟨by simp [accB, cmpQ_le, x1, x2, x5, x6], by simp [accB, cmpQ_le, x3, x4, x7, x8]⟩
  clear x1 x2 x3 x4 x5 x6 x7 x8
  have a0 := z8.cell 0
  have a1 := z8.cell 1
  have a2 := z8.cell 2
  have a3 := z8.cell 3
  have a4 := z8.cell 4
  have a5 := z8.cell 5
  have a6 := z8.cell 6
  have a7 := z8.cell 7
  have a8 := z8.cell 8
  have a9 := z8.cell 9
  have a10 := z8.cell 10
  have a11 := z8.cell 11
  have a12 := z8.cell 12
  have a13 := z8.cell 13
  have a14 := z8.cell 14
  have a15 := z8.cell 15
  simp at a0 a1 a2 a3 a4 a5 a6 a7 a8 a9 a10 a11 a12 a13 a14 a15
  go_wp2_with (first | (refine wpList_store_mid rfl 38 _ _ rfl w9.heap.size 0 #[.bool bn0, .slice bA0 bk0 bc0, .bool bm0, .slice bB0 bj0 bd0, .bool bn1, .slice bA1 bk1 bc1, .bool bm1, .slice bB1 bj1 bd1, .bool bn2, .slice bA2 bk2 bc2, .bool bm2, .slice bB2 bj2 bd2, .bool bn3, .slice bA3 bk3 bc3, .bool bm3, .slice bB3 bj3 bd3] rfl rfl (y10.there (by simp)) info_box (by simp [Value.oneCell']) ?_; rw [hU10]) | (refine wpList_load_mid rfl 38 _ rfl w9.heap.size 0 rfl [.bool bn0, .slice bA0 bk0 bc0, .bool bm0, .slice bB0 bj0 bd0, .bool bn1, .slice bA1 bk1 bc1, .bool bm1, .slice bB1 bj1 bd1, .bool bn2, .slice bA2 bk2 bc2, .bool bm2, .slice bB2 bj2 bd2, .bool bn3, .slice bA3 bk3 bc3, .bool bm3, .slice bB3 bj3 bd3] dd (z10.rangeAt [] (rest := []) rfl) hd1 hd2 info_box ?_))
  refine (holds_ok bn0 bm0 bA0 bB0 bk0 bc0 bj0 bd0 bn1 bm1 bA1 bB1 bk1 bc1 bj1 bd1 bn2 bm2 bA2 bB2 bk2 bc2 bj2 bd2 bn3 bm3 bA3 bB3 bk3 bc3 bj3 bd3 an0 am0 aA0 aB0 ak0 ac0 aj0 ad0 an2 am2 aA2 aB2 ak2 ac2 aj2 ad2 rb0 rb1 rb2 rb3 ra0 ra2 U10 bf0.out sb0 bf1.out sb1 bf2.out sb2 bf3.out sb3 af0.out sa0 af2.out sa2 true hc.out.1).mono ?_
  rintro e w11 ⟨rfl, hb11⟩
  clear hV10 hU10 hB10 hC10 y10 a0 a1 a2 a3 a4 a5 a6 a7 a8 a9 a10 a11 a12 a13 a14 a15
  generalize w9.heap.size = g16 at *
  replace hB := hB.trans (hb11.mono hB.size)
  replace z8 := keep_blk hb11 z8
  replace z10 := keep_blk hb11 z10
  replace af1 := hide (af1.out.below hb11)
  replace af3 := hide (af3.out.below hb11)
  replace bf0 := hide (bf0.out.below hb11)
  replace bf1 := hide (bf1.out.below hb11)
  replace bf2 := hide (bf2.out.below hb11)
  replace bf3 := hide (bf3.out.below hb11)
  have a0 := z8.cell 0
  have a1 := z8.cell 1
  have a2 := z8.cell 2
  have a3 := z8.cell 3
  have a4 := z8.cell 4
  have a5 := z8.cell 5
  have a6 := z8.cell 6
  have a7 := z8.cell 7
  have a8 := z8.cell 8
  have a9 := z8.cell 9
  have a10 := z8.cell 10
  have a11 := z8.cell 11
  have a12 := z8.cell 12
  have a13 := z8.cell 13
  have a14 := z8.cell 14
  have a15 := z8.cell 15
  simp at a0 a1 a2 a3 a4 a5 a6 a7 a8 a9 a10 a11 a12 a13 a14 a15
  go_wp2_with (refine wpList_load_mid rfl 38 _ rfl g16 0 rfl [.bool bn0, .slice bA0 bk0 bc0, .bool bm0, .slice bB0 bj0 bd0, .bool bn1, .slice bA1 bk1 bc1, .bool bm1, .slice bB1 bj1 bd1, .bool bn2, .slice bA2 bk2 bc2, .bool bm2, .slice bB2 bj2 bd2, .bool bn3, .slice bA3 bk3 bc3, .bool bm3, .slice bB3 bj3 bd3] dd (z10.rangeAt [] (rest := []) rfl) hd1 hd2 info_box ?_)
  refine (holds_ok bn0 bm0 bA0 bB0 bk0 bc0 bj0 bd0 bn1 bm1 bA1 bB1 bk1 bc1 bj1 bd1 bn2 bm2 bA2 bB2 bk2 bc2 bj2 bd2 bn3 bm3 bA3 bB3 bk3 bc3 bj3 bd3 an1 am1 aA1 aB1 ak1 ac1 aj1 ad1 an3 am3 aA3 aB3 ak3 ac3 aj3 ad3 rb0 rb1 rb2 rb3 ra1 ra3 w11 bf0.out sb0 bf1.out sb1 bf2.out sb2 bf3.out sb3 af1.out sa1 af3.out sa3 true hc.out.2).mono ?_
  rintro e w12 ⟨rfl, hb12⟩
  replace hB := hB.trans (hb12.mono hB.size)
  go_wp2_with fail
  go_ret
  exact ⟨rfl, hB⟩
end Go.Proofs.Ytkippclhbkjbmaa
