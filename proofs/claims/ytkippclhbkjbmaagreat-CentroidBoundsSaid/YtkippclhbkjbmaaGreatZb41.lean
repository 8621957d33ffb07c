/- Package centroid: keep, compare, Holds of raw fractions. Reference of centroid: between, of small fractions. -/
import Derived.Test.YtkippclhbkjbmaaGreatZb38
import Derived.Test.YtkippclhbkjbmaaGreatZb40
import Derived.Test.YtkippclhbkjbmaaGreatZb37
import Derived.Test.YtkippclhbkjbmaaGreatZb30
set_option linter.unusedSimpArgs false
set_option linter.unusedVariables false

namespace Go.Proofs.YtkippclhbkjbmaaGreat
open Go.RowKit
attribute [local go_sem] add_lit

/-- A calculator's error has turned; nothing else of what lay has. -/
def StepC (w w' : World) (gc : Nat) (t : TypeId) (e : Int) : Prop := Blk w' gc t #[.int .i64 e] ∧ Below gc w w'

set_option maxRecDepth 100000 in
set_option maxHeartbeats 1000000 in
theorem keep_any (gc : Nat) (t : TypeId) (na nb : Bool) (A B : Option Addr) (n c m d : Nat) (x e0 e1 : Int) (w : World) (hq : Blk w gc t #[.int .i64 e0]) (he : (if e0 = 0 then x else e0) = e1) :
    Calls Tryz.prog 28 #[.pointer (some ⟨gc, 0, none⟩), .agg #[.bool na, .slice A n c, .bool nb, .slice B m d], .int .i64 x] w fun e w' => e = .returned (.agg #[.bool na, .slice A n c, .bool nb, .slice B m d]) ∧ StepC w w' gc t e1 := by
  have hg : gc < w.heap.size := (Array.getElem?_eq_some_iff.1 hq).1
  obtain ⟨W0, hW0, hB, ⟨q0, q9⟩, s0⟩ := alloc2 w 32 #[.bool na, .slice A n c, .bool nb, .slice B m d] 32 #[.bool false, .slice none 0 0, .bool false, .slice none 0 0]
  replace hq := hq.below hB hg
  have c0 := hq.cell 0
  have f0 := hq.frozen 0
  simp at c0
  obtain ⟨a0, a1, a2, a3, -⟩ := q0.four
  obtain ⟨r0, r1, r2, r3, z0, z1, z2, z3⟩ := q9.four
  replace hB : Below gc w W0 := hB.mono (by omega)
  by_cases hz : e0 = 0
  · have t0 : (e0 == 0) = true := by simpa using hz
    obtain rfl : x = e1 := by rw [if_pos hz] at he; exact he
    clear he
    obtain ⟨V1, hV1, hB1, qc, hst⟩ := set_code x hB (Nat.le_refl _) hq
    have q0v := hst.2.1 _ _ _ (by omega) q0
    have q9v := hst.2.1 _ _ _ (by omega) q9
    obtain ⟨b0, b1, b2, b3, -⟩ := q0v.four
    obtain ⟨u0, u1, u2, u3, v0, v1, v2, v3⟩ := q9v.four
    obtain ⟨V, hV, hB2, q9', hst2⟩ := set_frac na A n c nb B m d hB1 (by omega) q9v
    have qcv := hst2.2.1 _ _ _ (by omega) qc
    go_enter Tryz.func28, Tryz.ntmps28
    go_wp2_with fail
    (try rw [hV])
    obtain ⟨r0, r1, r2, r3, -⟩ := q9'.four
    refine bodyPost_ret (v := .agg #[.bool na, .slice A n c, .bool nb, .slice B m d]) (by simp [results, Tryz.results28, go_sem, r0, r1, r2, r3]) rfl ?_
    exact ⟨rfl, qcv, hB2⟩
  · have t0 : (e0 == 0) = false := by simpa using hz
    obtain rfl : e0 = e1 := by rw [if_neg hz] at he; exact he
    clear he
    obtain ⟨V, hV, hB2, q9', hst2⟩ := set_frac na A n c nb B m d hB (by omega) q9
    have qcv := hst2.2.1 _ _ _ (by omega) hq
    go_enter Tryz.func28, Tryz.ntmps28
    go_wp2_with fail
    (try rw [hV])
    obtain ⟨r0, r1, r2, r3, -⟩ := q9'.four
    refine bodyPost_ret (v := .agg #[.bool na, .slice A n c, .bool nb, .slice B m d]) (by simp [results, Tryz.results28, go_sem, r0, r1, r2, r3]) rfl ?_
    exact ⟨rfl, qcv, hB2⟩

set_option maxRecDepth 100000 in
set_option maxHeartbeats 2000000 in
theorem compareR_any (gc : Nat) (t : TypeId) (na nb na' nb' : Bool) (A B A' B' : Option Addr) (n c m d n' c' m' d' : Nat) (la lb la' lb' : List Nat) (w : World) (ha : Lim w A n c la) (hb : Lim w B m d lb) (ha' : Lim w A' n' c' la') (hb' : Lim w B' m' d' lb') (hn : n ≤ 6 ∧ m ≤ 6 ∧ n' ≤ 6 ∧ m' ≤ 6) (x y : Bool) (hx : okF na la nb lb = x) (hy : okF na' la' nb' lb' = y)
    (e0 e1 z : Int) (hq : Blk w gc t #[.int .i64 e0]) (he : (if e0 = 0 then errOf (x && y) else e0) = e1) (hz : cmpR na na' la lb la' lb' (x && y) = z) :
    Calls Tryz.prog 39 #[.pointer (some ⟨gc, 0, none⟩), .agg #[.bool na, .slice A n c, .bool nb, .slice B m d], .agg #[.bool na', .slice A' n' c', .bool nb', .slice B' m' d']] w fun e w' => e = .returned (.int .i64 z) ∧ StepC w w' gc t e1 := by
  have hgc : gc < w.heap.size := (Array.getElem?_eq_some_iff.1 hq).1
  obtain ⟨W0, hW0, hB, ⟨qx, qy⟩, sz⟩ := alloc2 w 32 #[.bool na, .slice A n c, .bool nb, .slice B m d] 32 #[.bool na', .slice A' n' c', .bool nb', .slice B' m' d']
  replace hq := hq.below hB hgc
  replace ha := hide (And.intro (And.intro (ha.below hB) (hb.below hB)) (And.intro (ha'.below hB) (hb'.below hB)))
  clear hb ha' hb'
  obtain ⟨a0, a1, a2, a3, -⟩ := qx.four
  obtain ⟨b0, b1, b2, b3, -⟩ := qy.four
  obtain ⟨E, hE⟩ : ∃ E, errOf (x && y) = E := ⟨_, rfl⟩
  rw [hE] at he
  replace he := hide he
  go_enter Tryz.func39, Tryz.ntmps39
  go_wp2_with fail
  refine (fCmp_any na nb na' nb' A B A' B' n c m d n' c' m' d' la lb la' lb' W0 ha.out.1.1 ha.out.1.2 ha.out.2.1 ha.out.2.2 hn x y hx hy).mono ?_
  rw [hz, hE]
  rintro e w1 ⟨rfl, hb1⟩
  replace hB := hB.trans (hb1.mono hB.size)
  replace hq := keep_blk hb1 hq
  clear a0 a1 a2 a3 b0 b1 b2 b3 hW0 ha hz hE
  go_wp2_with fail
  refine (keep_any gc t false false none none 0 0 0 0 E e0 e1 w1 hq he.out).mono ?_
  rintro e w2 ⟨rfl, hq2, hb2⟩
  replace hB : Below gc w w2 := (hB.mono (by omega)).trans hb2
  go_wp2_with fail
  go_ret
  exact ⟨rfl, hq2, hB⟩

/-- The first error. -/
def accE (cs : List Int) : Nat → Int
  | 0 => 0
  | k + 1 => if accE cs k = 0 then cs[k]?.getD 0 else accE cs k


set_option maxRecDepth 100000 in
set_option maxHeartbeats 4000000 in
theorem holds_any (n0 m0 : Bool) (A0 B0 : Option Addr) (k0 c0 j0 d0 : Nat) (n1 m1 : Bool) (A1 B1 : Option Addr) (k1 c1 j1 d1 : Nat) (n2 m2 : Bool) (A2 B2 : Option Addr) (k2 c2 j2 d2 : Nat) (n3 m3 : Bool) (A3 B3 : Option Addr) (k3 c3 j3 d3 : Nat) (n4 m4 : Bool) (A4 B4 : Option Addr) (k4 c4 j4 d4 : Nat) (n5 m5 : Bool) (A5 B5 : Option Addr) (k5 c5 j5 d5 : Nat) (L0 M0 L1 M1 L2 M2 L3 M3 L4 M4 L5 M5 : List Nat) (x0 x1 x2 x3 x4 x5 : Bool) (w : World) (h0 : Lim w A0 k0 c0 L0) (g0 : Lim w B0 j0 d0 M0) (s0 : k0 ≤ 6 ∧ j0 ≤ 6) (t0 : okF n0 L0 m0 M0 = x0) (h1 : Lim w A1 k1 c1 L1) (g1 : Lim w B1 j1 d1 M1) (s1 : k1 ≤ 6 ∧ j1 ≤ 6) (t1 : okF n1 L1 m1 M1 = x1) (h2 : Lim w A2 k2 c2 L2) (g2 : Lim w B2 j2 d2 M2) (s2 : k2 ≤ 6 ∧ j2 ≤ 6) (t2 : okF n2 L2 m2 M2 = x2) (h3 : Lim w A3 k3 c3 L3) (g3 : Lim w B3 j3 d3 M3) (s3 : k3 ≤ 6 ∧ j3 ≤ 6) (t3 : okF n3 L3 m3 M3 = x3) (h4 : Lim w A4 k4 c4 L4) (g4 : Lim w B4 j4 d4 M4) (s4 : k4 ≤ 6 ∧ j4 ≤ 6) (t4 : okF n4 L4 m4 M4 = x4) (h5 : Lim w A5 k5 c5 L5) (g5 : Lim w B5 j5 d5 M5) (s5 : k5 ≤ 6 ∧ j5 ≤ 6) (t5 : okF n5 L5 m5 M5 = x5) (z0 z1 z2 z3 : Int) (hz0 : cmpR n0 n4 L0 M0 L4 M4 (x0 && x4) = z0) (hz1 : cmpR n4 n1 L4 M4 L1 M1 (x4 && x1) = z1) (hz2 : cmpR n2 n5 L2 M2 L5 M5 (x2 && x5) = z2) (hz3 : cmpR n5 n3 L5 M5 L3 M3 (x5 && x3) = z3) (r : Bool) (E : Int) (hr : accB [decide (z0 ≤ 0), decide (z1 ≤ 0), decide (z2 ≤ 0), decide (z3 ≤ 0)] 4 = r) (hE : accE [errOf (x0 && x4), errOf (x4 && x1), errOf (x2 && x5), errOf (x5 && x3)] 4 = E) :
    Calls Tryz.prog 16 #[.agg #[.bool n0, .slice A0 k0 c0, .bool m0, .slice B0 j0 d0, .bool n1, .slice A1 k1 c1, .bool m1, .slice B1 j1 d1, .bool n2, .slice A2 k2 c2, .bool m2, .slice B2 j2 d2, .bool n3, .slice A3 k3 c3, .bool m3, .slice B3 j3 d3], .agg #[.bool n4, .slice A4 k4 c4, .bool m4, .slice B4 j4 d4], .agg #[.bool n5, .slice A5 k5 c5, .bool m5, .slice B5 j5 d5]] w fun e w' => e = .returned (.tuple #[.bool (if E = 0 then r else false), .int .i64 (if E = 0 then 0 else 8)]) ∧ Below w.heap.size w w' := by
  obtain ⟨W0, hW0, hB, ⟨qb, qx, qy, qc⟩, sz⟩ := alloc4 w 43 #[.bool n0, .slice A0 k0 c0, .bool m0, .slice B0 j0 d0, .bool n1, .slice A1 k1 c1, .bool m1, .slice B1 j1 d1, .bool n2, .slice A2 k2 c2, .bool m2, .slice B2 j2 d2, .bool n3, .slice A3 k3 c3, .bool m3, .slice B3 j3 d3] 32 #[.bool n4, .slice A4 k4 c4, .bool m4, .slice B4 j4 d4] 32 #[.bool n5, .slice A5 k5 c5, .bool m5, .slice B5 j5 d5] 70 #[.int .i64 0]
  obtain ⟨R, hR⟩ : ∃ R, (if E = 0 then r else false) = R := ⟨_, rfl⟩
  obtain ⟨C, hC⟩ : ∃ C : Int, (if E = 0 then 0 else 8) = C := ⟨_, rfl⟩
  rw [hR, hC]
  replace hR := hide hR
  replace hC := hide hC
  have hHH := hide (And.intro (And.intro h0 g0) (And.intro (And.intro h1 g1) (And.intro (And.intro h2 g2) (And.intro (And.intro h3 g3) (And.intro (And.intro h4 g4) (And.intro h5 g5))))))
  clear h0 g0 h1 g1 h2 g2 h3 g3 h4 g4 h5 g5
  have b0 := qb.cell 0
  have b1 := qb.cell 1
  have b2 := qb.cell 2
  have b3 := qb.cell 3
  have b4 := qb.cell 4
  have b5 := qb.cell 5
  have b6 := qb.cell 6
  have b7 := qb.cell 7
  have b8 := qb.cell 8
  have b9 := qb.cell 9
  have b10 := qb.cell 10
  have b11 := qb.cell 11
  have b12 := qb.cell 12
  have b13 := qb.cell 13
  have b14 := qb.cell 14
  have b15 := qb.cell 15
  simp at b0 b1 b2 b3 b4 b5 b6 b7 b8 b9 b10 b11 b12 b13 b14 b15
  obtain ⟨y0, y1, y2, y3, -⟩ := qx.four
  obtain ⟨u0, u1, u2, u3, -⟩ := qy.four
  go_enter Tryz.func16, Tryz.ntmps16
  go_wp2_with fail
  clear hW0 y0 y1 y2 y3 u0 u1 u2 u3 b0 b1 b2 b3 b4 b5 b6 b7 b8 b9 b10 b11 b12 b13 b14 b15
  replace hr := hide hr
  replace hE := hide hE
  replace hz0 := hide hz0
  replace hz1 := hide hz1
  replace hz2 := hide hz2
  replace hz3 := hide hz3
  replace t0 := hide t0
  replace t1 := hide t1
  replace t2 := hide t2
  replace t3 := hide t3
  replace t4 := hide t4
  replace t5 := hide t5
  go_loopw [9, 29] (fun bv iv wr => ∃ i : Nat, i ≤ 4 ∧ iv = .int .i64 i ∧ bv = .bool (accB [decide (z0 ≤ 0), decide (z1 ≤ 0), decide (z2 ≤ 0), decide (z3 ≤ 0)] i) ∧ Below w.heap.size w wr ∧ W0.heap.size ≤ wr.heap.size ∧ Blk wr (w.heap.size + 1 + 1 + 1) 70 #[.int .i64 (accE [errOf (x0 && x4), errOf (x4 && x1), errOf (x2 && x5), errOf (x5 && x3)] i)]) (fun _ iv _ => 4 - (intOf iv).toNat)
  case atStart => exact ⟨0, by omega, rfl, rfl, hB, Nat.le_refl _, qc⟩
  case round =>
    clear hB qc
    obtain ⟨i, hi4, rfl, rfl, hbr, hsr, qcr⟩ := hrel
    rcases i with _ | _ | _ | _ | i
    · have hac : accB [decide (z0 ≤ 0), decide (z1 ≤ 0), decide (z2 ≤ 0), decide (z3 ≤ 0)] 1 = (decide (z0 ≤ 0) && accB [decide (z0 ≤ 0), decide (z1 ≤ 0), decide (z2 ≤ 0), decide (z3 ≤ 0)] 0) := rfl
      have hae : (if accE [errOf (x0 && x4), errOf (x4 && x1), errOf (x2 && x5), errOf (x5 && x3)] 0 = 0 then errOf (x0 && x4) else accE [errOf (x0 && x4), errOf (x4 && x1), errOf (x2 && x5), errOf (x5 && x3)] 0) = accE [errOf (x0 && x4), errOf (x4 && x1), errOf (x2 && x5), errOf (x5 && x3)] 1 := rfl
      (try simp only [Nat.zero_add, Nat.reduceAdd] at qcr)
      (try simp only [Nat.zero_add, Nat.reduceAdd])
      generalize accB [decide (z0 ≤ 0), decide (z1 ≤ 0), decide (z2 ≤ 0), decide (z3 ≤ 0)] 0 = bb at *
      generalize accE [errOf (x0 && x4), errOf (x4 && x1), errOf (x2 && x5), errOf (x5 && x3)] 0 = e0 at *
      obtain ⟨e1, he1⟩ : ∃ e1, accE [errOf (x0 && x4), errOf (x4 && x1), errOf (x2 && x5), errOf (x5 && x3)] 1 = e1 := ⟨_, rfl⟩
      rw [he1] at hae
      replace he1 := hide he1
      obtain ⟨V1, hV1, hB1, q11, hk1, hk1', sV1⟩ := new_obj 84 #[.bool false, .slice none 0 0, .bool false, .slice none 0 0, .bool false, .slice none 0 0, .bool false, .slice none 0 0] hbr (by omega)
      have y0 := q11.cell 0
      have y1 := q11.cell 1
      have y2 := q11.cell 2
      have y3 := q11.cell 3
      have y4 := q11.cell 4
      have y5 := q11.cell 5
      have y6 := q11.cell 6
      have y7 := q11.cell 7
      simp at y0 y1 y2 y3 y4 y5 y6 y7
      have u0 := q11.frozen 0
      have u1 := q11.frozen 1
      have u2 := q11.frozen 2
      have u3 := q11.frozen 3
      have u4 := q11.frozen 4
      have u5 := q11.frozen 5
      have u6 := q11.frozen 6
      have u7 := q11.frozen 7
      obtain ⟨V2, hV2, hB2, q11b, hst⟩ := set_all [.bool n0, .slice A0 k0 c0, .bool m0, .slice B0 j0 d0, .bool n4, .slice A4 k4 c4, .bool m4, .slice B4 j4 d4] [.bool false, .slice none 0 0, .bool false, .slice none 0 0, .bool false, .slice none 0 0, .bool false, .slice none 0 0] rfl rfl rfl hB1 (by omega) q11
      simp only [World.setCells, Nat.reduceAdd, Nat.zero_add] at hV2
      have sV2 := hst.2.2
      have qc2 := hst.2.1 _ _ _ (by have := (Array.getElem?_eq_some_iff.1 qcr).1; omega) (hk1' _ _ _ qcr)
      have f0 := q11b.cell 0
      have f1 := q11b.cell 1
      have f2 := q11b.cell 2
      have f3 := q11b.cell 3
      have f4 := q11b.cell 4
      have f5 := q11b.cell 5
      have f6 := q11b.cell 6
      have f7 := q11b.cell 7
      simp at f0 f1 f2 f3 f4 f5 f6 f7
      replace hae := hide hae
      replace hac := hide hac
      go_wp2_with (refine wpList_index85 rfl _ _ rfl _ 0 rfl rfl (by omega) #[.bool n0, .slice A0 k0 c0, .bool m0, .slice B0 j0 d0, .bool n4, .slice A4 k4 c4, .bool m4, .slice B4 j4 d4] rfl ?_)
      refine (compareR_any (w.heap.size + 1 + 1 + 1) _ n0 m0 n4 m4 A0 B0 A4 B4 k0 c0 j0 d0 k4 c4 j4 d4 L0 M0 L4 M4 V2 (hHH.out.1.1.below hB2) (hHH.out.1.2.below hB2) (hHH.out.2.2.2.2.1.1.below hB2) (hHH.out.2.2.2.2.1.2.below hB2) ⟨s0.1, s0.2, s4.1, s4.2⟩ x0 x4 t0.out t4.out e0 e1 z0 qc2 hae.out hz0.out).mono ?_
      rintro e w5 ⟨rfl, qc5, hb5⟩
      have hb25 := hB2.trans (hb5.mono (by omega))
      have hs5 : W0.heap.size ≤ w5.heap.size := Nat.le_trans (Nat.le_trans hsr (by omega)) hb5.size
      by_cases hc : z0 ≤ 0
      · have hcd : decide (z0 ≤ 0) = true := by simpa using hc
        go_wp2_with fail
        go_round
        case rel => exact ⟨1, by omega, by go_num, by rw [hac.out, hcd]; simp, hb25, hs5, by rw [he1.out]; exact qc5⟩
        case measure => simp [intOf]
      · have hcd : decide (z0 ≤ 0) = false := by simpa using hc
        go_wp2_with fail
        go_round
        case rel => exact ⟨1, by omega, by go_num, by rw [hac.out, hcd]; simp, hb25, hs5, by rw [he1.out]; exact qc5⟩
        case measure => simp [intOf]
    · have hac : accB [decide (z0 ≤ 0), decide (z1 ≤ 0), decide (z2 ≤ 0), decide (z3 ≤ 0)] 2 = (decide (z1 ≤ 0) && accB [decide (z0 ≤ 0), decide (z1 ≤ 0), decide (z2 ≤ 0), decide (z3 ≤ 0)] 1) := rfl
      have hae : (if accE [errOf (x0 && x4), errOf (x4 && x1), errOf (x2 && x5), errOf (x5 && x3)] 1 = 0 then errOf (x4 && x1) else accE [errOf (x0 && x4), errOf (x4 && x1), errOf (x2 && x5), errOf (x5 && x3)] 1) = accE [errOf (x0 && x4), errOf (x4 && x1), errOf (x2 && x5), errOf (x5 && x3)] 2 := rfl
      (try simp only [Nat.zero_add, Nat.reduceAdd] at qcr)
      (try simp only [Nat.zero_add, Nat.reduceAdd])
      generalize accB [decide (z0 ≤ 0), decide (z1 ≤ 0), decide (z2 ≤ 0), decide (z3 ≤ 0)] 1 = bb at *
      generalize accE [errOf (x0 && x4), errOf (x4 && x1), errOf (x2 && x5), errOf (x5 && x3)] 1 = e0 at *
      obtain ⟨e1, he1⟩ : ∃ e1, accE [errOf (x0 && x4), errOf (x4 && x1), errOf (x2 && x5), errOf (x5 && x3)] 2 = e1 := ⟨_, rfl⟩
      rw [he1] at hae
      replace he1 := hide he1
      obtain ⟨V1, hV1, hB1, q11, hk1, hk1', sV1⟩ := new_obj 84 #[.bool false, .slice none 0 0, .bool false, .slice none 0 0, .bool false, .slice none 0 0, .bool false, .slice none 0 0] hbr (by omega)
      have y0 := q11.cell 0
      have y1 := q11.cell 1
      have y2 := q11.cell 2
      have y3 := q11.cell 3
      have y4 := q11.cell 4
      have y5 := q11.cell 5
      have y6 := q11.cell 6
      have y7 := q11.cell 7
      simp at y0 y1 y2 y3 y4 y5 y6 y7
      have u0 := q11.frozen 0
      have u1 := q11.frozen 1
      have u2 := q11.frozen 2
      have u3 := q11.frozen 3
      have u4 := q11.frozen 4
      have u5 := q11.frozen 5
      have u6 := q11.frozen 6
      have u7 := q11.frozen 7
      obtain ⟨V2, hV2, hB2, q11b, hst⟩ := set_all [.bool n4, .slice A4 k4 c4, .bool m4, .slice B4 j4 d4, .bool n1, .slice A1 k1 c1, .bool m1, .slice B1 j1 d1] [.bool false, .slice none 0 0, .bool false, .slice none 0 0, .bool false, .slice none 0 0, .bool false, .slice none 0 0] rfl rfl rfl hB1 (by omega) q11
      simp only [World.setCells, Nat.reduceAdd, Nat.zero_add] at hV2
      have sV2 := hst.2.2
      have qc2 := hst.2.1 _ _ _ (by have := (Array.getElem?_eq_some_iff.1 qcr).1; omega) (hk1' _ _ _ qcr)
      have f0 := q11b.cell 0
      have f1 := q11b.cell 1
      have f2 := q11b.cell 2
      have f3 := q11b.cell 3
      have f4 := q11b.cell 4
      have f5 := q11b.cell 5
      have f6 := q11b.cell 6
      have f7 := q11b.cell 7
      simp at f0 f1 f2 f3 f4 f5 f6 f7
      replace hae := hide hae
      replace hac := hide hac
      go_wp2_with (refine wpList_index85 rfl _ _ rfl _ 1 rfl rfl (by omega) #[.bool n4, .slice A4 k4 c4, .bool m4, .slice B4 j4 d4, .bool n1, .slice A1 k1 c1, .bool m1, .slice B1 j1 d1] rfl ?_)
      refine (compareR_any (w.heap.size + 1 + 1 + 1) _ n4 m4 n1 m1 A4 B4 A1 B1 k4 c4 j4 d4 k1 c1 j1 d1 L4 M4 L1 M1 V2 (hHH.out.2.2.2.2.1.1.below hB2) (hHH.out.2.2.2.2.1.2.below hB2) (hHH.out.2.1.1.below hB2) (hHH.out.2.1.2.below hB2) ⟨s4.1, s4.2, s1.1, s1.2⟩ x4 x1 t4.out t1.out e0 e1 z1 qc2 hae.out hz1.out).mono ?_
      rintro e w5 ⟨rfl, qc5, hb5⟩
      have hb25 := hB2.trans (hb5.mono (by omega))
      have hs5 : W0.heap.size ≤ w5.heap.size := Nat.le_trans (Nat.le_trans hsr (by omega)) hb5.size
      by_cases hc : z1 ≤ 0
      · have hcd : decide (z1 ≤ 0) = true := by simpa using hc
        go_wp2_with fail
        go_round
        case rel => exact ⟨2, by omega, by go_num, by rw [hac.out, hcd]; simp, hb25, hs5, by rw [he1.out]; exact qc5⟩
        case measure => simp [intOf]
      · have hcd : decide (z1 ≤ 0) = false := by simpa using hc
        go_wp2_with fail
        go_round
        case rel => exact ⟨2, by omega, by go_num, by rw [hac.out, hcd]; simp, hb25, hs5, by rw [he1.out]; exact qc5⟩
        case measure => simp [intOf]
    · have hac : accB [decide (z0 ≤ 0), decide (z1 ≤ 0), decide (z2 ≤ 0), decide (z3 ≤ 0)] 3 = (decide (z2 ≤ 0) && accB [decide (z0 ≤ 0), decide (z1 ≤ 0), decide (z2 ≤ 0), decide (z3 ≤ 0)] 2) := rfl
      have hae : (if accE [errOf (x0 && x4), errOf (x4 && x1), errOf (x2 && x5), errOf (x5 && x3)] 2 = 0 then errOf (x2 && x5) else accE [errOf (x0 && x4), errOf (x4 && x1), errOf (x2 && x5), errOf (x5 && x3)] 2) = accE [errOf (x0 && x4), errOf (x4 && x1), errOf (x2 && x5), errOf (x5 && x3)] 3 := rfl
      (try simp only [Nat.zero_add, Nat.reduceAdd] at qcr)
      (try simp only [Nat.zero_add, Nat.reduceAdd])
      generalize accB [decide (z0 ≤ 0), decide (z1 ≤ 0), decide (z2 ≤ 0), decide (z3 ≤ 0)] 2 = bb at *
      generalize accE [errOf (x0 && x4), errOf (x4 && x1), errOf (x2 && x5), errOf (x5 && x3)] 2 = e0 at *
      obtain ⟨e1, he1⟩ : ∃ e1, accE [errOf (x0 && x4), errOf (x4 && x1), errOf (x2 && x5), errOf (x5 && x3)] 3 = e1 := ⟨_, rfl⟩
      rw [he1] at hae
      replace he1 := hide he1
      obtain ⟨V1, hV1, hB1, q11, hk1, hk1', sV1⟩ := new_obj 84 #[.bool false, .slice none 0 0, .bool false, .slice none 0 0, .bool false, .slice none 0 0, .bool false, .slice none 0 0] hbr (by omega)
      have y0 := q11.cell 0
      have y1 := q11.cell 1
      have y2 := q11.cell 2
      have y3 := q11.cell 3
      have y4 := q11.cell 4
      have y5 := q11.cell 5
      have y6 := q11.cell 6
      have y7 := q11.cell 7
      simp at y0 y1 y2 y3 y4 y5 y6 y7
      have u0 := q11.frozen 0
      have u1 := q11.frozen 1
      have u2 := q11.frozen 2
      have u3 := q11.frozen 3
      have u4 := q11.frozen 4
      have u5 := q11.frozen 5
      have u6 := q11.frozen 6
      have u7 := q11.frozen 7
      obtain ⟨V2, hV2, hB2, q11b, hst⟩ := set_all [.bool n2, .slice A2 k2 c2, .bool m2, .slice B2 j2 d2, .bool n5, .slice A5 k5 c5, .bool m5, .slice B5 j5 d5] [.bool false, .slice none 0 0, .bool false, .slice none 0 0, .bool false, .slice none 0 0, .bool false, .slice none 0 0] rfl rfl rfl hB1 (by omega) q11
      simp only [World.setCells, Nat.reduceAdd, Nat.zero_add] at hV2
      have sV2 := hst.2.2
      have qc2 := hst.2.1 _ _ _ (by have := (Array.getElem?_eq_some_iff.1 qcr).1; omega) (hk1' _ _ _ qcr)
      have f0 := q11b.cell 0
      have f1 := q11b.cell 1
      have f2 := q11b.cell 2
      have f3 := q11b.cell 3
      have f4 := q11b.cell 4
      have f5 := q11b.cell 5
      have f6 := q11b.cell 6
      have f7 := q11b.cell 7
      simp at f0 f1 f2 f3 f4 f5 f6 f7
      replace hae := hide hae
      replace hac := hide hac
      go_wp2_with (refine wpList_index85 rfl _ _ rfl _ 2 rfl rfl (by omega) #[.bool n2, .slice A2 k2 c2, .bool m2, .slice B2 j2 d2, .bool n5, .slice A5 k5 c5, .bool m5, .slice B5 j5 d5] rfl ?_)
      refine (compareR_any (w.heap.size + 1 + 1 + 1) _ n2 m2 n5 m5 A2 B2 A5 B5 k2 c2 j2 d2 k5 c5 j5 d5 L2 M2 L5 M5 V2 (hHH.out.2.2.1.1.below hB2) (hHH.out.2.2.1.2.below hB2) (hHH.out.2.2.2.2.2.1.below hB2) (hHH.out.2.2.2.2.2.2.below hB2) ⟨s2.1, s2.2, s5.1, s5.2⟩ x2 x5 t2.out t5.out e0 e1 z2 qc2 hae.out hz2.out).mono ?_
      rintro e w5 ⟨rfl, qc5, hb5⟩
      have hb25 := hB2.trans (hb5.mono (by omega))
      have hs5 : W0.heap.size ≤ w5.heap.size := Nat.le_trans (Nat.le_trans hsr (by omega)) hb5.size
      by_cases hc : z2 ≤ 0
      · have hcd : decide (z2 ≤ 0) = true := by simpa using hc
        go_wp2_with fail
        go_round
        case rel => exact ⟨3, by omega, by go_num, by rw [hac.out, hcd]; simp, hb25, hs5, by rw [he1.out]; exact qc5⟩
        case measure => simp [intOf]
      · have hcd : decide (z2 ≤ 0) = false := by simpa using hc
        go_wp2_with fail
        go_round
        case rel => exact ⟨3, by omega, by go_num, by rw [hac.out, hcd]; simp, hb25, hs5, by rw [he1.out]; exact qc5⟩
        case measure => simp [intOf]
    · have hac : accB [decide (z0 ≤ 0), decide (z1 ≤ 0), decide (z2 ≤ 0), decide (z3 ≤ 0)] 4 = (decide (z3 ≤ 0) && accB [decide (z0 ≤ 0), decide (z1 ≤ 0), decide (z2 ≤ 0), decide (z3 ≤ 0)] 3) := rfl
      have hae : (if accE [errOf (x0 && x4), errOf (x4 && x1), errOf (x2 && x5), errOf (x5 && x3)] 3 = 0 then errOf (x5 && x3) else accE [errOf (x0 && x4), errOf (x4 && x1), errOf (x2 && x5), errOf (x5 && x3)] 3) = accE [errOf (x0 && x4), errOf (x4 && x1), errOf (x2 && x5), errOf (x5 && x3)] 4 := rfl
      (try simp only [Nat.zero_add, Nat.reduceAdd] at qcr)
      (try simp only [Nat.zero_add, Nat.reduceAdd])
      generalize accB [decide (z0 ≤ 0), decide (z1 ≤ 0), decide (z2 ≤ 0), decide (z3 ≤ 0)] 3 = bb at *
      generalize accE [errOf (x0 && x4), errOf (x4 && x1), errOf (x2 && x5), errOf (x5 && x3)] 3 = e0 at *
      obtain ⟨e1, he1⟩ : ∃ e1, accE [errOf (x0 && x4), errOf (x4 && x1), errOf (x2 && x5), errOf (x5 && x3)] 4 = e1 := ⟨_, rfl⟩
      rw [he1] at hae
      replace he1 := hide he1
      obtain ⟨V1, hV1, hB1, q11, hk1, hk1', sV1⟩ := new_obj 84 #[.bool false, .slice none 0 0, .bool false, .slice none 0 0, .bool false, .slice none 0 0, .bool false, .slice none 0 0] hbr (by omega)
      have y0 := q11.cell 0
      have y1 := q11.cell 1
      have y2 := q11.cell 2
      have y3 := q11.cell 3
      have y4 := q11.cell 4
      have y5 := q11.cell 5
      have y6 := q11.cell 6
      have y7 := q11.cell 7
      simp at y0 y1 y2 y3 y4 y5 y6 y7
      have u0 := q11.frozen 0
      have u1 := q11.frozen 1
      have u2 := q11.frozen 2
      have u3 := q11.frozen 3
      have u4 := q11.frozen 4
      have u5 := q11.frozen 5
      have u6 := q11.frozen 6
      have u7 := q11.frozen 7
      obtain ⟨V2, hV2, hB2, q11b, hst⟩ := set_all [.bool n5, .slice A5 k5 c5, .bool m5, .slice B5 j5 d5, .bool n3, .slice A3 k3 c3, .bool m3, .slice B3 j3 d3] [.bool false, .slice none 0 0, .bool false, .slice none 0 0, .bool false, .slice none 0 0, .bool false, .slice none 0 0] rfl rfl rfl hB1 (by omega) q11
      simp only [World.setCells, Nat.reduceAdd, Nat.zero_add] at hV2
      have sV2 := hst.2.2
      have qc2 := hst.2.1 _ _ _ (by have := (Array.getElem?_eq_some_iff.1 qcr).1; omega) (hk1' _ _ _ qcr)
      have f0 := q11b.cell 0
      have f1 := q11b.cell 1
      have f2 := q11b.cell 2
      have f3 := q11b.cell 3
      have f4 := q11b.cell 4
      have f5 := q11b.cell 5
      have f6 := q11b.cell 6
      have f7 := q11b.cell 7
      simp at f0 f1 f2 f3 f4 f5 f6 f7
      replace hae := hide hae
      replace hac := hide hac
      go_wp2_with (refine wpList_index85 rfl _ _ rfl _ 3 rfl rfl (by omega) #[.bool n5, .slice A5 k5 c5, .bool m5, .slice B5 j5 d5, .bool n3, .slice A3 k3 c3, .bool m3, .slice B3 j3 d3] rfl ?_)
      refine (compareR_any (w.heap.size + 1 + 1 + 1) _ n5 m5 n3 m3 A5 B5 A3 B3 k5 c5 j5 d5 k3 c3 j3 d3 L5 M5 L3 M3 V2 (hHH.out.2.2.2.2.2.1.below hB2) (hHH.out.2.2.2.2.2.2.below hB2) (hHH.out.2.2.2.1.1.below hB2) (hHH.out.2.2.2.1.2.below hB2) ⟨s5.1, s5.2, s3.1, s3.2⟩ x5 x3 t5.out t3.out e0 e1 z3 qc2 hae.out hz3.out).mono ?_
      rintro e w5 ⟨rfl, qc5, hb5⟩
      have hb25 := hB2.trans (hb5.mono (by omega))
      have hs5 : W0.heap.size ≤ w5.heap.size := Nat.le_trans (Nat.le_trans hsr (by omega)) hb5.size
      by_cases hc : z3 ≤ 0
      · have hcd : decide (z3 ≤ 0) = true := by simpa using hc
        go_wp2_with fail
        go_round
        case rel => exact ⟨4, by omega, by go_num, by rw [hac.out, hcd]; simp, hb25, hs5, by rw [he1.out]; exact qc5⟩
        case measure => simp [intOf]
      · have hcd : decide (z3 ≤ 0) = false := by simpa using hc
        go_wp2_with fail
        go_round
        case rel => exact ⟨4, by omega, by go_num, by rw [hac.out, hcd]; simp, hb25, hs5, by rw [he1.out]; exact qc5⟩
        case measure => simp [intOf]
    · obtain rfl : i = 0 := by omega
      (try simp only [Nat.zero_add, Nat.reduceAdd] at qcr)
      (try simp only [Nat.zero_add, Nat.reduceAdd])
      rw [hE.out] at qcr
      rw [hr.out]
      have e0 := qcr.cell 0
      simp at e0
      clear hE hr
      by_cases hz : E = 0
      · have tz : (E == 0) = true := by simpa using hz
        have tz2 : (E != 0) = false := by simpa using hz
        obtain rfl : r = R := by rw [← hR.out, if_pos hz]
        obtain rfl : 0 = C := by rw [← hC.out, if_pos hz]
        clear hR hC
        go_wp2_with fail
        go_ret2
        exact ⟨rfl, hbr⟩
      · have tz : (E == 0) = false := by simpa using hz
        have tz2 : (E != 0) = true := by simpa using hz
        obtain rfl : false = R := by rw [← hR.out, if_neg hz]
        obtain rfl : 8 = C := by rw [← hC.out, if_neg hz]
        clear hR hC
        go_wp2_with fail
        go_ret2
        exact ⟨rfl, hbr⟩
end Go.Proofs.YtkippclhbkjbmaaGreat

namespace Go.Proofs.YtkippclhbkjbmaaGreat
open Go.RowKit
attribute [local go_sem] add_lit

set_option maxRecDepth 100000 in
set_option maxHeartbeats 4000000 in
theorem between_ok (na nb nx ny nc nd : Bool) (A B X Y C D : Option Addr) (n c m d xn xc ym yd cn cc dm dd : Nat) (a x b : Rat) (w : World) (ha : Fr w na A n c nb B m d a) (hx : Fr w nx X xn xc ny Y ym yd x) (hb : Fr w nc C cn cc nd D dm dd b) (sa : Sm a) (sx : Sm x) (sb : Sm b) (r : Bool) (hr : (decide (cmpQ a x ≤ 0) && decide (cmpQ x b ≤ 0)) = r) :
    Calls Tryz.prog 40 #[.agg #[.bool na, .slice A n c, .bool nb, .slice B m d], .agg #[.bool nx, .slice X xn xc, .bool ny, .slice Y ym yd], .agg #[.bool nc, .slice C cn cc, .bool nd, .slice D dm dd]] w fun e w' => e = .returned (.tuple #[.bool r, .bool true]) ∧ Below w.heap.size w w' := by
  obtain ⟨W0, hW0, hB, ⟨qa, qx, qb⟩, sz⟩ := alloc3 w 32 #[.bool na, .slice A n c, .bool nb, .slice B m d] 32 #[.bool nx, .slice X xn xc, .bool ny, .slice Y ym yd] 32 #[.bool nc, .slice C cn cc, .bool nd, .slice D dm dd]
  replace ha := hide (ha.below hB)
  replace hx := hide (hx.below hB)
  replace hb := hide (hb.below hB)
  obtain ⟨a0, a1, a2, a3, -⟩ := qa.four
  obtain ⟨x0, x1, x2, x3, -⟩ := qx.four
  obtain ⟨p, hp⟩ : ∃ p, cmpQ a x = p := ⟨_, rfl⟩
  obtain ⟨q, hq⟩ : ∃ q, cmpQ x b = q := ⟨_, rfl⟩
  rw [hp, hq] at hr
  go_enter Tryz.func40, Tryz.ntmps40
  go_wp2_with fail
  refine (rfCmp_ok na nb nx ny A B X Y n c m d xn xc ym yd a x W0 ha.out hx.out sa sx).mono ?_
  rw [hp]
  rintro e w1 ⟨rfl, hb1⟩
  replace hB := hB.trans (hb1.mono hB.size)
  replace qx := keep_blk hb1 qx
  replace qb := keep_blk hb1 qb
  replace hx := hide (hx.out.below hb1)
  replace hb := hide (hb.out.below hb1)
  clear a0 a1 a2 a3 x0 x1 x2 x3 hW0 qa ha
  obtain ⟨x0, x1, x2, x3, -⟩ := qx.four
  obtain ⟨b0, b1, b2, b3, -⟩ := qb.four
  go_wp2_with fail
  refine (rfCmp_ok nx ny nc nd X Y C D xn xc ym yd cn cc dm dd x b w1 hx.out hb.out sx sb).mono ?_
  rw [hq]
  rintro e w2 ⟨rfl, hb2⟩
  replace hB := hB.trans (hb2.mono hB.size)
  clear hp hq
  by_cases h1 : p ≤ 0
  · have t1 : decide (p ≤ 0) = true := by simpa using h1
    by_cases h2 : q ≤ 0
    · have t2 : decide (q ≤ 0) = true := by simpa using h2
      obtain rfl : r = true := by rw [← hr, t1, t2]; rfl
      go_wp2_with fail
      go_ret2
      exact ⟨rfl, hB⟩
    · have t2 : decide (q ≤ 0) = false := by simpa using h2
      obtain rfl : r = false := by rw [← hr, t1, t2]; rfl
      go_wp2_with fail
      go_ret2
      exact ⟨rfl, hB⟩
  · have t1 : decide (p ≤ 0) = false := by simpa using h1
    obtain rfl : r = false := by rw [← hr, t1]; rfl
    go_wp2_with fail
    go_ret2
    exact ⟨rfl, hB⟩
end Go.Proofs.YtkippclhbkjbmaaGreat
