/- Reference of frac: Cmp of small fractions. Package frac: Cmp of small fractions. Package centroid: compare, first. -/
import Derived.Test.YtkippclhbkjbmaaGreatZh34
import Derived.Test.YtkippclhbkjbmaaGreatZh29
import Derived.Test.YtkippclhbkjbmaaGreatZh32
import Derived.Test.YtkippclhbkjbmaaGreatZh36
import Derived.Test.YtkippclhbkjbmaaGreatZh38
set_option linter.unusedSimpArgs false
set_option linter.unusedVariables false

namespace Go.Proofs.YtkippclhbkjbmaaGreat
open Go.RowKit
attribute [local go_sem] add_lit

def cmpQ (a b : Rat) : Int := if a < b then -1 else if b < a then 1 else 0
theorem cmpZ_rat (a b : Rat) : cmpZ (a.num * b.den) (b.num * a.den) = cmpQ a b := by
  unfold cmpZ cmpQ
  simp only [Rat.lt_iff]

set_option maxRecDepth 100000 in
set_option maxHeartbeats 1000000 in
theorem rfCmp_ok (na nb na' nb' : Bool) (A B A' B' : Option Addr) (n c m d n' c' m' d' : Nat) (a b : Rat) (w : World) (ha : Fr w na A n c nb B m d a) (hb : Fr w na' A' n' c' nb' B' m' d' b) (sa : Sm a) (sb : Sm b) :
    Calls Tryz.prog 65 #[.agg #[.bool na, .slice A n c, .bool nb, .slice B m d], .agg #[.bool na', .slice A' n' c', .bool nb', .slice B' m' d']] w fun e w' => e = .returned (.tuple #[.int .i64 (cmpQ a b), .int .i64 0]) ∧ Below w.heap.size w w' := by
  rw [← cmpZ_rat]
  have h1 := hide (sm_mul' sa.1 sb.dn)
  have h2 := hide (sm_mul' sb.1 sa.dn)
  obtain ⟨W0, hW0, hB0, ⟨q0, q1⟩, s0⟩ := alloc2 w 32 #[.bool na, .slice A n c, .bool nb, .slice B m d] 32 #[.bool na', .slice A' n' c', .bool nb', .slice B' m' d']
  have hA := hide (ha.below hB0)
  have hD := hide (hb.below hB0)
  clear ha hb sa sb
  generalize hX : a.num * ((b.den : Nat) : Int) = X at *
  generalize hY : b.num * ((a.den : Nat) : Int) = Y at *
  replace hX := hide hX
  replace hY := hide hY
  obtain ⟨a0, a1, a2, a3, -⟩ := q0.four
  obtain ⟨b0, b1, b2, b3, -⟩ := q1.four
  have hq := hide (And.intro q0 q1)
  clear q0 q1
  go_enter Tryz.func65, Tryz.ntmps65
  go_wp2_with fail
  refine (rfBoth_ok na nb na' nb' A B A' B' n c m d n' c' m' d' a b W0 hA.out hD.out).mono ?_
  rintro e w1 ⟨rfl, hb1⟩
  have hB1 : Below w.heap.size w w1 := hB0.trans (hb1.mono hB0.size)
  replace hA := hide (hA.out.below hb1)
  replace hD := hide (hD.out.below hb1)
  obtain ⟨q0, q1⟩ := hq.out
  replace q0 := keep_blk hb1 q0
  replace q1 := keep_blk hb1 q1
  clear hW0 hb1 a0 a1 a2 a3 b0 b1 b2 b3 hq hB0
  obtain ⟨a0, a1, a2, a3, -⟩ := q0.four
  obtain ⟨b0, b1, b2, b3, -⟩ := q1.four
  have hq := hide (And.intro q0 q1)
  clear q0 q1
  go_wp2_with fail
  have hM := rMul_ok na nb' A B' n c m' d' a.num b.den w1 hA.out.1 hD.out.2
  rw [hX.out] at hM
  refine hM.mono ?_
  clear hM
  rintro e w2 ⟨hb2, n1, P1, k1, c1, code, rfl, hR⟩
  have hP1 := hide (hR.small h1.out)
  have hcode := hR.code0 h1.out
  subst hcode
  have hC2 : Below w.heap.size w w2 := hB1.trans (hb2.mono hB1.size)
  replace hA := hide (hA.out.below hb2)
  replace hD := hide (hD.out.below hb2)
  obtain ⟨q0, q1⟩ := hq.out
  replace q0 := keep_blk hb2 q0
  replace q1 := keep_blk hb2 q1
  clear hb2 a0 a1 a2 a3 b0 b1 b2 b3 hq hB1 hR h1 hX
  obtain ⟨W2, hW2, hB2, r1, kW, kB, t2⟩ := new_obj 30 #[.bool n1, .slice P1 k1 c1] hC2 hC2.size
  replace q0 := kB _ _ _ q0
  replace q1 := kB _ _ _ q1
  replace hA := hide (hA.out.keep kW)
  replace hD := hide (hD.out.keep kW)
  replace hP1 := hide (kW _ _ _ _ _ hP1.out)
  clear kW kB hC2
  obtain ⟨a0, a1, a2, a3, -⟩ := q0.four
  obtain ⟨b0, b1, b2, b3, -⟩ := q1.four
  clear q0 q1
  replace r1 := hide r1
  go_wp2_with fail
  have hM := rMul_ok na' nb A' B n' c' m d b.num a.den W2 hD.out.1 hA.out.2
  rw [hY.out] at hM
  refine hM.mono ?_
  clear hM
  rintro e w3 ⟨hb3, n2, P2, k2, c2, code, rfl, hR⟩
  have hP2 := hide (hR.small h2.out)
  have hcode := hR.code0 h2.out
  subst hcode
  have hC3 : Below w.heap.size w w3 := hB2.trans (hb3.mono hB2.size)
  replace r1 := keep_blk hb3 r1.out
  replace hP1 := hide (hP1.out.below hb3)
  clear hb3 a0 a1 a2 a3 b0 b1 b2 b3 hB2 hR h2 hY hA hD hW2
  obtain ⟨W3, hW3, hB3, r2, kW, kB, t3⟩ := new_obj 30 #[.bool n2, .slice P2 k2 c2] hC3 hC3.size
  replace r1 := kB _ _ _ r1
  replace hP1 := hide (kW _ _ _ _ _ hP1.out)
  replace hP2 := hide (kW _ _ _ _ _ hP2.out)
  clear kW kB hC3
  obtain ⟨x0, x1, -⟩ := r1.two
  obtain ⟨y0, y1, -⟩ := r2.two
  clear r1 r2
  go_wp2_with fail
  refine (rCompared_ok n1 n2 P1 P2 k1 c1 k2 c2 X Y W3 hP1.out hP2.out).mono ?_
  rintro e w4 ⟨rfl, hb4⟩
  have hB4 : Below w.heap.size w w4 := hB3.trans (hb4.mono hB3.size)
  go_wp2_with fail
  go_ret2
  exact ⟨rfl, hB4⟩
end Go.Proofs.YtkippclhbkjbmaaGreat

namespace Go.Proofs.YtkippclhbkjbmaaGreat
open Go.RowKit
attribute [local go_sem] add_lit

set_option maxRecDepth 100000 in
set_option maxHeartbeats 2000000 in
theorem fCmp_ok (na nb na' nb' : Bool) (A B A' B' : Option Addr) (n c m d n' c' m' d' : Nat) (a b : Rat) (w : World) (ha : Fr w na A n c nb B m d a) (hb : Fr w na' A' n' c' nb' B' m' d' b) (sa : Sm a) (sb : Sm b) :
    Calls Tryz.prog 66 #[.agg #[.bool na, .slice A n c, .bool nb, .slice B m d], .agg #[.bool na', .slice A' n' c', .bool nb', .slice B' m' d']] w fun e w' => e = .returned (.tuple #[.int .i64 (cmpQ a b), .int .i64 0]) ∧ Below w.heap.size w w' := by
  rw [← cmpZ_rat]
  obtain ⟨R, hR⟩ : ∃ R, cmpZ (a.num * b.den) (b.num * a.den) = R := ⟨_, rfl⟩
  rw [hR]
  replace hR := hide hR
  have hmx : Tryz.prog.follows .mixedOrders = true := by kernel_rfl
  have h1 := hide (sm_mul' sa.1 sb.dn)
  have h2 := hide (sm_mul' sb.1 sa.dn)
  obtain ⟨W0, hW0, hB0, ⟨q0, q1, q2⟩, s0⟩ := alloc3 w 32 #[.bool na, .slice A n c, .bool nb, .slice B m d] 32 #[.bool na', .slice A' n' c', .bool nb', .slice B' m' d'] 35 #[.int .i64 0]
  have hA := hide (ha.below hB0)
  have hD := hide (hb.below hB0)
  clear ha hb sa sb
  obtain ⟨a0, a1, a2, a3, -⟩ := q0.four
  have hq := hide (And.intro q0 (And.intro q1 q2))
  clear q0 q1 q2
  go_enter_defers Tryz.func66, Tryz.ntmps66
  go_wp2_with fail
  refine (fCheck_ok na nb A B n c m d a W0 hA.out).mono ?_
  rintro e w1 ⟨rfl, hb1⟩
  have hB1 : Below w.heap.size w w1 := hB0.trans (hb1.mono hB0.size)
  have s1 : W0.heap.size ≤ w1.heap.size := hb1.size
  replace hA := hide (hA.out.below hb1)
  replace hD := hide (hD.out.below hb1)
  obtain ⟨q0, q1, q2⟩ := hq.out
  replace q0 := keep_blk hb1 q0
  replace q1 := keep_blk hb1 q1
  replace q2 := keep_blk hb1 q2
  clear hW0 hq hb1 hB0 a0 a1 a2 a3
  obtain ⟨b0, b1, b2, b3, -⟩ := q1.four
  have hq := hide (And.intro q0 (And.intro q1 q2))
  clear q0 q1 q2
  go_wp2_with fail
  refine (want_ok w1).mono ?_
  rintro e w1 ⟨rfl, rfl⟩
  go_wp2_with fail
  refine (fCheck_ok na' nb' A' B' n' c' m' d' b w1 hD.out).mono ?_
  rintro e w2 ⟨rfl, hb2⟩
  have hB := hide (hB1.trans (hb2.mono hB1.size))
  have sz := hide hB.out.size
  have s2 : w1.heap.size ≤ w2.heap.size := hb2.size
  replace hA := hide (hA.out.below hb2)
  replace hD := hide (hD.out.below hb2)
  obtain ⟨q0, q1, q2⟩ := hq.out
  replace q0 := hide (keep_blk hb2 q0)
  replace q1 := hide (keep_blk hb2 q1)
  replace q2 := hide (keep_blk hb2 q2)
  clear hq hb2 hB1 b0 b1 b2 b3
  go_wp2_with fail
  refine (want_ok w2).mono ?_
  rintro e w2 ⟨rfl, rfl⟩
  obtain ⟨a0, a1, a2, a3, -⟩ := q0.out.four
  obtain ⟨b0, b1, b2, b3, -⟩ := q1.out.four
  go_wp2_with fail
  refine wp_held [10] (fun W' => W'.cell? ⟨w.heap.size, 0, none⟩ = some (.bool na) ∧ W'.cell? ⟨w.heap.size, 1, none⟩ = some (.slice A n c) ∧ W'.cell? ⟨w.heap.size, 2, none⟩ = some (.bool nb) ∧ W'.cell? ⟨w.heap.size, 3, none⟩ = some (.slice B m d) ∧ W'.cell? ⟨w.heap.size + 1, 0, none⟩ = some (.bool na') ∧ W'.cell? ⟨w.heap.size + 1, 1, none⟩ = some (.slice A' n' c') ∧ W'.cell? ⟨w.heap.size + 1, 2, none⟩ = some (.bool nb') ∧ W'.cell? ⟨w.heap.size + 1, 3, none⟩ = some (.slice B' m' d')) hmx ⟨a0, a1, a2, a3, b0, b1, b2, b3⟩ (fun _ => ?_)
  refine wpAnyL_take (i := 0) (v := ?v1) rfl (by kernel_rfl) (by kernel_rfl) (by kernel_rfl) (by kernel_rfl) (by kernel_rfl) (Or.inl ⟨by rfl, ?hy1⟩) ⟨a0, a1, a2, a3, b0, b1, b2, b3⟩ ?rest1
  case hy1 => (intro W2 hSw; (try dsimp only at hSw); go_simp; try with_reducible rfl)
  try simp only [Act.put, List.setIfInBounds_toArray, List.set_cons_zero, List.set_cons_succ]
  refine wpAnyL_take (i := 1) (v := ?v2) rfl (by kernel_rfl) (by kernel_rfl) (by kernel_rfl) (by kernel_rfl) (by kernel_rfl) (Or.inl ⟨by rfl, ?hy2⟩) ⟨a0, a1, a2, a3, b0, b1, b2, b3⟩ ?rest2
  case hy2 => (intro W2 hSw; (try dsimp only at hSw); go_simp; try with_reducible rfl)
  try simp only [Act.put, List.setIfInBounds_toArray, List.set_cons_zero, List.set_cons_succ]
  refine wpAnyL_take (i := 3) (v := ?v3) rfl (by kernel_rfl) (by kernel_rfl) (by kernel_rfl) (by kernel_rfl) (by kernel_rfl) (Or.inl ⟨by rfl, ?hy3⟩) ⟨a0, a1, a2, a3, b0, b1, b2, b3⟩ ?rest3
  case hy3 => (intro W2 hSw; (try dsimp only at hSw); go_simp; try with_reducible rfl)
  try simp only [Act.put, List.setIfInBounds_toArray, List.set_cons_zero, List.set_cons_succ]
  refine wpAnyL_take (i := 4) (v := ?v4) rfl (by kernel_rfl) (by kernel_rfl) (by kernel_rfl) (by kernel_rfl) (by kernel_rfl) (Or.inl ⟨by rfl, ?hy4⟩) ⟨a0, a1, a2, a3, b0, b1, b2, b3⟩ ?rest4
  case hy4 => (intro W2 hSw; (try dsimp only at hSw); go_simp; try with_reducible rfl)
  try simp only [Act.put, List.setIfInBounds_toArray, List.set_cons_zero, List.set_cons_succ]
  refine wpAnyL_one (i := 2) rfl (by kernel_rfl) (fun K hK => ?_)
  go_simp
  refine (cross_ok na nb na' nb' A B A' B' n c m d n' c' m' d' a b w2.drew hA.out hD.out h1.out).mono ?_
  rintro e w3 ⟨hb3, nu, U, k1, u, rfl, hU⟩
  replace hb3 := below_drewL hb3
  replace hU := hide hU
  replace q0 := hide (keep_blk hb3 q0.out)
  replace q1 := hide (keep_blk hb3 q1.out)
  replace q2 := hide (keep_blk hb3 q2.out)
  replace hA := hide (hA.out.below hb3)
  replace hD := hide (hD.out.below hb3)
  replace hB := hide (hB.out.trans (hb3.mono sz.out))
  replace sz := hide (Nat.le_trans sz.out hb3.size)
  clear a0 a1 a2 a3 b0 b1 b2 b3
  obtain ⟨a0, a1, a2, a3, -⟩ := q0.out.four
  obtain ⟨b0, b1, b2, b3, -⟩ := q1.out.four
  clear hb3
  refine hK.out _ _ (fun _ => ⟨a0, a1, a2, a3, b0, b1, b2, b3⟩) ?_
  clear hK K
  try simp only [Act.put, List.setIfInBounds_toArray, List.set_cons_zero, List.set_cons_succ]
  refine wpAnyL_one (i := 5) rfl (by kernel_rfl) (fun K hK => ?_)
  go_simp
  refine (cross_ok na' nb' na nb A' B' A B n' c' m' d' n c m d b a w3 hD.out hA.out h2.out).mono ?_
  rintro e w4 ⟨hb4, nv, V, k2, v, rfl, hV⟩
  replace hU := hide (hU.out.below hb4)
  replace hV := hide hV
  replace q0 := hide (keep_blk hb4 q0.out)
  replace q1 := hide (keep_blk hb4 q1.out)
  replace q2 := hide (keep_blk hb4 q2.out)
  replace hA := hide (hA.out.below hb4)
  replace hD := hide (hD.out.below hb4)
  replace hB := hide (hB.out.trans (hb4.mono sz.out))
  replace sz := hide (Nat.le_trans sz.out hb4.size)
  clear a0 a1 a2 a3 b0 b1 b2 b3
  obtain ⟨a0, a1, a2, a3, -⟩ := q0.out.four
  obtain ⟨b0, b1, b2, b3, -⟩ := q1.out.four
  clear hb4
  refine hK.out _ _ (fun _ => ⟨a0, a1, a2, a3, b0, b1, b2, b3⟩) ?_
  clear hK K
  try simp only [Act.put, List.setIfInBounds_toArray, List.set_cons_zero, List.set_cons_succ]
  refine wpAnyL_one (i := 6) rfl (by kernel_rfl) (fun K hK => ?_)
  go_simp
  refine (Cmp_ok nu nv U V k1 u k2 v _ _ w4 hU.out hV.out).mono ?_
  rw [hR.out]
  rintro e w5 ⟨rfl, hb5⟩
  replace q0 := hide (keep_blk hb5 q0.out)
  replace q1 := hide (keep_blk hb5 q1.out)
  replace q2 := hide (keep_blk hb5 q2.out)
  replace hA := hide (hA.out.below hb5)
  replace hD := hide (hD.out.below hb5)
  replace hB := hide (hB.out.trans (hb5.mono sz.out))
  replace sz := hide (Nat.le_trans sz.out hb5.size)
  clear a0 a1 a2 a3 b0 b1 b2 b3
  obtain ⟨a0, a1, a2, a3, -⟩ := q0.out.four
  obtain ⟨b0, b1, b2, b3, -⟩ := q1.out.four
  clear hb5
  have x0 := q2.out.cell 0
  have f0 := q2.out.frozen 0
  simp at x0
  refine hK.out _ _ (fun _ => ⟨a0, a1, a2, a3, b0, b1, b2, b3⟩) ?_
  clear hK K
  try simp only [Act.put, List.setIfInBounds_toArray, List.set_cons_zero, List.set_cons_succ]
  refine wpAnyL_take (i := 7) (v := ?v5) rfl (by kernel_rfl) (by kernel_rfl) (by kernel_rfl) (by kernel_rfl) (by kernel_rfl) (Or.inl ⟨by rfl, ?hy5⟩) ⟨a0, a1, a2, a3, b0, b1, b2, b3⟩ ?rest5
  case hy5 => (intro W2 hSw; (try dsimp only at hSw); go_simp; try with_reducible rfl)
  try simp only [Act.put, List.setIfInBounds_toArray, List.set_cons_zero, List.set_cons_succ]
  refine wpAnyL_take (i := 8) (v := ?v6) rfl (by kernel_rfl) (by kernel_rfl) (by kernel_rfl) (by kernel_rfl) (by kernel_rfl) (Or.inl ⟨by rfl, ?hy6⟩) ⟨a0, a1, a2, a3, b0, b1, b2, b3⟩ ?rest6
  case hy6 => (intro W2 hSw; (try dsimp only at hSw); go_simp; try with_reducible rfl)
  try simp only [Act.put, List.setIfInBounds_toArray, List.set_cons_zero, List.set_cons_succ]
  refine wpAnyL_take (i := 9) (v := ?v7) rfl (by kernel_rfl) (by kernel_rfl) (by kernel_rfl) (by kernel_rfl) (by kernel_rfl) (Or.inl ⟨by rfl, ?hy7⟩) ⟨a0, a1, a2, a3, b0, b1, b2, b3⟩ ?rest7
  case hy7 => (intro W2 hSw; (try dsimp only at hSw); go_simp; try with_reducible rfl)
  try simp only [Act.put, List.setIfInBounds_toArray, List.set_cons_zero, List.set_cons_succ]
  refine wpAnyL_late (i := 10) rfl (by kernel_rfl) (by kernel_rfl) (fun K hK => ?_)
  go_simp
  obtain ⟨W6, hW6, hB6, q2', kW, kB, s6⟩ := set_code 0 hB.out (by omega) q2.out
  rw [hW6]
  refine hK.out _ _ ?_
  clear hK K
  try simp only [Act.put, List.setIfInBounds_toArray, List.set_cons_zero, List.set_cons_succ]
  refine wpAnyL_done (by kernel_rfl) ?_ _
  refine OnlyNormal.normal ?_
  have r4 := q2'.cell 0
  simp at r4
  go_wp2_with fail
  refine leaves_cons (f := 70) (args := #[.pointer (some ⟨w.heap.size + 1 + 1, 0, none⟩)]) (by simp) (by simp [go_sem]) ?_
  refine (catch_idle _ _).mono ?_
  rintro e u' w'' ⟨rfl, rfl, rfl⟩
  refine ⟨.tuple #[.int .i64 R, .int .i64 0], by simp [results, Tryz.results66, go_sem, r4], rfl, hB6⟩
end Go.Proofs.YtkippclhbkjbmaaGreat

namespace Go.Proofs.YtkippclhbkjbmaaGreat
open Go.RowKit
attribute [local go_sem] add_lit

set_option maxRecDepth 100000 in
set_option maxHeartbeats 2000000 in
theorem compare_ok (gc : Nat) (t : TypeId) (na nb na' nb' : Bool) (A B A' B' : Option Addr) (n c m d n' c' m' d' : Nat) (a b : Rat) (w : World) (hq : Blk w gc t #[.int .i64 0]) (ha : Fr w na A n c nb B m d a) (hb : Fr w na' A' n' c' nb' B' m' d' b) (sa : Sm a) (sb : Sm b) :
    Calls Tryz.prog 39 #[.pointer (some ⟨gc, 0, none⟩), .agg #[.bool na, .slice A n c, .bool nb, .slice B m d], .agg #[.bool na', .slice A' n' c', .bool nb', .slice B' m' d']] w fun e w' => e = .returned (.int .i64 (cmpQ a b)) ∧ Below w.heap.size w w' := by
  have hgc : gc < w.heap.size := (Array.getElem?_eq_some_iff.1 hq).1
  obtain ⟨W0, hW0, hB, ⟨qx, qy⟩, sz⟩ := alloc2 w 32 #[.bool na, .slice A n c, .bool nb, .slice B m d] 32 #[.bool na', .slice A' n' c', .bool nb', .slice B' m' d']
  replace hq := hq.below hB hgc
  replace ha := hide (ha.below hB)
  replace hb := hide (hb.below hB)
  obtain ⟨a0, a1, a2, a3, -⟩ := qx.four
  obtain ⟨b0, b1, b2, b3, -⟩ := qy.four
  go_enter Tryz.func39, Tryz.ntmps39
  go_wp2_with fail
  refine (fCmp_ok na nb na' nb' A B A' B' n c m d n' c' m' d' a b W0 ha.out hb.out sa sb).mono ?_
  rintro e w1 ⟨rfl, hb1⟩
  replace hB := hB.trans (hb1.mono hB.size)
  replace hq := keep_blk hb1 hq
  clear a0 a1 a2 a3 b0 b1 b2 b3 hW0 ha hb
  go_wp2_with fail
  refine (keep_ok gc t false false none none 0 0 0 0 w1 hq).mono ?_
  rintro e w2 ⟨rfl, hb2⟩
  replace hB := hB.trans (hb2.mono hB.size)
  go_wp2_with fail
  go_ret
  exact ⟨rfl, hB⟩

/-- The first of some fractions by a comparison. -/
def firstQ (cmp : Rat → Rat → Int) (qs : List Rat) (r : Rat) : Nat → Rat
  | 0 => r
  | k + 1 => if cmp (qs[k]?.getD 0) (firstQ cmp qs r k) < 0 then qs[k]?.getD 0 else firstQ cmp qs r k
theorem firstQ_sm {cmp : Rat → Rat → Int} {qs : List Rat} {r : Rat} (hr : Sm r) : ∀ k, (∀ j, j < k → Sm (qs[j]?.getD 0)) → Sm (firstQ cmp qs r k)
  | 0, _ => hr
  | k + 1, h => by
    unfold firstQ
    split
    · exact h k (by omega)
    · exact firstQ_sm hr k (fun j hj => h j (by omega))

set_option maxRecDepth 100000 in
set_option maxHeartbeats 2000000 in
theorem first_ok (f : FuncId) (pre post : Array Value) (cmp : Rat → Rat → Int) (I : World → Prop) (hI : ∀ w w', I w → Below w.heap.size w w' → I w')
    (hcf : ∀ (x y : Value) (W : World), (callFunc f (pre ++ (#[x, y] ++ post))).run Tryz.prog W = .ok (.enter f (pre ++ (#[x, y] ++ post))) W)
    (hcall : ∀ (na nb na' nb' : Bool) (A B A' B' : Option Addr) (n c m d n' c' m' d' : Nat) (a b : Rat) (W : World), I W → Fr W na A n c nb B m d a → Fr W na' A' n' c' nb' B' m' d' b → Sm a → Sm b → Calls Tryz.prog f (pre ++ (#[.agg #[.bool na, .slice A n c, .bool nb, .slice B m d], .agg #[.bool na', .slice A' n' c', .bool nb', .slice B' m' d']] ++ post)) W fun e w' => e = .returned (.int .i64 (cmp a b)) ∧ Below W.heap.size W w')
    (na nb : Bool) (A B : Option Addr) (n c m d : Nat) (r : Rat) (C : Option Addr) (k0 c0 : Nat) (qs : List Rat) (w : World) (hw : I w) (hr : Fr w na A n c nb B m d r) (hq : FL w C k0 c0 qs) (sr : Sm r) (sq : ∀ j, j < k0 → Sm (qs[j]?.getD 0)) (hk0 : k0 ≤ 1000) :
    Calls Tryz.prog 63 #[.func (.func f) pre post, .agg #[.bool na, .slice A n c, .bool nb, .slice B m d], .slice C k0 c0] w (FracW w (firstQ cmp qs r k0)) := by
  obtain ⟨W0, hW0, hB, ⟨q0, q9⟩, sz⟩ := alloc2 w 32 #[.bool na, .slice A n c, .bool nb, .slice B m d] 32 #[.bool false, .slice none 0 0, .bool false, .slice none 0 0]
  have hv : FracV W0 w.heap.size r := ⟨_, _, _, _, _, _, _, _, q0, hr.below hB⟩
  replace hI := hide hI
  replace hcall := hide hcall
  replace sq := hide sq
  obtain ⟨es, e1, e2, e3, e4, e5, e6⟩ := hq
  replace e4 := hide e4
  replace e5 := hide e5
  replace e2 := hide e2
  replace e3 := hide e3
  go_enter Tryz.func63, Tryz.ntmps63
  go_wp2_with fail
  clear hW0 q0
  go_loopw [11] (fun i wr => ∃ k : Nat, k ≤ k0 ∧ i = .int .i64 k ∧ Below w.heap.size w wr ∧ Blk wr (w.heap.size + 1) 32 #[.bool false, .slice none 0 0, .bool false, .slice none 0 0] ∧ FracV wr w.heap.size (firstQ cmp qs r k)) (fun i _ => k0 - (intOf i).toNat)
  case atStart => exact ⟨0, by omega, rfl, hB, q9, hv⟩
  case round =>
    clear hB q9 hv
    obtain ⟨k, h1, rfl, hB, q9, hv⟩ := hrel
    have hs2 := hv.lt
    have hs3 := (Array.getElem?_eq_some_iff.1 q9).1
    by_cases hk : k < k0
    case neg =>
      obtain rfl : k = k0 := by omega
      have htk : decide ((k : Int) < (k : Int)) = false := by simp
      obtain ⟨na1, A1, n1, c1, nb1, B1, m1, d1, qv, hF⟩ := hv
      obtain ⟨a0, a1, a2, a3, -⟩ := qv.four
      obtain ⟨x0, x1, x2, x3, z0, z1, z2, z3⟩ := q9.four
      go_wp2_with fail
      obtain ⟨V, hV, hB2, q5, hst⟩ := set_frac na1 A1 n1 c1 nb1 B1 m1 d1 hB (by omega) q9
      rw [hV]
      replace hF := hF.keep hst.1
      obtain ⟨r0, r1, r2, r3, -⟩ := q5.four
      refine bodyPost_ret (v := .agg #[.bool na1, .slice A1 n1 c1, .bool nb1, .slice B1 m1 d1]) (by simp [results, Tryz.results63, go_sem, r0, r1, r2, r3]) rfl ?_
      exact ⟨hB2, _, _, _, _, _, _, _, _, rfl, hF⟩
    have htk : decide ((k : Int) < (k0 : Int)) = true := by simp; omega
    obtain ⟨g, o, rfl, hc⟩ := e6 (by omega)
    obtain ⟨x, hx⟩ : ∃ x, es[k]? = some x := ⟨_, List.getElem?_eq_getElem (by omega)⟩
    obtain ⟨p0, p1, p2, p3⟩ := hc k x hx
    rw [← Nat.add_assoc] at p1 p2 p3
    have hxq : qs[k]?.getD 0 = x.q := by rw [← e5.out, List.getElem?_map, hx]; rfl
    have hxF : Fr w x.na x.A x.n x.c x.nb x.B x.m x.d x.q := e4.out x (List.mem_of_getElem? hx)
    have hlo := lt_of_cell p0
    have P0 := (hB.cell (lt_of_cell p0)).trans p0
    have P1 := (hB.cell (lt_of_cell p1)).trans p1
    have P2 := (hB.cell (lt_of_cell p2)).trans p2
    have P3 := (hB.cell (lt_of_cell p3)).trans p3
    replace hx := hide hx
    clear hc p0 p1 p2 p3
    obtain ⟨V, hV, hB3, q8, hk3, hk3', sV⟩ := new_obj 32 #[.bool false, .slice none 0 0, .bool false, .slice none 0 0] hB hB.size
    obtain ⟨y0, y1, y2, y3, z0, z1, z2, z3⟩ := q8.four
    obtain ⟨V2, hV2, hB4, q8b, hst⟩ := set_frac x.na x.A x.n x.c x.nb x.B x.m x.d hB3 hB.size q8
    replace q9 := hst.2.1 _ _ _ (by omega) (hk3' _ _ _ q9)
    replace hv := (hv.keep hk3 (fun cs => hk3' _ _ _)).keep hst.1 (fun cs => hst.2.1 _ _ _ (by omega))
    obtain ⟨na1, A1, n1, c1, nb1, B1, m1, d1, qv, hF⟩ := hv
    obtain ⟨a0, a1, a2, a3, -⟩ := qv.four
    obtain ⟨b0, b1, b2, b3, -⟩ := q8b.four
    go_wp2_with fail
    have hsx : Sm x.q := by rw [← hxq]; exact sq.out k hk
    have hsb : Sm (firstQ cmp qs r k) := firstQ_sm sr k (fun j hj => sq.out j (by omega))
    have hst1 : firstQ cmp qs r (k + 1) = if cmp x.q (firstQ cmp qs r k) < 0 then x.q else firstQ cmp qs r k := by rw [← hxq]; rfl
    replace hst1 := hide hst1
    replace hxq := hide hxq
    refine (hcall.out x.na x.nb na1 nb1 x.A x.B A1 B1 x.n x.c x.m x.d n1 c1 m1 d1 x.q (firstQ cmp qs r k) V2 (hI.out w V2 hw hB4) (hxF.below hB4) hF hsx hsb).mono ?_
    rintro e w5 ⟨rfl, hb5⟩
    replace q8b := keep_blk hb5 q8b
    replace q9 := keep_blk hb5 q9
    replace qv := keep_blk hb5 qv
    replace hF := hide (hF.below hb5)
    replace hB := hB4.trans (hb5.mono hB4.size)
    have hxF5 := hxF.below hB
    clear hV hV2 hB3 hB4 q8 hk3 hk3' hst a0 a1 a2 a3 b0 b1 b2 b3 y0 y1 y2 y3 z0 z1 z2 z3 P0 P1 P2 P3 hb5
    obtain ⟨a0, a1, a2, a3, z0, z1, z2, z3⟩ := qv.four
    obtain ⟨b0, b1, b2, b3, -⟩ := q8b.four
    by_cases hc : cmp x.q (firstQ cmp qs r k) < 0
    · have hcd : decide (cmp x.q (firstQ cmp qs r k) < 0) = true := by simpa using hc
      go_wp2_with fail
      obtain ⟨V3, hV3, hB6, q6, hst⟩ := set_frac x.na x.A x.n x.c x.nb x.B x.m x.d hB (Nat.le_refl _) qv
      rw [hV3]
      replace q9 := hst.2.1 _ _ _ (by omega) q9
      go_round
      case rel => exact ⟨k + 1, by omega, by go_num, hB6, q9, by rw [hst1.out, if_pos hc]; exact ⟨_, _, _, _, _, _, _, _, q6, hxF5.keep hst.1⟩⟩
      case measure => simp [intOf]; omega
    · have hcd : decide (cmp x.q (firstQ cmp qs r k) < 0) = false := by simpa using hc
      go_wp2_with fail
      go_round
      case rel => exact ⟨k + 1, by omega, by go_num, hB, q9, by rw [hst1.out, if_neg (by omega)]; exact ⟨_, _, _, _, _, _, _, _, qv, hF.out⟩⟩
      case measure => simp [intOf]; omega
end Go.Proofs.YtkippclhbkjbmaaGreat
