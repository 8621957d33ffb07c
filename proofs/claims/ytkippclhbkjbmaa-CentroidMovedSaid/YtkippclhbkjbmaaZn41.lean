/- Reference of frac: Cmp of small fractions. Package frac: Cmp of small fractions. -/
import Derived.Test.YtkippclhbkjbmaaZn35
import Derived.Test.YtkippclhbkjbmaaZn30
set_option linter.unusedSimpArgs false
set_option linter.unusedVariables false

namespace Go.Proofs.Ytkippclhbkjbmaa
open Go.RowKit
attribute [local go_sem] add_lit

def cmpQ (a b : Rat) : Int := if a < b then -1 else if b < a then 1 else 0
theorem cmpZ_rat (a b : Rat) : cmpZ (a.num * b.den) (b.num * a.den) = cmpQ a b := by
  unfold cmpZ cmpQ
  simp only [Rat.lt_iff]

end Go.Proofs.Ytkippclhbkjbmaa

namespace Go.Proofs.Ytkippclhbkjbmaa
open Go.RowKit
attribute [local go_sem] add_lit

set_option maxRecDepth 100000 in
set_option maxHeartbeats 2000000 in
theorem fCmp_ok (na nb na' nb' : Bool) (A B A' B' : Option Addr) (n c m d n' c' m' d' : Nat) (a b : Rat) (w : World) (ha : Fr w na A n c nb B m d a) (hb : Fr w na' A' n' c' nb' B' m' d' b) (sa : Sm a) (sb : Sm b) :
    Calls Try.prog 44 #[.agg #[.bool na, .slice A n c, .bool nb, .slice B m d], .agg #[.bool na', .slice A' n' c', .bool nb', .slice B' m' d']] w fun e w' => e = .returned (.tuple #[.int .i64 (cmpQ a b), .int .i64 0]) ∧ Below w.heap.size w w' := by
  rw [← cmpZ_rat]
  obtain ⟨R, hR⟩ : ∃ R, cmpZ (a.num * b.den) (b.num * a.den) = R := ⟨_, rfl⟩
  rw [hR]
  replace hR := hide hR
  have hmx : Try.prog.follows .mixedOrders = true := by kernel_rfl
  have h1 := hide (sm_mul' sa.1 sb.dn)
  have h2 := hide (sm_mul' sb.1 sa.dn)
  obtain ⟨W0, hW0, hB0, ⟨q0, q1, q2⟩, s0⟩ := alloc3 w 29 #[.bool na, .slice A n c, .bool nb, .slice B m d] 29 #[.bool na', .slice A' n' c', .bool nb', .slice B' m' d'] 32 #[.int .i64 0]
  have hA := hide (ha.below hB0)
  have hD := hide (hb.below hB0)
  clear ha hb sa sb
  obtain ⟨a0, a1, a2, a3, -⟩ := q0.four
  have hq := hide (And.intro q0 (And.intro q1 q2))
  clear q0 q1 q2
  go_enter_defers Try.func44, Try.ntmps44
  go_wp2_with fail
  refine (fCheck_ok na nb A B n c m d a W0 hA.out).mono ?_
  rintro e w1 ⟨rfl, hb1⟩
  have hB1 : Below w.heap.size w w1 := hB0.trans (hb1.mono hB0.size)
  have s1 : W0.heap.size ≤ w1.heap.size := hb1.size
  replace hA := hide (hA.out.below hb1)
  replace hD := hide (hD.out.below hb1)
  obtain ⟨q0, q1, q2⟩ := hq.out
  replace q0 := keep_blk hb1 q0
  replace q1 := keep_blk hb1 q1
  replace q2 := keep_blk hb1 q2
  clear hW0 hq hb1 hB0 a0 a1 a2 a3
  obtain ⟨b0, b1, b2, b3, -⟩ := q1.four
  have hq := hide (And.intro q0 (And.intro q1 q2))
  clear q0 q1 q2
  go_wp2_with fail
  refine (want_ok w1).mono ?_
  rintro e w1 ⟨rfl, rfl⟩
  go_wp2_with fail
  refine (fCheck_ok na' nb' A' B' n' c' m' d' b w1 hD.out).mono ?_
  rintro e w2 ⟨rfl, hb2⟩
  have hB := hide (hB1.trans (hb2.mono hB1.size))
  have sz := hide hB.out.size
  have s2 : w1.heap.size ≤ w2.heap.size := hb2.size
  replace hA := hide (hA.out.below hb2)
  replace hD := hide (hD.out.below hb2)
  obtain ⟨q0, q1, q2⟩ := hq.out
  replace q0 := hide (keep_blk hb2 q0)
  replace q1 := hide (keep_blk hb2 q1)
  replace q2 := hide (keep_blk hb2 q2)
  clear hq hb2 hB1 b0 b1 b2 b3
  go_wp2_with fail
  refine (want_ok w2).mono ?_
  rintro e w2 ⟨rfl, rfl⟩
  obtain ⟨a0, a1, a2, a3, -⟩ := q0.out.four
  obtain ⟨b0, b1, b2, b3, -⟩ := q1.out.four
  go_wp2_with fail
  refine wp_held [10] (fun W' => W'.cell? ⟨w.heap.size, 0, none⟩ = some (.bool na) ∧ W'.cell? ⟨w.heap.size, 1, none⟩ = some (.slice A n c) ∧ W'.cell? ⟨w.heap.size, 2, none⟩ = some (.bool nb) ∧ W'.cell? ⟨w.heap.size, 3, none⟩ = some (.slice B m d) ∧ W'.cell? ⟨w.heap.size + 1, 0, none⟩ = some (.bool na') ∧ W'.cell? ⟨w.heap.size + 1, 1, none⟩ = some (.slice A' n' c') ∧ W'.cell? ⟨w.heap.size + 1, 2, none⟩ = some (.bool nb') ∧ W'.cell? ⟨w.heap.size + 1, 3, none⟩ = some (.slice B' m' d')) hmx ⟨a0, a1, a2, a3, b0, b1, b2, b3⟩ (fun _ => ?_)
  refine wpAnyL_take (i := 0) (v := ?v1) rfl (by kernel_rfl) (by kernel_rfl) (by kernel_rfl) (by kernel_rfl) (by kernel_rfl) (Or.inl ⟨by rfl, ?hy1⟩) ⟨a0, a1, a2, a3, b0, b1, b2, b3⟩ ?rest1
  case hy1 => (intro W2 hSw; (try dsimp only at hSw); go_simp; try with_reducible rfl)
  try simp only [Act.put, List.setIfInBounds_toArray, List.set_cons_zero, List.set_cons_succ]
  refine wpAnyL_take (i := 1) (v := ?v2) rfl (by kernel_rfl) (by kernel_rfl) (by kernel_rfl) (by kernel_rfl) (by kernel_rfl) (Or.inl ⟨by rfl, ?hy2⟩) ⟨a0, a1, a2, a3, b0, b1, b2, b3⟩ ?rest2
  case hy2 => (intro W2 hSw; (try dsimp only at hSw); go_simp; try with_reducible rfl)
  try simp only [Act.put, List.setIfInBounds_toArray, List.set_cons_zero, List.set_cons_succ]
  refine wpAnyL_take (i := 3) (v := ?v3) rfl (by kernel_rfl) (by kernel_rfl) (by kernel_rfl) (by kernel_rfl) (by kernel_rfl) (Or.inl ⟨by rfl, ?hy3⟩) ⟨a0, a1, a2, a3, b0, b1, b2, b3⟩ ?rest3
  case hy3 => (intro W2 hSw; (try dsimp only at hSw); go_simp; try with_reducible rfl)
  try simp only [Act.put, List.setIfInBounds_toArray, List.set_cons_zero, List.set_cons_succ]
  refine wpAnyL_take (i := 4) (v := ?v4) rfl (by kernel_rfl) (by kernel_rfl) (by kernel_rfl) (by kernel_rfl) (by kernel_rfl) (Or.inl ⟨by rfl, ?hy4⟩) ⟨a0, a1, a2, a3, b0, b1, b2, b3⟩ ?rest4
  case hy4 => (intro W2 hSw; (try dsimp only at hSw); go_simp; try with_reducible rfl)
  try simp only [Act.put, List.setIfInBounds_toArray, List.set_cons_zero, List.set_cons_succ]
  refine wpAnyL_one (i := 2) rfl (by kernel_rfl) (fun K hK => ?_)
  go_simp
  refine (cross_ok na nb na' nb' A B A' B' n c m d n' c' m' d' a b w2.drew hA.out hD.out h1.out).mono ?_
  rintro e w3 ⟨hb3, nu, U, k1, u, rfl, hU⟩
  replace hb3 := below_drewL hb3
  replace hU := hide hU
  replace q0 := hide (keep_blk hb3 q0.out)
  replace q1 := hide (keep_blk hb3 q1.out)
  replace q2 := hide (keep_blk hb3 q2.out)
  replace hA := hide (hA.out.below hb3)
  replace hD := hide (hD.out.below hb3)
  replace hB := hide (hB.out.trans (hb3.mono sz.out))
  replace sz := hide (Nat.le_trans sz.out hb3.size)
  clear a0 a1 a2 a3 b0 b1 b2 b3
  obtain ⟨a0, a1, a2, a3, -⟩ := q0.out.four
  obtain ⟨b0, b1, b2, b3, -⟩ := q1.out.four
  clear hb3
  refine hK.out _ _ (fun _ => ⟨a0, a1, a2, a3, b0, b1, b2, b3⟩) ?_
  clear hK K
  try simp only [Act.put, List.setIfInBounds_toArray, List.set_cons_zero, List.set_cons_succ]
  refine wpAnyL_one (i := 5) rfl (by kernel_rfl) (fun K hK => ?_)
  go_simp
  refine (cross_ok na' nb' na nb A' B' A B n' c' m' d' n c m d b a w3 hD.out hA.out h2.out).mono ?_
  rintro e w4 ⟨hb4, nv, V, k2, v, rfl, hV⟩
  replace hU := hide (hU.out.below hb4)
  replace hV := hide hV
  replace q0 := hide (keep_blk hb4 q0.out)
  replace q1 := hide (keep_blk hb4 q1.out)
  replace q2 := hide (keep_blk hb4 q2.out)
  replace hA := hide (hA.out.below hb4)
  replace hD := hide (hD.out.below hb4)
  replace hB := hide (hB.out.trans (hb4.mono sz.out))
  replace sz := hide (Nat.le_trans sz.out hb4.size)
  clear a0 a1 a2 a3 b0 b1 b2 b3
  obtain ⟨a0, a1, a2, a3, -⟩ := q0.out.four
  obtain ⟨b0, b1, b2, b3, -⟩ := q1.out.four
  clear hb4
  refine hK.out _ _ (fun _ => ⟨a0, a1, a2, a3, b0, b1, b2, b3⟩) ?_
  clear hK K
  try simp only [Act.put, List.setIfInBounds_toArray, List.set_cons_zero, List.set_cons_succ]
  refine wpAnyL_one (i := 6) rfl (by kernel_rfl) (fun K hK => ?_)
  go_simp
  refine (Cmp_ok nu nv U V k1 u k2 v _ _ w4 hU.out hV.out).mono ?_
  rw [hR.out]
  rintro e w5 ⟨rfl, hb5⟩
  replace q0 := hide (keep_blk hb5 q0.out)
  replace q1 := hide (keep_blk hb5 q1.out)
  replace q2 := hide (keep_blk hb5 q2.out)
  replace hA := hide (hA.out.below hb5)
  replace hD := hide (hD.out.below hb5)
  replace hB := hide (hB.out.trans (hb5.mono sz.out))
  replace sz := hide (Nat.le_trans sz.out hb5.size)
  clear a0 a1 a2 a3 b0 b1 b2 b3
  obtain ⟨a0, a1, a2, a3, -⟩ := q0.out.four
  obtain ⟨b0, b1, b2, b3, -⟩ := q1.out.four
  clear hb5
  have x0 := q2.out.cell 0
  have f0 := q2.out.frozen 0
  simp at x0
  refine hK.out _ _ (fun _ => ⟨a0, a1, a2, a3, b0, b1, b2, b3⟩) ?_
  clear hK K
  try simp only [Act.put, List.setIfInBounds_toArray, List.set_cons_zero, List.set_cons_succ]
  refine wpAnyL_take (i := 7) (v := ?v5) rfl (by kernel_rfl) (by kernel_rfl) (by kernel_rfl) (by kernel_rfl) (by kernel_rfl) (Or.inl ⟨by rfl, ?hy5⟩) ⟨a0, a1, a2, a3, b0, b1, b2, b3⟩ ?rest5
  case hy5 => (intro W2 hSw; (try dsimp only at hSw); go_simp; try with_reducible rfl)
  try simp only [Act.put, List.setIfInBounds_toArray, List.set_cons_zero, List.set_cons_succ]
  refine wpAnyL_take (i := 8) (v := ?v6) rfl (by kernel_rfl) (by kernel_rfl) (by kernel_rfl) (by kernel_rfl) (by kernel_rfl) (Or.inl ⟨by rfl, ?hy6⟩) ⟨a0, a1, a2, a3, b0, b1, b2, b3⟩ ?rest6
  case hy6 => (intro W2 hSw; (try dsimp only at hSw); go_simp; try with_reducible rfl)
  try simp only [Act.put, List.setIfInBounds_toArray, List.set_cons_zero, List.set_cons_succ]
  refine wpAnyL_take (i := 9) (v := ?v7) rfl (by kernel_rfl) (by kernel_rfl) (by kernel_rfl) (by kernel_rfl) (by kernel_rfl) (Or.inl ⟨by rfl, ?hy7⟩) ⟨a0, a1, a2, a3, b0, b1, b2, b3⟩ ?rest7
  case hy7 => (intro W2 hSw; (try dsimp only at hSw); go_simp; try with_reducible rfl)
  try simp only [Act.put, List.setIfInBounds_toArray, List.set_cons_zero, List.set_cons_succ]
  refine wpAnyL_late (i := 10) rfl (by kernel_rfl) (by kernel_rfl) (fun K hK => ?_)
  go_simp
  obtain ⟨W6, hW6, hB6, q2', kW, kB, s6⟩ := set_code 0 hB.out (by omega) q2.out
  rw [hW6]
  refine hK.out _ _ ?_
  clear hK K
  try simp only [Act.put, List.setIfInBounds_toArray, List.set_cons_zero, List.set_cons_succ]
  refine wpAnyL_done (by kernel_rfl) ?_ _
  refine OnlyNormal.normal ?_
  have r4 := q2'.cell 0
  simp at r4
  go_wp2_with fail
  refine leaves_cons (f := 49) (args := #[.pointer (some ⟨w.heap.size + 1 + 1, 0, none⟩)]) (by simp) (by simp [go_sem]) ?_
  refine (catch_idle _ _).mono ?_
  rintro e u' w'' ⟨rfl, rfl, rfl⟩
  refine ⟨.tuple #[.int .i64 R, .int .i64 0], by simp [results, Try.results44, go_sem, r4], rfl, hB6⟩
end Go.Proofs.Ytkippclhbkjbmaa
