/- Package frac: the closure of Mul. -/
import Derived.Test.YtigdclhagmnopaaGreatZa18
set_option linter.unusedSimpArgs false
set_option linter.unusedVariables false

namespace Go.Proofs.YtigdclhagmnopaaGreat
open Go.RowKit
attribute [local go_sem] add_lit

theorem ResP.code0 {w : World} {z : Int} {neg : Bool} {A : Option Addr} {n c : Nat} {code : Int} (h : ResP w z neg A n c code) (hs : z.natAbs < pw 4096) : code = 0 := by
  rcases h with ⟨_, h, _⟩ | ⟨h, _⟩
  · exact h
  · omega
theorem Fr.drew {w : World} {na : Bool} {A : Option Addr} {n c : Nat} {nb : Bool} {B : Option Addr} {m d : Nat} {r : Rat} (h : Fr w na A n c nb B m d r) : Fr w.drew na A n c nb B m d r := h
theorem Wd.drew {w : World} {neg : Bool} {A : Option Addr} {n c : Nat} {z : Int} (h : Wd w neg A n c z) : Wd w.drew neg A n c z := h
/-- A result (numerator, denominator). -/
def PairW (w : World) (x y : Int) (e : Ending) (w' : World) : Prop :=
  Below w.heap.size w w' ∧ ∃ na A n c nb B m d, e = .returned (.tuple #[.agg #[.bool na, .slice A n c], .agg #[.bool nb, .slice B m d]]) ∧ Wd w' na A n c x ∧ Wd w' nb B m d y

set_option maxRecDepth 100000 in
set_option maxHeartbeats 2000000 in
theorem Mul1_ok (na nb na' nb' : Bool) (A B A' B' : Option Addr) (n c m d n' c' m' d' : Nat) (a b : Rat) (w : World) (ha : Fr w na A n c nb B m d a) (hb : Fr w na' A' n' c' nb' B' m' d' b)
    (hs : (a.num * b.num).natAbs < pw 4096) (ht : ((a.den : Int) * (b.den : Nat)).natAbs < pw 4096) :
    Calls Tryz.prog 120 #[.agg #[.bool na, .slice A n c, .bool nb, .slice B m d], .agg #[.bool na', .slice A' n' c', .bool nb', .slice B' m' d']] w (PairW w (a.num * b.num) ((a.den : Int) * (b.den : Nat))) := by
  obtain ⟨W0, hW0, hB0, ⟨q0, q1, q2, q3⟩, s0⟩ := alloc4 w 45 #[.bool na, .slice A n c, .bool nb, .slice B m d] 45 #[.bool na', .slice A' n' c', .bool nb', .slice B' m' d'] 43 #[.bool false, .slice none 0 0] 43 #[.bool false, .slice none 0 0]
  have hmx : Tryz.prog.follows .mixedOrders = true := by kernel_rfl
  have hA := hide (ha.below hB0)
  have hD := hide (hb.below hB0)
  replace hs := hide hs
  replace ht := hide ht
  have sz := hide hB0.size
  have hB := hide hB0
  clear ha hb hB0 s0
  replace q0 := hide q0
  replace q1 := hide q1
  replace q2 := hide q2
  replace q3 := hide q3
  obtain ⟨a0, a1, a2, a3, -⟩ := q0.out.four
  obtain ⟨b0, b1, b2, b3, -⟩ := q1.out.four
  replace hW0 := hide hW0
  go_enter Tryz.func120, Tryz.ntmps120
  go_wp2_with fail
  rw [hW0.out]
  clear hW0
  refine wp_held [17] (fun W' => W'.cell? ⟨w.heap.size, 0, none⟩ = some (.bool na) ∧ W'.cell? ⟨w.heap.size, 1, none⟩ = some (.slice A n c) ∧ W'.cell? ⟨w.heap.size, 2, none⟩ = some (.bool nb) ∧ W'.cell? ⟨w.heap.size, 3, none⟩ = some (.slice B m d) ∧ W'.cell? ⟨w.heap.size + 1, 0, none⟩ = some (.bool na') ∧ W'.cell? ⟨w.heap.size + 1, 1, none⟩ = some (.slice A' n' c') ∧ W'.cell? ⟨w.heap.size + 1, 2, none⟩ = some (.bool nb') ∧ W'.cell? ⟨w.heap.size + 1, 3, none⟩ = some (.slice B' m' d')) hmx ⟨a0, a1, a2, a3, b0, b1, b2, b3⟩ (fun _ => ?_)
  refine wpAnyL_take (i := 0) (v := ?v1) rfl (by kernel_rfl) (by kernel_rfl) (by kernel_rfl) (by kernel_rfl) (by kernel_rfl) (Or.inl ⟨by rfl, ?hy1⟩) ⟨a0, a1, a2, a3, b0, b1, b2, b3⟩ ?rest1
  case hy1 => (intro W2 hSw; (try dsimp only at hSw); go_simp; try with_reducible rfl)
  try simp only [Act.put, List.setIfInBounds_toArray, List.set_cons_zero, List.set_cons_succ]
  refine wpAnyL_take (i := 1) (v := ?v2) rfl (by kernel_rfl) (by kernel_rfl) (by kernel_rfl) (by kernel_rfl) (by kernel_rfl) (Or.inl ⟨by rfl, ?hy2⟩) ⟨a0, a1, a2, a3, b0, b1, b2, b3⟩ ?rest2
  case hy2 => (intro W2 hSw; (try dsimp only at hSw); go_simp; try with_reducible rfl)
  try simp only [Act.put, List.setIfInBounds_toArray, List.set_cons_zero, List.set_cons_succ]
  refine wpAnyL_take (i := 2) (v := ?v3) rfl (by kernel_rfl) (by kernel_rfl) (by kernel_rfl) (by kernel_rfl) (by kernel_rfl) (Or.inl ⟨by rfl, ?hy3⟩) ⟨a0, a1, a2, a3, b0, b1, b2, b3⟩ ?rest3
  case hy3 => (intro W2 hSw; (try dsimp only at hSw); go_simp; try with_reducible rfl)
  try simp only [Act.put, List.setIfInBounds_toArray, List.set_cons_zero, List.set_cons_succ]
  refine wpAnyL_take (i := 3) (v := ?v4) rfl (by kernel_rfl) (by kernel_rfl) (by kernel_rfl) (by kernel_rfl) (by kernel_rfl) (Or.inl ⟨by rfl, ?hy4⟩) ⟨a0, a1, a2, a3, b0, b1, b2, b3⟩ ?rest4
  case hy4 => (intro W2 hSw; (try dsimp only at hSw); go_simp; try with_reducible rfl)
  try simp only [Act.put, List.setIfInBounds_toArray, List.set_cons_zero, List.set_cons_succ]
  refine wpAnyL_take (i := 8) (v := ?v5) rfl (by kernel_rfl) (by kernel_rfl) (by kernel_rfl) (by kernel_rfl) (by kernel_rfl) (Or.inl ⟨by rfl, ?hy5⟩) ⟨a0, a1, a2, a3, b0, b1, b2, b3⟩ ?rest5
  case hy5 => (intro W2 hSw; (try dsimp only at hSw); go_simp; try with_reducible rfl)
  try simp only [Act.put, List.setIfInBounds_toArray, List.set_cons_zero, List.set_cons_succ]
  refine wpAnyL_take (i := 9) (v := ?v6) rfl (by kernel_rfl) (by kernel_rfl) (by kernel_rfl) (by kernel_rfl) (by kernel_rfl) (Or.inl ⟨by rfl, ?hy6⟩) ⟨a0, a1, a2, a3, b0, b1, b2, b3⟩ ?rest6
  case hy6 => (intro W2 hSw; (try dsimp only at hSw); go_simp; try with_reducible rfl)
  try simp only [Act.put, List.setIfInBounds_toArray, List.set_cons_zero, List.set_cons_succ]
  refine wpAnyL_take (i := 10) (v := ?v7) rfl (by kernel_rfl) (by kernel_rfl) (by kernel_rfl) (by kernel_rfl) (by kernel_rfl) (Or.inl ⟨by rfl, ?hy7⟩) ⟨a0, a1, a2, a3, b0, b1, b2, b3⟩ ?rest7
  case hy7 => (intro W2 hSw; (try dsimp only at hSw); go_simp; try with_reducible rfl)
  try simp only [Act.put, List.setIfInBounds_toArray, List.set_cons_zero, List.set_cons_succ]
  refine wpAnyL_take (i := 11) (v := ?v8) rfl (by kernel_rfl) (by kernel_rfl) (by kernel_rfl) (by kernel_rfl) (by kernel_rfl) (Or.inl ⟨by rfl, ?hy8⟩) ⟨a0, a1, a2, a3, b0, b1, b2, b3⟩ ?rest8
  case hy8 => (intro W2 hSw; (try dsimp only at hSw); go_simp; try with_reducible rfl)
  try simp only [Act.put, List.setIfInBounds_toArray, List.set_cons_zero, List.set_cons_succ]
  refine wpAnyL_one (i := 4) rfl (by kernel_rfl) (fun K hK => ?_)
  go_simp
  refine (Mul_ok na na' A A' n c n' c' a.num b.num W0.drew hA.out.1 hD.out.1).mono ?_
  rintro e w1 ⟨hb1, np, P, k, q, code, rfl, hR⟩
  replace hb1 := below_drewL hb1
  have hP := hide (hR.small hs.out)
  have hcode := hR.code0 hs.out
  subst hcode
  clear hs hR
  replace q0 := hide (keep_blk hb1 q0.out)
  replace q1 := hide (keep_blk hb1 q1.out)
  replace q2 := hide (keep_blk hb1 q2.out)
  replace q3 := hide (keep_blk hb1 q3.out)
  replace hA := hide (hA.out.below hb1)
  replace hD := hide (hD.out.below hb1)
  replace hB := hide (hB.out.trans (hb1.mono sz.out))
  replace sz := hide (Nat.le_trans sz.out hb1.size)
  clear a0 a1 a2 a3 b0 b1 b2 b3
  obtain ⟨a0, a1, a2, a3, -⟩ := q0.out.four
  obtain ⟨b0, b1, b2, b3, -⟩ := q1.out.four
  clear hb1
  refine hK.out _ _ (fun _ => ⟨a0, a1, a2, a3, b0, b1, b2, b3⟩) ?_
  clear hK K
  try simp only [Act.put, List.setIfInBounds_toArray, List.set_cons_zero, List.set_cons_succ]
  refine wpAnyL_take (i := 5) (v := ?v9) rfl (by kernel_rfl) (by kernel_rfl) (by kernel_rfl) (by kernel_rfl) (by kernel_rfl) (Or.inl ⟨by rfl, ?hy9⟩) ⟨a0, a1, a2, a3, b0, b1, b2, b3⟩ ?rest9
  case hy9 => (intro W2 hSw; (try dsimp only at hSw); go_simp; try with_reducible rfl)
  try simp only [Act.put, List.setIfInBounds_toArray, List.set_cons_zero, List.set_cons_succ]
  refine wpAnyL_take (i := 6) (v := ?v10) rfl (by kernel_rfl) (by kernel_rfl) (by kernel_rfl) (by kernel_rfl) (by kernel_rfl) (Or.inl ⟨by rfl, ?hy10⟩) ⟨a0, a1, a2, a3, b0, b1, b2, b3⟩ ?rest10
  case hy10 => (intro W2 hSw; (try dsimp only at hSw); go_simp; try with_reducible rfl)
  try simp only [Act.put, List.setIfInBounds_toArray, List.set_cons_zero, List.set_cons_succ]
  refine wpAnyL_one (i := 7) rfl (by kernel_rfl) (fun K hK => ?_)
  go_simp
  refine (must_ok np P k q w1).mono ?_
  rintro e w2 ⟨rfl, hb2⟩
  replace hP := hide (hP.out.below hb2)
  replace q0 := hide (keep_blk hb2 q0.out)
  replace q1 := hide (keep_blk hb2 q1.out)
  replace q2 := hide (keep_blk hb2 q2.out)
  replace q3 := hide (keep_blk hb2 q3.out)
  replace hA := hide (hA.out.below hb2)
  replace hD := hide (hD.out.below hb2)
  replace hB := hide (hB.out.trans (hb2.mono sz.out))
  replace sz := hide (Nat.le_trans sz.out hb2.size)
  clear a0 a1 a2 a3 b0 b1 b2 b3
  obtain ⟨a0, a1, a2, a3, -⟩ := q0.out.four
  obtain ⟨b0, b1, b2, b3, -⟩ := q1.out.four
  clear hb2
  refine hK.out _ _ (fun _ => ⟨a0, a1, a2, a3, b0, b1, b2, b3⟩) ?_
  clear hK K
  try simp only [Act.put, List.setIfInBounds_toArray, List.set_cons_zero, List.set_cons_succ]
  refine wpAnyL_one (i := 12) rfl (by kernel_rfl) (fun K hK => ?_)
  go_simp
  refine (Mul_ok nb nb' B B' m d m' d' a.den b.den w2 hA.out.2 hD.out.2).mono ?_
  rintro e w3 ⟨hb3, np', P', k', q', code, rfl, hR⟩
  replace hP := hide (hP.out.below hb3)
  have hP' := hide (hR.small ht.out)
  have hcode := hR.code0 ht.out
  subst hcode
  clear ht hR
  replace q0 := hide (keep_blk hb3 q0.out)
  replace q1 := hide (keep_blk hb3 q1.out)
  replace q2 := hide (keep_blk hb3 q2.out)
  replace q3 := hide (keep_blk hb3 q3.out)
  replace hA := hide (hA.out.below hb3)
  replace hD := hide (hD.out.below hb3)
  replace hB := hide (hB.out.trans (hb3.mono sz.out))
  replace sz := hide (Nat.le_trans sz.out hb3.size)
  clear a0 a1 a2 a3 b0 b1 b2 b3
  obtain ⟨a0, a1, a2, a3, -⟩ := q0.out.four
  obtain ⟨b0, b1, b2, b3, -⟩ := q1.out.four
  clear hb3
  refine hK.out _ _ (fun _ => ⟨a0, a1, a2, a3, b0, b1, b2, b3⟩) ?_
  clear hK K
  try simp only [Act.put, List.setIfInBounds_toArray, List.set_cons_zero, List.set_cons_succ]
  refine wpAnyL_take (i := 13) (v := ?v11) rfl (by kernel_rfl) (by kernel_rfl) (by kernel_rfl) (by kernel_rfl) (by kernel_rfl) (Or.inl ⟨by rfl, ?hy11⟩) ⟨a0, a1, a2, a3, b0, b1, b2, b3⟩ ?rest11
  case hy11 => (intro W2 hSw; (try dsimp only at hSw); go_simp; try with_reducible rfl)
  try simp only [Act.put, List.setIfInBounds_toArray, List.set_cons_zero, List.set_cons_succ]
  refine wpAnyL_take (i := 14) (v := ?v12) rfl (by kernel_rfl) (by kernel_rfl) (by kernel_rfl) (by kernel_rfl) (by kernel_rfl) (Or.inl ⟨by rfl, ?hy12⟩) ⟨a0, a1, a2, a3, b0, b1, b2, b3⟩ ?rest12
  case hy12 => (intro W2 hSw; (try dsimp only at hSw); go_simp; try with_reducible rfl)
  try simp only [Act.put, List.setIfInBounds_toArray, List.set_cons_zero, List.set_cons_succ]
  refine wpAnyL_one (i := 15) rfl (by kernel_rfl) (fun K hK => ?_)
  go_simp
  refine (must_ok np' P' k' q' w3).mono ?_
  rintro e w4 ⟨rfl, hb4⟩
  replace hP := hide (hP.out.below hb4)
  replace hP' := hide (hP'.out.below hb4)
  replace q0 := hide (keep_blk hb4 q0.out)
  replace q1 := hide (keep_blk hb4 q1.out)
  replace q2 := hide (keep_blk hb4 q2.out)
  replace q3 := hide (keep_blk hb4 q3.out)
  replace hA := hide (hA.out.below hb4)
  replace hD := hide (hD.out.below hb4)
  replace hB := hide (hB.out.trans (hb4.mono sz.out))
  replace sz := hide (Nat.le_trans sz.out hb4.size)
  clear a0 a1 a2 a3 b0 b1 b2 b3
  obtain ⟨a0, a1, a2, a3, -⟩ := q0.out.four
  obtain ⟨b0, b1, b2, b3, -⟩ := q1.out.four
  clear hb4
  obtain ⟨x0, x1, f0, f1⟩ := q2.out.two
  refine hK.out _ _ (fun _ => ⟨a0, a1, a2, a3, b0, b1, b2, b3⟩) ?_
  clear hK K
  try simp only [Act.put, List.setIfInBounds_toArray, List.set_cons_zero, List.set_cons_succ]
  refine wpAnyL_one (i := 16) rfl (by kernel_rfl) (fun K hK => ?_)
  go_simp
  obtain ⟨W5, hW5, hB5, q2', kW, kB, s5⟩ := set_num np P k q hB.out (by omega) q2.out
  rw [hW5]
  clear hW5 x0 x1 f0 f1 a0 a1 a2 a3 b0 b1 b2 b3 hA hD
  replace q0 := kB _ _ _ (by omega) q0.out
  replace q1 := kB _ _ _ (by omega) q1.out
  obtain ⟨a0, a1, a2, a3, -⟩ := q0.four
  obtain ⟨b0, b1, b2, b3, -⟩ := q1.four
  replace q3 := hide (kB _ _ _ (by omega) q3.out)
  replace hP := hide (kW _ _ _ _ _ hP.out)
  replace hP' := hide (kW _ _ _ _ _ hP'.out)
  clear kW kB q2 hB q0 q1
  obtain ⟨y0, y1, g0, g1⟩ := q3.out.two
  refine hK.out _ _ (fun _ => ⟨a0, a1, a2, a3, b0, b1, b2, b3⟩) ?_
  clear hK K
  try simp only [Act.put, List.setIfInBounds_toArray, List.set_cons_zero, List.set_cons_succ]
  refine wpAnyL_late (i := 17) rfl (by kernel_rfl) (by kernel_rfl) (fun K hK => ?_)
  go_simp
  obtain ⟨W6, hW6, hB6, q3', kW, kB, s6⟩ := set_num np' P' k' q' hB5 (by omega) q3.out
  rw [hW6]
  clear hW6 y0 y1 g0 g1 a0 a1 a2 a3 b0 b1 b2 b3
  replace q2' := kB _ _ _ (by omega) q2'
  replace hP := hide (kW _ _ _ _ _ hP.out)
  replace hP' := hide (kW _ _ _ _ _ hP'.out)
  clear kW kB q3 hB5
  refine hK.out _ _ ?_
  clear hK K
  try simp only [Act.put, List.setIfInBounds_toArray, List.set_cons_zero, List.set_cons_succ]
  refine wpAnyL_done (by kernel_rfl) ?_ _
  refine OnlyNormal.normal ?_
  obtain ⟨r0, r1, -⟩ := q2'.two
  obtain ⟨r2, r3, -⟩ := q3'.two
  go_wp2_with fail
  refine bodyPost_ret (v := .tuple #[.agg #[.bool np, .slice P k q], .agg #[.bool np', .slice P' k' q']]) (by simp [results, Tryz.results120, go_sem, r0, r1, r2, r3]) rfl ?_
  exact ⟨hB6, _, _, _, _, _, _, _, _, rfl, hP.out, hP'.out⟩
end Go.Proofs.YtigdclhagmnopaaGreat
