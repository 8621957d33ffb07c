/- Package frac: the closures of Sub (and Add where the seat has it). Package frac: both, Sub, Mul. -/
import Derived.Test.YtigdclhagmnopaaGreatZa19
set_option linter.unusedSimpArgs false
set_option linter.unusedVariables false

namespace Go.Proofs.YtigdclhagmnopaaGreat
open Go.RowKit
attribute [local go_sem] add_lit

set_option maxRecDepth 100000 in
set_option maxHeartbeats 2000000 in
theorem Sub1_ok (na nb na' nb' : Bool) (A B A' B' : Option Addr) (n c m d n' c' m' d' : Nat) (a b : Rat) (w : World) (ha : Fr w na A n c nb B m d a) (hb : Fr w na' A' n' c' nb' B' m' d' b)
    (h1 : (a.num * b.den).natAbs < pw 4096) (h2 : (b.num * a.den).natAbs < pw 4096) (hs : (a.num * b.den - b.num * a.den).natAbs < pw 4096) (ht : ((a.den : Int) * (b.den : Nat)).natAbs < pw 4096) :
    Calls Tryz.prog 123 #[.agg #[.bool na, .slice A n c, .bool nb, .slice B m d], .agg #[.bool na', .slice A' n' c', .bool nb', .slice B' m' d']] w (PairW w (a.num * b.den - b.num * a.den) ((a.den : Int) * (b.den : Nat))) := by
  obtain ⟨W0, hW0, hB0, ⟨q0, q1, q2, q3⟩, s0⟩ := alloc4 w 45 #[.bool na, .slice A n c, .bool nb, .slice B m d] 45 #[.bool na', .slice A' n' c', .bool nb', .slice B' m' d'] 43 #[.bool false, .slice none 0 0] 43 #[.bool false, .slice none 0 0]
  have hmx : Tryz.prog.follows .mixedOrders = true := by kernel_rfl
  have hA := hide (ha.below hB0)
  have hD := hide (hb.below hB0)
  replace hs := hide hs
  replace ht := hide ht
  replace h1 := hide h1
  replace h2 := hide h2
  have sz := hide hB0.size
  have hB := hide hB0
  clear ha hb hB0 s0
  replace q0 := hide q0
  replace q1 := hide q1
  replace q2 := hide q2
  replace q3 := hide q3
  obtain ⟨a0, a1, a2, a3, -⟩ := q0.out.four
  obtain ⟨b0, b1, b2, b3, -⟩ := q1.out.four
  replace hW0 := hide hW0
  go_enter Tryz.func123, Tryz.ntmps123
  go_wp2_with fail
  rw [hW0.out]
  clear hW0
  refine wp_held [19] (fun W' => W'.cell? ⟨w.heap.size, 0, none⟩ = some (.bool na) ∧ W'.cell? ⟨w.heap.size, 1, none⟩ = some (.slice A n c) ∧ W'.cell? ⟨w.heap.size, 2, none⟩ = some (.bool nb) ∧ W'.cell? ⟨w.heap.size, 3, none⟩ = some (.slice B m d) ∧ W'.cell? ⟨w.heap.size + 1, 0, none⟩ = some (.bool na') ∧ W'.cell? ⟨w.heap.size + 1, 1, none⟩ = some (.slice A' n' c') ∧ W'.cell? ⟨w.heap.size + 1, 2, none⟩ = some (.bool nb') ∧ W'.cell? ⟨w.heap.size + 1, 3, none⟩ = some (.slice B' m' d')) hmx ⟨a0, a1, a2, a3, b0, b1, b2, b3⟩ (fun _ => ?_)
  refine wpAnyL_take (i := 0) (v := ?v1) rfl (by kernel_rfl) (by kernel_rfl) (by kernel_rfl) (by kernel_rfl) (by kernel_rfl) (Or.inl ⟨by rfl, ?hy1⟩) ⟨a0, a1, a2, a3, b0, b1, b2, b3⟩ ?rest1
  case hy1 => (intro W2 hSw; (try dsimp only at hSw); go_simp; try with_reducible rfl)
  try simp only [Act.put, List.setIfInBounds_toArray, List.set_cons_zero, List.set_cons_succ]
  refine wpAnyL_take (i := 1) (v := ?v2) rfl (by kernel_rfl) (by kernel_rfl) (by kernel_rfl) (by kernel_rfl) (by kernel_rfl) (Or.inl ⟨by rfl, ?hy2⟩) ⟨a0, a1, a2, a3, b0, b1, b2, b3⟩ ?rest2
  case hy2 => (intro W2 hSw; (try dsimp only at hSw); go_simp; try with_reducible rfl)
  try simp only [Act.put, List.setIfInBounds_toArray, List.set_cons_zero, List.set_cons_succ]
  refine wpAnyL_take (i := 3) (v := ?v3) rfl (by kernel_rfl) (by kernel_rfl) (by kernel_rfl) (by kernel_rfl) (by kernel_rfl) (Or.inl ⟨by rfl, ?hy3⟩) ⟨a0, a1, a2, a3, b0, b1, b2, b3⟩ ?rest3
  case hy3 => (intro W2 hSw; (try dsimp only at hSw); go_simp; try with_reducible rfl)
  try simp only [Act.put, List.setIfInBounds_toArray, List.set_cons_zero, List.set_cons_succ]
  refine wpAnyL_take (i := 4) (v := ?v4) rfl (by kernel_rfl) (by kernel_rfl) (by kernel_rfl) (by kernel_rfl) (by kernel_rfl) (Or.inl ⟨by rfl, ?hy4⟩) ⟨a0, a1, a2, a3, b0, b1, b2, b3⟩ ?rest4
  case hy4 => (intro W2 hSw; (try dsimp only at hSw); go_simp; try with_reducible rfl)
  try simp only [Act.put, List.setIfInBounds_toArray, List.set_cons_zero, List.set_cons_succ]
  refine wpAnyL_take (i := 10) (v := ?v5) rfl (by kernel_rfl) (by kernel_rfl) (by kernel_rfl) (by kernel_rfl) (by kernel_rfl) (Or.inl ⟨by rfl, ?hy5⟩) ⟨a0, a1, a2, a3, b0, b1, b2, b3⟩ ?rest5
  case hy5 => (intro W2 hSw; (try dsimp only at hSw); go_simp; try with_reducible rfl)
  try simp only [Act.put, List.setIfInBounds_toArray, List.set_cons_zero, List.set_cons_succ]
  refine wpAnyL_take (i := 11) (v := ?v6) rfl (by kernel_rfl) (by kernel_rfl) (by kernel_rfl) (by kernel_rfl) (by kernel_rfl) (Or.inl ⟨by rfl, ?hy6⟩) ⟨a0, a1, a2, a3, b0, b1, b2, b3⟩ ?rest6
  case hy6 => (intro W2 hSw; (try dsimp only at hSw); go_simp; try with_reducible rfl)
  try simp only [Act.put, List.setIfInBounds_toArray, List.set_cons_zero, List.set_cons_succ]
  refine wpAnyL_take (i := 12) (v := ?v7) rfl (by kernel_rfl) (by kernel_rfl) (by kernel_rfl) (by kernel_rfl) (by kernel_rfl) (Or.inl ⟨by rfl, ?hy7⟩) ⟨a0, a1, a2, a3, b0, b1, b2, b3⟩ ?rest7
  case hy7 => (intro W2 hSw; (try dsimp only at hSw); go_simp; try with_reducible rfl)
  try simp only [Act.put, List.setIfInBounds_toArray, List.set_cons_zero, List.set_cons_succ]
  refine wpAnyL_take (i := 13) (v := ?v8) rfl (by kernel_rfl) (by kernel_rfl) (by kernel_rfl) (by kernel_rfl) (by kernel_rfl) (Or.inl ⟨by rfl, ?hy8⟩) ⟨a0, a1, a2, a3, b0, b1, b2, b3⟩ ?rest8
  case hy8 => (intro W2 hSw; (try dsimp only at hSw); go_simp; try with_reducible rfl)
  try simp only [Act.put, List.setIfInBounds_toArray, List.set_cons_zero, List.set_cons_succ]
  refine wpAnyL_one (i := 2) rfl (by kernel_rfl) (fun K hK => ?_)
  go_simp
  refine (cross_ok na nb na' nb' A B A' B' n c m d n' c' m' d' a b W0.drew hA.out hD.out h1.out).mono ?_
  rintro e w1 ⟨hb1, nu, U, k1, u, rfl, hU⟩
  replace hb1 := below_drewL hb1
  replace hU := hide hU
  replace q0 := hide (keep_blk hb1 q0.out)
  replace q1 := hide (keep_blk hb1 q1.out)
  replace q2 := hide (keep_blk hb1 q2.out)
  replace q3 := hide (keep_blk hb1 q3.out)
  replace hA := hide (hA.out.below hb1)
  replace hD := hide (hD.out.below hb1)
  replace hB := hide (hB.out.trans (hb1.mono sz.out))
  replace sz := hide (Nat.le_trans sz.out hb1.size)
  clear a0 a1 a2 a3 b0 b1 b2 b3
  obtain ⟨a0, a1, a2, a3, -⟩ := q0.out.four
  obtain ⟨b0, b1, b2, b3, -⟩ := q1.out.four
  clear hb1
  refine hK.out _ _ (fun _ => ⟨a0, a1, a2, a3, b0, b1, b2, b3⟩) ?_
  clear hK K
  try simp only [Act.put, List.setIfInBounds_toArray, List.set_cons_zero, List.set_cons_succ]
  refine wpAnyL_one (i := 5) rfl (by kernel_rfl) (fun K hK => ?_)
  go_simp
  refine (cross_ok na' nb' na nb A' B' A B n' c' m' d' n c m d b a w1 hD.out hA.out h2.out).mono ?_
  rintro e w2 ⟨hb2, nv, V, k2, v, rfl, hV⟩
  replace hU := hide (hU.out.below hb2)
  replace hV := hide hV
  replace q0 := hide (keep_blk hb2 q0.out)
  replace q1 := hide (keep_blk hb2 q1.out)
  replace q2 := hide (keep_blk hb2 q2.out)
  replace q3 := hide (keep_blk hb2 q3.out)
  replace hA := hide (hA.out.below hb2)
  replace hD := hide (hD.out.below hb2)
  replace hB := hide (hB.out.trans (hb2.mono sz.out))
  replace sz := hide (Nat.le_trans sz.out hb2.size)
  clear a0 a1 a2 a3 b0 b1 b2 b3
  obtain ⟨a0, a1, a2, a3, -⟩ := q0.out.four
  obtain ⟨b0, b1, b2, b3, -⟩ := q1.out.four
  clear hb2
  refine hK.out _ _ (fun _ => ⟨a0, a1, a2, a3, b0, b1, b2, b3⟩) ?_
  clear hK K
  try simp only [Act.put, List.setIfInBounds_toArray, List.set_cons_zero, List.set_cons_succ]
  refine wpAnyL_one (i := 6) rfl (by kernel_rfl) (fun K hK => ?_)
  go_simp
  refine (Sub_ok nu nv U V k1 u k2 v _ _ w2 hU.out hV.out).mono ?_
  rintro e w3 ⟨hb3, np, P, k, q, code, rfl, hR⟩
  have hP := hide (hR.small hs.out)
  have hcode := hR.code0 hs.out
  subst hcode
  clear hs hR hU hV
  replace q0 := hide (keep_blk hb3 q0.out)
  replace q1 := hide (keep_blk hb3 q1.out)
  replace q2 := hide (keep_blk hb3 q2.out)
  replace q3 := hide (keep_blk hb3 q3.out)
  replace hA := hide (hA.out.below hb3)
  replace hD := hide (hD.out.below hb3)
  replace hB := hide (hB.out.trans (hb3.mono sz.out))
  replace sz := hide (Nat.le_trans sz.out hb3.size)
  clear a0 a1 a2 a3 b0 b1 b2 b3
  obtain ⟨a0, a1, a2, a3, -⟩ := q0.out.four
  obtain ⟨b0, b1, b2, b3, -⟩ := q1.out.four
  clear hb3
  refine hK.out _ _ (fun _ => ⟨a0, a1, a2, a3, b0, b1, b2, b3⟩) ?_
  clear hK K
  try simp only [Act.put, List.setIfInBounds_toArray, List.set_cons_zero, List.set_cons_succ]
  refine wpAnyL_take (i := 7) (v := ?v9) rfl (by kernel_rfl) (by kernel_rfl) (by kernel_rfl) (by kernel_rfl) (by kernel_rfl) (Or.inl ⟨by rfl, ?hy9⟩) ⟨a0, a1, a2, a3, b0, b1, b2, b3⟩ ?rest9
  case hy9 => (intro W2 hSw; (try dsimp only at hSw); go_simp; try with_reducible rfl)
  try simp only [Act.put, List.setIfInBounds_toArray, List.set_cons_zero, List.set_cons_succ]
  refine wpAnyL_take (i := 8) (v := ?v10) rfl (by kernel_rfl) (by kernel_rfl) (by kernel_rfl) (by kernel_rfl) (by kernel_rfl) (Or.inl ⟨by rfl, ?hy10⟩) ⟨a0, a1, a2, a3, b0, b1, b2, b3⟩ ?rest10
  case hy10 => (intro W2 hSw; (try dsimp only at hSw); go_simp; try with_reducible rfl)
  try simp only [Act.put, List.setIfInBounds_toArray, List.set_cons_zero, List.set_cons_succ]
  refine wpAnyL_one (i := 9) rfl (by kernel_rfl) (fun K hK => ?_)
  go_simp
  refine (must_ok np P k q w3).mono ?_
  rintro e w4 ⟨rfl, hb4⟩
  replace hP := hide (hP.out.below hb4)
  replace q0 := hide (keep_blk hb4 q0.out)
  replace q1 := hide (keep_blk hb4 q1.out)
  replace q2 := hide (keep_blk hb4 q2.out)
  replace q3 := hide (keep_blk hb4 q3.out)
  replace hA := hide (hA.out.below hb4)
  replace hD := hide (hD.out.below hb4)
  replace hB := hide (hB.out.trans (hb4.mono sz.out))
  replace sz := hide (Nat.le_trans sz.out hb4.size)
  clear a0 a1 a2 a3 b0 b1 b2 b3
  obtain ⟨a0, a1, a2, a3, -⟩ := q0.out.four
  obtain ⟨b0, b1, b2, b3, -⟩ := q1.out.four
  clear hb4
  refine hK.out _ _ (fun _ => ⟨a0, a1, a2, a3, b0, b1, b2, b3⟩) ?_
  clear hK K
  try simp only [Act.put, List.setIfInBounds_toArray, List.set_cons_zero, List.set_cons_succ]
  refine wpAnyL_one (i := 14) rfl (by kernel_rfl) (fun K hK => ?_)
  go_simp
  refine (Mul_ok nb nb' B B' m d m' d' a.den b.den w4 hA.out.2 hD.out.2).mono ?_
  rintro e w5 ⟨hb5, np', P', k', q', code, rfl, hR⟩
  replace hP := hide (hP.out.below hb5)
  have hP' := hide (hR.small ht.out)
  have hcode := hR.code0 ht.out
  subst hcode
  clear ht hR
  replace q0 := hide (keep_blk hb5 q0.out)
  replace q1 := hide (keep_blk hb5 q1.out)
  replace q2 := hide (keep_blk hb5 q2.out)
  replace q3 := hide (keep_blk hb5 q3.out)
  replace hA := hide (hA.out.below hb5)
  replace hD := hide (hD.out.below hb5)
  replace hB := hide (hB.out.trans (hb5.mono sz.out))
  replace sz := hide (Nat.le_trans sz.out hb5.size)
  clear a0 a1 a2 a3 b0 b1 b2 b3
  obtain ⟨a0, a1, a2, a3, -⟩ := q0.out.four
  obtain ⟨b0, b1, b2, b3, -⟩ := q1.out.four
  clear hb5
  refine hK.out _ _ (fun _ => ⟨a0, a1, a2, a3, b0, b1, b2, b3⟩) ?_
  clear hK K
  try simp only [Act.put, List.setIfInBounds_toArray, List.set_cons_zero, List.set_cons_succ]
  refine wpAnyL_take (i := 15) (v := ?v11) rfl (by kernel_rfl) (by kernel_rfl) (by kernel_rfl) (by kernel_rfl) (by kernel_rfl) (Or.inl ⟨by rfl, ?hy11⟩) ⟨a0, a1, a2, a3, b0, b1, b2, b3⟩ ?rest11
  case hy11 => (intro W2 hSw; (try dsimp only at hSw); go_simp; try with_reducible rfl)
  try simp only [Act.put, List.setIfInBounds_toArray, List.set_cons_zero, List.set_cons_succ]
  refine wpAnyL_take (i := 16) (v := ?v12) rfl (by kernel_rfl) (by kernel_rfl) (by kernel_rfl) (by kernel_rfl) (by kernel_rfl) (Or.inl ⟨by rfl, ?hy12⟩) ⟨a0, a1, a2, a3, b0, b1, b2, b3⟩ ?rest12
  case hy12 => (intro W2 hSw; (try dsimp only at hSw); go_simp; try with_reducible rfl)
  try simp only [Act.put, List.setIfInBounds_toArray, List.set_cons_zero, List.set_cons_succ]
  refine wpAnyL_one (i := 17) rfl (by kernel_rfl) (fun K hK => ?_)
  go_simp
  refine (must_ok np' P' k' q' w5).mono ?_
  rintro e w6 ⟨rfl, hb6⟩
  replace hP := hide (hP.out.below hb6)
  replace hP' := hide (hP'.out.below hb6)
  replace q0 := hide (keep_blk hb6 q0.out)
  replace q1 := hide (keep_blk hb6 q1.out)
  replace q2 := hide (keep_blk hb6 q2.out)
  replace q3 := hide (keep_blk hb6 q3.out)
  replace hA := hide (hA.out.below hb6)
  replace hD := hide (hD.out.below hb6)
  replace hB := hide (hB.out.trans (hb6.mono sz.out))
  replace sz := hide (Nat.le_trans sz.out hb6.size)
  clear a0 a1 a2 a3 b0 b1 b2 b3
  obtain ⟨a0, a1, a2, a3, -⟩ := q0.out.four
  obtain ⟨b0, b1, b2, b3, -⟩ := q1.out.four
  clear hb6
  obtain ⟨x0, x1, f0, f1⟩ := q2.out.two
  refine hK.out _ _ (fun _ => ⟨a0, a1, a2, a3, b0, b1, b2, b3⟩) ?_
  clear hK K
  try simp only [Act.put, List.setIfInBounds_toArray, List.set_cons_zero, List.set_cons_succ]
  refine wpAnyL_one (i := 18) rfl (by kernel_rfl) (fun K hK => ?_)
  go_simp
  obtain ⟨W5, hW5, hB5, q2', kW, kB, s5⟩ := set_num np P k q hB.out (by omega) q2.out
  rw [hW5]
  clear hW5 x0 x1 f0 f1 a0 a1 a2 a3 b0 b1 b2 b3 hA hD
  replace q0 := kB _ _ _ (by omega) q0.out
  replace q1 := kB _ _ _ (by omega) q1.out
  obtain ⟨a0, a1, a2, a3, -⟩ := q0.four
  obtain ⟨b0, b1, b2, b3, -⟩ := q1.four
  replace q3 := hide (kB _ _ _ (by omega) q3.out)
  replace hP := hide (kW _ _ _ _ _ hP.out)
  replace hP' := hide (kW _ _ _ _ _ hP'.out)
  clear kW kB q2 hB q0 q1
  obtain ⟨y0, y1, g0, g1⟩ := q3.out.two
  refine hK.out _ _ (fun _ => ⟨a0, a1, a2, a3, b0, b1, b2, b3⟩) ?_
  clear hK K
  try simp only [Act.put, List.setIfInBounds_toArray, List.set_cons_zero, List.set_cons_succ]
  refine wpAnyL_late (i := 19) rfl (by kernel_rfl) (by kernel_rfl) (fun K hK => ?_)
  go_simp
  obtain ⟨W6, hW6, hB6, q3', kW, kB, s6⟩ := set_num np' P' k' q' hB5 (by omega) q3.out
  rw [hW6]
  clear hW6 y0 y1 g0 g1 a0 a1 a2 a3 b0 b1 b2 b3
  replace q2' := kB _ _ _ (by omega) q2'
  replace hP := hide (kW _ _ _ _ _ hP.out)
  replace hP' := hide (kW _ _ _ _ _ hP'.out)
  clear kW kB q3 hB5
  refine hK.out _ _ ?_
  clear hK K
  try simp only [Act.put, List.setIfInBounds_toArray, List.set_cons_zero, List.set_cons_succ]
  refine wpAnyL_done (by kernel_rfl) ?_ _
  refine OnlyNormal.normal ?_
  obtain ⟨r0, r1, -⟩ := q2'.two
  obtain ⟨r2, r3, -⟩ := q3'.two
  go_wp2_with fail
  refine bodyPost_ret (v := .tuple #[.agg #[.bool np, .slice P k q], .agg #[.bool np', .slice P' k' q']]) (by simp [results, Tryz.results123, go_sem, r0, r1, r2, r3]) rfl ?_
  exact ⟨hB6, _, _, _, _, _, _, _, _, rfl, hP.out, hP'.out⟩
end Go.Proofs.YtigdclhagmnopaaGreat

namespace Go.Proofs.YtigdclhagmnopaaGreat
open Go.RowKit
attribute [local go_sem] add_lit

theorem fCheck_ok (na nb : Bool) (A B : Option Addr) (n c m d : Nat) (r : Rat) (w : World) (h : Fr w na A n c nb B m d r) :
    Calls Tryz.prog 104 #[.agg #[.bool na, .slice A n c, .bool nb, .slice B m d]] w fun e w' => e = .returned (.int .i64 0) ∧ Below w.heap.size w w' := by
  have hn := h.neg
  subst hn
  have hl := low_rat r
  exact fCheck_pos na A B n c m d r.num r.den w h.1 h.2 hl.1 true (by rw [hl.2]; rfl)

set_option maxRecDepth 100000 in
set_option maxHeartbeats 2000000 in
theorem both_ok (F : FuncId) (na nb na' nb' : Bool) (A B A' B' : Option Addr) (n c m d n' c' m' d' : Nat) (a b : Rat) (X Y : Int) (w : World) (ha : Fr w na A n c nb B m d a) (hb : Fr w na' A' n' c' nb' B' m' d' b) (hY : 0 < Y) (hcf : ∀ (x y : Value) (W : World), (callFunc F #[x, y]).run Tryz.prog W = .ok (.enter F #[x, y]) W)
    (hF : ∀ W : World, Fr W na A n c nb B m d a → Fr W na' A' n' c' nb' B' m' d' b → Calls Tryz.prog F #[.agg #[.bool na, .slice A n c, .bool nb, .slice B m d], .agg #[.bool na', .slice A' n' c', .bool nb', .slice B' m' d']] W (PairW W X Y)) :
    Calls Tryz.prog 119 #[.agg #[.bool na, .slice A n c, .bool nb, .slice B m d], .agg #[.bool na', .slice A' n' c', .bool nb', .slice B' m' d'], .func (.func F) #[] #[]] w (FracE w (Rat.divInt X Y)) := by
  obtain ⟨W0, hW0, hB0, ⟨q0, q1, q2, q3⟩, s0⟩ := alloc4 w 45 #[.bool na, .slice A n c, .bool nb, .slice B m d] 45 #[.bool na', .slice A' n' c', .bool nb', .slice B' m' d'] 45 #[.bool false, .slice none 0 0, .bool false, .slice none 0 0] 24 #[.int .i64 0]
  have hA := hide (ha.below hB0)
  have hD := hide (hb.below hB0)
  replace hF := hide hF
  clear ha hb
  replace hW0 := hide hW0
  obtain ⟨a0, a1, a2, a3, -⟩ := q0.four
  have hq := hide (And.intro q0 (And.intro q1 (And.intro q2 q3)))
  clear q0 q1 q2 q3
  go_enter_defers Tryz.func119, Tryz.ntmps119
  have hW0' := hW0.out
  go_wp2_with fail
  clear hW0 hW0'
  refine (fCheck_ok na nb A B n c m d a W0 hA.out).mono ?_
  rintro e w1 ⟨rfl, hb1⟩
  have hB1 : Below w.heap.size w w1 := hB0.trans (hb1.mono hB0.size)
  have s1 : W0.heap.size ≤ w1.heap.size := hb1.size
  replace hA := hide (hA.out.below hb1)
  replace hD := hide (hD.out.below hb1)
  obtain ⟨q0, q1, q2, q3⟩ := hq.out
  replace q0 := keep_blk hb1 q0
  replace q1 := keep_blk hb1 q1
  replace q2 := keep_blk hb1 q2
  replace q3 := keep_blk hb1 q3
  clear hq hb1 hB0 a0 a1 a2 a3
  obtain ⟨b0, b1, b2, b3, -⟩ := q1.four
  have hq := hide (And.intro q0 (And.intro q1 (And.intro q2 q3)))
  clear q0 q1 q2 q3
  go_wp2_with fail
  refine (want_ok w1).mono ?_
  rintro e w1 ⟨rfl, rfl⟩
  go_wp2_with fail
  refine (fCheck_ok na' nb' A' B' n' c' m' d' b w1 hD.out).mono ?_
  rintro e w2 ⟨rfl, hb2⟩
  have hB2 : Below w.heap.size w w2 := hB1.trans (hb2.mono hB1.size)
  have s2 : w1.heap.size ≤ w2.heap.size := hb2.size
  replace hA := hide (hA.out.below hb2)
  replace hD := hide (hD.out.below hb2)
  obtain ⟨q0, q1, q2, q3⟩ := hq.out
  replace q0 := keep_blk hb2 q0
  replace q1 := keep_blk hb2 q1
  replace q2 := keep_blk hb2 q2
  replace q3 := keep_blk hb2 q3
  clear hq hb2 hB1 b0 b1 b2 b3
  obtain ⟨a0, a1, a2, a3, -⟩ := q0.four
  obtain ⟨b0, b1, b2, b3, -⟩ := q1.four
  have hq := hide (And.intro q2 q3)
  clear q0 q1 q2 q3
  go_wp2_with fail
  refine (want_ok w2).mono ?_
  rintro e w2 ⟨rfl, rfl⟩
  go_wp2_with fail
  refine (hF.out w2 hA.out hD.out).mono ?_
  rintro e w3 ⟨hb3, nu, U, k1, u, nv, V, k2, v, rfl, hU, hV⟩
  have hB3 : Below w.heap.size w w3 := hB2.trans (hb3.mono hB2.size)
  have s3 : w2.heap.size ≤ w3.heap.size := hb3.size
  have hn : nv = false := by rw [hV.1]; simp; omega
  subst hn
  have q2 := keep_blk hb3 hq.out.1
  have q3 := keep_blk hb3 hq.out.2
  clear hq hb3 hB2 a0 a1 a2 a3 b0 b1 b2 b3 hA hD hF
  have hq := hide (And.intro q2 q3)
  replace hU := hide hU
  replace hV := hide hV
  clear q2 q3
  go_wp2_with fail
  refine (reduce_pos nu U V k1 u k2 v X Y w3 hU.out hV.out hY).mono ?_
  rintro e w4 ⟨hb4, nx, Ax, kx, cx, ny, Ay, ky, cy, rfl, hF⟩
  have hB4 : Below w.heap.size w w4 := hB3.trans (hb4.mono hB3.size)
  have s4 : w3.heap.size ≤ w4.heap.size := hb4.size
  have q2 := keep_blk hb4 hq.out.1
  have q3 := keep_blk hb4 hq.out.2
  clear hq hb4 hU hV hB3
  have c2 := hide q2.four
  have c3 := q3.cell 0
  have f3 := q3.frozen 0
  simp at c3
  obtain ⟨c20, c21, c22, c23, f20, f21, f22, f23⟩ := c2.out
  have hq := hide (And.intro q2 q3)
  clear q2 q3
  go_wp2_with fail
  obtain ⟨W5, hW5, hB5, q2, kW, kB, s5⟩ := set_frac nx Ax kx cx ny Ay ky cy hB4 (by omega) hq.out.1
  have q3 := kB _ _ _ (by omega) hq.out.2
  have HX5 := hide (kW _ _ _ _ _ hF.1)
  have HY5 := hide (kW _ _ _ _ _ hF.2)
  rw [hW5]
  clear kW kB c20 c21 c22 c23 c3 f3 f20 f21 f22 f23 hq hF
  obtain ⟨W6, hW6, hB6, q3, kW, kB, s6⟩ := set_code 0 hB5 (by omega) q3
  replace q2 := kB _ _ _ (by omega) q2
  have HX6 := hide (kW _ _ _ _ _ HX5.out)
  have HY6 := hide (kW _ _ _ _ _ HY5.out)
  rw [hW6]
  obtain ⟨r0, r1, r2, r3, -⟩ := q2.four
  have r4 := q3.cell 0
  simp at r4
  clear kW kB hB5 HX5 HY5 hW5 hW6
  refine leaves_cons (f := 102) (args := #[.pointer (some ⟨w.heap.size + 1 + 1 + 1, 0, none⟩)]) (by simp) (by simp [go_sem]) ?_
  refine (catch_idle _ _).mono ?_
  rintro e u' w'' ⟨rfl, rfl, rfl⟩
  refine ⟨.tuple #[.agg #[.bool nx, .slice Ax kx cx, .bool ny, .slice Ay ky cy], .int .i64 0], by simp [results, Tryz.results119, go_sem, r0, r1, r2, r3, r4], ?_⟩
  exact ⟨hB6, _, _, _, _, _, _, _, _, rfl, HX6.out, HY6.out⟩

set_option maxRecDepth 100000 in
theorem Mul1_enter (x y : Value) (W : World) : (callFunc 120 #[x, y]).run Tryz.prog W = .ok (.enter 120 #[x, y]) W := by simp [go_sem]
theorem Sub1_enter (x y : Value) (W : World) : (callFunc 123 #[x, y]).run Tryz.prog W = .ok (.enter 123 #[x, y]) W := by simp [go_sem]
end Go.Proofs.YtigdclhagmnopaaGreat
