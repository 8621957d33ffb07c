/- Reference of frac: Check, both of valid fractions. Reference of frac: both of valid fractions. -/
import Derived.Test.YtkippclhbkjbmaaGreatZm33
import Derived.Test.YtkippclhbkjbmaaGreatZm25
import Derived.Test.YtkippclhbkjbmaaGreatZm28
set_option linter.unusedSimpArgs false
set_option linter.unusedVariables false

namespace Go.Proofs.YtkippclhbkjbmaaGreat
open Go.RowKit
attribute [local go_sem] add_lit

set_option maxRecDepth 100000 in
set_option maxHeartbeats 1000000 in
theorem rfCheck_ok (na nb : Bool) (A B : Option Addr) (n c m d : Nat) (r : Rat) (w : World) (h : Fr w na A n c nb B m d r) :
    Calls Tryz.prog 100 #[.agg #[.bool na, .slice A n c, .bool nb, .slice B m d]] w fun e w' => e = .returned (.int .i64 0) ∧ Below w.heap.size w w' := by
  have hn := h.neg
  subst hn
  have hmx : Tryz.prog.follows .mixedOrders = true := by kernel_rfl
  have hl := low_rat r
  have hm0 : 0 < m := by rw [← h.2.lim.len]; exact length_digits_pos.2 (by have := hl.1; omega)
  have hm0' : ((m : Int) == 0) = false := by simp; omega
  have hm := h.2.2.1
  obtain ⟨W0, hW0, hB0, q0, s0⟩ := alloc1 w 32 #[.bool na, .slice A n c, .bool false, .slice B m d]
  have hA := hide (h.below hB0)
  clear h
  obtain ⟨a0, a1, a2, a3, -⟩ := q0.four
  replace q0 := hide q0
  go_enter Tryz.func100, Tryz.ntmps100
  go_wp2_with fail
  refine (rCheck_ok hA.out.1.lim hA.out.1.ok).mono ?_
  rintro e w1 ⟨rfl, hb1⟩
  have hB1 : Below w.heap.size w w1 := hB0.trans (hb1.mono hB0.size)
  replace hA := hide (hA.out.below hb1)
  replace q0 := hide (keep_blk hb1 q0.out)
  clear a0 a1 a2 a3 hb1 hB0 hW0
  obtain ⟨a0, a1, a2, a3, -⟩ := q0.out.four
  go_wp2_with fail
  refine (rCheck_ok hA.out.2.lim hA.out.2.ok).mono ?_
  rintro e w2 ⟨rfl, hb2⟩
  have hB2 : Below w.heap.size w w2 := hB1.trans (hb2.mono hB1.size)
  replace hA := hide (hA.out.below hb2)
  replace q0 := hide (keep_blk hb2 q0.out)
  clear a0 a1 a2 a3 hb2 hB1
  obtain ⟨a0, a1, a2, a3, -⟩ := q0.out.four
  go_wp2_with fail
  refine (rGcd_ok na false A B n c m d r.num r.den w2 hA.out.1 hA.out.2).mono ?_
  rw [hl.2]
  rintro e w3 ⟨hb3, ng, Ag, kg, cg, code, rfl, hR⟩
  have hG := hide (hR.small (pw_pos 4096 |> fun h => by have : pw 0 < pw 4096 := pw_lt (by decide); rw [pw_zero] at this; exact this))
  have hB3 : Below w.heap.size w w3 := hB2.trans (hb3.mono hB2.size)
  clear a0 a1 a2 a3 hb3 hB2 q0 hA hR
  obtain ⟨W4, hW4, hB4, q4, kW, kB, s4⟩ := new_obj 30 #[.bool ng, .slice Ag kg cg] hB3 hB3.size
  replace hG := hide (kW _ _ _ _ _ hG.out)
  clear kW kB
  obtain ⟨g0, g1, -⟩ := q4.two
  replace q4 := hide q4
  go_wp2_with fail
  refine wp_held [] (fun W' => W'.cell? ⟨w3.heap.size, 0, none⟩ = some (.bool ng) ∧ W'.cell? ⟨w3.heap.size, 1, none⟩ = some (.slice Ag kg cg)) hmx ⟨g0, g1⟩ (fun _ => ?_)
  refine wpAnyL_take (i := 0) (v := ?v1) rfl (by kernel_rfl) (by kernel_rfl) (by kernel_rfl) (by kernel_rfl) (by kernel_rfl) (Or.inl ⟨by rfl, ?hy1⟩) ⟨g0, g1⟩ ?rest1
  case hy1 => (intro W2 hSw; (try dsimp only at hSw); go_simp; try with_reducible rfl)
  try simp only [Act.put, List.setIfInBounds_toArray, List.set_cons_zero, List.set_cons_succ]
  refine wpAnyL_one (i := 1) rfl (by kernel_rfl) (fun K hK => ?_)
  go_simp
  refine (rFrom_any 1 W4.drew (by omega) (by omega)).mono ?_
  rintro e w5 ⟨hb5, n1, A1, k1, c1, rfl, hO⟩
  replace hb5 := below_drewL hb5
  have hB5 : Below w.heap.size w w5 := hB4.trans (hb5.mono (by show w.heap.size ≤ W4.heap.size; have := hB3.size; omega))
  replace hG := hide (hG.out.below hb5)
  replace q4 := hide (keep_blk hb5 q4.out)
  clear g0 g1
  obtain ⟨g0, g1, -⟩ := q4.out.two
  refine hK.out _ _ (fun _ => ⟨g0, g1⟩) ?_
  clear hK K
  try simp only [Act.put, List.setIfInBounds_toArray, List.set_cons_zero, List.set_cons_succ]
  refine wpAnyL_one (i := 2) rfl (by kernel_rfl) (fun K hK => ?_)
  go_simp
  refine (rSame_any ng n1 Ag A1 kg cg k1 c1 _ _ w5 hG.out.lim hO.lim).mono ?_
  have hsm : sameB ng n1 (digits (Int.natAbs ((1 : Nat) : Int))) (digits (Int.natAbs 1)) = true := by have h1 := hG.out.1; have h2 := hO.1; rw [h1, h2]; unfold sameB; simp [cmpL_digits, cmpZ]
  rw [hsm]
  rintro e w6 ⟨rfl, hb6⟩
  have hB6 : Below w.heap.size w w6 := hB5.trans (hb6.mono hB5.size)
  replace q4 := hide (keep_blk hb6 q4.out)
  clear g0 g1
  obtain ⟨g0, g1, -⟩ := q4.out.two
  refine hK.out _ _ (fun _ => ⟨g0, g1⟩) ?_
  clear hK K
  try simp only [Act.put, List.setIfInBounds_toArray, List.set_cons_zero, List.set_cons_succ]
  refine wpAnyL_take (i := 3) (v := ?v2) rfl (by kernel_rfl) (by kernel_rfl) (by kernel_rfl) (by kernel_rfl) (by kernel_rfl) (Or.inl ⟨by rfl, ?hy2⟩) ⟨g0, g1⟩ ?rest2
  case hy2 => (intro W2 hSw; (try dsimp only at hSw); go_simp; try with_reducible rfl)
  try simp only [Act.put, List.setIfInBounds_toArray, List.set_cons_zero, List.set_cons_succ]
  refine wpAnyL_done (by kernel_rfl) ?_ _
  refine OnlyNormal.normal ?_
  go_wp2_with fail
  go_ret
  exact ⟨rfl, hB6⟩
end Go.Proofs.YtkippclhbkjbmaaGreat

namespace Go.Proofs.YtkippclhbkjbmaaGreat
open Go.RowKit
attribute [local go_sem] add_lit

set_option maxRecDepth 100000 in
set_option maxHeartbeats 1000000 in
theorem rfBoth_ok (na nb na' nb' : Bool) (A B A' B' : Option Addr) (n c m d n' c' m' d' : Nat) (a b : Rat) (w : World) (ha : Fr w na A n c nb B m d a) (hb : Fr w na' A' n' c' nb' B' m' d' b) :
    Calls Tryz.prog 82 #[.agg #[.bool na, .slice A n c, .bool nb, .slice B m d], .agg #[.bool na', .slice A' n' c', .bool nb', .slice B' m' d']] w fun e w' => e = .returned (.int .i64 0) ∧ Below w.heap.size w w' := by
  obtain ⟨W0, hW0, hB0, ⟨q0, q1⟩, s0⟩ := alloc2 w 32 #[.bool na, .slice A n c, .bool nb, .slice B m d] 32 #[.bool na', .slice A' n' c', .bool nb', .slice B' m' d']
  have hA := hide (ha.below hB0)
  have hD := hide (hb.below hB0)
  clear ha hb
  obtain ⟨a0, a1, a2, a3, -⟩ := q0.four
  replace q1 := hide q1
  clear q0
  go_enter Tryz.func82, Tryz.ntmps82
  go_wp2_with fail
  refine (rfCheck_ok na nb A B n c m d a W0 hA.out).mono ?_
  rintro e w1 ⟨rfl, hb1⟩
  have hB1 : Below w.heap.size w w1 := hB0.trans (hb1.mono hB0.size)
  replace hD := hide (hD.out.below hb1)
  have q1' := keep_blk hb1 q1.out
  obtain ⟨b0, b1, b2, b3, -⟩ := q1'.four
  clear hW0 hb1 a0 a1 a2 a3 q1' q1 hA
  go_wp2_with fail
  refine (rfCheck_ok na' nb' A' B' n' c' m' d' b w1 hD.out).mono ?_
  rintro e w2 ⟨rfl, hb2⟩
  have hB2 : Below w.heap.size w w2 := hB1.trans (hb2.mono hB1.size)
  go_wp2_with fail
  go_ret
  exact ⟨rfl, hB2⟩
end Go.Proofs.YtkippclhbkjbmaaGreat
