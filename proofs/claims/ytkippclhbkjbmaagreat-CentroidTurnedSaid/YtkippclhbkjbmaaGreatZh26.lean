/- Reference of frac: Make, Of, Whole. A region that draws its order, in a plain walk: by the laws of XRnd. Reference of frac: Check, both of valid fractions. -/
import Derived.Test.YtkippclhbkjbmaaGreatZh24
import Derived.Test.YtkippclhbkjbmaaGreatZh25
import Derived.Test.YtkippclhbkjbmaaGreatZh16
import Derived.Test.YtkippclhbkjbmaaGreatZh03
set_option linter.unusedSimpArgs false
set_option linter.unusedVariables false

namespace Go.Proofs.YtkippclhbkjbmaaGreat
open Go.RowKit
attribute [local go_sem] add_lit

set_option maxRecDepth 100000 in
set_option maxHeartbeats 1000000 in
theorem rMake_pos (na : Bool) (A B : Option Addr) (n c m d : Nat) (za zb : Int) (w : World) (ha : Wd w na A n c za) (hb : Wd w false B m d zb) (h0 : 0 < zb) :
    Calls Tryz.prog 80 #[.agg #[.bool na, .slice A n c], .agg #[.bool false, .slice B m d]] w (FracE w (Rat.divInt za zb)) := by
  have hm0 : 0 < m := by rw [← hb.lim.len]; exact length_digits_pos.2 (by omega)
  have hm0' : ((m : Int) == 0) = false := by simp; omega
  have hm := hb.2.1
  obtain ⟨W0, hW0, hB0, ⟨q0, q1, q2⟩, s0⟩ := alloc3 w 30 #[.bool na, .slice A n c] 30 #[.bool false, .slice B m d] 32 #[.bool false, .slice none 0 0, .bool false, .slice none 0 0]
  have HA := hide (ha.below hB0)
  have HB := hide (hb.below hB0)
  clear ha hb
  obtain ⟨c00, c01, -⟩ := q0.two
  have hq := hide (And.intro q0 (And.intro q1 q2))
  clear q0 q1 q2
  go_enter Tryz.func80, Tryz.ntmps80
  go_wp2_with fail
  refine (rCheck_ok HA.out.lim HA.out.ok).mono ?_
  rintro e w1 ⟨rfl, hb1⟩
  have hB1 : Below w.heap.size w w1 := hB0.trans (hb1.mono hB0.size)
  have s1 : W0.heap.size ≤ w1.heap.size := hb1.size
  replace HA := hide (HA.out.below hb1)
  replace HB := hide (HB.out.below hb1)
  obtain ⟨q0, q1, q2⟩ := hq.out
  replace q0 := keep_blk hb1 q0
  replace q1 := keep_blk hb1 q1
  replace q2 := keep_blk hb1 q2
  clear c00 c01 hq hb1 hB0 hW0
  obtain ⟨c10, c11, -⟩ := q1.two
  have hq := hide (And.intro q0 (And.intro q1 q2))
  clear q0 q1 q2
  go_wp2_with fail
  refine (rCheck_ok HB.out.lim HB.out.ok).mono ?_
  rintro e w2 ⟨rfl, hb2⟩
  have hB2 : Below w.heap.size w w2 := hB1.trans (hb2.mono hB1.size)
  have s2 : w1.heap.size ≤ w2.heap.size := hb2.size
  replace HA := hide (HA.out.below hb2)
  replace HB := hide (HB.out.below hb2)
  obtain ⟨q0, q1, q2⟩ := hq.out
  replace q0 := keep_blk hb2 q0
  replace q1 := keep_blk hb2 q1
  replace q2 := keep_blk hb2 q2
  clear c10 c11 hq hb2 hB1
  obtain ⟨c00, c01, -⟩ := q0.two
  obtain ⟨c10, c11, -⟩ := q1.two
  have hq := hide q2
  clear q0 q1 q2
  go_wp2_with fail
  refine (rReduced_pos na A B n c m d za zb w2 HA.out HB.out h0).mono ?_
  rintro e w3 ⟨hb3, nx, Ax, kx, cx, ny, Ay, ky, cy, rfl, hF⟩
  have hB3 : Below w.heap.size w w3 := hB2.trans (hb3.mono hB2.size)
  have s3 : w2.heap.size ≤ w3.heap.size := hb3.size
  replace hq := hide (keep_blk hb3 hq.out)
  replace hF := hide hF
  clear c00 c01 c10 c11 hb3 hB2 HA HB
  obtain ⟨c20, c21, c22, c23, f20, f21, f22, f23⟩ := hq.out.four
  go_wp2_with fail
  obtain ⟨W5, hW5, hB5, q2, kW, -, s5⟩ := set_frac nx Ax kx cx ny Ay ky cy hB3 (by omega) hq.out
  rw [hW5]
  obtain ⟨r0, r1, r2, r3, -⟩ := q2.four
  refine bodyPost_ret (v := .tuple #[.agg #[.bool nx, .slice Ax kx cx, .bool ny, .slice Ay ky cy], .int .i64 0]) (by simp [results, Tryz.results80, go_sem, r0, r1, r2, r3]) rfl ?_
  exact ⟨hB5, _, _, _, _, _, _, _, _, rfl, kW _ _ _ _ _ hF.out.1, kW _ _ _ _ _ hF.out.2⟩

set_option maxRecDepth 100000 in
set_option maxHeartbeats 1000000 in
theorem rOf_pos (x y : Int) (w : World) (hx1 : -9223372036854775808 ≤ x) (hx2 : x ≤ 9223372036854775807) (h0 : 0 < y) (hy : y ≤ 9223372036854775807) :
    Calls Tryz.prog 56 #[.int .i64 x, .int .i64 y] w (FracE w (Rat.divInt x y)) := by
  obtain ⟨W0, hW0, hB0, hq, s0⟩ := alloc1 w 32 #[.bool false, .slice none 0 0, .bool false, .slice none 0 0]
  replace hW0 := hide hW0
  replace hq := hide hq
  go_enter Tryz.func56, Tryz.ntmps56
  go_wp2_with fail
  rw [hW0.out]
  clear hW0
  refine (rFrom_any x W0 hx1 hx2).mono ?_
  rintro e w1 ⟨hb1, na, A, n, c, rfl, hA⟩
  have hB1 : Below w.heap.size w w1 := hB0.trans (hb1.mono (by omega))
  have s1 : W0.heap.size ≤ w1.heap.size := hb1.size
  replace hq := hide (keep_blk hb1 hq.out)
  replace hA := hide hA
  clear hb1 hB0
  go_wp2_with fail
  refine (rFrom_any y w1 (by omega) hy).mono ?_
  rintro e w2 ⟨hb2, nb, B, m, d, rfl, hB⟩
  have hB2 : Below w.heap.size w w2 := hB1.trans (hb2.mono (by omega))
  have s2 : w1.heap.size ≤ w2.heap.size := hb2.size
  replace hq := hide (keep_blk hb2 hq.out)
  replace hA := hide (hA.out.below hb2)
  have hn : nb = false := by rw [hB.1]; simp; omega
  subst hn
  replace hB := hide hB
  clear hb2 hB1
  go_wp2_with fail
  refine (rMake_pos na A B n c m d x y w2 hA.out hB.out h0).mono ?_
  rintro e w3 ⟨hb3, nx, Ax, kx, cx, ny, Ay, ky, cy, rfl, hF⟩
  have hB3 : Below w.heap.size w w3 := hB2.trans (hb3.mono (by omega))
  have s3 : w2.heap.size ≤ w3.heap.size := hb3.size
  replace hq := hide (keep_blk hb3 hq.out)
  obtain ⟨c20, c21, c22, c23, f20, f21, f22, f23⟩ := hq.out.four
  clear hb3 hB2
  replace hF := hide hF
  go_wp2_with fail
  obtain ⟨W5, hW5, hB5, q2, kW, -, s5⟩ := set_frac nx Ax kx cx ny Ay ky cy hB3 (by omega) hq.out
  rw [hW5]
  obtain ⟨r0, r1, r2, r3, -⟩ := q2.four
  refine bodyPost_ret (v := .tuple #[.agg #[.bool nx, .slice Ax kx cx, .bool ny, .slice Ay ky cy], .int .i64 0]) (by simp [results, Tryz.results56, go_sem, r0, r1, r2, r3]) rfl ?_
  exact ⟨hB5, _, _, _, _, _, _, _, _, rfl, kW _ _ _ _ _ hF.out.1, kW _ _ _ _ _ hF.out.2⟩

set_option maxRecDepth 100000 in
set_option maxHeartbeats 1000000 in
theorem rWhole_ok (x : Int) (w : World) (hx1 : -9223372036854775808 ≤ x) (hx2 : x ≤ 9223372036854775807) :
    Calls Tryz.prog 57 #[.int .i64 x] w (FracW w (x : Rat)) := by
  obtain ⟨W0, hW0, hB0, hq, s0⟩ := alloc1 w 32 #[.bool false, .slice none 0 0, .bool false, .slice none 0 0]
  replace hq := hide hq
  go_enter Tryz.func57, Tryz.ntmps57
  go_wp2_with fail
  refine (rFrom_any x W0 hx1 hx2).mono ?_
  rintro e w1 ⟨hb1, na, A, n, c, rfl, hA⟩
  have hB1 : Below w.heap.size w w1 := hB0.trans (hb1.mono (by omega))
  have s1 : W0.heap.size ≤ w1.heap.size := hb1.size
  replace hq := hide (keep_blk hb1 hq.out)
  replace hA := hide hA
  clear hb1 hB0 hW0
  go_wp2_with fail
  refine (rFrom_any 1 w1 (by omega) (by omega)).mono ?_
  rintro e w2 ⟨hb2, nb, B, m, d, rfl, hB⟩
  have hB2 : Below w.heap.size w w2 := hB1.trans (hb2.mono (by omega))
  have s2 : w1.heap.size ≤ w2.heap.size := hb2.size
  replace hq := hide (keep_blk hb2 hq.out)
  replace hA := hide (hA.out.below hb2)
  replace hB := hide hB
  clear hb2 hB1
  obtain ⟨c20, c21, c22, c23, f20, f21, f22, f23⟩ := hq.out.four
  go_wp2_with fail
  obtain ⟨W5, hW5, hB5, q2, kW, -, s5⟩ := set_frac na A n c nb B m d hB2 (by omega) hq.out
  rw [hW5]
  obtain ⟨r0, r1, r2, r3, -⟩ := q2.four
  refine bodyPost_ret (v := .agg #[.bool na, .slice A n c, .bool nb, .slice B m d]) (by simp [results, Tryz.results57, go_sem, r0, r1, r2, r3]) rfl ?_
  exact ⟨hB5, _, _, _, _, _, _, _, _, rfl, kW _ _ _ _ _ hA.out, kW _ _ _ _ _ hB.out⟩
end Go.Proofs.YtkippclhbkjbmaaGreat

namespace Go.Proofs.YtkippclhbkjbmaaGreat
open Go.RowKit

theorem OnlyNormal.imp {Q : Exit → Act → World → Prop} (e : Exit) (a : Act) (w : World) (h : OnlyNormal Q e a w) : Q e a w := by
  cases e <;> first | exact h | exact (h : False).elim

theorem wp_held {P : Program} {id : Nat} {ops : Array Oper} {Q : Exit → Act → World → Prop} {a : Act} {w : World} (L : List Nat) (S : World → Prop) (hm : P.follows .mixedOrders = true)
    (hS : S w.drew) (h : S w.drew → wpAnyL P .any ops (OnlyNormal Q) L S ops.size (Array.replicate ops.size false) a w.drew) : (Code.region id ops true).wp P Q a w :=
  Code.wp_mono OnlyNormal.imp (wp_region_any hm (wpAny_of_L _ _ _ _ (h hS)))
end Go.Proofs.YtkippclhbkjbmaaGreat

namespace Go.Proofs.YtkippclhbkjbmaaGreat
open Go.RowKit
attribute [local go_sem] add_lit

set_option maxRecDepth 100000 in
set_option maxHeartbeats 1000000 in
theorem rfCheck_ok (na nb : Bool) (A B : Option Addr) (n c m d : Nat) (r : Rat) (w : World) (h : Fr w na A n c nb B m d r) :
    Calls Tryz.prog 100 #[.agg #[.bool na, .slice A n c, .bool nb, .slice B m d]] w fun e w' => e = .returned (.int .i64 0) ∧ Below w.heap.size w w' := by
  have hn := h.neg
  subst hn
  have hmx : Tryz.prog.follows .mixedOrders = true := by kernel_rfl
  have hl := low_rat r
  have hm0 : 0 < m := by rw [← h.2.lim.len]; exact length_digits_pos.2 (by have := hl.1; omega)
  have hm0' : ((m : Int) == 0) = false := by simp; omega
  have hm := h.2.2.1
  obtain ⟨W0, hW0, hB0, q0, s0⟩ := alloc1 w 32 #[.bool na, .slice A n c, .bool false, .slice B m d]
  have hA := hide (h.below hB0)
  clear h
  obtain ⟨a0, a1, a2, a3, -⟩ := q0.four
  replace q0 := hide q0
  go_enter Tryz.func100, Tryz.ntmps100
  go_wp2_with fail
  refine (rCheck_ok hA.out.1.lim hA.out.1.ok).mono ?_
  rintro e w1 ⟨rfl, hb1⟩
  have hB1 : Below w.heap.size w w1 := hB0.trans (hb1.mono hB0.size)
  replace hA := hide (hA.out.below hb1)
  replace q0 := hide (keep_blk hb1 q0.out)
  clear a0 a1 a2 a3 hb1 hB0 hW0
  obtain ⟨a0, a1, a2, a3, -⟩ := q0.out.four
  go_wp2_with fail
  refine (rCheck_ok hA.out.2.lim hA.out.2.ok).mono ?_
  rintro e w2 ⟨rfl, hb2⟩
  have hB2 : Below w.heap.size w w2 := hB1.trans (hb2.mono hB1.size)
  replace hA := hide (hA.out.below hb2)
  replace q0 := hide (keep_blk hb2 q0.out)
  clear a0 a1 a2 a3 hb2 hB1
  obtain ⟨a0, a1, a2, a3, -⟩ := q0.out.four
  go_wp2_with fail
  refine (rGcd_ok na false A B n c m d r.num r.den w2 hA.out.1 hA.out.2).mono ?_
  rw [hl.2]
  rintro e w3 ⟨hb3, ng, Ag, kg, cg, code, rfl, hR⟩
  have hG := hide (hR.small (pw_pos 4096 |> fun h => by have : pw 0 < pw 4096 := pw_lt (by decide); rw [pw_zero] at this; exact this))
  have hB3 : Below w.heap.size w w3 := hB2.trans (hb3.mono hB2.size)
  clear a0 a1 a2 a3 hb3 hB2 q0 hA hR
  obtain ⟨W4, hW4, hB4, q4, kW, kB, s4⟩ := new_obj 30 #[.bool ng, .slice Ag kg cg] hB3 hB3.size
  replace hG := hide (kW _ _ _ _ _ hG.out)
  clear kW kB
  obtain ⟨g0, g1, -⟩ := q4.two
  replace q4 := hide q4
  go_wp2_with fail
  refine wp_held [] (fun W' => W'.cell? ⟨w3.heap.size, 0, none⟩ = some (.bool ng) ∧ W'.cell? ⟨w3.heap.size, 1, none⟩ = some (.slice Ag kg cg)) hmx ⟨g0, g1⟩ (fun _ => ?_)
  refine wpAnyL_take (i := 0) (v := ?v1) rfl (by kernel_rfl) (by kernel_rfl) (by kernel_rfl) (by kernel_rfl) (by kernel_rfl) (Or.inl ⟨by rfl, ?hy1⟩) ⟨g0, g1⟩ ?rest1
  case hy1 => (intro W2 hSw; (try dsimp only at hSw); go_simp; try with_reducible rfl)
  try simp only [Act.put, List.setIfInBounds_toArray, List.set_cons_zero, List.set_cons_succ]
  refine wpAnyL_one (i := 1) rfl (by kernel_rfl) (fun K hK => ?_)
  go_simp
  refine (rFrom_any 1 W4.drew (by omega) (by omega)).mono ?_
  rintro e w5 ⟨hb5, n1, A1, k1, c1, rfl, hO⟩
  replace hb5 := below_drewL hb5
  have hB5 : Below w.heap.size w w5 := hB4.trans (hb5.mono (by show w.heap.size ≤ W4.heap.size; have := hB3.size; omega))
  replace hG := hide (hG.out.below hb5)
  replace q4 := hide (keep_blk hb5 q4.out)
  clear g0 g1
  obtain ⟨g0, g1, -⟩ := q4.out.two
  refine hK.out _ _ (fun _ => ⟨g0, g1⟩) ?_
  clear hK K
  try simp only [Act.put, List.setIfInBounds_toArray, List.set_cons_zero, List.set_cons_succ]
  refine wpAnyL_one (i := 2) rfl (by kernel_rfl) (fun K hK => ?_)
  go_simp
  refine (rSame_any ng n1 Ag A1 kg cg k1 c1 _ _ w5 hG.out.lim hO.lim).mono ?_
  have hsm : sameB ng n1 (digits (Int.natAbs ((1 : Nat) : Int))) (digits (Int.natAbs 1)) = true := by have h1 := hG.out.1; have h2 := hO.1; rw [h1, h2]; unfold sameB; simp [cmpL_digits, cmpZ]
  rw [hsm]
  rintro e w6 ⟨rfl, hb6⟩
  have hB6 : Below w.heap.size w w6 := hB5.trans (hb6.mono hB5.size)
  replace q4 := hide (keep_blk hb6 q4.out)
  clear g0 g1
  obtain ⟨g0, g1, -⟩ := q4.out.two
  refine hK.out _ _ (fun _ => ⟨g0, g1⟩) ?_
  clear hK K
  try simp only [Act.put, List.setIfInBounds_toArray, List.set_cons_zero, List.set_cons_succ]
  refine wpAnyL_take (i := 3) (v := ?v2) rfl (by kernel_rfl) (by kernel_rfl) (by kernel_rfl) (by kernel_rfl) (by kernel_rfl) (Or.inl ⟨by rfl, ?hy2⟩) ⟨g0, g1⟩ ?rest2
  case hy2 => (intro W2 hSw; (try dsimp only at hSw); go_simp; try with_reducible rfl)
  try simp only [Act.put, List.setIfInBounds_toArray, List.set_cons_zero, List.set_cons_succ]
  refine wpAnyL_done (by kernel_rfl) ?_ _
  refine OnlyNormal.normal ?_
  go_wp2_with fail
  go_ret
  exact ⟨rfl, hB6⟩
end Go.Proofs.YtkippclhbkjbmaaGreat
