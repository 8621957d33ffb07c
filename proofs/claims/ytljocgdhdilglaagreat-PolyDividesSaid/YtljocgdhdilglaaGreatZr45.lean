/- Reference of frac: Check, both of valid fractions. Reference of frac: both of valid fractions. Reference of frac: product. -/
import Derived.Test.YtljocgdhdilglaaGreatZr44
import Derived.Test.YtljocgdhdilglaaGreatZr35
import Derived.Test.YtljocgdhdilglaaGreatZr39
import Derived.Test.YtljocgdhdilglaaGreatZr11
set_option linter.unusedSimpArgs false
set_option linter.unusedVariables false

namespace Go.Proofs.YtljocgdhdilglaaGreat
open Go.RowKit
attribute [local go_sem] add_lit

set_option maxRecDepth 100000 in
set_option maxHeartbeats 1000000 in
theorem rfCheck_ok (na nb : Bool) (A B : Option Addr) (n c m d : Nat) (r : Rat) (w : World) (h : Fr w na A n c nb B m d r) :
    Calls Tryz.prog 10 #[.agg #[.bool na, .slice A n c, .bool nb, .slice B m d]] w fun e w' => e = .returned (.int .i64 0) ∧ Below w.heap.size w w' := by
  have hn := h.neg
  subst hn
  have hmx : Tryz.prog.follows .mixedOrders = true := by kernel_rfl
  have hl := low_rat r
  have hm0 : 0 < m := by rw [← h.2.lim.len]; exact length_digits_pos.2 (by have := hl.1; omega)
  have hm0' : ((m : Int) == 0) = false := by simp; omega
  have hm := h.2.2.1
  obtain ⟨W0, hW0, hB0, q0, s0⟩ := alloc1 w 27 #[.bool na, .slice A n c, .bool false, .slice B m d]
  have hA := hide (h.below hB0)
  clear h
  obtain ⟨a0, a1, a2, a3, -⟩ := q0.four
  replace q0 := hide q0
  go_enter Tryz.func10, Tryz.ntmps10
  go_wp2_with fail
  refine (rCheck_ok hA.out.1.lim hA.out.1.ok).mono ?_
  rintro e w1 ⟨rfl, hb1⟩
  have hB1 : Below w.heap.size w w1 := hB0.trans (hb1.mono hB0.size)
  replace hA := hide (hA.out.below hb1)
  replace q0 := hide (keep_blk hb1 q0.out)
  clear a0 a1 a2 a3 hb1 hB0 hW0
  obtain ⟨a0, a1, a2, a3, -⟩ := q0.out.four
  go_wp2_with fail
  refine (rCheck_ok hA.out.2.lim hA.out.2.ok).mono ?_
  rintro e w2 ⟨rfl, hb2⟩
  have hB2 : Below w.heap.size w w2 := hB1.trans (hb2.mono hB1.size)
  replace hA := hide (hA.out.below hb2)
  replace q0 := hide (keep_blk hb2 q0.out)
  clear a0 a1 a2 a3 hb2 hB1
  obtain ⟨a0, a1, a2, a3, -⟩ := q0.out.four
  go_wp2_with fail
  refine (rGcd_ok na false A B n c m d r.num r.den w2 hA.out.1 hA.out.2).mono ?_
  rw [hl.2]
  rintro e w3 ⟨hb3, ng, Ag, kg, cg, code, rfl, hR⟩
  have hG := hide (hR.small (pw_pos 4096 |> fun h => by have : pw 0 < pw 4096 := pw_lt (by decide); rw [pw_zero] at this; exact this))
  have hB3 : Below w.heap.size w w3 := hB2.trans (hb3.mono hB2.size)
  clear a0 a1 a2 a3 hb3 hB2 q0 hA hR
  obtain ⟨W4, hW4, hB4, q4, kW, kB, s4⟩ := new_obj 25 #[.bool ng, .slice Ag kg cg] hB3 hB3.size
  replace hG := hide (kW _ _ _ _ _ hG.out)
  clear kW kB
  obtain ⟨g0, g1, -⟩ := q4.two
  replace q4 := hide q4
  go_wp2_with fail
  refine wp_held [] (fun W' => W'.cell? ⟨w3.heap.size, 0, none⟩ = some (.bool ng) ∧ W'.cell? ⟨w3.heap.size, 1, none⟩ = some (.slice Ag kg cg)) hmx ⟨g0, g1⟩ (fun _ => ?_)
  refine wpAnyL_take (i := 0) (v := ?v1) rfl (by kernel_rfl) (by kernel_rfl) (by kernel_rfl) (by kernel_rfl) (by kernel_rfl) (Or.inl ⟨by rfl, ?hy1⟩) ⟨g0, g1⟩ ?rest1
  case hy1 => (intro W2 hSw; (try dsimp only at hSw); go_simp; try with_reducible rfl)
  try simp only [Act.put, List.setIfInBounds_toArray, List.set_cons_zero, List.set_cons_succ]
  refine wpAnyL_one (i := 1) rfl (by kernel_rfl) (fun K hK => ?_)
  go_simp
  refine (rFrom_any 1 W4.drew (by omega) (by omega)).mono ?_
  rintro e w5 ⟨hb5, n1, A1, k1, c1, rfl, hO⟩
  replace hb5 := below_drewL hb5
  have hB5 : Below w.heap.size w w5 := hB4.trans (hb5.mono (by show w.heap.size ≤ W4.heap.size; have := hB3.size; omega))
  replace hG := hide (hG.out.below hb5)
  replace q4 := hide (keep_blk hb5 q4.out)
  clear g0 g1
  obtain ⟨g0, g1, -⟩ := q4.out.two
  refine hK.out _ _ (fun _ => ⟨g0, g1⟩) ?_
  clear hK K
  try simp only [Act.put, List.setIfInBounds_toArray, List.set_cons_zero, List.set_cons_succ]
  refine wpAnyL_one (i := 2) rfl (by kernel_rfl) (fun K hK => ?_)
  go_simp
  refine (rSame_any ng n1 Ag A1 kg cg k1 c1 _ _ w5 hG.out.lim hO.lim).mono ?_
  have hsm : sameB ng n1 (digits (Int.natAbs ((1 : Nat) : Int))) (digits (Int.natAbs 1)) = true := by have h1 := hG.out.1; have h2 := hO.1; rw [h1, h2]; unfold sameB; simp [cmpL_digits, cmpZ]
  rw [hsm]
  rintro e w6 ⟨rfl, hb6⟩
  have hB6 : Below w.heap.size w w6 := hB5.trans (hb6.mono hB5.size)
  replace q4 := hide (keep_blk hb6 q4.out)
  clear g0 g1
  obtain ⟨g0, g1, -⟩ := q4.out.two
  refine hK.out _ _ (fun _ => ⟨g0, g1⟩) ?_
  clear hK K
  try simp only [Act.put, List.setIfInBounds_toArray, List.set_cons_zero, List.set_cons_succ]
  refine wpAnyL_take (i := 3) (v := ?v2) rfl (by kernel_rfl) (by kernel_rfl) (by kernel_rfl) (by kernel_rfl) (by kernel_rfl) (Or.inl ⟨by rfl, ?hy2⟩) ⟨g0, g1⟩ ?rest2
  case hy2 => (intro W2 hSw; (try dsimp only at hSw); go_simp; try with_reducible rfl)
  try simp only [Act.put, List.setIfInBounds_toArray, List.set_cons_zero, List.set_cons_succ]
  refine wpAnyL_done (by kernel_rfl) ?_ _
  refine OnlyNormal.normal ?_
  go_wp2_with fail
  go_ret
  exact ⟨rfl, hB6⟩
end Go.Proofs.YtljocgdhdilglaaGreat

namespace Go.Proofs.YtljocgdhdilglaaGreat
open Go.RowKit
attribute [local go_sem] add_lit

end Go.Proofs.YtljocgdhdilglaaGreat

namespace Go.Proofs.YtljocgdhdilglaaGreat
open Go.RowKit
attribute [local go_sem] add_lit

/-- Five new blocks. -/
theorem alloc5 (w : World) (t0 : TypeId) (c0 : Array Value) (t1 : TypeId) (c1 : Array Value) (t2 : TypeId) (c2 : Array Value) (t3 : TypeId) (c3 : Array Value) (t4 : TypeId) (c4 : Array Value) :
    ∃ W, ((((w.alloc (.cells c0 t0)).alloc (.cells c1 t1)).alloc (.cells c2 t2)).alloc (.cells c3 t3)).alloc (.cells c4 t4) = W ∧ Below w.heap.size w W ∧ (Blk W w.heap.size t0 c0 ∧ Blk W (w.heap.size + 1) t1 c1 ∧ Blk W (w.heap.size + 1 + 1) t2 c2 ∧ Blk W (w.heap.size + 1 + 1 + 1) t3 c3 ∧ Blk W (w.heap.size + 1 + 1 + 1 + 1) t4 c4) ∧ W.heap.size = w.heap.size + 1 + 1 + 1 + 1 + 1 := by
  obtain ⟨W, hW, h1, h2, h3⟩ := alloc4 w t0 c0 t1 c1 t2 c2 t3 c3
  refine ⟨_, rfl, ?_, ⟨?_, ?_, ?_, ?_, ?_⟩, by rw [hW]; simp [h3]⟩ <;> rw [hW]
  · exact h1.alloc (by omega) _
  · exact h2.1.alloc _
  · exact h2.2.1.alloc _
  · exact h2.2.2.1.alloc _
  · exact h2.2.2.2.alloc _
  · rw [← h3]; exact Blk.new _ _ _

set_option maxRecDepth 100000 in
set_option maxHeartbeats 1000000 in
theorem rproduct_ok (na nb nc nd : Bool) (A B C D : Option Addr) (n c m d n' c' m' d' : Nat) (x y u v : Int) (w : World) (ha : Wd w na A n c x) (hb : Wd w nb B m d y) (hc : Wd w nc C n' c' u) (hd : Wd w nd D m' d' v)
    (hs : (x * y).natAbs < pw 4096) (ht : (u * v).natAbs < pw 4096) (h0 : 0 < u * v) :
    Calls Tryz.prog 54 #[.agg #[.bool na, .slice A n c], .agg #[.bool nb, .slice B m d], .agg #[.bool nc, .slice C n' c'], .agg #[.bool nd, .slice D m' d']] w (FracE w (Rat.divInt (x * y) (u * v))) := by
  obtain ⟨W0, hW0, hB0, ⟨q0, q1, q2, q3, q4⟩, s0⟩ := alloc5 w 25 #[.bool na, .slice A n c] 25 #[.bool nb, .slice B m d] 25 #[.bool nc, .slice C n' c'] 25 #[.bool nd, .slice D m' d'] 27 #[.bool false, .slice none 0 0, .bool false, .slice none 0 0]
  have hA := hide (And.intro (ha.below hB0) (hb.below hB0))
  have hC := hide (And.intro (hc.below hB0) (hd.below hB0))
  replace hs := hide hs
  replace ht := hide ht
  replace h0 := hide h0
  clear ha hb hc hd
  obtain ⟨a0, a1, -⟩ := q0.two
  obtain ⟨b0, b1, -⟩ := q1.two
  have hq := hide (And.intro q2 (And.intro q3 q4))
  clear q0 q1 q2 q3 q4
  go_enter Tryz.func54, Tryz.ntmps54
  go_wp2_with fail
  refine (rMul_ok na nb A B n c m d x y W0 hA.out.1 hA.out.2).mono ?_
  rintro e w1 ⟨hb1, np, P, k, q, code, rfl, hR⟩
  have hP := hide (hR.small hs.out)
  have hcode := hR.code0 hs.out
  subst hcode
  have hB1 : Below w.heap.size w w1 := hB0.trans (hb1.mono hB0.size)
  have s1 : W0.heap.size ≤ w1.heap.size := hb1.size
  replace hC := hide (And.intro (hC.out.1.below hb1) (hC.out.2.below hb1))
  obtain ⟨q2, q3, q4⟩ := hq.out
  replace q2 := keep_blk hb1 q2
  replace q3 := keep_blk hb1 q3
  replace q4 := keep_blk hb1 q4
  clear hW0 hb1 a0 a1 b0 b1 hq hR hs hB0 hA
  obtain ⟨W2, hW2, hB2, q5, kW, kB, s2⟩ := new_obj 25 #[.bool np, .slice P k q] hB1 hB1.size
  replace hC := hide (And.intro (kW _ _ _ _ _ hC.out.1) (kW _ _ _ _ _ hC.out.2))
  replace hP := hide (kW _ _ _ _ _ hP.out)
  replace q2 := kB _ _ _ q2
  replace q3 := kB _ _ _ q3
  replace q4 := kB _ _ _ q4
  clear kW kB hB1
  obtain ⟨a0, a1, -⟩ := q2.two
  obtain ⟨b0, b1, -⟩ := q3.two
  have hq := hide (And.intro q4 q5)
  clear q2 q3 q4 q5
  go_wp2_with fail
  refine (rMul_ok nc nd C D n' c' m' d' u v W2 hC.out.1 hC.out.2).mono ?_
  rintro e w3 ⟨hb3, nr, R, k2, r, code, rfl, hR⟩
  have hQ := hide (hR.small ht.out)
  have hcode := hR.code0 ht.out
  subst hcode
  have hB3 : Below w.heap.size w w3 := hB2.trans (hb3.mono hB2.size)
  have s3 : W2.heap.size ≤ w3.heap.size := hb3.size
  obtain ⟨q4, q5⟩ := hq.out
  replace q4 := keep_blk hb3 q4
  replace q5 := keep_blk hb3 q5
  replace hP := hide (hP.out.below hb3)
  clear hW2 hb3 a0 a1 b0 b1 hq hR ht hB2 hC
  have hn : nr = false := by rw [hQ.out.1]; have := h0.out; simp; omega
  subst hn
  obtain ⟨W4, hW4, hB4, q6, kW, kB, s4⟩ := new_obj 25 #[.bool false, .slice R k2 r] hB3 hB3.size
  replace hQ := hide (kW _ _ _ _ _ hQ.out)
  replace hP := hide (kW _ _ _ _ _ hP.out)
  replace q4 := kB _ _ _ q4
  replace q5 := kB _ _ _ q5
  clear kW kB hB3
  obtain ⟨a0, a1, -⟩ := q5.two
  obtain ⟨b0, b1, -⟩ := q6.two
  have hq := hide q4
  clear q4 q5 q6
  go_wp2_with fail
  refine (rReduced_pos np P R k q k2 r _ _ W4 hP.out hQ.out h0.out).mono ?_
  rintro e w5 ⟨hb5, nx, Ax, kx, cx, ny, Ay, ky, cy, rfl, hF⟩
  have hB5 : Below w.heap.size w w5 := hB4.trans (hb5.mono hB4.size)
  have s5 : W4.heap.size ≤ w5.heap.size := hb5.size
  replace hq := hide (keep_blk hb5 hq.out)
  replace hF := hide hF
  clear a0 a1 b0 b1 hW4 hb5 hB4 hP hQ
  obtain ⟨c20, c21, c22, c23, f20, f21, f22, f23⟩ := hq.out.four
  go_wp2_with fail
  obtain ⟨W6, hW6, hB6, q2, kW, -, s6⟩ := set_frac nx Ax kx cx ny Ay ky cy hB5 (by omega) hq.out
  rw [hW6]
  obtain ⟨r0, r1, r2, r3, -⟩ := q2.four
  refine bodyPost_ret (v := .tuple #[.agg #[.bool nx, .slice Ax kx cx, .bool ny, .slice Ay ky cy], .int .i64 0]) (by simp [results, Tryz.results54, go_sem, r0, r1, r2, r3]) rfl ?_
  exact ⟨hB6, _, _, _, _, _, _, _, _, rfl, kW _ _ _ _ _ hF.out.1, kW _ _ _ _ _ hF.out.2⟩
end Go.Proofs.YtljocgdhdilglaaGreat
