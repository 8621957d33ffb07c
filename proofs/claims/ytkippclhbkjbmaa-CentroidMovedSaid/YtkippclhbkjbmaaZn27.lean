/- Package frac: Of, cross. Reference of frac: Make, Of, Whole. A region that draws its order, in a plain walk: by the laws of XRnd. Reference of frac: Check, both of valid fractions. -/
import Derived.Test.YtkippclhbkjbmaaZn26
import Derived.Test.YtkippclhbkjbmaaZn25
import Derived.Test.YtkippclhbkjbmaaZn17
import Derived.Test.YtkippclhbkjbmaaZn03
set_option linter.unusedSimpArgs false
set_option linter.unusedVariables false

namespace Go.Proofs.Ytkippclhbkjbmaa
open Go.RowKit
attribute [local go_sem] add_lit

/-- One new block. -/
theorem alloc1 (w : World) (t0 : TypeId) (c0 : Array Value) :
    ∃ W, w.alloc (.cells c0 t0) = W ∧ Below w.heap.size w W ∧ Blk W w.heap.size t0 c0 ∧ W.heap.size = w.heap.size + 1 :=
  ⟨_, rfl, (Below.refl w.heap.size w).alloc (Nat.le_refl _) _, Blk.new _ _ _, by simp⟩

set_option maxRecDepth 100000 in
set_option maxHeartbeats 1000000 in
theorem Of_pos (x y : Int) (w : World) (hx1 : -9223372036854775808 ≤ x) (hx2 : x ≤ 9223372036854775807) (h0 : 0 < y) (hy : y ≤ 9223372036854775807) :
    Calls Try.prog 20 #[.int .i64 x, .int .i64 y] w (FracE w (Rat.divInt x y)) := by
  obtain ⟨W0, hW0, hB0, hq, s0⟩ := alloc1 w 29 #[.bool false, .slice none 0 0, .bool false, .slice none 0 0]
  replace hW0 := hide hW0
  replace hq := hide hq
  go_enter Try.func20, Try.ntmps20
  go_wp2_with fail
  rw [hW0.out]
  clear hW0
  refine (From_any x W0 hx1 hx2).mono ?_
  rintro e w1 ⟨hb1, na, A, n, c, rfl, hA⟩
  have hB1 : Below w.heap.size w w1 := hB0.trans (hb1.mono (by omega))
  have s1 : W0.heap.size ≤ w1.heap.size := hb1.size
  replace hq := hide (keep_blk hb1 hq.out)
  replace hA := hide hA
  clear hb1 hB0
  go_wp2_with fail
  refine (From_any y w1 (by omega) hy).mono ?_
  rintro e w2 ⟨hb2, nb, B, m, d, rfl, hB⟩
  have hB2 : Below w.heap.size w w2 := hB1.trans (hb2.mono (by omega))
  have s2 : w1.heap.size ≤ w2.heap.size := hb2.size
  replace hq := hide (keep_blk hb2 hq.out)
  replace hA := hide (hA.out.below hb2)
  have hn : nb = false := by rw [hB.1]; simp; omega
  subst hn
  replace hB := hide hB
  clear hb2 hB1
  go_wp2_with fail
  refine (Make_pos na A B n c m d x y w2 hA.out hB.out h0).mono ?_
  rintro e w3 ⟨hb3, nx, Ax, kx, cx, ny, Ay, ky, cy, rfl, hF⟩
  have hB3 : Below w.heap.size w w3 := hB2.trans (hb3.mono (by omega))
  have s3 : w2.heap.size ≤ w3.heap.size := hb3.size
  replace hq := hide (keep_blk hb3 hq.out)
  obtain ⟨c20, c21, c22, c23, f20, f21, f22, f23⟩ := hq.out.four
  clear hb3 hB2
  replace hF := hide hF
  go_wp2_with fail
  obtain ⟨W5, hW5, hB5, q2, kW, -, s5⟩ := set_frac nx Ax kx cx ny Ay ky cy hB3 (by omega) hq.out
  rw [hW5]
  obtain ⟨r0, r1, r2, r3, -⟩ := q2.four
  refine bodyPost_ret (v := .tuple #[.agg #[.bool nx, .slice Ax kx cx, .bool ny, .slice Ay ky cy], .int .i64 0]) (by simp [results, Try.results20, go_sem, r0, r1, r2, r3]) rfl ?_
  exact ⟨hB5, _, _, _, _, _, _, _, _, rfl, kW _ _ _ _ _ hF.out.1, kW _ _ _ _ _ hF.out.2⟩

set_option maxRecDepth 100000 in
set_option maxHeartbeats 1000000 in
theorem cross_ok (na nb na' nb' : Bool) (A B A' B' : Option Addr) (n c m d n' c' m' d' : Nat) (a b : Rat) (w : World) (ha : Fr w na A n c nb B m d a) (hb : Fr w na' A' n' c' nb' B' m' d' b) (hs : (a.num * b.den).natAbs < pw 4096) :
    Calls Try.prog 33 #[.agg #[.bool na, .slice A n c, .bool nb, .slice B m d], .agg #[.bool na', .slice A' n' c', .bool nb', .slice B' m' d']] w (NumW w (a.num * b.den)) := by
  obtain ⟨W0, hW0, hB0, ⟨q0, q1, q2⟩, s0⟩ := alloc3 w 29 #[.bool na, .slice A n c, .bool nb, .slice B m d] 29 #[.bool na', .slice A' n' c', .bool nb', .slice B' m' d'] 27 #[.bool false, .slice none 0 0]
  have hA := hide (ha.1.below hB0)
  have hD := hide (hb.2.below hB0)
  replace hs := hide hs
  clear ha hb
  obtain ⟨c00, c01, -⟩ := q0.four
  obtain ⟨-, -, c12, c13, -⟩ := q1.four
  rw [← hW0] at c00 c01 c12 c13
  replace hW0 := hide hW0
  go_enter Try.func33, Try.ntmps33
  go_wp2_with fail
  rw [hW0.out]
  clear hW0 c00 c01 c12 c13
  refine (Mul_ok na nb' A B' n c m' d' a.num b.den W0 hA.out hD.out).mono ?_
  rintro e w1 ⟨hb1, np, P, k, q, code, rfl, hR⟩
  rcases hR with ⟨-, rfl, hP⟩ | ⟨hbig, -⟩
  case inr => exact absurd hbig (by have := hs.out; omega)
  have hB1 : Below w.heap.size w w1 := hB0.trans (hb1.mono (by omega))
  have s1 : W0.heap.size ≤ w1.heap.size := hb1.size
  replace q2 := keep_blk hb1 q2
  clear hb1 hB0 q0 q1
  replace q2 := hide q2
  replace hP := hide hP
  go_wp2_with fail
  refine (must_ok np P k q w1).mono ?_
  rintro e w2 ⟨rfl, hb2⟩
  have hB2 : Below w.heap.size w w2 := hB1.trans (hb2.mono (by omega))
  have s2 : w1.heap.size ≤ w2.heap.size := hb2.size
  replace q2 := keep_blk hb2 q2.out
  replace hP := hP.out.below hb2
  obtain ⟨c0, c1, f0, f1⟩ := q2.two
  replace q2 := hide q2
  replace hP := hide hP
  go_wp2_with fail
  obtain ⟨W5, hW5, hB5, q3, kW, -, s5⟩ := set_num np P k q hB2 (by omega) q2.out
  rw [hW5]
  obtain ⟨r0, r1, -⟩ := q3.two
  refine bodyPost_ret (v := .agg #[.bool np, .slice P k q]) (by simp [results, Try.results33, go_sem, r0, r1]) rfl ?_
  exact ⟨hB5, _, _, _, _, rfl, kW _ _ _ _ _ hP.out⟩
end Go.Proofs.Ytkippclhbkjbmaa

namespace Go.Proofs.Ytkippclhbkjbmaa
open Go.RowKit
attribute [local go_sem] add_lit

set_option maxRecDepth 100000 in
set_option maxHeartbeats 1000000 in
theorem rMake_pos (na : Bool) (A B : Option Addr) (n c m d : Nat) (za zb : Int) (w : World) (ha : Wd w na A n c za) (hb : Wd w false B m d zb) (h0 : 0 < zb) :
    Calls Try.prog 42 #[.agg #[.bool na, .slice A n c], .agg #[.bool false, .slice B m d]] w (FracE w (Rat.divInt za zb)) := by
  have hm0 : 0 < m := by rw [← hb.lim.len]; exact length_digits_pos.2 (by omega)
  have hm0' : ((m : Int) == 0) = false := by simp; omega
  have hm := hb.2.1
  obtain ⟨W0, hW0, hB0, ⟨q0, q1, q2⟩, s0⟩ := alloc3 w 27 #[.bool na, .slice A n c] 27 #[.bool false, .slice B m d] 29 #[.bool false, .slice none 0 0, .bool false, .slice none 0 0]
  have HA := hide (ha.below hB0)
  have HB := hide (hb.below hB0)
  clear ha hb
  obtain ⟨c00, c01, -⟩ := q0.two
  have hq := hide (And.intro q0 (And.intro q1 q2))
  clear q0 q1 q2
  go_enter Try.func42, Try.ntmps42
  go_wp2_with fail
  refine (rCheck_ok HA.out.lim HA.out.ok).mono ?_
  rintro e w1 ⟨rfl, hb1⟩
  have hB1 : Below w.heap.size w w1 := hB0.trans (hb1.mono hB0.size)
  have s1 : W0.heap.size ≤ w1.heap.size := hb1.size
  replace HA := hide (HA.out.below hb1)
  replace HB := hide (HB.out.below hb1)
  obtain ⟨q0, q1, q2⟩ := hq.out
  replace q0 := keep_blk hb1 q0
  replace q1 := keep_blk hb1 q1
  replace q2 := keep_blk hb1 q2
  clear c00 c01 hq hb1 hB0 hW0
  obtain ⟨c10, c11, -⟩ := q1.two
  have hq := hide (And.intro q0 (And.intro q1 q2))
  clear q0 q1 q2
  go_wp2_with fail
  refine (rCheck_ok HB.out.lim HB.out.ok).mono ?_
  rintro e w2 ⟨rfl, hb2⟩
  have hB2 : Below w.heap.size w w2 := hB1.trans (hb2.mono hB1.size)
  have s2 : w1.heap.size ≤ w2.heap.size := hb2.size
  replace HA := hide (HA.out.below hb2)
  replace HB := hide (HB.out.below hb2)
  obtain ⟨q0, q1, q2⟩ := hq.out
  replace q0 := keep_blk hb2 q0
  replace q1 := keep_blk hb2 q1
  replace q2 := keep_blk hb2 q2
  clear c10 c11 hq hb2 hB1
  obtain ⟨c00, c01, -⟩ := q0.two
  obtain ⟨c10, c11, -⟩ := q1.two
  have hq := hide q2
  clear q0 q1 q2
  go_wp2_with fail
  refine (rReduced_pos na A B n c m d za zb w2 HA.out HB.out h0).mono ?_
  rintro e w3 ⟨hb3, nx, Ax, kx, cx, ny, Ay, ky, cy, rfl, hF⟩
  have hB3 : Below w.heap.size w w3 := hB2.trans (hb3.mono hB2.size)
  have s3 : w2.heap.size ≤ w3.heap.size := hb3.size
  replace hq := hide (keep_blk hb3 hq.out)
  replace hF := hide hF
  clear c00 c01 c10 c11 hb3 hB2 HA HB
  obtain ⟨c20, c21, c22, c23, f20, f21, f22, f23⟩ := hq.out.four
  go_wp2_with fail
  obtain ⟨W5, hW5, hB5, q2, kW, -, s5⟩ := set_frac nx Ax kx cx ny Ay ky cy hB3 (by omega) hq.out
  rw [hW5]
  obtain ⟨r0, r1, r2, r3, -⟩ := q2.four
  refine bodyPost_ret (v := .tuple #[.agg #[.bool nx, .slice Ax kx cx, .bool ny, .slice Ay ky cy], .int .i64 0]) (by simp [results, Try.results42, go_sem, r0, r1, r2, r3]) rfl ?_
  exact ⟨hB5, _, _, _, _, _, _, _, _, rfl, kW _ _ _ _ _ hF.out.1, kW _ _ _ _ _ hF.out.2⟩

set_option maxRecDepth 100000 in
set_option maxHeartbeats 1000000 in
theorem rOf_pos (x y : Int) (w : World) (hx1 : -9223372036854775808 ≤ x) (hx2 : x ≤ 9223372036854775807) (h0 : 0 < y) (hy : y ≤ 9223372036854775807) :
    Calls Try.prog 24 #[.int .i64 x, .int .i64 y] w (FracE w (Rat.divInt x y)) := by
  obtain ⟨W0, hW0, hB0, hq, s0⟩ := alloc1 w 29 #[.bool false, .slice none 0 0, .bool false, .slice none 0 0]
  replace hW0 := hide hW0
  replace hq := hide hq
  go_enter Try.func24, Try.ntmps24
  go_wp2_with fail
  rw [hW0.out]
  clear hW0
  refine (rFrom_any x W0 hx1 hx2).mono ?_
  rintro e w1 ⟨hb1, na, A, n, c, rfl, hA⟩
  have hB1 : Below w.heap.size w w1 := hB0.trans (hb1.mono (by omega))
  have s1 : W0.heap.size ≤ w1.heap.size := hb1.size
  replace hq := hide (keep_blk hb1 hq.out)
  replace hA := hide hA
  clear hb1 hB0
  go_wp2_with fail
  refine (rFrom_any y w1 (by omega) hy).mono ?_
  rintro e w2 ⟨hb2, nb, B, m, d, rfl, hB⟩
  have hB2 : Below w.heap.size w w2 := hB1.trans (hb2.mono (by omega))
  have s2 : w1.heap.size ≤ w2.heap.size := hb2.size
  replace hq := hide (keep_blk hb2 hq.out)
  replace hA := hide (hA.out.below hb2)
  have hn : nb = false := by rw [hB.1]; simp; omega
  subst hn
  replace hB := hide hB
  clear hb2 hB1
  go_wp2_with fail
  refine (rMake_pos na A B n c m d x y w2 hA.out hB.out h0).mono ?_
  rintro e w3 ⟨hb3, nx, Ax, kx, cx, ny, Ay, ky, cy, rfl, hF⟩
  have hB3 : Below w.heap.size w w3 := hB2.trans (hb3.mono (by omega))
  have s3 : w2.heap.size ≤ w3.heap.size := hb3.size
  replace hq := hide (keep_blk hb3 hq.out)
  obtain ⟨c20, c21, c22, c23, f20, f21, f22, f23⟩ := hq.out.four
  clear hb3 hB2
  replace hF := hide hF
  go_wp2_with fail
  obtain ⟨W5, hW5, hB5, q2, kW, -, s5⟩ := set_frac nx Ax kx cx ny Ay ky cy hB3 (by omega) hq.out
  rw [hW5]
  obtain ⟨r0, r1, r2, r3, -⟩ := q2.four
  refine bodyPost_ret (v := .tuple #[.agg #[.bool nx, .slice Ax kx cx, .bool ny, .slice Ay ky cy], .int .i64 0]) (by simp [results, Try.results24, go_sem, r0, r1, r2, r3]) rfl ?_
  exact ⟨hB5, _, _, _, _, _, _, _, _, rfl, kW _ _ _ _ _ hF.out.1, kW _ _ _ _ _ hF.out.2⟩

end Go.Proofs.Ytkippclhbkjbmaa

namespace Go.Proofs.Ytkippclhbkjbmaa
open Go.RowKit

theorem OnlyNormal.imp {Q : Exit → Act → World → Prop} (e : Exit) (a : Act) (w : World) (h : OnlyNormal Q e a w) : Q e a w := by
  cases e <;> first | exact h | exact (h : False).elim

theorem wp_held {P : Program} {id : Nat} {ops : Array Oper} {Q : Exit → Act → World → Prop} {a : Act} {w : World} (L : List Nat) (S : World → Prop) (hm : P.follows .mixedOrders = true)
    (hS : S w.drew) (h : S w.drew → wpAnyL P .any ops (OnlyNormal Q) L S ops.size (Array.replicate ops.size false) a w.drew) : (Code.region id ops true).wp P Q a w :=
  Code.wp_mono OnlyNormal.imp (wp_region_any hm (wpAny_of_L _ _ _ _ (h hS)))
end Go.Proofs.Ytkippclhbkjbmaa

namespace Go.Proofs.Ytkippclhbkjbmaa
open Go.RowKit
attribute [local go_sem] add_lit

end Go.Proofs.Ytkippclhbkjbmaa
