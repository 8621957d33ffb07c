/- Package frac: both, Sub, Mul. Package frac: Sub, Mul of small fractions. Reference of frac: both of valid fractions. Package planisphereref01: Mul. Reference of frac: product. Package planisphereref01: Add. -/
import Derived.Test.YtkippclhbkjbmaaZn29
import Derived.Test.YtkippclhbkjbmaaZn27
import Derived.Test.YtkippclhbkjbmaaZn17
set_option linter.unusedSimpArgs false
set_option linter.unusedVariables false

namespace Go.Proofs.Ytkippclhbkjbmaa
open Go.RowKit
attribute [local go_sem] add_lit

theorem fCheck_ok (na nb : Bool) (A B : Option Addr) (n c m d : Nat) (r : Rat) (w : World) (h : Fr w na A n c nb B m d r) :
    Calls Try.prog 51 #[.agg #[.bool na, .slice A n c, .bool nb, .slice B m d]] w fun e w' => e = .returned (.int .i64 0) ∧ Below w.heap.size w w' := by
  have hn := h.neg
  subst hn
  have hl := low_rat r
  exact fCheck_pos na A B n c m d r.num r.den w h.1 h.2 hl.1 true (by rw [hl.2]; rfl)

set_option maxRecDepth 100000 in
set_option maxHeartbeats 2000000 in
theorem both_ok (F : FuncId) (na nb na' nb' : Bool) (A B A' B' : Option Addr) (n c m d n' c' m' d' : Nat) (a b : Rat) (X Y : Int) (w : World) (ha : Fr w na A n c nb B m d a) (hb : Fr w na' A' n' c' nb' B' m' d' b) (hY : 0 < Y) (hcf : ∀ (x y : Value) (W : World), (callFunc F #[x, y]).run Try.prog W = .ok (.enter F #[x, y]) W)
    (hF : ∀ W : World, Fr W na A n c nb B m d a → Fr W na' A' n' c' nb' B' m' d' b → Calls Try.prog F #[.agg #[.bool na, .slice A n c, .bool nb, .slice B m d], .agg #[.bool na', .slice A' n' c', .bool nb', .slice B' m' d']] W (PairW W X Y)) :
    Calls Try.prog 29 #[.agg #[.bool na, .slice A n c, .bool nb, .slice B m d], .agg #[.bool na', .slice A' n' c', .bool nb', .slice B' m' d'], .func (.func F) #[] #[]] w (FracE w (Rat.divInt X Y)) := by
  obtain ⟨W0, hW0, hB0, ⟨q0, q1, q2, q3⟩, s0⟩ := alloc4 w 29 #[.bool na, .slice A n c, .bool nb, .slice B m d] 29 #[.bool na', .slice A' n' c', .bool nb', .slice B' m' d'] 29 #[.bool false, .slice none 0 0, .bool false, .slice none 0 0] 32 #[.int .i64 0]
  have hA := hide (ha.below hB0)
  have hD := hide (hb.below hB0)
  replace hF := hide hF
  clear ha hb
  replace hW0 := hide hW0
  obtain ⟨a0, a1, a2, a3, -⟩ := q0.four
  have hq := hide (And.intro q0 (And.intro q1 (And.intro q2 q3)))
  clear q0 q1 q2 q3
  go_enter_defers Try.func29, Try.ntmps29
  have hW0' := hW0.out
  go_wp2_with fail
  clear hW0 hW0'
  refine (fCheck_ok na nb A B n c m d a W0 hA.out).mono ?_
  rintro e w1 ⟨rfl, hb1⟩
  have hB1 : Below w.heap.size w w1 := hB0.trans (hb1.mono hB0.size)
  have s1 : W0.heap.size ≤ w1.heap.size := hb1.size
  replace hA := hide (hA.out.below hb1)
  replace hD := hide (hD.out.below hb1)
  obtain ⟨q0, q1, q2, q3⟩ := hq.out
  replace q0 := keep_blk hb1 q0
  replace q1 := keep_blk hb1 q1
  replace q2 := keep_blk hb1 q2
  replace q3 := keep_blk hb1 q3
  clear hq hb1 hB0 a0 a1 a2 a3
  obtain ⟨b0, b1, b2, b3, -⟩ := q1.four
  have hq := hide (And.intro q0 (And.intro q1 (And.intro q2 q3)))
  clear q0 q1 q2 q3
  go_wp2_with fail
  refine (want_ok w1).mono ?_
  rintro e w1 ⟨rfl, rfl⟩
  go_wp2_with fail
  refine (fCheck_ok na' nb' A' B' n' c' m' d' b w1 hD.out).mono ?_
  rintro e w2 ⟨rfl, hb2⟩
  have hB2 : Below w.heap.size w w2 := hB1.trans (hb2.mono hB1.size)
  have s2 : w1.heap.size ≤ w2.heap.size := hb2.size
  replace hA := hide (hA.out.below hb2)
  replace hD := hide (hD.out.below hb2)
  obtain ⟨q0, q1, q2, q3⟩ := hq.out
  replace q0 := keep_blk hb2 q0
  replace q1 := keep_blk hb2 q1
  replace q2 := keep_blk hb2 q2
  replace q3 := keep_blk hb2 q3
  clear hq hb2 hB1 b0 b1 b2 b3
  obtain ⟨a0, a1, a2, a3, -⟩ := q0.four
  obtain ⟨b0, b1, b2, b3, -⟩ := q1.four
  have hq := hide (And.intro q2 q3)
  clear q0 q1 q2 q3
  go_wp2_with fail
  refine (want_ok w2).mono ?_
  rintro e w2 ⟨rfl, rfl⟩
  go_wp2_with fail
  refine (hF.out w2 hA.out hD.out).mono ?_
  rintro e w3 ⟨hb3, nu, U, k1, u, nv, V, k2, v, rfl, hU, hV⟩
  have hB3 : Below w.heap.size w w3 := hB2.trans (hb3.mono hB2.size)
  have s3 : w2.heap.size ≤ w3.heap.size := hb3.size
  have hn : nv = false := by rw [hV.1]; simp; omega
  subst hn
  have q2 := keep_blk hb3 hq.out.1
  have q3 := keep_blk hb3 hq.out.2
  clear hq hb3 hB2 a0 a1 a2 a3 b0 b1 b2 b3 hA hD hF
  have hq := hide (And.intro q2 q3)
  replace hU := hide hU
  replace hV := hide hV
  clear q2 q3
  go_wp2_with fail
  refine (reduce_pos nu U V k1 u k2 v X Y w3 hU.out hV.out hY).mono ?_
  rintro e w4 ⟨hb4, nx, Ax, kx, cx, ny, Ay, ky, cy, rfl, hF⟩
  have hB4 : Below w.heap.size w w4 := hB3.trans (hb4.mono hB3.size)
  have s4 : w3.heap.size ≤ w4.heap.size := hb4.size
  have q2 := keep_blk hb4 hq.out.1
  have q3 := keep_blk hb4 hq.out.2
  clear hq hb4 hU hV hB3
  have c2 := hide q2.four
  have c3 := q3.cell 0
  have f3 := q3.frozen 0
  simp at c3
  obtain ⟨c20, c21, c22, c23, f20, f21, f22, f23⟩ := c2.out
  have hq := hide (And.intro q2 q3)
  clear q2 q3
  go_wp2_with fail
  obtain ⟨W5, hW5, hB5, q2, kW, kB, s5⟩ := set_frac nx Ax kx cx ny Ay ky cy hB4 (by omega) hq.out.1
  have q3 := kB _ _ _ (by omega) hq.out.2
  have HX5 := hide (kW _ _ _ _ _ hF.1)
  have HY5 := hide (kW _ _ _ _ _ hF.2)
  rw [hW5]
  clear kW kB c20 c21 c22 c23 c3 f3 f20 f21 f22 f23 hq hF
  obtain ⟨W6, hW6, hB6, q3, kW, kB, s6⟩ := set_code 0 hB5 (by omega) q3
  replace q2 := kB _ _ _ (by omega) q2
  have HX6 := hide (kW _ _ _ _ _ HX5.out)
  have HY6 := hide (kW _ _ _ _ _ HY5.out)
  rw [hW6]
  obtain ⟨r0, r1, r2, r3, -⟩ := q2.four
  have r4 := q3.cell 0
  simp at r4
  clear kW kB hB5 HX5 HY5 hW5 hW6
  refine leaves_cons (f := 49) (args := #[.pointer (some ⟨w.heap.size + 1 + 1 + 1, 0, none⟩)]) (by simp) (by simp [go_sem]) ?_
  refine (catch_idle _ _).mono ?_
  rintro e u' w'' ⟨rfl, rfl, rfl⟩
  refine ⟨.tuple #[.agg #[.bool nx, .slice Ax kx cx, .bool ny, .slice Ay ky cy], .int .i64 0], by simp [results, Try.results29, go_sem, r0, r1, r2, r3, r4], ?_⟩
  exact ⟨hB6, _, _, _, _, _, _, _, _, rfl, HX6.out, HY6.out⟩

set_option maxRecDepth 100000 in
theorem Mul1_enter (x y : Value) (W : World) : (callFunc 38 #[x, y]).run Try.prog W = .ok (.enter 38 #[x, y]) W := by simp [go_sem]
theorem Sub1_enter (x y : Value) (W : World) : (callFunc 30 #[x, y]).run Try.prog W = .ok (.enter 30 #[x, y]) W := by simp [go_sem]
end Go.Proofs.Ytkippclhbkjbmaa

namespace Go.Proofs.Ytkippclhbkjbmaa
open Go.RowKit
attribute [local go_sem] add_lit

/-- A fraction whose numbers are far from the greatest. -/
def Sm (r : Rat) : Prop := r.num.natAbs < pw 1000 ∧ r.den < pw 1000

theorem mul_lt_pw {x y : Nat} {i j : Nat} (hx : x < pw i) (hy : y < pw j) : x * y < pw (i + j) := by
  rw [pw_add]
  exact Nat.mul_lt_mul'' hx hy
theorem sm_mul {x y : Int} (hx : x.natAbs < pw 1000) (hy : y.natAbs < pw 1000) : (x * y).natAbs < pw 2000 := by
  rw [Int.natAbs_mul]; have h := mul_lt_pw hx hy; rw [show 1000 + 1000 = 2000 from rfl] at h; exact h
theorem pw_two (k : Nat) : pw k + pw k ≤ pw (k + 1) := by rw [pw_succ]; generalize pw k = x; omega
theorem pw2001 : pw 2000 + pw 2000 ≤ pw 4096 := Nat.le_trans (pw_two 2000) (pw_le (by decide))
theorem sm_mul' {x y : Int} (hx : x.natAbs < pw 1000) (hy : y.natAbs < pw 1000) : (x * y).natAbs < pw 4096 := Nat.lt_of_lt_of_le (sm_mul hx hy) (pw_le (by decide))
theorem sm_sub {x y z v : Int} (hx : x.natAbs < pw 1000) (hy : y.natAbs < pw 1000) (hz : z.natAbs < pw 1000) (hv : v.natAbs < pw 1000) : (x * y - z * v).natAbs < pw 4096 := by
  have h1 := sm_mul hx hy
  have h2 := sm_mul hz hv
  have h3 := pw2001
  omega
theorem Sm.dn {r : Rat} (h : Sm r) : ((r.den : Nat) : Int).natAbs < pw 1000 := by simpa using h.2

theorem rat_mul (a b : Rat) : Rat.divInt (a.num * b.num) ((a.den : Int) * (b.den : Nat)) = a * b := by
  rw [← Rat.divInt_mul_divInt, Rat.num_divInt_den, Rat.num_divInt_den]
theorem rat_sub (a b : Rat) : Rat.divInt (a.num * b.den - b.num * a.den) ((a.den : Int) * (b.den : Nat)) = a - b := by
  have ha : ((a.den : Nat) : Int) ≠ 0 := by have := a.den_pos; omega
  have hb : ((b.den : Nat) : Int) ≠ 0 := by have := b.den_pos; omega
  rw [← Rat.divInt_sub_divInt _ _ ha hb, Rat.num_divInt_den, Rat.num_divInt_den]
theorem den_mul_pos (a b : Rat) : 0 < ((a.den : Int) * (b.den : Nat)) := Int.mul_pos (by have := a.den_pos; omega) (by have := b.den_pos; omega)

set_option maxRecDepth 100000 in
set_option maxHeartbeats 1000000 in
theorem fSub_ok (na nb na' nb' : Bool) (A B A' B' : Option Addr) (n c m d n' c' m' d' : Nat) (a b : Rat) (w : World) (ha : Fr w na A n c nb B m d a) (hb : Fr w na' A' n' c' nb' B' m' d' b) (sa : Sm a) (sb : Sm b) :
    Calls Try.prog 15 #[.agg #[.bool na, .slice A n c, .bool nb, .slice B m d], .agg #[.bool na', .slice A' n' c', .bool nb', .slice B' m' d']] w (FracE w (a - b)) := by
  obtain ⟨W0, hW0, hB0, ⟨q0, q1, q2⟩, s0⟩ := alloc3 w 29 #[.bool na, .slice A n c, .bool nb, .slice B m d] 29 #[.bool na', .slice A' n' c', .bool nb', .slice B' m' d'] 29 #[.bool false, .slice none 0 0, .bool false, .slice none 0 0]
  have hA := hide (ha.below hB0)
  have hD := hide (hb.below hB0)
  have hF := fun (W : World) (h1 : Fr W na A n c nb B m d a) (h2 : Fr W na' A' n' c' nb' B' m' d' b) => Sub1_ok na nb na' nb' A B A' B' n c m d n' c' m' d' a b W h1 h2 (sm_mul' sa.1 sb.dn) (sm_mul' sb.1 sa.dn) (sm_sub sa.1 sb.dn sb.1 sa.dn) (sm_mul' sa.dn sb.dn)
  have hG := hide (both_ok 30 na nb na' nb' A B A' B' n c m d n' c' m' d' a b _ _ W0 hA.out hD.out (den_mul_pos a b) Sub1_enter hF)
  rw [rat_sub] at hG
  clear hF ha hb sa sb hA hD
  obtain ⟨a0, a1, a2, a3, -⟩ := q0.four
  obtain ⟨b0, b1, b2, b3, -⟩ := q1.four
  replace q2 := hide q2
  clear q0 q1
  go_enter Try.func15, Try.ntmps15
  go_wp2_with fail
  refine hG.out.mono ?_
  rintro e w1 ⟨hb1, nx, Ax, kx, cx, ny, Ay, ky, cy, rfl, hX⟩
  have hB1 : Below w.heap.size w w1 := hB0.trans (hb1.mono hB0.size)
  have s1 : W0.heap.size ≤ w1.heap.size := hb1.size
  replace q2 := hide (keep_blk hb1 q2.out)
  replace hX := hide hX
  clear hb1 a0 a1 a2 a3 b0 b1 b2 b3 hB0 hG hW0
  obtain ⟨c20, c21, c22, c23, f20, f21, f22, f23⟩ := q2.out.four
  go_wp2_with fail
  obtain ⟨W5, hW5, hB5, q2, kW, -, s5⟩ := set_frac nx Ax kx cx ny Ay ky cy hB1 (by omega) q2.out
  rw [hW5]
  obtain ⟨r0, r1, r2, r3, -⟩ := q2.four
  refine bodyPost_ret (v := .tuple #[.agg #[.bool nx, .slice Ax kx cx, .bool ny, .slice Ay ky cy], .int .i64 0]) (by simp [results, Try.results15, go_sem, r0, r1, r2, r3]) rfl ?_
  exact ⟨hB5, _, _, _, _, _, _, _, _, rfl, kW _ _ _ _ _ hX.out.1, kW _ _ _ _ _ hX.out.2⟩

set_option maxRecDepth 100000 in
set_option maxHeartbeats 1000000 in
theorem fMul_ok (na nb na' nb' : Bool) (A B A' B' : Option Addr) (n c m d n' c' m' d' : Nat) (a b : Rat) (w : World) (ha : Fr w na A n c nb B m d a) (hb : Fr w na' A' n' c' nb' B' m' d' b) (sa : Sm a) (sb : Sm b) :
    Calls Try.prog 22 #[.agg #[.bool na, .slice A n c, .bool nb, .slice B m d], .agg #[.bool na', .slice A' n' c', .bool nb', .slice B' m' d']] w (FracE w (a * b)) := by
  obtain ⟨W0, hW0, hB0, ⟨q0, q1, q2⟩, s0⟩ := alloc3 w 29 #[.bool na, .slice A n c, .bool nb, .slice B m d] 29 #[.bool na', .slice A' n' c', .bool nb', .slice B' m' d'] 29 #[.bool false, .slice none 0 0, .bool false, .slice none 0 0]
  have hA := hide (ha.below hB0)
  have hD := hide (hb.below hB0)
  have hF := fun (W : World) (h1 : Fr W na A n c nb B m d a) (h2 : Fr W na' A' n' c' nb' B' m' d' b) => Mul1_ok na nb na' nb' A B A' B' n c m d n' c' m' d' a b W h1 h2 (sm_mul' sa.1 sb.1) (sm_mul' sa.dn sb.dn)
  have hG := hide (both_ok 38 na nb na' nb' A B A' B' n c m d n' c' m' d' a b _ _ W0 hA.out hD.out (den_mul_pos a b) Mul1_enter hF)
  rw [rat_mul] at hG
  clear hF ha hb sa sb hA hD
  obtain ⟨a0, a1, a2, a3, -⟩ := q0.four
  obtain ⟨b0, b1, b2, b3, -⟩ := q1.four
  replace q2 := hide q2
  clear q0 q1
  go_enter Try.func22, Try.ntmps22
  go_wp2_with fail
  refine hG.out.mono ?_
  rintro e w1 ⟨hb1, nx, Ax, kx, cx, ny, Ay, ky, cy, rfl, hX⟩
  have hB1 : Below w.heap.size w w1 := hB0.trans (hb1.mono hB0.size)
  have s1 : W0.heap.size ≤ w1.heap.size := hb1.size
  replace q2 := hide (keep_blk hb1 q2.out)
  replace hX := hide hX
  clear hb1 a0 a1 a2 a3 b0 b1 b2 b3 hB0 hG hW0
  obtain ⟨c20, c21, c22, c23, f20, f21, f22, f23⟩ := q2.out.four
  go_wp2_with fail
  obtain ⟨W5, hW5, hB5, q2, kW, -, s5⟩ := set_frac nx Ax kx cx ny Ay ky cy hB1 (by omega) q2.out
  rw [hW5]
  obtain ⟨r0, r1, r2, r3, -⟩ := q2.four
  refine bodyPost_ret (v := .tuple #[.agg #[.bool nx, .slice Ax kx cx, .bool ny, .slice Ay ky cy], .int .i64 0]) (by simp [results, Try.results22, go_sem, r0, r1, r2, r3]) rfl ?_
  exact ⟨hB5, _, _, _, _, _, _, _, _, rfl, kW _ _ _ _ _ hX.out.1, kW _ _ _ _ _ hX.out.2⟩
end Go.Proofs.Ytkippclhbkjbmaa

namespace Go.Proofs.Ytkippclhbkjbmaa
open Go.RowKit
attribute [local go_sem] add_lit

end Go.Proofs.Ytkippclhbkjbmaa

namespace Go.Proofs.Ytkippclhbkjbmaa
open Go.RowKit
attribute [local go_sem] add_lit

end Go.Proofs.Ytkippclhbkjbmaa

namespace Go.Proofs.Ytkippclhbkjbmaa
open Go.RowKit
attribute [local go_sem] add_lit

/-- Five new blocks. -/
theorem alloc5 (w : World) (t0 : TypeId) (c0 : Array Value) (t1 : TypeId) (c1 : Array Value) (t2 : TypeId) (c2 : Array Value) (t3 : TypeId) (c3 : Array Value) (t4 : TypeId) (c4 : Array Value) :
    ∃ W, ((((w.alloc (.cells c0 t0)).alloc (.cells c1 t1)).alloc (.cells c2 t2)).alloc (.cells c3 t3)).alloc (.cells c4 t4) = W ∧ Below w.heap.size w W ∧ (Blk W w.heap.size t0 c0 ∧ Blk W (w.heap.size + 1) t1 c1 ∧ Blk W (w.heap.size + 1 + 1) t2 c2 ∧ Blk W (w.heap.size + 1 + 1 + 1) t3 c3 ∧ Blk W (w.heap.size + 1 + 1 + 1 + 1) t4 c4) ∧ W.heap.size = w.heap.size + 1 + 1 + 1 + 1 + 1 := by
  obtain ⟨W, hW, h1, h2, h3⟩ := alloc4 w t0 c0 t1 c1 t2 c2 t3 c3
  refine ⟨_, rfl, ?_, ⟨?_, ?_, ?_, ?_, ?_⟩, by rw [hW]; simp [h3]⟩ <;> rw [hW]
  · exact h1.alloc (by omega) _
  · exact h2.1.alloc _
  · exact h2.2.1.alloc _
  · exact h2.2.2.1.alloc _
  · exact h2.2.2.2.alloc _
  · rw [← h3]; exact Blk.new _ _ _

end Go.Proofs.Ytkippclhbkjbmaa

namespace Go.Proofs.Ytkippclhbkjbmaa
open Go.RowKit
attribute [local go_sem] add_lit

end Go.Proofs.Ytkippclhbkjbmaa
