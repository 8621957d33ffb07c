/- Package frac: Sub, Mul of small fractions. Reference of frac: both of valid fractions. Package planisphereref01: Mul. Reference of frac: product. Package planisphereref01: Add. Package planisphereref01: Sub. -/
import Derived.Test.YtigdclhagmnopaaGreatZa20
import Derived.Test.YtigdclhagmnopaaGreatZa18
import Derived.Test.YtigdclhagmnopaaGreatZa12
set_option linter.unusedSimpArgs false
set_option linter.unusedVariables false

namespace Go.Proofs.YtigdclhagmnopaaGreat
open Go.RowKit
attribute [local go_sem] add_lit

/-- A fraction whose numbers are far from the greatest. -/
def Sm (r : Rat) : Prop := r.num.natAbs < pw 1000 ∧ r.den < pw 1000

theorem mul_lt_pw {x y : Nat} {i j : Nat} (hx : x < pw i) (hy : y < pw j) : x * y < pw (i + j) := by
  rw [pw_add]
  exact Nat.mul_lt_mul'' hx hy
theorem sm_mul {x y : Int} (hx : x.natAbs < pw 1000) (hy : y.natAbs < pw 1000) : (x * y).natAbs < pw 2000 := by
  rw [Int.natAbs_mul]; have h := mul_lt_pw hx hy; rw [show 1000 + 1000 = 2000 from rfl] at h; exact h
theorem pw_two (k : Nat) : pw k + pw k ≤ pw (k + 1) := by rw [pw_succ]; generalize pw k = x; omega
theorem pw2001 : pw 2000 + pw 2000 ≤ pw 4096 := Nat.le_trans (pw_two 2000) (pw_le (by decide))
theorem sm_mul' {x y : Int} (hx : x.natAbs < pw 1000) (hy : y.natAbs < pw 1000) : (x * y).natAbs < pw 4096 := Nat.lt_of_lt_of_le (sm_mul hx hy) (pw_le (by decide))
theorem sm_sub {x y z v : Int} (hx : x.natAbs < pw 1000) (hy : y.natAbs < pw 1000) (hz : z.natAbs < pw 1000) (hv : v.natAbs < pw 1000) : (x * y - z * v).natAbs < pw 4096 := by
  have h1 := sm_mul hx hy
  have h2 := sm_mul hz hv
  have h3 := pw2001
  omega
theorem Sm.dn {r : Rat} (h : Sm r) : ((r.den : Nat) : Int).natAbs < pw 1000 := by simpa using h.2

theorem rat_mul (a b : Rat) : Rat.divInt (a.num * b.num) ((a.den : Int) * (b.den : Nat)) = a * b := by
  rw [← Rat.divInt_mul_divInt, Rat.num_divInt_den, Rat.num_divInt_den]
theorem rat_sub (a b : Rat) : Rat.divInt (a.num * b.den - b.num * a.den) ((a.den : Int) * (b.den : Nat)) = a - b := by
  have ha : ((a.den : Nat) : Int) ≠ 0 := by have := a.den_pos; omega
  have hb : ((b.den : Nat) : Int) ≠ 0 := by have := b.den_pos; omega
  rw [← Rat.divInt_sub_divInt _ _ ha hb, Rat.num_divInt_den, Rat.num_divInt_den]
theorem den_mul_pos (a b : Rat) : 0 < ((a.den : Int) * (b.den : Nat)) := Int.mul_pos (by have := a.den_pos; omega) (by have := b.den_pos; omega)

set_option maxRecDepth 100000 in
set_option maxHeartbeats 1000000 in
theorem fSub_ok (na nb na' nb' : Bool) (A B A' B' : Option Addr) (n c m d n' c' m' d' : Nat) (a b : Rat) (w : World) (ha : Fr w na A n c nb B m d a) (hb : Fr w na' A' n' c' nb' B' m' d' b) (sa : Sm a) (sb : Sm b) :
    Calls Tryz.prog 67 #[.agg #[.bool na, .slice A n c, .bool nb, .slice B m d], .agg #[.bool na', .slice A' n' c', .bool nb', .slice B' m' d']] w (FracE w (a - b)) := by
  obtain ⟨W0, hW0, hB0, ⟨q0, q1, q2⟩, s0⟩ := alloc3 w 45 #[.bool na, .slice A n c, .bool nb, .slice B m d] 45 #[.bool na', .slice A' n' c', .bool nb', .slice B' m' d'] 45 #[.bool false, .slice none 0 0, .bool false, .slice none 0 0]
  have hA := hide (ha.below hB0)
  have hD := hide (hb.below hB0)
  have hF := fun (W : World) (h1 : Fr W na A n c nb B m d a) (h2 : Fr W na' A' n' c' nb' B' m' d' b) => Sub1_ok na nb na' nb' A B A' B' n c m d n' c' m' d' a b W h1 h2 (sm_mul' sa.1 sb.dn) (sm_mul' sb.1 sa.dn) (sm_sub sa.1 sb.dn sb.1 sa.dn) (sm_mul' sa.dn sb.dn)
  have hG := hide (both_ok 123 na nb na' nb' A B A' B' n c m d n' c' m' d' a b _ _ W0 hA.out hD.out (den_mul_pos a b) Sub1_enter hF)
  rw [rat_sub] at hG
  clear hF ha hb sa sb hA hD
  obtain ⟨a0, a1, a2, a3, -⟩ := q0.four
  obtain ⟨b0, b1, b2, b3, -⟩ := q1.four
  replace q2 := hide q2
  clear q0 q1
  go_enter Tryz.func67, Tryz.ntmps67
  go_wp2_with fail
  refine hG.out.mono ?_
  rintro e w1 ⟨hb1, nx, Ax, kx, cx, ny, Ay, ky, cy, rfl, hX⟩
  have hB1 : Below w.heap.size w w1 := hB0.trans (hb1.mono hB0.size)
  have s1 : W0.heap.size ≤ w1.heap.size := hb1.size
  replace q2 := hide (keep_blk hb1 q2.out)
  replace hX := hide hX
  clear hb1 a0 a1 a2 a3 b0 b1 b2 b3 hB0 hG hW0
  obtain ⟨c20, c21, c22, c23, f20, f21, f22, f23⟩ := q2.out.four
  go_wp2_with fail
  obtain ⟨W5, hW5, hB5, q2, kW, -, s5⟩ := set_frac nx Ax kx cx ny Ay ky cy hB1 (by omega) q2.out
  rw [hW5]
  obtain ⟨r0, r1, r2, r3, -⟩ := q2.four
  refine bodyPost_ret (v := .tuple #[.agg #[.bool nx, .slice Ax kx cx, .bool ny, .slice Ay ky cy], .int .i64 0]) (by simp [results, Tryz.results67, go_sem, r0, r1, r2, r3]) rfl ?_
  exact ⟨hB5, _, _, _, _, _, _, _, _, rfl, kW _ _ _ _ _ hX.out.1, kW _ _ _ _ _ hX.out.2⟩

set_option maxRecDepth 100000 in
set_option maxHeartbeats 1000000 in
theorem fMul_ok (na nb na' nb' : Bool) (A B A' B' : Option Addr) (n c m d n' c' m' d' : Nat) (a b : Rat) (w : World) (ha : Fr w na A n c nb B m d a) (hb : Fr w na' A' n' c' nb' B' m' d' b) (sa : Sm a) (sb : Sm b) :
    Calls Tryz.prog 66 #[.agg #[.bool na, .slice A n c, .bool nb, .slice B m d], .agg #[.bool na', .slice A' n' c', .bool nb', .slice B' m' d']] w (FracE w (a * b)) := by
  obtain ⟨W0, hW0, hB0, ⟨q0, q1, q2⟩, s0⟩ := alloc3 w 45 #[.bool na, .slice A n c, .bool nb, .slice B m d] 45 #[.bool na', .slice A' n' c', .bool nb', .slice B' m' d'] 45 #[.bool false, .slice none 0 0, .bool false, .slice none 0 0]
  have hA := hide (ha.below hB0)
  have hD := hide (hb.below hB0)
  have hF := fun (W : World) (h1 : Fr W na A n c nb B m d a) (h2 : Fr W na' A' n' c' nb' B' m' d' b) => Mul1_ok na nb na' nb' A B A' B' n c m d n' c' m' d' a b W h1 h2 (sm_mul' sa.1 sb.1) (sm_mul' sa.dn sb.dn)
  have hG := hide (both_ok 120 na nb na' nb' A B A' B' n c m d n' c' m' d' a b _ _ W0 hA.out hD.out (den_mul_pos a b) Mul1_enter hF)
  rw [rat_mul] at hG
  clear hF ha hb sa sb hA hD
  obtain ⟨a0, a1, a2, a3, -⟩ := q0.four
  obtain ⟨b0, b1, b2, b3, -⟩ := q1.four
  replace q2 := hide q2
  clear q0 q1
  go_enter Tryz.func66, Tryz.ntmps66
  go_wp2_with fail
  refine hG.out.mono ?_
  rintro e w1 ⟨hb1, nx, Ax, kx, cx, ny, Ay, ky, cy, rfl, hX⟩
  have hB1 : Below w.heap.size w w1 := hB0.trans (hb1.mono hB0.size)
  have s1 : W0.heap.size ≤ w1.heap.size := hb1.size
  replace q2 := hide (keep_blk hb1 q2.out)
  replace hX := hide hX
  clear hb1 a0 a1 a2 a3 b0 b1 b2 b3 hB0 hG hW0
  obtain ⟨c20, c21, c22, c23, f20, f21, f22, f23⟩ := q2.out.four
  go_wp2_with fail
  obtain ⟨W5, hW5, hB5, q2, kW, -, s5⟩ := set_frac nx Ax kx cx ny Ay ky cy hB1 (by omega) q2.out
  rw [hW5]
  obtain ⟨r0, r1, r2, r3, -⟩ := q2.four
  refine bodyPost_ret (v := .tuple #[.agg #[.bool nx, .slice Ax kx cx, .bool ny, .slice Ay ky cy], .int .i64 0]) (by simp [results, Tryz.results66, go_sem, r0, r1, r2, r3]) rfl ?_
  exact ⟨hB5, _, _, _, _, _, _, _, _, rfl, kW _ _ _ _ _ hX.out.1, kW _ _ _ _ _ hX.out.2⟩
end Go.Proofs.YtigdclhagmnopaaGreat

namespace Go.Proofs.YtigdclhagmnopaaGreat
open Go.RowKit
attribute [local go_sem] add_lit

set_option maxRecDepth 100000 in
set_option maxHeartbeats 1000000 in
theorem rfBoth_ok (na nb na' nb' : Bool) (A B A' B' : Option Addr) (n c m d n' c' m' d' : Nat) (a b : Rat) (w : World) (ha : Fr w na A n c nb B m d a) (hb : Fr w na' A' n' c' nb' B' m' d' b) :
    Calls Tryz.prog 91 #[.agg #[.bool na, .slice A n c, .bool nb, .slice B m d], .agg #[.bool na', .slice A' n' c', .bool nb', .slice B' m' d']] w fun e w' => e = .returned (.int .i64 0) ∧ Below w.heap.size w w' := by
  obtain ⟨W0, hW0, hB0, ⟨q0, q1⟩, s0⟩ := alloc2 w 45 #[.bool na, .slice A n c, .bool nb, .slice B m d] 45 #[.bool na', .slice A' n' c', .bool nb', .slice B' m' d']
  have hA := hide (ha.below hB0)
  have hD := hide (hb.below hB0)
  clear ha hb
  obtain ⟨a0, a1, a2, a3, -⟩ := q0.four
  replace q1 := hide q1
  clear q0
  go_enter Tryz.func91, Tryz.ntmps91
  go_wp2_with fail
  refine (rfCheck_ok na nb A B n c m d a W0 hA.out).mono ?_
  rintro e w1 ⟨rfl, hb1⟩
  have hB1 : Below w.heap.size w w1 := hB0.trans (hb1.mono hB0.size)
  replace hD := hide (hD.out.below hb1)
  have q1' := keep_blk hb1 q1.out
  obtain ⟨b0, b1, b2, b3, -⟩ := q1'.four
  clear hW0 hb1 a0 a1 a2 a3 q1' q1 hA
  go_wp2_with fail
  refine (rfCheck_ok na' nb' A' B' n' c' m' d' b w1 hD.out).mono ?_
  rintro e w2 ⟨rfl, hb2⟩
  have hB2 : Below w.heap.size w w2 := hB1.trans (hb2.mono hB1.size)
  go_wp2_with fail
  go_ret
  exact ⟨rfl, hB2⟩
end Go.Proofs.YtigdclhagmnopaaGreat

namespace Go.Proofs.YtigdclhagmnopaaGreat
open Go.RowKit
attribute [local go_sem] add_lit

set_option maxRecDepth 100000 in
set_option maxHeartbeats 1000000 in
theorem rMul_bad (na nb : Bool) (A B : Option Addr) (n c m d : Nat) (la lb : List Nat) (w : World) (hLa : Lim w A n c la) (hLb : Lim w B m d lb) (hbad : (okW na la && okW nb lb) = false) :
    Calls Tryz.prog 92 #[.agg #[.bool na, .slice A n c], .agg #[.bool nb, .slice B m d]] w (BadW w) := by
  have hB0 : Below w.heap.size w (((w.alloc (.cells #[.bool na, .slice A n c] 43)).alloc (.cells #[.bool nb, .slice B m d] 43)).alloc (.cells #[.bool false, .slice none 0 0] 43)) := (((Below.refl w.heap.size w).alloc (Nat.le_refl _) _).alloc (by simp) _).alloc (by simp; omega) _
  have hB0 := hide hB0
  have hbad := hide hbad
  go_enter Tryz.func92, Tryz.ntmps92
  go_wp2_with fail
  refine (rboth_bad (hLa.below hB0.out) (hLb.below hB0.out) hbad.out).mono ?_
  rintro e w1 ⟨rfl, hb1⟩
  obtain ⟨hc1, hf1⟩ := bcell hb1
  have hz1 : w.heap.size + 1 + 1 < w1.heap.size := by have := hb1.size; simp at this; omega
  have hB1 : Below w.heap.size w w1 := hB0.out.trans (hb1.mono (by simp; omega))
  have g0 : w1.cell? ⟨w.heap.size, 0, none⟩ = some (.bool na) := by simp [hc1, go_sem]
  have g1 : w1.cell? ⟨w.heap.size, 1, none⟩ = some (.slice A n c) := by simp [hc1, go_sem]
  have g2 : w1.cell? ⟨w.heap.size + 1, 0, none⟩ = some (.bool nb) := by simp [hc1, go_sem]
  have g3 : w1.cell? ⟨w.heap.size + 1, 1, none⟩ = some (.slice B m d) := by simp [hc1, go_sem]
  have g7 : Blk w1 (w.heap.size + 1 + 1) 43 #[.bool false, .slice none 0 0] := by
    refine keep_blk hb1 ?_
    have := Blk.new ((w.alloc (.cells #[.bool na, .slice A n c] 43)).alloc (.cells #[.bool nb, .slice B m d] 43)) 43 #[.bool false, .slice none 0 0]
    simp only [World.size_alloc] at this; exact this
  have g5 := g7.cell 0
  have g6 := g7.cell 1
  have g8 := g7.frozen 0
  have g9 := g7.frozen 1
  simp at g5 g6
  clear hc1 hf1
  have hLa1 := hLa.below hB1
  have hLb1 := hLb.below hB1
  go_wp2_with fail
  refine (rboth_bad hLa1 hLb1 hbad.out).mono ?_
  rintro e w2 ⟨rfl, hb2⟩
  have hB2 : Below w.heap.size w w2 := hB1.trans (hb2.mono hB1.size)
  have m7 := keep_blk hb2 g7
  have m3 := m7.cell 0
  have m4 := m7.cell 1
  have m5 := m7.frozen 0
  have m6 := m7.frozen 1
  simp at m3 m4
  go_wp2_with fail
  refine bodyPost_ret (v := .tuple #[.agg #[.bool false, .slice none 0 0], .int .i64 8]) (by simp [results, Tryz.results92, go_sem, m3, m4]) rfl ?_
  exact ⟨rfl, (hB2.setCell (p := ⟨w.heap.size + 1 + 1, 0, none⟩) (by simp; omega) _).setCell (p := ⟨w.heap.size + 1 + 1, 1, none⟩) (by simp; omega) _⟩

set_option maxRecDepth 100000 in
set_option maxHeartbeats 1000000 in
theorem rMul_ok (na nb : Bool) (A B : Option Addr) (n c m d : Nat) (za zb : Int) (w : World) (ha : Wd w na A n c za) (hb : Wd w nb B m d zb) :
    Calls Tryz.prog 92 #[.agg #[.bool na, .slice A n c], .agg #[.bool nb, .slice B m d]] w (ResW w (za * zb)) := by
  have hLa := ha.lim
  have hLb := hb.lim
  have hn := ha.2.1
  have hm := hb.2.1
  have hB0 : Below w.heap.size w (((w.alloc (.cells #[.bool na, .slice A n c] 43)).alloc (.cells #[.bool nb, .slice B m d] 43)).alloc (.cells #[.bool false, .slice none 0 0] 43)) := (((Below.refl w.heap.size w).alloc (Nat.le_refl _) _).alloc (by simp) _).alloc (by simp; omega) _
  have hB0 := hide hB0
  have hgood : Hid ((okW na (digits za.natAbs) && okW nb (digits zb.natAbs)) = true) := by unfold Hid; rw [ha.ok, hb.ok]; rfl
  have hza := hide ha.sgEq
  have hzb := hide hb.sgEq
  have hlb := hide hb.lim.len
  clear ha hb
  go_enter Tryz.func92, Tryz.ntmps92
  go_wp2_with fail
  refine (rboth_ok (hLa.below hB0.out) (hLb.below hB0.out) hgood.out).mono ?_
  rintro e w1 ⟨rfl, hb1⟩
  obtain ⟨hc1, hf1⟩ := bcell hb1
  have hz1 : w.heap.size + 1 + 1 < w1.heap.size := by have := hb1.size; simp at this; omega
  have hB1 : Below w.heap.size w w1 := hB0.out.trans (hb1.mono (by simp; omega))
  have g0 : w1.cell? ⟨w.heap.size, 0, none⟩ = some (.bool na) := by simp [hc1, go_sem]
  have g1 : w1.cell? ⟨w.heap.size, 1, none⟩ = some (.slice A n c) := by simp [hc1, go_sem]
  have g2 : w1.cell? ⟨w.heap.size + 1, 0, none⟩ = some (.bool nb) := by simp [hc1, go_sem]
  have g3 : w1.cell? ⟨w.heap.size + 1, 1, none⟩ = some (.slice B m d) := by simp [hc1, go_sem]
  have g7 : Blk w1 (w.heap.size + 1 + 1) 43 #[.bool false, .slice none 0 0] := by
    refine keep_blk hb1 ?_
    have := Blk.new ((w.alloc (.cells #[.bool na, .slice A n c] 43)).alloc (.cells #[.bool nb, .slice B m d] 43)) 43 #[.bool false, .slice none 0 0]
    simp only [World.size_alloc] at this; exact this
  have g5 := g7.cell 0
  have g6 := g7.cell 1
  have g8 := g7.frozen 0
  have g9 := g7.frozen 1
  simp at g5 g6
  clear hc1 hf1
  have hLa1 := hLa.below hB1
  have hLb1 := hLb.below hB1
  go_wp2_with fail
  go_region_held3 (fun w' => w'.cell? ⟨w.heap.size, 0, none⟩ = some (.bool na) ∧ w'.cell? ⟨w.heap.size, 1, none⟩ = some (.slice A n c) ∧ w'.cell? ⟨w.heap.size + 1, 0, none⟩ = some (.bool nb) ∧ w'.cell? ⟨w.heap.size + 1, 1, none⟩ = some (.slice B m d))
    (((try dsimp only); (repeat' apply And.intro); all_goals (first | go_keep | (simp [*, go_sem]; done))))
    (first
      | (go_at_call 139; refine (rtimes_any _ _ _ _ _ _ _ _ _ (by exact hLa1) (by exact hLb1) (by omega) (by omega)).mono ?_; rintro e w2 ⟨A2, n2, c2, l2, rfl, hL2, hP2, hb2⟩; have k0 := keep_cell hb2 g0; have k1 := keep_cell hb2 g1; have j0 := keep_cell hb2 g2; have k2 := keep_cell hb2 g3; have k3 := keep_cell hb2 g5; have k4 := keep_cell hb2 g6; have k5 := keep_frozen hb2 g5 g8; have k6 := keep_frozen hb2 g6 g9; have k7 := keep_blk hb2 g7)
      | (go_at_call 94; refine (rmade_any _ _ _ _ _ _ (by exact hL2) (by have := hL2.len; rw [hP2.1] at this; omega)).mono ?_; rintro e w3 ⟨hb3, neg3, A3, n3, c3, code3, rfl, hR3⟩; have m0 := keep_cell hb3 k0; have m1 := keep_cell hb3 k1; have i0 := keep_cell hb3 j0; have m2 := keep_cell hb3 k2; have m3 := keep_cell hb3 k3; have m4 := keep_cell hb3 k4; have m5 := keep_frozen hb3 k3 k5; have m6 := keep_frozen hb3 k4 k6; have m7 := keep_blk hb3 k7))
  have hB3 : Below w.heap.size w w3 := (hB1.trans ((below_drewL hb2).mono hB1.size)).trans (hb3.mono (Nat.le_trans hB1.size (below_drewL hb2).size))
  go_wp2
  have HZ : sg (na != nb) (val l2) = za * zb := by
    have h1 := hza.out; have h2 := hzb.out; rw [hP2.2, sg_mul, h1, h2]
  refine bodyPost_ret (v := .tuple #[.agg #[.bool neg3, .slice A3 n3 c3], .int .i64 code3]) (by simp [results, Tryz.results92, go_sem, m3, m4]) rfl ?_
  exact ResW.box (HZ ▸ hR3) hB3 (by omega) m7
end Go.Proofs.YtigdclhagmnopaaGreat

namespace Go.Proofs.YtigdclhagmnopaaGreat
open Go.RowKit
attribute [local go_sem] add_lit

/-- Five new blocks. -/
theorem alloc5 (w : World) (t0 : TypeId) (c0 : Array Value) (t1 : TypeId) (c1 : Array Value) (t2 : TypeId) (c2 : Array Value) (t3 : TypeId) (c3 : Array Value) (t4 : TypeId) (c4 : Array Value) :
    ∃ W, ((((w.alloc (.cells c0 t0)).alloc (.cells c1 t1)).alloc (.cells c2 t2)).alloc (.cells c3 t3)).alloc (.cells c4 t4) = W ∧ Below w.heap.size w W ∧ (Blk W w.heap.size t0 c0 ∧ Blk W (w.heap.size + 1) t1 c1 ∧ Blk W (w.heap.size + 1 + 1) t2 c2 ∧ Blk W (w.heap.size + 1 + 1 + 1) t3 c3 ∧ Blk W (w.heap.size + 1 + 1 + 1 + 1) t4 c4) ∧ W.heap.size = w.heap.size + 1 + 1 + 1 + 1 + 1 := by
  obtain ⟨W, hW, h1, h2, h3⟩ := alloc4 w t0 c0 t1 c1 t2 c2 t3 c3
  refine ⟨_, rfl, ?_, ⟨?_, ?_, ?_, ?_, ?_⟩, by rw [hW]; simp [h3]⟩ <;> rw [hW]
  · exact h1.alloc (by omega) _
  · exact h2.1.alloc _
  · exact h2.2.1.alloc _
  · exact h2.2.2.1.alloc _
  · exact h2.2.2.2.alloc _
  · rw [← h3]; exact Blk.new _ _ _

set_option maxRecDepth 100000 in
set_option maxHeartbeats 1000000 in
theorem rproduct_ok (na nb nc nd : Bool) (A B C D : Option Addr) (n c m d n' c' m' d' : Nat) (x y u v : Int) (w : World) (ha : Wd w na A n c x) (hb : Wd w nb B m d y) (hc : Wd w nc C n' c' u) (hd : Wd w nd D m' d' v)
    (hs : (x * y).natAbs < pw 4096) (ht : (u * v).natAbs < pw 4096) (h0 : 0 < u * v) :
    Calls Tryz.prog 85 #[.agg #[.bool na, .slice A n c], .agg #[.bool nb, .slice B m d], .agg #[.bool nc, .slice C n' c'], .agg #[.bool nd, .slice D m' d']] w (FracE w (Rat.divInt (x * y) (u * v))) := by
  obtain ⟨W0, hW0, hB0, ⟨q0, q1, q2, q3, q4⟩, s0⟩ := alloc5 w 43 #[.bool na, .slice A n c] 43 #[.bool nb, .slice B m d] 43 #[.bool nc, .slice C n' c'] 43 #[.bool nd, .slice D m' d'] 45 #[.bool false, .slice none 0 0, .bool false, .slice none 0 0]
  have hA := hide (And.intro (ha.below hB0) (hb.below hB0))
  have hC := hide (And.intro (hc.below hB0) (hd.below hB0))
  replace hs := hide hs
  replace ht := hide ht
  replace h0 := hide h0
  clear ha hb hc hd
  obtain ⟨a0, a1, -⟩ := q0.two
  obtain ⟨b0, b1, -⟩ := q1.two
  have hq := hide (And.intro q2 (And.intro q3 q4))
  clear q0 q1 q2 q3 q4
  go_enter Tryz.func85, Tryz.ntmps85
  go_wp2_with fail
  refine (rMul_ok na nb A B n c m d x y W0 hA.out.1 hA.out.2).mono ?_
  rintro e w1 ⟨hb1, np, P, k, q, code, rfl, hR⟩
  have hP := hide (hR.small hs.out)
  have hcode := hR.code0 hs.out
  subst hcode
  have hB1 : Below w.heap.size w w1 := hB0.trans (hb1.mono hB0.size)
  have s1 : W0.heap.size ≤ w1.heap.size := hb1.size
  replace hC := hide (And.intro (hC.out.1.below hb1) (hC.out.2.below hb1))
  obtain ⟨q2, q3, q4⟩ := hq.out
  replace q2 := keep_blk hb1 q2
  replace q3 := keep_blk hb1 q3
  replace q4 := keep_blk hb1 q4
  clear hW0 hb1 a0 a1 b0 b1 hq hR hs hB0 hA
  obtain ⟨W2, hW2, hB2, q5, kW, kB, s2⟩ := new_obj 43 #[.bool np, .slice P k q] hB1 hB1.size
  replace hC := hide (And.intro (kW _ _ _ _ _ hC.out.1) (kW _ _ _ _ _ hC.out.2))
  replace hP := hide (kW _ _ _ _ _ hP.out)
  replace q2 := kB _ _ _ q2
  replace q3 := kB _ _ _ q3
  replace q4 := kB _ _ _ q4
  clear kW kB hB1
  obtain ⟨a0, a1, -⟩ := q2.two
  obtain ⟨b0, b1, -⟩ := q3.two
  have hq := hide (And.intro q4 q5)
  clear q2 q3 q4 q5
  go_wp2_with fail
  refine (rMul_ok nc nd C D n' c' m' d' u v W2 hC.out.1 hC.out.2).mono ?_
  rintro e w3 ⟨hb3, nr, R, k2, r, code, rfl, hR⟩
  have hQ := hide (hR.small ht.out)
  have hcode := hR.code0 ht.out
  subst hcode
  have hB3 : Below w.heap.size w w3 := hB2.trans (hb3.mono hB2.size)
  have s3 : W2.heap.size ≤ w3.heap.size := hb3.size
  obtain ⟨q4, q5⟩ := hq.out
  replace q4 := keep_blk hb3 q4
  replace q5 := keep_blk hb3 q5
  replace hP := hide (hP.out.below hb3)
  clear hW2 hb3 a0 a1 b0 b1 hq hR ht hB2 hC
  have hn : nr = false := by rw [hQ.out.1]; have := h0.out; simp; omega
  subst hn
  obtain ⟨W4, hW4, hB4, q6, kW, kB, s4⟩ := new_obj 43 #[.bool false, .slice R k2 r] hB3 hB3.size
  replace hQ := hide (kW _ _ _ _ _ hQ.out)
  replace hP := hide (kW _ _ _ _ _ hP.out)
  replace q4 := kB _ _ _ q4
  replace q5 := kB _ _ _ q5
  clear kW kB hB3
  obtain ⟨a0, a1, -⟩ := q5.two
  obtain ⟨b0, b1, -⟩ := q6.two
  have hq := hide q4
  clear q4 q5 q6
  go_wp2_with fail
  refine (rReduced_pos np P R k q k2 r _ _ W4 hP.out hQ.out h0.out).mono ?_
  rintro e w5 ⟨hb5, nx, Ax, kx, cx, ny, Ay, ky, cy, rfl, hF⟩
  have hB5 : Below w.heap.size w w5 := hB4.trans (hb5.mono hB4.size)
  have s5 : W4.heap.size ≤ w5.heap.size := hb5.size
  replace hq := hide (keep_blk hb5 hq.out)
  replace hF := hide hF
  clear a0 a1 b0 b1 hW4 hb5 hB4 hP hQ
  obtain ⟨c20, c21, c22, c23, f20, f21, f22, f23⟩ := hq.out.four
  go_wp2_with fail
  obtain ⟨W6, hW6, hB6, q2, kW, -, s6⟩ := set_frac nx Ax kx cx ny Ay ky cy hB5 (by omega) hq.out
  rw [hW6]
  obtain ⟨r0, r1, r2, r3, -⟩ := q2.four
  refine bodyPost_ret (v := .tuple #[.agg #[.bool nx, .slice Ax kx cx, .bool ny, .slice Ay ky cy], .int .i64 0]) (by simp [results, Tryz.results85, go_sem, r0, r1, r2, r3]) rfl ?_
  exact ⟨hB6, _, _, _, _, _, _, _, _, rfl, kW _ _ _ _ _ hF.out.1, kW _ _ _ _ _ hF.out.2⟩
end Go.Proofs.YtigdclhagmnopaaGreat

namespace Go.Proofs.YtigdclhagmnopaaGreat
open Go.RowKit
attribute [local go_sem] add_lit

set_option maxRecDepth 100000 in
set_option maxHeartbeats 1000000 in
theorem rAdd_bad (na nb : Bool) (A B : Option Addr) (n c m d : Nat) (la lb : List Nat) (w : World) (hLa : Lim w A n c la) (hLb : Lim w B m d lb) (hbad : (okW na la && okW nb lb) = false) :
    Calls Tryz.prog 128 #[.agg #[.bool na, .slice A n c], .agg #[.bool nb, .slice B m d]] w (BadW w) := by
  have hB0 : Below w.heap.size w (((w.alloc (.cells #[.bool na, .slice A n c] 43)).alloc (.cells #[.bool nb, .slice B m d] 43)).alloc (.cells #[.bool false, .slice none 0 0] 43)) := (((Below.refl w.heap.size w).alloc (Nat.le_refl _) _).alloc (by simp) _).alloc (by simp; omega) _
  have hB0 := hide hB0
  have hbad := hide hbad
  go_enter Tryz.func128, Tryz.ntmps128
  go_wp2_with fail
  refine (rboth_bad (hLa.below hB0.out) (hLb.below hB0.out) hbad.out).mono ?_
  rintro e w1 ⟨rfl, hb1⟩
  obtain ⟨hc1, hf1⟩ := bcell hb1
  have hz1 : w.heap.size + 1 + 1 < w1.heap.size := by have := hb1.size; simp at this; omega
  have hB1 : Below w.heap.size w w1 := hB0.out.trans (hb1.mono (by simp; omega))
  have g0 : w1.cell? ⟨w.heap.size, 0, none⟩ = some (.bool na) := by simp [hc1, go_sem]
  have g1 : w1.cell? ⟨w.heap.size, 1, none⟩ = some (.slice A n c) := by simp [hc1, go_sem]
  have g2 : w1.cell? ⟨w.heap.size + 1, 0, none⟩ = some (.bool nb) := by simp [hc1, go_sem]
  have g3 : w1.cell? ⟨w.heap.size + 1, 1, none⟩ = some (.slice B m d) := by simp [hc1, go_sem]
  have g7 : Blk w1 (w.heap.size + 1 + 1) 43 #[.bool false, .slice none 0 0] := by
    refine keep_blk hb1 ?_
    have := Blk.new ((w.alloc (.cells #[.bool na, .slice A n c] 43)).alloc (.cells #[.bool nb, .slice B m d] 43)) 43 #[.bool false, .slice none 0 0]
    simp only [World.size_alloc] at this; exact this
  have g5 := g7.cell 0
  have g6 := g7.cell 1
  have g8 := g7.frozen 0
  have g9 := g7.frozen 1
  simp at g5 g6
  clear hc1 hf1
  have hLa1 := hLa.below hB1
  have hLb1 := hLb.below hB1
  go_wp2_with fail
  refine (rboth_bad hLa1 hLb1 hbad.out).mono ?_
  rintro e w2 ⟨rfl, hb2⟩
  have hB2 : Below w.heap.size w w2 := hB1.trans (hb2.mono hB1.size)
  have m7 := keep_blk hb2 g7
  have m3 := m7.cell 0
  have m4 := m7.cell 1
  have m5 := m7.frozen 0
  have m6 := m7.frozen 1
  simp at m3 m4
  go_wp2_with fail
  refine bodyPost_ret (v := .tuple #[.agg #[.bool false, .slice none 0 0], .int .i64 8]) (by simp [results, Tryz.results128, go_sem, m3, m4]) rfl ?_
  exact ⟨rfl, (hB2.setCell (p := ⟨w.heap.size + 1 + 1, 0, none⟩) (by simp; omega) _).setCell (p := ⟨w.heap.size + 1 + 1, 1, none⟩) (by simp; omega) _⟩

set_option maxRecDepth 100000 in
set_option maxHeartbeats 1000000 in
theorem rAdd_ok (na nb : Bool) (A B : Option Addr) (n c m d : Nat) (za zb : Int) (w : World) (ha : Wd w na A n c za) (hb : Wd w nb B m d zb) :
    Calls Tryz.prog 128 #[.agg #[.bool na, .slice A n c], .agg #[.bool nb, .slice B m d]] w (ResW w (za + zb)) := by
  have hLa := ha.lim
  have hLb := hb.lim
  have hn := ha.2.1
  have hm := hb.2.1
  have hB0 : Below w.heap.size w (((w.alloc (.cells #[.bool na, .slice A n c] 43)).alloc (.cells #[.bool nb, .slice B m d] 43)).alloc (.cells #[.bool false, .slice none 0 0] 43)) := (((Below.refl w.heap.size w).alloc (Nat.le_refl _) _).alloc (by simp) _).alloc (by simp; omega) _
  have hB0 := hide hB0
  have hgood : Hid ((okW na (digits za.natAbs) && okW nb (digits zb.natAbs)) = true) := by unfold Hid; rw [ha.ok, hb.ok]; rfl
  have hza := hide ha.sgEq
  have hzb := hide hb.sgEq
  have hlb := hide hb.lim.len
  clear ha hb
  go_enter Tryz.func128, Tryz.ntmps128
  go_wp2_with fail
  refine (rboth_ok (hLa.below hB0.out) (hLb.below hB0.out) hgood.out).mono ?_
  rintro e w1 ⟨rfl, hb1⟩
  obtain ⟨hc1, hf1⟩ := bcell hb1
  have hz1 : w.heap.size + 1 + 1 < w1.heap.size := by have := hb1.size; simp at this; omega
  have hB1 : Below w.heap.size w w1 := hB0.out.trans (hb1.mono (by simp; omega))
  have g0 : w1.cell? ⟨w.heap.size, 0, none⟩ = some (.bool na) := by simp [hc1, go_sem]
  have g1 : w1.cell? ⟨w.heap.size, 1, none⟩ = some (.slice A n c) := by simp [hc1, go_sem]
  have g2 : w1.cell? ⟨w.heap.size + 1, 0, none⟩ = some (.bool nb) := by simp [hc1, go_sem]
  have g3 : w1.cell? ⟨w.heap.size + 1, 1, none⟩ = some (.slice B m d) := by simp [hc1, go_sem]
  have g7 : Blk w1 (w.heap.size + 1 + 1) 43 #[.bool false, .slice none 0 0] := by
    refine keep_blk hb1 ?_
    have := Blk.new ((w.alloc (.cells #[.bool na, .slice A n c] 43)).alloc (.cells #[.bool nb, .slice B m d] 43)) 43 #[.bool false, .slice none 0 0]
    simp only [World.size_alloc] at this; exact this
  have g5 := g7.cell 0
  have g6 := g7.cell 1
  have g8 := g7.frozen 0
  have g9 := g7.frozen 1
  simp at g5 g6
  clear hc1 hf1
  have hLa1 := hLa.below hB1
  have hLb1 := hLb.below hB1
  go_wp2_with fail
  refine (rsum_any _ _ _ _ _ _ _ _ _ _ _ (by exact hLa1) (by exact hLb1) hn hm).mono ?_
  rintro e w2 ⟨hb2, neg2, A2, n2, c2, code2, rfl, hR2⟩
  have hB2 : Below w.heap.size w w2 := hB1.trans (hb2.mono hB1.size)
  have m7 := keep_blk hb2 g7
  have m3 := m7.cell 0
  have m4 := m7.cell 1
  have m5 := m7.frozen 0
  have m6 := m7.frozen 1
  simp at m3 m4
  have HM := hide m7
  clear m7
  go_wp2_with fail
  have HZ : sg na za.natAbs + sg nb zb.natAbs = za + zb := by
    have h1 := hza.out; have h2 := hzb.out; rw [val_digits] at h1 h2; rw [h1, h2]
  refine bodyPost_ret (v := .tuple #[.agg #[.bool neg2, .slice A2 n2 c2], .int .i64 code2]) (by simp [results, Tryz.results128, go_sem, m3, m4]) rfl ?_
  exact ResW.box (HZ ▸ hR2) hB2 (by omega) HM.out
end Go.Proofs.YtigdclhagmnopaaGreat

namespace Go.Proofs.YtigdclhagmnopaaGreat
open Go.RowKit
attribute [local go_sem] add_lit

set_option maxRecDepth 100000 in
set_option maxHeartbeats 1000000 in
theorem rSub_bad (na nb : Bool) (A B : Option Addr) (n c m d : Nat) (la lb : List Nat) (w : World) (hLa : Lim w A n c la) (hLb : Lim w B m d lb) (hbad : (okW na la && okW nb lb) = false) :
    Calls Tryz.prog 138 #[.agg #[.bool na, .slice A n c], .agg #[.bool nb, .slice B m d]] w (BadW w) := by
  have hB0 : Below w.heap.size w (((w.alloc (.cells #[.bool na, .slice A n c] 43)).alloc (.cells #[.bool nb, .slice B m d] 43)).alloc (.cells #[.bool false, .slice none 0 0] 43)) := (((Below.refl w.heap.size w).alloc (Nat.le_refl _) _).alloc (by simp) _).alloc (by simp; omega) _
  have hB0 := hide hB0
  have hbad := hide hbad
  go_enter Tryz.func138, Tryz.ntmps138
  go_wp2_with fail
  refine (rboth_bad (hLa.below hB0.out) (hLb.below hB0.out) hbad.out).mono ?_
  rintro e w1 ⟨rfl, hb1⟩
  obtain ⟨hc1, hf1⟩ := bcell hb1
  have hz1 : w.heap.size + 1 + 1 < w1.heap.size := by have := hb1.size; simp at this; omega
  have hB1 : Below w.heap.size w w1 := hB0.out.trans (hb1.mono (by simp; omega))
  have g0 : w1.cell? ⟨w.heap.size, 0, none⟩ = some (.bool na) := by simp [hc1, go_sem]
  have g1 : w1.cell? ⟨w.heap.size, 1, none⟩ = some (.slice A n c) := by simp [hc1, go_sem]
  have g2 : w1.cell? ⟨w.heap.size + 1, 0, none⟩ = some (.bool nb) := by simp [hc1, go_sem]
  have g3 : w1.cell? ⟨w.heap.size + 1, 1, none⟩ = some (.slice B m d) := by simp [hc1, go_sem]
  have g7 : Blk w1 (w.heap.size + 1 + 1) 43 #[.bool false, .slice none 0 0] := by
    refine keep_blk hb1 ?_
    have := Blk.new ((w.alloc (.cells #[.bool na, .slice A n c] 43)).alloc (.cells #[.bool nb, .slice B m d] 43)) 43 #[.bool false, .slice none 0 0]
    simp only [World.size_alloc] at this; exact this
  have g5 := g7.cell 0
  have g6 := g7.cell 1
  have g8 := g7.frozen 0
  have g9 := g7.frozen 1
  simp at g5 g6
  clear hc1 hf1
  have hLa1 := hLa.below hB1
  have hLb1 := hLb.below hB1
  go_wp2_with fail
  refine (rboth_bad hLa1 hLb1 hbad.out).mono ?_
  rintro e w2 ⟨rfl, hb2⟩
  have hB2 : Below w.heap.size w w2 := hB1.trans (hb2.mono hB1.size)
  have m7 := keep_blk hb2 g7
  have m3 := m7.cell 0
  have m4 := m7.cell 1
  have m5 := m7.frozen 0
  have m6 := m7.frozen 1
  simp at m3 m4
  go_wp2_with fail
  refine bodyPost_ret (v := .tuple #[.agg #[.bool false, .slice none 0 0], .int .i64 8]) (by simp [results, Tryz.results138, go_sem, m3, m4]) rfl ?_
  exact ⟨rfl, (hB2.setCell (p := ⟨w.heap.size + 1 + 1, 0, none⟩) (by simp; omega) _).setCell (p := ⟨w.heap.size + 1 + 1, 1, none⟩) (by simp; omega) _⟩

set_option maxRecDepth 100000 in
set_option maxHeartbeats 1000000 in
theorem rSub_ok (na nb : Bool) (A B : Option Addr) (n c m d : Nat) (za zb : Int) (w : World) (ha : Wd w na A n c za) (hb : Wd w nb B m d zb) :
    Calls Tryz.prog 138 #[.agg #[.bool na, .slice A n c], .agg #[.bool nb, .slice B m d]] w (ResW w (za - zb)) := by
  have hLa := ha.lim
  have hLb := hb.lim
  have hn := ha.2.1
  have hm := hb.2.1
  have hB0 : Below w.heap.size w (((w.alloc (.cells #[.bool na, .slice A n c] 43)).alloc (.cells #[.bool nb, .slice B m d] 43)).alloc (.cells #[.bool false, .slice none 0 0] 43)) := (((Below.refl w.heap.size w).alloc (Nat.le_refl _) _).alloc (by simp) _).alloc (by simp; omega) _
  have hB0 := hide hB0
  have hgood : Hid ((okW na (digits za.natAbs) && okW nb (digits zb.natAbs)) = true) := by unfold Hid; rw [ha.ok, hb.ok]; rfl
  have hza := hide ha.sgEq
  have hzb := hide hb.sgEq
  have hlb := hide hb.lim.len
  clear ha hb
  go_enter Tryz.func138, Tryz.ntmps138
  go_wp2_with fail
  refine (rboth_ok (hLa.below hB0.out) (hLb.below hB0.out) hgood.out).mono ?_
  rintro e w1 ⟨rfl, hb1⟩
  obtain ⟨hc1, hf1⟩ := bcell hb1
  have hz1 : w.heap.size + 1 + 1 < w1.heap.size := by have := hb1.size; simp at this; omega
  have hB1 : Below w.heap.size w w1 := hB0.out.trans (hb1.mono (by simp; omega))
  have g0 : w1.cell? ⟨w.heap.size, 0, none⟩ = some (.bool na) := by simp [hc1, go_sem]
  have g1 : w1.cell? ⟨w.heap.size, 1, none⟩ = some (.slice A n c) := by simp [hc1, go_sem]
  have g2 : w1.cell? ⟨w.heap.size + 1, 0, none⟩ = some (.bool nb) := by simp [hc1, go_sem]
  have g3 : w1.cell? ⟨w.heap.size + 1, 1, none⟩ = some (.slice B m d) := by simp [hc1, go_sem]
  have g7 : Blk w1 (w.heap.size + 1 + 1) 43 #[.bool false, .slice none 0 0] := by
    refine keep_blk hb1 ?_
    have := Blk.new ((w.alloc (.cells #[.bool na, .slice A n c] 43)).alloc (.cells #[.bool nb, .slice B m d] 43)) 43 #[.bool false, .slice none 0 0]
    simp only [World.size_alloc] at this; exact this
  have g5 := g7.cell 0
  have g6 := g7.cell 1
  have g8 := g7.frozen 0
  have g9 := g7.frozen 1
  simp at g5 g6
  clear hc1 hf1
  have hLa1 := hLa.below hB1
  have hLb1 := hLb.below hB1
  by_cases hm0 : 0 < m
  · have hd : decide (0 < m) = true := by simpa using hm0
    cases nb
    · go_wp2_with fail
      refine (rsum_any _ _ _ _ _ _ _ _ _ _ _ (by exact hLa1) (by exact hLb1) hn hm).mono ?_
      rintro e w2 ⟨hb2, neg2, A2, n2, c2, code2, rfl, hR2⟩
      have hB2 : Below w.heap.size w w2 := hB1.trans (hb2.mono hB1.size)
      have m7 := keep_blk hb2 g7
      have m3 := m7.cell 0
      have m4 := m7.cell 1
      have m5 := m7.frozen 0
      have m6 := m7.frozen 1
      simp at m3 m4
      have HM := hide m7
      clear m7
      go_wp2_with fail
      have HZ : sg na za.natAbs + sg (true) zb.natAbs = za - zb := by
        have h1 := hza.out; have h2 := hzb.out; rw [val_digits] at h1 h2
        have h3 : sg (true) zb.natAbs = - zb := by unfold sg at h2 ⊢; simp at h2 ⊢; omega
        rw [h1, h3]; omega
      refine bodyPost_ret (v := .tuple #[.agg #[.bool neg2, .slice A2 n2 c2], .int .i64 code2]) (by simp [results, Tryz.results138, go_sem, m3, m4]) rfl ?_
      exact ResW.box (HZ ▸ hR2) hB2 (by omega) HM.out
    · go_wp2_with fail
      refine (rsum_any _ _ _ _ _ _ _ _ _ _ _ (by exact hLa1) (by exact hLb1) hn hm).mono ?_
      rintro e w2 ⟨hb2, neg2, A2, n2, c2, code2, rfl, hR2⟩
      have hB2 : Below w.heap.size w w2 := hB1.trans (hb2.mono hB1.size)
      have m7 := keep_blk hb2 g7
      have m3 := m7.cell 0
      have m4 := m7.cell 1
      have m5 := m7.frozen 0
      have m6 := m7.frozen 1
      simp at m3 m4
      have HM := hide m7
      clear m7
      go_wp2_with fail
      have HZ : sg na za.natAbs + sg (false) zb.natAbs = za - zb := by
        have h1 := hza.out; have h2 := hzb.out; rw [val_digits] at h1 h2
        have h3 : sg (false) zb.natAbs = - zb := by unfold sg at h2 ⊢; simp at h2 ⊢; omega
        rw [h1, h3]; omega
      refine bodyPost_ret (v := .tuple #[.agg #[.bool neg2, .slice A2 n2 c2], .int .i64 code2]) (by simp [results, Tryz.results138, go_sem, m3, m4]) rfl ?_
      exact ResW.box (HZ ▸ hR2) hB2 (by omega) HM.out
  · obtain rfl : m = 0 := by omega
    have hz0 : zb.natAbs = 0 := by have := hlb.out; exact digits_eq_nil.1 (List.eq_nil_of_length_eq_zero this)
    have hz0 := hide hz0
    cases nb
    · go_wp2_with fail
      refine (rsum_any _ _ _ _ _ _ _ _ _ _ _ (by exact hLa1) (by exact hLb1) hn hm).mono ?_
      rintro e w2 ⟨hb2, neg2, A2, n2, c2, code2, rfl, hR2⟩
      have hB2 : Below w.heap.size w w2 := hB1.trans (hb2.mono hB1.size)
      have m7 := keep_blk hb2 g7
      have m3 := m7.cell 0
      have m4 := m7.cell 1
      have m5 := m7.frozen 0
      have m6 := m7.frozen 1
      simp at m3 m4
      have HM := hide m7
      clear m7
      go_wp2_with fail
      have HZ : sg na za.natAbs + sg (false) zb.natAbs = za - zb := by
        have h1 := hza.out; have h2 := hzb.out; rw [val_digits] at h1 h2
        have h3 : sg (false) zb.natAbs = - zb := by have h4 := hz0.out; unfold sg; simp; omega
        rw [h1, h3]; omega
      refine bodyPost_ret (v := .tuple #[.agg #[.bool neg2, .slice A2 n2 c2], .int .i64 code2]) (by simp [results, Tryz.results138, go_sem, m3, m4]) rfl ?_
      exact ResW.box (HZ ▸ hR2) hB2 (by omega) HM.out
    · go_wp2_with fail
      refine (rsum_any _ _ _ _ _ _ _ _ _ _ _ (by exact hLa1) (by exact hLb1) hn hm).mono ?_
      rintro e w2 ⟨hb2, neg2, A2, n2, c2, code2, rfl, hR2⟩
      have hB2 : Below w.heap.size w w2 := hB1.trans (hb2.mono hB1.size)
      have m7 := keep_blk hb2 g7
      have m3 := m7.cell 0
      have m4 := m7.cell 1
      have m5 := m7.frozen 0
      have m6 := m7.frozen 1
      simp at m3 m4
      have HM := hide m7
      clear m7
      go_wp2_with fail
      have HZ : sg na za.natAbs + sg (false) zb.natAbs = za - zb := by
        have h1 := hza.out; have h2 := hzb.out; rw [val_digits] at h1 h2
        have h3 : sg (false) zb.natAbs = - zb := by have h4 := hz0.out; unfold sg; simp; omega
        rw [h1, h3]; omega
      refine bodyPost_ret (v := .tuple #[.agg #[.bool neg2, .slice A2 n2 c2], .int .i64 code2]) (by simp [results, Tryz.results138, go_sem, m3, m4]) rfl ?_
      exact ResW.box (HZ ▸ hR2) hB2 (by omega) HM.out
end Go.Proofs.YtigdclhagmnopaaGreat
