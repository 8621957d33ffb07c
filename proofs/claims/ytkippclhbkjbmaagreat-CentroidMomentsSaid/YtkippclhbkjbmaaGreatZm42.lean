/- Reference of frac: Add, Sub, Mul, Div of small fractions (Div: by one greater than 0). Reference of frac: Same, Cmp. -/
import Derived.Test.YtkippclhbkjbmaaGreatZm37
set_option linter.unusedSimpArgs false
set_option linter.unusedVariables false

namespace Go.Proofs.YtkippclhbkjbmaaGreat
open Go.RowKit
attribute [local go_sem] add_lit

theorem rat_div {a b : Rat} (h : 0 < b.num) : Rat.divInt (a.num * b.den) ((a.den : Int) * b.num) = a / b := by
  have hb : ((b.den : Nat) : Int) ≠ 0 := by have := b.den_pos; omega
  rw [Rat.div_def, ← Rat.divInt_mul_divInt, Rat.num_divInt_den, ← Rat.inv_divInt, Rat.num_divInt_den]

set_option maxRecDepth 100000 in
set_option maxHeartbeats 1000000 in
theorem rfAdd_ok (na nb na' nb' : Bool) (A B A' B' : Option Addr) (n c m d n' c' m' d' : Nat) (a b : Rat) (w : World) (ha : Fr w na A n c nb B m d a) (hb : Fr w na' A' n' c' nb' B' m' d' b) (sa : Sm a) (sb : Sm b) :
    Calls Tryz.prog 60 #[.agg #[.bool na, .slice A n c, .bool nb, .slice B m d], .agg #[.bool na', .slice A' n' c', .bool nb', .slice B' m' d']] w (FracE w (a + b)) := by
  obtain ⟨W0, hW0, hB0, ⟨q0, q1, q2⟩, s0⟩ := alloc3 w 32 #[.bool na, .slice A n c, .bool nb, .slice B m d] 32 #[.bool na', .slice A' n' c', .bool nb', .slice B' m' d'] 32 #[.bool false, .slice none 0 0, .bool false, .slice none 0 0]
  have hA := hide (ha.below hB0)
  have hD := hide (hb.below hB0)
  clear ha hb
  have hH := hide (fun (W1 : World) (h1 : Fr W1 na A n c nb B m d a) (h2 : Fr W1 na' A' n' c' nb' B' m' d' b) => radded_Add na nb na' nb' A B A' B' n c m d n' c' m' d' a b W1 h1 h2 sa sb)
  clear sa sb
  obtain ⟨a0, a1, a2, a3, -⟩ := q0.four
  obtain ⟨b0, b1, b2, b3, -⟩ := q1.four
  have hq := hide (And.intro q0 (And.intro q1 q2))
  clear q0 q1 q2
  go_enter Tryz.func60, Tryz.ntmps60
  go_wp2_with fail
  refine (rfBoth_ok na nb na' nb' A B A' B' n c m d n' c' m' d' a b W0 hA.out hD.out).mono ?_
  rintro e w1 ⟨rfl, hb1⟩
  have hB1 : Below w.heap.size w w1 := hB0.trans (hb1.mono hB0.size)
  have s1 : W0.heap.size ≤ w1.heap.size := hb1.size
  replace hA := hide (hA.out.below hb1)
  replace hD := hide (hD.out.below hb1)
  obtain ⟨q0, q1, q2⟩ := hq.out
  replace q0 := keep_blk hb1 q0
  replace q1 := keep_blk hb1 q1
  replace q2 := keep_blk hb1 q2
  clear hW0 hb1 a0 a1 a2 a3 b0 b1 b2 b3 hq hB0
  obtain ⟨a0, a1, a2, a3, -⟩ := q0.four
  obtain ⟨b0, b1, b2, b3, -⟩ := q1.four
  replace q2 := hide q2
  clear q0 q1
  have hG := hH.out w1 hA.out hD.out
  
  replace hG := hide hG
  clear hH hA hD
  go_wp2_with fail
  refine hG.out.mono ?_
  clear hG
  rintro e w2 ⟨hb2, nx, Ax, kx, cx, ny, Ay, ky, cy, rfl, hF⟩
  have hB2 : Below w.heap.size w w2 := hB1.trans (hb2.mono hB1.size)
  have s2 : w1.heap.size ≤ w2.heap.size := hb2.size
  replace q2 := hide (keep_blk hb2 q2.out)
  replace hF := hide hF
  clear a0 a1 a2 a3 b0 b1 b2 b3 hb2 hB1
  obtain ⟨c20, c21, c22, c23, f20, f21, f22, f23⟩ := q2.out.four
  go_wp2_with fail
  obtain ⟨W7, hW7, hB7, q3, kW, -, s7⟩ := set_frac nx Ax kx cx ny Ay ky cy hB2 (by omega) q2.out
  rw [hW7]
  obtain ⟨r0, r1, r2, r3, -⟩ := q3.four
  refine bodyPost_ret (v := .tuple #[.agg #[.bool nx, .slice Ax kx cx, .bool ny, .slice Ay ky cy], .int .i64 0]) (by simp [results, Tryz.results60, go_sem, r0, r1, r2, r3]) rfl ?_
  exact ⟨hB7, _, _, _, _, _, _, _, _, rfl, kW _ _ _ _ _ hF.out.1, kW _ _ _ _ _ hF.out.2⟩

set_option maxRecDepth 100000 in
set_option maxHeartbeats 1000000 in
theorem rfSub_ok (na nb na' nb' : Bool) (A B A' B' : Option Addr) (n c m d n' c' m' d' : Nat) (a b : Rat) (w : World) (ha : Fr w na A n c nb B m d a) (hb : Fr w na' A' n' c' nb' B' m' d' b) (sa : Sm a) (sb : Sm b) :
    Calls Tryz.prog 58 #[.agg #[.bool na, .slice A n c, .bool nb, .slice B m d], .agg #[.bool na', .slice A' n' c', .bool nb', .slice B' m' d']] w (FracE w (a - b)) := by
  obtain ⟨W0, hW0, hB0, ⟨q0, q1, q2⟩, s0⟩ := alloc3 w 32 #[.bool na, .slice A n c, .bool nb, .slice B m d] 32 #[.bool na', .slice A' n' c', .bool nb', .slice B' m' d'] 32 #[.bool false, .slice none 0 0, .bool false, .slice none 0 0]
  have hA := hide (ha.below hB0)
  have hD := hide (hb.below hB0)
  clear ha hb
  have hH := hide (fun (W1 : World) (h1 : Fr W1 na A n c nb B m d a) (h2 : Fr W1 na' A' n' c' nb' B' m' d' b) => radded_Sub na nb na' nb' A B A' B' n c m d n' c' m' d' a b W1 h1 h2 sa sb)
  clear sa sb
  obtain ⟨a0, a1, a2, a3, -⟩ := q0.four
  obtain ⟨b0, b1, b2, b3, -⟩ := q1.four
  have hq := hide (And.intro q0 (And.intro q1 q2))
  clear q0 q1 q2
  go_enter Tryz.func58, Tryz.ntmps58
  go_wp2_with fail
  refine (rfBoth_ok na nb na' nb' A B A' B' n c m d n' c' m' d' a b W0 hA.out hD.out).mono ?_
  rintro e w1 ⟨rfl, hb1⟩
  have hB1 : Below w.heap.size w w1 := hB0.trans (hb1.mono hB0.size)
  have s1 : W0.heap.size ≤ w1.heap.size := hb1.size
  replace hA := hide (hA.out.below hb1)
  replace hD := hide (hD.out.below hb1)
  obtain ⟨q0, q1, q2⟩ := hq.out
  replace q0 := keep_blk hb1 q0
  replace q1 := keep_blk hb1 q1
  replace q2 := keep_blk hb1 q2
  clear hW0 hb1 a0 a1 a2 a3 b0 b1 b2 b3 hq hB0
  obtain ⟨a0, a1, a2, a3, -⟩ := q0.four
  obtain ⟨b0, b1, b2, b3, -⟩ := q1.four
  replace q2 := hide q2
  clear q0 q1
  have hG := hH.out w1 hA.out hD.out
  
  replace hG := hide hG
  clear hH hA hD
  go_wp2_with fail
  refine hG.out.mono ?_
  clear hG
  rintro e w2 ⟨hb2, nx, Ax, kx, cx, ny, Ay, ky, cy, rfl, hF⟩
  have hB2 : Below w.heap.size w w2 := hB1.trans (hb2.mono hB1.size)
  have s2 : w1.heap.size ≤ w2.heap.size := hb2.size
  replace q2 := hide (keep_blk hb2 q2.out)
  replace hF := hide hF
  clear a0 a1 a2 a3 b0 b1 b2 b3 hb2 hB1
  obtain ⟨c20, c21, c22, c23, f20, f21, f22, f23⟩ := q2.out.four
  go_wp2_with fail
  obtain ⟨W7, hW7, hB7, q3, kW, -, s7⟩ := set_frac nx Ax kx cx ny Ay ky cy hB2 (by omega) q2.out
  rw [hW7]
  obtain ⟨r0, r1, r2, r3, -⟩ := q3.four
  refine bodyPost_ret (v := .tuple #[.agg #[.bool nx, .slice Ax kx cx, .bool ny, .slice Ay ky cy], .int .i64 0]) (by simp [results, Tryz.results58, go_sem, r0, r1, r2, r3]) rfl ?_
  exact ⟨hB7, _, _, _, _, _, _, _, _, rfl, kW _ _ _ _ _ hF.out.1, kW _ _ _ _ _ hF.out.2⟩

set_option maxRecDepth 100000 in
set_option maxHeartbeats 1000000 in
theorem rfMul_ok (na nb na' nb' : Bool) (A B A' B' : Option Addr) (n c m d n' c' m' d' : Nat) (a b : Rat) (w : World) (ha : Fr w na A n c nb B m d a) (hb : Fr w na' A' n' c' nb' B' m' d' b) (sa : Sm a) (sb : Sm b) :
    Calls Tryz.prog 59 #[.agg #[.bool na, .slice A n c, .bool nb, .slice B m d], .agg #[.bool na', .slice A' n' c', .bool nb', .slice B' m' d']] w (FracE w (a * b)) := by
  obtain ⟨W0, hW0, hB0, ⟨q0, q1, q2⟩, s0⟩ := alloc3 w 32 #[.bool na, .slice A n c, .bool nb, .slice B m d] 32 #[.bool na', .slice A' n' c', .bool nb', .slice B' m' d'] 32 #[.bool false, .slice none 0 0, .bool false, .slice none 0 0]
  have hA := hide (ha.below hB0)
  have hD := hide (hb.below hB0)
  clear ha hb
  have hH := hide (fun (W1 : World) (h1 : Fr W1 na A n c nb B m d a) (h2 : Fr W1 na' A' n' c' nb' B' m' d' b) => (rproduct_ok na na' nb nb' A A' B B' n c n' c' m d m' d' a.num b.num a.den b.den W1 h1.1 h2.1 h1.2 h2.2 (sm_mul' sa.1 sb.1) (sm_mul' sa.dn sb.dn) (den_mul_pos a b)))
  clear sa sb
  obtain ⟨a0, a1, a2, a3, -⟩ := q0.four
  obtain ⟨b0, b1, b2, b3, -⟩ := q1.four
  have hq := hide (And.intro q0 (And.intro q1 q2))
  clear q0 q1 q2
  go_enter Tryz.func59, Tryz.ntmps59
  go_wp2_with fail
  refine (rfBoth_ok na nb na' nb' A B A' B' n c m d n' c' m' d' a b W0 hA.out hD.out).mono ?_
  rintro e w1 ⟨rfl, hb1⟩
  have hB1 : Below w.heap.size w w1 := hB0.trans (hb1.mono hB0.size)
  have s1 : W0.heap.size ≤ w1.heap.size := hb1.size
  replace hA := hide (hA.out.below hb1)
  replace hD := hide (hD.out.below hb1)
  obtain ⟨q0, q1, q2⟩ := hq.out
  replace q0 := keep_blk hb1 q0
  replace q1 := keep_blk hb1 q1
  replace q2 := keep_blk hb1 q2
  clear hW0 hb1 a0 a1 a2 a3 b0 b1 b2 b3 hq hB0
  obtain ⟨a0, a1, a2, a3, -⟩ := q0.four
  obtain ⟨b0, b1, b2, b3, -⟩ := q1.four
  replace q2 := hide q2
  clear q0 q1
  have hG := hH.out w1 hA.out hD.out
  rw [rat_mul] at hG
  replace hG := hide hG
  clear hH hA hD
  go_wp2_with fail
  refine hG.out.mono ?_
  clear hG
  rintro e w2 ⟨hb2, nx, Ax, kx, cx, ny, Ay, ky, cy, rfl, hF⟩
  have hB2 : Below w.heap.size w w2 := hB1.trans (hb2.mono hB1.size)
  have s2 : w1.heap.size ≤ w2.heap.size := hb2.size
  replace q2 := hide (keep_blk hb2 q2.out)
  replace hF := hide hF
  clear a0 a1 a2 a3 b0 b1 b2 b3 hb2 hB1
  obtain ⟨c20, c21, c22, c23, f20, f21, f22, f23⟩ := q2.out.four
  go_wp2_with fail
  obtain ⟨W7, hW7, hB7, q3, kW, -, s7⟩ := set_frac nx Ax kx cx ny Ay ky cy hB2 (by omega) q2.out
  rw [hW7]
  obtain ⟨r0, r1, r2, r3, -⟩ := q3.four
  refine bodyPost_ret (v := .tuple #[.agg #[.bool nx, .slice Ax kx cx, .bool ny, .slice Ay ky cy], .int .i64 0]) (by simp [results, Tryz.results59, go_sem, r0, r1, r2, r3]) rfl ?_
  exact ⟨hB7, _, _, _, _, _, _, _, _, rfl, kW _ _ _ _ _ hF.out.1, kW _ _ _ _ _ hF.out.2⟩

set_option maxRecDepth 100000 in
set_option maxHeartbeats 1000000 in
theorem rfDiv_ok (na nb na' nb' : Bool) (A B A' B' : Option Addr) (n c m d n' c' m' d' : Nat) (a b : Rat) (w : World) (ha : Fr w na A n c nb B m d a) (hb : Fr w na' A' n' c' nb' B' m' d' b) (sa : Sm a) (sb : Sm b) (hp : 0 < b.num) :
    Calls Tryz.prog 61 #[.agg #[.bool na, .slice A n c, .bool nb, .slice B m d], .agg #[.bool na', .slice A' n' c', .bool nb', .slice B' m' d']] w (FracE w (a / b)) := by
  obtain ⟨W0, hW0, hB0, ⟨q0, q1, q2⟩, s0⟩ := alloc3 w 32 #[.bool na, .slice A n c, .bool nb, .slice B m d] 32 #[.bool na', .slice A' n' c', .bool nb', .slice B' m' d'] 32 #[.bool false, .slice none 0 0, .bool false, .slice none 0 0]
  have hA := hide (ha.below hB0)
  have hD := hide (hb.below hB0)
  have hn0 : 0 < n' := by rw [← hb.1.lim.len]; exact length_digits_pos.2 (by omega)
  have hn0' : ((n' : Int) == 0) = false := by simp; omega
  have hn1 := hb.1.2.1
  clear ha hb
  have hH := hide (fun (W1 : World) (h1 : Fr W1 na A n c nb B m d a) (h2 : Fr W1 na' A' n' c' nb' B' m' d' b) => (rproduct_ok na nb' nb na' A B' B A' n c m' d' m d n' c' a.num b.den a.den b.num W1 h1.1 h2.2 h1.2 h2.1 (sm_mul' sa.1 sb.dn) (sm_mul' sa.dn sb.1) (Int.mul_pos (by have := a.den_pos; omega) hp)))
  clear sa sb
  obtain ⟨a0, a1, a2, a3, -⟩ := q0.four
  obtain ⟨b0, b1, b2, b3, -⟩ := q1.four
  have hq := hide (And.intro q0 (And.intro q1 q2))
  clear q0 q1 q2
  go_enter Tryz.func61, Tryz.ntmps61
  go_wp2_with fail
  refine (rfBoth_ok na nb na' nb' A B A' B' n c m d n' c' m' d' a b W0 hA.out hD.out).mono ?_
  rintro e w1 ⟨rfl, hb1⟩
  have hB1 : Below w.heap.size w w1 := hB0.trans (hb1.mono hB0.size)
  have s1 : W0.heap.size ≤ w1.heap.size := hb1.size
  replace hA := hide (hA.out.below hb1)
  replace hD := hide (hD.out.below hb1)
  obtain ⟨q0, q1, q2⟩ := hq.out
  replace q0 := keep_blk hb1 q0
  replace q1 := keep_blk hb1 q1
  replace q2 := keep_blk hb1 q2
  clear hW0 hb1 a0 a1 a2 a3 b0 b1 b2 b3 hq hB0
  obtain ⟨a0, a1, a2, a3, -⟩ := q0.four
  obtain ⟨b0, b1, b2, b3, -⟩ := q1.four
  replace q2 := hide q2
  clear q0 q1
  have hG := hH.out w1 hA.out hD.out
  rw [rat_div hp] at hG
  replace hG := hide hG
  clear hH hA hD
  go_wp2_with fail
  refine hG.out.mono ?_
  clear hG
  rintro e w2 ⟨hb2, nx, Ax, kx, cx, ny, Ay, ky, cy, rfl, hF⟩
  have hB2 : Below w.heap.size w w2 := hB1.trans (hb2.mono hB1.size)
  have s2 : w1.heap.size ≤ w2.heap.size := hb2.size
  replace q2 := hide (keep_blk hb2 q2.out)
  replace hF := hide hF
  clear a0 a1 a2 a3 b0 b1 b2 b3 hb2 hB1
  obtain ⟨c20, c21, c22, c23, f20, f21, f22, f23⟩ := q2.out.four
  go_wp2_with fail
  obtain ⟨W7, hW7, hB7, q3, kW, -, s7⟩ := set_frac nx Ax kx cx ny Ay ky cy hB2 (by omega) q2.out
  rw [hW7]
  obtain ⟨r0, r1, r2, r3, -⟩ := q3.four
  refine bodyPost_ret (v := .tuple #[.agg #[.bool nx, .slice Ax kx cx, .bool ny, .slice Ay ky cy], .int .i64 0]) (by simp [results, Tryz.results61, go_sem, r0, r1, r2, r3]) rfl ?_
  exact ⟨hB7, _, _, _, _, _, _, _, _, rfl, kW _ _ _ _ _ hF.out.1, kW _ _ _ _ _ hF.out.2⟩
end Go.Proofs.YtkippclhbkjbmaaGreat

namespace Go.Proofs.YtkippclhbkjbmaaGreat
open Go.RowKit
attribute [local go_sem] add_lit

theorem sameB_num {x y : Int} {na nb : Bool} (ha : na = decide (x < 0)) (hb : nb = decide (y < 0)) : sameB na nb (digits x.natAbs) (digits y.natAbs) = decide (x = y) := by
  unfold sameB
  rw [cmpL_digits, ha, hb]
  by_cases h : x = y
  · subst h; simp [cmpZ]
  · rw [decide_eq_false h]
    unfold cmpZ
    by_cases h1 : (decide (x < 0) == decide (y < 0)) = true
    · have : x.natAbs ≠ y.natAbs := by
        intro e
        rw [beq_iff_eq, decide_eq_decide] at h1
        omega
      rcases Nat.lt_or_gt_of_ne this with h2 | h2
      · rw [if_pos (by omega)]; simp
      · rw [if_neg (by omega), if_pos (by omega)]; simp
    · rw [Bool.not_eq_true] at h1; rw [h1]; rfl

/-- Two numbers in memory, as a fraction (valid or not). -/
def Fz (w : World) (na : Bool) (A : Option Addr) (n c : Nat) (nb : Bool) (B : Option Addr) (m d : Nat) (q : Int × Int) : Prop := Wd w na A n c q.1 ∧ Wd w nb B m d q.2
theorem Fz.below {w w' : World} {na : Bool} {A : Option Addr} {n c : Nat} {nb : Bool} {B : Option Addr} {m d : Nat} {r : Int × Int} (h : Fz w na A n c nb B m d r) (hb : Below w.heap.size w w') : Fz w' na A n c nb B m d r := ⟨h.1.below hb, h.2.below hb⟩
/-- The pair of a fraction. -/
def prQ (r : Rat) : Int × Int := (r.num, (r.den : Nat))
theorem Fr.fz {w : World} {na : Bool} {A : Option Addr} {n c : Nat} {nb : Bool} {B : Option Addr} {m d : Nat} {r : Rat} (h : Fr w na A n c nb B m d r) : Fz w na A n c nb B m d (prQ r) := h

set_option maxRecDepth 100000 in
set_option maxHeartbeats 1000000 in
theorem rfSame_fz (na nb na' nb' : Bool) (A B A' B' : Option Addr) (n c m d n' c' m' d' : Nat) (a b : Int × Int) (w : World) (ha : Fz w na A n c nb B m d a) (hb : Fz w na' A' n' c' nb' B' m' d' b) (s : Bool) (hs : decide (a = b) = s) :
    Calls Tryz.prog 23 #[.agg #[.bool na, .slice A n c, .bool nb, .slice B m d], .agg #[.bool na', .slice A' n' c', .bool nb', .slice B' m' d']] w fun e w' => e = .returned (.bool s) ∧ Below w.heap.size w w' := by
  obtain ⟨W0, hW0, hB0, ⟨q0, q1⟩, s0⟩ := alloc2 w 32 #[.bool na, .slice A n c, .bool nb, .slice B m d] 32 #[.bool na', .slice A' n' c', .bool nb', .slice B' m' d']
  have hA := hide (ha.below hB0)
  have hD := hide (hb.below hB0)
  have e1 := hide (sameB_num ha.1.1 hb.1.1)
  have e2 := hide (sameB_num ha.2.1 hb.2.1)
  clear ha hb
  obtain ⟨x, hx⟩ : ∃ x, decide (a.1 = b.1) = x := ⟨_, rfl⟩
  obtain ⟨y, hy⟩ : ∃ y, decide (a.2 = b.2) = y := ⟨_, rfl⟩
  have hsx : s = (x && y) := by
    rw [← hs, ← hx, ← hy, Bool.eq_iff_iff]
    simp only [decide_eq_true_eq, Bool.and_eq_true]
    constructor
    · rintro rfl; exact ⟨rfl, rfl⟩
    · rintro ⟨h1, h2⟩; exact Prod.ext h1 h2
  subst hsx
  rw [hx] at e1
  rw [hy] at e2
  clear hs hx hy
  obtain ⟨a0, a1, a2, a3, -⟩ := q0.four
  obtain ⟨b0, b1, b2, b3, -⟩ := q1.four
  have hq := hide (And.intro q0 q1)
  clear q0 q1
  go_enter Tryz.func23, Tryz.ntmps23
  go_wp2_with fail
  refine (rSame_any na na' A A' n c n' c' _ _ W0 hA.out.1.lim hD.out.1.lim).mono ?_
  rw [e1.out]
  rintro e w1 ⟨rfl, hb1⟩
  have hB1 : Below w.heap.size w w1 := hB0.trans (hb1.mono hB0.size)
  replace hA := hide (hA.out.below hb1)
  replace hD := hide (hD.out.below hb1)
  obtain ⟨q0, q1⟩ := hq.out
  replace q0 := keep_blk hb1 q0
  replace q1 := keep_blk hb1 q1
  clear hW0 hb1 a0 a1 a2 a3 b0 b1 b2 b3 hq hB0
  obtain ⟨a0, a1, a2, a3, -⟩ := q0.four
  obtain ⟨b0, b1, b2, b3, -⟩ := q1.four
  clear q0 q1
  cases x
  · go_wp2_with fail
    go_ret
    exact ⟨rfl, hB1⟩
  · go_wp2_with fail
    refine (rSame_any nb nb' B B' m d m' d' _ _ w1 hA.out.2.lim hD.out.2.lim).mono ?_
    rw [e2.out]
    rintro e w2 ⟨rfl, hb2⟩
    have hB2 : Below w.heap.size w w2 := hB1.trans (hb2.mono hB1.size)
    go_wp2_with fail
    go_ret
    exact ⟨by simp, hB2⟩

theorem prQ_inj {a b : Rat} : prQ a = prQ b ↔ a = b := by
  constructor
  · intro h
    have h1 := congrArg Prod.fst h
    have h2 := congrArg Prod.snd h
    simp only [prQ] at h1 h2
    exact Rat.ext h1 (by omega)
  · rintro rfl; rfl
theorem rfSame_any (na nb na' nb' : Bool) (A B A' B' : Option Addr) (n c m d n' c' m' d' : Nat) (a b : Rat) (w : World) (ha : Fr w na A n c nb B m d a) (hb : Fr w na' A' n' c' nb' B' m' d' b) (s : Bool) (hs : decide (a = b) = s) :
    Calls Tryz.prog 23 #[.agg #[.bool na, .slice A n c, .bool nb, .slice B m d], .agg #[.bool na', .slice A' n' c', .bool nb', .slice B' m' d']] w fun e w' => e = .returned (.bool s) ∧ Below w.heap.size w w' :=
  rfSame_fz na nb na' nb' A B A' B' n c m d n' c' m' d' (prQ a) (prQ b) w ha.fz hb.fz s (by rw [← hs]; exact decide_eq_decide.2 prQ_inj)
end Go.Proofs.YtkippclhbkjbmaaGreat
