/- Lists of pixels: reference (Listed, Start, place, sum) and package centroid (start, column, row). Reference of frac: Add, Sub, Mul, Div of small fractions (Div: by one greater than 0). Reference of frac: Same, Cmp. Centroids: moments (plain). -/
import Derived.Test.YtkippclhbkjbmaaGreatZh33
import Derived.Test.YtkippclhbkjbmaaGreatZh31
import Derived.Test.YtkippclhbkjbmaaGreatZh32
set_option linter.unusedSimpArgs false
set_option linter.unusedVariables false

namespace Go.Proofs.YtkippclhbkjbmaaGreat
open Go.RowKit
attribute [local go_sem] add_lit


set_option maxRecDepth 100000 in
set_option maxHeartbeats 2000000 in
theorem rListed_ok (W H : Int) (A : Option Addr) (n c : Nat) (B : Option Addr) (m d : Nat) (l : List Int) (w : World) (hl : LimI w B m d l) (h9 : n ≤ 1000000000) (h8 : m ≤ 1000000000) (b : Bool) (hb : listed l n = b) :
    Calls Tryz.prog 55 #[.agg #[.int .i64 W, .int .i64 H, .slice A n c], .slice B m d] w fun e w' => e = .returned (.bool b) ∧ Below w.heap.size w w' := by
  obtain ⟨W0, hW0, hB0, q0, s0⟩ := alloc1 w 24 #[.int .i64 W, .int .i64 H, .slice A n c]
  have c2 := q0.cell 2
  simp at c2
  replace hl := hide (hl.below hB0)
  replace hb := hide hb
  have hlm : l.length = m := hl.out.lenI
  go_enter Tryz.func55, Tryz.ntmps55
  go_wp2_with fail
  clear hW0
  go_loopw [5] (fun i wr => ∃ k : Nat, k ≤ m ∧ i = .int .i64 k ∧ Hid (listedTo l n k = true) ∧ ∃ m0, wr = W0.drewN m0) (fun i _ => m - (intOf i).toNat)
  case atStart => exact ⟨0, by omega, rfl, hide rfl, 0, rfl⟩
  case round =>
    obtain ⟨k, h1, rfl, heq, m0, rfl⟩ := hrel
    by_cases hk : k < m
    case neg =>
      obtain rfl : k = m := by omega
      have htk : decide ((k : Int) < (k : Int)) = false := by simp
      have hb0 : b = decide (0 < k) := by rw [← hb.out]; unfold listed; rw [hlm, heq.out]; simp
      subst hb0
      have hpos : decide ((0 : Int) < (k : Int)) = decide (0 < k) := by simp
      go_wp2_with fail
      go_ret
      exact ⟨by simp [hpos], (by first | exact hB0 | exact below_dn hB0 _ | exact below_dn (below_dn hB0 _) _)⟩
    have htk : decide ((k : Int) < (m : Int)) = true := by simp; omega
    obtain ⟨g, o, rfl, hc⟩ := hl.out.2.2.2.2 (by omega)
    have hck := hc k hk
    obtain ⟨x, hx⟩ : ∃ x, l[k]?.getD 0 = x := ⟨_, rfl⟩
    rw [hx] at hck
    by_cases f1 : x < 0
    · have v1 : decide (x < 0) = true := by simpa using f1
      have hbad : badAt l n k = true := badAt_true.2 (by omega)
      clear hc hx
      have hb0 : b = false := by rw [← hb.out]; unfold listed; rw [listedTo_bad (k := k) (by omega) hbad]; simp
      subst hb0
      clear hb heq hbad
      go_wp2_with fail
      go_quiet (fail)
      go_wp2_with fail
      go_ret
      exact ⟨rfl, (by first | exact hB0 | exact below_dn hB0 _ | exact below_dn (below_dn hB0 _) _)⟩
    have v1 : decide (x < 0) = false := by simpa using f1
    by_cases f2 : (n : Int) ≤ x
    · have v2 : decide ((n : Int) ≤ x) = true := by simpa using f2
      have hbad : badAt l n k = true := badAt_true.2 (by omega)
      clear hc hx
      have hb0 : b = false := by rw [← hb.out]; unfold listed; rw [listedTo_bad (k := k) (by omega) hbad]; simp
      subst hb0
      clear hb heq hbad
      go_wp2_with fail
      go_quiet (fail)
      go_wp2_with fail
      go_ret
      exact ⟨rfl, (by first | exact hB0 | exact below_dn hB0 _ | exact below_dn (below_dn hB0 _) _)⟩
    have v2 : decide ((n : Int) ≤ x) = false := by simpa using f2
    rcases Nat.eq_zero_or_pos k with k0 | k0
    · subst k0
      simp only [Nat.add_zero] at hck
      have htk' : decide ((0 : Int) < (m : Int)) = true := decide_eq_true (by omega)
      have hgood : badAt l n 0 = false := by rw [Bool.eq_false_iff]; intro e; have := badAt_true.1 e; omega
      clear hc hx
      replace hgood := hide hgood
      go_wp2_with fail
      go_quiet (fail)
      go_wp2_with fail
      go_round
      case rel => exact ⟨0 + 1, by omega, by go_num, hide (by first | (show (listedTo l n 0 && !badAt l n 0) = true; rw [heq.out, hgood.out]; rfl) | (show (listedTo l n (j + 1) && !badAt l n (j + 1)) = true; rw [heq.out, hgood.out]; rfl)), _, (by first | rfl | exact World.drewN_drewN _ _ _)⟩
      case measure => simp [intOf]; omega
    obtain ⟨j, rfl⟩ : ∃ j, k = j + 1 := ⟨k - 1, by omega⟩
    have v3 : decide ((0 : Int) < ((j + 1 : Nat) : Int)) = true := decide_eq_true (by omega)
    have hcj := hc j (by omega)
    have hz : wrap64 (((j + 1 : Nat) : Int) - 1) = (j : Int) := by unfold wrap64; omega
    obtain ⟨y, hy⟩ : ∃ y, l[j]?.getD 0 = y := ⟨_, rfl⟩
    rw [hy] at hcj
    by_cases f3 : x ≤ y
    · have v4 : decide (x ≤ y) = true := by simpa using f3
      have hbad : badAt l n (j + 1) = true := badAt_true.2 (by rw [Nat.add_sub_cancel]; omega)
      clear hc hx hy
      have hb0 : b = false := by rw [← hb.out]; unfold listed; rw [listedTo_bad (k := j + 1) (by omega) hbad]; simp
      subst hb0
      clear hb heq hbad
      go_wp2_with fail
      go_quiet (fail)
      go_wp2_with fail
      go_ret
      exact ⟨rfl, (by first | exact hB0 | exact below_dn hB0 _ | exact below_dn (below_dn hB0 _) _)⟩
    have v4 : decide (x ≤ y) = false := by simpa using f3
    have hgood : badAt l n (j + 1) = false := by rw [Bool.eq_false_iff]; intro e; have := badAt_true.1 e; rw [Nat.add_sub_cancel] at this; omega
    clear hc hx hy
    replace hgood := hide hgood
    go_wp2_with fail
    go_quiet (fail)
    go_wp2_with fail
    go_round
    case rel => exact ⟨(j + 1) + 1, by omega, by go_num, hide (by first | (show (listedTo l n 0 && !badAt l n 0) = true; rw [heq.out, hgood.out]; rfl) | (show (listedTo l n (j + 1) && !badAt l n (j + 1)) = true; rw [heq.out, hgood.out]; rfl)), _, (by first | rfl | exact World.drewN_drewN _ _ _)⟩
    case measure => simp [intOf]; omega
end Go.Proofs.YtkippclhbkjbmaaGreat

namespace Go.Proofs.YtkippclhbkjbmaaGreat
open Go.RowKit
attribute [local go_sem] add_lit

theorem rat_div {a b : Rat} (h : 0 < b.num) : Rat.divInt (a.num * b.den) ((a.den : Int) * b.num) = a / b := by
  have hb : ((b.den : Nat) : Int) ≠ 0 := by have := b.den_pos; omega
  rw [Rat.div_def, ← Rat.divInt_mul_divInt, Rat.num_divInt_den, ← Rat.inv_divInt, Rat.num_divInt_den]

set_option maxRecDepth 100000 in
set_option maxHeartbeats 1000000 in
theorem rfAdd_ok (na nb na' nb' : Bool) (A B A' B' : Option Addr) (n c m d n' c' m' d' : Nat) (a b : Rat) (w : World) (ha : Fr w na A n c nb B m d a) (hb : Fr w na' A' n' c' nb' B' m' d' b) (sa : Sm a) (sb : Sm b) :
    Calls Tryz.prog 60 #[.agg #[.bool na, .slice A n c, .bool nb, .slice B m d], .agg #[.bool na', .slice A' n' c', .bool nb', .slice B' m' d']] w (FracE w (a + b)) := by
  obtain ⟨W0, hW0, hB0, ⟨q0, q1, q2⟩, s0⟩ := alloc3 w 32 #[.bool na, .slice A n c, .bool nb, .slice B m d] 32 #[.bool na', .slice A' n' c', .bool nb', .slice B' m' d'] 32 #[.bool false, .slice none 0 0, .bool false, .slice none 0 0]
  have hA := hide (ha.below hB0)
  have hD := hide (hb.below hB0)
  clear ha hb
  have hH := hide (fun (W1 : World) (h1 : Fr W1 na A n c nb B m d a) (h2 : Fr W1 na' A' n' c' nb' B' m' d' b) => radded_Add na nb na' nb' A B A' B' n c m d n' c' m' d' a b W1 h1 h2 sa sb)
  clear sa sb
  obtain ⟨a0, a1, a2, a3, -⟩ := q0.four
  obtain ⟨b0, b1, b2, b3, -⟩ := q1.four
  have hq := hide (And.intro q0 (And.intro q1 q2))
  clear q0 q1 q2
  go_enter Tryz.func60, Tryz.ntmps60
  go_wp2_with fail
  refine (rfBoth_ok na nb na' nb' A B A' B' n c m d n' c' m' d' a b W0 hA.out hD.out).mono ?_
  rintro e w1 ⟨rfl, hb1⟩
  have hB1 : Below w.heap.size w w1 := hB0.trans (hb1.mono hB0.size)
  have s1 : W0.heap.size ≤ w1.heap.size := hb1.size
  replace hA := hide (hA.out.below hb1)
  replace hD := hide (hD.out.below hb1)
  obtain ⟨q0, q1, q2⟩ := hq.out
  replace q0 := keep_blk hb1 q0
  replace q1 := keep_blk hb1 q1
  replace q2 := keep_blk hb1 q2
  clear hW0 hb1 a0 a1 a2 a3 b0 b1 b2 b3 hq hB0
  obtain ⟨a0, a1, a2, a3, -⟩ := q0.four
  obtain ⟨b0, b1, b2, b3, -⟩ := q1.four
  replace q2 := hide q2
  clear q0 q1
  have hG := hH.out w1 hA.out hD.out
  
  replace hG := hide hG
  clear hH hA hD
  go_wp2_with fail
  refine hG.out.mono ?_
  clear hG
  rintro e w2 ⟨hb2, nx, Ax, kx, cx, ny, Ay, ky, cy, rfl, hF⟩
  have hB2 : Below w.heap.size w w2 := hB1.trans (hb2.mono hB1.size)
  have s2 : w1.heap.size ≤ w2.heap.size := hb2.size
  replace q2 := hide (keep_blk hb2 q2.out)
  replace hF := hide hF
  clear a0 a1 a2 a3 b0 b1 b2 b3 hb2 hB1
  obtain ⟨c20, c21, c22, c23, f20, f21, f22, f23⟩ := q2.out.four
  go_wp2_with fail
  obtain ⟨W7, hW7, hB7, q3, kW, -, s7⟩ := set_frac nx Ax kx cx ny Ay ky cy hB2 (by omega) q2.out
  rw [hW7]
  obtain ⟨r0, r1, r2, r3, -⟩ := q3.four
  refine bodyPost_ret (v := .tuple #[.agg #[.bool nx, .slice Ax kx cx, .bool ny, .slice Ay ky cy], .int .i64 0]) (by simp [results, Tryz.results60, go_sem, r0, r1, r2, r3]) rfl ?_
  exact ⟨hB7, _, _, _, _, _, _, _, _, rfl, kW _ _ _ _ _ hF.out.1, kW _ _ _ _ _ hF.out.2⟩

set_option maxRecDepth 100000 in
set_option maxHeartbeats 1000000 in
theorem rfSub_ok (na nb na' nb' : Bool) (A B A' B' : Option Addr) (n c m d n' c' m' d' : Nat) (a b : Rat) (w : World) (ha : Fr w na A n c nb B m d a) (hb : Fr w na' A' n' c' nb' B' m' d' b) (sa : Sm a) (sb : Sm b) :
    Calls Tryz.prog 58 #[.agg #[.bool na, .slice A n c, .bool nb, .slice B m d], .agg #[.bool na', .slice A' n' c', .bool nb', .slice B' m' d']] w (FracE w (a - b)) := by
  obtain ⟨W0, hW0, hB0, ⟨q0, q1, q2⟩, s0⟩ := alloc3 w 32 #[.bool na, .slice A n c, .bool nb, .slice B m d] 32 #[.bool na', .slice A' n' c', .bool nb', .slice B' m' d'] 32 #[.bool false, .slice none 0 0, .bool false, .slice none 0 0]
  have hA := hide (ha.below hB0)
  have hD := hide (hb.below hB0)
  clear ha hb
  have hH := hide (fun (W1 : World) (h1 : Fr W1 na A n c nb B m d a) (h2 : Fr W1 na' A' n' c' nb' B' m' d' b) => radded_Sub na nb na' nb' A B A' B' n c m d n' c' m' d' a b W1 h1 h2 sa sb)
  clear sa sb
  obtain ⟨a0, a1, a2, a3, -⟩ := q0.four
  obtain ⟨b0, b1, b2, b3, -⟩ := q1.four
  have hq := hide (And.intro q0 (And.intro q1 q2))
  clear q0 q1 q2
  go_enter Tryz.func58, Tryz.ntmps58
  go_wp2_with fail
  refine (rfBoth_ok na nb na' nb' A B A' B' n c m d n' c' m' d' a b W0 hA.out hD.out).mono ?_
  rintro e w1 ⟨rfl, hb1⟩
  have hB1 : Below w.heap.size w w1 := hB0.trans (hb1.mono hB0.size)
  have s1 : W0.heap.size ≤ w1.heap.size := hb1.size
  replace hA := hide (hA.out.below hb1)
  replace hD := hide (hD.out.below hb1)
  obtain ⟨q0, q1, q2⟩ := hq.out
  replace q0 := keep_blk hb1 q0
  replace q1 := keep_blk hb1 q1
  replace q2 := keep_blk hb1 q2
  clear hW0 hb1 a0 a1 a2 a3 b0 b1 b2 b3 hq hB0
  obtain ⟨a0, a1, a2, a3, -⟩ := q0.four
  obtain ⟨b0, b1, b2, b3, -⟩ := q1.four
  replace q2 := hide q2
  clear q0 q1
  have hG := hH.out w1 hA.out hD.out
  
  replace hG := hide hG
  clear hH hA hD
  go_wp2_with fail
  refine hG.out.mono ?_
  clear hG
  rintro e w2 ⟨hb2, nx, Ax, kx, cx, ny, Ay, ky, cy, rfl, hF⟩
  have hB2 : Below w.heap.size w w2 := hB1.trans (hb2.mono hB1.size)
  have s2 : w1.heap.size ≤ w2.heap.size := hb2.size
  replace q2 := hide (keep_blk hb2 q2.out)
  replace hF := hide hF
  clear a0 a1 a2 a3 b0 b1 b2 b3 hb2 hB1
  obtain ⟨c20, c21, c22, c23, f20, f21, f22, f23⟩ := q2.out.four
  go_wp2_with fail
  obtain ⟨W7, hW7, hB7, q3, kW, -, s7⟩ := set_frac nx Ax kx cx ny Ay ky cy hB2 (by omega) q2.out
  rw [hW7]
  obtain ⟨r0, r1, r2, r3, -⟩ := q3.four
  refine bodyPost_ret (v := .tuple #[.agg #[.bool nx, .slice Ax kx cx, .bool ny, .slice Ay ky cy], .int .i64 0]) (by simp [results, Tryz.results58, go_sem, r0, r1, r2, r3]) rfl ?_
  exact ⟨hB7, _, _, _, _, _, _, _, _, rfl, kW _ _ _ _ _ hF.out.1, kW _ _ _ _ _ hF.out.2⟩

set_option maxRecDepth 100000 in
set_option maxHeartbeats 1000000 in
theorem rfMul_ok (na nb na' nb' : Bool) (A B A' B' : Option Addr) (n c m d n' c' m' d' : Nat) (a b : Rat) (w : World) (ha : Fr w na A n c nb B m d a) (hb : Fr w na' A' n' c' nb' B' m' d' b) (sa : Sm a) (sb : Sm b) :
    Calls Tryz.prog 59 #[.agg #[.bool na, .slice A n c, .bool nb, .slice B m d], .agg #[.bool na', .slice A' n' c', .bool nb', .slice B' m' d']] w (FracE w (a * b)) := by
  obtain ⟨W0, hW0, hB0, ⟨q0, q1, q2⟩, s0⟩ := alloc3 w 32 #[.bool na, .slice A n c, .bool nb, .slice B m d] 32 #[.bool na', .slice A' n' c', .bool nb', .slice B' m' d'] 32 #[.bool false, .slice none 0 0, .bool false, .slice none 0 0]
  have hA := hide (ha.below hB0)
  have hD := hide (hb.below hB0)
  clear ha hb
  have hH := hide (fun (W1 : World) (h1 : Fr W1 na A n c nb B m d a) (h2 : Fr W1 na' A' n' c' nb' B' m' d' b) => (rproduct_ok na na' nb nb' A A' B B' n c n' c' m d m' d' a.num b.num a.den b.den W1 h1.1 h2.1 h1.2 h2.2 (sm_mul' sa.1 sb.1) (sm_mul' sa.dn sb.dn) (den_mul_pos a b)))
  clear sa sb
  obtain ⟨a0, a1, a2, a3, -⟩ := q0.four
  obtain ⟨b0, b1, b2, b3, -⟩ := q1.four
  have hq := hide (And.intro q0 (And.intro q1 q2))
  clear q0 q1 q2
  go_enter Tryz.func59, Tryz.ntmps59
  go_wp2_with fail
  refine (rfBoth_ok na nb na' nb' A B A' B' n c m d n' c' m' d' a b W0 hA.out hD.out).mono ?_
  rintro e w1 ⟨rfl, hb1⟩
  have hB1 : Below w.heap.size w w1 := hB0.trans (hb1.mono hB0.size)
  have s1 : W0.heap.size ≤ w1.heap.size := hb1.size
  replace hA := hide (hA.out.below hb1)
  replace hD := hide (hD.out.below hb1)
  obtain ⟨q0, q1, q2⟩ := hq.out
  replace q0 := keep_blk hb1 q0
  replace q1 := keep_blk hb1 q1
  replace q2 := keep_blk hb1 q2
  clear hW0 hb1 a0 a1 a2 a3 b0 b1 b2 b3 hq hB0
  obtain ⟨a0, a1, a2, a3, -⟩ := q0.four
  obtain ⟨b0, b1, b2, b3, -⟩ := q1.four
  replace q2 := hide q2
  clear q0 q1
  have hG := hH.out w1 hA.out hD.out
  rw [rat_mul] at hG
  replace hG := hide hG
  clear hH hA hD
  go_wp2_with fail
  refine hG.out.mono ?_
  clear hG
  rintro e w2 ⟨hb2, nx, Ax, kx, cx, ny, Ay, ky, cy, rfl, hF⟩
  have hB2 : Below w.heap.size w w2 := hB1.trans (hb2.mono hB1.size)
  have s2 : w1.heap.size ≤ w2.heap.size := hb2.size
  replace q2 := hide (keep_blk hb2 q2.out)
  replace hF := hide hF
  clear a0 a1 a2 a3 b0 b1 b2 b3 hb2 hB1
  obtain ⟨c20, c21, c22, c23, f20, f21, f22, f23⟩ := q2.out.four
  go_wp2_with fail
  obtain ⟨W7, hW7, hB7, q3, kW, -, s7⟩ := set_frac nx Ax kx cx ny Ay ky cy hB2 (by omega) q2.out
  rw [hW7]
  obtain ⟨r0, r1, r2, r3, -⟩ := q3.four
  refine bodyPost_ret (v := .tuple #[.agg #[.bool nx, .slice Ax kx cx, .bool ny, .slice Ay ky cy], .int .i64 0]) (by simp [results, Tryz.results59, go_sem, r0, r1, r2, r3]) rfl ?_
  exact ⟨hB7, _, _, _, _, _, _, _, _, rfl, kW _ _ _ _ _ hF.out.1, kW _ _ _ _ _ hF.out.2⟩

set_option maxRecDepth 100000 in
set_option maxHeartbeats 1000000 in
theorem rfDiv_ok (na nb na' nb' : Bool) (A B A' B' : Option Addr) (n c m d n' c' m' d' : Nat) (a b : Rat) (w : World) (ha : Fr w na A n c nb B m d a) (hb : Fr w na' A' n' c' nb' B' m' d' b) (sa : Sm a) (sb : Sm b) (hp : 0 < b.num) :
    Calls Tryz.prog 61 #[.agg #[.bool na, .slice A n c, .bool nb, .slice B m d], .agg #[.bool na', .slice A' n' c', .bool nb', .slice B' m' d']] w (FracE w (a / b)) := by
  obtain ⟨W0, hW0, hB0, ⟨q0, q1, q2⟩, s0⟩ := alloc3 w 32 #[.bool na, .slice A n c, .bool nb, .slice B m d] 32 #[.bool na', .slice A' n' c', .bool nb', .slice B' m' d'] 32 #[.bool false, .slice none 0 0, .bool false, .slice none 0 0]
  have hA := hide (ha.below hB0)
  have hD := hide (hb.below hB0)
  have hn0 : 0 < n' := by rw [← hb.1.lim.len]; exact length_digits_pos.2 (by omega)
  have hn0' : ((n' : Int) == 0) = false := by simp; omega
  have hn1 := hb.1.2.1
  clear ha hb
  have hH := hide (fun (W1 : World) (h1 : Fr W1 na A n c nb B m d a) (h2 : Fr W1 na' A' n' c' nb' B' m' d' b) => (rproduct_ok na nb' nb na' A B' B A' n c m' d' m d n' c' a.num b.den a.den b.num W1 h1.1 h2.2 h1.2 h2.1 (sm_mul' sa.1 sb.dn) (sm_mul' sa.dn sb.1) (Int.mul_pos (by have := a.den_pos; omega) hp)))
  clear sa sb
  obtain ⟨a0, a1, a2, a3, -⟩ := q0.four
  obtain ⟨b0, b1, b2, b3, -⟩ := q1.four
  have hq := hide (And.intro q0 (And.intro q1 q2))
  clear q0 q1 q2
  go_enter Tryz.func61, Tryz.ntmps61
  go_wp2_with fail
  refine (rfBoth_ok na nb na' nb' A B A' B' n c m d n' c' m' d' a b W0 hA.out hD.out).mono ?_
  rintro e w1 ⟨rfl, hb1⟩
  have hB1 : Below w.heap.size w w1 := hB0.trans (hb1.mono hB0.size)
  have s1 : W0.heap.size ≤ w1.heap.size := hb1.size
  replace hA := hide (hA.out.below hb1)
  replace hD := hide (hD.out.below hb1)
  obtain ⟨q0, q1, q2⟩ := hq.out
  replace q0 := keep_blk hb1 q0
  replace q1 := keep_blk hb1 q1
  replace q2 := keep_blk hb1 q2
  clear hW0 hb1 a0 a1 a2 a3 b0 b1 b2 b3 hq hB0
  obtain ⟨a0, a1, a2, a3, -⟩ := q0.four
  obtain ⟨b0, b1, b2, b3, -⟩ := q1.four
  replace q2 := hide q2
  clear q0 q1
  have hG := hH.out w1 hA.out hD.out
  rw [rat_div hp] at hG
  replace hG := hide hG
  clear hH hA hD
  go_wp2_with fail
  refine hG.out.mono ?_
  clear hG
  rintro e w2 ⟨hb2, nx, Ax, kx, cx, ny, Ay, ky, cy, rfl, hF⟩
  have hB2 : Below w.heap.size w w2 := hB1.trans (hb2.mono hB1.size)
  have s2 : w1.heap.size ≤ w2.heap.size := hb2.size
  replace q2 := hide (keep_blk hb2 q2.out)
  replace hF := hide hF
  clear a0 a1 a2 a3 b0 b1 b2 b3 hb2 hB1
  obtain ⟨c20, c21, c22, c23, f20, f21, f22, f23⟩ := q2.out.four
  go_wp2_with fail
  obtain ⟨W7, hW7, hB7, q3, kW, -, s7⟩ := set_frac nx Ax kx cx ny Ay ky cy hB2 (by omega) q2.out
  rw [hW7]
  obtain ⟨r0, r1, r2, r3, -⟩ := q3.four
  refine bodyPost_ret (v := .tuple #[.agg #[.bool nx, .slice Ax kx cx, .bool ny, .slice Ay ky cy], .int .i64 0]) (by simp [results, Tryz.results61, go_sem, r0, r1, r2, r3]) rfl ?_
  exact ⟨hB7, _, _, _, _, _, _, _, _, rfl, kW _ _ _ _ _ hF.out.1, kW _ _ _ _ _ hF.out.2⟩
end Go.Proofs.YtkippclhbkjbmaaGreat

namespace Go.Proofs.YtkippclhbkjbmaaGreat
open Go.RowKit
attribute [local go_sem] add_lit

theorem sameB_num {x y : Int} {na nb : Bool} (ha : na = decide (x < 0)) (hb : nb = decide (y < 0)) : sameB na nb (digits x.natAbs) (digits y.natAbs) = decide (x = y) := by
  unfold sameB
  rw [cmpL_digits, ha, hb]
  by_cases h : x = y
  · subst h; simp [cmpZ]
  · rw [decide_eq_false h]
    unfold cmpZ
    by_cases h1 : (decide (x < 0) == decide (y < 0)) = true
    · have : x.natAbs ≠ y.natAbs := by
        intro e
        rw [beq_iff_eq, decide_eq_decide] at h1
        omega
      rcases Nat.lt_or_gt_of_ne this with h2 | h2
      · rw [if_pos (by omega)]; simp
      · rw [if_neg (by omega), if_pos (by omega)]; simp
    · rw [Bool.not_eq_true] at h1; rw [h1]; rfl

/-- Two numbers in memory, as a fraction (valid or not). -/
def Fz (w : World) (na : Bool) (A : Option Addr) (n c : Nat) (nb : Bool) (B : Option Addr) (m d : Nat) (q : Int × Int) : Prop := Wd w na A n c q.1 ∧ Wd w nb B m d q.2
theorem Fz.below {w w' : World} {na : Bool} {A : Option Addr} {n c : Nat} {nb : Bool} {B : Option Addr} {m d : Nat} {r : Int × Int} (h : Fz w na A n c nb B m d r) (hb : Below w.heap.size w w') : Fz w' na A n c nb B m d r := ⟨h.1.below hb, h.2.below hb⟩
/-- The pair of a fraction. -/
def prQ (r : Rat) : Int × Int := (r.num, (r.den : Nat))
theorem Fr.fz {w : World} {na : Bool} {A : Option Addr} {n c : Nat} {nb : Bool} {B : Option Addr} {m d : Nat} {r : Rat} (h : Fr w na A n c nb B m d r) : Fz w na A n c nb B m d (prQ r) := h

set_option maxRecDepth 100000 in
set_option maxHeartbeats 1000000 in
theorem rfSame_fz (na nb na' nb' : Bool) (A B A' B' : Option Addr) (n c m d n' c' m' d' : Nat) (a b : Int × Int) (w : World) (ha : Fz w na A n c nb B m d a) (hb : Fz w na' A' n' c' nb' B' m' d' b) (s : Bool) (hs : decide (a = b) = s) :
    Calls Tryz.prog 23 #[.agg #[.bool na, .slice A n c, .bool nb, .slice B m d], .agg #[.bool na', .slice A' n' c', .bool nb', .slice B' m' d']] w fun e w' => e = .returned (.bool s) ∧ Below w.heap.size w w' := by
  obtain ⟨W0, hW0, hB0, ⟨q0, q1⟩, s0⟩ := alloc2 w 32 #[.bool na, .slice A n c, .bool nb, .slice B m d] 32 #[.bool na', .slice A' n' c', .bool nb', .slice B' m' d']
  have hA := hide (ha.below hB0)
  have hD := hide (hb.below hB0)
  have e1 := hide (sameB_num ha.1.1 hb.1.1)
  have e2 := hide (sameB_num ha.2.1 hb.2.1)
  clear ha hb
  obtain ⟨x, hx⟩ : ∃ x, decide (a.1 = b.1) = x := ⟨_, rfl⟩
  obtain ⟨y, hy⟩ : ∃ y, decide (a.2 = b.2) = y := ⟨_, rfl⟩
  have hsx : s = (x && y) := by
    rw [← hs, ← hx, ← hy, Bool.eq_iff_iff]
    simp only [decide_eq_true_eq, Bool.and_eq_true]
    constructor
    · rintro rfl; exact ⟨rfl, rfl⟩
    · rintro ⟨h1, h2⟩; exact Prod.ext h1 h2
  subst hsx
  rw [hx] at e1
  rw [hy] at e2
  clear hs hx hy
  obtain ⟨a0, a1, a2, a3, -⟩ := q0.four
  obtain ⟨b0, b1, b2, b3, -⟩ := q1.four
  have hq := hide (And.intro q0 q1)
  clear q0 q1
  go_enter Tryz.func23, Tryz.ntmps23
  go_wp2_with fail
  refine (rSame_any na na' A A' n c n' c' _ _ W0 hA.out.1.lim hD.out.1.lim).mono ?_
  rw [e1.out]
  rintro e w1 ⟨rfl, hb1⟩
  have hB1 : Below w.heap.size w w1 := hB0.trans (hb1.mono hB0.size)
  replace hA := hide (hA.out.below hb1)
  replace hD := hide (hD.out.below hb1)
  obtain ⟨q0, q1⟩ := hq.out
  replace q0 := keep_blk hb1 q0
  replace q1 := keep_blk hb1 q1
  clear hW0 hb1 a0 a1 a2 a3 b0 b1 b2 b3 hq hB0
  obtain ⟨a0, a1, a2, a3, -⟩ := q0.four
  obtain ⟨b0, b1, b2, b3, -⟩ := q1.four
  clear q0 q1
  cases x
  · go_wp2_with fail
    go_ret
    exact ⟨rfl, hB1⟩
  · go_wp2_with fail
    refine (rSame_any nb nb' B B' m d m' d' _ _ w1 hA.out.2.lim hD.out.2.lim).mono ?_
    rw [e2.out]
    rintro e w2 ⟨rfl, hb2⟩
    have hB2 : Below w.heap.size w w2 := hB1.trans (hb2.mono hB1.size)
    go_wp2_with fail
    go_ret
    exact ⟨by simp, hB2⟩

theorem prQ_inj {a b : Rat} : prQ a = prQ b ↔ a = b := by
  constructor
  · intro h
    have h1 := congrArg Prod.fst h
    have h2 := congrArg Prod.snd h
    simp only [prQ] at h1 h2
    exact Rat.ext h1 (by omega)
  · rintro rfl; rfl
theorem rfSame_any (na nb na' nb' : Bool) (A B A' B' : Option Addr) (n c m d n' c' m' d' : Nat) (a b : Rat) (w : World) (ha : Fr w na A n c nb B m d a) (hb : Fr w na' A' n' c' nb' B' m' d' b) (s : Bool) (hs : decide (a = b) = s) :
    Calls Tryz.prog 23 #[.agg #[.bool na, .slice A n c, .bool nb, .slice B m d], .agg #[.bool na', .slice A' n' c', .bool nb', .slice B' m' d']] w fun e w' => e = .returned (.bool s) ∧ Below w.heap.size w w' :=
  rfSame_fz na nb na' nb' A B A' B' n c m d n' c' m' d' (prQ a) (prQ b) w ha.fz hb.fz s (by rw [← hs]; exact decide_eq_decide.2 prQ_inj)
end Go.Proofs.YtkippclhbkjbmaaGreat

namespace Go.Proofs.YtkippclhbkjbmaaGreat
open Go.RowKit

/-- The numbers of a moment. -/
structure Mom where
  s : Int
  x : Int × Int
  y : Int × Int
  xx : Int × Int
  xy : Int × Int
  yy : Int × Int
def Mom.zero : Mom := ⟨0, (0, 0), (0, 0), (0, 0), (0, 0), (0, 0)⟩

def colv (W i : Int) : Int := i % W
def rowv (W i : Int) : Int := i / W
def psum (ps l : List Int) : Int := sumK (pix ps) l l.length
def mean1 (u : Int → Int) (ps l : List Int) : Rat := Rat.divInt (sumK (fun i => u i * pix ps i) l l.length) (psum ps l)
def mean2 (u v : Int → Int) (ps l : List Int) : Rat := Rat.divInt (sumK (fun i => u i * v i * pix ps i) l l.length) (psum ps l)
def central (u v : Int → Int) (ps l : List Int) : Rat := mean2 u v ps l - mean1 u ps l * mean1 v ps l
def momOf (W : Int) (ps l : List Int) : Mom := ⟨psum ps l, prQ (mean1 (colv W) ps l), prQ (mean1 (rowv W) ps l), prQ (central (colv W) (colv W) ps l), prQ (central (colv W) (rowv W) ps l), prQ (central (rowv W) (rowv W) ps l)⟩
def momE (W H : Int) (n : Nat) (ps l : List Int) : Int := if startE W H n ps l = 0 then (if psum ps l ≤ 0 then 18 else 0) else startE W H n ps l
def momM (W H : Int) (n : Nat) (ps l : List Int) : Mom := if momE W H n ps l = 0 then momOf W ps l else Mom.zero

/-- A moment in memory. -/
def MomF (w : World) (cs : Array Value) (M : Mom) : Prop :=
  ∃ n0 A0 k0 c0 m0 B0 j0 d0 n1 A1 k1 c1 m1 B1 j1 d1 n2 A2 k2 c2 m2 B2 j2 d2 n3 A3 k3 c3 m3 B3 j3 d3 n4 A4 k4 c4 m4 B4 j4 d4,
    cs = #[.int .i64 M.s, .bool n0, .slice A0 k0 c0, .bool m0, .slice B0 j0 d0, .bool n1, .slice A1 k1 c1, .bool m1, .slice B1 j1 d1, .bool n2, .slice A2 k2 c2, .bool m2, .slice B2 j2 d2, .bool n3, .slice A3 k3 c3, .bool m3, .slice B3 j3 d3, .bool n4, .slice A4 k4 c4, .bool m4, .slice B4 j4 d4] ∧
    Fz w n0 A0 k0 c0 m0 B0 j0 d0 M.x ∧ Fz w n1 A1 k1 c1 m1 B1 j1 d1 M.y ∧ Fz w n2 A2 k2 c2 m2 B2 j2 d2 M.xx ∧ Fz w n3 A3 k3 c3 m3 B3 j3 d3 M.xy ∧ Fz w n4 A4 k4 c4 m4 B4 j4 d4 M.yy
theorem MomF.below {w w' : World} {cs : Array Value} {M : Mom} (h : MomF w cs M) (hb : Below w.heap.size w w') : MomF w' cs M := by
  obtain ⟨n0, A0, k0, c0, m0, B0, j0, d0, n1, A1, k1, c1, m1, B1, j1, d1, n2, A2, k2, c2, m2, B2, j2, d2, n3, A3, k3, c3, m3, B3, j3, d3, n4, A4, k4, c4, m4, B4, j4, d4, rfl, h0, h1, h2, h3, h4⟩ := h
  exact ⟨_, _, _, _, _, _, _, _, _, _, _, _, _, _, _, _, _, _, _, _, _, _, _, _, _, _, _, _, _, _, _, _, _, _, _, _, _, _, _, _, rfl, h0.below hb, h1.below hb, h2.below hb, h3.below hb, h4.below hb⟩
/-- What 'Moments' hands back. -/
def MomP (w : World) (E : Int) (M : Mom) (e : Ending) (w' : World) : Prop :=
  Below w.heap.size w w' ∧ ∃ cs, e = .returned (.tuple #[.agg cs, .int .i64 E]) ∧ MomF w' cs M
theorem MomF.zero (w : World) : MomF w #[.int .i64 0, .bool false, .slice none 0 0, .bool false, .slice none 0 0, .bool false, .slice none 0 0, .bool false, .slice none 0 0, .bool false, .slice none 0 0, .bool false, .slice none 0 0, .bool false, .slice none 0 0, .bool false, .slice none 0 0, .bool false, .slice none 0 0, .bool false, .slice none 0 0] Mom.zero :=
  have z : Fz w false none 0 0 false none 0 0 (0, 0) := ⟨Wd.zero w, Wd.zero w⟩
  ⟨_, _, _, _, _, _, _, _, _, _, _, _, _, _, _, _, _, _, _, _, _, _, _, _, _, _, _, _, _, _, _, _, _, _, _, _, _, _, _, _, rfl, z, z, z, z, z⟩

theorem colv_bound {W H i : Int} {n : Nat} (h : 1 ≤ W ∧ W ≤ 100 ∧ 1 ≤ H ∧ H ≤ 100 ∧ (n : Int) = W * H) (h0 : 0 ≤ i) (h1 : i < n) : 0 ≤ colv W i ∧ colv W i ≤ 99 := by
  have a1 := Int.emod_nonneg i (show W ≠ 0 by omega)
  have a2 := Int.emod_lt_of_pos i (show 0 < W by omega)
  unfold colv; omega
theorem rowv_bound {W H i : Int} {n : Nat} (h : 1 ≤ W ∧ W ≤ 100 ∧ 1 ≤ H ∧ H ≤ 100 ∧ (n : Int) = W * H) (h0 : 0 ≤ i) (h1 : i < n) : 0 ≤ rowv W i ∧ rowv W i ≤ 99 := by
  have a1 := Int.ediv_nonneg h0 (show 0 ≤ W by omega)
  have a2 : i / W < H := Int.ediv_lt_of_lt_mul (show 0 < W by omega) (by rw [Int.mul_comm]; omega)
  unfold rowv; omega
end Go.Proofs.YtkippclhbkjbmaaGreat
