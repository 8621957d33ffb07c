/- Lists of pixels: reference (Listed, Start, place, sum) and package centroid (start, column, row). Reference of frac: Add, Sub, Mul, Div of small fractions (Div: by one greater than 0). Reference of frac: Same, Cmp. -/
import Derived.Test.YtkippclhbkjbmaaZn34
import Derived.Test.YtkippclhbkjbmaaZn32
set_option linter.unusedSimpArgs false
set_option linter.unusedVariables false

namespace Go.Proofs.Ytkippclhbkjbmaa
open Go.RowKit
attribute [local go_sem] add_lit


set_option maxRecDepth 100000 in
set_option maxHeartbeats 2000000 in
theorem rListed_ok (W H : Int) (A : Option Addr) (n c : Nat) (B : Option Addr) (m d : Nat) (l : List Int) (w : World) (hl : LimI w B m d l) (h9 : n ≤ 1000000000) (h8 : m ≤ 1000000000) (b : Bool) (hb : listed l n = b) :
    Calls Try.prog 48 #[.agg #[.int .i64 W, .int .i64 H, .slice A n c], .slice B m d] w fun e w' => e = .returned (.bool b) ∧ Below w.heap.size w w' := by
  obtain ⟨W0, hW0, hB0, q0, s0⟩ := alloc1 w 24 #[.int .i64 W, .int .i64 H, .slice A n c]
  have c2 := q0.cell 2
  simp at c2
  replace hl := hide (hl.below hB0)
  replace hb := hide hb
  have hlm : l.length = m := hl.out.lenI
  go_enter Try.func48, Try.ntmps48
  go_wp2_with fail
  clear hW0
  go_loopw [5] (fun i wr => ∃ k : Nat, k ≤ m ∧ i = .int .i64 k ∧ Hid (listedTo l n k = true) ∧ ∃ m0, wr = W0.drewN m0) (fun i _ => m - (intOf i).toNat)
  case atStart => exact ⟨0, by omega, rfl, hide rfl, 0, rfl⟩
  case round =>
    obtain ⟨k, h1, rfl, heq, m0, rfl⟩ := hrel
    by_cases hk : k < m
    case neg =>
      obtain rfl : k = m := by omega
      have htk : decide ((k : Int) < (k : Int)) = false := by simp
      have hb0 : b = decide (0 < k) := by rw [← hb.out]; unfold listed; rw [hlm, heq.out]; simp
      subst hb0
      have hpos : decide ((0 : Int) < (k : Int)) = decide (0 < k) := by simp
      go_wp2_with fail
      go_ret
      exact ⟨by simp [hpos], (by first | exact hB0 | exact below_dn hB0 _ | exact below_dn (below_dn hB0 _) _)⟩
    have htk : decide ((k : Int) < (m : Int)) = true := by simp; omega
    obtain ⟨g, o, rfl, hc⟩ := hl.out.2.2.2.2 (by omega)
    have hck := hc k hk
    obtain ⟨x, hx⟩ : ∃ x, l[k]?.getD 0 = x := ⟨_, rfl⟩
    rw [hx] at hck
    by_cases f1 : x < 0
    · have v1 : decide (x < 0) = true := by simpa using f1
      have hbad : badAt l n k = true := badAt_true.2 (by omega)
      clear hc hx
      have hb0 : b = false := by rw [← hb.out]; unfold listed; rw [listedTo_bad (k := k) (by omega) hbad]; simp
      subst hb0
      clear hb heq hbad
      go_wp2_with fail
      go_quiet (fail)
      go_wp2_with fail
      go_ret
      exact ⟨rfl, (by first | exact hB0 | exact below_dn hB0 _ | exact below_dn (below_dn hB0 _) _)⟩
    have v1 : decide (x < 0) = false := by simpa using f1
    by_cases f2 : (n : Int) ≤ x
    · have v2 : decide ((n : Int) ≤ x) = true := by simpa using f2
      have hbad : badAt l n k = true := badAt_true.2 (by omega)
      clear hc hx
      have hb0 : b = false := by rw [← hb.out]; unfold listed; rw [listedTo_bad (k := k) (by omega) hbad]; simp
      subst hb0
      clear hb heq hbad
      go_wp2_with fail
      go_quiet (fail)
      go_wp2_with fail
      go_ret
      exact ⟨rfl, (by first | exact hB0 | exact below_dn hB0 _ | exact below_dn (below_dn hB0 _) _)⟩
    have v2 : decide ((n : Int) ≤ x) = false := by simpa using f2
    rcases Nat.eq_zero_or_pos k with k0 | k0
    · subst k0
      simp only [Nat.add_zero] at hck
      have htk' : decide ((0 : Int) < (m : Int)) = true := decide_eq_true (by omega)
      have hgood : badAt l n 0 = false := by rw [Bool.eq_false_iff]; intro e; have := badAt_true.1 e; omega
      clear hc hx
      replace hgood := hide hgood
      go_wp2_with fail
      go_quiet (fail)
      go_wp2_with fail
      go_round
      case rel => exact ⟨0 + 1, by omega, by go_num, hide (by first | (show (listedTo l n 0 && !badAt l n 0) = true; rw [heq.out, hgood.out]; rfl) | (show (listedTo l n (j + 1) && !badAt l n (j + 1)) = true; rw [heq.out, hgood.out]; rfl)), _, (by first | rfl | exact World.drewN_drewN _ _ _)⟩
      case measure => simp [intOf]; omega
    obtain ⟨j, rfl⟩ : ∃ j, k = j + 1 := ⟨k - 1, by omega⟩
    have v3 : decide ((0 : Int) < ((j + 1 : Nat) : Int)) = true := decide_eq_true (by omega)
    have hcj := hc j (by omega)
    have hz : wrap64 (((j + 1 : Nat) : Int) - 1) = (j : Int) := by unfold wrap64; omega
    obtain ⟨y, hy⟩ : ∃ y, l[j]?.getD 0 = y := ⟨_, rfl⟩
    rw [hy] at hcj
    by_cases f3 : x ≤ y
    · have v4 : decide (x ≤ y) = true := by simpa using f3
      have hbad : badAt l n (j + 1) = true := badAt_true.2 (by rw [Nat.add_sub_cancel]; omega)
      clear hc hx hy
      have hb0 : b = false := by rw [← hb.out]; unfold listed; rw [listedTo_bad (k := j + 1) (by omega) hbad]; simp
      subst hb0
      clear hb heq hbad
      go_wp2_with fail
      go_quiet (fail)
      go_wp2_with fail
      go_ret
      exact ⟨rfl, (by first | exact hB0 | exact below_dn hB0 _ | exact below_dn (below_dn hB0 _) _)⟩
    have v4 : decide (x ≤ y) = false := by simpa using f3
    have hgood : badAt l n (j + 1) = false := by rw [Bool.eq_false_iff]; intro e; have := badAt_true.1 e; rw [Nat.add_sub_cancel] at this; omega
    clear hc hx hy
    replace hgood := hide hgood
    go_wp2_with fail
    go_quiet (fail)
    go_wp2_with fail
    go_round
    case rel => exact ⟨(j + 1) + 1, by omega, by go_num, hide (by first | (show (listedTo l n 0 && !badAt l n 0) = true; rw [heq.out, hgood.out]; rfl) | (show (listedTo l n (j + 1) && !badAt l n (j + 1)) = true; rw [heq.out, hgood.out]; rfl)), _, (by first | rfl | exact World.drewN_drewN _ _ _)⟩
    case measure => simp [intOf]; omega
end Go.Proofs.Ytkippclhbkjbmaa

namespace Go.Proofs.Ytkippclhbkjbmaa
open Go.RowKit
attribute [local go_sem] add_lit

theorem rat_div {a b : Rat} (h : 0 < b.num) : Rat.divInt (a.num * b.den) ((a.den : Int) * b.num) = a / b := by
  have hb : ((b.den : Nat) : Int) ≠ 0 := by have := b.den_pos; omega
  rw [Rat.div_def, ← Rat.divInt_mul_divInt, Rat.num_divInt_den, ← Rat.inv_divInt, Rat.num_divInt_den]

end Go.Proofs.Ytkippclhbkjbmaa

namespace Go.Proofs.Ytkippclhbkjbmaa
open Go.RowKit
attribute [local go_sem] add_lit

theorem sameB_num {x y : Int} {na nb : Bool} (ha : na = decide (x < 0)) (hb : nb = decide (y < 0)) : sameB na nb (digits x.natAbs) (digits y.natAbs) = decide (x = y) := by
  unfold sameB
  rw [cmpL_digits, ha, hb]
  by_cases h : x = y
  · subst h; simp [cmpZ]
  · rw [decide_eq_false h]
    unfold cmpZ
    by_cases h1 : (decide (x < 0) == decide (y < 0)) = true
    · have : x.natAbs ≠ y.natAbs := by
        intro e
        rw [beq_iff_eq, decide_eq_decide] at h1
        omega
      rcases Nat.lt_or_gt_of_ne this with h2 | h2
      · rw [if_pos (by omega)]; simp
      · rw [if_neg (by omega), if_pos (by omega)]; simp
    · rw [Bool.not_eq_true] at h1; rw [h1]; rfl

/-- Two numbers in memory, as a fraction (valid or not). -/
def Fz (w : World) (na : Bool) (A : Option Addr) (n c : Nat) (nb : Bool) (B : Option Addr) (m d : Nat) (q : Int × Int) : Prop := Wd w na A n c q.1 ∧ Wd w nb B m d q.2
theorem Fz.below {w w' : World} {na : Bool} {A : Option Addr} {n c : Nat} {nb : Bool} {B : Option Addr} {m d : Nat} {r : Int × Int} (h : Fz w na A n c nb B m d r) (hb : Below w.heap.size w w') : Fz w' na A n c nb B m d r := ⟨h.1.below hb, h.2.below hb⟩
/-- The pair of a fraction. -/
def prQ (r : Rat) : Int × Int := (r.num, (r.den : Nat))
theorem Fr.fz {w : World} {na : Bool} {A : Option Addr} {n c : Nat} {nb : Bool} {B : Option Addr} {m d : Nat} {r : Rat} (h : Fr w na A n c nb B m d r) : Fz w na A n c nb B m d (prQ r) := h

set_option maxRecDepth 100000 in
set_option maxHeartbeats 1000000 in
theorem rfSame_fz (na nb na' nb' : Bool) (A B A' B' : Option Addr) (n c m d n' c' m' d' : Nat) (a b : Int × Int) (w : World) (ha : Fz w na A n c nb B m d a) (hb : Fz w na' A' n' c' nb' B' m' d' b) (s : Bool) (hs : decide (a = b) = s) :
    Calls Try.prog 11 #[.agg #[.bool na, .slice A n c, .bool nb, .slice B m d], .agg #[.bool na', .slice A' n' c', .bool nb', .slice B' m' d']] w fun e w' => e = .returned (.bool s) ∧ Below w.heap.size w w' := by
  obtain ⟨W0, hW0, hB0, ⟨q0, q1⟩, s0⟩ := alloc2 w 29 #[.bool na, .slice A n c, .bool nb, .slice B m d] 29 #[.bool na', .slice A' n' c', .bool nb', .slice B' m' d']
  have hA := hide (ha.below hB0)
  have hD := hide (hb.below hB0)
  have e1 := hide (sameB_num ha.1.1 hb.1.1)
  have e2 := hide (sameB_num ha.2.1 hb.2.1)
  clear ha hb
  obtain ⟨x, hx⟩ : ∃ x, decide (a.1 = b.1) = x := ⟨_, rfl⟩
  obtain ⟨y, hy⟩ : ∃ y, decide (a.2 = b.2) = y := ⟨_, rfl⟩
  have hsx : s = (x && y) := by
    rw [← hs, ← hx, ← hy, Bool.eq_iff_iff]
    simp only [decide_eq_true_eq, Bool.and_eq_true]
    constructor
    · rintro rfl; exact ⟨rfl, rfl⟩
    · rintro ⟨h1, h2⟩; exact Prod.ext h1 h2
  subst hsx
  rw [hx] at e1
  rw [hy] at e2
  clear hs hx hy
  obtain ⟨a0, a1, a2, a3, -⟩ := q0.four
  obtain ⟨b0, b1, b2, b3, -⟩ := q1.four
  have hq := hide (And.intro q0 q1)
  clear q0 q1
  go_enter Try.func11, Try.ntmps11
  go_wp2_with fail
  refine (rSame_any na na' A A' n c n' c' _ _ W0 hA.out.1.lim hD.out.1.lim).mono ?_
  rw [e1.out]
  rintro e w1 ⟨rfl, hb1⟩
  have hB1 : Below w.heap.size w w1 := hB0.trans (hb1.mono hB0.size)
  replace hA := hide (hA.out.below hb1)
  replace hD := hide (hD.out.below hb1)
  obtain ⟨q0, q1⟩ := hq.out
  replace q0 := keep_blk hb1 q0
  replace q1 := keep_blk hb1 q1
  clear hW0 hb1 a0 a1 a2 a3 b0 b1 b2 b3 hq hB0
  obtain ⟨a0, a1, a2, a3, -⟩ := q0.four
  obtain ⟨b0, b1, b2, b3, -⟩ := q1.four
  clear q0 q1
  cases x
  · go_wp2_with fail
    go_ret
    exact ⟨rfl, hB1⟩
  · go_wp2_with fail
    refine (rSame_any nb nb' B B' m d m' d' _ _ w1 hA.out.2.lim hD.out.2.lim).mono ?_
    rw [e2.out]
    rintro e w2 ⟨rfl, hb2⟩
    have hB2 : Below w.heap.size w w2 := hB1.trans (hb2.mono hB1.size)
    go_wp2_with fail
    go_ret
    exact ⟨by simp, hB2⟩

theorem prQ_inj {a b : Rat} : prQ a = prQ b ↔ a = b := by
  constructor
  · intro h
    have h1 := congrArg Prod.fst h
    have h2 := congrArg Prod.snd h
    simp only [prQ] at h1 h2
    exact Rat.ext h1 (by omega)
  · rintro rfl; rfl
theorem rfSame_any (na nb na' nb' : Bool) (A B A' B' : Option Addr) (n c m d n' c' m' d' : Nat) (a b : Rat) (w : World) (ha : Fr w na A n c nb B m d a) (hb : Fr w na' A' n' c' nb' B' m' d' b) (s : Bool) (hs : decide (a = b) = s) :
    Calls Try.prog 11 #[.agg #[.bool na, .slice A n c, .bool nb, .slice B m d], .agg #[.bool na', .slice A' n' c', .bool nb', .slice B' m' d']] w fun e w' => e = .returned (.bool s) ∧ Below w.heap.size w w' :=
  rfSame_fz na nb na' nb' A B A' B' n c m d n' c' m' d' (prQ a) (prQ b) w ha.fz hb.fz s (by rw [← hs]; exact decide_eq_decide.2 prQ_inj)
end Go.Proofs.Ytkippclhbkjbmaa
