/- Centroids: sums over a list of pixels, moments about a centre; sizes of fractions (plain). calib.Check. Centroids: valid fields and lists, codes (plain). -/
import Derived.Test.YtkippclhbkjbmaaGreatZm28
import Derived.Test.YtkippclhbkjbmaaGreatZm37
import Derived.Test.YtkippclhbkjbmaaGreatZm38
import Derived.Test.YtkippclhbkjbmaaGreatZm22
import Derived.Test.YtkippclhbkjbmaaGreatZm25
set_option linter.unusedSimpArgs false
set_option linter.unusedVariables false

namespace Go.Proofs.YtkippclhbkjbmaaGreat
open Go.RowKit

/-- The sum of g over the first k of l. -/
def sumK (g : Int → Int) (l : List Int) : Nat → Int
  | 0 => 0
  | k + 1 => sumK g l k + g (l[k]?.getD 0)

/-- The sum of products of distances from a centre. -/
def secK (u v p : Int → Int) (X Y : Rat) (l : List Int) : Nat → Rat
  | 0 => 0
  | k + 1 => secK u v p X Y l k + ((u (l[k]?.getD 0) : Rat) - X) * ((v (l[k]?.getD 0) : Rat) - Y) * (p (l[k]?.getD 0) : Rat)

theorem secK_eq (u v p : Int → Int) (X Y : Rat) (l : List Int) (k : Nat) :
    secK u v p X Y l k = (sumK (fun i => u i * v i * p i) l k : Int) - X * (sumK (fun i => v i * p i) l k : Int) - Y * (sumK (fun i => u i * p i) l k : Int) + X * Y * (sumK p l k : Int) := by
  induction k with
  | zero => simp [secK, sumK]; grind
  | succ k ih =>
    simp only [secK, sumK, ih, Rat.intCast_add, Rat.intCast_mul]
    grind

theorem sec_div (u v p : Int → Int) (l : List Int) (n : Nat) (s : Int) (hs : 0 < s) (hp : sumK p l n = s) :
    secK u v p (Rat.divInt (sumK (fun i => u i * p i) l n) s) (Rat.divInt (sumK (fun i => v i * p i) l n) s) l n / (s : Rat) = Rat.divInt (sumK (fun i => u i * v i * p i) l n) s - Rat.divInt (sumK (fun i => u i * p i) l n) s * Rat.divInt (sumK (fun i => v i * p i) l n) s := by
  have h0 : (s : Rat) ≠ 0 := by
    intro h; have : s = 0 := by exact_mod_cast h
    omega
  rw [secK_eq, hp]
  simp only [Rat.divInt_eq_div]
  grind

theorem num_le (a b : Int) (h : b ≠ 0) : (Rat.divInt a b).num.natAbs ≤ a.natAbs := by
  rw [Rat.num_divInt]
  rw [Int.natAbs_ediv_of_dvd]
  · refine Nat.le_trans (Nat.div_le_self _ _) ?_
    rw [Int.natAbs_mul]
    rcases Int.lt_or_gt_of_ne h with g | g
    · rw [Int.sign_eq_neg_one_of_neg g]; simp
    · rw [Int.sign_eq_one_of_pos g]; simp
  · exact Int.dvd_trans (Int.gcd_dvd_right _ _) (Int.dvd_mul_left _ _)
theorem den_le (a b : Int) (h : b ≠ 0) : (Rat.divInt a b).den ≤ b.natAbs := by
  rw [Rat.den_divInt, if_neg h]
  exact Nat.div_le_self _ _

theorem pw_gt_one : 1 < pw 1 := by rw [pw_succ, pw_zero]; decide
/-- Fractions of few limbs. -/
def SmN (i j : Nat) (r : Rat) : Prop := r.num.natAbs < pw i ∧ r.den < pw j
theorem SmN.sm {i j : Nat} {r : Rat} (h : SmN i j r) (hi : i ≤ 1000) (hj : j ≤ 1000) : Sm r := ⟨Nat.lt_of_lt_of_le h.1 (pw_le hi), Nat.lt_of_lt_of_le h.2 (pw_le hj)⟩
theorem SmN.mono {i j i' j' : Nat} {r : Rat} (h : SmN i j r) (hi : i ≤ i') (hj : j ≤ j') : SmN i' j' r := ⟨Nat.lt_of_lt_of_le h.1 (pw_le hi), Nat.lt_of_lt_of_le h.2 (pw_le hj)⟩
theorem SmN.div {i j : Nat} {n s : Int} (h0 : 0 < s) (hn : n.natAbs < pw i) (hs : s.natAbs < pw j) : SmN i j (Rat.divInt n s) :=
  ⟨Nat.lt_of_le_of_lt (num_le n s (by omega)) hn, Nat.lt_of_le_of_lt (den_le n s (by omega)) hs⟩
theorem SmN.int {i : Nat} {n : Int} (hn : n.natAbs < pw i) : SmN i 1 (n : Rat) := ⟨by simpa using hn, by simp only [Rat.den_intCast]; exact pw_gt_one⟩
theorem SmN.mul {i j i' j' : Nat} {a b : Rat} (ha : SmN i j a) (hb : SmN i' j' b) : SmN (i + i') (j + j') (a * b) := by
  rw [← rat_mul]
  refine SmN.div (den_mul_pos a b) ?_ ?_
  · rw [Int.natAbs_mul]; exact mul_lt_pw ha.1 hb.1
  · rw [Int.natAbs_mul]; exact mul_lt_pw (by simpa using ha.2) (by simpa using hb.2)
theorem add_lt_pw {x y z v : Int} {i j i' j' : Nat} (hx : x.natAbs < pw i) (hy : y.natAbs < pw j) (hz : z.natAbs < pw i') (hv : v.natAbs < pw j') : (x * y).natAbs + (z * v).natAbs < pw (max (i + j) (i' + j') + 1) := by
  have h1 : (x * y).natAbs < pw (max (i + j) (i' + j')) := by
    rw [Int.natAbs_mul]; exact Nat.lt_of_lt_of_le (mul_lt_pw hx hy) (pw_le (by omega))
  have h2 : (z * v).natAbs < pw (max (i + j) (i' + j')) := by
    rw [Int.natAbs_mul]; exact Nat.lt_of_lt_of_le (mul_lt_pw hz hv) (pw_le (by omega))
  have h3 := pw_two (max (i + j) (i' + j'))
  omega
theorem SmN.dn {i j : Nat} {r : Rat} (h : SmN i j r) : ((r.den : Nat) : Int).natAbs < pw j := by simpa using h.2
theorem SmN.sub {i j i' j' : Nat} {a b : Rat} (ha : SmN i j a) (hb : SmN i' j' b) : SmN (max (i + j') (i' + j) + 1) (j + j') (a - b) := by
  rw [← rat_sub]
  refine SmN.div (den_mul_pos a b) ?_ ?_
  · have := add_lt_pw ha.1 hb.dn hb.1 ha.dn; omega
  · rw [Int.natAbs_mul]; exact mul_lt_pw ha.dn hb.dn
theorem SmN.add {i j i' j' : Nat} {a b : Rat} (ha : SmN i j a) (hb : SmN i' j' b) : SmN (max (i + j') (i' + j) + 1) (j + j') (a + b) := by
  rw [← rat_add]
  refine SmN.div (den_mul_pos a b) ?_ ?_
  · have := add_lt_pw ha.1 hb.dn hb.1 ha.dn; omega
  · rw [Int.natAbs_mul]; exact mul_lt_pw ha.dn hb.dn

theorem sumK_le {g : Int → Int} {B : Nat} (l : List Int) (k : Nat) (h : ∀ j, j < k → (g (l[j]?.getD 0)).natAbs ≤ B) : (sumK g l k).natAbs ≤ k * B := by
  induction k with
  | zero => simp [sumK]
  | succ k ih =>
    have h1 := ih (fun j hj => h j (by omega))
    have h2 := h k (by omega)
    simp only [sumK]
    rw [Nat.add_mul]
    omega

/-- The numbers of a moment about a centre stay small. -/
theorem secK_small {u v p : Int → Int} {X Y : Rat} (l : List Int) (k : Nat) (hX : SmN 2 2 X) (hY : SmN 2 2 Y) (hu : ∀ j, j < k → (u (l[j]?.getD 0)).natAbs < pw 1) (hv : ∀ j, j < k → (v (l[j]?.getD 0)).natAbs < pw 1) (hp : ∀ j, j < k → (p (l[j]?.getD 0)).natAbs < pw 2) : SmN (14 * k + 1) (14 * k + 1) (secK u v p X Y l k) := by
  induction k with
  | zero => exact ⟨by simp [secK]; exact pw_pos 1, by simp [secK]; exact pw_gt_one⟩
  | succ k ih =>
    have h1 := ih (fun j hj => hu j (by omega)) (fun j hj => hv j (by omega)) (fun j hj => hp j (by omega))
    have a1 := (SmN.int (hu k (by omega))).sub hX
    have a2 := (SmN.int (hv k (by omega))).sub hY
    have a3 := (a1.mul a2).mul (SmN.int (hp k (by omega)))
    simp only [secK]
    exact (h1.add a3).mono (by omega) (by omega)
end Go.Proofs.YtkippclhbkjbmaaGreat

namespace Go.Proofs.YtkippclhbkjbmaaGreat
open Go.RowKit
attribute [local go_sem] add_lit

/-- Is the size of a field valid? -/
def sizeOk (W H : Int) (n : Nat) : Bool := decide (1 ≤ W) && (decide (W ≤ 100) && (decide (1 ≤ H) && (decide (H ≤ 100) && decide ((n : Int) = W * H))))

set_option maxRecDepth 100000 in
set_option maxHeartbeats 1000000 in
theorem cCheck_bad (W H : Int) (A : Option Addr) (n c : Nat) (l : List Int) (w : World) (h : LimI w A n c l) (h9 : n ≤ 1000000000) (iW : I64 W) (iH : I64 H) (hs : sizeOk W H n = false) :
    Calls Tryz.prog 45 #[.agg #[.int .i64 W, .int .i64 H, .slice A n c]] w fun e w' => e = .returned (.int .i64 8) ∧ Below w.heap.size w w' := by
  obtain ⟨W0, hW0, hB0, q0, s0⟩ := alloc1 w 24 #[.int .i64 W, .int .i64 H, .slice A n c]
  have c0 := q0.cell 0
  have c1 := q0.cell 1
  have c2 := q0.cell 2
  simp at c0 c1 c2
  clear h
  have hwr : 1 ≤ W → W ≤ 100 → 1 ≤ H → H ≤ 100 → (n : Int) = wrap64 (W * H) → False := fun a1 a2 a3 a4 a5 => by
    have b1 : 0 ≤ W * H := Int.mul_nonneg (by omega) (by omega)
    have b2 : W * H ≤ 100 * 100 := Int.mul_le_mul a2 a4 (by omega) (by omega)
    rw [show wrap64 (W * H) = W * H by unfold wrap64; omega] at a5
    simp [sizeOk, a1, a2, a3, a4, a5] at hs
  replace hwr := hide hwr
  go_enter Tryz.func45, Tryz.ntmps45
  go_wp2_with fail
  all_goals first
    | exact (hwr.out ‹_› ‹_› ‹_› ‹_› ‹_›).elim
    | (go_ret; exact ⟨rfl, hB0⟩)

set_option maxRecDepth 100000 in
set_option maxHeartbeats 1000000 in
theorem cCheck_sized (W H : Int) (A : Option Addr) (n c : Nat) (l : List Int) (w : World) (h : LimI w A n c l) (h9 : n ≤ 1000000000) (hs : sizeOk W H n = true) (b : Bool) (hb : (decide (maxI l n ≤ 4294967296) && decide (-4294967296 ≤ minI l n)) = b) :
    Calls Tryz.prog 45 #[.agg #[.int .i64 W, .int .i64 H, .slice A n c]] w fun e w' => e = .returned (.int .i64 (errOf b)) ∧ Below w.heap.size w w' := by
  obtain ⟨W0, hW0, hB0, q0, s0⟩ := alloc1 w 24 #[.int .i64 W, .int .i64 H, .slice A n c]
  have c0 := q0.cell 0
  have c1 := q0.cell 1
  have c2 := q0.cell 2
  simp at c0 c1 c2
  replace h := h.below hB0
  obtain ⟨a1, a2, a3, a4, a5⟩ : 1 ≤ W ∧ W ≤ 100 ∧ 1 ≤ H ∧ H ≤ 100 ∧ (n : Int) = W * H := by simpa [sizeOk] using hs
  have b1 : 1 * 1 ≤ W * H := Int.mul_le_mul a1 a3 (by omega) (by omega)
  have b2 : W * H ≤ 100 * 100 := Int.mul_le_mul a2 a4 (by omega) (by omega)
  have t1 : decide (1 ≤ W) = true := by simpa using a1
  have t2 : decide (W ≤ 100) = true := by simpa using a2
  have t3 : decide (1 ≤ H) = true := by simpa using a3
  have t4 : decide (H ≤ 100) = true := by simpa using a4
  have t5 : ((n : Int) == wrap64 (W * H)) = true := by rw [show wrap64 (W * H) = W * H by unfold wrap64; omega, a5]; simp
  have hn : 0 < n := by omega
  have hM := hide (sMax_ok A n c l W0 h hn h9)
  have hm := hide (sMin_ok A n c l W0 h hn h9)
  generalize maxI l n = M at *
  generalize minI l n = m at *
  clear h a5 b1 b2 hs
  go_enter Tryz.func45, Tryz.ntmps45
  go_wp2_with fail
  refine hM.out.mono ?_
  rintro e w1 ⟨rfl, rfl⟩
  by_cases g1 : 4294967296 < M
  · have u1 : decide (4294967296 < M) = true := by simpa using g1
    have hb0 : b = false := by rw [← hb]; simp; omega
    subst hb0
    go_wp2_with fail
    go_ret
    exact ⟨rfl, hB0⟩
  · have u1 : decide (4294967296 < M) = false := by simpa using g1
    go_wp2_with fail
    refine hm.out.mono ?_
    rintro e w2 ⟨rfl, rfl⟩
    by_cases g2 : m < -4294967296
    · have u2 : decide (m < -4294967296) = true := by simpa using g2
      have hb0 : b = false := by rw [← hb]; simp; omega
      subst hb0
      go_wp2_with fail
      go_ret
      exact ⟨rfl, hB0⟩
    · have u2 : decide (m < -4294967296) = false := by simpa using g2
      have hb0 : b = true := by rw [← hb]; simp; omega
      subst hb0
      go_wp2_with fail
      go_ret
      exact ⟨rfl, hB0⟩
end Go.Proofs.YtkippclhbkjbmaaGreat

namespace Go.Proofs.YtkippclhbkjbmaaGreat
open Go.RowKit

def badAt (l : List Int) (n k : Nat) : Bool := decide (l[k]?.getD 0 < 0) || (decide ((n : Int) ≤ l[k]?.getD 0) || (decide (0 < k) && decide (l[k]?.getD 0 ≤ l[k - 1]?.getD 0)))
def listedTo (l : List Int) (n : Nat) : Nat → Bool
  | 0 => true
  | k + 1 => listedTo l n k && !badAt l n k
def listed (l : List Int) (n : Nat) : Bool := decide (0 < l.length) && listedTo l n l.length

theorem listedTo_bad {l : List Int} {n m k : Nat} (h : k < m) (hb : badAt l n k = true) : listedTo l n m = false := by
  induction m with
  | zero => omega
  | succ m ih =>
    simp only [listedTo]
    by_cases e : k = m
    · subst e; simp [hb]
    · simp [ih (by omega)]
theorem listedTo_good {l : List Int} {n m k : Nat} (h : listedTo l n m = true) (hk : k < m) : badAt l n k = false := by
  induction m with
  | zero => omega
  | succ m ih =>
    simp only [listedTo, Bool.and_eq_true] at h
    by_cases e : k = m
    · subst e; simpa using h.2
    · exact ih h.1 (by omega)
theorem badAt_false {l : List Int} {n k : Nat} (h : badAt l n k = false) : 0 ≤ l[k]?.getD 0 ∧ l[k]?.getD 0 < n ∧ (0 < k → l[k - 1]?.getD 0 < l[k]?.getD 0) := by
  simp only [badAt, Bool.or_eq_false_iff, Bool.and_eq_false_iff, decide_eq_false_iff_not] at h
  obtain ⟨h1, h2, h3⟩ := h
  refine ⟨by omega, by omega, fun hk => ?_⟩
  rcases h3 with h3 | h3 <;> omega
theorem badAt_true {l : List Int} {n k : Nat} : badAt l n k = true ↔ (l[k]?.getD 0 < 0 ∨ (n : Int) ≤ l[k]?.getD 0 ∨ (0 < k ∧ l[k]?.getD 0 ≤ l[k - 1]?.getD 0)) := by
  simp only [badAt, Bool.or_eq_true, Bool.and_eq_true, decide_eq_true_eq]
theorem listed_in {l : List Int} {n k : Nat} (h : listed l n = true) (hk : k < l.length) : 0 ≤ l[k]?.getD 0 ∧ l[k]?.getD 0 < n := by
  simp only [listed, Bool.and_eq_true] at h
  have := badAt_false (listedTo_good h.2 hk)
  exact ⟨this.1, this.2.1⟩
theorem listed_pos {l : List Int} {n : Nat} (h : listed l n = true) : 0 < l.length := by
  simp only [listed, Bool.and_eq_true, decide_eq_true_eq] at h
  exact h.1

/-- A pixel. -/
def pix (ps : List Int) (i : Int) : Int := ps[i.toNat]?.getD 0
def inPix (x : Int) : Bool := decide (-4294967296 ≤ x) && decide (x ≤ 4294967296)
def okPix (ps : List Int) : Nat → Bool
  | 0 => true
  | k + 1 => okPix ps k && inPix (ps[k]?.getD 0)
theorem okPix_bad {ps : List Int} {m k : Nat} (h : k < m) (hb : inPix (ps[k]?.getD 0) = false) : okPix ps m = false := by
  induction m with
  | zero => omega
  | succ m ih =>
    simp only [okPix]
    by_cases e : k = m
    · subst e; simp [hb]
    · simp [ih (by omega)]
theorem okPix_good {ps : List Int} {m k : Nat} (h : okPix ps m = true) (hk : k < m) : -4294967296 ≤ ps[k]?.getD 0 ∧ ps[k]?.getD 0 ≤ 4294967296 := by
  induction m with
  | zero => omega
  | succ m ih =>
    simp only [okPix, Bool.and_eq_true] at h
    by_cases e : k = m
    · subst e; simpa [inPix] using h.2
    · exact ih h.1 (by omega)
theorem okPix_max (ps : List Int) (n : Nat) (h : 0 < n) : (decide (maxI ps n ≤ 4294967296) && decide (-4294967296 ≤ minI ps n)) = okPix ps n := by
  have key : ∀ m, (decide (maxI ps (m + 1) ≤ 4294967296) && decide (-4294967296 ≤ minI ps (m + 1))) = okPix ps (m + 1) := by
    intro m
    induction m with
    | zero => simp [maxI, minI, okPix, inPix, Bool.and_comm]
    | succ m ih =>
      rw [show okPix ps (m + 1 + 1) = (okPix ps (m + 1) && inPix (ps[m + 1]?.getD 0)) from rfl, ← ih, Bool.eq_iff_iff, show maxI ps (m + 1 + 1) = max (maxI ps (m + 1)) (ps[m + 1]?.getD 0) from rfl, show minI ps (m + 1 + 1) = min (minI ps (m + 1)) (ps[m + 1]?.getD 0) from rfl]
      simp only [inPix, Bool.and_eq_true, decide_eq_true_eq]
      omega
  obtain ⟨m, rfl⟩ : ∃ m, n = m + 1 := ⟨n - 1, by omega⟩
  exact key m

def fieldOk (W H : Int) (n : Nat) (ps : List Int) : Bool := sizeOk W H n && okPix ps n
/-- The error of a field and a list. -/
def startE (W H : Int) (n : Nat) (ps l : List Int) : Int := if fieldOk W H n ps then (if listed l n then 0 else 2) else 8
theorem startE_zero {W H : Int} {n : Nat} {ps l : List Int} (h : startE W H n ps l = 0) : fieldOk W H n ps = true ∧ listed l n = true := by
  unfold startE at h
  by_cases h1 : fieldOk W H n ps = true
  · rw [if_pos h1] at h
    by_cases h2 : listed l n = true
    · exact ⟨h1, h2⟩
    · rw [if_neg h2] at h; omega
  · rw [if_neg h1] at h; omega
theorem fieldOk_size {W H : Int} {n : Nat} {ps : List Int} (h : fieldOk W H n ps = true) : 1 ≤ W ∧ W ≤ 100 ∧ 1 ≤ H ∧ H ≤ 100 ∧ (n : Int) = W * H := by
  simp only [fieldOk, Bool.and_eq_true] at h
  simpa [sizeOk] using h.1
theorem fieldOk_pix {W H : Int} {n : Nat} {ps : List Int} (h : fieldOk W H n ps = true) {i : Int} (h0 : 0 ≤ i) (h1 : i < n) : -4294967296 ≤ pix ps i ∧ pix ps i ≤ 4294967296 := by
  simp only [fieldOk, Bool.and_eq_true] at h
  exact okPix_good h.2 (by omega)
end Go.Proofs.YtkippclhbkjbmaaGreat
