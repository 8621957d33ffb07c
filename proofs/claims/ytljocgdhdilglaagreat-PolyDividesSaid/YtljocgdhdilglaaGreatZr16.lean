/- Sums and products of polynomials: plain. -/
import Derived.Test.YtljocgdhdilglaaGreatZr13
set_option linter.unusedSimpArgs false
set_option linter.unusedVariables false

namespace Go.Proofs.YtljocgdhdilglaaGreat

/-- f 0 + .. + f (n - 1). -/
def psum (f : Nat → Int) : Nat → Int
  | 0 => 0
  | n + 1 => psum f n + f n
theorem psum_congr {f g : Nat → Int} {n : Nat} (h : ∀ i, i < n → f i = g i) : psum f n = psum g n := by
  induction n with
  | zero => rfl
  | succ n ih => rw [psum, psum, ih (fun i hi => h i (by omega)), h n (by omega)]
theorem psum_zero {f : Nat → Int} {n : Nat} (h : ∀ i, i < n → f i = 0) : psum f n = 0 := by
  induction n with
  | zero => rfl
  | succ n ih => rw [psum, ih (fun i hi => h i (by omega)), h n (by omega)]; rfl
theorem psum_more {f : Nat → Int} {n m : Nat} (hnm : n ≤ m) (h : ∀ i, n ≤ i → i < m → f i = 0) : psum f m = psum f n := by
  induction m with
  | zero => obtain rfl : n = 0 := by omega
            rfl
  | succ m ih =>
    rcases Nat.lt_or_ge n (m + 1) with hlt | hge
    · rw [psum, ih (by omega) (fun i h1 h2 => h i h1 (by omega)), h m (by omega) (by omega)]; omega
    · obtain rfl : n = m + 1 := by omega
      rfl
theorem psum_le {f : Nat → Int} {n M : Nat} (h : ∀ i, i < n → (f i).natAbs ≤ M) : (psum f n).natAbs ≤ n * M := by
  induction n with
  | zero => simp [psum]
  | succ n ih =>
    have h1 := ih (fun i hi => h i (by omega))
    have h2 := h n (by omega)
    rw [psum, Nat.succ_mul]
    omega

/-- The coefficient j of a product. -/
def coP (xs ys : List Int) (j : Nat) : Int := psum (fun i => xs[i]?.getD 0 * ys[j - i]?.getD 0) (j + 1)
/-- A product. -/
def mulP (xs ys : List Int) : List Int := (List.range (xs.length + ys.length - 1)).map (coP xs ys)

/-- What stands at place j when i rows are done, and k places of the next. -/
def stP (xs ys : List Int) (i k j : Nat) : Int :=
  psum (fun a => if a ≤ j then xs[a]?.getD 0 * ys[j - a]?.getD 0 else 0) i + (if i ≤ j ∧ j < i + k then xs[i]?.getD 0 * ys[j - i]?.getD 0 else 0)
theorem stP_start (xs ys : List Int) (j : Nat) : stP xs ys 0 0 j = 0 := by
  unfold stP; rw [if_neg (by omega)]; rfl
theorem stP_step (xs ys : List Int) (i k : Nat) : stP xs ys i (k + 1) (i + k) = stP xs ys i k (i + k) + xs[i]?.getD 0 * ys[k]?.getD 0 := by
  unfold stP
  rw [if_pos (by omega), if_neg (by omega), show i + k - i = k by omega]
  omega
theorem stP_other (xs ys : List Int) {i k j : Nat} (h : j ≠ i + k) : stP xs ys i (k + 1) j = stP xs ys i k j := by
  unfold stP
  by_cases h1 : i ≤ j ∧ j < i + k
  · rw [if_pos h1, if_pos (by omega)]
  · rw [if_neg h1, if_neg (by omega)]
theorem stP_row (xs ys : List Int) (i j : Nat) : stP xs ys (i + 1) 0 j = stP xs ys i ys.length j := by
  unfold stP
  rw [psum, if_neg (show ¬ (i + 1 ≤ j ∧ j < i + 1 + 0) by omega)]
  by_cases h : i ≤ j
  · rw [if_pos h]
    by_cases h2 : j < i + ys.length
    · rw [if_pos ⟨h, h2⟩]; omega
    · rw [if_neg (by omega), show ys[j - i]? = none from List.getElem?_eq_none (by omega)]; simp
  · rw [if_neg h, if_neg (by omega)]; omega
theorem stP_stop (xs ys : List Int) (j : Nat) : stP xs ys xs.length 0 j = coP xs ys j := by
  unfold stP coP
  rw [if_neg (by omega), Int.add_zero]
  rcases Nat.le_total xs.length (j + 1) with h | h
  · rw [psum_more h (fun i h1 _ => by rw [List.getElem?_eq_none h1]; simp)]
    exact psum_congr fun i hi => by rw [if_pos (by omega)]
  · rw [psum_more (n := j + 1) (m := xs.length) h (fun i h1 _ => by rw [if_neg (by omega)])]
    exact psum_congr fun i hi => by rw [if_pos (by omega)]
theorem natAbs_mul_lt {a b : Int} {M : Nat} (ha : a.natAbs < M) (hb : b.natAbs < M) : (a * b).natAbs ≤ M * M := by
  rw [Int.natAbs_mul]; exact Nat.mul_le_mul (by omega) (by omega)
theorem stP_le {xs ys : List Int} {M : Nat} (hx : ∀ i : Nat, (xs[i]?.getD 0).natAbs < M) (hy : ∀ i : Nat, (ys[i]?.getD 0).natAbs < M) (i k j : Nat) : (stP xs ys i k j).natAbs ≤ (i + 1) * (M * M) := by
  unfold stP
  have h1 := psum_le (f := fun a => if a ≤ j then xs[a]?.getD 0 * ys[j - a]?.getD 0 else 0) (n := i) (M := M * M) (fun a _ => by
    show (if a ≤ j then _ else (0 : Int)).natAbs ≤ _
    split
    · exact natAbs_mul_lt (hx a) (hy _)
    · exact Nat.zero_le _)
  have h2 : (if i ≤ j ∧ j < i + k then xs[i]?.getD 0 * ys[j - i]?.getD 0 else 0).natAbs ≤ M * M := by
    split
    · exact natAbs_mul_lt (hx i) (hy _)
    · exact Nat.zero_le _
  rw [Nat.succ_mul]
  omega
theorem mulP_eq {xs ys o : List Int} (hl : o.length = xs.length + ys.length - 1) (h : ∀ j, j < xs.length + ys.length - 1 → o[j]?.getD 0 = stP xs ys xs.length 0 j) : o = mulP xs ys := by
  apply List.ext_getElem
  · simp [mulP, hl]
  · intro i h1 h2
    have := h i (by omega)
    rw [List.getElem?_eq_getElem h1, stP_stop] at this
    simpa [mulP] using this
theorem trimP_idem (xs : List Int) : trimP (trimP xs) = trimP xs := by
  induction xs with
  | nil => rfl
  | cons x l ih =>
    rw [trimP]
    cases hl : trimP l with
    | nil =>
      by_cases hx : x = 0
      · simp [hx, trimP]
      · simp [hx, trimP]
    | cons y m =>
      rw [hl] at ih
      show trimP (x :: y :: m) = _
      rw [trimP, ih]
/-- A derivative. -/
def derP (xs : List Int) : List Int := (List.range (xs.length - 1)).map fun i => xs[i + 1]?.getD 0 * ((i + 1 : Nat) : Int)
end Go.Proofs.YtljocgdhdilglaaGreat
