/- Limbs of 32 bits, the lowest one first: what a list of them is worth, and how the schoolbook steps turn that. Plain lists and numbers: no program in sight. -/
namespace Go.Proofs.Ytljocgdhdilglaa

/-- What limbs are worth. -/
def val : List Nat → Nat
  | [] => 0
  | x :: l => x + 4294967296 * val l

/-- Every limb has 32 bits. -/
def Lt32 (l : List Nat) : Prop := ∀ x ∈ l, x < 4294967296

/-- The limbs of a number, without zeros at the end. -/
def digits (n : Nat) : List Nat := if h : n = 0 then [] else n % 4294967296 :: digits (n / 4294967296)
termination_by n
decreasing_by omega

/-- Without zeros at the end. -/
def canon : List Nat → List Nat
  | [] => []
  | x :: l => match canon l with
    | [] => if x = 0 then [] else [x]
    | y :: m => x :: y :: m

def pw (k : Nat) : Nat := 4294967296 ^ k

theorem pw_zero : pw 0 = 1 := rfl
theorem pw_succ (k : Nat) : pw (k + 1) = 4294967296 * pw k := by unfold pw; rw [Nat.pow_succ, Nat.mul_comm]
theorem pw_add (a b : Nat) : pw (a + b) = pw a * pw b := by unfold pw; rw [Nat.pow_add]
theorem pw_pos (k : Nat) : 0 < pw k := Nat.pow_pos (by decide)
theorem pw_le {a b : Nat} (h : a ≤ b) : pw a ≤ pw b := Nat.pow_le_pow_right (by decide) h
theorem pw_lt {a b : Nat} (h : a < b) : pw a < pw b := Nat.pow_lt_pow_right (by decide) h

theorem Lt32.nil : Lt32 [] := fun _ h => by cases h
theorem Lt32.cons {x : Nat} {l : List Nat} (h : x < 4294967296) (hl : Lt32 l) : Lt32 (x :: l) := fun y hy => by
  rcases List.mem_cons.1 hy with rfl | hy
  · exact h
  · exact hl y hy
theorem Lt32.head {x : Nat} {l : List Nat} (h : Lt32 (x :: l)) : x < 4294967296 := h x (by simp)
theorem Lt32.tail {x : Nat} {l : List Nat} (h : Lt32 (x :: l)) : Lt32 l := fun y hy => h y (by simp [hy])
theorem Lt32.get {l : List Nat} (h : Lt32 l) (k : Nat) : l[k]?.getD 0 < 4294967296 := by
  rcases Nat.lt_or_ge k l.length with hk | hk
  · rw [List.getElem?_eq_getElem hk]; exact h _ (List.getElem_mem hk)
  · rw [List.getElem?_eq_none hk]; decide
theorem Lt32.take {l : List Nat} (h : Lt32 l) (k : Nat) : Lt32 (l.take k) := fun x hx => h x (List.mem_of_mem_take hx)
theorem Lt32.drop {l : List Nat} (h : Lt32 l) (k : Nat) : Lt32 (l.drop k) := fun x hx => h x (List.mem_of_mem_drop hx)
theorem Lt32.append {l m : List Nat} (h : Lt32 l) (h' : Lt32 m) : Lt32 (l ++ m) := fun x hx => by
  rcases List.mem_append.1 hx with hx | hx
  · exact h x hx
  · exact h' x hx
theorem Lt32.set {l : List Nat} (h : Lt32 l) (k : Nat) {v : Nat} (hv : v < 4294967296) : Lt32 (l.set k v) := fun x hx => by
  rcases List.mem_or_eq_of_mem_set hx with hx | rfl
  · exact h x hx
  · exact hv
theorem Lt32.replicate (n : Nat) : Lt32 (List.replicate n 0) := fun x hx => by
  rw [(List.mem_replicate.1 hx).2]; decide

theorem val_append (a b : List Nat) : val (a ++ b) = val a + pw a.length * val b := by
  induction a with
  | nil => simp [val, pw_zero]
  | cons x l ih => simp only [List.cons_append, val, ih, List.length_cons, pw_succ]; grind
theorem val_lt {l : List Nat} (h : Lt32 l) : val l < pw l.length := by
  induction l with
  | nil => simp [val, pw_zero]
  | cons x l ih => have := ih h.tail; have := h.head; simp only [val, List.length_cons, pw_succ]; omega
theorem val_replicate (n : Nat) : val (List.replicate n 0) = 0 := by
  induction n with
  | zero => rfl
  | succ n ih => simp [List.replicate_succ, val, ih]
theorem val_set {l : List Nat} {k : Nat} (hk : k < l.length) (v : Nat) : val (l.set k v) + pw k * (l[k]?.getD 0) = val l + pw k * v := by
  induction l generalizing k with
  | nil => simp at hk
  | cons x l ih =>
    cases k with
    | zero => simp [val, pw_zero]; omega
    | succ k => have := ih (k := k) (by simpa using hk); simp only [List.set_cons_succ, val, List.getElem?_cons_succ, pw_succ]; grind
theorem val_take_succ (l : List Nat) (k : Nat) : val (l.take (k + 1)) = val (l.take k) + pw k * (l[k]?.getD 0) := by
  induction l generalizing k with
  | nil => simp [val]
  | cons x l ih =>
    cases k with
    | zero => simp [val, pw_zero]
    | succ k => have := ih k; simp only [List.take_succ_cons, val, List.getElem?_cons_succ, pw_succ]; grind
theorem val_take_all {l : List Nat} {k : Nat} (h : l.length ≤ k) : val (l.take k) = val l := by rw [List.take_of_length_le h]
theorem val_take_drop (l : List Nat) (k : Nat) (h : k ≤ l.length) : val l = val (l.take k) + pw k * val (l.drop k) := by
  have := val_append (l.take k) (l.drop k)
  rw [List.take_append_drop, List.length_take, Nat.min_eq_left h] at this
  exact this

theorem digits_zero : digits 0 = [] := by unfold digits; simp
theorem digits_pos {n : Nat} (h : n ≠ 0) : digits n = n % 4294967296 :: digits (n / 4294967296) := by rw [digits]; simp [h]
theorem val_digits (n : Nat) : val (digits n) = n := by
  induction n using Nat.strongRecOn with
  | _ n ih =>
    by_cases h : n = 0
    · subst h; rw [digits_zero]; rfl
    · rw [digits_pos h, val, ih _ (by omega)]; omega
theorem lt32_digits (n : Nat) : Lt32 (digits n) := by
  induction n using Nat.strongRecOn with
  | _ n ih =>
    by_cases h : n = 0
    · subst h; rw [digits_zero]; exact Lt32.nil
    · rw [digits_pos h]; exact (ih _ (by omega)).cons (by omega)
theorem digits_eq_nil {n : Nat} : digits n = [] ↔ n = 0 := by
  constructor
  · intro h; have := val_digits n; rw [h] at this; exact this.symm
  · rintro rfl; exact digits_zero
theorem digits_getLast (n : Nat) : (digits n).getLast? ≠ some 0 := by
  induction n using Nat.strongRecOn with
  | _ n ih =>
    by_cases h : n = 0
    · subst h; rw [digits_zero]; simp
    · rw [digits_pos h]
      have := ih (n / 4294967296) (by omega)
      by_cases h' : n / 4294967296 = 0
      · rw [h', digits_zero]; simp; omega
      · obtain ⟨y, m, hm⟩ := List.exists_cons_of_ne_nil (fun e => h' (digits_eq_nil.1 e))
        rw [hm] at this ⊢
        simpa using this
theorem length_digits_le (n k : Nat) : (digits n).length ≤ k ↔ n < pw k := by
  induction k generalizing n with
  | zero =>
    rw [pw_zero]
    constructor
    · intro h; have := digits_eq_nil.1 (List.eq_nil_of_length_eq_zero (Nat.le_zero.1 h)); omega
    · intro h; have : n = 0 := by omega
      subst this; rw [digits_zero]; simp
  | succ k ih =>
    by_cases h : n = 0
    · subst h; rw [digits_zero]; simp [pw_pos]
    · rw [digits_pos h, List.length_cons, Nat.succ_le_succ_iff, ih, pw_succ, Nat.div_lt_iff_lt_mul (by decide), Nat.mul_comm]
theorem lt_pw_digits (n : Nat) : n < pw (digits n).length := (length_digits_le n _).1 (Nat.le_refl _)
theorem pw_le_of_digits {n k : Nat} (h : k < (digits n).length) : pw k ≤ n := by
  rcases Nat.lt_or_ge n (pw k) with h' | h'
  · have := (length_digits_le n k).2 h'; omega
  · exact h'
theorem length_digits_mono {m n : Nat} (h : m ≤ n) : (digits m).length ≤ (digits n).length := (length_digits_le _ _).2 (Nat.lt_of_le_of_lt h (lt_pw_digits n))

theorem canon_eq {l : List Nat} (h : Lt32 l) : canon l = digits (val l) := by
  induction l with
  | nil => rw [val, digits_zero]; rfl
  | cons x l ih =>
    have hx := h.head
    rw [canon, ih h.tail, val]
    by_cases h0 : val l = 0
    · rw [h0, digits_zero]
      by_cases hx0 : x = 0
      · simp [hx0, digits_zero]
      · simp only [hx0, if_false]
        rw [digits_pos (by omega), show (x + 4294967296 * 0) / 4294967296 = 0 by omega, digits_zero, show (x + 4294967296 * 0) % 4294967296 = x by omega]
    · rw [digits_pos (n := x + 4294967296 * val l) (by omega), show (x + 4294967296 * val l) / 4294967296 = val l by omega, show (x + 4294967296 * val l) % 4294967296 = x by omega]
      obtain ⟨y, m, hm⟩ := List.exists_cons_of_ne_nil (fun e => h0 (digits_eq_nil.1 e))
      rw [hm]
theorem eq_digits {l : List Nat} (h : Lt32 l) (hl : l.getLast? ≠ some 0) : l = digits (val l) := by
  rw [← canon_eq h]
  induction l with
  | nil => rfl
  | cons x l ih =>
    cases l with
    | nil => simp only [canon]; simp at hl; simp [hl]
    | cons y m =>
      have := ih h.tail (by simpa using hl)
      rw [canon, ← this]
theorem canon_take {l : List Nat} {k : Nat} (hz : ∀ j, k ≤ j → l[j]?.getD 0 = 0) (hk : k = 0 ∨ l[k - 1]?.getD 0 ≠ 0) (hl : Lt32 l) : digits (val l) = l.take k := by
  have hv : val l = val (l.take k) := by
    rcases Nat.lt_or_ge l.length k with h | h
    · rw [List.take_of_length_le (by omega)]
    · rw [val_take_drop l k h]
      have : val (l.drop k) = 0 := by
        have : ∀ m : List Nat, (∀ j : Nat, m[j]?.getD 0 = 0) → val m = 0 := by
          intro m
          induction m with
          | nil => intro _; rfl
          | cons x m ih =>
            intro hm
            have h0 := hm 0
            have := ih (fun j => by simpa using hm (j + 1))
            simp at h0
            simp [val, h0, this]
        exact this _ (fun j => by rw [List.getElem?_drop]; exact hz _ (by omega))
      rw [this]; simp
  rw [hv]
  refine (eq_digits (hl.take k) ?_).symm
  rcases hk with rfl | hk
  · simp
  · intro h
    have hkl : k - 1 < l.length := by
      rcases Nat.lt_or_ge (k - 1) l.length with h' | h'
      · exact h'
      · rw [List.getElem?_eq_none h'] at hk; simp at hk
    rw [List.getLast?_eq_getElem?, List.length_take] at h
    rw [List.getElem?_take] at h
    split at h
    · rename_i hlt
      rcases Nat.lt_or_ge k l.length with h' | h'
      · rw [Nat.min_eq_left (by omega)] at h; rw [h] at hk; simp at hk
      · have : min k l.length - 1 = k - 1 := by omega
        rw [this] at h; rw [h] at hk; simp at hk
    · cases h

/-- Two lists of limbs of one length that are worth the same are the same. -/
theorem val_inj {a b : List Nat} (ha : Lt32 a) (hb : Lt32 b) (hl : a.length = b.length) (h : val a = val b) : a = b := by
  induction a generalizing b with
  | nil => cases b with
    | nil => rfl
    | cons _ _ => simp at hl
  | cons x a ih => cases b with
    | nil => simp at hl
    | cons y b =>
      have hx := ha.head; have hy := hb.head
      simp only [val] at h
      obtain rfl : x = y := by omega
      rw [ih ha.tail hb.tail (by simpa using hl) (by omega)]

/-- One step of an addition. -/
theorem plus_step {a b out : List Nat} {k carry s c' : Nat} (hk : k < out.length) (hz : out[k]?.getD 0 = 0) (hI : val out + pw k * carry = val (a.take k) + val (b.take k))
    (he : s + 4294967296 * c' = a[k]?.getD 0 + b[k]?.getD 0 + carry) : val (out.set k s) + pw (k + 1) * c' = val (a.take (k + 1)) + val (b.take (k + 1)) := by
  have h := val_set hk s
  rw [hz] at h
  rw [val_take_succ, val_take_succ, pw_succ]
  have : pw k * (s + 4294967296 * c') = pw k * (a[k]?.getD 0 + b[k]?.getD 0 + carry) := by rw [he]
  grind
/-- One step of a subtraction. -/
theorem minus_step {a b out : List Nat} {k borrow s c' : Nat} (hk : k < out.length) (hz : out[k]?.getD 0 = 0) (hI : val out + val (b.take k) = val (a.take k) + pw k * borrow)
    (he : s + b[k]?.getD 0 + borrow = a[k]?.getD 0 + 4294967296 * c') : val (out.set k s) + val (b.take (k + 1)) = val (a.take (k + 1)) + pw (k + 1) * c' := by
  have h := val_set hk s
  rw [hz] at h
  rw [val_take_succ, val_take_succ, pw_succ]
  have : pw k * (s + b[k]?.getD 0 + borrow) = pw k * (a[k]?.getD 0 + 4294967296 * c') := by rw [he]
  grind
theorem getD_set_ne {l : List Nat} {i j : Nat} (v : Nat) (h : i ≠ j) : (l.set i v)[j]?.getD 0 = l[j]?.getD 0 := by rw [List.getElem?_set_ne h]
theorem getD_set_eq {l : List Nat} {i : Nat} (v : Nat) (h : i < l.length) : (l.set i v)[i]?.getD 0 = v := by rw [List.getElem?_set_self h]; rfl
theorem getD_none {l : List Nat} {i : Nat} (h : l.length ≤ i) : l[i]?.getD 0 = 0 := by rw [List.getElem?_eq_none h]; rfl
theorem getD_replicate (n i : Nat) : (List.replicate n 0)[i]?.getD 0 = 0 := by
  rw [List.getElem?_replicate]; split <;> rfl

/-- One step of a row of a product. -/
theorem times_step {a b out : List Nat} {i k carry s q : Nat} (hk : i + k < out.length)
    (hI : val out + pw (i + k) * carry = val (a.take i) * val b + pw i * (a[i]?.getD 0 * val (b.take k)))
    (he : s + 4294967296 * q = carry + a[i]?.getD 0 * b[k]?.getD 0 + out[i + k]?.getD 0) :
    val (out.set (i + k) s) + pw (i + (k + 1)) * q = val (a.take i) * val b + pw i * (a[i]?.getD 0 * val (b.take (k + 1))) := by
  have h := val_set hk s
  rw [val_take_succ, show i + (k + 1) = (i + k) + 1 by omega, pw_succ]
  have e1 : pw (i + k) * (s + 4294967296 * q) = pw (i + k) * (carry + a[i]?.getD 0 * b[k]?.getD 0 + out[i + k]?.getD 0) := by rw [he]
  have e2 := pw_add i k
  generalize pw (i + k) = P at *
  subst e2
  grind
/-- The end of a row. -/
theorem times_row {a b out : List Nat} {i carry : Nat} (hk : i + b.length < out.length) (hz : out[i + b.length]?.getD 0 = 0)
    (hI : val out + pw (i + b.length) * carry = val (a.take i) * val b + pw i * (a[i]?.getD 0 * val b)) :
    val (out.set (i + b.length) carry) = val (a.take (i + 1)) * val b := by
  have h := val_set hk carry
  rw [hz] at h
  rw [val_take_succ]
  grind
theorem carry_lt {x y z c s q : Nat} (hx : x < 4294967296) (hy : y < 4294967296) (hz : z < 4294967296) (hc : c < 4294967296) (he : s + 4294967296 * q = c + x * y + z) : q < 4294967296 := by
  have : x * y ≤ 4294967295 * 4294967295 := Nat.mul_le_mul (by omega) (by omega)
  omega
end Go.Proofs.Ytljocgdhdilglaa
