/- Polynomials over the fractions as functions: degree, product, division, derivative (plain). Polynomials over the fractions: cancelling, division, common divisors, primes, derivatives, multiple factors (plain). Whole polynomials: contents, primitive parts, Gauss's lemma (plain). What the division, the greatest common divisor and the squarefree part of package poly are (plain). The greatest common divisor and the squarefree part: what they are (plain). A primitive factor of a whole polynomial has small coefficients (plain). The numbers that the division and the greatest common divisor meet stay small (plain). Package poly: look, Eval, Sign where they err; lists of one number; an append to a full slice. Package poly on polynomials told by their numbers: results that are not valid, parts, values. -/
import Derived.ArgAppend
import Derived.Test.YtljocgdhdilglaaGreatZr34
import Derived.Test.YtljocgdhdilglaaGreatZr35
import Derived.Test.YtljocgdhdilglaaGreatZr47
import Derived.Test.YtljocgdhdilglaaGreatZr50
import Derived.Test.YtljocgdhdilglaaGreatZr36
import Derived.Test.YtljocgdhdilglaaGreatZr48
import Derived.Test.YtljocgdhdilglaaGreatZr49
set_option linter.unusedSimpArgs false
set_option linter.unusedVariables false

namespace Go.Proofs.YtljocgdhdilglaaGreat

/-- The value of a list of coefficients. -/
def ev : List Rat → Rat → Rat
  | [], _ => 0
  | a :: l, x => a + x * ev l x
def co (l : List Rat) (i : Nat) : Rat := l[i]?.getD 0
def addL : List Rat → List Rat → List Rat
  | [], q => q
  | p, [] => p
  | a :: p, b :: q => (a + b) :: addL p q
def smulL (c : Rat) (p : List Rat) : List Rat := p.map (c * ·)
def mulL : List Rat → List Rat → List Rat
  | [], _ => []
  | a :: p, q => addL (smulL a q) (0 :: mulL p q)

theorem ev_addL (p q : List Rat) (x : Rat) : ev (addL p q) x = ev p x + ev q x := by
  induction p generalizing q with
  | nil => simp [addL, ev]; grind
  | cons a p ih =>
    cases q with
    | nil => simp [addL, ev]; grind
    | cons b q => simp only [addL, ev, ih]; grind
theorem ev_smulL (c : Rat) (p : List Rat) (x : Rat) : ev (smulL c p) x = c * ev p x := by
  unfold smulL
  induction p with
  | nil => simp [ev]
  | cons a p ih => simp only [List.map_cons, ev, ih]; grind
theorem ev_mulL (p q : List Rat) (x : Rat) : ev (mulL p q) x = ev p x * ev q x := by
  induction p with
  | nil => simp [mulL, ev]
  | cons a p ih => simp only [mulL, ev_addL, ev_smulL, ev, ih]; grind
theorem addL_length (p q : List Rat) : (addL p q).length = max p.length q.length := by
  induction p generalizing q with
  | nil => simp [addL]
  | cons a p ih =>
    cases q with
    | nil => simp [addL]
    | cons b q => simp only [addL, List.length_cons, ih]; omega
theorem smulL_length (c : Rat) (p : List Rat) : (smulL c p).length = p.length := by simp [smulL]
theorem mulL_length (p q : List Rat) : (mulL p q).length ≤ p.length + q.length - 1 ∨ p = [] ∨ q = [] := by
  induction p with
  | nil => exact .inr (.inl rfl)
  | cons a p ih =>
    cases q with
    | nil => exact .inr (.inr rfl)
    | cons b q =>
      left
      simp only [mulL, addL_length, smulL_length, List.length_cons]
      rcases ih with h | h | h
      · simp only [List.length_cons] at h; omega
      · subst h; simp [mulL]
      · cases h
theorem mulL_le (p q : List Rat) : (mulL p q).length ≤ p.length + q.length := by
  induction p with
  | nil => simp [mulL]
  | cons a p ih => simp only [mulL, addL_length, smulL_length, List.length_cons]; omega
theorem co_cons_zero (a : Rat) (l : List Rat) : co (a :: l) 0 = a := rfl
theorem co_cons_succ (a : Rat) (l : List Rat) (i : Nat) : co (a :: l) (i + 1) = co l i := by simp [co]
theorem co_out {l : List Rat} {i : Nat} (h : l.length ≤ i) : co l i = 0 := by unfold co; rw [List.getElem?_eq_none h]; rfl
theorem co_nil (i : Nat) : co [] i = 0 := by simp [co]
theorem co_addL (p q : List Rat) (i : Nat) : co (addL p q) i = co p i + co q i := by
  induction p generalizing q i with
  | nil => simp only [addL, co_nil]; grind
  | cons a p ih =>
    cases q with
    | nil => simp only [addL, co_nil]; grind
    | cons b q =>
      cases i with
      | zero => simp only [addL, co_cons_zero]
      | succ i => simp only [addL, co_cons_succ, ih]
theorem co_smulL (c : Rat) (p : List Rat) (i : Nat) : co (smulL c p) i = c * co p i := by
  unfold co smulL
  rw [List.getElem?_map]
  cases p[i]? <;> simp
/-- The highest coefficient of a product. -/
theorem co_mulL {p q : List Rat} {n m : Nat} (hp : p.length = n + 1) (hq : q.length = m + 1) : co (mulL p q) (n + m) = co p n * co q m := by
  induction p generalizing n with
  | nil => simp at hp
  | cons a p ih =>
    simp only [mulL, co_addL, co_smulL]
    cases n with
    | zero =>
      have hp0 : p = [] := List.eq_nil_of_length_eq_zero (by simpa using hp)
      subst hp0
      rw [Nat.zero_add, co_cons_zero]
      cases m with
      | zero => simp only [mulL, co_cons_zero]; grind
      | succ m => simp only [mulL, co_cons_succ, co_nil]; grind
    | succ n =>
      have h := ih (n := n) (by simpa using hp)
      rw [co_out (l := q) (by omega), show n + 1 + m = (n + m) + 1 by omega, co_cons_succ, co_cons_succ, h]
      grind

/-- The quotient by X - r. -/
def syn (r : Rat) : List Rat → List Rat
  | [] => []
  | [_] => []
  | _ :: b :: l => ev (b :: l) r :: syn r (b :: l)
theorem syn_length (r : Rat) (p : List Rat) : (syn r p).length = p.length - 1 := by
  match p with
  | [] => rfl
  | [a] => rfl
  | a :: b :: l =>
    have := syn_length r (b :: l)
    simp only [syn, List.length_cons] at this ⊢
    omega
theorem syn_ev (r : Rat) (p : List Rat) (x : Rat) : ev p x = (x - r) * ev (syn r p) x + ev p r := by
  match p with
  | [] => simp only [syn, ev]; grind
  | [a] => simp only [syn, ev]; grind
  | a :: b :: l =>
    have h := syn_ev r (b :: l) x
    show a + x * ev (b :: l) x = (x - r) * (ev (b :: l) r + x * ev (syn r (b :: l)) x) + (a + r * ev (b :: l) r)
    generalize ev (b :: l) x = A at *
    generalize ev (b :: l) r = B at *
    generalize ev (syn r (b :: l)) x = C at *
    rw [h]
    grind
theorem ev_zero_of_co {p : List Rat} (h : ∀ c ∈ p, c = 0) (x : Rat) : ev p x = 0 := by
  induction p with
  | nil => rfl
  | cons a p ih =>
    rw [ev, ih (fun c hc => h c (List.mem_cons_of_mem _ hc)), h a (List.mem_cons_self ..)]
    grind
theorem nat_ne {n N : Nat} (h : N < n) : ((n : Nat) : Rat) - (N : Nat) ≠ 0 := by
  intro h0
  have : ((n : Nat) : Rat) = (N : Nat) := by grind
  have : n = N := by exact_mod_cast this
  omega
/-- What is 0 at all great whole numbers has no coefficient but 0. -/
theorem co_zero : ∀ (k : Nat) (p : List Rat), p.length = k → ∀ N : Nat, (∀ n : Nat, N ≤ n → ev p n = 0) → ∀ c ∈ p, c = 0 := by
  intro k
  induction k with
  | zero =>
    intro p hp N _ c hc
    rw [List.eq_nil_of_length_eq_zero hp] at hc
    cases hc
  | succ k ih =>
    intro p hp N h c hc
    have hq : ∀ c ∈ syn (N : Nat) p, c = 0 := ih _ (by rw [syn_length, hp]; rfl) (N + 1) (fun n hn => by
      have h1 := syn_ev (N : Nat) p (n : Nat)
      rw [h n (by omega), h N (Nat.le_refl _)] at h1
      have h2 := nat_ne (show N < n by omega)
      grind)
    have hz : ∀ x, ev p x = 0 := fun x => by
      rw [syn_ev (N : Nat) p x, ev_zero_of_co hq, h N (Nat.le_refl _)]
      grind
    cases p with
    | nil => cases hc
    | cons a l =>
      have ha : a = 0 := by
        have := hz 0
        rw [ev] at this
        grind
      rcases List.mem_cons.1 hc with rfl | hc
      · exact ha
      · refine ih l (by simpa using hp) 1 (fun n hn => ?_) c hc
        have h1 := hz (n : Nat)
        rw [ev, ha] at h1
        have h2 := nat_ne (show 0 < n by omega)
        grind
theorem co_unique {p q : List Rat} (h : ∀ x, ev p x = ev q x) (i : Nat) : co p i = co q i := by
  have h1 := co_zero _ (addL p (smulL (-1) q)) rfl 0 (fun n _ => by rw [ev_addL, ev_smulL, h]; grind)
  have h2 : co (addL p (smulL (-1) q)) i = 0 := by
    unfold co
    cases hc : (addL p (smulL (-1) q))[i]? with
    | none => rfl
    | some c => exact h1 c (List.mem_of_getElem? hc)
  rw [co_addL, co_smulL] at h2
  grind

/-- A function that a polynomial of fewer than n + 1 coefficients makes. -/
def PF (n : Nat) (f : Rat → Rat) : Prop := ∃ l : List Rat, l.length ≤ n ∧ ∀ x, f x = ev l x
/-- .. of exactly n coefficients, the highest one not 0. -/
def Deg (n : Nat) (f : Rat → Rat) : Prop := ∃ l : List Rat, l.length = n ∧ (n = 0 ∨ co l (n - 1) ≠ 0) ∧ ∀ x, f x = ev l x
def Pol (f : Rat → Rat) : Prop := ∃ n, PF n f
def Dvd (u f : Rat → Rat) : Prop := ∃ q, Pol q ∧ ∀ x, f x = q x * u x
theorem PF.mono {n m : Nat} {f : Rat → Rat} (h : PF n f) (hn : n ≤ m) : PF m f := by obtain ⟨l, h1, h2⟩ := h; exact ⟨l, by omega, h2⟩
theorem PF.congr {n : Nat} {f g : Rat → Rat} (h : PF n f) (hg : ∀ x, g x = f x) : PF n g := by obtain ⟨l, h1, h2⟩ := h; exact ⟨l, h1, fun x => by rw [hg, h2]⟩
theorem PF.add {n m : Nat} {f g : Rat → Rat} (h : PF n f) (k : PF m g) : PF (max n m) (fun x => f x + g x) := by
  obtain ⟨l, h1, h2⟩ := h; obtain ⟨l', k1, k2⟩ := k
  exact ⟨addL l l', by rw [addL_length]; omega, fun x => by rw [ev_addL, ← h2, ← k2]⟩
theorem PF.smul {n : Nat} {f : Rat → Rat} (c : Rat) (h : PF n f) : PF n (fun x => c * f x) := by
  obtain ⟨l, h1, h2⟩ := h
  exact ⟨smulL c l, by rw [smulL_length]; exact h1, fun x => by rw [ev_smulL, ← h2]⟩
theorem PF.mul {n m : Nat} {f g : Rat → Rat} (h : PF n f) (k : PF m g) : PF (n + m) (fun x => f x * g x) := by
  obtain ⟨l, h1, h2⟩ := h; obtain ⟨l', k1, k2⟩ := k
  exact ⟨mulL l l', by have := mulL_le l l'; omega, fun x => by rw [ev_mulL, ← h2, ← k2]⟩
theorem PF.const (c : Rat) : PF 1 (fun _ => c) := ⟨[c], Nat.le_refl _, fun x => by simp [ev]; grind⟩
theorem PF.id : PF 2 (fun x => x) := ⟨[0, 1], Nat.le_refl _, fun x => by simp [ev]; grind⟩
theorem Pol.add {f g : Rat → Rat} (h : Pol f) (k : Pol g) : Pol (fun x => f x + g x) := by obtain ⟨_, h⟩ := h; obtain ⟨_, k⟩ := k; exact ⟨_, h.add k⟩
theorem Pol.mul {f g : Rat → Rat} (h : Pol f) (k : Pol g) : Pol (fun x => f x * g x) := by obtain ⟨_, h⟩ := h; obtain ⟨_, k⟩ := k; exact ⟨_, h.mul k⟩
theorem Pol.smul {f : Rat → Rat} (c : Rat) (h : Pol f) : Pol (fun x => c * f x) := by obtain ⟨_, h⟩ := h; exact ⟨_, h.smul c⟩
theorem Pol.const (c : Rat) : Pol (fun _ => c) := ⟨_, PF.const c⟩
theorem Pol.congr {f g : Rat → Rat} (h : Pol f) (hg : ∀ x, g x = f x) : Pol g := by obtain ⟨_, h⟩ := h; exact ⟨_, h.congr hg⟩
theorem Pol.sub {f g : Rat → Rat} (h : Pol f) (k : Pol g) : Pol (fun x => f x - g x) := (h.add (k.smul (-1))).congr fun x => by grind
theorem Pol.pow {f : Rat → Rat} (h : Pol f) : ∀ m : Nat, Pol (fun x => f x ^ m)
  | 0 => (Pol.const 1).congr fun x => by rw [Rat.pow_zero]
  | m + 1 => ((h.pow m).mul h).congr fun x => by rw [Rat.pow_succ]
theorem Deg.pf {n : Nat} {f : Rat → Rat} (h : Deg n f) : PF n f := by obtain ⟨l, h1, h2, h3⟩ := h; exact ⟨l, by omega, h3⟩
theorem Deg.pol {n : Nat} {f : Rat → Rat} (h : Deg n f) : Pol f := ⟨_, h.pf⟩
theorem Deg.congr {n : Nat} {f g : Rat → Rat} (h : Deg n f) (hg : ∀ x, g x = f x) : Deg n g := by obtain ⟨l, h1, h2, h3⟩ := h; exact ⟨l, h1, h2, fun x => by rw [hg, h3]⟩
theorem ev_take {l : List Rat} {n : Nat} (h : l.length = n + 1) (hz : co l n = 0) (x : Rat) : ev l x = ev (l.take n) x := by
  induction l generalizing n with
  | nil => simp at h
  | cons a l ih =>
    cases n with
    | zero =>
      have : l = [] := List.eq_nil_of_length_eq_zero (by simpa using h)
      subst this
      rw [co_cons_zero] at hz
      simp only [ev, hz, List.take_zero]; grind
    | succ n =>
      rw [co_cons_succ] at hz
      rw [ev, List.take_succ_cons, ev, ih (by simpa using h) hz]
theorem PF.deg {n : Nat} {f : Rat → Rat} (h : PF n f) : ∃ m, m ≤ n ∧ Deg m f := by
  obtain ⟨l, h1, h2⟩ := h
  obtain ⟨k, hk⟩ : ∃ k, l.length = k := ⟨_, rfl⟩
  rw [hk] at h1
  induction k generalizing l n with
  | zero => exact ⟨0, Nat.zero_le _, l, hk, .inl rfl, h2⟩
  | succ k ih =>
    by_cases hz : co l k = 0
    · obtain ⟨m, hm, hd⟩ := ih (n := n) (l.take k) (by intro x; rw [h2, ev_take hk hz]) (by omega) (by rw [List.length_take, hk]; omega)
      exact ⟨m, hm, hd⟩
    · exact ⟨k + 1, h1, l, hk, .inr hz, h2⟩
theorem Pol.deg {f : Rat → Rat} (h : Pol f) : ∃ m, Deg m f := by
  obtain ⟨n, h⟩ := h
  obtain ⟨m, -, hm⟩ := h.deg
  exact ⟨m, hm⟩
theorem Deg.le_of_pf {n m : Nat} {f : Rat → Rat} (h : Deg n f) (k : PF m f) : n ≤ m := by
  obtain ⟨l, h1, h2, h3⟩ := h
  obtain ⟨l', k1, k2⟩ := k
  rcases h2 with h2 | h2
  · omega
  · have := co_unique (p := l) (q := l') (fun x => by rw [← h3, ← k2]) (n - 1)
    rcases Nat.lt_or_ge m n with h4 | h4
    · rw [this, co_out (by omega)] at h2; exact absurd rfl h2
    · exact h4
theorem Deg.unique {n m : Nat} {f : Rat → Rat} (h : Deg n f) (k : Deg m f) : n = m := Nat.le_antisymm (h.le_of_pf k.pf) (k.le_of_pf h.pf)
theorem Deg.mul {n m : Nat} {f g : Rat → Rat} (h : Deg (n + 1) f) (k : Deg (m + 1) g) : Deg (n + m + 1) (fun x => f x * g x) := by
  obtain ⟨l, h1, h2, h3⟩ := h
  obtain ⟨l', k1, k2, k3⟩ := k
  have hl : (mulL l l').length = n + m + 1 := by
    have hc := co_mulL h1 k1
    have h4 : co (mulL l l') (n + m) ≠ 0 := by
      rw [hc]
      rcases h2 with h2 | h2
      · omega
      rcases k2 with k2 | k2
      · omega
      rw [Nat.add_sub_cancel] at h2 k2
      intro h0
      rcases Rat.mul_eq_zero.1 h0 with h | h
      · exact h2 h
      · exact k2 h
    rcases mulL_length l l' with h5 | h5 | h5
    · rcases Nat.lt_or_ge (n + m) (mulL l l').length with h6 | h6
      · omega
      · rw [co_out h6] at h4; exact absurd rfl h4
    · rw [h5] at h1; simp at h1
    · rw [h5] at k1; simp at k1
  refine ⟨mulL l l', hl, .inr ?_, fun x => by rw [ev_mulL, ← h3, ← k3]⟩
  rw [Nat.add_sub_cancel, co_mulL h1 k1]
  rcases h2 with h2 | h2
  · omega
  rcases k2 with k2 | k2
  · omega
  rw [Nat.add_sub_cancel] at h2 k2
  intro h0
  rcases Rat.mul_eq_zero.1 h0 with h | h
  · exact h2 h
  · exact k2 h
theorem Deg.zero {f : Rat → Rat} (h : Deg 0 f) (x : Rat) : f x = 0 := by
  obtain ⟨l, h1, h2, h3⟩ := h
  rw [h3, List.eq_nil_of_length_eq_zero h1]; rfl
theorem deg_zero {f : Rat → Rat} (h : ∀ x, f x = 0) : Deg 0 f := ⟨[], rfl, .inl rfl, fun x => by rw [h]; rfl⟩
end Go.Proofs.YtljocgdhdilglaaGreat

namespace Go.Proofs.YtljocgdhdilglaaGreat

def Zero (f : Rat → Rat) : Prop := ∀ x, f x = 0
theorem mul_zero_or {f g : Rat → Rat} (hf : Pol f) (hg : Pol g) (h : ∀ x, f x * g x = 0) : Zero f ∨ Zero g := by
  obtain ⟨n, hn⟩ := hf.deg
  obtain ⟨m, hm⟩ := hg.deg
  cases n with
  | zero => exact .inl hn.zero
  | succ n =>
    cases m with
    | zero => exact .inr hm.zero
    | succ m => exact absurd ((hn.mul hm).unique (deg_zero h)) (by omega)
theorem mul_cancel {u a b : Rat → Rat} (hu : Pol u) (hz : ¬ Zero u) (ha : Pol a) (hb : Pol b) (h : ∀ x, u x * a x = u x * b x) (x : Rat) : a x = b x := by
  rcases mul_zero_or hu (ha.sub hb) (fun x => by have := h x; grind) with h1 | h1
  · exact absurd h1 hz
  · have := h1 x; grind
theorem Dvd.refl {f : Rat → Rat} : Dvd f f := ⟨fun _ => 1, Pol.const 1, fun x => by grind⟩
theorem Dvd.trans {f g h : Rat → Rat} (a : Dvd f g) (b : Dvd g h) : Dvd f h := by
  obtain ⟨q, hq, h1⟩ := a
  obtain ⟨r, hr, h2⟩ := b
  exact ⟨fun x => r x * q x, hr.mul hq, fun x => by rw [h2, h1]; grind⟩
theorem Dvd.mul {f g k : Rat → Rat} (a : Dvd f g) (hk : Pol k) : Dvd f (fun x => k x * g x) := by
  obtain ⟨q, hq, h1⟩ := a
  exact ⟨fun x => k x * q x, hk.mul hq, fun x => by show k x * g x = _; rw [h1]; grind⟩
theorem Dvd.add {f g h : Rat → Rat} (a : Dvd f g) (b : Dvd f h) : Dvd f (fun x => g x + h x) := by
  obtain ⟨q, hq, h1⟩ := a
  obtain ⟨r, hr, h2⟩ := b
  exact ⟨fun x => q x + r x, hq.add hr, fun x => by show g x + h x = _; rw [h1, h2]; grind⟩
theorem Dvd.congr {f g h : Rat → Rat} (a : Dvd f g) (hg : ∀ x, h x = g x) : Dvd f h := by
  obtain ⟨q, hq, h1⟩ := a
  exact ⟨q, hq, fun x => by rw [hg, h1]⟩
theorem Dvd.congrL {f g h : Rat → Rat} (a : Dvd f g) (hg : ∀ x, h x = f x) : Dvd h g := by
  obtain ⟨q, hq, h1⟩ := a
  exact ⟨q, hq, fun x => by rw [hg, h1]⟩
theorem Dvd.of_mul {f g q : Rat → Rat} (hq : Pol q) (h : ∀ x, f x = q x * g x) : Dvd g f := ⟨q, hq, h⟩
theorem Dvd.const {f g : Rat → Rat} {c : Rat} (hc : c ≠ 0) (h : Dvd f (fun x => c * g x)) : Dvd f g := by
  obtain ⟨q, hq, h1⟩ := h
  exact ⟨fun x => c⁻¹ * q x, hq.smul _, fun x => by have := h1 x; grind⟩
theorem Dvd.zero {f g : Rat → Rat} (h : Zero g) : Dvd f g := ⟨fun _ => 0, Pol.const 0, fun x => by rw [h x]; grind⟩
theorem Dvd.pol {f g : Rat → Rat} (h : Dvd f g) (hf : Pol f) : Pol g := by
  obtain ⟨q, hq, h1⟩ := h
  exact (hq.mul hf).congr h1
theorem Dvd.deg_le {f g : Rat → Rat} {n m : Nat} (h : Dvd f g) (hf : Deg n f) (hg : Deg m g) (hz : ¬ Zero g) : n ≤ m := by
  obtain ⟨q, hq, h1⟩ := h
  obtain ⟨k, hk⟩ := hq.deg
  cases k with
  | zero => exact absurd (fun x => by rw [h1, hk.zero]; grind) hz
  | succ k =>
    cases n with
    | zero => exact Nat.zero_le _
    | succ n =>
      have := ((hk.mul hf).congr h1).unique hg
      omega

/-- Division with a rest. -/
theorem div_alg {g : Rat → Rat} {m : Nat} (hg : Deg (m + 1) g) : ∀ (n : Nat) (f : Rat → Rat), PF n f → ∃ q r, PF n q ∧ PF m r ∧ ∀ x, f x = q x * g x + r x := by
  intro n
  induction n with
  | zero =>
    intro f ⟨l, h1, h2⟩
    refine ⟨fun _ => 0, fun _ => 0, ⟨[], Nat.le_refl _, fun x => rfl⟩, ⟨[], Nat.zero_le _, fun x => rfl⟩, fun x => ?_⟩
    obtain rfl : l = [] := List.eq_nil_of_length_eq_zero (by omega)
    rw [h2]
    show (0 : Rat) = 0 * g x + 0
    grind
  | succ n ih =>
    intro f ⟨l, h1, h2⟩
    cases l with
    | nil =>
      refine ⟨fun _ => 0, fun _ => 0, ⟨[], Nat.zero_le _, fun x => rfl⟩, ⟨[], Nat.zero_le _, fun x => rfl⟩, fun x => ?_⟩
      rw [h2]
      show (0 : Rat) = 0 * g x + 0
      grind
    | cons a l =>
      obtain ⟨q1, r1, hq1, ⟨lr, hr1, hr2⟩, he⟩ := ih (ev l) ⟨l, by simpa using h1, fun x => rfl⟩
      obtain ⟨lg, g1, g2, g3⟩ := hg
      have hgm : co lg m ≠ 0 := by
        rcases g2 with g2 | g2
        · omega
        · exact g2
      have hc : co (a :: lr) m = (co (a :: lr) m / co lg m) * co lg m := by grind
      generalize co (a :: lr) m / co lg m = c at hc
      have hl : (addL (a :: lr) (smulL (-c) lg)).length = m + 1 := by rw [addL_length, smulL_length, g1]; simp; omega
      have ht : co (addL (a :: lr) (smulL (-c) lg)) m = 0 := by rw [co_addL, co_smulL, hc]; grind
      refine ⟨fun x => x * q1 x + c, fun x => (a + x * r1 x) - c * g x, ?_, ⟨(addL (a :: lr) (smulL (-c) lg)).take m, by rw [List.length_take]; omega, fun x => ?_⟩, fun x => ?_⟩
      · obtain ⟨lq, k1, k2⟩ := hq1
        exact ⟨addL [c] (0 :: lq), by rw [addL_length]; simp; omega, fun x => by rw [ev_addL]; simp only [ev]; rw [k2]; grind⟩
      · rw [← ev_take hl ht, ev_addL, ev_smulL, ← g3, ev, ← hr2]; grind
      · rw [h2, ev, he]; grind
theorem least_of {p : Nat → Prop} (h : ∃ n, p n) : ∃ n, p n ∧ ∀ m, m < n → ¬ p m := by
  obtain ⟨n, hn⟩ := h
  induction n using Nat.strongRecOn with
  | _ n ih =>
    by_cases hm : ∃ m, m < n ∧ p m
    · obtain ⟨m, hlt, hp⟩ := hm
      exact ih m hlt hp
    · exact ⟨n, hn, fun m hlt hp => hm ⟨m, hlt, hp⟩⟩
theorem deg_pos {f : Rat → Rat} (hf : Pol f) (hz : ¬ Zero f) : ∃ n, Deg (n + 1) f := by
  obtain ⟨n, hn⟩ := hf.deg
  cases n with
  | zero => exact absurd hn.zero hz
  | succ n => exact ⟨n, hn⟩
/-- The greatest common divisor is a sum of multiples. -/
theorem bezout {f g : Rat → Rat} (hf : Pol f) (hg : Pol g) (hne : ¬ Zero f) : ∃ d u v n, Pol u ∧ Pol v ∧ Deg (n + 1) d ∧ (∀ x, d x = u x * f x + v x * g x) ∧ Dvd d f ∧ Dvd d g := by
  obtain ⟨n, ⟨u, v, hu, hv, hd⟩, hmin⟩ := least_of (p := fun n => ∃ u v, Pol u ∧ Pol v ∧ Deg (n + 1) (fun x => u x * f x + v x * g x)) (by
    obtain ⟨n, hn⟩ := deg_pos hf hne
    exact ⟨n, fun _ => 1, fun _ => 0, Pol.const 1, Pol.const 0, hn.congr fun x => by grind⟩)
  have key : ∀ a b : Rat → Rat, Pol a → Pol b → Dvd (fun x => u x * f x + v x * g x) (fun x => a x * f x + b x * g x) := by
    intro a b ha hb
    obtain ⟨k, hk⟩ := (ha.mul hf).add (hb.mul hg)
    obtain ⟨q, r, hq, hr, he⟩ := div_alg hd k _ hk
    refine ⟨q, ⟨_, hq⟩, fun x => ?_⟩
    have hrz : ∀ x, r x = 0 := by
      obtain ⟨m, hm, hrd⟩ := hr.deg
      cases m with
      | zero => exact hrd.zero
      | succ m =>
        refine absurd ⟨fun x => a x - q x * u x, fun x => b x - q x * v x, ha.sub (Pol.mul ⟨_, hq⟩ hu), hb.sub (Pol.mul ⟨_, hq⟩ hv), hrd.congr fun x => ?_⟩ (hmin m (by omega))
        have := he x
        grind
    have := he x
    rw [hrz x] at this
    show a x * f x + b x * g x = q x * (u x * f x + v x * g x)
    rw [this]; grind
  exact ⟨_, u, v, n, hu, hv, hd, fun x => rfl, (key (fun _ => 1) (fun _ => 0) (Pol.const 1) (Pol.const 0)).congr fun x => by grind, (key (fun _ => 0) (fun _ => 1) (Pol.const 0) (Pol.const 1)).congr fun x => by grind⟩

/-- A prime: not constant; it divides a factor of what it divides. -/
def PrimeP (u : Rat → Rat) : Prop := (∃ n, Deg (n + 2) u) ∧ ∀ a b, Pol a → Pol b → Dvd u (fun x => a x * b x) → Dvd u a ∨ Dvd u b
theorem deg_one {f : Rat → Rat} (h : Deg 1 f) : ∃ c, c ≠ 0 ∧ ∀ x, f x = c := by
  obtain ⟨l, h1, h2, h3⟩ := h
  match l, h1 with
  | [c], _ =>
    refine ⟨c, ?_, fun x => by rw [h3]; simp only [ev]; grind⟩
    rcases h2 with h2 | h2
    · omega
    · exact h2
theorem prime_of_min {u : Rat → Rat} {n : Nat} (hu : Deg (n + 2) u) (hmin : ∀ v k, Deg (k + 2) v → Dvd v u → n ≤ k) : PrimeP u := by
  refine ⟨⟨n, hu⟩, fun a b ha hb hab => ?_⟩
  have huz : ¬ Zero u := fun h => by have := hu.unique (deg_zero h); omega
  obtain ⟨d, α, β, k, hα, hβ, hd, he, h1, h2⟩ := bezout hu.pol ha huz
  cases k with
  | zero =>
    obtain ⟨c, hc, hdc⟩ := deg_one hd
    right
    refine Dvd.const hc ?_
    have h3 : Dvd u (fun x => (fun x => α x * b x) x * u x) := ⟨_, hα.mul hb, fun x => rfl⟩
    have h4 : Dvd u (fun x => β x * (a x * b x)) := hab.mul hβ
    refine (h3.add h4).congr fun x => ?_
    have := he x
    rw [hdc x] at this
    rw [this]; grind
  | succ k =>
    left
    have hk := hmin d k hd h1
    obtain ⟨q, hq, h3⟩ := h1
    obtain ⟨j, hj⟩ := hq.deg
    cases j with
    | zero => exact absurd (fun x => by rw [h3, hj.zero]; grind) huz
    | succ j =>
      have h4 := ((hj.mul hd).congr h3).unique hu
      obtain rfl : j = 0 := by omega
      obtain ⟨c, hc, hqc⟩ := deg_one hj
      refine Dvd.trans ⟨fun _ => c⁻¹, Pol.const _, fun x => ?_⟩ h2
      rw [h3, hqc]; grind
theorem Pol.root {f : Rat → Rat} (hf : Pol f) {r : Rat} (h : f r = 0) : Dvd (fun x => x - r) f := by
  obtain ⟨n, l, h1, h2⟩ := hf
  refine ⟨ev (syn r l), ⟨_, syn r l, Nat.le_refl _, fun x => rfl⟩, fun x => ?_⟩
  have := syn_ev r l x
  rw [← h2, ← h2, h] at this
  rw [this]; grind
theorem Dvd.root {f : Rat → Rat} {r : Rat} (h : Dvd (fun x => x - r) f) : f r = 0 := by
  obtain ⟨q, _, h1⟩ := h
  rw [h1]; grind
theorem deg_lin (r : Rat) : Deg 2 (fun x => x - r) := ⟨[-r, 1], rfl, .inr (by show co [-r, 1] 1 ≠ 0; simp [co]), fun x => by simp only [ev]; grind⟩
theorem prime_lin (r : Rat) : PrimeP (fun x => x - r) := by
  refine ⟨⟨0, deg_lin r⟩, fun a b ha hb h => ?_⟩
  have := h.root
  rcases Rat.mul_eq_zero.1 this with h1 | h1
  · exact .inl (ha.root h1)
  · exact .inr (hb.root h1)

/-- The derivative. -/
def evD : List Rat → Rat → Rat
  | [], _ => 0
  | _ :: l, x => ev l x + x * evD l x
theorem evD_addL (p q : List Rat) (x : Rat) : evD (addL p q) x = evD p x + evD q x := by
  induction p generalizing q with
  | nil => simp only [addL, evD]; grind
  | cons a p ih =>
    cases q with
    | nil => simp only [addL, evD]; grind
    | cons b q => simp only [addL, evD, ih, ev_addL]; grind
theorem evD_smulL (c : Rat) (p : List Rat) (x : Rat) : evD (smulL c p) x = c * evD p x := by
  induction p with
  | nil => simp only [smulL, List.map_nil, evD]; grind
  | cons a p ih =>
    have h := ev_smulL c p x
    simp only [smulL] at ih h
    simp only [smulL, List.map_cons, evD, ih, h]; grind
theorem evD_mulL (p q : List Rat) (x : Rat) : evD (mulL p q) x = evD p x * ev q x + ev p x * evD q x := by
  induction p with
  | nil => simp only [mulL, evD, ev]; grind
  | cons a p ih => simp only [mulL, evD_addL, evD_smulL, evD, ev, ih, ev_mulL]; grind
theorem evD_zero {p : List Rat} (h : ∀ c ∈ p, c = 0) (x : Rat) : evD p x = 0 := by
  induction p with
  | nil => rfl
  | cons a p ih =>
    rw [evD, ih (fun c hc => h c (List.mem_cons_of_mem _ hc)), ev_zero_of_co (fun c hc => h c (List.mem_cons_of_mem _ hc))]
    grind
theorem evD_congr {p q : List Rat} (h : ∀ x, ev p x = ev q x) (x : Rat) : evD p x = evD q x := by
  have h1 := co_zero _ (addL p (smulL (-1) q)) rfl 0 (fun n _ => by rw [ev_addL, ev_smulL, h]; grind)
  have h2 := evD_zero h1 x
  rw [evD_addL, evD_smulL] at h2
  grind
def HasD (f d : Rat → Rat) : Prop := ∃ l, (∀ x, f x = ev l x) ∧ ∀ x, d x = evD l x
theorem HasD.unique {f f' d d' : Rat → Rat} (h : HasD f d) (h' : HasD f' d') (hf : ∀ x, f x = f' x) (x : Rat) : d x = d' x := by
  obtain ⟨l, h1, h2⟩ := h
  obtain ⟨l', k1, k2⟩ := h'
  rw [h2, k2]
  exact evD_congr (fun x => by rw [← h1, ← k1, hf]) x
theorem HasD.mul {f g d e : Rat → Rat} (h : HasD f d) (k : HasD g e) : HasD (fun x => f x * g x) (fun x => d x * g x + f x * e x) := by
  obtain ⟨l, h1, h2⟩ := h
  obtain ⟨l', k1, k2⟩ := k
  exact ⟨mulL l l', fun x => by rw [ev_mulL, ← h1, ← k1], fun x => by rw [evD_mulL, ← h1, ← k1, ← h2, ← k2]⟩
theorem HasD.smul {f d : Rat → Rat} (c : Rat) (h : HasD f d) : HasD (fun x => c * f x) (fun x => c * d x) := by
  obtain ⟨l, h1, h2⟩ := h
  exact ⟨smulL c l, fun x => by rw [ev_smulL, ← h1], fun x => by rw [evD_smulL, ← h2]⟩
theorem HasD.congr {f d g e : Rat → Rat} (h : HasD f d) (hf : ∀ x, g x = f x) (hd : ∀ x, e x = d x) : HasD g e := by
  obtain ⟨l, h1, h2⟩ := h
  exact ⟨l, fun x => by rw [hf, h1], fun x => by rw [hd, h2]⟩
theorem HasD.one : HasD (fun _ => 1) (fun _ => 0) := ⟨[1], fun x => by simp only [ev]; grind, fun x => by simp only [evD, ev]; grind⟩
theorem HasD.pow {u d : Rat → Rat} (h : HasD u d) : ∀ m : Nat, HasD (fun x => u x ^ (m + 1)) (fun x => ((m + 1 : Nat) : Rat) * (u x ^ m * d x))
  | 0 => h.congr (fun x => by rw [Rat.pow_succ, Rat.pow_zero]; grind) (fun x => by rw [Rat.pow_zero]; simp)
  | m + 1 => ((h.pow m).mul h).congr (fun x => by rw [Rat.pow_succ]) (fun x => by
      rw [Rat.pow_succ, show ((m + 1 + 1 : Nat) : Rat) = ((m + 1 : Nat) : Rat) + 1 by simp]
      grind)
def derL : List Rat → List Rat
  | [] => []
  | [_] => []
  | _ :: b :: l => addL (b :: l) (0 :: derL (b :: l))
theorem derL_length (p : List Rat) : (derL p).length = p.length - 1 := by
  match p with
  | [] => rfl
  | [a] => rfl
  | a :: b :: l =>
    have := derL_length (b :: l)
    simp only [derL, addL_length, List.length_cons] at this ⊢
    omega
theorem ev_derL (p : List Rat) (x : Rat) : ev (derL p) x = evD p x := by
  match p with
  | [] => rfl
  | [a] => simp only [derL, ev, evD]; grind
  | a :: b :: l =>
    have h := ev_derL (b :: l) x
    rw [derL, ev_addL]
    show ev (b :: l) x + (0 + x * ev (derL (b :: l)) x) = ev (b :: l) x + x * evD (b :: l) x
    rw [h]; grind
theorem co_derL (p : List Rat) (i : Nat) : co (derL p) i = ((i + 1 : Nat) : Rat) * co p (i + 1) := by
  match p with
  | [] => rw [derL, co_nil, co_nil]; grind
  | [a] => rw [derL, co_nil, co_cons_succ, co_nil]; grind
  | a :: b :: l =>
    rw [derL, co_addL, co_cons_succ]
    cases i with
    | zero =>
      rw [show co (0 :: derL (b :: l)) 0 = 0 from rfl]
      simp; grind
    | succ i =>
      rw [co_cons_succ 0 (derL (b :: l)) i, co_derL (b :: l) i, show ((i + 1 + 1 : Nat) : Rat) = ((i + 1 : Nat) : Rat) + 1 by simp]
      grind
theorem Pol.hasD {f : Rat → Rat} (h : Pol f) : ∃ d, HasD f d ∧ Pol d := by
  obtain ⟨n, l, h1, h2⟩ := h
  exact ⟨evD l, ⟨l, h2, fun x => rfl⟩, ⟨_, derL l, Nat.le_refl _, fun x => (ev_derL l x).symm⟩⟩
theorem HasD.pol {f d : Rat → Rat} (h : HasD f d) : Pol d := by
  obtain ⟨l, h1, h2⟩ := h
  exact ⟨_, derL l, Nat.le_refl _, fun x => by rw [h2, ev_derL]⟩
theorem HasD.deg {f d : Rat → Rat} {n : Nat} (h : HasD f d) (hf : Deg (n + 2) f) : Deg (n + 1) d := by
  obtain ⟨l, h1, h2, h3⟩ := hf
  have hl : HasD f (evD l) := ⟨l, h3, fun x => rfl⟩
  refine ⟨derL l, by rw [derL_length, h1]; rfl, .inr ?_, fun x => by rw [h.unique hl (fun _ => rfl) x, ev_derL]⟩
  rw [Nat.add_sub_cancel, co_derL]
  rcases h2 with h2 | h2
  · omega
  · intro h0
    rcases Rat.mul_eq_zero.1 h0 with h4 | h4
    · have : n + 1 = 0 := by exact_mod_cast h4
      omega
    · exact h2 h4

/-- A prime does not divide its derivative. -/
theorem PrimeP.not_dvd_der {u d : Rat → Rat} (hu : PrimeP u) (h : HasD u d) : ¬ Dvd u d := by
  obtain ⟨⟨n, hn⟩, -⟩ := hu
  have hd := h.deg hn
  intro hdv
  have hz : ¬ Zero d := fun hz => by have := hd.unique (deg_zero hz); omega
  have := hdv.deg_le hn hd hz
  omega
theorem PrimeP.pol {u : Rat → Rat} (hu : PrimeP u) : Pol u := by obtain ⟨⟨n, hn⟩, -⟩ := hu; exact hn.pol
theorem PrimeP.nz {u : Rat → Rat} (hu : PrimeP u) : ¬ Zero u := by obtain ⟨⟨n, hn⟩, -⟩ := hu; exact fun hz => by have := hn.unique (deg_zero hz); omega
/-- How often a prime divides. -/
theorem PrimeP.mult {u : Rat → Rat} (hu : PrimeP u) : ∀ (n : Nat) (p : Rat → Rat), Deg (n + 1) p → ∃ (m : Nat) (h : Rat → Rat), Pol h ∧ ¬ Dvd u h ∧ ∀ x, p x = u x ^ m * h x := by
  intro n
  induction n using Nat.strongRecOn with
  | _ n ih =>
    intro p hp
    by_cases hd : Dvd u p
    · obtain ⟨q, hq, h1⟩ := hd
      obtain ⟨⟨k, hk⟩, -⟩ := hu
      have hqz : ¬ Zero q := fun hz => by have := hp.unique (deg_zero (fun x => by rw [h1, hz x]; grind)); omega
      obtain ⟨j, hj⟩ := deg_pos hq hqz
      have := ((hj.mul hk).congr h1).unique hp
      obtain ⟨m, h, a, b, c⟩ := ih j (by omega) q hj
      exact ⟨m + 1, h, a, b, fun x => by rw [h1, c, Rat.pow_succ]; grind⟩
    · exact ⟨0, p, hp.pol, hd, fun x => by rw [Rat.pow_zero]; grind⟩
theorem pow_nz {u : Rat → Rat} (hu : Pol u) (hz : ¬ Zero u) : ∀ m : Nat, ¬ Zero (fun x => u x ^ m)
  | 0 => fun h => by have := h 0; simp only [Rat.pow_zero] at this; exact absurd this (by decide)
  | m + 1 => fun h => by
    rcases mul_zero_or (hu.pow m) hu (fun x => by have := h x; simp only [Rat.pow_succ] at this; exact this) with h1 | h1
    · exact pow_nz hu hz m h1
    · exact hz h1

/-- What is left of a polynomial without the greatest common divisor with its derivative has each prime factor, and once. -/
theorem squarefree {p d f g α β u : Rat → Rat} {κ : Rat} (hp : Pol p) (hpz : ¬ Zero p) (hd : HasD p d) (hf : Pol f) (hg : Pol g) (hκ : κ ≠ 0) (hfg : ∀ x, p x = κ * (f x * g x)) (hgd : Dvd g d)
    (hα : Pol α) (hβ : Pol β) (hb : ∀ x, g x = α x * p x + β x * d x) (hu : PrimeP u) : (Dvd u p → Dvd u f) ∧ ¬ Dvd (fun x => u x * u x) f := by
  obtain ⟨n, hn⟩ := deg_pos hp hpz
  obtain ⟨m, h, hh, hnd, hph⟩ := hu.mult n p hn
  have hup := hu.pol
  cases m with
  | zero =>
    have hp1 : ∀ x, p x = h x := fun x => by rw [hph, Rat.pow_zero]; grind
    refine ⟨fun hdv => absurd (hdv.congr fun x => (hp1 x).symm) hnd, fun hdv => hnd ?_⟩
    obtain ⟨q, hq, h1⟩ := hdv
    refine ⟨fun x => κ * (q x * u x * g x), ((hq.mul hup).mul hg).smul κ, fun x => ?_⟩
    rw [← hp1, hfg, h1]; grind
  | succ m =>
    obtain ⟨u', hu', hu'p⟩ := hup.hasD
    obtain ⟨h', hh', hh'p⟩ := hh.hasD
    have hdp : ∀ x, d x = u x ^ m * (((m + 1 : Nat) : Rat) * (u' x * h x) + u x * h' x) := fun x => by
      rw [hd.unique ((hu'.pow m).mul hh') hph x, Rat.pow_succ]; grind
    have htp : Pol (fun x => ((m + 1 : Nat) : Rat) * (u' x * h x) + u x * h' x) := ((hu'p.mul hh).smul _).add (hup.mul hh'p)
    have hnt : ¬ Dvd u (fun x => ((m + 1 : Nat) : Rat) * (u' x * h x) + u x * h' x) := by
      intro hdv
      have h1 : Dvd u (fun x => ((m + 1 : Nat) : Rat) * (u' x * h x)) := by
        obtain ⟨q, hq, h2⟩ := hdv
        exact ⟨fun x => q x - h' x, hq.sub hh'p, fun x => by have := h2 x; grind⟩
      have h2 := Dvd.const (by intro h0; have : m + 1 = 0 := by exact_mod_cast h0
                               omega) h1
      rcases hu.2 _ _ hu'p hh h2 with h3 | h3
      · exact hu.not_dvd_der hu' h3
      · exact hnd h3
    have hpm := hup.pow m
    have hpmz := pow_nz hup hu.nz m
    -- g = u^m g1
    have hg1p : Pol (fun x => α x * (u x * h x) + β x * (((m + 1 : Nat) : Rat) * (u' x * h x) + u x * h' x)) := (hα.mul (hup.mul hh)).add (hβ.mul htp)
    have hg1 : ∀ x, g x = u x ^ m * (α x * (u x * h x) + β x * (((m + 1 : Nat) : Rat) * (u' x * h x) + u x * h' x)) := fun x => by
      rw [hb, hph, hdp, Rat.pow_succ]; grind
    generalize hG : (fun x => α x * (u x * h x) + β x * (((m + 1 : Nat) : Rat) * (u' x * h x) + u x * h' x)) = g1 at hg1p
    have hg2 : ∀ x, g x = u x ^ m * g1 x := fun x => by rw [hg1, ← hG]
    have hng : ¬ Dvd u g1 := by
      intro hdv
      obtain ⟨q, hq, h1⟩ := hdv
      obtain ⟨s, hs, h2⟩ := hgd
      refine hnt ⟨fun x => s x * q x, hs.mul hq, fun x => ?_⟩
      exact mul_cancel hpm hpmz htp ((hs.mul hq).mul hup) (fun x => by
        have e1 := h2 x
        rw [hdp, hg2, h1] at e1
        rw [e1]; grind) x
    have hkey : ∀ x, κ * (f x * g1 x) = u x * h x := fun x =>
      mul_cancel hpm hpmz ((hf.mul hg1p).smul κ) (hup.mul hh) (fun x => by
        have e1 := hfg x
        rw [hph, hg2, Rat.pow_succ] at e1
        grind) x
    refine ⟨fun _ => ?_, fun hdv => ?_⟩
    · have h1 : Dvd u (fun x => f x * g1 x) := Dvd.const hκ ⟨h, hh, fun x => by show κ * (f x * g1 x) = h x * u x; rw [hkey]; grind⟩
      rcases hu.2 _ _ hf hg1p h1 with h2 | h2
      · exact h2
      · exact absurd h2 hng
    · obtain ⟨q, hq, h1⟩ := hdv
      refine hnd ⟨fun x => κ * (q x * g1 x), (hq.mul hg1p).smul κ, fun x => ?_⟩
      exact mul_cancel hup hu.nz hh (((hq.mul hg1p).smul κ).mul hup) (fun x => by
        have e1 := hkey x
        rw [h1] at e1
        rw [← e1]; grind) x
/-- A common divisor that is not constant has a prime factor. -/
theorem prime_factor {c : Rat → Rat} {n : Nat} (hc : Deg (n + 2) c) : ∃ u, PrimeP u ∧ Dvd u c := by
  obtain ⟨k, ⟨u, hu, hd⟩, hmin⟩ := least_of (p := fun k => ∃ u, Deg (k + 2) u ∧ Dvd u c) ⟨n, c, hc, Dvd.refl⟩
  refine ⟨u, prime_of_min hu fun v j hv hvd => ?_, hd⟩
  rcases Nat.lt_or_ge j k with h | h
  · exact absurd ⟨v, hv, hvd.trans hd⟩ (hmin j h)
  · exact h
/-- The squarefree part and its derivative have no common divisor but constants. -/
theorem squarefree_coprime {p d f e g α β c : Rat → Rat} {κ : Rat} {n : Nat} (hp : Pol p) (hpz : ¬ Zero p) (hd : HasD p d) (hf : Pol f) (hg : Pol g) (hκ : κ ≠ 0) (hfg : ∀ x, p x = κ * (f x * g x)) (hgd : Dvd g d)
    (hα : Pol α) (hβ : Pol β) (hb : ∀ x, g x = α x * p x + β x * d x) (he : HasD f e) (hc : Deg (n + 2) c) (h1 : Dvd c f) (h2 : Dvd c e) : False := by
  obtain ⟨u, hu, huc⟩ := prime_factor hc
  have hs := squarefree hp hpz hd hf hg hκ hfg hgd hα hβ hb hu
  obtain ⟨a, ha, h3⟩ := huc.trans h1
  obtain ⟨b, hb2, h4⟩ := huc.trans h2
  obtain ⟨u', hu', hu'p⟩ := hu.pol.hasD
  obtain ⟨a', ha', ha'p⟩ := ha.hasD
  have h5 : ∀ x, e x = a' x * u x + a x * u' x := fun x => he.unique (ha'.mul hu') h3 x
  have h6 : Dvd u (fun x => a x * u' x) := ⟨fun x => b x - a' x, hb2.sub ha'p, fun x => by have e1 := h5 x; rw [h4] at e1; grind⟩
  rcases hu.2 _ _ ha hu'p h6 with h7 | h7
  · obtain ⟨q, hq, h8⟩ := h7
    exact hs.2 ⟨q, hq, fun x => by rw [h3, h8]; grind⟩
  · exact hu.not_dvd_der hu' h7
end Go.Proofs.YtljocgdhdilglaaGreat

namespace Go.Proofs.YtljocgdhdilglaaGreat

/-- The coefficient at a place. -/
def cz (p : List Int) (i : Nat) : Int := p[i]?.getD 0
theorem contK_dvd (p : List Int) : ∀ k i, i < k → contK p k ∣ cz p i := by
  intro k
  induction k with
  | zero => intro i hi; omega
  | succ k ih =>
    intro i hi
    unfold contK gcdZ
    rcases Nat.lt_or_ge i k with h | h
    · refine Int.dvd_trans ?_ (ih i h)
      rw [← Int.dvd_natAbs]
      exact Int.ofNat_dvd.2 (Nat.gcd_dvd_left _ _)
    · obtain rfl : i = k := by omega
      show _ ∣ cz p i
      rw [← Int.dvd_natAbs]
      exact Int.ofNat_dvd.2 (Nat.gcd_dvd_right _ _)
theorem cz_out {p : List Int} {i : Nat} (h : p.length ≤ i) : cz p i = 0 := by unfold cz; rw [List.getElem?_eq_none h]; rfl
theorem contP_dvd (p : List Int) (i : Nat) : contP p ∣ cz p i := by
  rcases Nat.lt_or_ge i p.length with h | h
  · exact contK_dvd p _ i h
  · rw [cz_out h]; exact Int.dvd_zero _
theorem contK_nonneg (p : List Int) (k : Nat) : 0 ≤ contK p k := by
  cases k with
  | zero => exact Int.le_refl _
  | succ k => unfold contK gcdZ; omega
theorem contP_nonneg (p : List Int) : 0 ≤ contP p := contK_nonneg p _
theorem dvd_contK {p : List Int} {z : Int} (h : ∀ i, z ∣ cz p i) : ∀ k, z ∣ contK p k := by
  intro k
  induction k with
  | zero => exact Int.dvd_zero _
  | succ k ih =>
    unfold contK gcdZ
    rw [← Int.natAbs_dvd]
    refine Int.ofNat_dvd.2 (Nat.dvd_gcd ?_ ?_)
    · exact Int.natAbs_dvd_natAbs.2 ih
    · exact Int.natAbs_dvd_natAbs.2 (h k)
theorem dvd_contP {p : List Int} {z : Int} (h : ∀ i, z ∣ cz p i) : z ∣ contP p := dvd_contK h _
theorem contP_eq {p q : List Int} (h : ∀ i, cz p i = cz q i) : contP p = contP q := by
  have h1 : contP p ∣ contP q := dvd_contP fun i => by rw [← h]; exact contP_dvd p i
  have h2 : contP q ∣ contP p := dvd_contP fun i => by rw [h]; exact contP_dvd q i
  have h3 := Nat.dvd_antisymm (Int.natAbs_dvd_natAbs.2 h1) (Int.natAbs_dvd_natAbs.2 h2)
  have h4 := contP_nonneg p
  have h5 := contP_nonneg q
  omega
theorem int_dvd_antisymm {a b : Int} (h1 : a ∣ b) (h2 : b ∣ a) : a.natAbs = b.natAbs := Nat.dvd_antisymm (Int.natAbs_dvd_natAbs.2 h1) (Int.natAbs_dvd_natAbs.2 h2)
theorem cz_map_mul (p : List Int) (t : Int) (i : Nat) : cz (p.map (t * ·)) i = t * cz p i := by
  unfold cz
  rw [List.getElem?_map]
  cases p[i]? <;> simp
/-- A multiple's content. -/
theorem contP_mul {p q : List Int} {t : Int} (h : ∀ i, cz q i = t * cz p i) : (contP q).natAbs = t.natAbs * (contP p).natAbs := by
  rw [← Int.natAbs_mul]
  refine int_dvd_antisymm ?_ (dvd_contP fun i => by rw [h]; exact Int.mul_dvd_mul_left _ (contP_dvd p i))
  by_cases ht : t = 0
  · subst ht; rw [Int.zero_mul]; exact Int.dvd_zero _
  · have h1 : t ∣ contP q := dvd_contP fun i => by rw [h]; exact Int.dvd_mul_right _ _
    obtain ⟨c, hc⟩ := h1
    rw [hc]
    refine Int.mul_dvd_mul_left _ (dvd_contP fun i => ?_)
    have h2 := contP_dvd q i
    rw [hc, h] at h2
    exact Int.dvd_of_mul_dvd_mul_left ht h2

/-- A prime number. -/
def PrN (l : Nat) : Prop := 1 < l ∧ ∀ m, m ∣ l → m = 1 ∨ m = l
theorem exists_prime {d : Nat} (h : d ≠ 1) : ∃ l, PrN l ∧ l ∣ d := by
  by_cases h0 : d = 0
  · subst h0
    refine ⟨2, ⟨by omega, fun m hm => ?_⟩, Nat.dvd_zero _⟩
    have := Nat.le_of_dvd (by omega) hm
    have h3 : m ≠ 0 := by rintro rfl; have := Nat.eq_zero_of_zero_dvd hm; omega
    omega
  · obtain ⟨l, ⟨h1, h2⟩, hmin⟩ := least_of (p := fun l => 1 < l ∧ l ∣ d) ⟨d, by omega, Nat.dvd_refl _⟩
    refine ⟨l, ⟨h1, fun m hm => ?_⟩, h2⟩
    have hle := Nat.le_of_dvd (by omega) hm
    by_cases hm1 : m = 1
    · exact .inl hm1
    · right
      rcases Nat.lt_or_ge m l with h3 | h3
      · refine absurd ⟨?_, Nat.dvd_trans hm h2⟩ (hmin m h3)
        have : m ≠ 0 := by rintro rfl; have := Nat.eq_zero_of_zero_dvd hm; omega
        omega
      · omega
theorem PrN.euclid {l : Nat} (h : PrN l) {a b : Nat} (hab : l ∣ a * b) : l ∣ a ∨ l ∣ b := by
  rcases h.2 (Nat.gcd l a) (Nat.gcd_dvd_left _ _) with h1 | h1
  · right
    exact Nat.Coprime.dvd_of_dvd_mul_left h1 hab
  · left
    rw [← h1]; exact Nat.gcd_dvd_right _ _
theorem PrN.euclidZ {l : Nat} (h : PrN l) {a b : Int} (hab : (l : Int) ∣ a * b) : (l : Int) ∣ a ∨ (l : Int) ∣ b := by
  have : l ∣ a.natAbs * b.natAbs := by
    rw [← Int.natAbs_mul]
    exact Int.ofNat_dvd.1 (by rw [Int.dvd_natAbs]; exact hab)
  rcases h.euclid this with h1 | h1
  · exact .inl (by rw [← Int.dvd_natAbs]; exact Int.ofNat_dvd.2 h1)
  · exact .inr (by rw [← Int.dvd_natAbs]; exact Int.ofNat_dvd.2 h1)
theorem psum_dvd {f : Nat → Int} {l : Int} {i : Nat} : ∀ n, (∀ s, s < n → s ≠ i → l ∣ f s) → i < n → l ∣ psum f n → l ∣ f i := by
  intro n
  induction n with
  | zero => intro _ hi; omega
  | succ n ih =>
    intro h hi hd
    rw [psum] at hd
    by_cases hin : i = n
    · subst hin
      have h1 : l ∣ psum f i := by
        have : ∀ k, k ≤ i → l ∣ psum f k := by
          intro k
          induction k with
          | zero => intro _; exact Int.dvd_zero _
          | succ k ihk => intro hk; rw [psum]; exact Int.dvd_add (ihk (by omega)) (h k (by omega) (by omega))
        exact this i (Nat.le_refl _)
      exact (Int.dvd_iff_dvd_of_dvd_add hd).1 h1
    · exact ih (fun s hs hsi => h s (by omega) hsi) (by omega) ((Int.dvd_iff_dvd_of_dvd_add hd).2 (h n (by omega) (by omega)))
/-- Gauss's lemma: products of primitive polynomials are primitive. -/
theorem gauss {a b : List Int} (ha : contP a = 1) (hb : contP b = 1) : contP (mulP a b) = 1 := by
  apply Classical.byContradiction
  intro hne
  have h0 := contP_nonneg (mulP a b)
  obtain ⟨l, hl, hd⟩ := exists_prime (d := (contP (mulP a b)).natAbs) (by omega)
  have hall : ∀ i, (l : Int) ∣ coP a b i := fun i => by
    rw [← mulP_getD]
    exact Int.dvd_trans (by rw [← Int.dvd_natAbs]; exact Int.ofNat_dvd.2 hd) (contP_dvd (mulP a b) i)
  have hex : ∀ p : List Int, contP p = 1 → ∃ i, ¬ (l : Int) ∣ cz p i := fun p hp => by
    apply Classical.byContradiction
    intro hno
    have : (l : Int) ∣ contP p := dvd_contP fun i => Classical.byContradiction fun h => hno ⟨i, h⟩
    rw [hp] at this
    have h1 := Int.ofNat_dvd.1 (show (l : Int) ∣ ((1 : Nat) : Int) from this)
    have := Nat.le_of_dvd (by omega) h1
    have := hl.1
    omega
  obtain ⟨i, hi, hi2⟩ := least_of (hex a ha)
  obtain ⟨j, hj, hj2⟩ := least_of (hex b hb)
  have h1 : (l : Int) ∣ a[i]?.getD 0 * b[i + j - i]?.getD 0 := by
    have h2 := hall (i + j)
    unfold coP at h2
    refine psum_dvd (f := fun s => a[s]?.getD 0 * b[i + j - s]?.getD 0) (i + j + 1) (fun s hs hsi => ?_) (by omega) h2
    rcases Nat.lt_or_ge s i with h3 | h3
    · exact Int.dvd_trans (Classical.byContradiction fun h => hi2 s h3 h) (Int.dvd_mul_right _ _)
    · exact Int.dvd_trans (Classical.byContradiction fun h => hj2 (i + j - s) (by omega) h) (Int.dvd_mul_left _ _)
  rw [show i + j - i = j by omega] at h1
  rcases hl.euclidZ h1 with h2 | h2
  · exact hi h2
  · exact hj h2
end Go.Proofs.YtljocgdhdilglaaGreat

namespace Go.Proofs.YtljocgdhdilglaaGreat

def rl (p : List Int) : List Rat := p.map (fun (a : Int) => (a : Rat))
theorem ev_rl (p : List Int) (x : Rat) : ev (rl p) x = evalQ p x := by
  induction p with
  | nil => rfl
  | cons a p ih =>
    show (a : Rat) + x * ev (rl p) x = (a : Rat) + x * evalQ p x
    rw [ih]
theorem co_rl (p : List Int) (i : Nat) : co (rl p) i = ((cz p i : Int) : Rat) := by
  unfold co rl cz
  rw [List.getElem?_map]
  cases p[i]? <;> simp
theorem ev_of_co {p q : List Rat} (h : ∀ i, co p i = co q i) (x : Rat) : ev p x = ev q x := by
  have h1 := ev_zero_of_co (p := addL p (smulL (-1) q)) (fun c hc => by
    obtain ⟨i, hi, rfl⟩ := List.getElem_of_mem hc
    have h2 := co_addL p (smulL (-1) q) i
    rw [co_smulL, h] at h2
    unfold co at h2
    rw [List.getElem?_eq_getElem hi] at h2
    have h3 : (addL p (smulL (-1) q))[i] = co q i + -1 * co q i := h2
    rw [h3]; grind) x
  rw [ev_addL, ev_smulL] at h1
  grind
theorem pf_eval (p : List Int) : PF p.length (evalQ p) := ⟨rl p, by simp [rl], fun x => (ev_rl p x).symm⟩
theorem pol_eval (p : List Int) : Pol (evalQ p) := ⟨_, pf_eval p⟩
/-- Not empty, the highest number not 0. -/
def Top (p : List Int) : Prop := 0 < p.length ∧ cz p (p.length - 1) ≠ 0
theorem end_top {p : List Int} (h : endOkP p = true) : p = [] ∨ Top p := by
  cases hp : p with
  | nil => exact .inl rfl
  | cons a l =>
    right
    rw [← hp]
    have hl : 0 < p.length := by rw [hp]; simp
    refine ⟨hl, ?_⟩
    unfold endOkP at h
    rw [List.getLast?_eq_getElem?] at h
    unfold cz
    rw [List.getElem?_eq_getElem (by omega)] at h ⊢
    simpa using h
theorem top_end {p : List Int} (h : Top p) : endOkP p = true := by
  obtain ⟨h1, h2⟩ := h
  unfold endOkP
  rw [List.getLast?_eq_getElem?]
  unfold cz at h2
  rw [List.getElem?_eq_getElem (by omega)] at h2 ⊢
  simpa using h2
theorem Top.deg {p : List Int} (h : Top p) : Deg p.length (evalQ p) := by
  refine ⟨rl p, by simp [rl], .inr ?_, fun x => (ev_rl p x).symm⟩
  rw [co_rl]
  intro h0
  have : cz p (p.length - 1) = 0 := by exact_mod_cast h0
  exact h.2 this
theorem Top.nz {p : List Int} (h : Top p) : ¬ Zero (evalQ p) := fun hz => by
  have := h.deg.unique (deg_zero hz)
  have := h.1
  omega
theorem cz_unique {p q : List Int} (h : ∀ x, evalQ p x = evalQ q x) (i : Nat) : cz p i = cz q i := by
  have := co_unique (p := rl p) (q := rl q) (fun x => by rw [ev_rl, ev_rl, h]) i
  rw [co_rl, co_rl] at this
  exact_mod_cast this
theorem trimP_top {p : List Int} (h : Top p) : trimP p = p := by
  have := trimP_take (xs := p) (k := p.length) (fun j hj => by rw [List.getElem?_eq_none hj]; rfl) (.inr h.2)
  rw [this, List.take_length]
theorem trimP_end {p : List Int} (h : endOkP p = true) : trimP p = p := by
  rcases end_top h with rfl | h
  · rfl
  · exact trimP_top h
theorem eq_of_cz {p q : List Int} (hp : endOkP p = true) (hq : endOkP q = true) (h : ∀ i, cz p i = cz q i) : p = q := by
  rw [← trimP_end hp, ← trimP_end hq]
  exact trimP_ext h
theorem evalQ_scale {p q : List Int} {t : Int} (h : ∀ i, cz q i = t * cz p i) (x : Rat) : evalQ q x = t * evalQ p x := by
  rw [← ev_rl, ← ev_rl, ← ev_smulL]
  refine ev_of_co (fun i => ?_) x
  rw [co_smulL, co_rl, co_rl, h, Rat.intCast_mul]

theorem signP_abs (p : List Int) : (signP p).natAbs = (contP p).natAbs := by unfold signP; split <;> simp
theorem signP_dvd (p : List Int) (i : Nat) : signP p ∣ cz p i := by
  rw [← Int.natAbs_dvd, signP_abs, Int.natAbs_dvd]
  exact contP_dvd p i
theorem cz_part (p : List Int) (i : Nat) : cz (partP p) i = Int.fdiv (cz p i) (signP p) := by
  unfold partP cz
  rw [List.getElem?_map]
  cases p[i]? <;> simp
theorem cz_part_mul (p : List Int) (i : Nat) : cz p i = signP p * cz (partP p) i := by
  rw [cz_part, Int.fdiv_eq_ediv_of_dvd (signP_dvd p i), Int.mul_ediv_cancel' (signP_dvd p i)]
theorem eval_part (p : List Int) (x : Rat) : evalQ p x = (signP p : Int) * evalQ (partP p) x := evalQ_scale (cz_part_mul p) x
theorem part_length (p : List Int) : (partP p).length = p.length := by simp [partP]
/-- Primitive, the highest number greater than 0. -/
def Prim (p : List Int) : Prop := contP p = 1 ∧ 0 < p.length ∧ 0 < cz p (p.length - 1)
theorem Prim.top {p : List Int} (h : Prim p) : Top p := ⟨h.2.1, by have := h.2.2; omega⟩
theorem Top.sign {p : List Int} (h : Top p) : signP p ≠ 0 := by
  have h1 : contP p ≠ 0 := fun h0 => h.2 (contP_zero h0 _)
  have := signP_abs p
  omega
theorem Top.part {p : List Int} (h : Top p) : Prim (partP p) := by
  have hs := h.sign
  have h1 := contP_mul (p := partP p) (q := p) (cz_part_mul p)
  have h2 := contP_nonneg (partP p)
  have h3 : (contP (partP p)).natAbs = 1 := by
    rw [signP_abs] at h1
    have h4 : 0 < (contP p).natAbs := by have := signP_abs p; omega
    have h5 : (contP p).natAbs * (contP (partP p)).natAbs = (contP p).natAbs * 1 := by omega
    exact Nat.eq_of_mul_eq_mul_left h4 h5
  refine ⟨by omega, by rw [part_length]; exact h.1, ?_⟩
  rw [part_length]
  have h6 := cz_part_mul p (p.length - 1)
  have h7 := contP_nonneg p
  have h8 := h.2
  have h9 : contP p ≠ 0 := fun h0 => h.2 (contP_zero h0 _)
  rw [h6] at h8
  have hne : cz (partP p) (p.length - 1) ≠ 0 := fun h0 => h8 (by rw [h0]; simp)
  by_cases hneg : cz p (p.length - 1) < 0
  · have hsg : signP p = -contP p := by unfold signP; exact if_pos hneg
    rw [hsg] at h6
    rcases Int.lt_or_gt_of_ne hne with h10 | h10
    · have : 0 < contP p * -cz (partP p) (p.length - 1) := Int.mul_pos (by omega) (by omega)
      rw [h6] at hneg
      have e : -contP p * cz (partP p) (p.length - 1) = contP p * -cz (partP p) (p.length - 1) := by simp [Int.neg_mul, Int.mul_neg]
      omega
    · exact h10
  · have hsg : signP p = contP p := by unfold signP; exact if_neg hneg
    rw [hsg] at h6
    rcases Int.lt_or_gt_of_ne hne with h10 | h10
    · have : 0 < contP p * -cz (partP p) (p.length - 1) := Int.mul_pos (by omega) (by omega)
      have e : contP p * -cz (partP p) (p.length - 1) = -(contP p * cz (partP p) (p.length - 1)) := by simp [Int.mul_neg]
      omega
    · exact h10
/-- Primitive polynomials that differ by a factor are equal. -/
theorem prim_unique {a b : List Int} (ha : Prim a) (hb : Prim b) {κ : Rat} (h : ∀ x, evalQ a x = κ * evalQ b x) : a = b := by
  have hcz : ∀ i, (κ.den : Int) * cz a i = κ.num * cz b i := fun i => by
    have h1 := co_unique (p := smulL (κ.den : Nat) (rl a)) (q := smulL (κ.num : Int) (rl b)) (fun x => by
      rw [ev_smulL, ev_smulL, ev_rl, ev_rl, h]
      have e0 : ((κ.num : Int) : Rat) / ((κ.den : Nat) : Rat) = κ := by have := Rat.num_divInt_den κ; rw [Rat.divInt_eq_div, Rat.intCast_natCast] at this; exact this
      have e1 : ((κ.den : Nat) : Rat) ≠ 0 := by
        intro h0
        have : κ.den = 0 := by exact_mod_cast h0
        exact κ.den_nz this
      have e2 : ((κ.den : Nat) : Rat) * κ = ((κ.num : Int) : Rat) := by
        generalize ((κ.num : Int) : Rat) = N at *
        generalize ((κ.den : Nat) : Rat) = D at *
        grind
      rw [← e2]; grind) i
    rw [co_smulL, co_smulL, co_rl, co_rl] at h1
    exact_mod_cast h1
  have e1 := contP_mul (p := a) (q := a.map ((κ.den : Int) * ·)) (t := κ.den) (fun i => cz_map_mul a _ i)
  have e2 := contP_mul (p := b) (q := a.map ((κ.den : Int) * ·)) (t := κ.num) (fun i => by rw [cz_map_mul, hcz])
  rw [ha.1] at e1
  rw [hb.1, e1] at e2
  simp at e2
  have hden : κ.den = 1 := by
    have := κ.reduced
    unfold Nat.Coprime at this
    rw [← e2, Nat.gcd_self] at this
    exact this
  rw [hden] at hcz e2
  have hlen : a.length = b.length := by
    have k1 := ha.top.deg
    have k2 := hb.top.deg
    have hκ : κ ≠ 0 := by
      intro h0
      exact ha.top.nz (fun x => by rw [h, h0]; grind)
    have k3 : Deg b.length (evalQ a) := by
      obtain ⟨l, l1, l2, l3⟩ := k2
      refine ⟨smulL κ l, by rw [smulL_length]; exact l1, ?_, fun x => by rw [ev_smulL, h, l3]⟩
      rcases l2 with l2 | l2
      · exact .inl l2
      · right
        rw [co_smulL]
        intro h0
        rcases Rat.mul_eq_zero.1 h0 with h1 | h1
        · exact hκ h1
        · exact l2 h1
    exact k1.unique k3
  have hnum : κ.num = 1 := by
    have k1 := hcz (a.length - 1)
    have k2 := ha.2.2
    have k3 := hb.2.2
    rw [← hlen] at k3
    have k4 : κ.num = 1 ∨ κ.num = -1 := by omega
    rcases k4 with k4 | k4
    · exact k4
    · rw [k4] at k1
      simp at k1
      omega
  refine eq_of_cz (top_end ha.top) (top_end hb.top) fun i => ?_
  have := hcz i
  rw [hnum] at this
  simpa using this

def shiftL (n : Nat) (l : List Rat) : List Rat := List.replicate n 0 ++ l
theorem ev_shiftL (n : Nat) (l : List Rat) (x : Rat) : ev (shiftL n l) x = x ^ n * ev l x := by
  induction n with
  | zero => rw [Rat.pow_zero]; simp [shiftL]
  | succ n ih =>
    have e : shiftL (n + 1) l = 0 :: shiftL n l := by simp [shiftL, List.replicate_succ]
    rw [e, ev, ih, Rat.pow_succ]; grind
theorem co_shiftL (n : Nat) (l : List Rat) (i : Nat) : co (shiftL n l) i = if n ≤ i then co l (i - n) else 0 := by
  unfold co shiftL
  by_cases h : n ≤ i
  · rw [if_pos h, List.getElem?_append_right (by simpa using h)]; simp
  · rw [if_neg h, List.getElem?_append_left (by simp; omega), List.getElem?_replicate, if_pos (by omega)]; rfl
/-- One step of the division: what it keeps. -/
theorem step_eval {Q T q : List Int} (hq : 0 < q.length) (hT : q.length ≤ T.length) (hn : T.length - q.length < Q.length) (x : Rat) :
    evalQ (stepQ Q T q) x * evalQ q x + evalQ (stepR T q) x = ((q[q.length - 1]?.getD 0 : Int) : Rat) * (evalQ Q x * evalQ q x + evalQ T x) := by
  obtain ⟨la, hla⟩ : ∃ z : Int, q[q.length - 1]?.getD 0 = z := ⟨_, rfl⟩
  obtain ⟨le, hle⟩ : ∃ z : Int, T[T.length - 1]?.getD 0 = z := ⟨_, rfl⟩
  have h1 : evalQ (stepQ Q T q) x = (la : Rat) * evalQ Q x + x ^ (T.length - q.length) * le := by
    rw [← ev_rl, ← ev_rl, ← ev_smulL, show x ^ (T.length - q.length) * (le : Rat) = ev (shiftL (T.length - q.length) [(le : Rat)]) x by rw [ev_shiftL]; simp only [ev]; grind, ← ev_addL]
    refine ev_of_co (fun i => ?_) x
    rw [co_addL, co_smulL, co_shiftL, co_rl, co_rl]
    unfold cz
    rw [stepQ_get, hla, hle]
    by_cases hi : i = T.length - q.length
    · rw [if_pos ⟨hi, by omega⟩, if_pos (by omega), hi, Nat.sub_self, co_cons_zero, Rat.intCast_add, Rat.intCast_mul]; grind
    · rw [if_neg (fun h => hi h.1), Rat.intCast_mul]
      by_cases hi2 : T.length - q.length ≤ i
      · rw [if_pos hi2, co_out (by simp; omega)]; grind
      · rw [if_neg hi2]; grind
  have h2 : evalQ (stepR T q) x = (la : Rat) * evalQ T x + (-(le : Rat)) * (x ^ (T.length - q.length) * evalQ q x) := by
    rw [← ev_rl, ← ev_rl, ← ev_rl, ← ev_smulL, ← ev_shiftL, ← ev_smulL, ← ev_addL]
    refine ev_of_co (fun i => ?_) x
    rw [co_addL, co_smulL, co_smulL, co_shiftL, co_rl, co_rl]
    rcases Nat.lt_or_ge i T.length with hi | hi
    · unfold cz
      rw [stepR_get hi, hla, hle, Rat.intCast_sub, Rat.intCast_mul]
      by_cases hi2 : T.length - q.length ≤ i
      · rw [if_pos hi2, if_pos hi2, co_rl, Rat.intCast_mul]
        unfold cz
        grind
      · rw [if_neg hi2, if_neg hi2]
        simp only [Rat.intCast_zero]
        grind
    · rw [cz_out (by rw [stepR_len]; exact hi), cz_out hi, if_pos (by omega), co_rl, cz_out (by omega)]
      simp only [Rat.intCast_zero]
      grind
  rw [h1, h2, hla]; grind
theorem cz_byG (l : List Int) (g : Int) (i : Nat) : cz (byG l g) i = Int.fdiv (cz l i) g := byG_get l g i
theorem byG_eval {l : List Int} {g : Int} (h : ∀ i, g ∣ cz l i) (x : Rat) : evalQ l x = (g : Rat) * evalQ (byG l g) x :=
  evalQ_scale (fun i => by rw [cz_byG, Int.fdiv_eq_ediv_of_dvd (h i), Int.mul_ediv_cancel' (h i)]) x
theorem stepG_dvd (Q T q : List Int) (i : Nat) : stepG Q T q ∣ cz (stepQ Q T q) i ∧ stepG Q T q ∣ cz (stepR T q) i := by
  unfold stepG gcdZ
  constructor
  · refine Int.dvd_trans ?_ (contP_dvd _ i)
    rw [← Int.dvd_natAbs]; exact Int.ofNat_dvd.2 (Nat.gcd_dvd_right _ _)
  · refine Int.dvd_trans ?_ (contP_dvd _ i)
    rw [← Int.dvd_natAbs]; exact Int.ofNat_dvd.2 (Nat.gcd_dvd_left _ _)
theorem divK_eval {q : List Int} (hq : Top q) : ∀ k Q R, okDiv q k Q R = true → zeroQ q Q R → (trimP R).length + 1 ≤ Q.length + q.length →
    ∃ c : Rat, c ≠ 0 ∧ ∀ x, evalQ (divK q k Q R).1 x * evalQ q x + evalQ (divK q k Q R).2 x = c * (evalQ Q x * evalQ q x + evalQ R x) := by
  intro k
  induction k with
  | zero =>
    intro Q R _ _ _
    refine ⟨1, by decide, fun x => ?_⟩
    show evalQ Q x * evalQ q x + evalQ (trimP R) x = _
    rw [evalQ_trim]; grind
  | succ k ih =>
    intro Q R hok hz hl
    by_cases hlt : (trimP R).length < q.length
    · rw [divK_stop hlt]
      refine ⟨1, by decide, fun x => ?_⟩
      show evalQ Q x * evalQ q x + evalQ (trimP R) x = _
      rw [evalQ_trim]; grind
    · obtain ⟨j, hj, hd, hok2⟩ := okDiv_more hok hlt
      obtain rfl : j = k := by omega
      have hle : q.length ≤ (trimP R).length := by omega
      have hn : (trimP R).length - q.length < Q.length := by have := hq.1; omega
      have hg := stepG_ne hz hq.1 hle hn
      have hz2 := zeroQ_step hq.1 hz hle
      have hshort : (trimP (byG (stepR (trimP R) q) (stepG Q (trimP R) q))).length ≤ (trimP R).length := by
        have := trimP_short (byG (stepR (trimP R) q) (stepG Q (trimP R) q))
        rw [byG_len, stepR_len] at this
        exact this
      obtain ⟨c, hc, h1⟩ := ih _ _ hok2 hz2 (by rw [byG_len, stepQ_len]; omega)
      have hla : ((q[q.length - 1]?.getD 0 : Int) : Rat) ≠ 0 := by
        intro h0
        have : q[q.length - 1]?.getD 0 = 0 := by exact_mod_cast h0
        exact hq.2 this
      have hgR : ((stepG Q (trimP R) q : Int) : Rat) ≠ 0 := by
        intro h0
        exact hg (by exact_mod_cast h0)
      rw [hd]
      refine ⟨c * (((q[q.length - 1]?.getD 0 : Int) : Rat) / (stepG Q (trimP R) q : Int)), ?_, fun x => ?_⟩
      · intro h0
        rcases Rat.mul_eq_zero.1 h0 with h2 | h2
        · exact hc h2
        · rw [Rat.div_def] at h2
          rcases Rat.mul_eq_zero.1 h2 with h3 | h3
          · exact hla h3
          · exact hgR (by grind)
      · rw [h1]
        have e1 := step_eval hq.1 hle hn x
        rw [byG_eval (fun i => (stepG_dvd Q (trimP R) q i).1) x, byG_eval (fun i => (stepG_dvd Q (trimP R) q i).2) x, evalQ_trim] at e1
        generalize ((stepG Q (trimP R) q : Int) : Rat) = G at *
        generalize ((q[q.length - 1]?.getD 0 : Int) : Rat) = la at *
        generalize evalQ (byG (stepQ Q (trimP R) q) (stepG Q (trimP R) q)) x = A at *
        generalize evalQ (byG (stepR (trimP R) q) (stepG Q (trimP R) q)) x = B at *
        have e2 : A * evalQ q x + B = la / G * (evalQ Q x * evalQ q x + evalQ R x) := by grind
        rw [e2]; grind
theorem zeros_eval (n : Nat) (x : Rat) : evalQ (List.replicate n 0) x = 0 := by
  rw [← ev_rl]
  refine ev_zero_of_co (fun c hc => ?_) x
  unfold rl at hc
  obtain ⟨a, ha, rfl⟩ := List.mem_map.1 hc
  rw [(List.mem_replicate.1 ha).2]; rfl
theorem divP_eval {p q : List Int} (h : okDivP p q = true) : Top q ∧ (∃ c : Rat, c ≠ 0 ∧ ∀ x, evalQ (divP p q).1 x * evalQ q x + evalQ (divP p q).2 x = c * evalQ p x) ∧ (divP p q).2.length < q.length ∧ endOkP (divP p q).2 = true := by
  have h2 := divP_two h
  simp only [okDivP, Bool.and_eq_true, decide_eq_true_eq] at h
  obtain ⟨⟨⟨h3, h4⟩, h5⟩, h6⟩ := h
  have hq : Top q := ⟨h4, h5⟩
  refine ⟨hq, ?_, h2.1, ?_⟩
  · obtain ⟨c, hc, h7⟩ := divK_eval hq _ _ _ h6 (fun j _ => by rw [List.getElem?_replicate]; split <;> rfl) (by rw [List.length_replicate]; have := trimP_short p; omega)
    refine ⟨c, hc, fun x => ?_⟩
    have h8 := h7 x
    rw [zeros_eval] at h8
    rw [show (divP p q) = divK q p.length (List.replicate (p.length + 1 - q.length) 0) p from rfl, h8]; grind
  · obtain ⟨_, r, hr⟩ := divK_two q _ _ _ h6
    have e : (divP p q).2 = trimP r := hr
    rw [e]; exact endOkP_trim r
end Go.Proofs.YtljocgdhdilglaaGreat

namespace Go.Proofs.YtljocgdhdilglaaGreat

def PrimE (p : List Int) : Prop := Prim p ∨ p = []
theorem part_nil : partP [] = [] := rfl
theorem part_primE {p : List Int} (h : endOkP p = true) : PrimE (partP p) := by
  rcases end_top h with rfl | h
  · exact .inr rfl
  · exact .inl h.part
theorem nil_eval (x : Rat) : evalQ [] x = 0 := rfl
/-- What 'comK' hands back divides both, and is a sum of multiples of both. -/
structure IsGcd (g : List Int) (P Q : Rat → Rat) : Prop where
  sum : ∃ u v, Pol u ∧ Pol v ∧ ∀ x, evalQ g x = u x * P x + v x * Q x
  left : Dvd (evalQ g) P
  right : Dvd (evalQ g) Q
theorem comK_spec : ∀ k p q, okCom k p q = true → PrimE p → PrimE q → IsGcd (comK k p q) (evalQ p) (evalQ q) ∧ PrimE (comK k p q) := by
  intro k
  induction k with
  | zero =>
    intro p q h hp hq
    obtain rfl : q = [] := by simpa [okCom] using h
    exact ⟨⟨⟨fun _ => 1, fun _ => 0, Pol.const 1, Pol.const 0, fun x => by show evalQ p x = _; grind⟩, Dvd.refl, Dvd.zero nil_eval⟩, hp⟩
  | succ k ih =>
    intro p q h hp hq
    by_cases hqe : q = []
    · subst hqe
      have e : comK (k + 1) p [] = p := by unfold comK; rw [if_pos rfl]
      rw [e]
      exact ⟨⟨⟨fun _ => 1, fun _ => 0, Pol.const 1, Pol.const 0, fun x => by show evalQ p x = _; grind⟩, Dvd.refl, Dvd.zero nil_eval⟩, hp⟩
    · unfold okCom at h
      rw [if_neg hqe, Bool.and_eq_true] at h
      have e : comK (k + 1) p q = comK k q (partP (divP p q).2) := by rw [comK, if_neg hqe]
      rw [e]
      obtain ⟨hqt, ⟨c, hc, h1⟩, -, h3⟩ := divP_eval h.1
      obtain ⟨⟨⟨u, v, hu, hv, hg⟩, h4, h5⟩, h6⟩ := ih q (partP (divP p q).2) h.2 hq (part_primE h3)
      have hs := eval_part (divP p q).2
      obtain ⟨s, hs0⟩ : ∃ s : Rat, ((signP (divP p q).2 : Int) : Rat) = s := ⟨_, rfl⟩
      rw [hs0] at hs
      generalize comK k q (partP (divP p q).2) = g at *
      have hA := pol_eval (divP p q).1
      have hr : Dvd (evalQ g) (evalQ (divP p q).2) := (h5.mul (Pol.const s)).congr hs
      refine ⟨⟨?_, ?_, h4⟩, h6⟩
      · by_cases hz : s = 0
        · have hz2 : ∀ x, evalQ (partP (divP p q).2) x = 0 := by
            rcases end_top h3 with h7 | h7
            · rw [h7]; exact fun x => rfl
            · exfalso
              have := h7.sign
              rw [hz] at hs0
              exact this (by exact_mod_cast hs0)
          exact ⟨fun _ => 0, u, Pol.const 0, hu, fun x => by rw [hg, hz2]; grind⟩
        · refine ⟨fun x => (s⁻¹ * c) * v x, fun x => u x - s⁻¹ * (v x * evalQ (divP p q).1 x), hv.smul _, hu.sub ((hv.mul hA).smul _), fun x => ?_⟩
          have e1 := h1 x
          rw [hs x] at e1
          rw [hg]
          generalize evalQ (partP (divP p q).2) x = R at *
          have e2 : R = s⁻¹ * (c * evalQ p x - evalQ (divP p q).1 x * evalQ q x) := by grind
          rw [e2]; grind
      · refine Dvd.const hc (((h4.mul hA).add hr).congr fun x => ?_)
        rw [← h1 x]
theorem comP_spec {p q : List Int} (hp : endOkP p = true) (hq : endOkP q = true) (hok : okCom ((partP q).length + 1) (partP p) (partP q) = true) : IsGcd (comP p q) (evalQ p) (evalQ q) ∧ PrimE (comP p q) := by
  obtain ⟨⟨⟨u, v, hu, hv, hg⟩, h1, h2⟩, h3⟩ := comK_spec _ _ _ hok (part_primE hp) (part_primE hq)
  have key : ∀ y : List Int, endOkP y = true → ∃ t : Rat, ∀ x, evalQ (partP y) x = t * evalQ y x := by
    intro y hy
    rcases end_top hy with rfl | hy
    · exact ⟨1, fun x => by rw [part_nil, nil_eval]; grind⟩
    · have h4 : ((signP y : Int) : Rat) ≠ 0 := by
        intro h0
        exact hy.sign (by exact_mod_cast h0)
      refine ⟨((signP y : Int) : Rat)⁻¹, fun x => ?_⟩
      rw [eval_part y x]
      generalize ((signP y : Int) : Rat) = s at *
      grind
  obtain ⟨s, hs⟩ := key p hp
  obtain ⟨t, ht⟩ := key q hq
  refine ⟨⟨⟨fun x => s * u x, fun x => t * v x, hu.smul _, hv.smul _, fun x => ?_⟩, (h1.mul (Pol.const _)).congr (eval_part p), (h2.mul (Pol.const _)).congr (eval_part q)⟩, h3⟩
  show evalQ (comK _ _ _) x = _
  rw [hg, hs, ht]; grind
theorem comP_prim {p q : List Int} (hp : Top p) (hq : endOkP q = true) (hok : okCom ((partP q).length + 1) (partP p) (partP q) = true) : Prim (comP p q) := by
  obtain ⟨h1, h2⟩ := comP_spec (top_end hp) hq hok
  rcases h2 with h2 | h2
  · exact h2
  · exfalso
    obtain ⟨k, _, hk⟩ := h1.left
    refine hp.nz (fun x => ?_)
    rw [hk, h2, nil_eval]; grind
theorem comP_prim_right {p q : List Int} (hp : endOkP p = true) (hq : Top q) (hok : okCom ((partP q).length + 1) (partP p) (partP q) = true) : Prim (comP p q) := by
  obtain ⟨h1, h2⟩ := comP_spec hp (top_end hq) hok
  rcases h2 with h2 | h2
  · exact h2
  · exfalso
    obtain ⟨k, _, hk⟩ := h1.right
    refine hq.nz (fun x => ?_)
    rw [hk, h2, nil_eval]; grind
theorem der_length (p : List Int) : (derP p).length = p.length - 1 := by simp [derP]
theorem cz_der (p : List Int) (i : Nat) : cz (derP p) i = cz p (i + 1) * ((i + 1 : Nat) : Int) := derP_getD p i
theorem der_end {p : List Int} (h : Top p) : endOkP (derP p) = true := by
  rcases Nat.lt_or_ge 1 p.length with h1 | h1
  · refine top_end ⟨by rw [der_length]; omega, ?_⟩
    rw [der_length, cz_der, show p.length - 1 - 1 + 1 = p.length - 1 by omega]
    intro h0
    rcases Int.mul_eq_zero.1 h0 with h2 | h2
    · exact h.2 h2
    · omega
  · have : derP p = [] := List.eq_nil_of_length_eq_zero (by rw [der_length]; omega)
    rw [this]; rfl
theorem der_hasD (p : List Int) : HasD (evalQ p) (evalQ (derP p)) := by
  refine ⟨rl p, fun x => (ev_rl p x).symm, fun x => ?_⟩
  rw [← ev_derL, ← ev_rl]
  refine ev_of_co (fun i => ?_) x
  rw [co_rl, co_derL, co_rl, cz_der, Rat.intCast_mul, Rat.intCast_natCast]
  grind
/-- A rest that the divisor divides is nothing. -/
theorem rest_nil {p q : List Int} (h : okDivP p q = true) (hd : Dvd (evalQ q) (evalQ p)) : (divP p q).2 = [] := by
  obtain ⟨hq, ⟨c, hc, h1⟩, h2, h3⟩ := divP_eval h
  rcases end_top h3 with h4 | h4
  · exact h4
  · exfalso
    have h5 : Dvd (evalQ q) (evalQ (divP p q).2) := by
      obtain ⟨k, hk, h6⟩ := hd
      refine ⟨fun x => c * k x - evalQ (divP p q).1 x, (hk.smul c).sub (pol_eval _), fun x => ?_⟩
      have := h1 x
      rw [h6] at this
      grind
    have := h5.deg_le hq.deg h4.deg h4.nz
    omega
/-- What the squarefree part is. -/
theorem freeP_spec {p : List Int} (hp : Top p) (hok : okCom ((partP (derP p)).length + 1) (partP p) (partP (derP p)) = true) (hok2 : okDivP p (comP p (derP p)) = true) :
    Prim (freeP p) ∧ ∃ κ : Rat, κ ≠ 0 ∧ ∀ x, evalQ p x = κ * (evalQ (freeP p) x * evalQ (comP p (derP p)) x) := by
  obtain ⟨h1, -⟩ := comP_spec (top_end hp) (der_end hp) hok
  obtain ⟨hg, ⟨c, hc, h2⟩, -, -⟩ := divP_eval hok2
  have hr := rest_nil hok2 h1.left
  rw [hr] at h2
  have h3 : ∀ x, c * evalQ p x = evalQ (trimP (divP p (comP p (derP p))).1) x * evalQ (comP p (derP p)) x := fun x => by
    rw [evalQ_trim, ← h2 x, nil_eval]; grind
  have ht : Top (trimP (divP p (comP p (derP p))).1) := by
    rcases end_top (endOkP_trim (divP p (comP p (derP p))).1) with h4 | h4
    · exfalso
      refine hp.nz (fun x => ?_)
      have := h3 x
      rw [h4, nil_eval] at this
      grind
    · exact h4
  refine ⟨ht.part, ((signP (trimP (divP p (comP p (derP p))).1) : Int) : Rat) / c, ?_, fun x => ?_⟩
  · intro h0
    rw [Rat.div_def] at h0
    rcases Rat.mul_eq_zero.1 h0 with h4 | h4
    · exact ht.sign (by exact_mod_cast h4)
    · exact hc (by grind)
  · have h4 := h3 x
    rw [eval_part (trimP (divP p (comP p (derP p))).1)] at h4
    show evalQ p x = _ * (evalQ (partP (trimP (divP p (comP p (derP p))).1)) x * _)
    generalize ((signP (trimP (divP p (comP p (derP p))).1) : Int) : Rat) = s at *
    have e : evalQ p x = c⁻¹ * (c * evalQ p x) := by rw [← Rat.mul_assoc, Rat.inv_mul_cancel c hc]; grind
    rw [e, h4, Rat.div_def]; grind
/-- The squarefree part has the same roots. -/
theorem free_roots {p : List Int} (hp : Top p) (hok : okCom ((partP (derP p)).length + 1) (partP p) (partP (derP p)) = true) (hok2 : okDivP p (comP p (derP p)) = true) (r : Rat) : evalQ p r = 0 ↔ evalQ (freeP p) r = 0 := by
  obtain ⟨hf, κ, hκ, h1⟩ := freeP_spec hp hok hok2
  obtain ⟨h2, -⟩ := comP_spec (top_end hp) (der_end hp) hok
  obtain ⟨u, v, hu, hv, hg⟩ := h2.sum
  constructor
  · intro h
    have := (squarefree (pol_eval p) hp.nz (der_hasD p) (pol_eval (freeP p)) (pol_eval _) hκ h1 h2.right hu hv hg (prime_lin r)).1 ((pol_eval p).root h)
    exact this.root
  · intro h
    rw [h1, h]; grind
theorem prim_one {c : List Int} (h : Prim c) (h1 : c.length = 1) : c = [1] := by
  match c, h1 with
  | [z], _ =>
    have h2 := h.1
    have h3 := h.2.2
    have h4 : cz [z] ([z].length - 1) = z := rfl
    rw [h4] at h3
    have h5 : contP [z] = (Nat.gcd 0 z.natAbs : Nat) := rfl
    rw [h5, Nat.gcd_zero_left] at h2
    have : z = 1 := by omega
    rw [this]
/-- The squarefree part has no divisor in common with its derivative. -/
theorem free_coprime {p : List Int} (hp : Top p) (hok : okCom ((partP (derP p)).length + 1) (partP p) (partP (derP p)) = true) (hok2 : okDivP p (comP p (derP p)) = true)
    (hok3 : okCom ((partP (derP (freeP p))).length + 1) (partP (freeP p)) (partP (derP (freeP p))) = true) : comP (freeP p) (derP (freeP p)) = [1] := by
  obtain ⟨hf, κ, hκ, h1⟩ := freeP_spec hp hok hok2
  obtain ⟨h2, -⟩ := comP_spec (top_end hp) (der_end hp) hok
  obtain ⟨u, v, hu, hv, hg⟩ := h2.sum
  have hc := comP_prim hf.top (der_end hf.top) hok3
  obtain ⟨h3, -⟩ := comP_spec (top_end hf.top) (der_end hf.top) hok3
  refine prim_one hc ?_
  obtain ⟨n, hn⟩ : ∃ n, (comP (freeP p) (derP (freeP p))).length = n + 1 := ⟨(comP (freeP p) (derP (freeP p))).length - 1, by have := hc.2.1; omega⟩
  cases n with
  | zero => exact hn
  | succ n =>
    exfalso
    have hd := hc.top.deg
    rw [hn] at hd
    exact squarefree_coprime (pol_eval p) hp.nz (der_hasD p) (pol_eval (freeP p)) (pol_eval _) hκ h1 h2.right hu hv hg (der_hasD (freeP p)) hd h3.left h3.right
/-- A common divisor divides the greatest one. -/
theorem IsGcd.greatest {g : List Int} {P Q d : Rat → Rat} (h : IsGcd g P Q) (h1 : Dvd d P) (h2 : Dvd d Q) : Dvd d (evalQ g) := by
  obtain ⟨u, v, hu, hv, hg⟩ := h.sum
  exact ((h1.mul hu).add (h2.mul hv)).congr hg
/-- Divisors of each other differ by a factor. -/
theorem dvd_both {f g : Rat → Rat} {n m : Nat} (hf : Deg (n + 1) f) (hg : Deg (m + 1) g) (h1 : Dvd f g) (h2 : Dvd g f) : ∃ κ : Rat, ∀ x, g x = κ * f x := by
  have hfz : ¬ Zero f := fun hz => by have := hf.unique (deg_zero hz); omega
  have hgz : ¬ Zero g := fun hz => by have := hg.unique (deg_zero hz); omega
  have e1 := h1.deg_le hf hg hgz
  have e2 := h2.deg_le hg hf hfz
  obtain ⟨q, hq, h3⟩ := h1
  obtain ⟨j, hj⟩ := hq.deg
  cases j with
  | zero => exact absurd (fun x => by rw [h3, hj.zero]; grind) hgz
  | succ j =>
    have h4 := ((hj.mul hf).congr h3).unique hg
    obtain rfl : j = 0 := by omega
    obtain ⟨c, -, hc⟩ := deg_one hj
    exact ⟨c, fun x => by rw [h3, hc]⟩
/-- Primitive polynomials that divide each other are equal. -/
theorem prim_dvd_eq {a b : List Int} (ha : Prim a) (hb : Prim b) (h1 : Dvd (evalQ a) (evalQ b)) (h2 : Dvd (evalQ b) (evalQ a)) : a = b := by
  have k1 := ha.top.deg
  have k2 := hb.top.deg
  obtain ⟨n, hn⟩ : ∃ n, a.length = n + 1 := ⟨a.length - 1, by have := ha.2.1; omega⟩
  obtain ⟨m, hm⟩ : ∃ m, b.length = m + 1 := ⟨b.length - 1, by have := hb.2.1; omega⟩
  rw [hn] at k1
  rw [hm] at k2
  obtain ⟨κ, hκ⟩ := dvd_both k2 k1 h2 h1
  exact prim_unique ha hb hκ
end Go.Proofs.YtljocgdhdilglaaGreat

namespace Go.Proofs.YtljocgdhdilglaaGreat

def evZ : List Int → Int → Int
  | [], _ => 0
  | a :: l, k => a + k * evZ l k
theorem evalQ_int (p : List Int) (k : Int) : evalQ p (k : Rat) = (evZ p k : Int) := by
  induction p with
  | nil => rfl
  | cons a p ih =>
    show (a : Rat) + (k : Rat) * evalQ p k = ((a + k * evZ p k : Int) : Rat)
    rw [ih, Rat.intCast_add, Rat.intCast_mul]
theorem evZ_le {p : List Int} {k : Int} {M R : Nat} (hk : k.natAbs ≤ R) (hR : 1 ≤ R) (hp : ∀ i, (cz p i).natAbs ≤ M) : (evZ p k).natAbs ≤ p.length * (M * R ^ p.length) := by
  induction p with
  | nil => simp [evZ]
  | cons a p ih =>
    have h1 := ih (fun i => by have := hp (i + 1); unfold cz at this ⊢; simpa using this)
    have h2 : a.natAbs ≤ M := hp 0
    have h3 : (k * evZ p k).natAbs ≤ p.length * (M * R ^ (p.length + 1)) := by
      rw [Int.natAbs_mul, Nat.pow_succ]
      calc k.natAbs * (evZ p k).natAbs ≤ R * (p.length * (M * R ^ p.length)) := Nat.mul_le_mul hk h1
        _ = p.length * (M * (R ^ p.length * R)) := by rw [Nat.mul_comm R]; simp only [Nat.mul_assoc]
    have h4 : M ≤ M * R ^ (p.length + 1) := Nat.le_mul_of_pos_right _ (Nat.pow_pos hR)
    simp only [List.length_cons, evZ]
    rw [Nat.succ_mul]
    omega
def synZ (r : Int) : List Int → List Int
  | [] => []
  | [_] => []
  | _ :: b :: l => evZ (b :: l) r :: synZ r (b :: l)
theorem synZ_length (r : Int) (p : List Int) : (synZ r p).length = p.length - 1 := by
  match p with
  | [] => rfl
  | [a] => rfl
  | a :: b :: l =>
    have := synZ_length r (b :: l)
    simp only [synZ, List.length_cons] at this ⊢
    omega
theorem synZ_ev (r : Int) (p : List Int) (k : Int) : evZ p k = (k - r) * evZ (synZ r p) k + evZ p r := by
  match p with
  | [] => simp [synZ, evZ]
  | [a] => simp [synZ, evZ]
  | a :: b :: l =>
    have h := synZ_ev r (b :: l) k
    show a + k * evZ (b :: l) k = (k - r) * (evZ (b :: l) r + k * evZ (synZ r (b :: l)) k) + (a + r * evZ (b :: l) r)
    generalize evZ (b :: l) k = A at *
    generalize evZ (b :: l) r = B at *
    generalize evZ (synZ r (b :: l)) k = C at *
    rw [h]
    grind
theorem cz_cons_zero (a : Int) (l : List Int) : cz (a :: l) 0 = a := rfl
theorem cz_cons_succ (a : Int) (l : List Int) (i : Nat) : cz (a :: l) (i + 1) = cz l i := by simp [cz]
theorem synZ_cz (r : Int) (p : List Int) (i : Nat) : cz p i = (if i = 0 then evZ p r else cz (synZ r p) (i - 1)) - r * cz (synZ r p) i := by
  match p with
  | [] => cases i <;> simp [synZ, evZ, cz]
  | [a] => cases i <;> simp [synZ, evZ, cz]
  | a :: b :: l =>
    cases i with
    | zero =>
      rw [if_pos rfl, cz_cons_zero, synZ, cz_cons_zero, evZ]
      generalize evZ (b :: l) r = E
      omega
    | succ i =>
      rw [if_neg (by omega), cz_cons_succ, synZ, Nat.add_sub_cancel, cz_cons_succ]
      have h := synZ_cz r (b :: l) i
      rw [h]
      cases i with
      | zero => rw [if_pos rfl, cz_cons_zero]
      | succ i => rw [if_neg (by omega), Nat.add_sub_cancel, cz_cons_succ]
def Cn (R : Nat) : Nat → Nat
  | 0 => 0
  | n + 1 => 1 + (1 + R) * (2 * Cn R n)
theorem coef_bound (R : Nat) : ∀ (n : Nat) (p : List Int), p.length ≤ n → ∀ K : List Nat, K.length = n → K.Nodup → (∀ k ∈ K, k ≤ R) → ∀ B : Nat, (∀ k ∈ K, (evZ p (k : Nat)).natAbs ≤ B) → ∀ i, (cz p i).natAbs ≤ Cn R n * B := by
  intro n
  induction n with
  | zero =>
    intro p hp K _ _ _ B _ i
    rw [cz_out (by omega)]
    exact Nat.zero_le _
  | succ n ih =>
    intro p hp K hK hnd hR B hB i
    match K, hK with
    | r :: K, hK =>
      obtain ⟨hr, hnd2⟩ := List.nodup_cons.1 hnd
      have hq := ih (synZ (r : Nat) p) (by rw [synZ_length]; omega) K (by simpa using hK) hnd2 (fun k hk => hR k (List.mem_cons_of_mem _ hk)) (2 * B) (fun k hk => by
        have h1 := synZ_ev (r : Nat) p (k : Nat)
        have h2 := hB k (List.mem_cons_of_mem _ hk)
        have h3 := hB r (List.mem_cons_self ..)
        have h4 : ((k : Int) - (r : Int)).natAbs * (evZ (synZ (r : Nat) p) (k : Nat)).natAbs ≤ 2 * B := by
          rw [← Int.natAbs_mul]; omega
        have h5 : 1 ≤ ((k : Int) - (r : Int)).natAbs := by
          have : k ≠ r := fun h => hr (h ▸ hk)
          omega
        exact Nat.le_trans (Nat.le_mul_of_pos_left _ h5) h4)
      have h1 := synZ_cz (r : Nat) p i
      have h2 := hq i
      have h3 := hq (i - 1)
      have h4 := hB r (List.mem_cons_self ..)
      have h5 := hR r (List.mem_cons_self ..)
      have h6 : ((r : Int) * cz (synZ (r : Nat) p) i).natAbs ≤ R * (Cn R n * (2 * B)) := by
        rw [Int.natAbs_mul]
        exact Nat.mul_le_mul (by simpa using h5) h2
      have h7 : Cn R (n + 1) * B = B + (Cn R n * (2 * B) + R * (Cn R n * (2 * B))) := by
        simp only [Cn]; grind
      rw [h7, h1]
      generalize Cn R n * (2 * B) = X at *
      generalize R * X = Y at *
      split <;> omega
/-- A polynomial has fewer roots than coefficients. -/
theorem roots_le : ∀ (Z : List Nat), Z.Nodup → ∀ (f : Rat → Rat) (n : Nat), Deg (n + 1) f → (∀ z ∈ Z, f (z : Nat) = 0) → Z.length ≤ n := by
  intro Z
  induction Z with
  | nil => intro _ _ n _ _; exact Nat.zero_le _
  | cons z Z ih =>
    intro hnd f n hf hz
    obtain ⟨hz1, hnd2⟩ := List.nodup_cons.1 hnd
    obtain ⟨q, hq, h1⟩ := hf.pol.root (hz z (List.mem_cons_self ..))
    have hqz : ¬ Zero q := fun h => by have := hf.unique (deg_zero (fun x => by rw [h1, h x]; grind)); omega
    obtain ⟨j, hj⟩ := deg_pos hq hqz
    have h2 := ((hj.mul (deg_lin _)).congr h1).unique hf
    have := ih hnd2 q j hj (fun y hy => by
      have h3 := hz y (List.mem_cons_of_mem _ hy)
      rw [h1] at h3
      rcases Rat.mul_eq_zero.1 h3 with h4 | h4
      · exact h4
      · exfalso
        have : ((y : Nat) : Rat) = (z : Nat) := by grind
        have : y = z := by exact_mod_cast this
        exact hz1 (this ▸ hy))
    simp only [List.length_cons]
    omega
/-- Places where it is not 0. -/
theorem points {P : List Int} {n m : Nat} (hP : Top P) (hm : P.length ≤ m + 1) : ∃ K : List Nat, K.length = n ∧ K.Nodup ∧ (∀ k ∈ K, k ≤ n + m) ∧ ∀ k ∈ K, evZ P (k : Nat) ≠ 0 := by
  have hnd : (List.range (n + m)).Nodup := List.nodup_range
  have hsum : ((List.range (n + m)).filter fun k => decide (evZ P (k : Nat) ≠ 0)).length + ((List.range (n + m)).filter fun k => !decide (evZ P (k : Nat) ≠ 0)).length = n + m := by
    have : ∀ l : List Nat, (l.filter fun k => decide (evZ P (k : Nat) ≠ 0)).length + (l.filter fun k => !decide (evZ P (k : Nat) ≠ 0)).length = l.length := by
      intro l
      induction l with
      | nil => rfl
      | cons a l ih =>
        by_cases h : evZ P (a : Nat) = 0
        · rw [List.filter_cons_of_neg (by simp [h]), List.filter_cons_of_pos (by simp [h])]; simp only [List.length_cons]; omega
        · rw [List.filter_cons_of_pos (by simp [h]), List.filter_cons_of_neg (by simp [h])]; simp only [List.length_cons]; omega
    rw [this, List.length_range]
  have hz : ((List.range (n + m)).filter fun k => !decide (evZ P (k : Nat) ≠ 0)).length ≤ m := by
    obtain ⟨j, hj⟩ : ∃ j, P.length = j + 1 := ⟨P.length - 1, by have := hP.1; omega⟩
    have hd := hP.deg
    rw [hj] at hd
    have := roots_le _ (hnd.filter (fun k => !decide (evZ P (k : Nat) ≠ 0))) _ j hd (fun z hz => by
      have h1 := (List.mem_filter.1 hz).2
      have h2 : evZ P (z : Nat) = 0 := by simpa using h1
      have h3 := evalQ_int P (z : Nat)
      rw [h2] at h3
      exact h3)
    omega
  refine ⟨((List.range (n + m)).filter fun k => decide (evZ P (k : Nat) ≠ 0)).take n, ?_, ?_, fun k hk => ?_, fun k hk => ?_⟩
  · rw [List.length_take]; omega
  · exact (hnd.filter _).sublist (List.take_sublist _ _)
  · have := (List.mem_filter.1 (List.mem_of_mem_take hk)).1
    rw [List.mem_range] at this
    omega
  · have := (List.mem_filter.1 (List.mem_of_mem_take hk)).2
    simpa using this
theorem clear_den : ∀ l : List Rat, ∃ D : Nat, 0 < D ∧ ∃ h : List Int, ∀ x, (D : Rat) * ev l x = evalQ h x
  | [] => ⟨1, by omega, [], fun x => by show (1 : Rat) * 0 = 0; grind⟩
  | a :: l => by
    obtain ⟨D, hD, h, hh⟩ := clear_den l
    refine ⟨a.den * D, Nat.mul_pos a.den_pos hD, (a.num * (D : Nat)) :: h.map ((a.den : Int) * ·), fun x => ?_⟩
    have e0 : ((a.num : Int) : Rat) / ((a.den : Nat) : Rat) = a := by have := Rat.num_divInt_den a; rw [Rat.divInt_eq_div, Rat.intCast_natCast] at this; exact this
    have e1 : ((a.den : Nat) : Rat) ≠ 0 := by
      intro h0
      have : a.den = 0 := by exact_mod_cast h0
      exact a.den_nz this
    have e2 : ((a.den : Nat) : Rat) * a = ((a.num : Int) : Rat) := by
      generalize ((a.num : Int) : Rat) = N at *
      generalize ((a.den : Nat) : Rat) = E at *
      grind
    have e3 := evalQ_scale (p := h) (q := h.map ((a.den : Int) * ·)) (t := (a.den : Nat)) (fun i => cz_map_mul h _ i) x
    show ((a.den * D : Nat) : Rat) * (a + x * ev l x) = ((a.num * (D : Nat) : Int) : Rat) + x * evalQ (h.map ((a.den : Int) * ·)) x
    rw [e3, ← hh x, Rat.intCast_mul, ← e2, Rat.intCast_natCast, Rat.intCast_natCast, Rat.natCast_mul]
    grind
theorem prim_mul {a b : List Int} (ha : Prim a) (hb : Prim b) : Prim (mulP a b) := by
  have hl : (mulP a b).length = a.length + b.length - 1 := by simp [mulP]
  have h1 := ha.2.1
  have h2 := hb.2.1
  have h3 : cz (mulP a b) (a.length - 1 + (b.length - 1)) = cz a (a.length - 1) * cz b (b.length - 1) := by
    have := co_unique (p := rl (mulP a b)) (q := mulL (rl a) (rl b)) (fun x => by rw [ev_rl, ev_mulL, ev_rl, ev_rl, evalQ_mul]) (a.length - 1 + (b.length - 1))
    rw [co_mulL (p := rl a) (q := rl b) (by simp [rl]; omega) (by simp [rl]; omega), co_rl, co_rl, co_rl] at this
    exact_mod_cast this
  refine ⟨gauss ha.1 hb.1, by omega, ?_⟩
  rw [hl, show a.length + b.length - 1 - 1 = a.length - 1 + (b.length - 1) by omega, h3]
  exact Int.mul_pos ha.2.2 hb.2.2
/-- A primitive divisor goes up in the primitive part with whole numbers. -/
theorem cofactor {p f : List Int} (hp : Top p) (hf : Prim f) (hd : Dvd (evalQ f) (evalQ p)) : ∃ h, Prim h ∧ partP p = mulP h f := by
  obtain ⟨q, ⟨n, l, hl, hql⟩, hq⟩ := hd
  obtain ⟨D, hD, h0, hh⟩ := clear_den l
  have hDR : ((D : Nat) : Rat) ≠ 0 := by
    intro h1
    have : D = 0 := by exact_mod_cast h1
    omega
  have e1 : ∀ x, (D : Rat) * evalQ p x = evalQ (trimP h0) x * evalQ f x := fun x => by rw [hq, hql, evalQ_trim, ← hh]; grind
  have ht : Top (trimP h0) := by
    rcases end_top (endOkP_trim h0) with h1 | h1
    · exfalso
      refine hp.nz (fun x => ?_)
      have := e1 x
      rw [h1, nil_eval] at this
      grind
    · exact h1
  refine ⟨partP (trimP h0), ht.part, ?_⟩
  have hs : ((signP p : Int) : Rat) ≠ 0 := by
    intro h1
    exact hp.sign (by exact_mod_cast h1)
  refine prim_unique hp.part (prim_mul ht.part hf) (κ := (((D : Nat) : Rat) * (signP p : Int))⁻¹ * (signP (trimP h0) : Int)) (fun x => ?_)
  have e2 := e1 x
  rw [eval_part p, eval_part (trimP h0)] at e2
  rw [evalQ_mul]
  generalize evalQ (partP p) x = A at *
  generalize evalQ (partP (trimP h0)) x = B at *
  generalize ((signP p : Int) : Rat) = s at *
  generalize ((signP (trimP h0) : Int) : Rat) = t at *
  generalize ((D : Nat) : Rat) = d at *
  have hds : d * s ≠ 0 := by
    intro h1
    rcases Rat.mul_eq_zero.1 h1 with h2 | h2
    · exact hDR h2
    · exact hs h2
  have e3 : A = (d * s)⁻¹ * ((d * s) * A) := by rw [← Rat.mul_assoc, Rat.inv_mul_cancel _ hds]; grind
  rw [e3, show d * s * A = t * B * evalQ f x by rw [← e2]; grind]
  grind
theorem factor_bound {p f : List Int} (hp : Top p) (hf : Prim f) (hd : Dvd (evalQ f) (evalQ p)) {n M : Nat} (hn : p.length ≤ n) (hM : ∀ i, (cz p i).natAbs ≤ M) (i : Nat) : (cz f i).natAbs ≤ Cn (2 * n) n * (n * (M * (2 * n) ^ n)) := by
  obtain ⟨h, hh, hpart⟩ := cofactor hp hf hd
  obtain ⟨K, k1, k2, k3, k4⟩ := points (n := n) (m := n - 1) hp (by omega)
  have hn1 : 1 ≤ n := by have := hp.1; omega
  have hfl : f.length ≤ n := by
    have := hd.deg_le hf.top.deg hp.deg hp.nz
    omega
  refine coef_bound (2 * n) n f hfl K k1 k2 (fun k hk => by have := k3 k hk; omega) _ (fun k hk => ?_) i
  have hk3 := k3 k hk
  have e1 : evZ p (k : Nat) = signP p * (evZ h (k : Nat) * evZ f (k : Nat)) := by
    have e2 := eval_part p ((k : Int) : Rat)
    rw [hpart, evalQ_mul, evalQ_int, evalQ_int, evalQ_int] at e2
    exact_mod_cast e2
  have hne := k4 k hk
  have h2 : (evZ f (k : Nat)).natAbs ≤ (evZ p (k : Nat)).natAbs := by
    refine Nat.le_of_dvd (by omega) (Int.natAbs_dvd_natAbs.2 ⟨signP p * evZ h (k : Nat), ?_⟩)
    rw [e1]; grind
  have h3 := evZ_le (p := p) (k := (k : Nat)) (R := 2 * n) (by simp; omega) (by omega) hM
  refine Nat.le_trans h2 (Nat.le_trans h3 ?_)
  exact Nat.mul_le_mul hn (Nat.mul_le_mul_left _ (Nat.pow_le_pow_right (by omega) hn))
theorem factor_bp {p f : List Int} {M : Nat} (hp : Top p) (hf : Prim f) (hd : Dvd (evalQ f) (evalQ p)) (hb : BP 7 M p) : BP 7 (M + 3) f := by
  have hfl := hd.deg_le hf.top.deg hp.deg hp.nz
  refine ⟨Nat.le_trans hfl hb.1, fun i => ?_⟩
  have h1 := factor_bound hp hf hd hb.1 (fun i => Nat.le_of_lt (hb.2 i)) i
  have h2 : Cn (2 * 7) 7 * (7 * (pw M * (2 * 7) ^ 7)) < pw (M + 3) := by
    have e : pw (M + 3) = 79228162514264337593543950336 * pw M := by
      rw [pw_add, Nat.mul_comm]; rfl
    have c1 : Cn (2 * 7) 7 = 754137931 := by decide +kernel
    rw [e, c1]
    have := pw_pos M
    generalize pw M = y at *
    omega
  exact Nat.lt_of_le_of_lt h1 h2
end Go.Proofs.YtljocgdhdilglaaGreat

namespace Go.Proofs.YtljocgdhdilglaaGreat

def Bnd (M : Nat) (p : List Int) : Prop := ∀ i, (cz p i).natAbs < pw M
theorem Bnd.mono {M M' : Nat} {p : List Int} (h : Bnd M p) (hM : M ≤ M') : Bnd M' p := fun i => Nat.lt_of_lt_of_le (h i) (pw_le hM)
theorem Bnd.trim {M : Nat} {p : List Int} (h : Bnd M p) : Bnd M (trimP p) := fun i => by
  have : cz (trimP p) i = cz p i := getD_trim p i
  rw [this]; exact h i
theorem Bnd.smallP {M : Nat} {p : List Int} (h : Bnd M p) (hM : M ≤ 1000) : smallP p = true := by
  unfold Go.Proofs.YtljocgdhdilglaaGreat.smallP
  rw [List.all_eq_true]
  intro a ha
  obtain ⟨i, hi, rfl⟩ := List.getElem_of_mem ha
  have := h.mono hM i
  unfold cz at this
  rw [List.getElem?_eq_getElem hi] at this
  simpa using this
theorem fdiv_le {x g : Int} (h : g ∣ x) : (Int.fdiv x g).natAbs ≤ x.natAbs := by
  rw [Int.fdiv_eq_ediv_of_dvd h]
  obtain ⟨k, rfl⟩ := h
  by_cases hg : g = 0
  · subst hg; simp
  · rw [Int.mul_ediv_cancel_left _ hg, Int.natAbs_mul]
    exact Nat.le_mul_of_pos_left _ (by omega)
theorem Bnd.byG {M : Nat} {l : List Int} {g : Int} (h : Bnd M l) (hg : ∀ i, g ∣ cz l i) : Bnd M (byG l g) := fun i => by
  rw [cz_byG]
  exact Nat.lt_of_le_of_lt (fdiv_le (hg i)) (h i)
theorem Bnd.part {M : Nat} {p : List Int} (h : Bnd M p) : Bnd M (partP p) := fun i => by
  rw [cz_part]
  exact Nat.lt_of_le_of_lt (fdiv_le (signP_dvd p i)) (h i)
theorem prod_lt {a b : Int} {M M' : Nat} (ha : a.natAbs < pw M) (hb : b.natAbs < pw M') : (a * b).natAbs < pw (M + M') := by
  rw [Int.natAbs_mul, pw_add]
  exact Nat.mul_lt_mul'' ha hb
theorem step_bnd {M Mq : Nat} {Q T q : List Int} (hQ : Bnd M Q) (hT : Bnd M T) (hq : Bnd Mq q) : Bnd (M + (Mq + 1)) (stepQ Q T q) ∧ Bnd (M + (Mq + 1)) (stepR T q) := by
  have h2 := pw_dbl (M + Mq)
  have e : M + (Mq + 1) = M + Mq + 1 := by omega
  rw [e]
  have hM := pw_le (show M ≤ M + Mq by omega)
  have hla := hq (q.length - 1)
  have hle := hT (T.length - 1)
  constructor
  · intro i
    unfold cz
    rw [stepQ_get]
    have h1 := prod_lt (hQ i) hla
    unfold cz at h1 hle
    split <;> omega
  · intro i
    rcases Nat.lt_or_ge i T.length with hi | hi
    · unfold cz
      rw [stepR_get hi]
      have h1 := prod_lt (hT i) hla
      have h3 := prod_lt (hq (i - (T.length - q.length))) hle
      rw [show Mq + M = M + Mq by omega] at h3
      unfold cz at h1 h3
      split <;> omega
    · rw [cz_out (by rw [stepR_len]; exact hi)]
      exact pw_pos _
theorem okDiv_bnd {q : List Int} (hq : Top q) {Mq : Nat} (hqb : Bnd Mq q) : ∀ (k : Nat) (Q R : List Int) (M t : Nat), Bnd M Q → Bnd M R → zeroQ q Q R → (trimP R).length + 1 ≤ Q.length + q.length → (trimP R).length + 1 ≤ q.length + t → t ≤ k → M + t * (Mq + 1) ≤ 1000 →
    okDiv q k Q R = true ∧ Bnd (M + t * (Mq + 1)) (divK q k Q R).1 ∧ Bnd (M + t * (Mq + 1)) (divK q k Q R).2 := by
  intro k
  induction k with
  | zero =>
    intro Q R M t hQ hR hz hl hf ht hM
    obtain rfl : t = 0 := by omega
    rw [Nat.zero_mul, Nat.add_zero] at hM ⊢
    refine ⟨?_, hQ, hR.trim⟩
    simp only [okDiv, Bool.and_eq_true, decide_eq_true_eq]
    exact ⟨⟨hQ.smallP hM, hR.smallP hM⟩, by omega⟩
  | succ k ih =>
    intro Q R M t hQ hR hz hl hf ht hM
    have hM1 : M ≤ M + t * (Mq + 1) := Nat.le_add_right _ _
    by_cases hlt : (trimP R).length < q.length
    · rw [divK_stop hlt]
      refine ⟨?_, hQ.mono hM1, hR.trim.mono hM1⟩
      simp only [okDiv, Bool.and_eq_true]
      rw [if_pos hlt]
      exact ⟨⟨hQ.smallP (by omega), hR.smallP (by omega)⟩, rfl⟩
    · have hle : q.length ≤ (trimP R).length := by omega
      have hq0 := hq.1
      obtain ⟨t, rfl⟩ : ∃ s, t = s + 1 := ⟨t - 1, by omega⟩
      have hsb := step_bnd hQ hR.trim hqb
      have hd := stepG_dvd Q (trimP R) q
      have hb1 := hsb.1.byG (fun i => (hd i).1)
      have hb2 := hsb.2.byG (fun i => (hd i).2)
      have hz2 := zeroQ_step hq0 hz hle
      have hshort : (trimP (byG (stepR (trimP R) q) (stepG Q (trimP R) q))).length < (trimP R).length := by
        have := trimP_lt (xs := byG (stepR (trimP R) q) (stepG Q (trimP R) q)) (by rw [byG_len, stepR_len]; omega) (by rw [byG_get, byG_len, stepR_len, stepR_last hq0 hle]; simp)
        rw [byG_len, stepR_len] at this
        exact this
      have hM2 : M + (t + 1) * (Mq + 1) = M + (Mq + 1) + t * (Mq + 1) := by rw [Nat.succ_mul]; omega
      rw [hM2] at hM ⊢
      have h := ih _ _ (M + (Mq + 1)) t hb1 hb2 hz2 (by rw [byG_len, stepQ_len]; omega) (by omega) (by omega) hM
      refine ⟨?_, ?_, ?_⟩
      · simp only [okDiv, Bool.and_eq_true]
        rw [if_neg hlt]
        exact ⟨⟨hQ.smallP (by omega), hR.smallP (by omega)⟩, h.1⟩
      · rw [divK, if_neg hlt]; exact h.2.1
      · rw [divK, if_neg hlt]; exact h.2.2
theorem okDivP_bnd {p q : List Int} (hq : Top q) {M Mq la : Nat} (hla : p.length ≤ la) (hp : Bnd M p) (hqb : Bnd Mq q) (hMq : Mq ≤ 1000) (hM : M + (la + 1 - q.length) * (Mq + 1) ≤ 1000) :
    okDivP p q = true ∧ Bnd (M + (la + 1 - q.length) * (Mq + 1)) (divP p q).1 ∧ Bnd (M + (la + 1 - q.length) * (Mq + 1)) (divP p q).2 := by
  have hq0 := hq.1
  have hts := trimP_short p
  have hmono : M + (p.length + 1 - q.length) * (Mq + 1) ≤ M + (la + 1 - q.length) * (Mq + 1) := Nat.add_le_add_left (Nat.mul_le_mul_right _ (by omega)) _
  have h := okDiv_bnd hq hqb p.length (List.replicate (p.length + 1 - q.length) 0) p M (p.length + 1 - q.length) (fun i => by
    unfold cz
    rw [List.getElem?_replicate]
    split <;> exact pw_pos _) hp (fun j _ => by rw [List.getElem?_replicate]; split <;> rfl) (by rw [List.length_replicate]; omega) (by omega) (by omega) (by omega)
  refine ⟨?_, h.2.1.mono hmono, h.2.2.mono hmono⟩
  simp only [okDivP, Bool.and_eq_true, decide_eq_true_eq]
  exact ⟨⟨⟨hqb.smallP hMq, hq0⟩, hq.2⟩, h.1⟩
/-- Do all numbers stay small, whatever the lengths of the rests (0 or from L0 on)? -/
def okB (L0 : Nat) : Nat → Nat → Nat → Nat → Nat → Bool
  | 0, _, _, lb, _ => lb == 0
  | k + 1, la, Ma, lb, Mb => lb == 0 || (decide (Mb ≤ 1000) && decide (Ma + (la + 1 - lb) * (Mb + 1) ≤ 1000) && (List.range lb).all fun l => (decide (0 < l) && decide (l < L0)) || okB L0 k lb Mb l (Ma + (la + 1 - lb) * (Mb + 1)))
theorem okCom_bnd {r : List Int} (hr : Top r) : ∀ (k : Nat) (p q : List Int) (la Ma Mb : Nat), okB r.length k la Ma q.length Mb = true → p.length ≤ la → Bnd Ma p → Bnd Mb q → PrimE p → PrimE q → Dvd (evalQ r) (evalQ p) → Dvd (evalQ r) (evalQ q) → okCom k p q = true := by
  intro k
  induction k with
  | zero =>
    intro p q la Ma Mb h _ _ _ _ _ _ _
    simp only [okB, beq_iff_eq] at h
    simp only [okCom, decide_eq_true_eq]
    exact List.eq_nil_of_length_eq_zero h
  | succ k ih =>
    intro p q la Ma Mb h hla hp hq ep eq hdp hdq
    unfold okCom
    by_cases hqe : q = []
    · rw [if_pos hqe]
    · rw [if_neg hqe]
      have hqt : Top q := by
        rcases eq with h1 | h1
        · exact h1.top
        · exact absurd h1 hqe
      have hq0 := hqt.1
      simp only [okB, Bool.or_eq_true, beq_iff_eq, Bool.and_eq_true, decide_eq_true_eq, List.all_eq_true] at h
      rcases h with h | ⟨⟨h1, h2⟩, h3⟩
      · omega
      · obtain ⟨k1, k2, k3⟩ := okDivP_bnd hqt hla hp hq h1 h2
        rw [Bool.and_eq_true]
        refine ⟨k1, ?_⟩
        obtain ⟨-, ⟨c, hc, e1⟩, e2, e3⟩ := divP_eval k1
        have hdr : Dvd (evalQ r) (evalQ (divP p q).2) := by
          obtain ⟨u, hu, hu2⟩ := hdp
          obtain ⟨v, hv, hv2⟩ := hdq
          refine ⟨fun x => c * u x - evalQ (divP p q).1 x * v x, (hu.smul c).sub ((pol_eval _).mul hv), fun x => ?_⟩
          have := e1 x
          rw [hu2, hv2] at this
          grind
        have hdr2 : Dvd (evalQ r) (evalQ (partP (divP p q).2)) := by
          rcases end_top e3 with h4 | h4
          · rw [h4]; exact Dvd.zero nil_eval
          · have hs : ((signP (divP p q).2 : Int) : Rat) ≠ 0 := by
              intro h5
              exact h4.sign (by exact_mod_cast h5)
            exact Dvd.const hs (hdr.congr fun x => (eval_part _ x).symm)
        refine ih q (partP (divP p q).2) q.length Mb _ ?_ (Nat.le_refl _) hq k3.part eq (part_primE e3) hdq hdr2
        rw [part_length]
        rcases h3 _ (List.mem_range.2 e2) with h4 | h4
        · exfalso
          rcases end_top e3 with h5 | h5
          · rw [h5] at h4; simp at h4
          · have := hdr.deg_le hr.deg h5.deg h5.nz
            omega
        · exact h4
theorem one_top : Top [1] := ⟨by decide, by decide⟩
theorem one_dvd (p : List Int) : Dvd (evalQ [1]) (evalQ p) := ⟨evalQ p, pol_eval p, fun x => by show evalQ p x = evalQ p x * (((1 : Int) : Rat) + x * 0); simp; grind⟩
theorem BP.bnd {n M : Nat} {p : List Int} (h : BP n M p) : Bnd M p := h.2
/-- All that PolyFree wants to know of sizes and parts. -/
theorem free_all {p : List Int} (hp : Top p) (hb : BP 5 4 p) :
    okCom ((partP (derP p)).length + 1) (partP p) (partP (derP p)) = true ∧ okDivP p (comP p (derP p)) = true ∧ okCom ((partP (derP (freeP p))).length + 1) (partP (freeP p)) (partP (derP (freeP p))) = true ∧ Prim (freeP p) ∧ BP 5 7 (freeP p) := by
  have hok : okCom ((partP (derP p)).length + 1) (partP p) (partP (derP p)) = true := by
    have hl : (partP (derP p)).length ≤ 4 := by have := hb.1; rw [part_length, der_length]; omega
    refine okCom_bnd one_top _ _ _ 5 4 5 ?_ (by rw [part_length]; exact hb.1) hb.bnd.part ((hb.der (by omega)).bnd.part) (.inl hp.part) (part_primE (der_end hp)) (one_dvd _) (one_dvd _)
    generalize (partP (derP p)).length = l at *
    rcases (show l = 0 ∨ l = 1 ∨ l = 2 ∨ l = 3 ∨ l = 4 by omega) with rfl | rfl | rfl | rfl | rfl <;> decide +kernel
  obtain ⟨h1, -⟩ := comP_spec (top_end hp) (der_end hp) hok
  have hg := comP_prim hp (der_end hp) hok
  have hgb := factor_bp hp hg h1.left (hb.mono (by omega) (Nat.le_refl _))
  have hok2 : okDivP p (comP p (derP p)) = true := (okDivP_bnd hg.top (M := 4) (Mq := 7) (la := 5) hb.1 hb.bnd hgb.bnd (by omega) (by
    have := hg.2.1
    have : (5 + 1 - (comP p (derP p)).length) * (7 + 1) ≤ 5 * 8 := Nat.mul_le_mul_right _ (by omega)
    omega)).1
  obtain ⟨hf, κ, hκ, h2⟩ := freeP_spec hp hok hok2
  have hfd : Dvd (evalQ (freeP p)) (evalQ p) := ⟨fun x => κ * evalQ (comP p (derP p)) x, (pol_eval _).smul κ, fun x => by rw [h2]; grind⟩
  have hfb := factor_bp hp hf hfd (hb.mono (by omega) (Nat.le_refl _))
  have hfl : (freeP p).length ≤ 5 := Nat.le_trans (hfd.deg_le hf.top.deg hp.deg hp.nz) hb.1
  have hfb5 : BP 5 7 (freeP p) := ⟨hfl, hfb.2⟩
  refine ⟨hok, hok2, ?_, hf, hfb5⟩
  have hl : (partP (derP (freeP p))).length ≤ 4 := by rw [part_length, der_length]; omega
  refine okCom_bnd one_top _ _ _ 5 7 8 ?_ (by rw [part_length]; exact hfl) hfb5.bnd.part ((hfb5.der (by omega)).bnd.part) (.inl hf.top.part) (part_primE (der_end hf.top)) (one_dvd _) (one_dvd _)
  generalize (partP (derP (freeP p))).length = l at *
  rcases (show l = 0 ∨ l = 1 ∨ l = 2 ∨ l = 3 ∨ l = 4 by omega) with rfl | rfl | rfl | rfl | rfl <;> decide +kernel
end Go.Proofs.YtljocgdhdilglaaGreat

namespace Go.Proofs.YtljocgdhdilglaaGreat
open Go.RowKit
attribute [local go_sem] add_lit

set_option maxRecDepth 100000 in
set_option maxHeartbeats 1000000 in
theorem look_bad (A : Option Addr) (n c : Nat) (es : List WE) (na nb : Bool) (X Y : Option Addr) (nx cx ny cy : Nat) (la lb : List Nat) (w : World) (hL : WL w A n c es) (kp : pOk es = true) (hx : Lim w X nx cx la) (hy : Lim w Y ny cy lb) (hk : okF na la nb lb = false) :
    Calls Tryz.prog 42 #[.slice A n c, .agg #[.bool na, .slice X nx cx, .bool nb, .slice Y ny cy]] w fun e w' => e = .returned (.int .i64 8) ∧ Below w.heap.size w w' := by
  obtain ⟨W0, hW0, hB, q, sz⟩ := alloc1 w 27 #[.bool na, .slice X nx cx, .bool nb, .slice Y ny cy]
  replace hL := hide hL
  replace hx := hide hx
  replace hy := hide hy
  have hkp := hide kp
  replace hk := hide hk
  clear kp
  go_enter Tryz.func42, Tryz.ntmps42
  go_wp2_with fail
  refine (pCheck_any A n c es W0 (hL.out.below hB)).mono ?_
  rintro e w1 ⟨he, hb1⟩
  rw [hkp.out] at he
  simp only [errOf, if_true] at he
  subst he
  have hB1 := hB.trans (hb1.mono hB.size)
  replace q := keep_blk hb1 q
  obtain ⟨s0, s1, s2, s3, -⟩ := q.four
  go_wp2_with fail
  refine (fCheck_any na nb X Y nx cx ny cy la lb w1 (hx.out.below hB1) (hy.out.below hB1) false hk.out).mono ?_
  rintro e w2 ⟨rfl, hb2⟩
  have hB2 := hB1.trans (hb2.mono hB1.size)
  simp only [errOf, Bool.false_eq_true, if_false]
  go_wp2_with fail
  go_ret
  exact ⟨rfl, hB2⟩

set_option maxRecDepth 100000 in
set_option maxHeartbeats 1000000 in
theorem look_many (A : Option Addr) (n c : Nat) (es : List WE) (na nb : Bool) (X Y : Option Addr) (nx cx ny cy : Nat) (la lb : List Nat) (w : World) (hL : WL w A n c es) (kp : pOk es = true) (hx : Lim w X nx cx la) (hy : Lim w Y ny cy lb) (hk : okF na la nb lb = true) (h64 : 64 < max nx ny) :
    Calls Tryz.prog 42 #[.slice A n c, .agg #[.bool na, .slice X nx cx, .bool nb, .slice Y ny cy]] w fun e w' => e = .returned (.int .i64 4) ∧ Below w.heap.size w w' := by
  have hxm := hx.2.1
  have hxm2 := hx.2.2.1
  have hym := hy.2.1
  have hym2 := hy.2.2.1
  unfold maxLen at hxm2 hym2
  obtain ⟨W0, hW0, hB, q, sz⟩ := alloc1 w 27 #[.bool na, .slice X nx cx, .bool nb, .slice Y ny cy]
  replace hL := hide hL
  replace hx := hide hx
  replace hy := hide hy
  have hkp := hide kp
  replace hk := hide hk
  clear kp
  go_enter Tryz.func42, Tryz.ntmps42
  go_wp2_with fail
  refine (pCheck_any A n c es W0 (hL.out.below hB)).mono ?_
  rintro e w1 ⟨he, hb1⟩
  rw [hkp.out] at he
  simp only [errOf, if_true] at he
  subst he
  have hB1 := hB.trans (hb1.mono hB.size)
  replace q := keep_blk hb1 q
  obtain ⟨s0, s1, s2, s3, -⟩ := q.four
  go_wp2_with fail
  refine (fCheck_any na nb X Y nx cx ny cy la lb w1 (hx.out.below hB1) (hy.out.below hB1) true hk.out).mono ?_
  rintro e w2 ⟨rfl, hb2⟩
  have hB2 := hB1.trans (hb2.mono hB1.size)
  clear s0 s1 s2 s3
  replace q := keep_blk hb2 q
  obtain ⟨s0, s1, s2, s3, -⟩ := q.four
  have t1 : decide (64 < max (nx : Int) (ny : Int)) = true := by simp; omega
  have t2 : decide (64 < max nx ny) = true := by simp; omega
  simp only [errOf, if_true]
  go_wp2_with fail
  go_ret
  exact ⟨rfl, hB2⟩

set_option maxRecDepth 100000 in
set_option maxHeartbeats 1000000 in
theorem Eval_many (A : Option Addr) (n c : Nat) (es : List WE) (na nb : Bool) (X Y : Option Addr) (nx cx ny cy : Nat) (la lb : List Nat) (w : World) (hL : WL w A n c es) (kp : pOk es = true) (hx : Lim w X nx cx la) (hy : Lim w Y ny cy lb) (hk : okF na la nb lb = true) (h64 : 64 < max nx ny) :
    Calls Tryz.prog 23 #[.slice A n c, .agg #[.bool na, .slice X nx cx, .bool nb, .slice Y ny cy]] w fun e w' => e = .returned (.tuple #[.agg #[.bool false, .slice none 0 0, .bool false, .slice none 0 0], .int .i64 4]) ∧ Below w.heap.size w w' := by
  obtain ⟨W0, hW0, hB, ⟨q, qr⟩, sz⟩ := alloc2 w 27 #[.bool na, .slice X nx cx, .bool nb, .slice Y ny cy] 27 #[.bool false, .slice none 0 0, .bool false, .slice none 0 0]
  have hlk := look_many A n c es na nb X Y nx cx ny cy la lb W0 (hL.below hB) kp (hx.below hB) (hy.below hB) hk h64
  clear hL hx hy hk kp
  obtain ⟨s0, s1, s2, s3, -⟩ := q.four
  go_enter Tryz.func23, Tryz.ntmps23
  go_wp2_with fail
  refine hlk.mono ?_
  rintro e w1 ⟨rfl, hb1⟩
  have hB1 := hB.trans (hb1.mono hB.size)
  clear s0 s1 s2 s3 hlk
  replace qr := keep_blk hb1 qr
  obtain ⟨z0, z1, z2, z3, z4, z5, z6, z7⟩ := qr.four
  obtain ⟨W4, hW4, hB4, qz, st⟩ := set_frac false none 0 0 false none 0 0 hB1 (show w.heap.size ≤ w.heap.size + 1 by omega) qr
  obtain ⟨t0, t1, t2, t3, -⟩ := qz.four
  have hlt := qz.lt
  clear st qr
  go_wp2_with fail
  refine bodyPost_ret (v := .tuple #[.agg #[.bool false, .slice none 0 0, .bool false, .slice none 0 0], .int .i64 4]) (by simp [results, Tryz.results23, go_sem, t0, t1, t2, t3, hlt]) rfl ?_
  exact ⟨rfl, hB4⟩

set_option maxRecDepth 100000 in
set_option maxHeartbeats 1000000 in
theorem Sign_bad (A : Option Addr) (n c : Nat) (es : List WE) (na nb : Bool) (X Y : Option Addr) (nx cx ny cy : Nat) (la lb : List Nat) (w : World) (hL : WL w A n c es) (kp : pOk es = true) (hx : Lim w X nx cx la) (hy : Lim w Y ny cy lb) (hk : okF na la nb lb = false) :
    Calls Tryz.prog 14 #[.slice A n c, .agg #[.bool na, .slice X nx cx, .bool nb, .slice Y ny cy]] w fun e w' => e = .returned (.tuple #[.int .i64 0, .int .i64 8]) ∧ Below w.heap.size w w' := by
  obtain ⟨W0, hW0, hB, q, sz⟩ := alloc1 w 27 #[.bool na, .slice X nx cx, .bool nb, .slice Y ny cy]
  have hlk := look_bad A n c es na nb X Y nx cx ny cy la lb W0 (hL.below hB) kp (hx.below hB) (hy.below hB) hk
  clear hL hx hy hk kp
  obtain ⟨s0, s1, s2, s3, -⟩ := q.four
  go_enter Tryz.func14, Tryz.ntmps14
  go_wp2_with fail
  refine hlk.mono ?_
  rintro e w1 ⟨rfl, hb1⟩
  have hB1 := hB.trans (hb1.mono hB.size)
  clear s0 s1 s2 s3 hlk
  go_wp2_with fail
  go_returns
  exact ⟨rfl, hB1⟩

/-- A list of one number. -/
theorem WL.single {w : World} {g : Nat} {t : TypeId} {neg : Bool} {A : Option Addr} {n c : Nat} {l : List Nat} (h : Blk w g t #[.bool neg, .slice A n c]) (hL : Lim w A n c l) : WL w (some ⟨g, 0, none⟩) 1 1 [⟨neg, A, n, c, l⟩] := by
  refine ⟨rfl, Nat.le_refl _, by unfold maxLen; omega, fun _ => ⟨_, _, rfl, fun k e he => ?_⟩, fun e he => by rw [List.mem_singleton] at he; subst he; exact hL⟩
  cases k with
  | zero =>
    simp only [List.getElem?_cons_zero, Option.some.injEq] at he
    subst he
    exact ⟨h.cell 0, h.cell 1⟩
  | succ k => simp at he

/-- An append to a full slice. -/
theorem wp_append_full {P : Program} (w : World) {o : Oper} {a : Act} {K : Act → World → Prop} {Q : Exit → Act → World → Prop} (s x : Operand) (t : TypeId)
    (ho : o.op = .call { callee := .builtin .append, args := #[s, x], argTypes := #[t, t] })
    (e : TypeId) (i : TypeInfo) (ht : P.underlying t = some (.slice e)) (hi : P.info? e = some i) (hz : i.zero = some (.agg #[.bool false, .slice none 0 0])) (hsi : i.size = 2) (hby : i.bytes = 32)
    (A : Option Addr) (n : Nat) (es : List WE) (hs : a.eval s = .slice A n n) (hL : WL w A n n es) (hn : 0 < n)
    (B : Option Addr) (m c : Nat) (fs : List WE) (hx : a.eval x = .slice B m c) (hM : WL w B m c fs) (hm : 0 < m) (h63 : n + m ≤ 1000)
    (h : ∀ A' c' w', WL w' A' (n + m) c' (es ++ fs) → Below w.heap.size w w' → K (a.put o.dst (.slice A' (n + m) c')) w') : o.wp P a w K Q := by
  obtain ⟨b1, o1, rfl, hc1⟩ := hL.2.2.2.1 hn
  obtain ⟨b2, o2, rfl, hc2⟩ := hM.2.2.2.1 hm
  have cel : ∀ (b o : Nat) (l : List WE), (∀ k e, l[k]? = some e → w.cell? ⟨b, o + k * 2, none⟩ = some (.bool e.neg) ∧ w.cell? ⟨b, o + k * 2 + 1, none⟩ = some (.slice e.A e.n e.c)) → ∀ j u, (cellsL l)[j]? = some u → w.cell? ((⟨b, o, none⟩ : Addr).add j) = some u := by
    intro b o l hl j u hu
    have hj : j < (cellsL l).length := by
      rcases Nat.lt_or_ge j (cellsL l).length with h' | h'
      · exact h'
      · rw [List.getElem?_eq_none h'] at hu; cases hu
    rw [cellsL_length] at hj
    have hk : j / 2 < l.length := by omega
    have he := List.getElem?_eq_getElem hk
    have h1 := hl _ _ he
    have h2 := cellsL_get he
    rw [add_lit]
    rcases Nat.mod_two_eq_zero_or_one j with h3 | h3
    · rw [show j / 2 * 2 = j by omega] at h1 h2
      rw [h2.1] at hu; injection hu with hu; subst hu; exact h1.1
    · rw [show j / 2 * 2 + 1 = j by omega] at h2
      rw [h2.2] at hu; injection hu with hu; subst hu
      rw [show o + j = o + j / 2 * 2 + 1 by omega]; exact h1.2
  obtain ⟨v', w', hrun, hown, hg⟩ := run_append_arg_grows (P := P) w t o.type e i _ 2 32 ht hi hz hsi hby rfl (by omega) ⟨b1, o1, none⟩ n n (cellsL es) (by rw [cellsL_length, hL.1]) (cel _ _ _ hc1) ⟨b2, o2, none⟩ m c (cellsL fs) (by rw [cellsL_length, hM.1]) (cel _ _ _ hc2) (by omega) (by unfold maxLen; omega) (by omega)
  have hb : Below w.heap.size w w' := (Below.refl w.heap.size w).grown hg (Nat.le_refl _) (fun k hk => by cases hk)
  unfold Oper.wp execOp
  simp only [ho, resolve, invoke, builtin, Sem.run_bind, Sem.run_pure, Result.andThen_ok, List.map_toArray, List.map_cons, List.map_nil, hs, hx, hrun]
  obtain ⟨hlen, hown⟩ := hown
  rcases hown with ⟨rfl, h0⟩ | ⟨g, cap, cur, rfl, hge, hheap, hcn, hcm, hcs, htk⟩
  · omega
  · refine h _ _ _ ⟨by rw [List.length_append, hL.1, hM.1], hcn, hcm, fun _ => ⟨_, _, rfl, fun k e he => ?_⟩, fun e he => ?_⟩ hb
    · have h2 := cellsL_get he
      rw [cellsL_append] at h2
      have hcell : ∀ j u, (cellsL es ++ cellsL fs)[j]? = some u → w'.cell? ⟨g, j, none⟩ = some u := fun j u hu => by
        rw [cell_of_row w' g j cur _ (0, 0) hheap]
        rw [← htk] at hu
        rw [List.getElem?_take] at hu
        split at hu
        · simpa using hu
        · cases hu
      rw [Nat.zero_add]
      exact ⟨hcell _ _ h2.1, hcell _ _ h2.2⟩
    · rcases List.mem_append.1 he with he | he
      · exact (hL.2.2.2.2 e he).below hb
      · exact (hM.2.2.2.2 e he).below hb
end Go.Proofs.YtljocgdhdilglaaGreat

namespace Go.Proofs.YtljocgdhdilglaaGreat
open Go.RowKit

theorem ResPoly.bad {w w' : World} {xs : List Int} {e : Ending} (h : ResPoly w xs e w') (hk : okP (trimP xs) = false) : Below w.heap.size w w' ∧ ∃ A, e = .returned (.tuple #[.slice A 0 0, .int .i64 16]) := by
  obtain ⟨h1, A, n, c, code, rfl, h2⟩ := h
  rcases h2 with ⟨h3, -⟩ | ⟨-, rfl, rfl, rfl⟩
  · rw [hk] at h3; cases h3
  · exact ⟨h1, A, rfl⟩
section
variable (A B : Option Addr) (n c m d : Nat) (xs ys : List Int) (w : World)
theorem Mul_range (hp : PolyL w A n c xs) (hq : PolyL w B m d ys) (k1 : okP xs = true) (e1 : endOkP xs = true) (k2 : okP ys = true) (e2 : endOkP ys = true) (hk : okP (trimP (mulP xs ys)) = false) :
    Calls Tryz.prog 18 #[.slice A n c, .slice B m d] w fun e w' => Below w.heap.size w w' ∧ ∃ A, e = .returned (.tuple #[.slice A 0 0, .int .i64 16]) := by
  obtain ⟨es, h1, rfl, h3⟩ := pl_ok hp k1 e1
  obtain ⟨fs, g1, rfl, g3⟩ := pl_ok hq k2 e2
  exact (pMul_ok A B n c m d es fs w h1 g1 h3 g3).mono fun e w' h => h.bad hk
theorem Add_range (es : List WE) (hp : WL w A n c es) (hq : PolyL w B m d ys) (kp : pOk es = true) (k2 : okP ys = true) (e2 : endOkP ys = true) (hk : okP (trimP (joinP (fun a b => a + b) (es.map WE.num) ys)) = false) :
    Calls Tryz.prog 21 #[.slice A n c, .slice B m d] w fun e w' => Below w.heap.size w w' ∧ ∃ A, e = .returned (.tuple #[.slice A 0 0, .int .i64 16]) := by
  obtain ⟨fs, g1, rfl, g3⟩ := pl_ok hq k2 e2
  exact (pAdd_ok A B n c m d es fs w hp g1 kp g3).mono fun e w' h => h.bad hk
theorem Sign_pl (na nb : Bool) (X Y : Option Addr) (nx cx ny cy : Nat) (r : Rat) (hp : PolyL w A n c xs) (k1 : okP xs = true) (e1 : endOkP xs = true) (hx : Fr w na X nx cx nb Y ny cy r) (h1 : nx ≤ 64) (h2 : ny ≤ 64) (v : Int) (hv : cmpZ (aboveS r.num (r.den : Nat) xs) 0 = v) :
    Calls Tryz.prog 14 #[.slice A n c, .agg #[.bool na, .slice X nx cx, .bool nb, .slice Y ny cy]] w fun e w' => e = .returned (.tuple #[.int .i64 v, .int .i64 0]) ∧ Below w.heap.size w w' := by
  obtain ⟨es, g1, rfl, g3⟩ := pl_ok hp k1 e1
  subst hv
  exact Sign_ok A n c es na nb X Y nx cx ny cy r w g1 g3 hx h1 h2
theorem Primitive_pl (zs : List Int) (hp : PolyL w A n c xs) (k1 : okP xs = true) (e1 : endOkP xs = true) (hz : trimP (partP xs) = zs) (hk : okP zs = true) :
    Calls Tryz.prog 19 #[.slice A n c] w fun e w' => Below w.heap.size w w' ∧ ∃ A n c, e = .returned (.tuple #[.slice A n c, .int .i64 0]) ∧ PolyL w' A n c zs := by
  obtain ⟨es, g1, rfl, g3⟩ := pl_ok hp k1 e1
  exact (Primitive_ok A n c es w g1 g3).mono fun e w' h => by
    have := h.small (by rw [hz]; exact hk)
    unfold PolyE at this
    rw [hz] at this
    exact this
theorem Content_pl (z : Int) (hp : PolyL w A n c xs) (k1 : okP xs = true) (e1 : endOkP xs = true) (hz : contP xs = z) (hs : z.natAbs < pw 4096) :
    Calls Tryz.prog 32 #[.slice A n c] w fun e w' => Below w.heap.size w w' ∧ ∃ neg A n c, e = .returned (.tuple #[.agg #[.bool neg, .slice A n c], .int .i64 0]) ∧ Wd w' neg A n c z := by
  obtain ⟨es, g1, rfl, g3⟩ := pl_ok hp k1 e1
  subst hz
  exact (Content_ok A n c es w g1 g3).mono fun e w' h => by
    obtain ⟨h1, neg, A, n, c, code, rfl, h2⟩ := h
    obtain rfl := h2.code0 hs
    exact ⟨h1, neg, A, n, c, rfl, h2.small hs⟩
theorem Gcd_pl (zs : List Int) (hp : PolyL w A n c xs) (hq : PolyL w B m d ys) (k1 : okP xs = true) (e1 : endOkP xs = true) (k2 : okP ys = true) (e2 : endOkP ys = true) (hok : okCom ((partP ys).length + 1) (partP xs) (partP ys) = true) (hz : trimP (comP xs ys) = zs) (hk : okP zs = true) :
    Calls Tryz.prog 16 #[.slice A n c, .slice B m d] w fun e w' => Below w.heap.size w w' ∧ ∃ A n c, e = .returned (.tuple #[.slice A n c, .int .i64 0]) ∧ PolyL w' A n c zs := by
  obtain ⟨es, g1, rfl, g3⟩ := pl_ok hp k1 e1
  obtain ⟨fs, g4, rfl, g6⟩ := pl_ok hq k2 e2
  exact (pGcd_ok divide_ok A B n c m d es fs w g1 g4 g3 g6 hok).mono fun e w' h => by
    have := h.small (by rw [hz]; exact hk)
    unfold PolyE at this
    rw [hz] at this
    exact this
theorem Free_pl (zs : List Int) (hp : PolyL w A n c xs) (k1 : okP xs = true) (e1 : endOkP xs = true) (h0 : 0 < xs.length) (sd : (derP xs).length = 0 ∨ signP (derP xs) ≠ 0)
    (hok : okCom ((partP (derP xs)).length + 1) (partP xs) (partP (derP xs)) = true) (hok2 : okDivP xs (comP xs (derP xs)) = true) (hz : trimP (freeP xs) = zs) (hk : okP zs = true) :
    Calls Tryz.prog 12 #[.slice A n c] w fun e w' => Below w.heap.size w w' ∧ ∃ A n c, e = .returned (.tuple #[.slice A n c, .int .i64 0]) ∧ PolyL w' A n c zs := by
  have hl := hp.len
  obtain ⟨es, g1, rfl, g3⟩ := pl_ok hp k1 e1
  exact (pFree_ok divide_ok A n c es w g1 g3 (by omega) sd hok hok2).mono fun e w' h => by
    have := h.small (by rw [hz]; exact hk)
    unfold PolyE at this
    rw [hz] at this
    exact this
end
/-- What a region of PolyNames has yielded. -/
def names14 (gt : Nat) (i : Nat) (v : Value) (w : World) : Prop :=
  match i with
  | 1 => ∃ g, v = .slice (some ⟨g, 0, none⟩) 1 1 ∧ Blk w g 25 #[.bool false, .slice (some ⟨gt, 0, none⟩) 40 40]
  | 2 => ∃ g, v = .slice (some ⟨g, 0, none⟩) 1 1 ∧ Blk w g 2 #[.int .i64 1]
  | 3 => ∃ A n c, v = .slice A n c ∧ PolyL w A n c [1]
  | _ => True
theorem top_ok : pOk [⟨false, none, 40, 40, List.replicate 40 4294967295⟩] = true := by decide +kernel
theorem top_big : okP (trimP (joinP (fun a b => a + b) [val (List.replicate 40 4294967295)] [1])) = false := by decide +kernel
theorem far_ok : okF false ((List.replicate 65 0).set 64 1) false [1] = true := by decide +kernel
end Go.Proofs.YtljocgdhdilglaaGreat
