/- Polynomials: lists of whole numbers, the coefficient of the lowest power first. -/
import Derived.Test.YtljocgdhdilglaaList
namespace Go.Proofs.Ytljocgdhdilglaa
open Go.RowKit

/-- A coefficient that is not valid. -/
def WE.bad (e : WE) : Bool := decide (40 < e.l.length) || !e.ok
/-- Is the list a valid polynomial? -/
def pOk (es : List WE) : Bool := decide (es.length ≤ 9) && !es.any WE.bad && !(es.getLast?.any fun e => e.l.isEmpty)

/-- Zeros at the end cut off. -/
def trimP : List Int → List Int
  | [] => []
  | x :: l => match trimP l with
    | [] => if x = 0 then [] else [x]
    | y :: m => x :: y :: m

/-- Coefficients that are small enough. -/
def okP (xs : List Int) : Bool := decide (xs.length ≤ 9) && xs.all fun x => decide (x.natAbs < pw 40)

theorem trimP_take {xs : List Int} {k : Nat} (hz : ∀ j, k ≤ j → xs[j]?.getD 0 = 0) (hk : k = 0 ∨ xs[k - 1]?.getD 0 ≠ 0) : trimP xs = xs.take k := by
  induction xs generalizing k with
  | nil => simp [trimP]
  | cons x l ih =>
    cases k with
    | zero =>
      have h0 := hz 0 (Nat.le_refl _)
      have := ih (k := 0) (fun j _ => by have := hz (j + 1) (by omega); simpa using this) (.inl rfl)
      simp at h0
      simp [trimP, this, h0]
    | succ k =>
      have h1 : ∀ j, k ≤ j → l[j]?.getD 0 = 0 := fun j hj => by have := hz (j + 1) (by omega); simpa using this
      rcases Nat.eq_zero_or_pos k with rfl | h
      · have := ih (k := 0) (fun j _ => h1 j (by omega)) (.inl rfl)
        have hx : x ≠ 0 := by rcases hk with hk | hk; omega; simpa using hk
        simp [trimP, this, hx]
      · have hk' : l[k - 1]?.getD 0 ≠ 0 := by
          rcases hk with hk | hk
          · omega
          · rw [show k + 1 - 1 = (k - 1) + 1 by omega] at hk; simpa using hk
        have h2 := ih h1 (.inr hk')
        have hne : l.take k ≠ [] := by
          intro he
          have : l[k - 1]? = none := by
            rcases Nat.lt_or_ge (k - 1) l.length with h' | h'
            · have := congrArg List.length he; rw [List.length_take, List.length_nil] at this; omega
            · exact List.getElem?_eq_none h'
          rw [this] at hk'; simp at hk'
        rw [trimP, h2, List.take_succ_cons]
        cases hl : l.take k with
        | nil => exact absurd hl hne
        | cons y m => rfl

/-- The slice holds valid numbers, worth xs. -/
def PolyL (w : World) (A : Option Addr) (n c : Nat) (xs : List Int) : Prop := ∃ es, WL w A n c es ∧ es.map WE.num = xs ∧ ∀ e ∈ es, e.ok = true

theorem WE.num_zero {w : World} {e : WE} (h : Lim w e.A e.n e.c e.l) (hk : e.ok = true) : e.n = 0 ↔ e.num = 0 := by
  have h1 := (okW_iff h.lt).1 hk
  have h2 := h.len
  constructor
  · intro h0
    have : e.l = [] := List.eq_nil_of_length_eq_zero (by omega)
    unfold WE.num; rw [this]; cases e.neg <;> simp [sg, val]
  · intro h0
    have h3 := h1.2.2
    unfold WE.num at h0
    rw [h0] at h3
    rw [← h2, h3]; simp [digits_zero]
theorem WE.wd {w : World} {e : WE} (h : Lim w e.A e.n e.c e.l) (hk : e.ok = true) : Wd w e.neg e.A e.n e.c e.num := Wd.of_ok h hk
theorem WE.len40 {w : World} {e : WE} (h : Lim w e.A e.n e.c e.l) (hk : e.ok = true) : e.l.length ≤ 40 ↔ e.num.natAbs < pw 40 := by
  have h1 := (okW_iff h.lt).1 hk
  have h3 := h1.2.2
  have : e.l.length = (digits e.num.natAbs).length := by unfold WE.num; rw [← h3]
  rw [this, length_digits_le]

theorem PolyL.pok {w : World} {A : Option Addr} {n c : Nat} {es : List WE} (h : WL w A n c es) (hk : ∀ e ∈ es, e.ok = true) (hl : ∀ x, (es.map WE.num).getLast? = some x → x ≠ 0) : pOk es = okP (es.map WE.num) := by
  have h1 : es.any WE.bad = !(es.map WE.num).all fun x => decide (x.natAbs < pw 40) := by
    rw [List.all_map, Bool.eq_iff_iff]
    simp only [List.any_eq_true, Bool.not_eq_true', List.all_eq_false, Function.comp]
    constructor
    · rintro ⟨e, he, hb⟩
      refine ⟨e, he, ?_⟩
      simp only [WE.bad, hk e he, Bool.not_true, Bool.or_false, decide_eq_true_eq] at hb
      have := WE.len40 (h.2.2.2.2 e he) (hk e he)
      simp only [decide_eq_true_eq]
      intro h'
      have := this.2 h'
      omega
    · rintro ⟨e, he, hb⟩
      refine ⟨e, he, ?_⟩
      simp only [WE.bad, hk e he, Bool.not_true, Bool.or_false, decide_eq_true_eq]
      have := WE.len40 (h.2.2.2.2 e he) (hk e he)
      simp only [decide_eq_true_eq] at hb
      rcases Nat.lt_or_ge 40 e.l.length with h' | h'
      · exact h'
      · exact absurd (this.1 h') hb
  have h2 : (es.getLast?.any fun e => e.l.isEmpty) = false := by
    rcases Option.eq_none_or_eq_some es.getLast? with h' | ⟨e, h'⟩
    · rw [h']; rfl
    · rw [h']
      have he := List.mem_of_getLast? h'
      have hx := hl e.num (by rw [List.getLast?_map, h']; rfl)
      have h0 := WE.num_zero (h.2.2.2.2 e he) (hk e he)
      simp only [Option.any_some]
      rw [Bool.eq_false_iff]
      intro hh
      have : e.l = [] := by simpa using hh
      exact hx (h0.1 (by rw [← (h.2.2.2.2 e he).len, this]; rfl))
  unfold pOk okP
  rw [h1, h2]
  simp
theorem trimP_last (xs : List Int) : ∀ x, (trimP xs).getLast? = some x → x ≠ 0 := by
  induction xs with
  | nil => simp [trimP]
  | cons a l ih =>
    intro x hx
    rw [trimP] at hx
    cases hl : trimP l with
    | nil =>
      rw [hl] at hx
      by_cases ha : a = 0
      · simp [ha] at hx
      · simp [ha] at hx; rw [← hx]; exact ha
    | cons y m =>
      rw [hl] at hx ih
      exact ih x (by simpa using hx)
theorem PolyL.below {w w' : World} {A : Option Addr} {n c : Nat} {xs : List Int} (h : PolyL w A n c xs) (hb : Below w.heap.size w w') : PolyL w' A n c xs := by
  obtain ⟨es, h1, h2, h3⟩ := h
  exact ⟨es, h1.below hb, h2, h3⟩
theorem PolyL.take {w : World} {A : Option Addr} {n c : Nat} {xs : List Int} (h : PolyL w A n c xs) {k : Nat} (hk : k ≤ n) : PolyL w A k c (xs.take k) := by
  obtain ⟨es, h1, h2, h3⟩ := h
  exact ⟨es.take k, h1.take hk, by rw [List.map_take, h2], fun e he => h3 e (List.mem_of_mem_take he)⟩
theorem PolyL.len {w : World} {A : Option Addr} {n c : Nat} {xs : List Int} (h : PolyL w A n c xs) : xs.length = n := by
  obtain ⟨es, h1, h2, h3⟩ := h
  rw [← h2, List.length_map]; exact h1.len
theorem PolyL.nil (w : World) (A : Option Addr) (c : Nat) (hc : c ≤ maxLen) : PolyL w A 0 c [] := ⟨[], WL.nil w A c hc, rfl, fun e h => by cases h⟩

/-- A result (polynomial, error). -/
def ResPoly (w : World) (xs : List Int) (e : Ending) (w' : World) : Prop :=
  Below w.heap.size w w' ∧ ∃ A n c code, e = .returned (.tuple #[.slice A n c, .int .i64 code]) ∧ ((okP (trimP xs) = true ∧ code = 0 ∧ PolyL w' A n c (trimP xs)) ∨ (okP (trimP xs) = false ∧ code = 16 ∧ n = 0 ∧ c = 0))
/-- A result (polynomial, error) for a polynomial that is not valid. -/
def BadPoly (w : World) (e : Ending) (w' : World) : Prop := Below w.heap.size w w' ∧ ∃ A, e = .returned (.tuple #[.slice A 0 0, .int .i64 8])
end Go.Proofs.Ytljocgdhdilglaa
