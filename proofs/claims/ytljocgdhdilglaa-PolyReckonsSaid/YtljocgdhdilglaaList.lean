/- Lists of whole numbers in memory, valid or not. -/
import Derived.Test.YtljocgdhdilglaaMem
namespace Go.Proofs.Ytljocgdhdilglaa
open Go.RowKit

/-- An element of a []api.Wide: its sign, its slice, the limbs that the slice holds. -/
structure WE where
  neg : Bool
  A : Option Addr
  n : Nat
  c : Nat
  l : List Nat

def WE.num (e : WE) : Int := sg e.neg (val e.l)

/-- Are the sign and the limbs a valid number? -/
def okW (neg : Bool) (l : List Nat) : Bool := decide (l.length ≤ 4096) && decide (l.getLast? ≠ some 0) && !(l.isEmpty && neg)
def WE.ok (e : WE) : Bool := okW e.neg e.l

theorem okW_big {neg : Bool} {l : List Nat} (h : 4096 < l.length) : okW neg l = false := by unfold okW; simp; omega
theorem getLast_getD {l : List Nat} (h : 0 < l.length) : l.getLast? = some (l[l.length - 1]?.getD 0) := by
  rw [List.getLast?_eq_getElem?, List.getElem?_eq_getElem (by omega)]; rfl
theorem okW_last {neg : Bool} {l : List Nat} (h : 0 < l.length) (h' : l[l.length - 1]?.getD 0 = 0) : okW neg l = false := by
  unfold okW; rw [getLast_getD h, h']; simp
theorem okW_ok {neg : Bool} {l : List Nat} (h : 0 < l.length) (h1 : l.length ≤ 4096) (h' : l[l.length - 1]?.getD 0 ≠ 0) : okW neg l = true := by
  have hne : l.isEmpty = false := by cases l <;> simp_all
  unfold okW; rw [getLast_getD h]
  simp [h1, hne, h']
theorem okW_nil {neg : Bool} {l : List Nat} (h : l.length = 0) : okW neg l = !neg := by
  have : l = [] := List.eq_nil_of_length_eq_zero h
  subst this; simp [okW]

/-- A number that is valid stands in its one form. -/
theorem okW_iff {neg : Bool} {l : List Nat} (hl : Lt32 l) : okW neg l = true ↔ neg = decide (sg neg (val l) < 0) ∧ l.length ≤ 4096 ∧ l = digits (sg neg (val l)).natAbs := by
  rw [sg_natAbs, sg_neg]
  constructor
  · intro h
    unfold okW at h
    simp only [Bool.and_eq_true, decide_eq_true_eq, Bool.not_eq_true', Bool.and_eq_false_imp] at h
    obtain ⟨⟨h1, h2⟩, h3⟩ := h
    have h4 := eq_digits hl h2
    refine ⟨?_, h1, h4⟩
    cases neg with
    | false => rfl
    | true =>
      have : l ≠ [] := fun e => by subst e; simp at h3
      have : 0 < val l := by
        rw [← length_digits_pos, ← h4]
        exact List.length_pos_iff.2 this
      simp [this]
  · rintro ⟨h1, h2, h3⟩
    unfold okW
    simp only [Bool.and_eq_true, decide_eq_true_eq, Bool.not_eq_true', Bool.and_eq_false_imp]
    refine ⟨⟨h2, by rw [h3]; exact digits_getLast _⟩, fun h => ?_⟩
    have : l = [] := by simpa using h
    subst this
    rw [h1]; simp [val]

theorem Wd.ok {w : World} {neg : Bool} {A : Option Addr} {n c : Nat} {z : Int} (h : Wd w neg A n c z) : okW neg (digits z.natAbs) = true := by
  rw [okW_iff (lt32_digits _), h.sgEq]
  exact ⟨h.1, by rw [h.2.2.len]; exact h.2.1, rfl⟩
theorem Wd.of_ok {w : World} {neg : Bool} {A : Option Addr} {n c : Nat} {l : List Nat} (h : Lim w A n c l) (hk : okW neg l = true) : Wd w neg A n c (sg neg (val l)) := by
  obtain ⟨h1, h2, h3⟩ := (okW_iff h.lt).1 hk
  refine ⟨h1, by rw [← h.len]; exact h2, ?_⟩
  rw [← h3]; exact h

/-- The slice 'A, n of c' holds the numbers es. -/
def WL (w : World) (A : Option Addr) (n c : Nat) (es : List WE) : Prop :=
  es.length = n ∧ n ≤ c ∧ c ≤ maxLen ∧ (0 < n → ∃ b o, A = some ⟨b, o, none⟩ ∧ ∀ k e, es[k]? = some e → w.cell? ⟨b, o + k * 2, none⟩ = some (.bool e.neg) ∧ w.cell? ⟨b, o + k * 2 + 1, none⟩ = some (.slice e.A e.n e.c)) ∧
    ∀ e ∈ es, Lim w e.A e.n e.c e.l

section
variable {w w' : World} {A : Option Addr} {n c : Nat} {es : List WE}
theorem WL.len (h : WL w A n c es) : es.length = n := h.1
theorem WL.nil (w : World) (A : Option Addr) (c : Nat) (hc : c ≤ maxLen) : WL w A 0 c [] := ⟨rfl, Nat.zero_le _, hc, fun h => absurd h (by omega), fun e h => by cases h⟩
theorem WL.at_ (h : WL w A n c es) {k : Nat} (hk : k < n) : ∃ b o e, A = some ⟨b, o, none⟩ ∧ es[k]? = some e ∧ w.cell? ⟨b, o + k * 2, none⟩ = some (.bool e.neg) ∧ w.cell? ⟨b, o + k * 2 + 1, none⟩ = some (.slice e.A e.n e.c) ∧ Lim w e.A e.n e.c e.l := by
  obtain ⟨b, o, e, hc⟩ := h.2.2.2.1 (by omega)
  have hl : k < es.length := by rw [h.1]; exact hk
  have := hc k _ (List.getElem?_eq_getElem hl)
  exact ⟨b, o, es[k], e, List.getElem?_eq_getElem hl, this.1, this.2, h.2.2.2.2 _ (List.getElem_mem hl)⟩
theorem WL.keep (h : WL w A n c es) (hk : ∀ p : Addr, p.block < w.heap.size → w'.cell? p = w.cell? p) : WL w' A n c es :=
  ⟨h.1, h.2.1, h.2.2.1, fun hn => by
    obtain ⟨b, o, e, hc⟩ := h.2.2.2.1 hn
    exact ⟨b, o, e, fun k e' he => ⟨(hk _ (lt_of_cell (hc k e' he).1)).trans (hc k e' he).1, (hk _ (lt_of_cell (hc k e' he).2)).trans (hc k e' he).2⟩⟩,
    fun e he => (h.2.2.2.2 e he).keep hk⟩
theorem WL.below (h : WL w A n c es) (hb : Below w.heap.size w w') : WL w' A n c es := h.keep fun _ hp => hb.cell hp
theorem WL.alloc (h : WL w A n c es) (o : Obj) : WL (w.alloc o) A n c es := h.below ((Below.refl _ _).alloc (Nat.le_refl _) _)
theorem WL.take (h : WL w A n c es) {k : Nat} (hk : k ≤ n) : WL w A k c (es.take k) :=
  ⟨by rw [List.length_take, h.len]; omega, by have := h.2.1; omega, h.2.2.1, fun h0 => (by
    obtain ⟨b, o, e, hc⟩ := h.2.2.2.1 (by omega)
    refine ⟨b, o, e, fun j e' hj => hc j e' ?_⟩
    rw [List.getElem?_take] at hj
    split at hj
    · exact hj
    · cases hj), fun e he => h.2.2.2.2 e (List.mem_of_mem_take he)⟩
end

/-- One number, two numbers laid into a new slice. -/
theorem WL.one {w : World} {neg : Bool} {A : Option Addr} {n c : Nat} {l : List Nat} (h : Lim w A n c l) (t : TypeId) :
    WL (w.alloc (.cells #[.bool neg, .slice A n c] t)) (some ⟨w.heap.size, 0, none⟩) 1 1 [⟨neg, A, n, c, l⟩] :=
  ⟨rfl, by omega, by unfold maxLen; omega, fun _ => ⟨_, _, rfl, fun k e he => by
    cases k with
    | zero =>
      simp at he; subst he
      have hb := Blk.new w t #[.bool neg, .slice A n c]
      exact ⟨hb.cell 0, hb.cell 1⟩
    | succ k => simp at he⟩, fun e he => by simp at he; subst he; exact h.alloc _⟩
theorem WL.two {w : World} {neg neg' : Bool} {A A' : Option Addr} {n c n' c' : Nat} {l l' : List Nat} (h : Lim w A n c l) (h' : Lim w A' n' c' l') (t : TypeId) :
    WL (w.alloc (.cells #[.bool neg, .slice A n c, .bool neg', .slice A' n' c'] t)) (some ⟨w.heap.size, 0, none⟩) 2 2 [⟨neg, A, n, c, l⟩, ⟨neg', A', n', c', l'⟩] :=
  ⟨rfl, by omega, by unfold maxLen; omega, fun _ => ⟨_, _, rfl, fun k e he => by
    have hb := Blk.new w t #[.bool neg, .slice A n c, .bool neg', .slice A' n' c']
    match k with
    | 0 => simp at he; subst he; exact ⟨hb.cell 0, hb.cell 1⟩
    | 1 => simp at he; subst he; exact ⟨hb.cell 2, hb.cell 3⟩
    | k + 2 => simp at he⟩, fun e he => by
      simp at he
      rcases he with rfl | rfl
      · exact h.alloc _
      · exact h'.alloc _⟩

theorem keep_blk {W w1 : World} {g : Nat} {t : TypeId} {cs : Array Value} (hb : Below W.heap.size W w1) (h : Blk W g t cs) : Blk w1 g t cs := h.below hb h.lt

/-- No limb among a block's cells. -/
def NoLimb (cs : Array Value) : Prop := ∀ (i x : Nat), cs[i]? ≠ some (limb x)
theorem NoLimb.box (b : Bool) (A : Option Addr) (n c : Nat) : NoLimb #[.bool b, .slice A n c] := fun i x => by
  match i with
  | 0 => simp
  | 1 => simp
  | i + 2 => simp
theorem Lim.set_box {w : World} {A : Option Addr} {n c : Nat} {l : List Nat} (h : Lim w A n c l) {g : Nat} {t : TypeId} {cs : Array Value} (hb : Blk w g t cs) (hcs : NoLimb cs) (i : Nat) (u : Value) : Lim (w.setCell ⟨g, i, none⟩ u) A n c l :=
  ⟨h.1, h.2.1, h.2.2.1, h.2.2.2.1, fun hn => by
    obtain ⟨b, o, e, hc⟩ := h.2.2.2.2 hn
    refine ⟨b, o, e, fun k hk => (World.cell?_setCell_other w _ _ u ?_).trans (hc k hk)⟩
    intro he
    have hbg : b = g := by cases he; rfl
    have := hc k hk
    rw [hbg, hb.cell] at this
    exact hcs _ _ this⟩
theorem ResP.set_box {w : World} {z : Int} {neg : Bool} {A : Option Addr} {n c : Nat} {code : Int} (h : ResP w z neg A n c code) {g : Nat} {t : TypeId} {cs : Array Value} (hb : Blk w g t cs) (hcs : NoLimb cs) (i : Nat) (u : Value) : ResP (w.setCell ⟨g, i, none⟩ u) z neg A n c code := by
  rcases h with ⟨h1, h2, h3⟩ | h
  · exact .inl ⟨h1, h2, h3.1, h3.2.1, h3.2.2.set_box hb hcs i u⟩
  · exact .inr h
theorem ResP.below {w w' : World} {z : Int} {neg : Bool} {A : Option Addr} {n c : Nat} {code : Int} (h : ResP w z neg A n c code) (hb : Below w.heap.size w w') : ResP w' z neg A n c code := by
  rcases h with ⟨h1, h2, h3⟩ | h
  · exact .inl ⟨h1, h2, h3.below hb⟩
  · exact .inr h
/-- The result is stored into the result's box. -/
theorem ResW.box {w w3 : World} {z : Int} {neg : Bool} {A : Option Addr} {n c : Nat} {code : Int} {g : Nat} {t : TypeId} {b0 : Bool} {A0 : Option Addr} {n0 c0 : Nat} (hP : ResP w3 z neg A n c code) (hB : Below w.heap.size w w3) (hg : w.heap.size ≤ g) (hb : Blk w3 g t #[.bool b0, .slice A0 n0 c0]) :
    ResW w z (.returned (.tuple #[.agg #[.bool neg, .slice A n c], .int .i64 code])) ((w3.setCell ⟨g, 0, none⟩ (.bool neg)).setCell ⟨g, 1, none⟩ (.slice A n c)) := by
  have hb1 : Blk (w3.setCell ⟨g, 0, none⟩ (.bool neg)) g t #[.bool neg, .slice A0 n0 c0] := hb.set_ 0 (.bool neg)
  exact ⟨(hB.setCell (p := ⟨g, 0, none⟩) hg _).setCell (p := ⟨g, 1, none⟩) hg _, _, _, _, _, _, rfl, (hP.set_box hb (NoLimb.box _ _ _ _) _ _).set_box hb1 (NoLimb.box _ _ _ _) _ _⟩
end Go.Proofs.Ytljocgdhdilglaa
