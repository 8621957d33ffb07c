/- Lists of whole numbers in a block of the call's own. -/
import Derived.Test.YtljocgdhdilglaaPoly
import Derived.Test.YtljocgdhdilglaaApp
namespace Go.Proofs.Ytljocgdhdilglaa
open Go.RowKit

/-- The cells of numbers. -/
def cellsL : List WE → List Value
  | [] => []
  | e :: l => .bool e.neg :: .slice e.A e.n e.c :: cellsL l
def cellsW (es : List WE) : Array Value := (cellsL es).toArray

theorem cellsL_length (es : List WE) : (cellsL es).length = es.length * 2 := by
  induction es with
  | nil => rfl
  | cons e l ih => simp only [cellsL, List.length_cons, ih]; omega
theorem cellsL_get {es : List WE} {i : Nat} {e : WE} (h : es[i]? = some e) : (cellsL es)[i * 2]? = some (.bool e.neg) ∧ (cellsL es)[i * 2 + 1]? = some (.slice e.A e.n e.c) := by
  induction es generalizing i with
  | nil => simp at h
  | cons a l ih =>
    cases i with
    | zero => simp at h; subst h; exact ⟨rfl, rfl⟩
    | succ i =>
      have := ih (i := i) (by simpa using h)
      rw [show (i + 1) * 2 = i * 2 + 1 + 1 by omega]
      simpa [cellsL] using this
theorem cellsL_set {es : List WE} {i : Nat} (e : WE) (h : i < es.length) : ((cellsL es).set (i * 2) (.bool e.neg)).set (i * 2 + 1) (.slice e.A e.n e.c) = cellsL (es.set i e) := by
  induction es generalizing i with
  | nil => simp at h
  | cons a l ih =>
    cases i with
    | zero => rfl
    | succ i =>
      have := ih (i := i) (by simpa using h)
      rw [show (i + 1) * 2 = i * 2 + 1 + 1 by omega]
      simp only [cellsL, List.set_cons_succ, this]
theorem cellsL_noLimb (es : List WE) : ∀ (i x : Nat), (cellsL es)[i]? ≠ some (limb x) := by
  induction es with
  | nil => intro i x; simp [cellsL]
  | cons a l ih =>
    intro i x
    match i with
    | 0 => simp [cellsL]
    | 1 => simp [cellsL]
    | i + 2 => simpa [cellsL] using ih i x
theorem cellsW_get {es : List WE} {i : Nat} {e : WE} (h : es[i]? = some e) : (cellsW es)[i * 2]? = some (.bool e.neg) ∧ (cellsW es)[i * 2 + 1]? = some (.slice e.A e.n e.c) := by
  simpa [cellsW] using cellsL_get h
theorem cellsW_set {es : List WE} {i : Nat} (e : WE) (h : i < es.length) : ((cellsW es).setIfInBounds (i * 2) (.bool e.neg)).setIfInBounds (i * 2 + 1) (.slice e.A e.n e.c) = cellsW (es.set i e) := by
  unfold cellsW; rw [← cellsL_set e h]; simp
theorem cellsW_noLimb (es : List WE) : NoLimb (cellsW es) := fun i x => by simpa [cellsW] using cellsL_noLimb es i x
theorem cellsW_noLimb1 (es : List WE) (i : Nat) (b : Bool) : NoLimb ((cellsW es).setIfInBounds i (.bool b)) := fun j x => by
  rw [Array.getElem?_setIfInBounds]
  split
  · split <;> simp
  · exact cellsW_noLimb es j x

/-- A block of the call's own holds valid numbers, worth xs. -/
def POwn (t : TypeId) (w : World) (g : Nat) (xs : List Int) : Prop :=
  ∃ es : List WE, Blk w g t (cellsW es) ∧ (∀ e ∈ es, Lim w e.A e.n e.c e.l ∧ e.ok = true) ∧ es.map WE.num = xs

section
variable {t : TypeId} {w w' : World} {g : Nat} {xs : List Int}
theorem POwn.below (h : POwn t w g xs) (hb : Below w.heap.size w w') : POwn t w' g xs := by
  obtain ⟨es, h1, h2, h3⟩ := h
  exact ⟨es, keep_blk hb h1, fun e he => ⟨(h2 e he).1.below hb, (h2 e he).2⟩, h3⟩
theorem POwn.alloc (h : POwn t w g xs) (o : Obj) : POwn t (w.alloc o) g xs := h.below ((Below.refl _ _).alloc (Nat.le_refl _) _)
theorem POwn.drewN (h : POwn t w g xs) (k : Nat) : POwn t (w.drewN k) g xs := h.below (below_dn (Below.refl _ _) _)
theorem POwn.lt (h : POwn t w g xs) : g < w.heap.size := by obtain ⟨es, h1, _⟩ := h; exact h1.lt
theorem POwn.frozen (h : POwn t w g xs) (i : Nat) : w.frozen? ⟨g, i, none⟩ = false := by obtain ⟨es, h1, _⟩ := h; exact h1.frozen i
/-- An element. -/
theorem POwn.at_ (h : POwn t w g xs) {i : Nat} (hi : i < xs.length) : ∃ neg A n c, w.cell? ⟨g, i * 2, none⟩ = some (.bool neg) ∧ w.cell? ⟨g, i * 2 + 1, none⟩ = some (.slice A n c) ∧ Wd w neg A n c (xs[i]?.getD 0) := by
  obtain ⟨es, h1, h2, rfl⟩ := h
  have hl : i < es.length := by simpa using hi
  have he := List.getElem?_eq_getElem hl
  have hc := cellsW_get he
  have hm := h2 es[i] (List.getElem_mem hl)
  refine ⟨es[i].neg, es[i].A, es[i].n, es[i].c, by rw [h1.cell]; exact hc.1, by rw [h1.cell]; exact hc.2, ?_⟩
  rw [List.getElem?_map, he]
  exact WE.wd hm.1 hm.2
/-- A store of an element. -/
theorem POwn.set_ (h : POwn t w g xs) {i : Nat} (hi : i < xs.length) {neg : Bool} {A : Option Addr} {n c : Nat} {z : Int} (hz : Wd w neg A n c z) :
    POwn t ((w.setCell ⟨g, i * 2, none⟩ (.bool neg)).setCell ⟨g, i * 2 + 1, none⟩ (.slice A n c)) g (xs.set i z) := by
  obtain ⟨es, h1, h2, rfl⟩ := h
  have hl : i < es.length := by simpa using hi
  have hb1 : Blk (w.setCell ⟨g, i * 2, none⟩ (.bool neg)) g t ((cellsW es).setIfInBounds (i * 2) (.bool neg)) := h1.set_ _ _
  have hb2 := hb1.set_ (i * 2 + 1) (.slice A n c)
  have hs := cellsW_set (es := es) (i := i) ⟨neg, A, n, c, digits z.natAbs⟩ hl
  dsimp only at hs
  rw [hs] at hb2
  have keep : ∀ (A' : Option Addr) (n' c' : Nat) (l : List Nat), Lim w A' n' c' l → Lim ((w.setCell ⟨g, i * 2, none⟩ (.bool neg)).setCell ⟨g, i * 2 + 1, none⟩ (.slice A n c)) A' n' c' l := fun _ _ _ _ h => (h.set_box h1 (cellsW_noLimb es) _ _).set_box hb1 (cellsW_noLimb1 _ _ _) _ _
  refine ⟨_, hb2, fun e he => ?_, ?_⟩
  · rcases List.mem_or_eq_of_mem_set he with he | rfl
    · exact ⟨keep _ _ _ _ (h2 e he).1, (h2 e he).2⟩
    · exact ⟨keep _ _ _ _ hz.2.2, hz.ok⟩
  · rw [List.map_set]; congr 1; exact hz.sgEq
theorem POwn.poly (h : POwn t w g xs) (hn : xs.length ≤ maxLen) : PolyL w (some ⟨g, 0, none⟩) xs.length xs.length xs := by
  obtain ⟨es, h1, h2, rfl⟩ := h
  refine ⟨es, ⟨by simp, Nat.le_refl _, hn, fun _ => ⟨_, _, rfl, fun k e he => ?_⟩, fun e he => (h2 e he).1⟩, rfl, fun e he => (h2 e he).2⟩
  have hc := cellsW_get he
  rw [Nat.zero_add, h1.cell, h1.cell]
  exact hc
end

def zeroWE : WE := ⟨false, none, 0, 0, []⟩
theorem cellsL_zero (n : Nat) : cellsL (List.replicate n zeroWE) = (madeCells #[.bool false, .slice none 0 0] (n * 2)).toList := by
  apply List.ext_getElem?
  intro i
  have hm : (madeCells #[.bool false, .slice none 0 0] (n * 2)).toList[i]? = if i < n * 2 then some ((#[Value.bool false, Value.slice none 0 0])[i % 2]!) else none := by
    unfold madeCells
    by_cases h : i < n * 2
    · simp [h]
    · simp [h]
  rw [hm]
  by_cases h : i < n * 2
  · rw [if_pos h]
    have he : (List.replicate n zeroWE)[i / 2]? = some zeroWE := by rw [List.getElem?_replicate, if_pos (by omega)]
    have hc := cellsL_get he
    rcases Nat.mod_two_eq_zero_or_one i with h2 | h2
    · rw [show i / 2 * 2 = i by omega] at hc; rw [hc.1, h2]; rfl
    · rw [show i / 2 * 2 + 1 = i by omega] at hc; rw [hc.2, h2]; rfl
  · rw [if_neg h]
    exact List.getElem?_eq_none (by rw [cellsL_length]; simp; omega)

theorem makeW {P : Program} (t e : TypeId) {i : TypeInfo} (ht : P.underlying t = some (.slice e)) (hi : P.info? e = some i) (hz : i.zero = some (.agg #[.bool false, .slice none 0 0])) (hs : i.size = 2) (hb : i.bytes = 32)
    (x : Int) (n : Nat) (hx : x = n) (hn : n ≤ 1000000000000) (W : World) :
    (Instr.makeSlice t (.int .i64 x) (.int .i64 x)).run P W = .ok (.slice (some ⟨W.heap.size, 0, none⟩) n n) (W.alloc (.cells (cellsW (List.replicate n zeroWE)) e)) := by
  subst hx
  have hr := run_make (P := P) W t e i _ ht hi hz .i64 .i64 n n (by omega) (by omega) (by rw [hb]; omega) (by omega)
  simp only [Int.toNat_natCast] at hr
  rw [hr]
  have : madeCells (Value.agg #[.bool false, .slice none 0 0]).cells (n * i.size) = cellsW (List.replicate n zeroWE) := by
    rw [hs]
    apply Array.toList_inj.1
    unfold cellsW
    rw [cellsL_zero]
    rfl
  rw [this]
theorem POwn.new (t : TypeId) (w : World) (n : Nat) : POwn t (w.alloc (.cells (cellsW (List.replicate n zeroWE)) t)) w.heap.size (List.replicate n 0) :=
  ⟨List.replicate n zeroWE, Blk.new _ _ _, fun e he => by rw [(List.mem_replicate.1 he).2]; exact ⟨Lim.nil _ _ _ (Nat.zero_le _), rfl⟩, by simp [zeroWE, WE.num, sg, val]⟩
end Go.Proofs.Ytljocgdhdilglaa
