/- Rows of fractions in a block of the call's own, whose elements may be written. Determinants by Laplace's expansion along the first column, over the rational numbers: what adding a multiple of a row, and exchanging rows, do. Elimination with fractions, and without them (each element a determinant): what both reckon, and that they go side by side. -/
import Derived.Test.YtigdclhagmnopaaGreatZa23
import Derived.Test.YtigdclhagmnopaaGreatZk26
set_option linter.unusedSimpArgs false
set_option linter.unusedVariables false

namespace Go.Proofs.YtigdclhagmnopaaGreat
open Go.RowKit

theorem cellsF_set {es : List FE} {i : Nat} (e : FE) (h : i < es.length) : ((((cellsF es).set (i * 4) (.bool e.na)).set (i * 4 + 1) (.slice e.A e.n e.c)).set (i * 4 + 2) (.bool e.nb)).set (i * 4 + 3) (.slice e.B e.m e.d) = cellsF (es.set i e) := by
 induction es generalizing i with
 | nil => simp at h
 | cons a l ih =>
  cases i with
  | zero => rfl
  | succ i =>
   have := ih (i := i) (by simpa using h)
   rw [show (i + 1) * 4 = i * 4 + 1 + 1 + 1 + 1 by omega]
   simp only [cellsF, List.set_cons_succ, this]
theorem cellsFA_set {es : List FE} {i : Nat} (e : FE) (h : i < es.length) : ((((cellsFA es).setIfInBounds (i * 4) (.bool e.na)).setIfInBounds (i * 4 + 1) (.slice e.A e.n e.c)).setIfInBounds (i * 4 + 2) (.bool e.nb)).setIfInBounds (i * 4 + 3) (.slice e.B e.m e.d) = cellsFA (es.set i e) := by
 unfold cellsFA; rw [← cellsF_set e h]; simp
theorem noLimb_set {cs : Array Value} (h : NoLimb cs) (i : Nat) {v : Value} (hv : ∀ x, v ≠ limb x) : NoLimb (cs.setIfInBounds i v) := fun j x => by
 rw [Array.getElem?_setIfInBounds]
 split
 · split
   · simpa using hv x
   · simp
 · exact h j x
/-- The store of a fraction. -/
def setF (w : World) (g i : Nat) (na : Bool) (A : Option Addr) (n c : Nat) (nb : Bool) (B : Option Addr) (m d : Nat) : World :=
 (((w.setCell ⟨g, i * 4, none⟩ (.bool na)).setCell ⟨g, i * 4 + 1, none⟩ (.slice A n c)).setCell ⟨g, i * 4 + 2, none⟩ (.bool nb)).setCell ⟨g, i * 4 + 3, none⟩ (.slice B m d)
section
variable {w : World} {g i : Nat} {na : Bool} {A : Option Addr} {n c : Nat} {nb : Bool} {B : Option Addr} {m d : Nat}
theorem setF_lim {A' : Option Addr} {n' c' : Nat} {l : List Nat} {t : TypeId} {cs : Array Value} (h : Lim w A' n' c' l) (hb : Blk w g t cs) (hcs : NoLimb cs) : Lim (setF w g i na A n c nb B m d) A' n' c' l := by
 have h1 := hb.set_ (i * 4) (.bool na)
 have l1 := noLimb_set hcs (i * 4) (v := .bool na) (fun x => by simp)
 have h2 := h1.set_ (i * 4 + 1) (.slice A n c)
 have l2 := noLimb_set l1 (i * 4 + 1) (v := .slice A n c) (fun x => by simp)
 have h3 := h2.set_ (i * 4 + 2) (.bool nb)
 have l3 := noLimb_set l2 (i * 4 + 2) (v := .bool nb) (fun x => by simp)
 exact (((h.set_box hb hcs _ _).set_box h1 l1 _ _).set_box h2 l2 _ _).set_box h3 l3 _ _
theorem setF_fr {na' : Bool} {A' : Option Addr} {n' c' : Nat} {nb' : Bool} {B' : Option Addr} {m' d' : Nat} {r : Rat} {t : TypeId} {cs : Array Value} (h : Fr w na' A' n' c' nb' B' m' d' r) (hb : Blk w g t cs) (hcs : NoLimb cs) : Fr (setF w g i na A n c nb B m d) na' A' n' c' nb' B' m' d' r :=
 ⟨⟨h.1.1, h.1.2.1, setF_lim h.1.2.2 hb hcs⟩, ⟨h.2.1, h.2.2.1, setF_lim h.2.2.2 hb hcs⟩⟩
theorem setF_far {g' : Nat} {t : TypeId} {cs : Array Value} (h : Blk w g' t cs) (hg : g' ≠ g) : Blk (setF w g i na A n c nb B m d) g' t cs := (((h.far hg _).far hg _).far hg _).far hg _
theorem setF_kept {G : Nat → Prop} {w0 : World} (h : Kept G w0 w) (hg : G g ∨ w0.heap.size ≤ g) : Kept G w0 (setF w g i na A n c nb B m d) :=
 (((h.set_ (p := ⟨g, i * 4, none⟩) hg _).set_ (p := ⟨g, i * 4 + 1, none⟩) hg _).set_ (p := ⟨g, i * 4 + 2, none⟩) hg _).set_ (p := ⟨g, i * 4 + 3, none⟩) hg _
end
/-- A block of cells of at least n fractions, whatever they are. -/
def FRaw (t : TypeId) (w : World) (g n : Nat) : Prop := ∃ es : List FE, Blk w g t (cellsFA es) ∧ n ≤ es.length
/-- A block of the call's own begins with the fractions qs. -/
def FOwn (t : TypeId) (w : World) (g : Nat) (qs : List Rat) : Prop := ∃ es zs : List FE, Blk w g t (cellsFA (es ++ zs)) ∧ (∀ e ∈ es, e.in_ w) ∧ es.map FE.q = qs
section
variable {t : TypeId} {w w' : World} {g : Nat} {qs : List Rat}
theorem FRaw.below {n : Nat} (h : FRaw t w g n) (hb : Below w.heap.size w w') : FRaw t w' g n := by obtain ⟨es, h1, h2⟩ := h; exact ⟨es, keep_blk hb h1, h2⟩
theorem FRaw.lt {n : Nat} (h : FRaw t w g n) : g < w.heap.size := by obtain ⟨es, h1, h2⟩ := h; exact h1.lt
theorem FRaw.box {n : Nat} (h : FRaw t w g n) : ∃ t cs, Blk w g t cs ∧ NoLimb cs := by obtain ⟨es, h1, h2⟩ := h; exact ⟨t, _, h1, cellsFA_noLimb es⟩
theorem FRaw.set_ {n i : Nat} (h : FRaw t w g n) (hi : i < n) (na : Bool) (A : Option Addr) (k c : Nat) (nb : Bool) (B : Option Addr) (m d : Nat) : FRaw t (setF w g i na A k c nb B m d) g n := by
 obtain ⟨es, h1, hn⟩ := h
 have h2 := (((h1.set_ (i * 4) (.bool na)).set_ (i * 4 + 1) (.slice A k c)).set_ (i * 4 + 2) (.bool nb)).set_ (i * 4 + 3) (.slice B m d)
 have hs := cellsFA_set (es := es) (i := i) ⟨na, A, k, c, nb, B, m, d, 0⟩ (by omega)
 dsimp only at hs
 rw [hs] at h2
 exact ⟨_, h2, by rw [List.length_set]; exact hn⟩
theorem FRaw.cells {n i : Nat} (h : FRaw t w g n) (hi : i < n) : ∃ na A k c nb B m d, w.cell? ⟨g, i * 4, none⟩ = some (.bool na) ∧ w.cell? ⟨g, i * 4 + 1, none⟩ = some (.slice A k c) ∧ w.cell? ⟨g, i * 4 + 2, none⟩ = some (.bool nb) ∧ w.cell? ⟨g, i * 4 + 3, none⟩ = some (.slice B m d) := by
 obtain ⟨es, h1, hn⟩ := h
 have hc := cellsFA_get (List.getElem?_eq_getElem (show i < es.length by omega))
 exact ⟨_, _, _, _, _, _, _, _, by rw [h1.cell]; exact hc.1, by rw [h1.cell]; exact hc.2.1, by rw [h1.cell]; exact hc.2.2.1, by rw [h1.cell]; exact hc.2.2.2⟩
theorem FRaw.frozen {n : Nat} (h : FRaw t w g n) (i : Nat) : w.frozen? ⟨g, i, none⟩ = false := by obtain ⟨es, h1, -⟩ := h; exact h1.frozen i
theorem FRaw.other {n g' i : Nat} {na : Bool} {A : Option Addr} {k c : Nat} {nb : Bool} {B : Option Addr} {m d : Nat} (h : FRaw t w g n) (hne : g ≠ g') : FRaw t (setF w g' i na A k c nb B m d) g n := by
 obtain ⟨es, h1, h2⟩ := h
 exact ⟨es, setF_far h1 hne, h2⟩
theorem FOwn.raw (h : FOwn t w g qs) : FRaw t w g qs.length := by obtain ⟨es, zs, h1, h2, rfl⟩ := h; exact ⟨es ++ zs, h1, by simp⟩
theorem FOwn.below (h : FOwn t w g qs) (hb : Below w.heap.size w w') : FOwn t w' g qs := by
 obtain ⟨es, zs, h1, h2, h3⟩ := h
 exact ⟨es, zs, keep_blk hb h1, fun e he => (h2 e he).below hb, h3⟩
theorem FOwn.lt (h : FOwn t w g qs) : g < w.heap.size := h.raw.lt
theorem FOwn.box (h : FOwn t w g qs) : ∃ t cs, Blk w g t cs ∧ NoLimb cs := h.raw.box
theorem FOwn.frozen (h : FOwn t w g qs) (i : Nat) : w.frozen? ⟨g, i, none⟩ = false := h.raw.frozen i
theorem FOwn.take (h : FOwn t w g qs) (k : Nat) : FOwn t w g (qs.take k) := by
 obtain ⟨es, zs, h1, h2, rfl⟩ := h
 exact ⟨es.take k, es.drop k ++ zs, by rw [← List.append_assoc, List.take_append_drop]; exact h1, fun e he => h2 e (List.mem_of_mem_take he), by rw [List.map_take]⟩
theorem FOwn.at_ (h : FOwn t w g qs) {i : Nat} (hi : i < qs.length) : ∃ na A k c nb B m d, w.cell? ⟨g, i * 4, none⟩ = some (.bool na) ∧ w.cell? ⟨g, i * 4 + 1, none⟩ = some (.slice A k c) ∧ w.cell? ⟨g, i * 4 + 2, none⟩ = some (.bool nb) ∧ w.cell? ⟨g, i * 4 + 3, none⟩ = some (.slice B m d) ∧ Fr w na A k c nb B m d (qs[i]?.getD 0) := by
 obtain ⟨es, zs, h1, h2, rfl⟩ := h
 have hl : i < es.length := by simpa using hi
 have he := List.getElem?_eq_getElem hl
 have hc := cellsFA_get (es := es ++ zs) (i := i) (e := es[i]) (by rw [List.getElem?_append_left hl]; exact he)
 refine ⟨_, _, _, _, _, _, _, _, by rw [h1.cell]; exact hc.1, by rw [h1.cell]; exact hc.2.1, by rw [h1.cell]; exact hc.2.2.1, by rw [h1.cell]; exact hc.2.2.2, ?_⟩
 rw [List.getElem?_map, he]
 exact h2 _ (List.getElem_mem hl)
theorem FOwn.set_ (h : FOwn t w g qs) {i : Nat} (hi : i < qs.length) {na : Bool} {A : Option Addr} {k c : Nat} {nb : Bool} {B : Option Addr} {m d : Nat} {r : Rat} (hr : Fr w na A k c nb B m d r) : FOwn t (setF w g i na A k c nb B m d) g (qs.set i r) := by
 obtain ⟨es, zs, h1, h2, rfl⟩ := h
 have hl : i < es.length := by simpa using hi
 have h3 := (((h1.set_ (i * 4) (.bool na)).set_ (i * 4 + 1) (.slice A k c)).set_ (i * 4 + 2) (.bool nb)).set_ (i * 4 + 3) (.slice B m d)
 have hs := cellsFA_set (es := es ++ zs) (i := i) ⟨na, A, k, c, nb, B, m, d, r⟩ (by rw [List.length_append]; omega)
 dsimp only at hs
 rw [hs, List.set_append_left _ _ hl] at h3
 refine ⟨_, zs, h3, fun e he => ?_, by rw [List.map_set]⟩
 rcases List.mem_or_eq_of_mem_set he with he | rfl
 · exact setF_fr (h2 e he) h1 (cellsFA_noLimb _)
 · exact setF_fr hr h1 (cellsFA_noLimb _)
theorem FOwn.other {g' i : Nat} {na : Bool} {A : Option Addr} {k c : Nat} {nb : Bool} {B : Option Addr} {m d : Nat} (h : FOwn t w g qs) (hne : g ≠ g') (hb : ∃ t cs, Blk w g' t cs ∧ NoLimb cs) : FOwn t (setF w g' i na A k c nb B m d) g qs := by
 obtain ⟨es, zs, h1, h2, h3⟩ := h
 obtain ⟨t', cs, hb, hcs⟩ := hb
 exact ⟨es, zs, setF_far h1 hne, fun e he => setF_fr (h2 e he) hb hcs, h3⟩
theorem FOwn.fl (h : FOwn t w g qs) {c : Nat} (hc : qs.length ≤ c) (hm : c ≤ maxLen) : FL w (some ⟨g, 0, none⟩) qs.length c qs := by
 obtain ⟨es, zs, h1, h2, rfl⟩ := h
 rw [List.length_map] at hc ⊢
 refine ⟨es, rfl, hc, hm, h2, rfl, fun _ => ⟨g, 0, rfl, fun k e he => ?_⟩⟩
 have hk : k < es.length := (List.getElem?_eq_some_iff.1 he).1
 have hc := cellsFA_get (es := es ++ zs) (i := k) (e := e) (by rw [List.getElem?_append_left hk]; exact he)
 simp only [Nat.zero_add, h1.cell]
 exact hc
theorem OwnF.fown {base : Nat} {v : Value} (h : OwnF t w base v qs) : (v = .slice none 0 0 ∧ qs = []) ∨ ∃ g c, v = .slice (some ⟨g, 0, none⟩) qs.length c ∧ base ≤ g ∧ qs.length ≤ c ∧ c ≤ maxLen ∧ FOwn t w g qs := by
 obtain ⟨es, h1, h2, rfl⟩ := h
 rcases h1 with ⟨rfl, rfl⟩ | ⟨g, sp, rfl, h4, h5, h6⟩
 · exact .inl ⟨rfl, rfl⟩
 · exact .inr ⟨g, _, by rw [List.length_map], h4, by rw [List.length_map]; omega, h5, es, List.replicate sp zeroFE, h6, h2, rfl⟩
end
end Go.Proofs.YtigdclhagmnopaaGreat

namespace Go.Proofs.YtigdclhagmnopaaGreat

def sumQ : Nat → (Nat → Rat) → Rat
 | 0, _ => 0
 | n + 1, f => sumQ n f + f n
def skipI (i a : Nat) : Nat := if a < i then a else a + 1
def sgnQ (i : Nat) : Rat := if i % 2 = 0 then 1 else -1
/-- The determinant of the first n rows and columns. -/
def detM : Nat → (Nat → Nat → Rat) → Rat
 | 0, _ => 1
 | n + 1, M => sumQ (n + 1) fun i => sgnQ i * M i 0 * detM n (fun a b => M (skipI i a) (b + 1))

theorem sumQ_congr {n : Nat} {f g : Nat → Rat} (h : ∀ i, i < n → f i = g i) : sumQ n f = sumQ n g := by
 induction n with
 | zero => rfl
 | succ n ih => simp only [sumQ]; rw [ih (fun i hi => h i (by omega)), h n (by omega)]
theorem sumQ_lin {n : Nat} (f g : Nat → Rat) (x y : Rat) : sumQ n (fun i => x * f i + y * g i) = x * sumQ n f + y * sumQ n g := by
 induction n with
 | zero => simp only [sumQ]; grind
 | succ n ih => simp only [sumQ]; rw [ih]; grind
theorem sumQ_zero {n : Nat} {f : Nat → Rat} (h : ∀ i, i < n → f i = 0) : sumQ n f = 0 := by
 induction n with
 | zero => rfl
 | succ n ih => simp only [sumQ]; rw [ih (fun i hi => h i (by omega)), h n (by omega)]; grind
theorem sumQ_one {n : Nat} {f : Nat → Rat} (k : Nat) (hk : k < n) (h : ∀ i, i < n → i ≠ k → f i = 0) : sumQ n f = f k := by
 induction n with
 | zero => omega
 | succ n ih =>
  simp only [sumQ]
  by_cases hn : k = n
  · subst hn
    rw [sumQ_zero (fun i hi => h i (by omega) (by omega))]; grind
  · rw [ih (by omega) (fun i hi => h i (by omega)), h n (by omega) (by omega)]; grind
theorem sumQ_two {n : Nat} {f : Nat → Rat} (k : Nat) (hk : k + 1 < n) (h : ∀ i, i < n → i ≠ k → i ≠ k + 1 → f i = 0) : sumQ n f = f k + f (k + 1) := by
 induction n with
 | zero => omega
 | succ n ih =>
  simp only [sumQ]
  by_cases hn : k + 1 = n
  · subst hn
    rw [sumQ_one k (by omega) (fun i hi h2 => h i (by omega) h2 (by omega))]
  · rw [ih (by omega) (fun i hi => h i (by omega)), h n (by omega) (by omega) (by omega)]; grind

theorem skipI_lt {i a n : Nat} (ha : a < n) : skipI i a < n + 1 := by unfold skipI; split <;> omega
theorem skipI_ne (i a : Nat) : skipI i a ≠ i := by unfold skipI; split <;> omega
theorem skipI_surj {i k : Nat} (h : k ≠ i) : skipI i (if k < i then k else k - 1) = k := by
 unfold skipI
 by_cases h1 : k < i
 · rw [if_pos h1, if_pos h1]
 · rw [if_neg h1, if_neg (by omega)]; omega
theorem skipI_inj {i a b : Nat} (h : skipI i a = skipI i b) : a = b := by unfold skipI at h; split at h <;> split at h <;> omega
theorem detM_congr {n : Nat} {M N : Nat → Nat → Rat} (h : ∀ a b, a < n → b < n → M a b = N a b) : detM n M = detM n N := by
 induction n generalizing M N with
 | zero => rfl
 | succ n ih =>
  simp only [detM]
  refine sumQ_congr fun i hi => ?_
  rw [h i 0 hi (by omega), ih (fun a b ha hb => h _ _ (skipI_lt ha) (by omega))]

/-- Another row in place of row k. -/
def updR (M : Nat → Nat → Rat) (k : Nat) (r : Nat → Rat) : Nat → Nat → Rat := fun a b => if a = k then r b else M a b
theorem updR_minor_ne {M : Nat → Nat → Rat} {k i : Nat} {r : Nat → Rat} (h : k ≠ i) :
    (fun a b => updR M k r (skipI i a) (b + 1)) = updR (fun a b => M (skipI i a) (b + 1)) (if k < i then k else k - 1) (fun b => r (b + 1)) := by
 funext a b
 unfold updR
 by_cases ha : a = (if k < i then k else k - 1)
 · rw [if_pos ha, ha, skipI_surj h, if_pos rfl]
 · rw [if_neg ha, if_neg]
   intro e
   exact ha (skipI_inj (i := i) (by rw [e, skipI_surj h]))
theorem updR_minor_eq {M : Nat → Nat → Rat} {k : Nat} {r : Nat → Rat} : (fun a b => updR M k r (skipI k a) (b + 1)) = (fun a b => M (skipI k a) (b + 1)) := by
 funext a b
 unfold updR
 rw [if_neg (skipI_ne k a)]
theorem detM_lin {n : Nat} (M : Nat → Nat → Rat) {k : Nat} (hk : k < n) (r s : Nat → Rat) (x y : Rat) :
    detM n (updR M k (fun b => x * r b + y * s b)) = x * detM n (updR M k r) + y * detM n (updR M k s) := by
 induction n generalizing M k r s with
 | zero => omega
 | succ n ih =>
  simp only [detM]
  rw [← sumQ_lin]
  refine sumQ_congr fun i hi => ?_
  by_cases h : k = i
  · subst h
    rw [updR_minor_eq, updR_minor_eq, updR_minor_eq]
    simp only [updR, if_true]
    grind
  · rw [updR_minor_ne h, updR_minor_ne h, updR_minor_ne h]
    rw [ih (fun a b => M (skipI i a) (b + 1)) (k := if k < i then k else k - 1) (by split <;> omega) (fun b => r (b + 1)) (fun b => s (b + 1))]
    simp only [updR, if_neg (show ¬ i = k from fun e => h e.symm)]
    grind
theorem sgnQ_succ (i : Nat) : sgnQ (i + 1) = - sgnQ i := by
 unfold sgnQ
 rcases Nat.mod_two_eq_zero_or_one i with h | h
 · rw [if_pos h, if_neg (by omega)]
 · rw [if_neg (by omega : ¬ i % 2 = 0), if_pos (by omega)]; grind
theorem detM_adj {n : Nat} {M : Nat → Nat → Rat} {k : Nat} (hk : k + 1 < n) (h : ∀ b, M (k + 1) b = M k b) : detM n M = 0 := by
 induction n generalizing M k with
 | zero => omega
 | succ n ih =>
  simp only [detM]
  rw [sumQ_two k hk]
  · have hm : (fun a b => M (skipI k a) (b + 1)) = (fun a b => M (skipI (k + 1) a) (b + 1)) := by
      funext a b
      by_cases ha : a = k
      · subst ha
        simp only [skipI, if_neg (Nat.lt_irrefl a), if_pos (Nat.lt_succ_self a)]
        exact h _
      · have : skipI k a = skipI (k + 1) a := by unfold skipI; split <;> split <;> omega
        rw [this]
    rw [hm, h 0, sgnQ_succ]; grind
  · intro i hi h1 h2
    rw [ih (M := fun a b => M (skipI i a) (b + 1)) (k := if k < i then k else k - 1)]
    · grind
    · split <;> omega
    · intro b
      have e1 : skipI i (if k < i then k else k - 1) = k := skipI_surj (Ne.symm h1)
      have e2 : skipI i ((if k < i then k else k - 1) + 1) = k + 1 := by unfold skipI; split <;> split <;> omega
      rw [e1, e2]; exact h _
theorem updR_self (M : Nat → Nat → Rat) (k : Nat) : updR M k (M k) = M := by
 funext a b; unfold updR; split
 · rename_i h; rw [h]
 · rfl
theorem updR_comm (M : Nat → Nat → Rat) {k l : Nat} (h : k ≠ l) (r s : Nat → Rat) : updR (updR M k r) l s = updR (updR M l s) k r := by
 funext a b; unfold updR
 by_cases h1 : a = k
 · subst h1; simp [h]
 · simp [h1]
theorem detM_add {n : Nat} (M : Nat → Nat → Rat) {k : Nat} (hk : k < n) (r s : Nat → Rat) :
    detM n (updR M k (fun b => r b + s b)) = detM n (updR M k r) + detM n (updR M k s) := by
 have := detM_lin M hk r s 1 1
 rw [show (fun b => r b + s b) = (fun b => 1 * r b + 1 * s b) by funext b; grind, this]; grind
/-- Rows k and l exchanged, where two equal rows there make the determinant 0. -/
theorem detM_swap_of {n : Nat} {k l : Nat} (hk : k < n) (hl : l < n) (hne : k ≠ l) (hz : ∀ (M : Nat → Nat → Rat), (∀ b, M k b = M l b) → detM n M = 0) (M : Nat → Nat → Rat) (r s : Nat → Rat) :
    detM n (updR (updR M k r) l s) = - detM n (updR (updR M k s) l r) := by
 have h := hz (updR (updR M k (fun b => r b + s b)) l (fun b => r b + s b)) (fun b => by simp [updR, hne])
 have h1 := hz (updR (updR M k r) l r) (fun b => by simp [updR, hne])
 have h2 := hz (updR (updR M k s) l s) (fun b => by simp [updR, hne])
 rw [detM_add _ hl, updR_comm _ hne, updR_comm _ hne, detM_add _ hk, detM_add _ hk, ← updR_comm _ hne, ← updR_comm _ hne, ← updR_comm _ hne, ← updR_comm _ hne, h1, h2] at h
 grind
theorem detM_eqrows {n : Nat} : ∀ (d : Nat) (M : Nat → Nat → Rat) (k : Nat), k + d + 1 < n → (∀ b, M k b = M (k + d + 1) b) → detM n M = 0 := by
 intro d
 induction d with
 | zero => intro M k hk h; exact detM_adj hk (fun b => (h b).symm)
 | succ d ih =>
  intro M k hk h
  have h1 := detM_swap_of (n := n) (k := k + d + 1) (l := k + d + 2) (by omega) (by omega) (by omega) (fun M h => detM_adj (k := k + d + 1) (by omega) (fun b => (h b).symm)) M (M (k + d + 1)) (M (k + d + 2))
  rw [updR_self, updR_self] at h1
  rw [h1, ih _ k (by omega)]
  · grind
  · intro b
    have := h b
    rw [show k + (d + 1) + 1 = k + d + 2 by omega] at this
    simp only [updR]
    rw [if_neg (by omega), if_neg (by omega), if_neg (by omega)]
    simpa using this
/-- Two equal rows. -/
theorem detM_two {n : Nat} {M : Nat → Nat → Rat} {k l : Nat} (hk : k < n) (hl : l < n) (hne : k ≠ l) (h : ∀ b, M k b = M l b) : detM n M = 0 := by
 rcases Nat.lt_or_gt_of_ne hne with h1 | h1
 · exact detM_eqrows (l - k - 1) M k (by omega) (fun b => by rw [show k + (l - k - 1) + 1 = l by omega]; exact h b)
 · exact detM_eqrows (k - l - 1) M l (by omega) (fun b => by rw [show l + (k - l - 1) + 1 = k by omega]; exact (h b).symm)
/-- Rows exchanged. -/
theorem detM_swap {n : Nat} (M : Nat → Nat → Rat) {k l : Nat} (hk : k < n) (hl : l < n) (hne : k ≠ l) : detM n (updR (updR M k (M l)) l (M k)) = - detM n M := by
 have h := detM_swap_of hk hl hne (fun M h => detM_two hk hl hne h) M (M l) (M k)
 rw [h]
 congr 1
 rw [updR_self]
 congr 1
 funext a b
 unfold updR
 split
 · rename_i h; rw [h]
 · rfl
/-- A multiple of another row is added. -/
theorem detM_addrow {n : Nat} (M : Nat → Nat → Rat) {k l : Nat} (hk : k < n) (hl : l < n) (hne : k ≠ l) (c : Rat) : detM n (updR M k (fun b => M k b + c * M l b)) = detM n M := by
 have h := detM_lin M hk (M k) (M l) 1 c
 rw [show (fun b => M k b + c * M l b) = (fun b => 1 * M k b + c * M l b) by funext b; grind, h, updR_self,
  detM_two (M := updR M k (M l)) hk hl hne (fun b => by simp [updR, Ne.symm hne])]
 grind
/-- Multiples of row l are added to all other rows. -/
theorem detM_clear {n : Nat} (M : Nat → Nat → Rat) {l : Nat} (hl : l < n) (c : Nat → Rat) : detM n (fun a b => if a = l then M a b else M a b + c a * M l b) = detM n M := by
 have key : ∀ m, m ≤ n → detM n (fun a b => if a = l then M a b else if a < m then M a b + c a * M l b else M a b) = detM n M := by
  intro m
  induction m with
  | zero => intro _; congr 1; funext a b; split <;> rfl
  | succ m ih =>
   intro hm
   have h0 := ih (by omega)
   by_cases hml : m = l
   · rw [← h0]; congr 1; funext a b
     by_cases ha : a = l
     · simp [ha]
     · rw [if_neg ha, if_neg ha]
       by_cases h1 : a < m
       · rw [if_pos h1, if_pos (by omega)]
       · rw [if_neg h1, if_neg (by omega)]
   · have h1 := detM_addrow (n := n) (fun a b => if a = l then M a b else if a < m then M a b + c a * M l b else M a b) (k := m) (l := l) (by omega) hl hml (c m)
     rw [h0] at h1
     rw [← h1]; congr 1; funext a b
     unfold updR
     by_cases ha : a = m
     · subst ha; simp [hml]
     · rw [if_neg ha]
       by_cases hal : a = l
       · simp [hal]
       · rw [if_neg hal]
         by_cases h1 : a < m
         · rw [if_pos (by omega)]; simp [hal, h1]
         · rw [if_neg (by omega)]; simp [hal, h1]
 rw [← key n (Nat.le_refl _)]
 exact detM_congr fun a b ha hb => by rw [if_pos ha]
def prodQ : Nat → (Nat → Rat) → Rat
 | 0, _ => 1
 | n + 1, f => prodQ n f * f n
theorem prodQ_congr {n : Nat} {f g : Nat → Rat} (h : ∀ i, i < n → f i = g i) : prodQ n f = prodQ n g := by
 induction n with
 | zero => rfl
 | succ n ih => simp only [prodQ]; rw [ih (fun i hi => h i (by omega)), h n (by omega)]
theorem prodQ_first {n : Nat} (f : Nat → Rat) : prodQ (n + 1) f = f 0 * prodQ n (fun i => f (i + 1)) := by
 induction n generalizing f with
 | zero => simp only [prodQ]; grind
 | succ n ih => rw [prodQ, ih, prodQ]; grind
/-- A triangle. -/
theorem detM_tri {n : Nat} {M : Nat → Nat → Rat} (h : ∀ a b, a < n → b < a → M a b = 0) : detM n M = prodQ n (fun i => M i i) := by
 induction n generalizing M with
 | zero => rfl
 | succ n ih =>
  simp only [detM]
  rw [sumQ_one 0 (by omega)]
  · rw [prodQ_first, ih]
    · have : sgnQ 0 = 1 := rfl
      rw [this, prodQ_congr (g := fun i => M (i + 1) (i + 1)) (fun i hi => by simp only [skipI]; rw [if_neg (by omega)])]; grind
    · intro a b ha hb
      simp only [skipI]
      rw [if_neg (by omega)]
      exact h _ _ (by omega) (by omega)
  · intro i hi h0
    rw [h i 0 hi (by omega)]; grind
def IsInt (q : Rat) : Prop := ∃ z : Int, q = (z : Rat)
theorem IsInt.add {p q : Rat} (h : IsInt p) (k : IsInt q) : IsInt (p + q) := by obtain ⟨a, rfl⟩ := h; obtain ⟨b, rfl⟩ := k; exact ⟨a + b, by rw [Rat.intCast_add]⟩
theorem IsInt.mul {p q : Rat} (h : IsInt p) (k : IsInt q) : IsInt (p * q) := by obtain ⟨a, rfl⟩ := h; obtain ⟨b, rfl⟩ := k; exact ⟨a * b, by rw [Rat.intCast_mul]⟩
end Go.Proofs.YtigdclhagmnopaaGreat

namespace Go.Proofs.YtigdclhagmnopaaGreat

def entZ (Z : List (List Int)) (i j : Nat) : Int := (Z[i]?.getD [])[j]?.getD 0
def entR (R : List (List Rat)) (i j : Nat) : Rat := (R[i]?.getD [])[j]?.getD 0
def swapL {α : Type} (l : List α) (i j : Nat) : List α := match l[i]?, l[j]? with
 | some x, some y => (l.set i y).set j x
 | _, _ => l
def rowZ (p row : List Int) (col : Nat) (piv last : Int) : List Int := (List.range row.length).map fun k => Int.fdiv (row[k]?.getD 0 * piv - row[col]?.getD 0 * p[k]?.getD 0) last
def clearZ (Z : List (List Int)) (r col : Nat) (last : Int) : List (List Int) :=
 (List.range Z.length).map fun i => if i ≤ r then Z[i]?.getD [] else rowZ (Z[r]?.getD []) (Z[i]?.getD []) col (entZ Z r col) last
def rowR (p row : List Rat) (col : Nat) : List Rat := (List.range row.length).map fun k => if k < col then row[k]?.getD 0 else row[k]?.getD 0 - row[col]?.getD 0 / p[col]?.getD 0 * p[k]?.getD 0
def clearR (R : List (List Rat)) (r col : Nat) : List (List Rat) := (List.range R.length).map fun i => if i ≤ r then R[i]?.getD [] else rowR (R[r]?.getD []) (R[i]?.getD []) col
/-- The first index from k on at which z does not hold, or n. -/
def pivAt (z : Nat → Bool) (n : Nat) : Nat → Nat → Nat
 | 0, k => k
 | f + 1, k => if k < n ∧ z k = true then pivAt z n f (k + 1) else k
def elimZ : Nat → Nat → Nat → List (List Int) → Bool → Int → List (List Int) × Nat × Bool × Int
 | 0, _, r, Z, neg, last => (Z, r, neg, last)
 | f + 1, col, r, Z, neg, last =>
  if r = Z.length then (Z, r, neg, last)
  else if pivAt (fun i => entZ Z i col == 0) Z.length Z.length r = Z.length then elimZ f (col + 1) r Z neg last
  else elimZ f (col + 1) (r + 1) (clearZ (swapL Z (pivAt (fun i => entZ Z i col == 0) Z.length Z.length r) r) r col last) (neg != decide (pivAt (fun i => entZ Z i col == 0) Z.length Z.length r ≠ r)) (entZ Z (pivAt (fun i => entZ Z i col == 0) Z.length Z.length r) col)
def elimR : Nat → Nat → Nat → List (List Rat) → Bool → List (List Rat) × Nat × Bool
 | 0, _, r, R, neg => (R, r, neg)
 | f + 1, col, r, R, neg =>
  if r = R.length then (R, r, neg)
  else if pivAt (fun i => entR R i col == 0) R.length R.length r = R.length then elimR f (col + 1) r R neg
  else elimR f (col + 1) (r + 1) (clearR (swapL R (pivAt (fun i => entR R i col == 0) R.length R.length r) r) r col) (neg != decide (pivAt (fun i => entR R i col == 0) R.length R.length r ≠ r))

theorem pivAt_spec {z : Nat → Bool} {n : Nat} : ∀ {f k : Nat}, n ≤ k + f → k ≤ n → k ≤ pivAt z n f k ∧ pivAt z n f k ≤ n ∧ (∀ i, k ≤ i → i < pivAt z n f k → z i = true) ∧ (pivAt z n f k < n → z (pivAt z n f k) = false)
 | 0, k, h, hk => by
  obtain rfl : k = n := by omega
  exact ⟨Nat.le_refl _, Nat.le_refl _, fun i h1 h2 => by simp only [pivAt] at h2; omega, fun h => by simp only [pivAt] at h; omega⟩
 | f + 1, k, h, hk => by
  unfold pivAt
  by_cases hc : k < n ∧ z k = true
  · rw [if_pos hc]
    obtain ⟨h1, h2, h3, h4⟩ := pivAt_spec (z := z) (n := n) (f := f) (k := k + 1) (by omega) (by omega)
    refine ⟨by omega, h2, fun i hi1 hi2 => ?_, h4⟩
    by_cases hik : i = k
    · rw [hik]; exact hc.2
    · exact h3 i (by omega) hi2
  · rw [if_neg hc]
    refine ⟨Nat.le_refl _, hk, fun i h1 h2 => by omega, fun hkn => ?_⟩
    cases hz : z k with
    | false => rfl
    | true => exact absurd ⟨hkn, hz⟩ hc
theorem pivAt_eq {z : Nat → Bool} {n f k q : Nat} (h : n ≤ k + f) (hk : k ≤ q) (hq : q ≤ n) (h1 : ∀ i, k ≤ i → i < q → z i = true) (h2 : q < n → z q = false) : pivAt z n f k = q := by
 obtain ⟨a, b, c, d⟩ := pivAt_spec (z := z) h (Nat.le_trans hk hq)
 rcases Nat.lt_trichotomy (pivAt z n f k) q with h3 | h3 | h3
 · have := d (by omega); rw [h1 _ a h3] at this; cases this
 · exact h3
 · have := c q hk h3; rw [h2 (by omega)] at this; cases this
theorem pivAt_congr {y z : Nat → Bool} {n f k : Nat} (h : n ≤ k + f) (hk : k ≤ n) (he : ∀ i, k ≤ i → i < n → y i = z i) : pivAt y n f k = pivAt z n f k := by
 obtain ⟨a, b, c, d⟩ := pivAt_spec (z := z) h hk
 exact pivAt_eq h a b (fun i h1 h2 => by rw [he i h1 (by omega)]; exact c i h1 h2) (fun h1 => by rw [he _ a h1]; exact d h1)

/-- A whole number of at most B. -/
def BndQ (B : Nat) (q : Rat) : Prop := ∃ z : Int, q = (z : Rat) ∧ z.natAbs ≤ B
theorem BndQ.add {B C : Nat} {p q : Rat} (h : BndQ B p) (k : BndQ C q) : BndQ (B + C) (p + q) := by
 obtain ⟨a, rfl, h1⟩ := h; obtain ⟨b, rfl, h2⟩ := k; exact ⟨a + b, by rw [Rat.intCast_add], by omega⟩
theorem BndQ.mul {B C : Nat} {p q : Rat} (h : BndQ B p) (k : BndQ C q) : BndQ (B * C) (p * q) := by
 obtain ⟨a, rfl, h1⟩ := h; obtain ⟨b, rfl, h2⟩ := k; exact ⟨a * b, by rw [Rat.intCast_mul], by rw [Int.natAbs_mul]; exact Nat.mul_le_mul h1 h2⟩
theorem BndQ.mono {B C : Nat} {q : Rat} (h : BndQ B q) (hBC : B ≤ C) : BndQ C q := by obtain ⟨a, h1, h2⟩ := h; exact ⟨a, h1, by omega⟩
def bndD (B : Nat) : Nat → Nat
 | 0 => 1
 | n + 1 => (n + 1) * (B * bndD B n)
theorem sumQ_bnd {B n : Nat} {f : Nat → Rat} (h : ∀ i, i < n → BndQ B (f i)) : BndQ (n * B) (sumQ n f) := by
 induction n with
 | zero => exact ⟨0, rfl, by simp⟩
 | succ n ih => rw [Nat.succ_mul]; exact (ih fun i hi => h i (by omega)).add (h n (by omega))
theorem sgnQ_bnd (i : Nat) : BndQ 1 (sgnQ i) := by unfold sgnQ; split; exact ⟨1, rfl, by decide⟩; exact ⟨-1, rfl, by decide⟩
theorem detM_bnd {B n : Nat} {M : Nat → Nat → Rat} (h : ∀ a b, a < n → b < n → BndQ B (M a b)) : BndQ (bndD B n) (detM n M) := by
 induction n generalizing M with
 | zero => exact ⟨1, rfl, by simp [bndD]⟩
 | succ n ih =>
  simp only [detM, bndD]
  refine sumQ_bnd fun i hi => ?_
  have := ((sgnQ_bnd i).mul (h i 0 hi (by omega))).mul (ih (M := fun a b => M (skipI i a) (b + 1)) fun a b ha hb => h _ _ (skipI_lt ha) (by omega))
  rwa [Nat.one_mul] at this
theorem bndD_mono {B m n : Nat} (hB : 1 ≤ B) (h : m ≤ n) : bndD B m ≤ bndD B n := by
 induction n with
 | zero => obtain rfl : m = 0 := by omega
           exact Nat.le_refl _
 | succ n ih =>
  by_cases hm : m = n + 1
  · rw [hm]; exact Nat.le_refl _
  · refine Nat.le_trans (ih (by omega)) ?_
    simp only [bndD]
    calc bndD B n = 1 * (1 * bndD B n) := by simp
     _ ≤ (n + 1) * (B * bndD B n) := Nat.mul_le_mul (by omega) (Nat.mul_le_mul hB (Nat.le_refl _))

/-- The exchange of k and r. -/
def swI (k r i : Nat) : Nat := if i = k then r else if i = r then k else i
theorem swI_swI (k r i : Nat) : swI k r (swI k r i) = i := by
 unfold swI
 by_cases h1 : i = k
 · subst h1
   by_cases h2 : i = r
   · simp [h2]
   · simp [Ne.symm h2]
 · by_cases h2 : i = r
   · subst h2; simp [h1]
   · simp [h1, h2]
theorem swapL_get {α : Type} {l : List α} {k r : Nat} (hk : k < l.length) (hr : r < l.length) (i : Nat) : (swapL l k r)[i]? = l[swI k r i]? := by
 unfold swapL
 rw [List.getElem?_eq_getElem hk, List.getElem?_eq_getElem hr]
 simp only
 unfold swI
 rw [List.getElem?_set, List.getElem?_set, List.length_set]
 by_cases h1 : r = i
 · subst h1
   rw [if_pos rfl, if_pos hr]
   by_cases h2 : r = k
   · subst h2; simp [hr]
   · rw [if_neg h2, if_pos rfl, List.getElem?_eq_getElem hk]
 · rw [if_neg h1]
   by_cases h2 : k = i
   · subst h2; simp [hk, hr]
   · rw [if_neg h2, if_neg (Ne.symm h2), if_neg (Ne.symm h1)]
theorem swapL_len {α : Type} (l : List α) (k r : Nat) : (swapL l k r).length = l.length := by unfold swapL; split <;> simp
theorem swI_lt {k r i n : Nat} (hk : k < n) (hr : r < n) (hi : i < n) : swI k r i < n := by unfold swI; split <;> (try split) <;> omega

/-- What holds of the rows with fractions while they are eliminated: r pivots are found, in the columns pc; s are the factors that make G's rows whole. -/
structure EIR (B S n m col r : Nat) (R : List (List Rat)) (pc : Nat → Nat) (G : Nat → Nat → Rat) (s : Nat → Rat) : Prop where
 len : R.length = n
 row : ∀ i, i < n → (R[i]?.getD []).length = m
 pcl : ∀ l, l < r → pc l < col
 inc : ∀ l l', l < l' → l' < r → pc l < pc l'
 low : ∀ i j, r ≤ i → i < n → j < col → entR R i j = 0
 bef : ∀ l j, l < r → j < pc l → entR R l j = 0
 piv : ∀ l, l < r → entR R l (pc l) ≠ 0
 rn : r ≤ n
 cm : col ≤ m
 sB : ∀ i, i < n → BndQ S (s i) ∧ s i ≠ 0
 gB : ∀ i j, i < n → BndQ B (G i j)
 det : ∀ (N : Nat) (f σ : Nat → Nat), (∀ a, a < N → σ a < n) → (∀ a, a < r → σ a = a) → (∀ a, r ≤ a → r ≤ σ a) → detM N (fun a b => s (σ a) * entR R (σ a) (f b)) = detM N (fun a b => G (σ a) (f b))
/-- The product of the first pivots. -/
def pivL (R : List (List Rat)) (pc : Nat → Nat) (s : Nat → Rat) (l : Nat) : Rat := prodQ l (fun i => s i * entR R i (pc i))

section
variable {B S n m col r : Nat} {R : List (List Rat)} {pc : Nat → Nat} {G : Nat → Nat → Rat} {s : Nat → Rat}
theorem EIR.minor_eq (h : EIR B S n m col r R pc G s) {i : Nat} (hi : i < n) (j : Nat) :
    pivL R pc s (min i r) * (s i * entR R i j) = detM (min i r + 1) (fun a b => G (if a < min i r then a else i) (if b < min i r then pc b else j)) := by
 obtain ⟨q, hq⟩ : ∃ q, q = min i r := ⟨_, rfl⟩
 rw [← hq]
 have hrn := h.rn
 have hd := h.det (q + 1) (fun b => if b < q then pc b else j) (fun a => if a < r then a else if i < r then a else i)
  (fun a ha => by
   by_cases h1 : a < r
   · rw [if_pos h1]; omega
   · rw [if_neg h1]; by_cases h2 : i < r
     · omega
     · rw [if_neg h2]; exact hi) (fun a ha => by rw [if_pos ha]) (fun a ha => by
   rw [if_neg (by omega)]
   by_cases h2 : i < r
   · rw [if_pos h2]; exact ha
   · rw [if_neg h2]; omega)
 have hσ : ∀ a, a < q + 1 → (if a < r then a else if i < r then a else i) = if a < q then a else i := by
  intro a ha
  by_cases h1 : a < q
  · rw [if_pos h1, if_pos (by omega)]
  · rw [if_neg h1]
    by_cases h2 : i < r
    · rw [if_pos (by omega)]; omega
    · rw [if_neg (by omega), if_neg h2]
 rw [← detM_congr (M := fun a b => G (if a < r then a else if i < r then a else i) (if b < q then pc b else j)) (N := fun a b => G (if a < q then a else i) (if b < q then pc b else j)) (fun a b ha hb => by rw [hσ a ha])]
 rw [← hd, detM_tri]
 · rw [prodQ]
   unfold pivL
   congr 1
   · refine prodQ_congr fun a ha => ?_
     rw [if_pos ha, if_pos (by omega)]
   · rw [if_neg (Nat.lt_irrefl q)]
     have := hσ q (Nat.lt_succ_self q)
     rw [if_neg (Nat.lt_irrefl q)] at this
     rw [this]
 · intro a b ha hb
   rw [if_pos (by omega : b < q), hσ a ha]
   by_cases h1 : a < q
   · rw [if_pos h1, h.bef a (pc b) (by omega) (h.inc b a hb (by omega))]; grind
   · rw [if_neg h1]
     by_cases h2 : i < r
     · rw [h.bef i (pc b) h2 (h.inc b i (by omega) h2)]; grind
     · rw [h.low i (pc b) (by omega) hi (h.pcl b (by omega))]; grind
theorem EIR.minor (h : EIR B S n m col r R pc G s) {i : Nat} (hi : i < n) (j : Nat) : BndQ (bndD B (min i r + 1)) (pivL R pc s (min i r) * (s i * entR R i j)) := by
 rw [h.minor_eq hi j]
 refine detM_bnd fun a b ha hb => h.gB _ _ ?_
 split <;> omega
theorem EIR.piv_ne (h : EIR B S n m col r R pc G s) {l : Nat} (hl : l ≤ r) : pivL R pc s l ≠ 0 := by
 induction l with
 | zero => unfold pivL prodQ; grind
 | succ l ih =>
  have h1 := ih (by omega)
  have h2 := h.piv l (by omega)
  have h3 := (h.sB l (by have := h.rn; omega)).2
  unfold pivL at h1 ⊢
  rw [prodQ]
  intro h0
  rcases Rat.mul_eq_zero.1 h0 with h0 | h0
  · exact h1 h0
  · rcases Rat.mul_eq_zero.1 h0 with h0 | h0
    · exact h3 h0
    · exact h2 h0
theorem EIR.pivL_bnd (h : EIR B S n m col r R pc G s) {l : Nat} (hl : l ≤ r) : BndQ (bndD B l) (pivL R pc s l) := by
 cases l with
 | zero => exact ⟨1, rfl, by simp [bndD]⟩
 | succ l =>
  have h1 := h.minor (i := l) (by have := h.rn; omega) (pc l)
  rw [show min l r = l by omega] at h1
  unfold pivL at h1 ⊢
  rw [prodQ]
  exact h1
theorem numQ_le (a b : Int) (h : b ≠ 0) : (Rat.divInt a b).num.natAbs ≤ a.natAbs := by
 rw [Rat.num_divInt, Int.natAbs_ediv_of_dvd]
 · refine Nat.le_trans (Nat.div_le_self _ _) ?_
   rw [Int.natAbs_mul]
   rcases Int.lt_or_gt_of_ne h with g | g
   · rw [Int.sign_eq_neg_one_of_neg g]; simp
   · rw [Int.sign_eq_one_of_pos g]; simp
 · exact Int.dvd_trans (Int.gcd_dvd_right _ _) (Int.dvd_mul_left _ _)
theorem bnd_num {B C : Nat} {p q : Rat} (h : BndQ B (q * p)) (k : BndQ C q) (hq : q ≠ 0) : p.num.natAbs ≤ B ∧ p.den ≤ C := by
 obtain ⟨a, h1, h2⟩ := h
 obtain ⟨b, h3, h4⟩ := k
 have hb : b ≠ 0 := by rintro rfl; rw [h3] at hq; exact hq rfl
 have hp : p = Rat.divInt a b := by
  rw [Rat.divInt_eq_div, ← h1, h3]
  have : (b : Rat) ≠ 0 := by rw [← h3]; exact hq
  grind
 rw [hp]
 constructor
 · exact Nat.le_trans (numQ_le a b hb) h2
 · rw [Rat.den_divInt, if_neg hb]
   exact Nat.le_trans (Nat.div_le_self _ _) h4
/-- How great the fractions are. -/
theorem EIR.bound (h : EIR B S n m col r R pc G s) (hB : 1 ≤ B) {i : Nat} (hi : i < n) (j : Nat) : (entR R i j).num.natAbs ≤ bndD B n ∧ (entR R i j).den ≤ bndD B n * S := by
 have h1 := h.minor hi j
 have h2 := h.pivL_bnd (l := min i r) (by omega)
 have h3 := h.sB i hi
 have h4 := h.piv_ne (l := min i r) (by omega)
 rw [← Rat.mul_assoc] at h1
 have h5 := bnd_num h1 (h2.mul h3.1) (fun h0 => by
  rcases Rat.mul_eq_zero.1 h0 with h0 | h0
  · exact h4 h0
  · exact h3.2 h0)
 have h6 := bndD_mono hB (show min i r + 1 ≤ n by omega)
 have h7 := bndD_mono hB (show min i r ≤ n by omega)
 exact ⟨by omega, Nat.le_trans h5.2 (Nat.mul_le_mul h7 (Nat.le_refl _))⟩

theorem entR_swap {k r : Nat} (hk : k < R.length) (hr : r < R.length) (i j : Nat) : entR (swapL R k r) i j = entR R (swI k r i) j := by
 unfold entR; rw [swapL_get hk hr]
theorem swI_lo {k r i : Nat} (hk : r ≤ k) (hi : i < r) : swI k r i = i := by unfold swI; rw [if_neg (by omega), if_neg (by omega)]
theorem swI_hi {k r i : Nat} (hk : r ≤ k) (hi : r ≤ i) : r ≤ swI k r i := by unfold swI; split <;> (try split) <;> omega
theorem EIR.skip (h : EIR B S n m col r R pc G s) (hc : col < m) (hz : ∀ i, r ≤ i → i < n → entR R i col = 0) : EIR B S n m (col + 1) r R pc G s :=
 { h with
  pcl := fun l hl => by have := h.pcl l hl; omega
  cm := hc
  low := fun i j hi hn hj => by
   by_cases hjc : j = col
   · rw [hjc]; exact hz i hi hn
   · exact h.low i j hi hn (by omega) }
theorem EIR.swap (h : EIR B S n m col r R pc G s) {k : Nat} (hk : k < n) (hrk : r ≤ k) : EIR B S n m col r (swapL R k r) pc (fun i j => G (swI k r i) j) (fun i => s (swI k r i)) := by
 have hr : r < n := by omega
 have hl := h.len
 have he : ∀ i j, entR (swapL R k r) i j = entR R (swI k r i) j := entR_swap (by omega) (by omega)
 have hlt : ∀ {i}, i < n → swI k r i < n := fun hi => swI_lt hk hr hi
 refine ⟨by rw [swapL_len]; exact hl, fun i hi => by rw [swapL_get (by omega) (by omega)]; exact h.row _ (hlt hi), h.pcl, h.inc, fun i j hi hn hj => ?_, fun l j hl' hj => ?_, fun l hl' => ?_, h.rn, h.cm, fun i hi => h.sB _ (hlt hi), fun i j hi => h.gB _ _ (hlt hi), fun N f σ h1 h2 h3 => ?_⟩
 · rw [he]; exact h.low _ _ (swI_hi hrk hi) (hlt hn) hj
 · rw [he, swI_lo hrk hl']; exact h.bef l j hl' hj
 · rw [he, swI_lo hrk hl']; exact h.piv l hl'
 · have := h.det N f (fun a => swI k r (σ a)) (fun a ha => hlt (h1 a ha)) (fun a ha => by rw [h2 a ha, swI_lo hrk ha]) (fun a ha => swI_hi hrk (h3 a ha))
   rw [← this]
   exact detM_congr fun a b _ _ => by rw [he]
theorem entR_clear (hrow : ∀ i, i < R.length → (R[i]?.getD []).length = m) (hlow : ∀ j, j < col → entR R r j = 0) (i j : Nat) (hi : i < R.length) (hr : r < R.length) :
    entR (clearR R r col) i j = if i ≤ r then entR R i j else entR R i j - entR R i col / entR R r col * entR R r j := by
 unfold clearR
 show ((List.map _ (List.range R.length))[i]?.getD [])[j]?.getD 0 = _
 rw [List.getElem?_map, List.getElem?_range hi]
 simp only [Option.map_some, Option.getD_some]
 by_cases h1 : i ≤ r
 · rw [if_pos h1, if_pos h1]; rfl
 · rw [if_neg h1, if_neg h1]
   unfold rowR
   rw [List.getElem?_map]
   by_cases hj : j < (R[i]?.getD []).length
   · rw [List.getElem?_range hj]
     simp only [Option.map_some, Option.getD_some]
     by_cases hjc : j < col
     · rw [if_pos hjc, hlow j hjc]
       show entR R i j = _
       grind
     · rw [if_neg hjc]; rfl
   · rw [List.getElem?_eq_none (l := List.range _) (by simpa using hj)]
     simp only [Option.map_none, Option.getD_none]
     have e1 : entR R i j = 0 := by unfold entR; rw [List.getElem?_eq_none (by omega)]; rfl
     have e2 : entR R r j = 0 := by unfold entR; rw [List.getElem?_eq_none (by rw [hrow i hi] at hj; rw [hrow r hr]; omega)]; rfl
     rw [e1, e2]; grind
theorem clearR_len : (clearR R r col).length = R.length := by unfold clearR; simp
theorem clearR_row (i : Nat) (hi : i < R.length) : ((clearR R r col)[i]?.getD []).length = (R[i]?.getD []).length := by
 unfold clearR
 rw [List.getElem?_map, List.getElem?_range hi]
 simp only [Option.map_some, Option.getD_some]
 split
 · rfl
 · unfold rowR; simp
theorem EIR.clear (h : EIR B S n m col r R pc G s) (hc : col < m) (hr : r < n) (hp : entR R r col ≠ 0) : EIR B S n m (col + 1) (r + 1) (clearR R r col) (fun l => if l = r then col else pc l) G s := by
 have hl := h.len
 have he : ∀ i j, i < n → entR (clearR R r col) i j = if i ≤ r then entR R i j else entR R i j - entR R i col / entR R r col * entR R r j :=
  fun i j hi => entR_clear (m := m) (fun i hi => h.row i (by omega)) (fun j hj => h.low r j (Nat.le_refl _) hr hj) i j (by omega) (by omega)
 refine ⟨by rw [clearR_len]; exact hl, fun i hi => by rw [clearR_row i (by omega)]; exact h.row i hi, fun l hl' => ?_, fun l l' h1 h2 => ?_, fun i j hi hn hj => ?_, fun l j hl' hj => ?_, fun l hl' => ?_, hr, hc, h.sB, h.gB, fun N f σ h1 h2 h3 => ?_⟩
 · split
   · omega
   · have := h.pcl l (by omega); omega
 · rw [if_neg (by omega : ¬ l = r)]
   split
   · exact h.pcl l (by omega)
   · exact h.inc l l' h1 (by omega)
 · rw [he i j hn, if_neg (by omega)]
   by_cases hjc : j = col
   · rw [hjc]; grind
   · rw [h.low i j (by omega) hn (by omega), h.low r j (Nat.le_refl _) hr (by omega)]; grind
 · rw [he l j (by omega), if_pos (by omega)]
   by_cases hlr : l = r
   · rw [hlr]; simp only [hlr, if_true] at hj
     exact h.low r j (Nat.le_refl _) hr hj
   · simp only [if_neg hlr] at hj
     exact h.bef l j (by omega) hj
 · rw [he l _ (by omega), if_pos (by omega)]
   by_cases hlr : l = r
   · simp only [hlr, if_true]; exact hp
   · simp only [if_neg hlr]; exact h.piv l (by omega)
 · rw [← h.det N f σ h1 (fun a ha => h2 a (by omega)) (fun a ha => by
     by_cases har : a = r
     · rw [har, h2 r (by omega)]; exact Nat.le_refl _
     · have := h3 a (by omega); omega)]
   by_cases hN : N ≤ r
   · refine detM_congr fun a b ha hb => ?_
     rw [he _ _ (h1 a ha), if_pos]
     rw [h2 a (by omega)]; omega
   · have hσr : σ r = r := h2 r (by omega)
     rw [← detM_clear (fun a b => s (σ a) * entR R (σ a) (f b)) (l := r) (n := N) (by omega) (fun a => if a ≤ r then 0 else - (s (σ a) * entR R (σ a) col / (s r * entR R r col)))]
     refine detM_congr fun a b ha hb => ?_
     rw [he _ _ (h1 a ha)]
     by_cases har : a ≤ r
     · rw [h2 a (by omega), if_pos har]
       simp only [if_pos har]
       split
       · rfl
       · grind
     · have := h3 a (by omega)
       rw [if_neg (by omega), if_neg (by omega), if_neg har, hσr]
       have hs := (h.sB r hr).2
       grind

/-- What holds beside it of the rows of whole numbers. -/
structure EIZ (n m r : Nat) (R : List (List Rat)) (pc : Nat → Nat) (s : Nat → Rat) (Z : List (List Int)) (last : Int) : Prop where
 len : Z.length = n
 row : ∀ i, i < n → (Z[i]?.getD []).length = m
 last : (last : Rat) = pivL R pc s r
 ent : ∀ i j, i < n → (entZ Z i j : Rat) = pivL R pc s (min i r) * (s i * entR R i j)
theorem pivL_congr {R' : List (List Rat)} {pc' : Nat → Nat} {s' : Nat → Rat} {l : Nat} (h : ∀ i, i < l → s i * entR R i (pc i) = s' i * entR R' i (pc' i)) : pivL R pc s l = pivL R' pc' s' l := prodQ_congr h
theorem ratInt_inj {a b : Int} (h : (a : Rat) = (b : Rat)) : a = b := by exact_mod_cast h
theorem EIZ.last_ne {Z : List (List Int)} {last : Int} (h : EIR B S n m col r R pc G s) (k : EIZ n m r R pc s Z last) : last ≠ 0 := by
 rintro rfl
 exact h.piv_ne (Nat.le_refl r) (k.last.symm.trans rfl)
theorem EIZ.last_bnd {Z : List (List Int)} {last : Int} (h : EIR B S n m col r R pc G s) (k : EIZ n m r R pc s Z last) (hB : 1 ≤ B) : last.natAbs ≤ bndD B n := by
 obtain ⟨z, h1, h2⟩ := h.pivL_bnd (Nat.le_refl r)
 rw [← k.last] at h1
 rw [ratInt_inj h1]
 exact Nat.le_trans h2 (bndD_mono hB h.rn)
theorem EIZ.bnd {Z : List (List Int)} {last : Int} (h : EIR B S n m col r R pc G s) (k : EIZ n m r R pc s Z last) (hB : 1 ≤ B) {i : Nat} (hi : i < n) (j : Nat) : (entZ Z i j).natAbs ≤ bndD B n := by
 obtain ⟨z, h1, h2⟩ := h.minor hi j
 rw [← k.ent i j hi] at h1
 rw [ratInt_inj h1]
 exact Nat.le_trans h2 (bndD_mono hB (by omega))
theorem EIZ.zero {Z : List (List Int)} {last : Int} (h : EIR B S n m col r R pc G s) (k : EIZ n m r R pc s Z last) {i : Nat} (hi : i < n) (j : Nat) : (entZ Z i j == 0) = (entR R i j == 0) := by
 have h1 := k.ent i j hi
 have h2 := h.piv_ne (l := min i r) (by omega)
 have h3 := (h.sB i hi).2
 by_cases h0 : entR R i j = 0
 · rw [h0] at h1 ⊢
   have : entZ Z i j = 0 := ratInt_inj (by rw [h1]; grind)
   rw [this]; rfl
 · have : entZ Z i j ≠ 0 := by
     intro hz
     rw [hz] at h1
     rcases Rat.mul_eq_zero.1 h1.symm with h4 | h4
     · exact h2 h4
     · rcases Rat.mul_eq_zero.1 h4 with h4 | h4
       · exact h3 h4
       · exact h0 h4
   rw [beq_eq_false_iff_ne.2 this, beq_eq_false_iff_ne.2 h0]
theorem entZ_swap {Z : List (List Int)} {k r : Nat} (hk : k < Z.length) (hr : r < Z.length) (i j : Nat) : entZ (swapL Z k r) i j = entZ Z (swI k r i) j := by
 unfold entZ; rw [swapL_get hk hr]
theorem EIZ.swap {Z : List (List Int)} {last : Int} (h : EIR B S n m col r R pc G s) (q : EIZ n m r R pc s Z last) {k : Nat} (hk : k < n) (hrk : r ≤ k) : EIZ n m r (swapL R k r) pc (fun i => s (swI k r i)) (swapL Z k r) last := by
 have hr : r < n := by omega
 have hl := h.len
 have hzl := q.len
 have he : ∀ i j, entR (swapL R k r) i j = entR R (swI k r i) j := entR_swap (by omega) (by omega)
 have hp : ∀ l, l ≤ r → pivL (swapL R k r) pc (fun i => s (swI k r i)) l = pivL R pc s l := fun l hl => pivL_congr fun i hi => by rw [he, swI_lo hrk (by omega)]
 refine ⟨by rw [swapL_len]; exact hzl, fun i hi => by rw [swapL_get (by omega) (by omega)]; exact q.row _ (swI_lt hk hr hi), ?_, fun i j hi => ?_⟩
 · rw [hp r (Nat.le_refl r)]; exact q.last
 · rw [hp _ (by omega), he, entZ_swap (by omega) (by omega), q.ent _ j (swI_lt hk hr hi)]
   have : min (swI k r i) r = min i r := by
    by_cases hir : i < r
    · rw [swI_lo hrk hir]
    · have := swI_hi (i := i) hrk (by omega); omega
   rw [this]
theorem entZ_clear {Z : List (List Int)} {last : Int} (hrow : ∀ i, i < Z.length → (Z[i]?.getD []).length = m) (i j : Nat) (hi : i < Z.length) :
    entZ (clearZ Z r col last) i j = if i ≤ r then entZ Z i j else if j < m then Int.fdiv (entZ Z i j * entZ Z r col - entZ Z i col * entZ Z r j) last else 0 := by
 unfold clearZ
 show ((List.map _ (List.range Z.length))[i]?.getD [])[j]?.getD 0 = _
 rw [List.getElem?_map, List.getElem?_range hi]
 simp only [Option.map_some, Option.getD_some]
 by_cases h1 : i ≤ r
 · rw [if_pos h1, if_pos h1]; rfl
 · rw [if_neg h1, if_neg h1]
   unfold rowZ
   rw [List.getElem?_map]
   by_cases hj : j < (Z[i]?.getD []).length
   · rw [List.getElem?_range hj, if_pos (by rw [hrow i hi] at hj; exact hj)]; rfl
   · rw [List.getElem?_eq_none (l := List.range _) (by simpa using hj), if_neg (by rw [hrow i hi] at hj; exact hj)]; rfl
theorem clearZ_len {Z : List (List Int)} {last : Int} : (clearZ Z r col last).length = Z.length := by unfold clearZ; simp
theorem clearZ_row {Z : List (List Int)} {last : Int} (i : Nat) (hi : i < Z.length) : ((clearZ Z r col last)[i]?.getD []).length = (Z[i]?.getD []).length := by
 unfold clearZ
 rw [List.getElem?_map, List.getElem?_range hi]
 simp only [Option.map_some, Option.getD_some]
 split
 · rfl
 · unfold rowZ; simp
theorem entR_out (hrow : ∀ i, i < n → (R[i]?.getD []).length = m) {i j : Nat} (hi : i < n) (hj : m ≤ j) : entR R i j = 0 := by
 unfold entR; rw [List.getElem?_eq_none (by rw [hrow i hi]; exact hj)]; rfl
theorem EIZ.clear {Z : List (List Int)} {last : Int} (h : EIR B S n m col r R pc G s) (q : EIZ n m r R pc s Z last) (hc : col < m) (hr : r < n) (hp : entR R r col ≠ 0) :
    EIZ n m (r + 1) (clearR R r col) (fun l => if l = r then col else pc l) s (clearZ Z r col last) (entZ Z r col) := by
 have hl := h.len
 have hzl := q.len
 have h' := h.clear hc hr hp
 have he : ∀ i j, i < n → entR (clearR R r col) i j = if i ≤ r then entR R i j else entR R i j - entR R i col / entR R r col * entR R r j :=
  fun i j hi => entR_clear (m := m) (fun i hi => h.row i (by omega)) (fun j hj => h.low r j (Nat.le_refl _) hr hj) i j (by omega) (by omega)
 have hpl : ∀ l, l ≤ r → pivL (clearR R r col) (fun l => if l = r then col else pc l) s l = pivL R pc s l := fun l hl => pivL_congr fun i hi => by
  rw [he _ _ (by omega), if_pos (by omega), if_neg (by omega)]
 have hpr : pivL (clearR R r col) (fun l => if l = r then col else pc l) s (r + 1) = pivL R pc s r * (s r * entR R r col) := by
  rw [pivL, prodQ]
  have := hpl r (Nat.le_refl r)
  unfold pivL at this
  rw [this, he _ _ hr, if_pos (Nat.le_refl r), if_pos rfl]; rfl
 refine ⟨by rw [clearZ_len]; exact hzl, fun i hi => by rw [clearZ_row i (by omega)]; exact q.row i hi, ?_, fun i j hi => ?_⟩
 · rw [hpr, q.ent r col hr, show min r r = r by omega]
 · rw [entZ_clear (m := m) (fun i hi => q.row i (by omega)) i j (by omega)]
   by_cases hir : i ≤ r
   · rw [if_pos hir, hpl _ (by omega), he _ _ hi, if_pos hir, q.ent i j hi, show min i (r + 1) = min i r by omega]
   · rw [if_neg hir]
     by_cases hj : j < m
     · rw [if_pos hj]
       obtain ⟨z, hz1, -⟩ := h'.minor hi j
       rw [show min i (r + 1) = r + 1 by omega, hpr, he _ _ hi, if_neg hir] at hz1
       have hln := q.last_ne h
       have e1 := q.ent i j hi
       have e2 := q.ent r col hr
       have e3 := q.ent i col hi
       have e4 := q.ent r j hr
       have e5 := q.last
       rw [show min i r = r by omega] at e1 e3
       rw [show min r r = r by omega] at e2 e4
       have hkey : entZ Z i j * entZ Z r col - entZ Z i col * entZ Z r j = last * z := ratInt_inj (by
        rw [Rat.intCast_sub, Rat.intCast_mul, Rat.intCast_mul, Rat.intCast_mul, e1, e2, e3, e4, e5, ← hz1]
        grind)
       rw [hkey, Int.mul_comm, Int.mul_fdiv_cancel _ hln, ← hz1, show min i (r + 1) = r + 1 by omega, hpr, he _ _ hi, if_neg hir]
     · rw [if_neg hj, entR_out (n := n) h'.row hi (by omega)]
       have : ((0 : Int) : Rat) = 0 := rfl
       rw [this]; grind
end

/-- Rows of m whole numbers below C. -/
def BdZ (C m : Nat) (Z : List (List Int)) : Prop := (∀ i, i < Z.length → (Z[i]?.getD []).length = m) ∧ ∀ i j, (entZ Z i j).natAbs < C
/-- Rows of m fractions of few limbs. -/
def BdR (C D m : Nat) (R : List (List Rat)) : Prop := (∀ i, i < R.length → (R[i]?.getD []).length = m) ∧ ∀ i j, (entR R i j).num.natAbs < C ∧ (entR R i j).den < D
/-- All that the elimination of whole numbers meets is below C. -/
def okZ (C m : Nat) : Nat → Nat → Nat → List (List Int) → Int → Prop
 | 0, _, _, Z, last => BdZ C m Z ∧ last ≠ 0 ∧ last.natAbs < C
 | f + 1, col, r, Z, last => BdZ C m Z ∧ (last ≠ 0 ∧ last.natAbs < C) ∧ (r = Z.length ∨
     (pivAt (fun i => entZ Z i col == 0) Z.length Z.length r = Z.length → okZ C m f (col + 1) r Z last) ∧
     (pivAt (fun i => entZ Z i col == 0) Z.length Z.length r ≠ Z.length → okZ C m f (col + 1) (r + 1) (clearZ (swapL Z (pivAt (fun i => entZ Z i col == 0) Z.length Z.length r) r) r col last) (entZ Z (pivAt (fun i => entZ Z i col == 0) Z.length Z.length r) col)))
def okR (C D m : Nat) : Nat → Nat → Nat → List (List Rat) → Prop
 | 0, _, _, R => BdR C D m R
 | f + 1, col, r, R => BdR C D m R ∧ (r = R.length ∨
     (pivAt (fun i => entR R i col == 0) R.length R.length r = R.length → okR C D m f (col + 1) r R) ∧
     (pivAt (fun i => entR R i col == 0) R.length R.length r ≠ R.length → okR C D m f (col + 1) (r + 1) (clearR (swapL R (pivAt (fun i => entR R i col == 0) R.length R.length r) r) r col)))
def sgB (b : Bool) : Rat := if b then -1 else 1
theorem prodQ_swI {n k r : Nat} (f : Nat → Rat) (hk : k < n) (hr : r < n) : prodQ n (fun i => f (swI k r i)) = prodQ n f := by
 by_cases hkr : k = r
 · subst hkr; refine prodQ_congr fun i _ => ?_
   unfold swI; split
   · rename_i h; rw [h]
   · rfl
 · have key : ∀ n (f : Nat → Rat) k r, k < r → r < n → prodQ n (fun i => f (swI k r i)) = prodQ n f := by
     intro n
     induction n with
     | zero => intro f k r _ h; omega
     | succ n ih =>
      intro f k r hkr hr
      by_cases hrn : r = n
      · subst hrn
        have hone : ∀ (m : Nat) (g h : Nat → Rat), k < m → (∀ i, i < m → i ≠ k → g i = h i) → prodQ m g * h k = prodQ m h * g k := by
         intro m
         induction m with
         | zero => intro g h hk _; omega
         | succ m ihm =>
          intro g h hk he
          simp only [prodQ]
          by_cases hkm : k = m
          · subst hkm
            rw [prodQ_congr (f := g) (g := h) (fun i hi => he i (by omega) (by omega))]; grind
          · have := ihm g h (by omega) (fun i hi => he i (by omega))
            rw [he m (by omega) (by omega)]; grind
        simp only [prodQ]
        have e1 : swI k r r = k := by unfold swI; rw [if_neg (by omega), if_pos rfl]
        have e2 : swI k r k = r := by unfold swI; rw [if_pos rfl]
        have := hone r (fun i => f (swI k r i)) f hkr (fun i hi hik => by unfold swI; rw [if_neg hik, if_neg (by omega)])
        simp only [e2] at this
        rw [e1]; exact this
      · simp only [prodQ]
        rw [ih f k r hkr (by omega)]
        have : swI k r n = n := by unfold swI; rw [if_neg (by omega), if_neg (by omega)]
        rw [this]
   rcases Nat.lt_or_gt_of_ne hkr with h | h
   · exact key n f k r h hr
   · have : ∀ i, swI k r i = swI r k i := fun i => by unfold swI; split <;> split <;> omega
     rw [← key n f r k h hk]
     exact prodQ_congr fun i _ => by rw [this]
theorem detM_swI {n k r : Nat} (M : Nat → Nat → Rat) (hk : k < n) (hr : r < n) : detM n (fun a b => M (swI k r a) b) = if k = r then detM n M else - detM n M := by
 by_cases hkr : k = r
 · subst hkr
   rw [if_pos rfl]
   refine detM_congr fun a b _ _ => ?_
   unfold swI; split
   · rename_i h; rw [h]
   · rfl
 · rw [if_neg hkr, ← detM_swap M hk hr hkr]
   congr 1
   funext a b
   unfold swI updR
   by_cases h1 : a = k
   · subst h1; rw [if_pos rfl, if_neg hkr, if_pos rfl]
   · rw [if_neg h1]
     by_cases h2 : a = r
     · rw [if_pos h2, if_pos h2]
     · rw [if_neg h2, if_neg h2, if_neg h1]

theorem EIR.bdR {B S n m col r : Nat} {R : List (List Rat)} {pc : Nat → Nat} {G : Nat → Nat → Rat} {s : Nat → Rat} (h : EIR B S n m col r R pc G s) (hB : 1 ≤ B) (hS : 1 ≤ S) : BdR (bndD B n + 1) (bndD B n * S + 1) m R := by
 have hl := h.len
 refine ⟨fun i hi => h.row i (by omega), fun i j => ?_⟩
 by_cases hi : i < n
 · have := h.bound hB hi j; omega
 · have : entR R i j = 0 := by unfold entR; rw [List.getElem?_eq_none (l := R) (by omega)]; rfl
   have h1 : 1 ≤ bndD B n := bndD_mono (m := 0) hB (by omega)
   have h2 : 1 * 1 ≤ bndD B n * S := Nat.mul_le_mul h1 hS
   rw [this]
   refine ⟨by simp, ?_⟩
   rw [show (0 : Rat).den = 1 from rfl]; omega
theorem EIZ.bdZ {B S n m col r : Nat} {R : List (List Rat)} {pc : Nat → Nat} {G : Nat → Nat → Rat} {s : Nat → Rat} {Z : List (List Int)} {last : Int} (h : EIR B S n m col r R pc G s) (k : EIZ n m r R pc s Z last) (hB : 1 ≤ B) : BdZ (bndD B n + 1) m Z := by
 have hl := k.len
 refine ⟨fun i hi => k.row i (by omega), fun i j => ?_⟩
 by_cases hi : i < n
 · have := k.bnd h hB hi j; omega
 · have : entZ Z i j = 0 := by unfold entZ; rw [List.getElem?_eq_none (l := Z) (by omega)]; rfl
   rw [this]; simp
/-- Both eliminations, side by side. -/
theorem elim_side {B S n m : Nat} (hB : 1 ≤ B) (hS : 1 ≤ S) : ∀ (f col r : Nat) (R : List (List Rat)) (pc : Nat → Nat) (G : Nat → Nat → Rat) (s : Nat → Rat) (Z : List (List Int)) (neg : Bool) (last : Int),
    EIR B S n m col r R pc G s → EIZ n m r R pc s Z last → col + f ≤ m →
    okZ (bndD B n + 1) m f col r Z last ∧ okR (bndD B n + 1) (bndD B n * S + 1) m f col r R ∧
    (elimZ f col r Z neg last).2.1 = (elimR f col r R neg).2.1 ∧ (elimZ f col r Z neg last).2.2.1 = (elimR f col r R neg).2.2 ∧
    ∃ col' pc' G' s', EIR B S n m col' (elimR f col r R neg).2.1 (elimR f col r R neg).1 pc' G' s' ∧ EIZ n m (elimR f col r R neg).2.1 (elimR f col r R neg).1 pc' s' (elimZ f col r Z neg last).1 (elimZ f col r Z neg last).2.2.2 ∧
     (col' = col + f ∨ (elimR f col r R neg).2.1 = n ∧ col' ≤ col + f) ∧ prodQ n s' = prodQ n s ∧ (∀ φ : Nat → Nat, sgB (elimR f col r R neg).2.2 * detM n (fun a b => G' a (φ b)) = sgB neg * detM n (fun a b => G a (φ b)))
 | 0, col, r, R, pc, G, s, Z, neg, last, h, k, hm => by
  have h1 := k.last_bnd h hB
  exact ⟨⟨k.bdZ h hB, k.last_ne h, by omega⟩, h.bdR hB hS, rfl, rfl, col, pc, G, s, h, k, .inl rfl, rfl, fun φ => rfl⟩
 | f + 1, col, r, R, pc, G, s, Z, neg, last, h, k, hm => by
  have hRl := h.len
  have hZl := k.len
  have h1 := k.last_bnd h hB
  have hrn := h.rn
  have hpe : pivAt (fun i => entZ Z i col == 0) Z.length Z.length r = pivAt (fun i => entR R i col == 0) R.length R.length r := by
   rw [hRl, hZl]
   exact pivAt_congr (by omega) hrn (fun i h1 h2 => k.zero h h2 col)
  unfold elimZ elimR okZ okR
  simp only [hpe]
  rw [hRl] at hpe ⊢
  simp only [hZl]
  by_cases hr : r = n
  · simp only [if_pos hr]
    exact ⟨⟨k.bdZ h hB, ⟨k.last_ne h, by omega⟩, .inl hr⟩, ⟨h.bdR hB hS, .inl hr⟩, (by trivial), (by trivial), col, pc, G, s, h, k, .inr ⟨hr, by omega⟩, rfl, fun φ => rfl⟩
  · simp only [if_neg hr]
    obtain ⟨q, hq⟩ : ∃ q, pivAt (fun i => entR R i col == 0) n n r = q := ⟨_, rfl⟩
    obtain ⟨p1, p2, p3, p4⟩ := pivAt_spec (z := fun i => entR R i col == 0) (n := n) (f := n) (k := r) (by omega) (by omega)
    rw [hq] at p1 p2 p3 p4
    simp only [hq]
    by_cases hqn : q = n
    · simp only [if_pos hqn]
      have hz : ∀ i, r ≤ i → i < n → entR R i col = 0 := fun i h1 h2 => by simpa using p3 i h1 (by omega)
      obtain ⟨o1, o2, o3, o4, col', pc', G', s', o5, o6, o7, o8, o9⟩ := elim_side hB hS f (col + 1) r R pc G s Z neg last (h.skip (by omega) hz) k (by omega)
      exact ⟨⟨k.bdZ h hB, ⟨k.last_ne h, by omega⟩, .inr ⟨fun _ => o1, fun hn => absurd hqn hn⟩⟩, ⟨h.bdR hB hS, .inr ⟨fun _ => o2, fun hn => absurd hqn hn⟩⟩, o3, o4, col', pc', G', s', o5, o6, by omega, o8, o9⟩
    · simp only [if_neg hqn]
      have hqn' : q < n := by omega
      have hpv : entR R q col ≠ 0 := by simpa using p4 hqn'
      have hsw := h.swap hqn' p1
      have ksw := k.swap h hqn' p1
      have hen : entR (swapL R q r) r col = entR R q col := by
       rw [entR_swap (by omega) (by omega)]; congr 1; unfold swI; split
       · rename_i h; exact h
       · rw [if_pos rfl]
      have hez : entZ (swapL Z q r) r col = entZ Z q col := by
       rw [entZ_swap (by omega) (by omega)]; congr 1; unfold swI; split
       · rename_i h; exact h
       · rw [if_pos rfl]
      have hcl := hsw.clear (by omega) (by omega) (by rw [hen]; exact hpv)
      have kcl := ksw.clear hsw (by omega) (by omega) (by rw [hen]; exact hpv)
      rw [hez] at kcl
      obtain ⟨o1, o2, o3, o4, col', pc', G', s', o5, o6, o7, o8, o9⟩ := elim_side hB hS f (col + 1) (r + 1) _ _ _ _ _ (neg != decide (q ≠ r)) _ hcl kcl (by omega)
      refine ⟨⟨k.bdZ h hB, ⟨k.last_ne h, by omega⟩, .inr ⟨fun hn => absurd hn hqn, fun _ => o1⟩⟩, ⟨h.bdR hB hS, .inr ⟨fun hn => absurd hn hqn, fun _ => o2⟩⟩, o3, o4, col', pc', G', s', o5, o6, by omega, ?_, fun φ => ?_⟩
      · rw [o8, prodQ_swI s hqn' (by omega)]
      · rw [o9, detM_swI (fun a b => G a (φ b)) hqn' (by omega)]
        by_cases hqr : q = r
        · rw [if_pos hqr]
          have : decide (q ≠ r) = false := by simp [hqr]
          rw [this]; cases neg <;> rfl
        · rw [if_neg hqr]
          have : decide (q ≠ r) = true := by simp [hqr]
          rw [this]; cases neg <;> simp [sgB] <;> grind

/-- The common denominator of the first elements of a row. -/
def denTo (row : List Rat) : Nat → Nat
 | 0 => 1
 | k + 1 => denTo row k * ((row[k]?.getD 0).den / Nat.gcd (denTo row k) (row[k]?.getD 0).den)
def wholeRow (row : List Rat) : List Int := row.map fun f => f.num * ((denTo row row.length / f.den : Nat) : Int)
def wholeZ (R : List (List Rat)) : List (List Int) := R.map wholeRow
def denAt (R : List (List Rat)) (i : Nat) : Nat := denTo (R[i]?.getD []) (R[i]?.getD []).length
theorem denTo_pos (row : List Rat) (k : Nat) : 0 < denTo row k := by
 induction k with
 | zero => exact Nat.one_pos
 | succ k ih =>
  refine Nat.mul_pos ih (Nat.div_pos (Nat.le_of_dvd (Rat.den_pos _) (Nat.gcd_dvd_right _ _)) (Nat.gcd_pos_of_pos_left _ ih))
theorem denTo_step (row : List Rat) (k : Nat) : denTo row k ∣ denTo row (k + 1) ∧ (row[k]?.getD 0).den ∣ denTo row (k + 1) := by
 refine ⟨⟨_, rfl⟩, ?_⟩
 obtain ⟨c, hc⟩ := Nat.gcd_dvd_left (denTo row k) (row[k]?.getD 0).den
 refine ⟨c, ?_⟩
 simp only [denTo]
 obtain ⟨d, hd⟩ := Nat.gcd_dvd_right (denTo row k) (row[k]?.getD 0).den
 have hg : 0 < Nat.gcd (denTo row k) (row[k]?.getD 0).den := Nat.gcd_pos_of_pos_left _ (denTo_pos row k)
 have e : (row[k]?.getD 0).den / Nat.gcd (denTo row k) (row[k]?.getD 0).den = d := by
  rw [Nat.div_eq_iff_eq_mul_left hg (Nat.gcd_dvd_right _ _), Nat.mul_comm]; exact hd
 rw [e]
 calc denTo row k * d = (Nat.gcd (denTo row k) (row[k]?.getD 0).den * c) * d := by rw [← hc]
  _ = (Nat.gcd (denTo row k) (row[k]?.getD 0).den * d) * c := by rw [Nat.mul_assoc, Nat.mul_assoc, Nat.mul_comm c d]
  _ = (row[k]?.getD 0).den * c := by rw [← hd]
theorem denTo_dvd (row : List Rat) {j : Nat} : ∀ {k : Nat}, j < k → (row[j]?.getD 0).den ∣ denTo row k
 | 0, h => by omega
 | k + 1, h => by
  by_cases hj : j = k
  · rw [hj]; exact (denTo_step row k).2
  · exact Nat.dvd_trans (denTo_dvd row (j := j) (k := k) (by omega)) (denTo_step row k).1
theorem denTo_le (row : List Rat) {D : Nat} (h : ∀ j : Nat, (row[j]?.getD 0).den ≤ D) (k : Nat) : denTo row k ≤ D ^ k := by
 induction k with
 | zero => exact Nat.le_refl _
 | succ k ih =>
  rw [Nat.pow_succ]
  exact Nat.mul_le_mul ih (Nat.le_trans (Nat.div_le_self _ _) (h k))
theorem wholeRow_len (row : List Rat) : (wholeRow row).length = row.length := by unfold wholeRow; simp
theorem wholeRow_get (row : List Rat) (j : Nat) : (((wholeRow row)[j]?.getD 0 : Int) : Rat) = (denTo row row.length : Nat) * row[j]?.getD 0 := by
 unfold wholeRow
 rw [List.getElem?_map]
 by_cases hj : j < row.length
 · rw [List.getElem?_eq_getElem hj]
   simp only [Option.map_some, Option.getD_some]
   have hd := denTo_dvd row hj
   rw [List.getElem?_eq_getElem hj] at hd
   simp only [Option.getD_some] at hd
   obtain ⟨c, hc⟩ := hd
   rw [hc, Nat.mul_div_cancel_left _ (Rat.den_pos _), Rat.intCast_mul, Rat.intCast_natCast, Rat.natCast_mul]
   have e0 : ((row[j].num : Int) : Rat) / ((row[j].den : Nat) : Rat) = row[j] := by have := Rat.num_divInt_den row[j]; rw [Rat.divInt_eq_div, Rat.intCast_natCast] at this; exact this
   have e1 : ((row[j].den : Nat) : Rat) ≠ 0 := by
    intro h; have : row[j].den = 0 := by exact_mod_cast h
    have := row[j].den_pos; omega
   have e2 : ((row[j].num : Int) : Rat) = row[j] * ((row[j].den : Nat) : Rat) := by rw [← e0]; grind
   rw [e2]; grind
 · rw [List.getElem?_eq_none (by omega)]
   simp only [Option.map_none, Option.getD_none]
   have : ((0 : Int) : Rat) = 0 := rfl
   rw [this]; grind
theorem entZ_whole (R : List (List Rat)) (i j : Nat) : ((entZ (wholeZ R) i j : Int) : Rat) = (denAt R i : Nat) * entR R i j := by
 unfold entZ wholeZ entR denAt
 rw [List.getElem?_map]
 cases h : R[i]? with
 | none => simp only [Option.map_none, Option.getD_none, List.getElem?_nil]; have : ((0 : Int) : Rat) = 0 := rfl
           rw [this]; grind
 | some row => simp only [Option.map_some, Option.getD_some]; exact wholeRow_get row j
/-- The beginning. -/
theorem elim_start {B S n m : Nat} (R : List (List Rat)) (hl : R.length = n) (hrow : ∀ i, i < n → (R[i]?.getD []).length = m) (hS : ∀ i, i < n → denAt R i ≤ S) (hBd : ∀ i j, i < n → (entZ (wholeZ R) i j).natAbs ≤ B) :
    EIR B S n m 0 0 R (fun _ => 0) (fun i j => (denAt R i : Nat) * entR R i j) (fun i => (denAt R i : Nat)) ∧ EIZ n m 0 R (fun _ => 0) (fun i => (denAt R i : Nat)) (wholeZ R) 1 := by
 refine ⟨⟨hl, hrow, fun l h => by omega, fun l l' _ h => by omega, fun i j _ _ h => by omega, fun l j h => by omega, fun l h => by omega, Nat.zero_le _, Nat.zero_le _, fun i hi => ⟨⟨(denAt R i : Nat), by rw [Rat.intCast_natCast], by rw [Int.natAbs_natCast]; exact hS i hi⟩, fun h0 => ?_⟩, fun i j hi => ⟨_, (entZ_whole R i j).symm, hBd i j hi⟩, fun N f σ _ _ _ => rfl⟩, ⟨by unfold wholeZ; simp [hl], fun i hi => ?_, rfl, fun i j hi => ?_⟩⟩
 · have : denAt R i = 0 := by exact_mod_cast h0
   have := denTo_pos (R[i]?.getD []) (R[i]?.getD []).length
   unfold denAt at *; omega
 · unfold wholeZ
   rw [List.getElem?_map, List.getElem?_eq_getElem (by omega)]
   simp only [Option.map_some, Option.getD_some]
   rw [wholeRow_len]
   have := hrow i hi
   rw [List.getElem?_eq_getElem (by omega)] at this
   exact this
 · rw [entZ_whole]
   have : pivL R (fun _ => 0) (fun i => ((denAt R i : Nat) : Rat)) (min i 0) = 1 := by rw [show min i 0 = 0 by omega]; rfl
   rw [this]; grind
end Go.Proofs.YtigdclhagmnopaaGreat
