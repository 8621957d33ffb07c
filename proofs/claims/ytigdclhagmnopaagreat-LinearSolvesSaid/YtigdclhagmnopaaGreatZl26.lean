/- Rows of fractions in a block of the call's own, whose -/
import Derived.Test.YtigdclhagmnopaaGreatZl25
set_option linter.unusedSimpArgs false
set_option linter.unusedVariables false
namespace Go.Proofs.YtigdclhagmnopaaGreat
open Go.RowKit
theorem Zpk {es : List FE} {i : Nat} (e : FE) (h : i < es.length) : ((((Zm es).set (i * 4) (.bool e.na)).set (i * 4 + 1) (.slice e.A e.n e.c)).set (i * 4 + 2) (.bool e.nb)).set (i * 4 + 3) (.slice e.B e.m e.d) = Zm (es.set i e) := by
 induction es generalizing i with
 | nil => simp at h
 | cons a l ih =>
  cases i with
  | zero => rfl
  | succ i =>
   have := ih (i := i) (by simpa using h)
   rw [show (i + 1) * 4 = i * 4 + 1 + 1 + 1 + 1 by omega]
   simp only [Zm, List.set_cons_succ, this]
theorem Zji {es : List FE} {i : Nat} (e : FE) (h : i < es.length) : ((((Z0 es).setIfInBounds (i * 4) (.bool e.na)).setIfInBounds (i * 4 + 1) (.slice e.A e.n e.c)).setIfInBounds (i * 4 + 2) (.bool e.nb)).setIfInBounds (i * 4 + 3) (.slice e.B e.m e.d) = Z0 (es.set i e) := by
 unfold Z0; rw [<- Zpk e h]; simp
theorem Zec {cs : Array Value} (h : NoLimb cs) (i : Nat) {v : Value} (hv : ∀ x, v ≠ limb x) : NoLimb (cs.setIfInBounds i v) := fun j x => by
 rw [Array.getElem?_setIfInBounds]
 split
 ·split
  ·simpa using hv x
  ·simp
 ·exact h j x
def Zf4 (w : World) (g i : Nat) (na : Bool) (A : Option Addr) (n c : Nat) (nb : Bool) (B : Option Addr) (m d : Nat) : World :=
 (((w.setCell ⟨g, i * 4, none⟩ (.bool na)).setCell ⟨g, i * 4 + 1, none⟩ (.slice A n c)).setCell ⟨g, i * 4 + 2, none⟩ (.bool nb)).setCell ⟨g, i * 4 + 3, none⟩ (.slice B m d)
section
variable {w : World} {g i : Nat} {na : Bool} {A : Option Addr} {n c : Nat} {nb : Bool} {B : Option Addr} {m d : Nat}
theorem Zey {A' : Option Addr} {n' c' : Nat} {l : List Nat} {t : TypeId} {cs : Array Value} (h : Lim w A' n' c' l) (hb : Blk w g t cs) (hcs : NoLimb cs) : Lim (Zf4 w g i na A n c nb B m d) A' n' c' l := by
 have h1 := hb.set_ (i * 4) (.bool na)
 have l1 := Zec hcs (i * 4) (v := .bool na) (fun x => by simp)
 have h2 := h1.set_ (i * 4 + 1) (.slice A n c)
 have l2 := Zec l1 (i * 4 + 1) (v := .slice A n c) (fun x => by simp)
 have h3 := h2.set_ (i * 4 + 2) (.bool nb)
 have l3 := Zec l2 (i * 4 + 2) (v := .bool nb) (fun x => by simp)
 exact (((h.set_box hb hcs _ _).set_box h1 l1 _ _).set_box h2 l2 _ _).set_box h3 l3 _ _
theorem Zm4 {na' : Bool} {A' : Option Addr} {n' c' : Nat} {nb' : Bool} {B' : Option Addr} {m' d' : Nat} {r : Rat} {t : TypeId} {cs : Array Value} (h : Fr w na' A' n' c' nb' B' m' d' r) (hb : Blk w g t cs) (hcs : NoLimb cs) : Fr (Zf4 w g i na A n c nb B m d) na' A' n' c' nb' B' m' d' r :=
 ⟨⟨h.1.1, h.1.2.1, Zey h.1.2.2 hb hcs⟩, ⟨h.2.1, h.2.2.1, Zey h.2.2.2 hb hcs⟩⟩
theorem Zo2 {g' : Nat} {t : TypeId} {cs : Array Value} (h : Blk w g' t cs) (hg : g' ≠ g) : Blk (Zf4 w g i na A n c nb B m d) g' t cs := (((h.far hg _).far hg _).far hg _).far hg _
theorem Zlt {G : Nat -> Prop} {w0 : World} (h : Kept G w0 w) (hg : G g \/ w0.heap.size <= g) : Kept G w0 (Zf4 w g i na A n c nb B m d) :=
 (((h.set_ (p := ⟨g, i * 4, none⟩) hg _).set_ (p := ⟨g, i * 4 + 1, none⟩) hg _).set_ (p := ⟨g, i * 4 + 2, none⟩) hg _).set_ (p := ⟨g, i * 4 + 3, none⟩) hg _
theorem Zkx {b : Nat} {w0 : World} (h : Below b w0 w) (hg : b <= g) : Below b w0 (Zf4 w g i na A n c nb B m d) :=
 (((h.setCell (p := ⟨g, i * 4, none⟩) hg _).setCell (p := ⟨g, i * 4 + 1, none⟩) hg _).setCell (p := ⟨g, i * 4 + 2, none⟩) hg _).setCell (p := ⟨g, i * 4 + 3, none⟩) hg _
end
def FRaw (t : TypeId) (w : World) (g n : Nat) : Prop := ∃ es : List FE, Blk w g t (Z0 es) /\ n <= es.length
def FOwn (t : TypeId) (w : World) (g : Nat) (qs : List Rat) : Prop := ∃ es zs : List FE, Blk w g t (Z0 (es ++ zs)) /\ (∀ e ∈ es, e.in_ w) /\ es.map FE.q = qs
section
variable {t : TypeId} {w w' : World} {g : Nat} {qs : List Rat}
theorem FRaw.lt {n : Nat} (h : FRaw t w g n) : g < w.heap.size := by obtain ⟨es, h1, h2⟩ := h; exact h1.lt
theorem FRaw.box {n : Nat} (h : FRaw t w g n) : ∃ t cs, Blk w g t cs /\ NoLimb cs := by obtain ⟨es, h1, h2⟩ := h; exact ⟨t, _, h1, Zby es⟩
theorem FRaw.cells {n i : Nat} (h : FRaw t w g n) (hi : i < n) : ∃ na A k c nb B m d, w.cell? ⟨g, i * 4, none⟩ = some (.bool na) /\ w.cell? ⟨g, i * 4 + 1, none⟩ = some (.slice A k c) /\ w.cell? ⟨g, i * 4 + 2, none⟩ = some (.bool nb) /\ w.cell? ⟨g, i * 4 + 3, none⟩ = some (.slice B m d) := by
 obtain ⟨es, h1, hn⟩ := h
 have hc := Zdr (List.getElem?_eq_getElem (show i < es.length by omega))
 exact ⟨_, _, _, _, _, _, _, _, by rw [h1.cell]; exact hc.1, by rw [h1.cell]; exact hc.2.1, by rw [h1.cell]; exact hc.2.2.1, by rw [h1.cell]; exact hc.2.2.2⟩
theorem FRaw.frozen {n : Nat} (h : FRaw t w g n) (i : Nat) : w.frozen? ⟨g, i, none⟩ = false := by obtain ⟨es, h1, -⟩ := h; exact h1.frozen i
theorem FOwn.raw (h : FOwn t w g qs) : FRaw t w g qs.length := by obtain ⟨es, zs, h1, h2, rfl⟩ := h; exact ⟨es ++ zs, h1, by simp⟩
theorem FOwn.below (h : FOwn t w g qs) (hb : Below w.heap.size w w') : FOwn t w' g qs := by
 obtain ⟨es, zs, h1, h2, h3⟩ := h
 exact ⟨es, zs, Zc hb h1, fun e he => (h2 e he).below hb, h3⟩
theorem FOwn.lt (h : FOwn t w g qs) : g < w.heap.size := h.raw.lt
theorem FOwn.box (h : FOwn t w g qs) : ∃ t cs, Blk w g t cs /\ NoLimb cs := h.raw.box
theorem FOwn.frozen (h : FOwn t w g qs) (i : Nat) : w.frozen? ⟨g, i, none⟩ = false := h.raw.frozen i
theorem FOwn.at_ (h : FOwn t w g qs) {i : Nat} (hi : i < qs.length) : ∃ na A k c nb B m d, w.cell? ⟨g, i * 4, none⟩ = some (.bool na) /\ w.cell? ⟨g, i * 4 + 1, none⟩ = some (.slice A k c) /\ w.cell? ⟨g, i * 4 + 2, none⟩ = some (.bool nb) /\ w.cell? ⟨g, i * 4 + 3, none⟩ = some (.slice B m d) /\ Fr w na A k c nb B m d (qs[i]?.getD 0) := by
 obtain ⟨es, zs, h1, h2, rfl⟩ := h
 have hl : i < es.length := by simpa using hi
 have he := List.getElem?_eq_getElem hl
 have hc := Zdr (es := es ++ zs) (i := i) (e := es[i]) (by rw [List.getElem?_append_left hl]; exact he)
 refine ⟨_, _, _, _, _, _, _, _, by rw [h1.cell]; exact hc.1, by rw [h1.cell]; exact hc.2.1, by rw [h1.cell]; exact hc.2.2.1, by rw [h1.cell]; exact hc.2.2.2, ?_⟩
 rw [List.getElem?_map, he]
 exact h2 _ (List.getElem_mem hl)
theorem FOwn.set_ (h : FOwn t w g qs) {i : Nat} (hi : i < qs.length) {na : Bool} {A : Option Addr} {k c : Nat} {nb : Bool} {B : Option Addr} {m d : Nat} {r : Rat} (hr : Fr w na A k c nb B m d r) : FOwn t (Zf4 w g i na A k c nb B m d) g (qs.set i r) := by
 obtain ⟨es, zs, h1, h2, rfl⟩ := h
 have hl : i < es.length := by simpa using hi
 have h3 := (((h1.set_ (i * 4) (.bool na)).set_ (i * 4 + 1) (.slice A k c)).set_ (i * 4 + 2) (.bool nb)).set_ (i * 4 + 3) (.slice B m d)
 have hs := Zji (es := es ++ zs) (i := i) ⟨na, A, k, c, nb, B, m, d, r⟩ (by rw [List.length_append]; omega)
 dsimp only at hs
 rw [hs, List.set_append_left _ _ hl] at h3
 refine ⟨_, zs, h3, fun e he => ?_, by rw [List.map_set]⟩
 rcases List.mem_or_eq_of_mem_set he with he | rfl
 ·exact Zm4 (h2 e he) h1 (Zby _)
 ·exact Zm4 hr h1 (Zby _)
theorem FOwn.other {g' i : Nat} {na : Bool} {A : Option Addr} {k c : Nat} {nb : Bool} {B : Option Addr} {m d : Nat} (h : FOwn t w g qs) (hne : g ≠ g') (hb : ∃ t cs, Blk w g' t cs /\ NoLimb cs) : FOwn t (Zf4 w g' i na A k c nb B m d) g qs := by
 obtain ⟨es, zs, h1, h2, h3⟩ := h
 obtain ⟨t', cs, hb, hcs⟩ := hb
 exact ⟨es, zs, Zo2 h1 hne, fun e he => Zm4 (h2 e he) hb hcs, h3⟩
theorem FOwn.fl (h : FOwn t w g qs) {c : Nat} (hc : qs.length <= c) (hm : c <= maxLen) : FL w (some ⟨g, 0, none⟩) qs.length c qs := by
 obtain ⟨es, zs, h1, h2, rfl⟩ := h
 rw [List.length_map] at hc ⊢
 refine ⟨es, rfl, hc, hm, h2, rfl, fun _ => ⟨g, 0, rfl, fun k e he => ?_⟩⟩
 have hk : k < es.length := (List.getElem?_eq_some_iff.1 he).1
 have hc := Zdr (es := es ++ zs) (i := k) (e := e) (by rw [List.getElem?_append_left hk]; exact he)
 simp only [Nat.zero_add, h1.cell]
 exact hc
theorem OwnF.fown {base : Nat} {v : Value} (h : OwnF t w base v qs) : (v = .slice none 0 0 /\ qs = []) \/ ∃ g c, v = .slice (some ⟨g, 0, none⟩) qs.length c /\ base <= g /\ qs.length <= c /\ c <= maxLen /\ FOwn t w g qs := by
 obtain ⟨es, h1, h2, rfl⟩ := h
 rcases h1 with ⟨rfl, rfl⟩ | ⟨g, sp, rfl, h4, h5, h6⟩
 ·exact .inl ⟨rfl, rfl⟩
 ·exact .inr ⟨g, _, by rw [List.length_map], h4, by rw [List.length_map]; omega, h5, es, List.replicate sp Zal, h6, h2, rfl⟩
end
def Za5 : Nat -> (Nat -> Rat) -> Rat
 | 0, _ => 0
 | n + 1, f => Za5 n f + f n
def Zbw (i a : Nat) : Nat := if a < i then a else a + 1
def sgnQ (i : Nat) : Rat := if i % 2 = 0 then 1 else -1
def Zai : Nat -> (Nat -> Nat -> Rat) -> Rat
 | 0, _ => 1
 | n + 1, M => Za5 (n + 1) fun i => sgnQ i * M i 0 * Zai n (fun a b => M (Zbw i a) (b + 1))
theorem Zag {n : Nat} {f g : Nat -> Rat} (h : ∀ i, i < n -> f i = g i) : Za5 n f = Za5 n g := by
 induction n with
 | zero => rfl
 | succ n ih => simp only [Za5]; rw [ih (fun i hi => h i (by omega)), h n (by omega)]
theorem Zej {n : Nat} (f g : Nat -> Rat) (x y : Rat) : Za5 n (fun i => x * f i + y * g i) = x * Za5 n f + y * Za5 n g := by
 induction n with
 | zero => simp only [Za5]; grind
 | succ n ih => simp only [Za5]; rw [ih]; grind
theorem Zi8 {n : Nat} {f : Nat -> Rat} (h : ∀ i, i < n -> f i = 0) : Za5 n f = 0 := by
 induction n with
 | zero => rfl
 | succ n ih => simp only [Za5]; rw [ih (fun i hi => h i (by omega)), h n (by omega)]; grind
theorem Zf5 {n : Nat} {f : Nat -> Rat} (k : Nat) (hk : k < n) (h : ∀ i, i < n -> i ≠ k -> f i = 0) : Za5 n f = f k := by
 induction n with
 | zero => omega
 | succ n ih =>
  simp only [Za5]
  by_cases hn : k = n
  ·subst hn
   rw [Zi8 (fun i hi => h i (by omega) (by omega))]; grind
  ·rw [ih (by omega) (fun i hi => h i (by omega)), h n (by omega) (by omega)]; grind
theorem Zsw {n : Nat} {f : Nat -> Rat} (k : Nat) (hk : k + 1 < n) (h : ∀ i, i < n -> i ≠ k -> i ≠ k + 1 -> f i = 0) : Za5 n f = f k + f (k + 1) := by
 induction n with
 | zero => omega
 | succ n ih =>
  simp only [Za5]
  by_cases hn : k + 1 = n
  ·subst hn
   rw [Zf5 k (by omega) (fun i hi h2 => h i (by omega) h2 (by omega))]
  ·rw [ih (by omega) (fun i hi => h i (by omega)), h n (by omega) (by omega) (by omega)]; grind
theorem Zn5 {i a n : Nat} (ha : a < n) : Zbw i a < n + 1 := by unfold Zbw; split <;> omega
theorem Zsx (i a : Nat) : Zbw i a ≠ i := by unfold Zbw; split <;> omega
theorem Zhg {i k : Nat} (h : k ≠ i) : Zbw i (if k < i then k else k - 1) = k := by
 unfold Zbw
 by_cases h1 : k < i
 ·rw [if_pos h1, if_pos h1]
 ·rw [if_neg h1, if_neg (by omega)]; omega
theorem Zrx {i a b : Nat} (h : Zbw i a = Zbw i b) : a = b := by unfold Zbw at h; split at h <;> split at h <;> omega
theorem Zar {n : Nat} {M N : Nat -> Nat -> Rat} (h : ∀ a b, a < n -> b < n -> M a b = N a b) : Zai n M = Zai n N := by
 induction n generalizing M N with
 | zero => rfl
 | succ n ih =>
  simp only [Zai]
  refine Zag fun i hi => ?_
  rw [h i 0 hi (by omega), ih (fun a b ha hb => h _ _ (Zn5 ha) (by omega))]
def Zad (M : Nat -> Nat -> Rat) (k : Nat) (r : Nat -> Rat) : Nat -> Nat -> Rat := fun a b => if a = k then r b else M a b
theorem Zer {M : Nat -> Nat -> Rat} {k i : Nat} {r : Nat -> Rat} (h : k ≠ i) :
    (fun a b => Zad M k r (Zbw i a) (b + 1)) = Zad (fun a b => M (Zbw i a) (b + 1)) (if k < i then k else k - 1) (fun b => r (b + 1)) := by
 funext a b
 unfold Zad
 by_cases ha : a = (if k < i then k else k - 1)
 ·rw [if_pos ha, ha, Zhg h, if_pos rfl]
 ·rw [if_neg ha, if_neg]
  intro e
  exact ha (Zrx (i := i) (by rw [e, Zhg h]))
theorem Zes {M : Nat -> Nat -> Rat} {k : Nat} {r : Nat -> Rat} : (fun a b => Zad M k r (Zbw k a) (b + 1)) = (fun a b => M (Zbw k a) (b + 1)) := by
 funext a b
 unfold Zad
 rw [if_neg (Zsx k a)]
theorem Zgi {n : Nat} (M : Nat -> Nat -> Rat) {k : Nat} (hk : k < n) (r s : Nat -> Rat) (x y : Rat) :
    Zai n (Zad M k (fun b => x * r b + y * s b)) = x * Zai n (Zad M k r) + y * Zai n (Zad M k s) := by
 induction n generalizing M k r s with
 | zero => omega
 | succ n ih =>
  simp only [Zai]
  rw [<- Zej]
  refine Zag fun i hi => ?_
  by_cases h : k = i
  ·subst h
   rw [Zes, Zes, Zes]
   simp only [Zad, if_true]
   grind
  ·rw [Zer h, Zer h, Zer h]
   rw [ih (fun a b => M (Zbw i a) (b + 1)) (k := if k < i then k else k - 1) (by split <;> omega) (fun b => r (b + 1)) (fun b => s (b + 1))]
   simp only [Zad, if_neg (show ¬ i = k from fun e => h e.symm)]
   grind
theorem Zq0 (i : Nat) : sgnQ (i + 1) = - sgnQ i := by
 unfold sgnQ
 rcases Nat.mod_two_eq_zero_or_one i with h | h
 ·rw [if_pos h, if_neg (by omega)]
 ·rw [if_neg (by omega : ¬ i % 2 = 0), if_pos (by omega)]; grind
theorem Znt {n : Nat} {M : Nat -> Nat -> Rat} {k : Nat} (hk : k + 1 < n) (h : ∀ b, M (k + 1) b = M k b) : Zai n M = 0 := by
 induction n generalizing M k with
 | zero => omega
 | succ n ih =>
  simp only [Zai]
  rw [Zsw k hk]
  ·have hm : (fun a b => M (Zbw k a) (b + 1)) = (fun a b => M (Zbw (k + 1) a) (b + 1)) := by
     funext a b
     by_cases ha : a = k
     ·subst ha
      simp only [Zbw, if_neg (Nat.lt_irrefl a), if_pos (Nat.lt_succ_self a)]
      exact h _
     ·have : Zbw k a = Zbw (k + 1) a := by unfold Zbw; split <;> split <;> omega
      rw [this]
   rw [hm, h 0, Zq0]; grind
  ·intro i hi h1 h2
   rw [ih (M := fun a b => M (Zbw i a) (b + 1)) (k := if k < i then k else k - 1)]
   ·grind
   ·split <;> omega
   ·intro b
    have e1 : Zbw i (if k < i then k else k - 1) = k := Zhg (Ne.symm h1)
    have e2 : Zbw i ((if k < i then k else k - 1) + 1) = k + 1 := by unfold Zbw; split <;> split <;> omega
    rw [e1, e2]; exact h _
theorem Zdj (M : Nat -> Nat -> Rat) (k : Nat) : Zad M k (M k) = M := by
 funext a b; unfold Zad; split
 ·rename_i h; rw [h]
 ·rfl
theorem Zbp (M : Nat -> Nat -> Rat) {k l : Nat} (h : k ≠ l) (r s : Nat -> Rat) : Zad (Zad M k r) l s = Zad (Zad M l s) k r := by
 funext a b; unfold Zad
 by_cases h1 : a = k
 ·subst h1; simp [h]
 ·simp [h1]
theorem Zko {n : Nat} (M : Nat -> Nat -> Rat) {k : Nat} (hk : k < n) (r s : Nat -> Rat) :
    Zai n (Zad M k (fun b => r b + s b)) = Zai n (Zad M k r) + Zai n (Zad M k s) := by
 have := Zgi M hk r s 1 1
 rw [show (fun b => r b + s b) = (fun b => 1 * r b + 1 * s b) by funext b; grind, this]; grind
theorem Zhz {n : Nat} {k l : Nat} (hk : k < n) (hl : l < n) (hne : k ≠ l) (hz : ∀ (M : Nat -> Nat -> Rat), (∀ b, M k b = M l b) -> Zai n M = 0) (M : Nat -> Nat -> Rat) (r s : Nat -> Rat) :
    Zai n (Zad (Zad M k r) l s) = - Zai n (Zad (Zad M k s) l r) := by
 have h := hz (Zad (Zad M k (fun b => r b + s b)) l (fun b => r b + s b)) (fun b => by simp [Zad, hne])
 have h1 := hz (Zad (Zad M k r) l r) (fun b => by simp [Zad, hne])
 have h2 := hz (Zad (Zad M k s) l s) (fun b => by simp [Zad, hne])
 rw [Zko _ hl, Zbp _ hne, Zbp _ hne, Zko _ hk, Zko _ hk, <- Zbp _ hne, <- Zbp _ hne, <- Zbp _ hne, <- Zbp _ hne, h1, h2] at h
 grind
theorem Zjb {n : Nat} : ∀ (d : Nat) (M : Nat -> Nat -> Rat) (k : Nat), k + d + 1 < n -> (∀ b, M k b = M (k + d + 1) b) -> Zai n M = 0 := by
 intro d
 induction d with
 | zero => intro M k hk h; exact Znt hk (fun b => (h b).symm)
 | succ d ih =>
  intro M k hk h
  have h1 := Zhz (n := n) (k := k + d + 1) (l := k + d + 2) (by omega) (by omega) (by omega) (fun M h => Znt (k := k + d + 1) (by omega) (fun b => (h b).symm)) M (M (k + d + 1)) (M (k + d + 2))
  rw [Zdj, Zdj] at h1
  rw [h1, ih _ k (by omega)]
  ·grind
  ·intro b
   have := h b
   rw [show k + (d + 1) + 1 = k + d + 2 by omega] at this
   simp only [Zad]
   rw [if_neg (by omega), if_neg (by omega), if_neg (by omega)]
   simpa using this
theorem Zic {n : Nat} {M : Nat -> Nat -> Rat} {k l : Nat} (hk : k < n) (hl : l < n) (hne : k ≠ l) (h : ∀ b, M k b = M l b) : Zai n M = 0 := by
 rcases Nat.lt_or_gt_of_ne hne with h1 | h1
 ·exact Zjb (l - k - 1) M k (by omega) (fun b => by rw [show k + (l - k - 1) + 1 = l by omega]; exact h b)
 ·exact Zjb (k - l - 1) M l (by omega) (fun b => by rw [show l + (k - l - 1) + 1 = k by omega]; exact (h b).symm)
theorem Zrv {n : Nat} (M : Nat -> Nat -> Rat) {k l : Nat} (hk : k < n) (hl : l < n) (hne : k ≠ l) : Zai n (Zad (Zad M k (M l)) l (M k)) = - Zai n M := by
 have h := Zhz hk hl hne (fun M h => Zic hk hl hne h) M (M l) (M k)
 rw [h]
 congr 1
 rw [Zdj]
 congr 1
 funext a b
 unfold Zad
 split
 ·rename_i h; rw [h]
 ·rfl
theorem Zog {n : Nat} (M : Nat -> Nat -> Rat) {k l : Nat} (hk : k < n) (hl : l < n) (hne : k ≠ l) (c : Rat) : Zai n (Zad M k (fun b => M k b + c * M l b)) = Zai n M := by
 have h := Zgi M hk (M k) (M l) 1 c
 rw [show (fun b => M k b + c * M l b) = (fun b => 1 * M k b + c * M l b) by funext b; grind, h, Zdj,
  Zic (M := Zad M k (M l)) hk hl hne (fun b => by simp [Zad, Ne.symm hne])]
 grind
theorem Zk3 {n : Nat} (M : Nat -> Nat -> Rat) {l : Nat} (hl : l < n) (c : Nat -> Rat) : Zai n (fun a b => if a = l then M a b else M a b + c a * M l b) = Zai n M := by
 have key : ∀ m, m <= n -> Zai n (fun a b => if a = l then M a b else if a < m then M a b + c a * M l b else M a b) = Zai n M := by
  intro m
  induction m with
  | zero => intro _; congr 1; funext a b; split <;> rfl
  | succ m ih =>
   intro hm
   have h0 := ih (by omega)
   by_cases hml : m = l
   ·rw [<- h0]; congr 1; funext a b
    by_cases ha : a = l
    ·simp [ha]
    ·rw [if_neg ha, if_neg ha]
     by_cases h1 : a < m
     ·rw [if_pos h1, if_pos (by omega)]
     ·rw [if_neg h1, if_neg (by omega)]
   ·have h1 := Zog (n := n) (fun a b => if a = l then M a b else if a < m then M a b + c a * M l b else M a b) (k := m) (l := l) (by omega) hl hml (c m)
    rw [h0] at h1
    rw [<- h1]; congr 1; funext a b
    unfold Zad
    by_cases ha : a = m
    ·subst ha; simp [hml]
    ·rw [if_neg ha]
     by_cases hal : a = l
     ·simp [hal]
     ·rw [if_neg hal]
      by_cases h1 : a < m
      ·rw [if_pos (by omega)]; simp [hal, h1]
      ·rw [if_neg (by omega)]; simp [hal, h1]
 rw [<- key n (Nat.le_refl _)]
 exact Zar fun a b ha hb => by rw [if_pos ha]
def Zab : Nat -> (Nat -> Rat) -> Rat
 | 0, _ => 1
 | n + 1, f => Zab n f * f n
theorem Zb3 {n : Nat} {f g : Nat -> Rat} (h : ∀ i, i < n -> f i = g i) : Zab n f = Zab n g := by
 induction n with
 | zero => rfl
 | succ n ih => simp only [Zab]; rw [ih (fun i hi => h i (by omega)), h n (by omega)]
theorem Znk {n : Nat} (f : Nat -> Rat) : Zab (n + 1) f = f 0 * Zab n (fun i => f (i + 1)) := by
 induction n generalizing f with
 | zero => simp only [Zab]; grind
 | succ n ih => rw [Zab, ih, Zab]; grind
theorem Ze2 {n : Nat} {M : Nat -> Nat -> Rat} (h : ∀ a b, a < n -> b < a -> M a b = 0) : Zai n M = Zab n (fun i => M i i) := by
 induction n generalizing M with
 | zero => rfl
 | succ n ih =>
  simp only [Zai]
  rw [Zf5 0 (by omega)]
  ·rw [Znk, ih]
   ·have : sgnQ 0 = 1 := rfl
    rw [this, Zb3 (g := fun i => M (i + 1) (i + 1)) (fun i hi => by simp only [Zbw]; rw [if_neg (by omega)])]; grind
   ·intro a b ha hb
    simp only [Zbw]
    rw [if_neg (by omega)]
    exact h _ _ (by omega) (by omega)
  ·intro i hi h0
   rw [h i 0 hi (by omega)]; grind
def Zaa (Z : List (List Int)) (i j : Nat) : Int := (Z[i]?.getD [])[j]?.getD 0
def Zl (R : List (List Rat)) (i j : Nat) : Rat := (R[i]?.getD [])[j]?.getD 0
def Zy {α : Type} (l : List α) (i j : Nat) : List α := match l[i]?, l[j]? with
 | some x, some y => (l.set i y).set j x
 | _, _ => l
def Zoa (p row : List Int) (col : Nat) (piv last : Int) : List Int := (List.range row.length).map fun k => Int.fdiv (row[k]?.getD 0 * piv - row[col]?.getD 0 * p[k]?.getD 0) last
def Zcz (Z : List (List Int)) (r col : Nat) (last : Int) : List (List Int) :=
 (List.range Z.length).map fun i => if i <= r then Z[i]?.getD [] else Zoa (Z[r]?.getD []) (Z[i]?.getD []) col (Zaa Z r col) last
def Zle (p row : List Rat) (col : Nat) : List Rat := (List.range row.length).map fun k => if k < col then row[k]?.getD 0 else row[k]?.getD 0 - row[col]?.getD 0 / p[col]?.getD 0 * p[k]?.getD 0
def Zbh (R : List (List Rat)) (r col : Nat) : List (List Rat) := (List.range R.length).map fun i => if i <= r then R[i]?.getD [] else Zle (R[r]?.getD []) (R[i]?.getD []) col
def Zaq (z : Nat -> Bool) (n : Nat) : Nat -> Nat -> Nat
 | 0, k => k
 | f + 1, k => if k < n /\ z k = true then Zaq z n f (k + 1) else k
def Z6 : Nat -> Nat -> Nat -> List (List Int) -> Bool -> Int -> List (List Int) × Nat × Bool × Int
 | 0, _, r, Z, neg, last => (Z, r, neg, last)
 | f + 1, col, r, Z, neg, last =>
  if r = Z.length then (Z, r, neg, last)
  else if Zaq (fun i => Zaa Z i col == 0) Z.length Z.length r = Z.length then Z6 f (col + 1) r Z neg last
  else Z6 f (col + 1) (r + 1) (Zcz (Zy Z (Zaq (fun i => Zaa Z i col == 0) Z.length Z.length r) r) r col last) (neg != decide (Zaq (fun i => Zaa Z i col == 0) Z.length Z.length r ≠ r)) (Zaa Z (Zaq (fun i => Zaa Z i col == 0) Z.length Z.length r) col)
def Zs : Nat -> Nat -> Nat -> List (List Rat) -> Bool -> List (List Rat) × Nat × Bool
 | 0, _, r, R, neg => (R, r, neg)
 | f + 1, col, r, R, neg =>
  if r = R.length then (R, r, neg)
  else if Zaq (fun i => Zl R i col == 0) R.length R.length r = R.length then Zs f (col + 1) r R neg
  else Zs f (col + 1) (r + 1) (Zbh (Zy R (Zaq (fun i => Zl R i col == 0) R.length R.length r) r) r col) (neg != decide (Zaq (fun i => Zl R i col == 0) R.length R.length r ≠ r))
theorem Zeg {z : Nat -> Bool} {n : Nat} : ∀ {f k : Nat}, n <= k + f -> k <= n -> k <= Zaq z n f k /\ Zaq z n f k <= n /\ (∀ i, k <= i -> i < Zaq z n f k -> z i = true) /\ (Zaq z n f k < n -> z (Zaq z n f k) = false)
 | 0, k, h, hk => by
  obtain rfl : k = n := by omega
  exact ⟨Nat.le_refl _, Nat.le_refl _, fun i h1 h2 => by simp only [Zaq] at h2; omega, fun h => by simp only [Zaq] at h; omega⟩
 | f + 1, k, h, hk => by
  unfold Zaq
  by_cases hc : k < n /\ z k = true
  ·rw [if_pos hc]
   obtain ⟨h1, h2, h3, h4⟩ := Zeg (z := z) (n := n) (f := f) (k := k + 1) (by omega) (by omega)
   refine ⟨by omega, h2, fun i hi1 hi2 => ?_, h4⟩
   by_cases hik : i = k
   ·rw [hik]; exact hc.2
   ·exact h3 i (by omega) hi2
  ·rw [if_neg hc]
   refine ⟨Nat.le_refl _, hk, fun i h1 h2 => by omega, fun hkn => ?_⟩
   cases hz : z k with
   | false => rfl
   | true => exact absurd ⟨hkn, hz⟩ hc
theorem Zfx {z : Nat -> Bool} {n f k q : Nat} (h : n <= k + f) (hk : k <= q) (hq : q <= n) (h1 : ∀ i, k <= i -> i < q -> z i = true) (h2 : q < n -> z q = false) : Zaq z n f k = q := by
 obtain ⟨a, b, c, d⟩ := Zeg (z := z) h (Nat.le_trans hk hq)
 rcases Nat.lt_trichotomy (Zaq z n f k) q with h3 | h3 | h3
 ·have := d (by omega); rw [h1 _ a h3] at this; cases this
 ·exact h3
 ·have := c q hk h3; rw [h2 (by omega)] at this; cases this
theorem Zn8 {y z : Nat -> Bool} {n f k : Nat} (h : n <= k + f) (hk : k <= n) (he : ∀ i, k <= i -> i < n -> y i = z i) : Zaq y n f k = Zaq z n f k := by
 obtain ⟨a, b, c, d⟩ := Zeg (z := z) h hk
 exact Zfx h a b (fun i h1 h2 => by rw [he i h1 (by omega)]; exact c i h1 h2) (fun h1 => by rw [he _ a h1]; exact d h1)
def BndQ (B : Nat) (q : Rat) : Prop := ∃ z : Int, q = (z : Rat) /\ z.natAbs <= B
theorem BndQ.add {B C : Nat} {p q : Rat} (h : BndQ B p) (k : BndQ C q) : BndQ (B + C) (p + q) := by
 obtain ⟨a, rfl, h1⟩ := h; obtain ⟨b, rfl, h2⟩ := k; exact ⟨a + b, by rw [Rat.intCast_add], by omega⟩
theorem BndQ.mul {B C : Nat} {p q : Rat} (h : BndQ B p) (k : BndQ C q) : BndQ (B * C) (p * q) := by
 obtain ⟨a, rfl, h1⟩ := h; obtain ⟨b, rfl, h2⟩ := k; exact ⟨a * b, by rw [Rat.intCast_mul], by rw [Int.natAbs_mul]; exact Nat.mul_le_mul h1 h2⟩
theorem BndQ.mono {B C : Nat} {q : Rat} (h : BndQ B q) (hBC : B <= C) : BndQ C q := by obtain ⟨a, h1, h2⟩ := h; exact ⟨a, h1, by omega⟩
def Zay (B : Nat) : Nat -> Nat
 | 0 => 1
 | n + 1 => (n + 1) * (B * Zay B n)
theorem Zny {B n : Nat} {f : Nat -> Rat} (h : ∀ i, i < n -> BndQ B (f i)) : BndQ (n * B) (Za5 n f) := by
 induction n with
 | zero => exact ⟨0, rfl, by simp⟩
 | succ n ih => rw [Nat.succ_mul]; exact (ih fun i hi => h i (by omega)).add (h n (by omega))
theorem Zsp (i : Nat) : BndQ 1 (sgnQ i) := by unfold sgnQ; split; exact ⟨1, rfl, by decide⟩; exact ⟨-1, rfl, by decide⟩
theorem Zkf {B n : Nat} {M : Nat -> Nat -> Rat} (h : ∀ a b, a < n -> b < n -> BndQ B (M a b)) : BndQ (Zay B n) (Zai n M) := by
 induction n generalizing M with
 | zero => exact ⟨1, rfl, by simp [Zay]⟩
 | succ n ih =>
  simp only [Zai, Zay]
  refine Zny fun i hi => ?_
  have := ((Zsp i).mul (h i 0 hi (by omega))).mul (ih (M := fun a b => M (Zbw i a) (b + 1)) fun a b ha hb => h _ _ (Zn5 ha) (by omega))
  rwa [Nat.one_mul] at this
theorem Zcs {B m n : Nat} (hB : 1 <= B) (h : m <= n) : Zay B m <= Zay B n := by
 induction n with
 | zero => obtain rfl : m = 0 := by omega
           exact Nat.le_refl _
 | succ n ih =>
  by_cases hm : m = n + 1
  ·rw [hm]; exact Nat.le_refl _
  ·refine Nat.le_trans (ih (by omega)) ?_
   simp only [Zay]
   calc Zay B n = 1 * (1 * Zay B n) := by simp
    _ <= (n + 1) * (B * Zay B n) := Nat.mul_le_mul (by omega) (Nat.mul_le_mul hB (Nat.le_refl _))
def swI (k r i : Nat) : Nat := if i = k then r else if i = r then k else i
theorem Zm1 (k r i : Nat) : swI k r (swI k r i) = i := by
 unfold swI
 by_cases h1 : i = k
 ·subst h1
  by_cases h2 : i = r
  ·simp [h2]
  ·simp [Ne.symm h2]
 ·by_cases h2 : i = r
  ·subst h2; simp [h1]
  ·simp [h1, h2]
theorem Zc5 {α : Type} {l : List α} {k r : Nat} (hk : k < l.length) (hr : r < l.length) (i : Nat) : (Zy l k r)[i]? = l[swI k r i]? := by
 unfold Zy
 rw [List.getElem?_eq_getElem hk, List.getElem?_eq_getElem hr]
 simp only
 unfold swI
 rw [List.getElem?_set, List.getElem?_set, List.length_set]
 by_cases h1 : r = i
 ·subst h1
  rw [if_pos rfl, if_pos hr]
  by_cases h2 : r = k
  ·subst h2; simp [hr]
  ·rw [if_neg h2, if_pos rfl, List.getElem?_eq_getElem hk]
 ·rw [if_neg h1]
  by_cases h2 : k = i
  ·subst h2; simp [hk, hr]
  ·rw [if_neg h2, if_neg (Ne.symm h2), if_neg (Ne.symm h1)]
theorem Zb9 {α : Type} (l : List α) (k r : Nat) : (Zy l k r).length = l.length := by unfold Zy; split <;> simp
theorem Zf9 {k r i n : Nat} (hk : k < n) (hr : r < n) (hi : i < n) : swI k r i < n := by unfold swI; split <;> (try split) <;> omega
structure EIR (B S n m col r : Nat) (R : List (List Rat)) (pc : Nat -> Nat) (G : Nat -> Nat -> Rat) (s : Nat -> Rat) : Prop where
 len : R.length = n
 row : ∀ i, i < n -> (R[i]?.getD []).length = m
 pcl : ∀ l, l < r -> pc l < col
 inc : ∀ l l', l < l' -> l' < r -> pc l < pc l'
 low : ∀ i j, r <= i -> i < n -> j < col -> Zl R i j = 0
 bef : ∀ l j, l < r -> j < pc l -> Zl R l j = 0
 piv : ∀ l, l < r -> Zl R l (pc l) ≠ 0
 rn : r <= n
 cm : col <= m
 sB : ∀ i, i < n -> BndQ S (s i) /\ s i ≠ 0
 gB : ∀ i j, i < n -> BndQ B (G i j)
 det : ∀ (N : Nat) (f σ : Nat -> Nat), (∀ a, a < N -> σ a < n) -> (∀ a, a < r -> σ a = a) -> (∀ a, r <= a -> r <= σ a) -> Zai N (fun a b => s (σ a) * Zl R (σ a) (f b)) = Zai N (fun a b => G (σ a) (f b))
def Zds (R : List (List Rat)) (pc : Nat -> Nat) (s : Nat -> Rat) (l : Nat) : Rat := Zab l (fun i => s i * Zl R i (pc i))
section
variable {B S n m col r : Nat} {R : List (List Rat)} {pc : Nat -> Nat} {G : Nat -> Nat -> Rat} {s : Nat -> Rat}
theorem EIR.minor_eq (h : EIR B S n m col r R pc G s) {i : Nat} (hi : i < n) (j : Nat) :
    Zds R pc s (min i r) * (s i * Zl R i j) = Zai (min i r + 1) (fun a b => G (if a < min i r then a else i) (if b < min i r then pc b else j)) := by
 obtain ⟨q, hq⟩ : ∃ q, q = min i r := ⟨_, rfl⟩
 rw [<- hq]
 have hrn := h.rn
 have hd := h.det (q + 1) (fun b => if b < q then pc b else j) (fun a => if a < r then a else if i < r then a else i)
  (fun a ha => by
   by_cases h1 : a < r
   ·rw [if_pos h1]; omega
   ·rw [if_neg h1]; by_cases h2 : i < r
    ·omega
    ·rw [if_neg h2]; exact hi) (fun a ha => by rw [if_pos ha]) (fun a ha => by
   rw [if_neg (by omega)]
   by_cases h2 : i < r
   ·rw [if_pos h2]; exact ha
   ·rw [if_neg h2]; omega)
 have hσ : ∀ a, a < q + 1 -> (if a < r then a else if i < r then a else i) = if a < q then a else i := by
  intro a ha
  by_cases h1 : a < q
  ·rw [if_pos h1, if_pos (by omega)]
  ·rw [if_neg h1]
   by_cases h2 : i < r
   ·rw [if_pos (by omega)]; omega
   ·rw [if_neg (by omega), if_neg h2]
 rw [<- Zar (M := fun a b => G (if a < r then a else if i < r then a else i) (if b < q then pc b else j)) (N := fun a b => G (if a < q then a else i) (if b < q then pc b else j)) (fun a b ha hb => by rw [hσ a ha])]
 rw [<- hd, Ze2]
 ·rw [Zab]
  unfold Zds
  congr 1
  ·refine Zb3 fun a ha => ?_
   rw [if_pos ha, if_pos (by omega)]
  ·rw [if_neg (Nat.lt_irrefl q)]
   have := hσ q (Nat.lt_succ_self q)
   rw [if_neg (Nat.lt_irrefl q)] at this
   rw [this]
 ·intro a b ha hb
  rw [if_pos (by omega : b < q), hσ a ha]
  by_cases h1 : a < q
  ·rw [if_pos h1, h.bef a (pc b) (by omega) (h.inc b a hb (by omega))]; grind
  ·rw [if_neg h1]
   by_cases h2 : i < r
   ·rw [h.bef i (pc b) h2 (h.inc b i (by omega) h2)]; grind
   ·rw [h.low i (pc b) (by omega) hi (h.pcl b (by omega))]; grind
theorem EIR.minor (h : EIR B S n m col r R pc G s) {i : Nat} (hi : i < n) (j : Nat) : BndQ (Zay B (min i r + 1)) (Zds R pc s (min i r) * (s i * Zl R i j)) := by
 rw [h.minor_eq hi j]
 refine Zkf fun a b ha hb => h.gB _ _ ?_
 split <;> omega
theorem EIR.piv_ne (h : EIR B S n m col r R pc G s) {l : Nat} (hl : l <= r) : Zds R pc s l ≠ 0 := by
 induction l with
 | zero => unfold Zds Zab; grind
 | succ l ih =>
  have h1 := ih (by omega)
  have h2 := h.piv l (by omega)
  have h3 := (h.sB l (by have := h.rn; omega)).2
  unfold Zds at h1 ⊢
  rw [Zab]
  intro h0
  rcases Rat.mul_eq_zero.1 h0 with h0 | h0
  ·exact h1 h0
  ·rcases Rat.mul_eq_zero.1 h0 with h0 | h0
   ·exact h3 h0
   ·exact h2 h0
theorem EIR.pivL_bnd (h : EIR B S n m col r R pc G s) {l : Nat} (hl : l <= r) : BndQ (Zay B l) (Zds R pc s l) := by
 cases l with
 | zero => exact ⟨1, rfl, by simp [Zay]⟩
 | succ l =>
  have h1 := h.minor (i := l) (by have := h.rn; omega) (pc l)
  rw [show min l r = l by omega] at h1
  unfold Zds at h1 ⊢
  rw [Zab]
  exact h1
theorem numQ_le (a b : Int) (h : b ≠ 0) : (Rat.divInt a b).num.natAbs <= a.natAbs := by
 rw [Rat.num_divInt, Int.natAbs_ediv_of_dvd]
 ·refine Nat.le_trans (Nat.div_le_self _ _) ?_
  rw [Int.natAbs_mul]
  rcases Int.lt_or_gt_of_ne h with g | g
  ·rw [Int.sign_eq_neg_one_of_neg g]; simp
  ·rw [Int.sign_eq_one_of_pos g]; simp
 ·exact Int.dvd_trans (Int.gcd_dvd_right _ _) (Int.dvd_mul_left _ _)
theorem Zgx {B C : Nat} {p q : Rat} (h : BndQ B (q * p)) (k : BndQ C q) (hq : q ≠ 0) : p.num.natAbs <= B /\ p.den <= C := by
 obtain ⟨a, h1, h2⟩ := h
 obtain ⟨b, h3, h4⟩ := k
 have hb : b ≠ 0 := by rintro rfl; rw [h3] at hq; exact hq rfl
 have hp : p = Rat.divInt a b := by
  rw [Rat.divInt_eq_div, <- h1, h3]
  have : (b : Rat) ≠ 0 := by rw [<- h3]; exact hq
  grind
 rw [hp]
 constructor
 ·exact Nat.le_trans (numQ_le a b hb) h2
 ·rw [Rat.den_divInt, if_neg hb]
  exact Nat.le_trans (Nat.div_le_self _ _) h4
theorem EIR.bound (h : EIR B S n m col r R pc G s) (hB : 1 <= B) {i : Nat} (hi : i < n) (j : Nat) : (Zl R i j).num.natAbs <= Zay B n /\ (Zl R i j).den <= Zay B n * S := by
 have h1 := h.minor hi j
 have h2 := h.pivL_bnd (l := min i r) (by omega)
 have h3 := h.sB i hi
 have h4 := h.piv_ne (l := min i r) (by omega)
 rw [<- Rat.mul_assoc] at h1
 have h5 := Zgx h1 (h2.mul h3.1) (fun h0 => by
  rcases Rat.mul_eq_zero.1 h0 with h0 | h0
  ·exact h4 h0
  ·exact h3.2 h0)
 have h6 := Zcs hB (show min i r + 1 <= n by omega)
 have h7 := Zcs hB (show min i r <= n by omega)
 exact ⟨by omega, Nat.le_trans h5.2 (Nat.mul_le_mul h7 (Nat.le_refl _))⟩
theorem Zd6 {k r : Nat} (hk : k < R.length) (hr : r < R.length) (i j : Nat) : Zl (Zy R k r) i j = Zl R (swI k r i) j := by
 unfold Zl; rw [Zc5 hk hr]
theorem Zkz {k r i : Nat} (hk : r <= k) (hi : i < r) : swI k r i = i := by unfold swI; rw [if_neg (by omega), if_neg (by omega)]
theorem Zm0 {k r i : Nat} (hk : r <= k) (hi : r <= i) : r <= swI k r i := by unfold swI; split <;> (try split) <;> omega
theorem EIR.skip (h : EIR B S n m col r R pc G s) (hc : col < m) (hz : ∀ i, r <= i -> i < n -> Zl R i col = 0) : EIR B S n m (col + 1) r R pc G s :=
 { h with
  pcl := fun l hl => by have := h.pcl l hl; omega
  cm := hc
  low := fun i j hi hn hj => by
   by_cases hjc : j = col
   ·rw [hjc]; exact hz i hi hn
   ·exact h.low i j hi hn (by omega) }
theorem EIR.swap (h : EIR B S n m col r R pc G s) {k : Nat} (hk : k < n) (hrk : r <= k) : EIR B S n m col r (Zy R k r) pc (fun i j => G (swI k r i) j) (fun i => s (swI k r i)) := by
 have hr : r < n := by omega
 have hl := h.len
 have he : ∀ i j, Zl (Zy R k r) i j = Zl R (swI k r i) j := Zd6 (by omega) (by omega)
 have hlt : ∀ {i}, i < n -> swI k r i < n := fun hi => Zf9 hk hr hi
 refine ⟨by rw [Zb9]; exact hl, fun i hi => by rw [Zc5 (by omega) (by omega)]; exact h.row _ (hlt hi), h.pcl, h.inc, fun i j hi hn hj => ?_, fun l j hl' hj => ?_, fun l hl' => ?_, h.rn, h.cm, fun i hi => h.sB _ (hlt hi), fun i j hi => h.gB _ _ (hlt hi), fun N f σ h1 h2 h3 => ?_⟩
 ·rw [he]; exact h.low _ _ (Zm0 hrk hi) (hlt hn) hj
 ·rw [he, Zkz hrk hl']; exact h.bef l j hl' hj
 ·rw [he, Zkz hrk hl']; exact h.piv l hl'
 ·have := h.det N f (fun a => swI k r (σ a)) (fun a ha => hlt (h1 a ha)) (fun a ha => by rw [h2 a ha, Zkz hrk ha]) (fun a ha => Zm0 hrk (h3 a ha))
  rw [<- this]
  exact Zar fun a b _ _ => by rw [he]
theorem Zhr (hrow : ∀ i, i < R.length -> (R[i]?.getD []).length = m) (hlow : ∀ j, j < col -> Zl R r j = 0) (i j : Nat) (hi : i < R.length) (hr : r < R.length) :
    Zl (Zbh R r col) i j = if i <= r then Zl R i j else Zl R i j - Zl R i col / Zl R r col * Zl R r j := by
 unfold Zbh
 show ((List.map _ (List.range R.length))[i]?.getD [])[j]?.getD 0 = _
 rw [List.getElem?_map, List.getElem?_range hi]
 simp only [Option.map_some, Option.getD_some]
 by_cases h1 : i <= r
 ·rw [if_pos h1, if_pos h1]; rfl
 ·rw [if_neg h1, if_neg h1]
  unfold Zle
  rw [List.getElem?_map]
  by_cases hj : j < (R[i]?.getD []).length
  ·rw [List.getElem?_range hj]
   simp only [Option.map_some, Option.getD_some]
   by_cases hjc : j < col
   ·rw [if_pos hjc, hlow j hjc]
    show Zl R i j = _
    grind
   ·rw [if_neg hjc]; rfl
  ·rw [List.getElem?_eq_none (l := List.range _) (by simpa using hj)]
   simp only [Option.map_none, Option.getD_none]
   have e1 : Zl R i j = 0 := by unfold Zl; rw [List.getElem?_eq_none (by omega)]; rfl
   have e2 : Zl R r j = 0 := by unfold Zl; rw [List.getElem?_eq_none (by rw [hrow i hi] at hj; rw [hrow r hr]; omega)]; rfl
   rw [e1, e2]; grind
theorem Zdb : (Zbh R r col).length = R.length := by unfold Zbh; simp
theorem Zk2 (i : Nat) (hi : i < R.length) : ((Zbh R r col)[i]?.getD []).length = (R[i]?.getD []).length := by
 unfold Zbh
 rw [List.getElem?_map, List.getElem?_range hi]
 simp only [Option.map_some, Option.getD_some]
 split
 ·rfl
 ·unfold Zle; simp
theorem EIR.clear (h : EIR B S n m col r R pc G s) (hc : col < m) (hr : r < n) (hp : Zl R r col ≠ 0) : EIR B S n m (col + 1) (r + 1) (Zbh R r col) (fun l => if l = r then col else pc l) G s := by
 have hl := h.len
 have he : ∀ i j, i < n -> Zl (Zbh R r col) i j = if i <= r then Zl R i j else Zl R i j - Zl R i col / Zl R r col * Zl R r j :=
  fun i j hi => Zhr (m := m) (fun i hi => h.row i (by omega)) (fun j hj => h.low r j (Nat.le_refl _) hr hj) i j (by omega) (by omega)
 refine ⟨by rw [Zdb]; exact hl, fun i hi => by rw [Zk2 i (by omega)]; exact h.row i hi, fun l hl' => ?_, fun l l' h1 h2 => ?_, fun i j hi hn hj => ?_, fun l j hl' hj => ?_, fun l hl' => ?_, hr, hc, h.sB, h.gB, fun N f σ h1 h2 h3 => ?_⟩
 ·split
  ·omega
  ·have := h.pcl l (by omega); omega
 ·rw [if_neg (by omega : ¬ l = r)]
  split
  ·exact h.pcl l (by omega)
  ·exact h.inc l l' h1 (by omega)
 ·rw [he i j hn, if_neg (by omega)]
  by_cases hjc : j = col
  ·rw [hjc]; grind
  ·rw [h.low i j (by omega) hn (by omega), h.low r j (Nat.le_refl _) hr (by omega)]; grind
 ·rw [he l j (by omega), if_pos (by omega)]
  by_cases hlr : l = r
  ·rw [hlr]; simp only [hlr, if_true] at hj
   exact h.low r j (Nat.le_refl _) hr hj
  ·simp only [if_neg hlr] at hj
   exact h.bef l j (by omega) hj
 ·rw [he l _ (by omega), if_pos (by omega)]
  by_cases hlr : l = r
  ·simp only [hlr, if_true]; exact hp
  ·simp only [if_neg hlr]; exact h.piv l (by omega)
 ·rw [<- h.det N f σ h1 (fun a ha => h2 a (by omega)) (fun a ha => by
    by_cases har : a = r
    ·rw [har, h2 r (by omega)]; exact Nat.le_refl _
    ·have := h3 a (by omega); omega)]
  by_cases hN : N <= r
  ·refine Zar fun a b ha hb => ?_
   rw [he _ _ (h1 a ha), if_pos]
   rw [h2 a (by omega)]; omega
  ·have hσr : σ r = r := h2 r (by omega)
   rw [<- Zk3 (fun a b => s (σ a) * Zl R (σ a) (f b)) (l := r) (n := N) (by omega) (fun a => if a <= r then 0 else - (s (σ a) * Zl R (σ a) col / (s r * Zl R r col)))]
   refine Zar fun a b ha hb => ?_
   rw [he _ _ (h1 a ha)]
   by_cases har : a <= r
   ·rw [h2 a (by omega), if_pos har]
    simp only [if_pos har]
    split
    ·rfl
    ·grind
   ·have := h3 a (by omega)
    rw [if_neg (by omega), if_neg (by omega), if_neg har, hσr]
    have hs := (h.sB r hr).2
    grind
structure EIZ (n m r : Nat) (R : List (List Rat)) (pc : Nat -> Nat) (s : Nat -> Rat) (Z : List (List Int)) (last : Int) : Prop where
 len : Z.length = n
 row : ∀ i, i < n -> (Z[i]?.getD []).length = m
 last : (last : Rat) = Zds R pc s r
 ent : ∀ i j, i < n -> (Zaa Z i j : Rat) = Zds R pc s (min i r) * (s i * Zl R i j)
theorem Zla {R' : List (List Rat)} {pc' : Nat -> Nat} {s' : Nat -> Rat} {l : Nat} (h : ∀ i, i < l -> s i * Zl R i (pc i) = s' i * Zl R' i (pc' i)) : Zds R pc s l = Zds R' pc' s' l := Zb3 h
theorem Zfm {a b : Int} (h : (a : Rat) = (b : Rat)) : a = b := by exact_mod_cast h
theorem EIZ.last_ne {Z : List (List Int)} {last : Int} (h : EIR B S n m col r R pc G s) (k : EIZ n m r R pc s Z last) : last ≠ 0 := by
 rintro rfl
 exact h.piv_ne (Nat.le_refl r) (k.last.symm.trans rfl)
theorem EIZ.last_bnd {Z : List (List Int)} {last : Int} (h : EIR B S n m col r R pc G s) (k : EIZ n m r R pc s Z last) (hB : 1 <= B) : last.natAbs <= Zay B n := by
 obtain ⟨z, h1, h2⟩ := h.pivL_bnd (Nat.le_refl r)
 rw [<- k.last] at h1
 rw [Zfm h1]
 exact Nat.le_trans h2 (Zcs hB h.rn)
theorem EIZ.bnd {Z : List (List Int)} {last : Int} (h : EIR B S n m col r R pc G s) (k : EIZ n m r R pc s Z last) (hB : 1 <= B) {i : Nat} (hi : i < n) (j : Nat) : (Zaa Z i j).natAbs <= Zay B n := by
 obtain ⟨z, h1, h2⟩ := h.minor hi j
 rw [<- k.ent i j hi] at h1
 rw [Zfm h1]
 exact Nat.le_trans h2 (Zcs hB (by omega))
theorem EIZ.zero {Z : List (List Int)} {last : Int} (h : EIR B S n m col r R pc G s) (k : EIZ n m r R pc s Z last) {i : Nat} (hi : i < n) (j : Nat) : (Zaa Z i j == 0) = (Zl R i j == 0) := by
 have h1 := k.ent i j hi
 have h2 := h.piv_ne (l := min i r) (by omega)
 have h3 := (h.sB i hi).2
 by_cases h0 : Zl R i j = 0
 ·rw [h0] at h1 ⊢
  have : Zaa Z i j = 0 := Zfm (by rw [h1]; grind)
  rw [this]; rfl
 ·have : Zaa Z i j ≠ 0 := by
    intro hz
    rw [hz] at h1
    rcases Rat.mul_eq_zero.1 h1.symm with h4 | h4
    ·exact h2 h4
    ·rcases Rat.mul_eq_zero.1 h4 with h4 | h4
     ·exact h3 h4
     ·exact h0 h4
  rw [beq_eq_false_iff_ne.2 this, beq_eq_false_iff_ne.2 h0]
theorem Zg2 {Z : List (List Int)} {k r : Nat} (hk : k < Z.length) (hr : r < Z.length) (i j : Nat) : Zaa (Zy Z k r) i j = Zaa Z (swI k r i) j := by
 unfold Zaa; rw [Zc5 hk hr]
theorem EIZ.swap {Z : List (List Int)} {last : Int} (h : EIR B S n m col r R pc G s) (q : EIZ n m r R pc s Z last) {k : Nat} (hk : k < n) (hrk : r <= k) : EIZ n m r (Zy R k r) pc (fun i => s (swI k r i)) (Zy Z k r) last := by
 have hr : r < n := by omega
 have hl := h.len
 have hzl := q.len
 have he : ∀ i j, Zl (Zy R k r) i j = Zl R (swI k r i) j := Zd6 (by omega) (by omega)
 have hp : ∀ l, l <= r -> Zds (Zy R k r) pc (fun i => s (swI k r i)) l = Zds R pc s l := fun l hl => Zla fun i hi => by rw [he, Zkz hrk (by omega)]
 refine ⟨by rw [Zb9]; exact hzl, fun i hi => by rw [Zc5 (by omega) (by omega)]; exact q.row _ (Zf9 hk hr hi), ?_, fun i j hi => ?_⟩
 ·rw [hp r (Nat.le_refl r)]; exact q.last
 ·rw [hp _ (by omega), he, Zg2 (by omega) (by omega), q.ent _ j (Zf9 hk hr hi)]
  have : min (swI k r i) r = min i r := by
   by_cases hir : i < r
   ·rw [Zkz hrk hir]
   ·have := Zm0 (i := i) hrk (by omega); omega
  rw [this]
theorem Zpn {Z : List (List Int)} {last : Int} (hrow : ∀ i, i < Z.length -> (Z[i]?.getD []).length = m) (i j : Nat) (hi : i < Z.length) :
    Zaa (Zcz Z r col last) i j = if i <= r then Zaa Z i j else if j < m then Int.fdiv (Zaa Z i j * Zaa Z r col - Zaa Z i col * Zaa Z r j) last else 0 := by
 unfold Zcz
 show ((List.map _ (List.range Z.length))[i]?.getD [])[j]?.getD 0 = _
 rw [List.getElem?_map, List.getElem?_range hi]
 simp only [Option.map_some, Option.getD_some]
 by_cases h1 : i <= r
 ·rw [if_pos h1, if_pos h1]; rfl
 ·rw [if_neg h1, if_neg h1]
  unfold Zoa
  rw [List.getElem?_map]
  by_cases hj : j < (Z[i]?.getD []).length
  ·rw [List.getElem?_range hj, if_pos (by rw [hrow i hi] at hj; exact hj)]; rfl
  ·rw [List.getElem?_eq_none (l := List.range _) (by simpa using hj), if_neg (by rw [hrow i hi] at hj; exact hj)]; rfl
theorem Zhd {Z : List (List Int)} {last : Int} : (Zcz Z r col last).length = Z.length := by unfold Zcz; simp
theorem Zp3 {Z : List (List Int)} {last : Int} (i : Nat) (hi : i < Z.length) : ((Zcz Z r col last)[i]?.getD []).length = (Z[i]?.getD []).length := by
 unfold Zcz
 rw [List.getElem?_map, List.getElem?_range hi]
 simp only [Option.map_some, Option.getD_some]
 split
 ·rfl
 ·unfold Zoa; simp
theorem Zoj (hrow : ∀ i, i < n -> (R[i]?.getD []).length = m) {i j : Nat} (hi : i < n) (hj : m <= j) : Zl R i j = 0 := by
 unfold Zl; rw [List.getElem?_eq_none (by rw [hrow i hi]; exact hj)]; rfl
theorem EIZ.clear {Z : List (List Int)} {last : Int} (h : EIR B S n m col r R pc G s) (q : EIZ n m r R pc s Z last) (hc : col < m) (hr : r < n) (hp : Zl R r col ≠ 0) :
    EIZ n m (r + 1) (Zbh R r col) (fun l => if l = r then col else pc l) s (Zcz Z r col last) (Zaa Z r col) := by
 have hl := h.len
 have hzl := q.len
 have h' := h.clear hc hr hp
 have he : ∀ i j, i < n -> Zl (Zbh R r col) i j = if i <= r then Zl R i j else Zl R i j - Zl R i col / Zl R r col * Zl R r j :=
  fun i j hi => Zhr (m := m) (fun i hi => h.row i (by omega)) (fun j hj => h.low r j (Nat.le_refl _) hr hj) i j (by omega) (by omega)
 have hpl : ∀ l, l <= r -> Zds (Zbh R r col) (fun l => if l = r then col else pc l) s l = Zds R pc s l := fun l hl => Zla fun i hi => by
  rw [he _ _ (by omega), if_pos (by omega), if_neg (by omega)]
 have hpr : Zds (Zbh R r col) (fun l => if l = r then col else pc l) s (r + 1) = Zds R pc s r * (s r * Zl R r col) := by
  rw [Zds, Zab]
  have := hpl r (Nat.le_refl r)
  unfold Zds at this
  rw [this, he _ _ hr, if_pos (Nat.le_refl r), if_pos rfl]; rfl
 refine ⟨by rw [Zhd]; exact hzl, fun i hi => by rw [Zp3 i (by omega)]; exact q.row i hi, ?_, fun i j hi => ?_⟩
 ·rw [hpr, q.ent r col hr, show min r r = r by omega]
 ·rw [Zpn (m := m) (fun i hi => q.row i (by omega)) i j (by omega)]
  by_cases hir : i <= r
  ·rw [if_pos hir, hpl _ (by omega), he _ _ hi, if_pos hir, q.ent i j hi, show min i (r + 1) = min i r by omega]
  ·rw [if_neg hir]
   by_cases hj : j < m
   ·rw [if_pos hj]
    obtain ⟨z, hz1, -⟩ := h'.minor hi j
    rw [show min i (r + 1) = r + 1 by omega, hpr, he _ _ hi, if_neg hir] at hz1
    have hln := q.last_ne h
    have e1 := q.ent i j hi
    have e2 := q.ent r col hr
    have e3 := q.ent i col hi
    have e4 := q.ent r j hr
    have e5 := q.last
    rw [show min i r = r by omega] at e1 e3
    rw [show min r r = r by omega] at e2 e4
    have hkey : Zaa Z i j * Zaa Z r col - Zaa Z i col * Zaa Z r j = last * z := Zfm (by
     rw [Rat.intCast_sub, Rat.intCast_mul, Rat.intCast_mul, Rat.intCast_mul, e1, e2, e3, e4, e5, <- hz1]
     grind)
    rw [hkey, Int.mul_comm, Int.mul_fdiv_cancel _ hln, <- hz1, show min i (r + 1) = r + 1 by omega, hpr, he _ _ hi, if_neg hir]
   ·rw [if_neg hj, Zoj (n := n) h'.row hi (by omega)]
    have : ((0 : Int) : Rat) = 0 := rfl
    rw [this]; grind
end
def BdZ (C m : Nat) (Z : List (List Int)) : Prop := (∀ i, i < Z.length -> (Z[i]?.getD []).length = m) /\ ∀ i j, (Zaa Z i j).natAbs < C
def BdR (C D m : Nat) (R : List (List Rat)) : Prop := (∀ i, i < R.length -> (R[i]?.getD []).length = m) /\ ∀ i j, (Zl R i j).num.natAbs < C /\ (Zl R i j).den < D
def okZ (C m : Nat) : Nat -> Nat -> Nat -> List (List Int) -> Int -> Prop
 | 0, _, _, Z, last => BdZ C m Z /\ last ≠ 0 /\ last.natAbs < C
 | f + 1, col, r, Z, last => BdZ C m Z /\ (last ≠ 0 /\ last.natAbs < C) /\ (r = Z.length \/
     (Zaq (fun i => Zaa Z i col == 0) Z.length Z.length r = Z.length -> okZ C m f (col + 1) r Z last) /\
     (Zaq (fun i => Zaa Z i col == 0) Z.length Z.length r ≠ Z.length -> okZ C m f (col + 1) (r + 1) (Zcz (Zy Z (Zaq (fun i => Zaa Z i col == 0) Z.length Z.length r) r) r col last) (Zaa Z (Zaq (fun i => Zaa Z i col == 0) Z.length Z.length r) col)))
def okR (C D m : Nat) : Nat -> Nat -> Nat -> List (List Rat) -> Prop
 | 0, _, _, R => BdR C D m R
 | f + 1, col, r, R => BdR C D m R /\ (r = R.length \/
     (Zaq (fun i => Zl R i col == 0) R.length R.length r = R.length -> okR C D m f (col + 1) r R) /\
     (Zaq (fun i => Zl R i col == 0) R.length R.length r ≠ R.length -> okR C D m f (col + 1) (r + 1) (Zbh (Zy R (Zaq (fun i => Zl R i col == 0) R.length R.length r) r) r col)))
def sgB (b : Bool) : Rat := if b then -1 else 1
theorem Zsa {n k r : Nat} (f : Nat -> Rat) (hk : k < n) (hr : r < n) : Zab n (fun i => f (swI k r i)) = Zab n f := by
 by_cases hkr : k = r
 ·subst hkr; refine Zb3 fun i _ => ?_
  unfold swI; split
  ·rename_i h; rw [h]
  ·rfl
 ·have key : ∀ n (f : Nat -> Rat) k r, k < r -> r < n -> Zab n (fun i => f (swI k r i)) = Zab n f := by
    intro n
    induction n with
    | zero => intro f k r _ h; omega
    | succ n ih =>
     intro f k r hkr hr
     by_cases hrn : r = n
     ·subst hrn
      have hone : ∀ (m : Nat) (g h : Nat -> Rat), k < m -> (∀ i, i < m -> i ≠ k -> g i = h i) -> Zab m g * h k = Zab m h * g k := by
       intro m
       induction m with
       | zero => intro g h hk _; omega
       | succ m ihm =>
        intro g h hk he
        simp only [Zab]
        by_cases hkm : k = m
        ·subst hkm
         rw [Zb3 (f := g) (g := h) (fun i hi => he i (by omega) (by omega))]; grind
        ·have := ihm g h (by omega) (fun i hi => he i (by omega))
         rw [he m (by omega) (by omega)]; grind
      simp only [Zab]
      have e1 : swI k r r = k := by unfold swI; rw [if_neg (by omega), if_pos rfl]
      have e2 : swI k r k = r := by unfold swI; rw [if_pos rfl]
      have := hone r (fun i => f (swI k r i)) f hkr (fun i hi hik => by unfold swI; rw [if_neg hik, if_neg (by omega)])
      simp only [e2] at this
      rw [e1]; exact this
     ·simp only [Zab]
      rw [ih f k r hkr (by omega)]
      have : swI k r n = n := by unfold swI; rw [if_neg (by omega), if_neg (by omega)]
      rw [this]
  rcases Nat.lt_or_gt_of_ne hkr with h | h
  ·exact key n f k r h hr
  ·have : ∀ i, swI k r i = swI r k i := fun i => by unfold swI; split <;> split <;> omega
   rw [<- key n f r k h hk]
   exact Zb3 fun i _ => by rw [this]
theorem Ztu {n k r : Nat} (M : Nat -> Nat -> Rat) (hk : k < n) (hr : r < n) : Zai n (fun a b => M (swI k r a) b) = if k = r then Zai n M else - Zai n M := by
 by_cases hkr : k = r
 ·subst hkr
  rw [if_pos rfl]
  refine Zar fun a b _ _ => ?_
  unfold swI; split
  ·rename_i h; rw [h]
  ·rfl
 ·rw [if_neg hkr, <- Zrv M hk hr hkr]
  congr 1
  funext a b
  unfold swI Zad
  by_cases h1 : a = k
  ·subst h1; rw [if_pos rfl, if_neg hkr, if_pos rfl]
  ·rw [if_neg h1]
   by_cases h2 : a = r
   ·rw [if_pos h2, if_pos h2]
   ·rw [if_neg h2, if_neg h2, if_neg h1]
theorem EIR.bdR {B S n m col r : Nat} {R : List (List Rat)} {pc : Nat -> Nat} {G : Nat -> Nat -> Rat} {s : Nat -> Rat} (h : EIR B S n m col r R pc G s) (hB : 1 <= B) (hS : 1 <= S) : BdR (Zay B n + 1) (Zay B n * S + 1) m R := by
 have hl := h.len
 refine ⟨fun i hi => h.row i (by omega), fun i j => ?_⟩
 by_cases hi : i < n
 ·have := h.bound hB hi j; omega
 ·have : Zl R i j = 0 := by unfold Zl; rw [List.getElem?_eq_none (l := R) (by omega)]; rfl
  have h1 : 1 <= Zay B n := Zcs (m := 0) hB (by omega)
  have h2 : 1 * 1 <= Zay B n * S := Nat.mul_le_mul h1 hS
  rw [this]
  refine ⟨by simp, ?_⟩
  rw [show (0 : Rat).den = 1 from rfl]; omega
theorem EIZ.bdZ {B S n m col r : Nat} {R : List (List Rat)} {pc : Nat -> Nat} {G : Nat -> Nat -> Rat} {s : Nat -> Rat} {Z : List (List Int)} {last : Int} (h : EIR B S n m col r R pc G s) (k : EIZ n m r R pc s Z last) (hB : 1 <= B) : BdZ (Zay B n + 1) m Z := by
 have hl := k.len
 refine ⟨fun i hi => k.row i (by omega), fun i j => ?_⟩
 by_cases hi : i < n
 ·have := k.bnd h hB hi j; omega
 ·have : Zaa Z i j = 0 := by unfold Zaa; rw [List.getElem?_eq_none (l := Z) (by omega)]; rfl
  rw [this]; simp
theorem Ze5 {B S n m : Nat} (hB : 1 <= B) (hS : 1 <= S) : ∀ (f col r : Nat) (R : List (List Rat)) (pc : Nat -> Nat) (G : Nat -> Nat -> Rat) (s : Nat -> Rat) (Z : List (List Int)) (neg : Bool) (last : Int),
    EIR B S n m col r R pc G s -> EIZ n m r R pc s Z last -> col + f <= m ->
    okZ (Zay B n + 1) m f col r Z last /\ okR (Zay B n + 1) (Zay B n * S + 1) m f col r R /\
    (Z6 f col r Z neg last).2.1 = (Zs f col r R neg).2.1 /\ (Z6 f col r Z neg last).2.2.1 = (Zs f col r R neg).2.2 /\
    ∃ col' pc' G' s', EIR B S n m col' (Zs f col r R neg).2.1 (Zs f col r R neg).1 pc' G' s' /\ EIZ n m (Zs f col r R neg).2.1 (Zs f col r R neg).1 pc' s' (Z6 f col r Z neg last).1 (Z6 f col r Z neg last).2.2.2 /\
     (col' = col + f \/ (Zs f col r R neg).2.1 = n /\ col' <= col + f) /\ Zab n s' = Zab n s /\ (∀ φ : Nat -> Nat, sgB (Zs f col r R neg).2.2 * Zai n (fun a b => G' a (φ b)) = sgB neg * Zai n (fun a b => G a (φ b)))
 | 0, col, r, R, pc, G, s, Z, neg, last, h, k, hm => by
  have h1 := k.last_bnd h hB
  exact ⟨⟨k.bdZ h hB, k.last_ne h, by omega⟩, h.bdR hB hS, rfl, rfl, col, pc, G, s, h, k, .inl rfl, rfl, fun φ => rfl⟩
 | f + 1, col, r, R, pc, G, s, Z, neg, last, h, k, hm => by
  have hRl := h.len
  have hZl := k.len
  have h1 := k.last_bnd h hB
  have hrn := h.rn
  have hpe : Zaq (fun i => Zaa Z i col == 0) Z.length Z.length r = Zaq (fun i => Zl R i col == 0) R.length R.length r := by
   rw [hRl, hZl]
   exact Zn8 (by omega) hrn (fun i h1 h2 => k.zero h h2 col)
  unfold Z6 Zs okZ okR
  simp only [hpe]
  rw [hRl] at hpe ⊢
  simp only [hZl]
  by_cases hr : r = n
  ·simp only [if_pos hr]
   exact ⟨⟨k.bdZ h hB, ⟨k.last_ne h, by omega⟩, .inl hr⟩, ⟨h.bdR hB hS, .inl hr⟩, (by trivial), (by trivial), col, pc, G, s, h, k, .inr ⟨hr, by omega⟩, rfl, fun φ => rfl⟩
  ·simp only [if_neg hr]
   obtain ⟨q, hq⟩ : ∃ q, Zaq (fun i => Zl R i col == 0) n n r = q := ⟨_, rfl⟩
   obtain ⟨p1, p2, p3, p4⟩ := Zeg (z := fun i => Zl R i col == 0) (n := n) (f := n) (k := r) (by omega) (by omega)
   rw [hq] at p1 p2 p3 p4
   simp only [hq]
   by_cases hqn : q = n
   ·simp only [if_pos hqn]
    have hz : ∀ i, r <= i -> i < n -> Zl R i col = 0 := fun i h1 h2 => by simpa using p3 i h1 (by omega)
    obtain ⟨o1, o2, o3, o4, col', pc', G', s', o5, o6, o7, o8, o9⟩ := Ze5 hB hS f (col + 1) r R pc G s Z neg last (h.skip (by omega) hz) k (by omega)
    exact ⟨⟨k.bdZ h hB, ⟨k.last_ne h, by omega⟩, .inr ⟨fun _ => o1, fun hn => absurd hqn hn⟩⟩, ⟨h.bdR hB hS, .inr ⟨fun _ => o2, fun hn => absurd hqn hn⟩⟩, o3, o4, col', pc', G', s', o5, o6, by omega, o8, o9⟩
   ·simp only [if_neg hqn]
    have hqn' : q < n := by omega
    have hpv : Zl R q col ≠ 0 := by simpa using p4 hqn'
    have hsw := h.swap hqn' p1
    have ksw := k.swap h hqn' p1
    have hen : Zl (Zy R q r) r col = Zl R q col := by
     rw [Zd6 (by omega) (by omega)]; congr 1; unfold swI; split
     ·rename_i h; exact h
     ·rw [if_pos rfl]
    have hez : Zaa (Zy Z q r) r col = Zaa Z q col := by
     rw [Zg2 (by omega) (by omega)]; congr 1; unfold swI; split
     ·rename_i h; exact h
     ·rw [if_pos rfl]
    have hcl := hsw.clear (by omega) (by omega) (by rw [hen]; exact hpv)
    have kcl := ksw.clear hsw (by omega) (by omega) (by rw [hen]; exact hpv)
    rw [hez] at kcl
    obtain ⟨o1, o2, o3, o4, col', pc', G', s', o5, o6, o7, o8, o9⟩ := Ze5 hB hS f (col + 1) (r + 1) _ _ _ _ _ (neg != decide (q ≠ r)) _ hcl kcl (by omega)
    refine ⟨⟨k.bdZ h hB, ⟨k.last_ne h, by omega⟩, .inr ⟨fun hn => absurd hn hqn, fun _ => o1⟩⟩, ⟨h.bdR hB hS, .inr ⟨fun hn => absurd hn hqn, fun _ => o2⟩⟩, o3, o4, col', pc', G', s', o5, o6, by omega, ?_, fun φ => ?_⟩
    ·rw [o8, Zsa s hqn' (by omega)]
    ·rw [o9, Ztu (fun a b => G a (φ b)) hqn' (by omega)]
     by_cases hqr : q = r
     ·rw [if_pos hqr]
      have : decide (q ≠ r) = false := by simp [hqr]
      rw [this]; cases neg <;> rfl
     ·rw [if_neg hqr]
      have : decide (q ≠ r) = true := by simp [hqr]
      rw [this]; cases neg <;> simp [sgB] <;> grind
def denTo (row : List Rat) : Nat -> Nat
 | 0 => 1
 | k + 1 => denTo row k * ((row[k]?.getD 0).den / Nat.gcd (denTo row k) (row[k]?.getD 0).den)
def Zc8 (row : List Rat) : List Int := row.map fun f => f.num * ((denTo row row.length / f.den : Nat) : Int)
def Zo (R : List (List Rat)) : List (List Int) := R.map Zc8
def denAt (R : List (List Rat)) (i : Nat) : Nat := denTo (R[i]?.getD []) (R[i]?.getD []).length
theorem Zd3 (row : List Rat) (k : Nat) : 0 < denTo row k := by
 induction k with
 | zero => exact Nat.one_pos
 | succ k ih =>
  refine Nat.mul_pos ih (Nat.div_pos (Nat.le_of_dvd (Rat.den_pos _) (Nat.gcd_dvd_right _ _)) (Nat.gcd_pos_of_pos_left _ ih))
theorem Zkh (row : List Rat) (k : Nat) : denTo row k ∣ denTo row (k + 1) /\ (row[k]?.getD 0).den ∣ denTo row (k + 1) := by
 refine ⟨⟨_, rfl⟩, ?_⟩
 obtain ⟨c, hc⟩ := Nat.gcd_dvd_left (denTo row k) (row[k]?.getD 0).den
 refine ⟨c, ?_⟩
 simp only [denTo]
 obtain ⟨d, hd⟩ := Nat.gcd_dvd_right (denTo row k) (row[k]?.getD 0).den
 have hg : 0 < Nat.gcd (denTo row k) (row[k]?.getD 0).den := Nat.gcd_pos_of_pos_left _ (Zd3 row k)
 have e : (row[k]?.getD 0).den / Nat.gcd (denTo row k) (row[k]?.getD 0).den = d := by
  rw [Nat.div_eq_iff_eq_mul_left hg (Nat.gcd_dvd_right _ _), Nat.mul_comm]; exact hd
 rw [e]
 calc denTo row k * d = (Nat.gcd (denTo row k) (row[k]?.getD 0).den * c) * d := by rw [<- hc]
  _ = (Nat.gcd (denTo row k) (row[k]?.getD 0).den * d) * c := by rw [Nat.mul_assoc, Nat.mul_assoc, Nat.mul_comm c d]
  _ = (row[k]?.getD 0).den * c := by rw [<- hd]
theorem Zis (row : List Rat) {j : Nat} : ∀ {k : Nat}, j < k -> (row[j]?.getD 0).den ∣ denTo row k
 | 0, h => by omega
 | k + 1, h => by
  by_cases hj : j = k
  ·rw [hj]; exact (Zkh row k).2
  ·exact Nat.dvd_trans (Zis row (j := j) (k := k) (by omega)) (Zkh row k).1
theorem Ztr (row : List Rat) {D : Nat} (h : ∀ j : Nat, (row[j]?.getD 0).den <= D) (k : Nat) : denTo row k <= D ^ k := by
 induction k with
 | zero => exact Nat.le_refl _
 | succ k ih =>
  rw [Nat.pow_succ]
  exact Nat.mul_le_mul ih (Nat.le_trans (Nat.div_le_self _ _) (h k))
theorem Zhy (row : List Rat) : (Zc8 row).length = row.length := by unfold Zc8; simp
theorem Znd (row : List Rat) (j : Nat) : (((Zc8 row)[j]?.getD 0 : Int) : Rat) = (denTo row row.length : Nat) * row[j]?.getD 0 := by
 unfold Zc8
 rw [List.getElem?_map]
 by_cases hj : j < row.length
 ·rw [List.getElem?_eq_getElem hj]
  simp only [Option.map_some, Option.getD_some]
  have hd := Zis row hj
  rw [List.getElem?_eq_getElem hj] at hd
  simp only [Option.getD_some] at hd
  obtain ⟨c, hc⟩ := hd
  rw [hc, Nat.mul_div_cancel_left _ (Rat.den_pos _), Rat.intCast_mul, Rat.intCast_natCast, Rat.natCast_mul]
  have e0 : ((row[j].num : Int) : Rat) / ((row[j].den : Nat) : Rat) = row[j] := by have := Rat.num_divInt_den row[j]; rw [Rat.divInt_eq_div, Rat.intCast_natCast] at this; exact this
  have e1 : ((row[j].den : Nat) : Rat) ≠ 0 := by
   intro h; have : row[j].den = 0 := by exact_mod_cast h
   have := row[j].den_pos; omega
  have e2 : ((row[j].num : Int) : Rat) = row[j] * ((row[j].den : Nat) : Rat) := by rw [<- e0]; grind
  rw [e2]; grind
 ·rw [List.getElem?_eq_none (by omega)]
  simp only [Option.map_none, Option.getD_none]
  have : ((0 : Int) : Rat) = 0 := rfl
  rw [this]; grind
theorem Zhb (R : List (List Rat)) (i j : Nat) : ((Zaa (Zo R) i j : Int) : Rat) = (denAt R i : Nat) * Zl R i j := by
 unfold Zaa Zo Zl denAt
 rw [List.getElem?_map]
 cases h : R[i]? with
 | none => simp only [Option.map_none, Option.getD_none, List.getElem?_nil]; have : ((0 : Int) : Rat) = 0 := rfl
           rw [this]; grind
 | some row => simp only [Option.map_some, Option.getD_some]; exact Znd row j
theorem Zhe {B S n m : Nat} (R : List (List Rat)) (hl : R.length = n) (hrow : ∀ i, i < n -> (R[i]?.getD []).length = m) (hS : ∀ i, i < n -> denAt R i <= S) (hBd : ∀ i j, i < n -> (Zaa (Zo R) i j).natAbs <= B) :
    EIR B S n m 0 0 R (fun _ => 0) (fun i j => (denAt R i : Nat) * Zl R i j) (fun i => (denAt R i : Nat)) /\ EIZ n m 0 R (fun _ => 0) (fun i => (denAt R i : Nat)) (Zo R) 1 := by
 refine ⟨⟨hl, hrow, fun l h => by omega, fun l l' _ h => by omega, fun i j _ _ h => by omega, fun l j h => by omega, fun l h => by omega, Nat.zero_le _, Nat.zero_le _, fun i hi => ⟨⟨(denAt R i : Nat), by rw [Rat.intCast_natCast], by rw [Int.natAbs_natCast]; exact hS i hi⟩, fun h0 => ?_⟩, fun i j hi => ⟨_, (Zhb R i j).symm, hBd i j hi⟩, fun N f σ _ _ _ => rfl⟩, ⟨by unfold Zo; simp [hl], fun i hi => ?_, rfl, fun i j hi => ?_⟩⟩
 ·have : denAt R i = 0 := by exact_mod_cast h0
  have := Zd3 (R[i]?.getD []) (R[i]?.getD []).length
  unfold denAt at *; omega
 ·unfold Zo
  rw [List.getElem?_map, List.getElem?_eq_getElem (by omega)]
  simp only [Option.map_some, Option.getD_some]
  rw [Zhy]
  have := hrow i hi
  rw [List.getElem?_eq_getElem (by omega)] at this
  exact this
 ·rw [Zhb]
  have : Zds R (fun _ => 0) (fun i => ((denAt R i : Nat) : Rat)) (min i 0) = 1 := by rw [show min i 0 = 0 by omega]; rfl
  rw [this]; grind
end Go.Proofs.YtigdclhagmnopaaGreat
