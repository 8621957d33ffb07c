/- The rank and the determinant by either elimination. The determinant of a product, and Cramer's rule. -/
import Derived.Test.YtigdclhagmnopaaGreatZk27
set_option linter.unusedSimpArgs false
set_option linter.unusedVariables false

namespace Go.Proofs.YtigdclhagmnopaaGreat

/-- The rank, as the reference reckons it, and as the program does. -/
def rankR (R : List (List Rat)) (cols : Nat) : Nat := (elimR cols 0 0 R false).2.1
def rankZ (R : List (List Rat)) (cols : Nat) : Nat := (elimZ cols 0 0 (wholeZ R) false 1).2.1
def detR (R : List (List Rat)) : Rat :=
 if (elimR R.length 0 0 R false).2.1 < R.length then 0
 else sgB (elimR R.length 0 0 R false).2.2 * prodQ R.length (fun i => entR (elimR R.length 0 0 R false).1 i i)
def byZ (R : List (List Rat)) : Nat → Nat
 | 0 => 1
 | k + 1 => byZ R k * denAt R k
def lastZ (R : List (List Rat)) : Int :=
 if (elimZ R.length 0 0 (wholeZ R) false 1).2.2.1 then -(if (elimZ R.length 0 0 (wholeZ R) false 1).2.1 < R.length then 0 else (elimZ R.length 0 0 (wholeZ R) false 1).2.2.2)
 else if (elimZ R.length 0 0 (wholeZ R) false 1).2.1 < R.length then 0 else (elimZ R.length 0 0 (wholeZ R) false 1).2.2.2
theorem byZ_prod (R : List (List Rat)) (k : Nat) : ((byZ R k : Nat) : Rat) = prodQ k (fun i => ((denAt R i : Nat) : Rat)) := by
 induction k with
 | zero => rfl
 | succ k ih => simp only [byZ, prodQ]; rw [Rat.natCast_mul, ih]
theorem byZ_pos (R : List (List Rat)) (k : Nat) : 0 < byZ R k := by
 induction k with
 | zero => exact Nat.one_pos
 | succ k ih => exact Nat.mul_pos ih (denTo_pos _ _)
theorem prodQ_mul {n : Nat} (f g : Nat → Rat) : prodQ n (fun i => f i * g i) = prodQ n f * prodQ n g := by
 induction n with
 | zero => simp only [prodQ]; grind
 | succ n ih => simp only [prodQ]; rw [ih]; grind
theorem prodQ_zero {n : Nat} {f : Nat → Rat} {k : Nat} (hk : k < n) (h : f k = 0) : prodQ n f = 0 := by
 induction n with
 | zero => omega
 | succ n ih =>
  simp only [prodQ]
  by_cases hkn : k = n
  · rw [← hkn, h]; grind
  · rw [ih (by omega)]; grind
theorem detM_scale {n : Nat} (M : Nat → Nat → Rat) (s : Nat → Rat) : detM n (fun a b => s a * M a b) = prodQ n s * detM n M := by
 have key : ∀ m, m ≤ n → detM n (fun a b => if a < m then s a * M a b else M a b) = prodQ m s * detM n M := by
  intro m
  induction m with
  | zero => intro _; simp only [prodQ]; rw [detM_congr (N := M) (fun a b _ _ => if_neg (Nat.not_lt_zero a))]; grind
  | succ m ih =>
   intro hm
   have h0 := ih (by omega)
   have h1 := detM_lin (n := n) (fun a b => if a < m then s a * M a b else M a b) (k := m) (by omega) (M m) (M m) (s m) 0
   have e1 : updR (fun a b => if a < m then s a * M a b else M a b) m (fun b => s m * M m b + 0 * M m b) = fun a b => if a < m + 1 then s a * M a b else M a b := by
    funext a b
    unfold updR
    by_cases ha : a = m
    · subst ha; rw [if_pos rfl, if_pos (by omega)]; grind
    · rw [if_neg ha]
      by_cases h2 : a < m
      · rw [if_pos (by omega)]; simp only [if_pos h2]
      · rw [if_neg (by omega)]; simp only [if_neg h2]
   have e2 : updR (fun a b => if a < m then s a * M a b else M a b) m (M m) = fun a b => if a < m then s a * M a b else M a b := by
    funext a b
    unfold updR
    by_cases ha : a = m
    · subst ha; rw [if_pos rfl, if_neg (by omega)]
    · rw [if_neg ha]
   rw [e1, e2, h0] at h1
   rw [h1]; simp only [prodQ]; grind
 rw [← key n (Nat.le_refl _)]
 exact detM_congr fun a b ha _ => by rw [if_pos ha]

section
variable {B S n m : Nat}
/-- Where all pivots are found among n columns, they stand on the diagonal. -/
theorem EIR.diag {col : Nat} {R : List (List Rat)} {pc : Nat → Nat} {G : Nat → Nat → Rat} {s : Nat → Rat} (h : EIR B S n m col n R pc G s) (hc : col ≤ n) {l : Nat} (hl : l < n) : pc l = l := by
 have h1 : ∀ l, l < n → l ≤ pc l := by
  intro l
  induction l with
  | zero => intro _; omega
  | succ l ih => intro hl; have := ih (by omega); have := h.inc l (l + 1) (by omega) hl; omega
 have h2 : ∀ d l, l + d + 1 = n → pc l + d < n := by
  intro d
  induction d with
  | zero => intro l hl; have := h.pcl l (by omega); omega
  | succ d ih => intro l hl; have := ih (l + 1) (by omega); have := h.inc l (l + 1) (by omega) (by omega); omega
 have := h1 l hl
 have := h2 (n - l - 1) l (by omega)
 omega
theorem rank_side (hB : 1 ≤ B) (hS : 1 ≤ S) (R : List (List Rat)) (hl : R.length = n) (hrow : ∀ i, i < n → (R[i]?.getD []).length = m) (hs : ∀ i, i < n → denAt R i ≤ S) (hBd : ∀ i j, i < n → (entZ (wholeZ R) i j).natAbs ≤ B) {cols : Nat} (hc : cols ≤ m) :
    okZ (bndD B n + 1) m cols 0 0 (wholeZ R) 1 ∧ okR (bndD B n + 1) (bndD B n * S + 1) m cols 0 0 R ∧ rankZ R cols = rankR R cols := by
 obtain ⟨h1, h2⟩ := elim_start R hl hrow hs hBd
 obtain ⟨o1, o2, o3, -⟩ := elim_side hB hS cols 0 0 R _ _ _ _ false 1 h1 h2 (by omega)
 exact ⟨o1, o2, o3⟩
theorem det_side (hB : 1 ≤ B) (hS : 1 ≤ S) (R : List (List Rat)) (hl : R.length = n) (hrow : ∀ i, i < n → (R[i]?.getD []).length = n) (hs : ∀ i, i < n → denAt R i ≤ S) (hBd : ∀ i j, i < n → (entZ (wholeZ R) i j).natAbs ≤ B) :
    Rat.divInt (lastZ R) (byZ R n) = detR R ∧ detR R = detM n (entR R) ∧ (lastZ R).natAbs ≤ bndD B n := by
 obtain ⟨h1, h2⟩ := elim_start R hl hrow hs hBd
 obtain ⟨o1, o2, o3, o4, col', pc', G', s', o5, o6, o7, o8, o9⟩ := elim_side hB hS n 0 0 R _ _ _ _ false 1 h1 h2 (by omega)
 have hby : ((byZ R n : Nat) : Rat) ≠ 0 := by
  intro h; have : byZ R n = 0 := by exact_mod_cast h
  have := byZ_pos R n; omega
 have hdG := o9 (fun b => b)
 rw [detM_scale (fun a b => entR R a b) (fun a => ((denAt R a : Nat) : Rat)), ← byZ_prod] at hdG
 have hs1 : sgB false = 1 := rfl
 rw [hs1] at hdG
 have hsq : ∀ b, sgB b * sgB b = 1 := by intro b; cases b <;> simp [sgB] <;> grind
 unfold detR lastZ
 rw [hl, o3, o4]
 by_cases hr : (elimR n 0 0 R false).2.1 < n
 · simp only [if_pos hr]
   have hz : detM n (entR R) = 0 := by
    have hE := o5.det n (fun b => b) (fun a => a) (fun a ha => ha) (fun a _ => rfl) (fun a ha => ha)
    have hcn : col' = n := by omega
    have h0 : detM n (fun a b => s' a * entR (elimR n 0 0 R false).1 a b) = 0 := by
     rw [detM_tri]
     · refine prodQ_zero (k := n - 1) (by omega) ?_
       rw [o5.low (n - 1) (n - 1) (by omega) (by omega) (by omega)]; grind
     · intro a b ha hb
       by_cases har : a < (elimR n 0 0 R false).2.1
       · have : ∀ l, l < (elimR n 0 0 R false).2.1 → l ≤ pc' l := by
           intro l
           induction l with
           | zero => intro _; omega
           | succ l ih => intro hl; have := ih (by omega); have := o5.inc l (l + 1) (by omega) hl; omega
         have := this a har
         rw [o5.bef a b har (by omega)]; grind
       · rw [o5.low a b (by omega) ha (by omega)]; grind
    rw [hE] at h0
    rw [h0] at hdG
    have : ((byZ R n : Nat) : Rat) * detM n (entR R) = 0 := by grind
    rcases Rat.mul_eq_zero.1 this with h | h
    · exact absurd h hby
    · exact h
   refine ⟨?_, hz.symm, ?_⟩
   · split
     · rw [Int.neg_zero, Rat.zero_divInt]
     · rw [Rat.zero_divInt]
   · split <;> simp
 · have hrn : (elimR n 0 0 R false).2.1 = n := by have := o5.rn; omega
   simp only [if_neg hr]
   rw [hrn] at o5 o6
   have hlast := o6.last
   have hpl : pivL (elimR n 0 0 R false).1 pc' s' n = prodQ n s' * prodQ n (fun i => entR (elimR n 0 0 R false).1 i i) := by
    unfold pivL
    rw [← prodQ_mul]
    refine prodQ_congr fun i hi => ?_
    rw [o5.diag (by omega) hi]
   rw [hpl, o8, ← byZ_prod] at hlast
   have hE := o5.det n (fun b => b) (fun a => a) (fun a ha => ha) (fun a _ => rfl) (fun a ha => by omega)
   have hE2 : detM n (fun a b => s' a * entR (elimR n 0 0 R false).1 a b) = prodQ n s' * prodQ n (fun i => entR (elimR n 0 0 R false).1 i i) := by
    rw [detM_tri, prodQ_mul]
    intro a b ha hb
    rw [o5.bef a b ha (by rw [o5.diag (by omega) ha]; exact hb)]; grind
   rw [hE, o8, ← byZ_prod] at hE2
   rw [hE2] at hdG
   have hq := hsq (elimR n 0 0 R false).2.2
   refine ⟨?_, ?_, ?_⟩
   · rw [Rat.divInt_eq_div, Rat.intCast_natCast]
     unfold sgB
     split
     · rw [Rat.intCast_neg, hlast]; grind
     · rw [hlast]; grind
   · grind
   · have := o6.last_bnd o5 hB
     split
     · rw [Int.natAbs_neg]; exact this
     · exact this
end
end Go.Proofs.YtigdclhagmnopaaGreat

namespace Go.Proofs.YtigdclhagmnopaaGreat

/-- A form of n rows that is linear in each, and 0 where two are equal. -/
structure AltF (n : Nat) (F : (Nat → Nat → Rat) → Rat) : Prop where
 congr : ∀ {M N : Nat → Nat → Rat}, (∀ a b, a < n → b < n → M a b = N a b) → F M = F N
 lin : ∀ (M : Nat → Nat → Rat) (k : Nat), k < n → ∀ (r s : Nat → Rat) (x y : Rat), F (updR M k (fun b => x * r b + y * s b)) = x * F (updR M k r) + y * F (updR M k s)
 two : ∀ (M : Nat → Nat → Rat) (k l : Nat), k < n → l < n → k ≠ l → (∀ b, M k b = M l b) → F M = 0
theorem AltF.det (n : Nat) : AltF n (detM n) := ⟨detM_congr, fun M _ hk r s x y => detM_lin M hk r s x y, fun _ _ _ hk hl hne h => detM_two hk hl hne h⟩
section
variable {n : Nat} {F : (Nat → Nat → Rat) → Rat}
theorem AltF.add (h : AltF n F) (M : Nat → Nat → Rat) {k : Nat} (hk : k < n) (r s : Nat → Rat) : F (updR M k (fun b => r b + s b)) = F (updR M k r) + F (updR M k s) := by
 have := h.lin M k hk r s 1 1
 rw [show (fun b => r b + s b) = (fun b => 1 * r b + 1 * s b) by funext b; grind, this]; grind
theorem AltF.swap (h : AltF n F) {k l : Nat} (hk : k < n) (hl : l < n) (hne : k ≠ l) (M : Nat → Nat → Rat) : F (updR (updR M k (M l)) l (M k)) = - F M := by
 obtain ⟨r, hr⟩ : ∃ r, M l = r := ⟨_, rfl⟩
 obtain ⟨s, hs⟩ : ∃ s, M k = s := ⟨_, rfl⟩
 have h0 := h.two (updR (updR M k (fun b => r b + s b)) l (fun b => r b + s b)) k l hk hl hne (fun b => by simp [updR, hne])
 have h1 := h.two (updR (updR M k r) l r) k l hk hl hne (fun b => by simp [updR, hne])
 have h2 := h.two (updR (updR M k s) l s) k l hk hl hne (fun b => by simp [updR, hne])
 rw [h.add _ hl, updR_comm _ hne, updR_comm _ hne, h.add _ hk, h.add _ hk, ← updR_comm _ hne, ← updR_comm _ hne, ← updR_comm _ hne, ← updR_comm _ hne, h1, h2] at h0
 rw [hr, hs]
 have e : updR (updR M k s) l r = M := by rw [← hs, updR_self, ← hr, updR_self]
 rw [e] at h0
 grind
theorem AltF.addrow (h : AltF n F) (M : Nat → Nat → Rat) {k l : Nat} (hk : k < n) (hl : l < n) (hne : k ≠ l) (c : Rat) : F (updR M k (fun b => M k b + c * M l b)) = F M := by
 have h1 := h.lin M k hk (M k) (M l) 1 c
 rw [show (fun b => M k b + c * M l b) = (fun b => 1 * M k b + c * M l b) by funext b; grind, h1, updR_self,
  h.two (updR M k (M l)) k l hk hl hne (fun b => by simp [updR, Ne.symm hne])]
 grind
theorem AltF.clear (h : AltF n F) (M : Nat → Nat → Rat) {l : Nat} (hl : l < n) (c : Nat → Rat) : F (fun a b => if a = l then M a b else M a b + c a * M l b) = F M := by
 have key : ∀ m, m ≤ n → F (fun a b => if a = l then M a b else if a < m then M a b + c a * M l b else M a b) = F M := by
  intro m
  induction m with
  | zero => intro _; exact h.congr fun a b _ _ => by split <;> rfl
  | succ m ih =>
   intro hm
   have h0 := ih (by omega)
   by_cases hml : m = l
   · rw [← h0]; refine h.congr fun a b _ _ => ?_
     by_cases ha : a = l
     · simp [ha]
     · rw [if_neg ha, if_neg ha]
       by_cases h1 : a < m
       · rw [if_pos h1, if_pos (by omega)]
       · rw [if_neg h1, if_neg (by omega)]
   · have h1 := h.addrow (fun a b => if a = l then M a b else if a < m then M a b + c a * M l b else M a b) (k := m) (l := l) (by omega) hl hml (c m)
     rw [h0] at h1
     rw [← h1]; refine h.congr fun a b _ _ => ?_
     unfold updR
     by_cases ha : a = m
     · subst ha; simp [hml]
     · rw [if_neg ha]
       by_cases hal : a = l
       · simp [hal]
       · rw [if_neg hal]
         by_cases h1 : a < m
         · rw [if_pos (by omega)]; simp [hal, h1]
         · rw [if_neg (by omega)]; simp [hal, h1]
 rw [← key n (Nat.le_refl _)]
 exact h.congr fun a b ha hb => by rw [if_pos ha]
end
end Go.Proofs.YtigdclhagmnopaaGreat
