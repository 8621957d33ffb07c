/- The field with columns and rows exchanged, the field multiplied: sums and moments (plain). The field with columns and rows exchanged, the field multiplied: moments (plain). The field moved by columns and rows in front: sums and moments (plain). A drawn region with a chain of calls and two new variables that nothing waits for: each call is walked once, with whatever variables may have come up before it. Two operations that nothing waits for and that make a block each (a new variable, a made slice): either may come first. For the moved field: a made row of numbers, sizes of fractions, the place as the code reckons it. Reference of centroid: ends. -/
import Derived.Deep.CutBlock
import Derived.Deep.DeepCutAuto
import Derived.Test.YtkippclhbkjbmaaZn45
import Derived.Test.YtkippclhbkjbmaaZn52
import Derived.Test.YtkippclhbkjbmaaZn27
import Derived.Test.YtkippclhbkjbmaaZn53
import Derived.Test.YtkippclhbkjbmaaZn54
import Derived.Test.YtkippclhbkjbmaaZn46
import Derived.Test.YtkippclhbkjbmaaZn41
set_option linter.unusedSimpArgs false
set_option linter.unusedVariables false

namespace Go.Proofs.Ytkippclhbkjbmaa
open Go.RowKit

/-- The place of a pixel in the field with columns and rows exchanged. -/
def sig (W H i : Int) : Int := i % W * H + i / W

section
variable {W H i : Int} {n : Nat}
theorem sig_facts (hf : 1 ≤ W ∧ W ≤ 100 ∧ 1 ≤ H ∧ H ≤ 100 ∧ (n : Int) = W * H) (h0 : 0 ≤ i) (h1 : i < n) :
    0 ≤ sig W H i ∧ sig W H i < n ∧ sig W H i % H = i / W ∧ sig W H i / H = i % W ∧ 0 ≤ i % W ∧ i % W < W ∧ 0 ≤ i / W ∧ i / W < H := by
  have hW : 0 < W := by omega
  have hH : 0 < H := by omega
  have a1 := Int.emod_nonneg i (show W ≠ 0 by omega)
  have a2 := Int.emod_lt_of_pos i hW
  have a3 : 0 ≤ i / W := Int.ediv_nonneg h0 (by omega)
  have a4 : i / W < H := by
    rw [Int.ediv_lt_iff_lt_mul hW, Int.mul_comm H W]
    omega
  unfold sig
  generalize i % W = x at *
  generalize i / W = y at *
  have b1 : 0 ≤ x * H := Int.mul_nonneg a1 (by omega)
  have b2 : x * H + H ≤ W * H := by
    have h3 : (x + 1) * H ≤ W * H := Int.mul_le_mul_of_nonneg_right (by omega) (by omega)
    rw [Int.add_mul, Int.one_mul] at h3
    exact h3
  have b3 : (x * H + y) % H = y := by
    rw [Int.add_comm, Int.add_mul_emod_self_right, Int.emod_eq_of_lt a3 a4]
  have b4 : (x * H + y) / H = x := by
    rw [Int.add_comm, Int.add_mul_ediv_right _ _ (show H ≠ 0 by omega), Int.ediv_eq_zero_of_lt a3 a4]
    omega
  exact ⟨by omega, by omega, b3, b4, a1, a2, a3, a4⟩
theorem sig_inj {j : Int} (hf : 1 ≤ W ∧ W ≤ 100 ∧ 1 ≤ H ∧ H ≤ 100 ∧ (n : Int) = W * H) (h0 : 0 ≤ i) (h1 : i < n) (g0 : 0 ≤ j) (g1 : j < n) (h : sig W H i = sig W H j) : i = j := by
  have a := sig_facts hf h0 h1
  have b := sig_facts hf g0 g1
  rw [h] at a
  have e1 : i / W = j / W := by rw [← a.2.2.1, ← b.2.2.1]
  have e2 : i % W = j % W := by rw [← a.2.2.2.1, ← b.2.2.2.1]
  have c1 := Int.mul_ediv_add_emod i W
  have c2 := Int.mul_ediv_add_emod j W
  rw [e1, e2] at c1
  omega
end

/-- The pixels of the turned field, the first k laid. -/
def turnL (W H : Int) (ps : List Int) : Nat → List Int
  | 0 => ps
  | k + 1 => (turnL W H ps k).set (sig W H k).toNat (ps[k]?.getD 0)
theorem turnL_length (W H : Int) (ps : List Int) (k : Nat) : (turnL W H ps k).length = ps.length := by
  induction k with
  | zero => rfl
  | succ k ih => simp [turnL, ih]
theorem turnL_at {W H : Int} {ps : List Int} {n : Nat} (hf : 1 ≤ W ∧ W ≤ 100 ∧ 1 ≤ H ∧ H ≤ 100 ∧ (n : Int) = W * H) (hpl : ps.length = n) {i k : Nat} (hi : i < k) (hk : k ≤ n) : (turnL W H ps k)[(sig W H i).toNat]?.getD 0 = ps[i]?.getD 0 := by
  induction k with
  | zero => omega
  | succ k ih =>
    have a := sig_facts (n := n) hf (show (0 : Int) ≤ (i : Int) by omega) (by omega)
    have b := sig_facts (n := n) hf (show (0 : Int) ≤ (k : Int) by omega) (by omega)
    simp only [turnL]
    by_cases e : i = k
    · subst e
      rw [List.getElem?_set_self (by rw [turnL_length, hpl]; omega)]
      rfl
    · rw [List.getElem?_set_ne (fun h => e (by
        have h2 : sig W H (k : Int) = sig W H (i : Int) := by omega
        have := sig_inj hf (by omega) (by omega) (by omega) (by omega) h2
        omega))]
      exact ih (by omega) (by omega)
theorem turnL_mem {W H : Int} {ps : List Int} {P : Int → Prop} (hp : ∀ x ∈ ps, P x) {k : Nat} (hk : k ≤ ps.length) : ∀ x ∈ turnL W H ps k, P x := by
  induction k with
  | zero => exact hp
  | succ k ih =>
    intro x hx
    rcases List.mem_or_eq_of_mem_set hx with h | h
    · exact ih (by omega) x h
    · rw [h, List.getElem?_eq_getElem (by omega)]
      exact hp _ (List.getElem_mem _)

/-- The pixels multiplied, the first k of them. -/
def moreL (ps : List Int) (t : Int) : Nat → List Int
  | 0 => ps
  | k + 1 => (moreL ps t k).set k (ps[k]?.getD 0 * t)
theorem moreL_length (ps : List Int) (t : Int) (k : Nat) : (moreL ps t k).length = ps.length := by
  induction k with
  | zero => rfl
  | succ k ih => simp [moreL, ih]
theorem moreL_at (ps : List Int) (t : Int) {i k : Nat} (hk : k ≤ ps.length) : (moreL ps t k)[i]?.getD 0 = if i < k then ps[i]?.getD 0 * t else ps[i]?.getD 0 := by
  induction k with
  | zero => simp [moreL]
  | succ k ih =>
    simp only [moreL]
    by_cases e : i = k
    · subst e
      rw [List.getElem?_set_self (by rw [moreL_length]; omega), if_pos (by omega)]
      rfl
    · rw [List.getElem?_set_ne (fun h => e h.symm), ih (by omega)]
      by_cases h : i < k
      · rw [if_pos h, if_pos (by omega)]
      · rw [if_neg h, if_neg (by omega)]
theorem moreL_mem {ps : List Int} {t : Int} {P Q : Int → Prop} (hpq : ∀ x, P x → Q x) (hq : ∀ x, P x → Q (x * t)) (hp : ∀ x ∈ ps, P x) {k : Nat} (hk : k ≤ ps.length) : ∀ x ∈ moreL ps t k, Q x := by
  induction k with
  | zero => exact fun x hx => hpq x (hp x hx)
  | succ k ih =>
    intro x hx
    rcases List.mem_or_eq_of_mem_set hx with h | h
    · exact ih (by omega) x h
    · rw [h, List.getElem?_eq_getElem (by omega)]
      exact hq _ (hp _ (List.getElem_mem _))

/-- The marks of the list's places, the first k of them. -/
def markL (W H : Int) (l : List Int) (n : Nat) : Nat → List Bool
  | 0 => List.replicate n false
  | k + 1 => (markL W H l n k).set (sig W H (l[k]?.getD 0)).toNat true
theorem markL_length (W H : Int) (l : List Int) (n k : Nat) : (markL W H l n k).length = n := by
  induction k with
  | zero => simp [markL]
  | succ k ih => simp [markL, ih]
/-- The marked places below j. -/
def tookL (b : List Bool) : Nat → List Int
  | 0 => []
  | j + 1 => if b[j]?.getD false then tookL b j ++ [(j : Int)] else tookL b j
theorem tookL_lt {b : List Bool} {j : Nat} : ∀ x ∈ tookL b j, 0 ≤ x ∧ x < j := by
  induction j with
  | zero => simp [tookL]
  | succ j ih =>
    intro x hx
    unfold tookL at hx
    split at hx
    · rcases List.mem_append.1 hx with h | h
      · have := ih x h; omega
      · rw [List.mem_singleton] at h; omega
    · have := ih x hx; omega
/-- The sum of F over a list. -/
def sumL (F : Int → Int) : List Int → Int
  | [] => 0
  | x :: l => F x + sumL F l
theorem sumL_append (F : Int → Int) (l l' : List Int) : sumL F (l ++ l') = sumL F l + sumL F l' := by
  induction l with
  | nil => simp [sumL]
  | cons x l ih => simp only [List.cons_append, sumL, ih]; omega
theorem sumK_take (F : Int → Int) (l : List Int) {k : Nat} (hk : k ≤ l.length) : sumK F l k = sumL F (l.take k) := by
  induction k with
  | zero => simp [sumK, sumL]
  | succ k ih =>
    have e : sumK F l (k + 1) = sumK F l k + F (l[k]?.getD 0) := rfl
    rw [e, ih (by omega), List.take_add_one, sumL_append, List.getElem?_eq_getElem (by omega)]
    simp [sumL]
theorem sumK_all (F : Int → Int) (l : List Int) : sumK F l l.length = sumL F l := by
  rw [sumK_take F l (Nat.le_refl _), List.take_length]
/-- The sum over marked places below j. -/
def sumB (F : Int → Int) (b : List Bool) : Nat → Int
  | 0 => 0
  | j + 1 => sumB F b j + (if b[j]?.getD false then F j else 0)
theorem sumL_took (F : Int → Int) (b : List Bool) (j : Nat) : sumL F (tookL b j) = sumB F b j := by
  induction j with
  | zero => rfl
  | succ j ih =>
    unfold tookL sumB
    split
    · rw [sumL_append, ih]; simp [sumL]
    · rw [ih]; omega
theorem sumB_set (F : Int → Int) (b : List Bool) {i : Nat} (hi : i < b.length) (hb : b[i]?.getD false = false) (j : Nat) : sumB F (b.set i true) j = sumB F b j + (if i < j then F i else 0) := by
  induction j with
  | zero => simp [sumB]
  | succ j ih =>
    unfold sumB
    rw [ih]
    by_cases e : i = j
    · subst e
      rw [List.getElem?_set_self hi, hb]
      simp
    · rw [List.getElem?_set_ne e]
      by_cases h : i < j
      · rw [if_pos h, if_pos (show i < j + 1 by omega)]; omega
      · rw [if_neg h, if_neg (show ¬ i < j + 1 by omega)]; omega
theorem sumB_none (F : Int → Int) (n j : Nat) : sumB F (List.replicate n false) j = 0 := by
  induction j with
  | zero => rfl
  | succ j ih =>
    unfold sumB
    rw [ih, List.getElem?_replicate]
    split <;> simp
theorem mark_new {W H : Int} {l : List Int} {n m : Nat} (hf : 1 ≤ W ∧ W ≤ 100 ∧ 1 ≤ H ∧ H ≤ 100 ∧ (n : Int) = W * H) (hin : ∀ k, k < m → 0 ≤ l[k]?.getD 0 ∧ l[k]?.getD 0 < n) (hdis : ∀ i j, i < j → j < m → l[i]?.getD 0 < l[j]?.getD 0) {k : Nat} : ∀ {i : Nat}, k ≤ i → i < m → (markL W H l n k)[(sig W H (l[i]?.getD 0)).toNat]?.getD false = false := by
  induction k with
  | zero =>
    intro i _ _
    simp only [markL]
    rw [List.getElem?_replicate]
    split <;> rfl
  | succ k ih =>
    intro i hki him
    simp only [markL]
    have a := sig_facts hf (hin i him).1 (hin i him).2
    have b := sig_facts hf (hin k (by omega)).1 (hin k (by omega)).2
    rw [List.getElem?_set_ne (fun h => by
      have h2 : sig W H (l[k]?.getD 0) = sig W H (l[i]?.getD 0) := by omega
      have h3 := sig_inj hf (hin k (by omega)).1 (hin k (by omega)).2 (hin i him).1 (hin i him).2 h2
      have h4 := hdis k i (by omega) him
      omega)]
    exact ih (by omega) him
theorem sumB_mark {W H : Int} {l : List Int} {n m : Nat} (F : Int → Int) (hf : 1 ≤ W ∧ W ≤ 100 ∧ 1 ≤ H ∧ H ≤ 100 ∧ (n : Int) = W * H) (hin : ∀ k, k < m → 0 ≤ l[k]?.getD 0 ∧ l[k]?.getD 0 < n) (hdis : ∀ i j, i < j → j < m → l[i]?.getD 0 < l[j]?.getD 0) {k : Nat} (hk : k ≤ m) : sumB F (markL W H l n k) n = sumK (fun i => F (sig W H i)) l k := by
  induction k with
  | zero => simp only [markL, sumK]; exact sumB_none F n n
  | succ k ih =>
    have a := sig_facts hf (hin k (by omega)).1 (hin k (by omega)).2
    have e : sumK (fun i => F (sig W H i)) l (k + 1) = sumK (fun i => F (sig W H i)) l k + F (sig W H (l[k]?.getD 0)) := rfl
    simp only [markL]
    rw [sumB_set F _ (by rw [markL_length]; omega) (mark_new hf hin hdis (Nat.le_refl _) (by omega)), ih (by omega), e, if_pos (by omega)]
    congr 2
    omega
/-- Sums over the turned list. -/
theorem sum_turned {W H : Int} {l : List Int} {n m : Nat} (F : Int → Int) (hf : 1 ≤ W ∧ W ≤ 100 ∧ 1 ≤ H ∧ H ≤ 100 ∧ (n : Int) = W * H) (hin : ∀ k, k < m → 0 ≤ l[k]?.getD 0 ∧ l[k]?.getD 0 < n) (hdis : ∀ i j, i < j → j < m → l[i]?.getD 0 < l[j]?.getD 0) : sumK F (tookL (markL W H l n m) n) (tookL (markL W H l n m) n).length = sumK (fun i => F (sig W H i)) l m := by
  rw [sumK_all, sumL_took, sumB_mark F hf hin hdis (Nat.le_refl _)]
theorem sumK_one (l : List Int) (k : Nat) : sumK (fun _ => 1) l k = k := by
  induction k with
  | zero => rfl
  | succ k ih =>
    have e : sumK (fun _ => 1) l (k + 1) = sumK (fun _ => 1) l k + 1 := rfl
    rw [e, ih]; simp
theorem turned_length {W H : Int} {l : List Int} {n m : Nat} (hf : 1 ≤ W ∧ W ≤ 100 ∧ 1 ≤ H ∧ H ≤ 100 ∧ (n : Int) = W * H) (hin : ∀ k, k < m → 0 ≤ l[k]?.getD 0 ∧ l[k]?.getD 0 < n) (hdis : ∀ i j, i < j → j < m → l[i]?.getD 0 < l[j]?.getD 0) : (tookL (markL W H l n m) n).length = m := by
  have h := sum_turned (fun _ => 1) hf hin hdis
  rw [sumK_one, sumK_one] at h
  omega
theorem sumK_congr' {F G : Int → Int} {l : List Int} {m : Nat} (h : ∀ k, k < m → F (l[k]?.getD 0) = G (l[k]?.getD 0)) : sumK F l m = sumK G l m := by
  induction m with
  | zero => rfl
  | succ k ih =>
    have e1 : sumK F l (k + 1) = sumK F l k + F (l[k]?.getD 0) := rfl
    have e2 : sumK G l (k + 1) = sumK G l k + G (l[k]?.getD 0) := rfl
    rw [e1, e2, ih (fun j hj => h j (by omega)), h k (by omega)]
theorem took_get {b : List Bool} (j : Nat) : ∀ i k, i < k → k < (tookL b j).length → (tookL b j)[i]?.getD 0 < (tookL b j)[k]?.getD 0 := by
  induction j with
  | zero => intro i k _ hk; simp [tookL] at hk
  | succ j ih =>
    intro i k hik hk
    unfold tookL at hk ⊢
    split at hk
    · rename_i hb
      rw [if_pos hb]
      rw [List.length_append, List.length_singleton] at hk
      by_cases e : k < (tookL b j).length
      · rw [List.getElem?_append_left (by omega), List.getElem?_append_left e]
        exact ih i k hik e
      · obtain rfl : k = (tookL b j).length := by omega
        rw [List.getElem?_append_left (by omega), List.getElem?_append_right (Nat.le_refl _), Nat.sub_self, List.getElem?_eq_getElem (by omega)]
        exact (tookL_lt _ (List.getElem_mem _)).2
    · rename_i hb
      rw [if_neg hb]
      exact ih i k hik hk
theorem listed_of {l : List Int} {n : Nat} (h0 : 0 < l.length) (hin : ∀ k, k < l.length → 0 ≤ l[k]?.getD 0 ∧ l[k]?.getD 0 < n) (hinc : ∀ i k, i < k → k < l.length → l[i]?.getD 0 < l[k]?.getD 0) : listed l n = true := by
  have h : ∀ m, m ≤ l.length → listedTo l n m = true := by
    intro m
    induction m with
    | zero => intro _; rfl
    | succ k ih =>
      intro hk
      simp only [listedTo, Bool.and_eq_true]
      refine ⟨ih (by omega), ?_⟩
      have a := hin k (by omega)
      have hb : badAt l n k = false := by
        rw [← Bool.not_eq_true]
        intro hb
        rcases badAt_true.1 hb with h | h | ⟨h, h2⟩
        · omega
        · omega
        · have := hinc (k - 1) k (by omega) (by omega)
          omega
      rw [hb]; rfl
  simp only [listed, Bool.and_eq_true, decide_eq_true_eq]
  exact ⟨h0, h _ (Nat.le_refl _)⟩
theorem turned_listed {W H : Int} {l : List Int} {n m : Nat} (hm0 : 0 < m) (hf : 1 ≤ W ∧ W ≤ 100 ∧ 1 ≤ H ∧ H ≤ 100 ∧ (n : Int) = W * H) (hin : ∀ k, k < m → 0 ≤ l[k]?.getD 0 ∧ l[k]?.getD 0 < n) (hdis : ∀ i j, i < j → j < m → l[i]?.getD 0 < l[j]?.getD 0) : listed (tookL (markL W H l n m) n) n = true := by
  have hl := turned_length hf hin hdis
  refine listed_of (by omega) (fun k hk => ?_) (took_get n)
  rw [List.getElem?_eq_getElem hk]
  exact tookL_lt _ (List.getElem_mem _)
end Go.Proofs.Ytkippclhbkjbmaa

namespace Go.Proofs.Ytkippclhbkjbmaa
open Go.RowKit

section
variable {W H : Int} {ps l : List Int} {n m : Nat}
theorem pix_turned (hf : 1 ≤ W ∧ W ≤ 100 ∧ 1 ≤ H ∧ H ≤ 100 ∧ (n : Int) = W * H) (hpl : ps.length = n) {i : Int} (h0 : 0 ≤ i) (h1 : i < n) : pix (turnL W H ps n) (sig W H i) = pix ps i := by
  obtain ⟨j, rfl⟩ : ∃ j : Nat, i = j := ⟨i.toNat, by omega⟩
  unfold pix
  rw [turnL_at hf hpl (show j < n by omega) (Nat.le_refl _), Int.toNat_natCast]
theorem sum_turned2 {F F' : Int → Int} (hf : 1 ≤ W ∧ W ≤ 100 ∧ 1 ≤ H ∧ H ≤ 100 ∧ (n : Int) = W * H) (hin : ∀ k, k < m → 0 ≤ l[k]?.getD 0 ∧ l[k]?.getD 0 < n) (hdis : ∀ i j, i < j → j < m → l[i]?.getD 0 < l[j]?.getD 0) (h : ∀ i : Int, 0 ≤ i → i < (n : Int) → F' (sig W H i) = F i) :
    sumK F' (tookL (markL W H l n m) n) (tookL (markL W H l n m) n).length = sumK F l m := by
  rw [sum_turned F' hf hin hdis]
  exact sumK_congr' (fun k hk => h _ (hin k hk).1 (hin k hk).2)
theorem psum_turned (hlm : l.length = m) (hpl : ps.length = n) (hf : 1 ≤ W ∧ W ≤ 100 ∧ 1 ≤ H ∧ H ≤ 100 ∧ (n : Int) = W * H) (hin : ∀ k, k < m → 0 ≤ l[k]?.getD 0 ∧ l[k]?.getD 0 < n) (hdis : ∀ i j, i < j → j < m → l[i]?.getD 0 < l[j]?.getD 0) :
    psum (turnL W H ps n) (tookL (markL W H l n m) n) = psum ps l := by
  unfold psum
  rw [sum_turned2 hf hin hdis (fun i h0 h1 => pix_turned hf hpl h0 h1), hlm]
theorem mean1_turned {u u' : Int → Int} (hlm : l.length = m) (hpl : ps.length = n) (hf : 1 ≤ W ∧ W ≤ 100 ∧ 1 ≤ H ∧ H ≤ 100 ∧ (n : Int) = W * H) (hin : ∀ k, k < m → 0 ≤ l[k]?.getD 0 ∧ l[k]?.getD 0 < n) (hdis : ∀ i j, i < j → j < m → l[i]?.getD 0 < l[j]?.getD 0) (hu : ∀ i : Int, 0 ≤ i → i < (n : Int) → u' (sig W H i) = u i) :
    mean1 u' (turnL W H ps n) (tookL (markL W H l n m) n) = mean1 u ps l := by
  unfold mean1
  rw [psum_turned hlm hpl hf hin hdis, sum_turned2 (F := fun i => u i * pix ps i) hf hin hdis (fun i h0 h1 => by simp only [hu i h0 h1, pix_turned hf hpl h0 h1]), hlm]
theorem mean2_turned {u u' v v' : Int → Int} (hlm : l.length = m) (hpl : ps.length = n) (hf : 1 ≤ W ∧ W ≤ 100 ∧ 1 ≤ H ∧ H ≤ 100 ∧ (n : Int) = W * H) (hin : ∀ k, k < m → 0 ≤ l[k]?.getD 0 ∧ l[k]?.getD 0 < n) (hdis : ∀ i j, i < j → j < m → l[i]?.getD 0 < l[j]?.getD 0) (hu : ∀ i : Int, 0 ≤ i → i < (n : Int) → u' (sig W H i) = u i) (hv : ∀ i : Int, 0 ≤ i → i < (n : Int) → v' (sig W H i) = v i) :
    mean2 u' v' (turnL W H ps n) (tookL (markL W H l n m) n) = mean2 u v ps l := by
  unfold mean2
  rw [psum_turned hlm hpl hf hin hdis, sum_turned2 (F := fun i => u i * v i * pix ps i) hf hin hdis (fun i h0 h1 => by simp only [hu i h0 h1, hv i h0 h1, pix_turned hf hpl h0 h1]), hlm]
/-- The moments with x and y exchanged. -/
def Mom.flip (M : Mom) : Mom := ⟨M.s, M.y, M.x, M.yy, M.xy, M.xx⟩
theorem mom_turned (hlm : l.length = m) (hpl : ps.length = n) (hf : 1 ≤ W ∧ W ≤ 100 ∧ 1 ≤ H ∧ H ≤ 100 ∧ (n : Int) = W * H) (hin : ∀ k, k < m → 0 ≤ l[k]?.getD 0 ∧ l[k]?.getD 0 < n) (hdis : ∀ i j, i < j → j < m → l[i]?.getD 0 < l[j]?.getD 0) :
    momOf H (turnL W H ps n) (tookL (markL W H l n m) n) = (momOf W ps l).flip := by
  have hc : ∀ i, 0 ≤ i → i < (n : Int) → colv H (sig W H i) = rowv W i := fun i h0 h1 => (sig_facts hf h0 h1).2.2.1
  have hr : ∀ i, 0 ≤ i → i < (n : Int) → rowv H (sig W H i) = colv W i := fun i h0 h1 => (sig_facts hf h0 h1).2.2.2.1
  have e : mean2 (rowv W) (colv W) ps l = mean2 (colv W) (rowv W) ps l := by
    unfold mean2
    have h : sumK (fun i => rowv W i * colv W i * pix ps i) l l.length = sumK (fun i => colv W i * rowv W i * pix ps i) l l.length := sumK_congr' (fun k hk => by rw [Int.mul_comm (rowv W _)])
    rw [h]
  simp only [momOf, Mom.flip, central]
  rw [psum_turned hlm hpl hf hin hdis, mean1_turned hlm hpl hf hin hdis hc, mean1_turned hlm hpl hf hin hdis hr, mean2_turned hlm hpl hf hin hdis hc hc, mean2_turned hlm hpl hf hin hdis hc hr, mean2_turned hlm hpl hf hin hdis hr hr, e, Rat.mul_comm (mean1 (rowv W) ps l) (mean1 (colv W) ps l)]

theorem sumK_mul (F : Int → Int) (t : Int) (l : List Int) (k : Nat) : sumK (fun i => F i * t) l k = sumK F l k * t := by
  induction k with
  | zero => simp [sumK]
  | succ k ih =>
    have e1 : sumK (fun i => F i * t) l (k + 1) = sumK (fun i => F i * t) l k + F (l[k]?.getD 0) * t := rfl
    have e2 : sumK F l (k + 1) = sumK F l k + F (l[k]?.getD 0) := rfl
    rw [e1, e2, ih, Int.add_mul]
theorem pix_more (hpl : ps.length = n) {t i : Int} (h0 : 0 ≤ i) (h1 : i < n) : pix (moreL ps t n) i = pix ps i * t := by
  unfold pix
  rw [moreL_at ps t (by omega), if_pos (by omega)]
theorem psum_more (hlm : l.length = m) (hpl : ps.length = n) (hin : ∀ k, k < m → 0 ≤ l[k]?.getD 0 ∧ l[k]?.getD 0 < n) (t : Int) : psum (moreL ps t n) l = psum ps l * t := by
  unfold psum
  rw [hlm, ← sumK_mul]
  exact sumK_congr' (fun k hk => pix_more hpl (hin k hk).1 (hin k hk).2)
theorem mom_more {t : Int} (ht : t ≠ 0) (hlm : l.length = m) (hpl : ps.length = n) (hin : ∀ k, k < m → 0 ≤ l[k]?.getD 0 ∧ l[k]?.getD 0 < n) :
    momOf W (moreL ps t n) l = { momOf W ps l with s := psum ps l * t } := by
  have h1 : ∀ u : Int → Int, mean1 u (moreL ps t n) l = mean1 u ps l := fun u => by
    unfold mean1
    have h : sumK (fun i => u i * pix (moreL ps t n) i) l l.length = sumK (fun i => u i * pix ps i) l l.length * t := by
      rw [← sumK_mul]
      exact sumK_congr' (fun k hk => by rw [pix_more hpl (hin k (by omega)).1 (hin k (by omega)).2]; simp only [Int.mul_assoc])
    rw [psum_more hlm hpl hin, h, Rat.divInt_mul_right ht]
  have h2 : ∀ u v : Int → Int, mean2 u v (moreL ps t n) l = mean2 u v ps l := fun u v => by
    unfold mean2
    have h : sumK (fun i => u i * v i * pix (moreL ps t n) i) l l.length = sumK (fun i => u i * v i * pix ps i) l l.length * t := by
      rw [← sumK_mul]
      exact sumK_congr' (fun k hk => by rw [pix_more hpl (hin k (by omega)).1 (hin k (by omega)).2]; simp only [Int.mul_assoc])
    rw [psum_more hlm hpl hin, h, Rat.divInt_mul_right ht]
  simp only [momOf, central, h1, h2, psum_more hlm hpl hin]
end

theorem fieldOk_turned {W H : Int} {ps : List Int} {n : Nat} (hpl : ps.length = n) (h : fieldOk W H n ps = true) : fieldOk H W n (turnL W H ps n) = true := by
  have hs := fieldOk_size h
  simp only [fieldOk, Bool.and_eq_true] at h ⊢
  have hb : ∀ x ∈ ps, -4294967296 ≤ x ∧ x ≤ 4294967296 := fun x hx => by
    obtain ⟨k, hk, rfl⟩ := List.getElem_of_mem hx
    have := okPix_good h.2 (k := k) (by omega)
    rw [List.getElem?_eq_getElem hk] at this
    exact this
  have hb2 := turnL_mem (W := W) (H := H) hb (show n ≤ ps.length by omega)
  refine ⟨?_, ?_⟩
  · have h1 := h.1
    unfold sizeOk at h1 ⊢
    simp only [Bool.and_eq_true, decide_eq_true_eq, Bool.not_eq_true', decide_eq_false_iff_not] at h1 ⊢
    have e : H * W = W * H := Int.mul_comm H W
    omega
  · have hk : ∀ k, k ≤ n → okPix (turnL W H ps n) k = true := by
      intro k
      induction k with
      | zero => intro _; rfl
      | succ k ih =>
        intro hk
        simp only [okPix, Bool.and_eq_true]
        refine ⟨ih (by omega), ?_⟩
        have hl : k < (turnL W H ps n).length := by rw [turnL_length]; omega
        have := hb2 _ (List.getElem_mem hl)
        rw [List.getElem?_eq_getElem hl]
        simp only [inPix, Bool.and_eq_true, decide_eq_true_eq]
        exact this
    exact hk n (Nat.le_refl _)
end Go.Proofs.Ytkippclhbkjbmaa

namespace Go.Proofs.Ytkippclhbkjbmaa
open Go.RowKit

/-- The place of a pixel in the field with dx columns and dy rows in front. -/
def mov (W dx dy i : Int) : Int := (i / W + dy) * (W + dx) + i % W + dx

section
variable {W H dx dy : Int} {n : Nat}
theorem mov_facts {i : Int} (hf : 1 ≤ W ∧ W ≤ 100 ∧ 1 ≤ H ∧ H ≤ 100 ∧ (n : Int) = W * H) (hx : 0 ≤ dx) (hy : 0 ≤ dy) (h0 : 0 ≤ i) (h1 : i < n) :
    0 ≤ mov W dx dy i ∧ mov W dx dy i < (W + dx) * (H + dy) ∧ mov W dx dy i % (W + dx) = i % W + dx ∧ mov W dx dy i / (W + dx) = i / W + dy ∧ 0 ≤ i % W ∧ i % W < W ∧ 0 ≤ i / W ∧ i / W < H ∧ 0 ≤ (i / W + dy) * (W + dx) := by
  have hW : 0 < W := by omega
  have a1 := Int.emod_nonneg i (show W ≠ 0 by omega)
  have a2 := Int.emod_lt_of_pos i hW
  have a3 : 0 ≤ i / W := Int.ediv_nonneg h0 (by omega)
  have a4 : i / W < H := by
    rw [Int.ediv_lt_iff_lt_mul hW, Int.mul_comm H W]
    omega
  unfold mov
  generalize i % W = x at *
  generalize i / W = y at *
  have b1 : 0 ≤ (y + dy) * (W + dx) := Int.mul_nonneg (by omega) (by omega)
  have b2 : (y + dy) * (W + dx) + (W + dx) ≤ (W + dx) * (H + dy) := by
    have h3 : (y + dy + 1) * (W + dx) ≤ (H + dy) * (W + dx) := Int.mul_le_mul_of_nonneg_right (by omega) (by omega)
    rw [Int.add_mul, Int.one_mul, Int.mul_comm (H + dy)] at h3
    exact h3
  have b3 : ((y + dy) * (W + dx) + x + dx) % (W + dx) = x + dx := by
    rw [show (y + dy) * (W + dx) + x + dx = (x + dx) + (y + dy) * (W + dx) by omega, Int.add_mul_emod_self_right, Int.emod_eq_of_lt (by omega) (by omega)]
  have b4 : ((y + dy) * (W + dx) + x + dx) / (W + dx) = y + dy := by
    rw [show (y + dy) * (W + dx) + x + dx = (x + dx) + (y + dy) * (W + dx) by omega, Int.add_mul_ediv_right _ _ (show W + dx ≠ 0 by omega), Int.ediv_eq_zero_of_lt (by omega) (by omega)]
    omega
  exact ⟨by omega, by omega, b3, b4, a1, a2, a3, a4, b1⟩
theorem mov_lt {i j : Int} (hf : 1 ≤ W ∧ W ≤ 100 ∧ 1 ≤ H ∧ H ≤ 100 ∧ (n : Int) = W * H) (hx : 0 ≤ dx) (hy : 0 ≤ dy) (h0 : 0 ≤ i) (hij : i < j) (h1 : j < n) : mov W dx dy i < mov W dx dy j := by
  have hW : 0 < W := by omega
  have a1 := Int.emod_nonneg i (show W ≠ 0 by omega)
  have a2 := Int.emod_lt_of_pos i hW
  have b1 := Int.emod_nonneg j (show W ≠ 0 by omega)
  have b2 := Int.emod_lt_of_pos j hW
  have c1 := Int.mul_ediv_add_emod i W
  have c2 := Int.mul_ediv_add_emod j W
  have c3 : i / W ≤ j / W := Int.ediv_le_ediv hW (by omega)
  unfold mov
  generalize i % W = x at *
  generalize i / W = y at *
  generalize j % W = x' at *
  generalize j / W = y' at *
  by_cases e : y = y'
  · subst e
    have : x < x' := by omega
    omega
  · have h3 : (y + dy + 1) * (W + dx) ≤ (y' + dy) * (W + dx) := Int.mul_le_mul_of_nonneg_right (by omega) (by omega)
    rw [Int.add_mul (y + dy), Int.one_mul] at h3
    omega
end

/-- The list moved, its first k numbers. -/
def movd (W dx dy : Int) (l : List Int) : Nat → List Int
  | 0 => []
  | k + 1 => movd W dx dy l k ++ [mov W dx dy (l[k]?.getD 0)]
theorem movd_length (W dx dy : Int) (l : List Int) (k : Nat) : (movd W dx dy l k).length = k := by
  induction k with
  | zero => rfl
  | succ k ih => simp [movd, ih]
theorem movd_get {W dx dy : Int} {l : List Int} {i k : Nat} (h : i < k) : (movd W dx dy l k)[i]?.getD 0 = mov W dx dy (l[i]?.getD 0) := by
  induction k with
  | zero => omega
  | succ k ih =>
    simp only [movd]
    by_cases e : i = k
    · subst e
      rw [List.getElem?_append_right (by rw [movd_length]; omega), movd_length, Nat.sub_self]
      rfl
    · rw [List.getElem?_append_left (by rw [movd_length]; omega)]
      exact ih (by omega)
/-- The pixels of the moved field, the first k laid. -/
def movP (W dx dy : Int) (ps l : List Int) (N : Nat) : Nat → List Int
  | 0 => List.replicate N 0
  | k + 1 => (movP W dx dy ps l N k).set (mov W dx dy (l[k]?.getD 0)).toNat (ps[(l[k]?.getD 0).toNat]?.getD 0)
theorem movP_length (W dx dy : Int) (ps l : List Int) (N k : Nat) : (movP W dx dy ps l N k).length = N := by
  induction k with
  | zero => simp [movP]
  | succ k ih => simp [movP, ih]
theorem movP_mem {W dx dy : Int} {ps l : List Int} {N : Nat} {P : Int → Prop} (h0 : P 0) (hp : ∀ x ∈ ps, P x) (k : Nat) : ∀ x ∈ movP W dx dy ps l N k, P x := by
  induction k with
  | zero =>
    intro x hx
    rw [movP] at hx
    rw [List.eq_of_mem_replicate hx]; exact h0
  | succ k ih =>
    intro x hx
    rcases List.mem_or_eq_of_mem_set hx with h | h
    · exact ih x h
    · rw [h]
      by_cases e : (l[k]?.getD 0).toNat < ps.length
      · rw [List.getElem?_eq_getElem e]
        exact hp _ (List.getElem_mem _)
      · rw [List.getElem?_eq_none (by omega)]
        exact h0
section
variable {W H dx dy : Int} {ps l : List Int} {n m N : Nat}
theorem movP_at (hf : 1 ≤ W ∧ W ≤ 100 ∧ 1 ≤ H ∧ H ≤ 100 ∧ (n : Int) = W * H) (hx : 0 ≤ dx) (hy : 0 ≤ dy) (hN : (N : Int) = (W + dx) * (H + dy)) (hin : ∀ k, k < m → 0 ≤ l[k]?.getD 0 ∧ l[k]?.getD 0 < n) (hdis : ∀ i j, i < j → j < m → l[i]?.getD 0 < l[j]?.getD 0) {i k : Nat} (hi : i < k) (hk : k ≤ m) :
    (movP W dx dy ps l N k)[(mov W dx dy (l[i]?.getD 0)).toNat]?.getD 0 = ps[(l[i]?.getD 0).toNat]?.getD 0 := by
  induction k with
  | zero => omega
  | succ k ih =>
    have a := mov_facts (dx := dx) (dy := dy) hf hx hy (hin i (by omega)).1 (hin i (by omega)).2
    simp only [movP]
    by_cases e : i = k
    · subst e
      rw [List.getElem?_set_self (by rw [movP_length]; omega)]
      rfl
    · have b := mov_lt (dx := dx) (dy := dy) hf hx hy (hin i (by omega)).1 (hdis i k (by omega) (by omega)) (hin k (by omega)).2
      rw [List.getElem?_set_ne (by omega)]
      exact ih (by omega) (by omega)
theorem pix_moved (hf : 1 ≤ W ∧ W ≤ 100 ∧ 1 ≤ H ∧ H ≤ 100 ∧ (n : Int) = W * H) (hx : 0 ≤ dx) (hy : 0 ≤ dy) (hN : (N : Int) = (W + dx) * (H + dy)) (hin : ∀ k, k < m → 0 ≤ l[k]?.getD 0 ∧ l[k]?.getD 0 < n) (hdis : ∀ i j, i < j → j < m → l[i]?.getD 0 < l[j]?.getD 0) {i : Nat} (hi : i < m) :
    pix (movP W dx dy ps l N m) (mov W dx dy (l[i]?.getD 0)) = pix ps (l[i]?.getD 0) := movP_at hf hx hy hN hin hdis hi (Nat.le_refl _)
theorem sumK2 {F G : Int → Int} {l l' : List Int} {m : Nat} (h : ∀ k, k < m → F (l'[k]?.getD 0) = G (l[k]?.getD 0)) : sumK F l' m = sumK G l m := by
  induction m with
  | zero => rfl
  | succ k ih =>
    have e1 : sumK F l' (k + 1) = sumK F l' k + F (l'[k]?.getD 0) := rfl
    have e2 : sumK G l (k + 1) = sumK G l k + G (l[k]?.getD 0) := rfl
    rw [e1, e2, ih (fun j hj => h j (by omega)), h k (by omega)]
theorem sumK_add (F G : Int → Int) (l : List Int) (k : Nat) : sumK (fun i => F i + G i) l k = sumK F l k + sumK G l k := by
  induction k with
  | zero => rfl
  | succ k ih =>
    have e1 : sumK (fun i => F i + G i) l (k + 1) = sumK (fun i => F i + G i) l k + (F (l[k]?.getD 0) + G (l[k]?.getD 0)) := rfl
    have e2 : sumK F l (k + 1) = sumK F l k + F (l[k]?.getD 0) := rfl
    have e3 : sumK G l (k + 1) = sumK G l k + G (l[k]?.getD 0) := rfl
    rw [e1, e2, e3, ih]; omega
theorem psum_moved (hlm : l.length = m) (hf : 1 ≤ W ∧ W ≤ 100 ∧ 1 ≤ H ∧ H ≤ 100 ∧ (n : Int) = W * H) (hx : 0 ≤ dx) (hy : 0 ≤ dy) (hN : (N : Int) = (W + dx) * (H + dy)) (hin : ∀ k, k < m → 0 ≤ l[k]?.getD 0 ∧ l[k]?.getD 0 < n) (hdis : ∀ i j, i < j → j < m → l[i]?.getD 0 < l[j]?.getD 0) :
    psum (movP W dx dy ps l N m) (movd W dx dy l m) = psum ps l := by
  unfold psum
  rw [movd_length, hlm]
  refine sumK2 (fun k hk => ?_)
  rw [movd_get hk, pix_moved hf hx hy hN hin hdis hk]
theorem mean1_moved {u u' : Int → Int} {a : Int} (hlm : l.length = m) (hf : 1 ≤ W ∧ W ≤ 100 ∧ 1 ≤ H ∧ H ≤ 100 ∧ (n : Int) = W * H) (hx : 0 ≤ dx) (hy : 0 ≤ dy) (hN : (N : Int) = (W + dx) * (H + dy)) (hin : ∀ k, k < m → 0 ≤ l[k]?.getD 0 ∧ l[k]?.getD 0 < n) (hdis : ∀ i j, i < j → j < m → l[i]?.getD 0 < l[j]?.getD 0) (hs : 0 < psum ps l) (hu : ∀ i : Int, 0 ≤ i → i < (n : Int) → u' (mov W dx dy i) = u i + a) :
    mean1 u' (movP W dx dy ps l N m) (movd W dx dy l m) = mean1 u ps l + a := by
  unfold mean1
  rw [psum_moved hlm hf hx hy hN hin hdis, movd_length, hlm]
  have h : sumK (fun i => u' i * pix (movP W dx dy ps l N m) i) (movd W dx dy l m) m = sumK (fun i => u i * pix ps i) l m + psum ps l * a := by
    unfold psum
    rw [hlm, ← sumK_mul, ← sumK_add]
    refine sumK2 (fun k hk => ?_)
    rw [movd_get hk, pix_moved hf hx hy hN hin hdis hk, hu _ (hin k hk).1 (hin k hk).2, Int.add_mul, Int.mul_comm a]
  rw [h]
  have h0 : ((psum ps l : Int) : Rat) ≠ 0 := by
    intro h; have : psum ps l = 0 := by exact_mod_cast h
    omega
  generalize psum ps l = s at *
  simp only [Rat.divInt_eq_div, Rat.intCast_add, Rat.intCast_mul]
  grind
theorem mean2_moved {u u' v v' : Int → Int} {a b : Int} (hlm : l.length = m) (hf : 1 ≤ W ∧ W ≤ 100 ∧ 1 ≤ H ∧ H ≤ 100 ∧ (n : Int) = W * H) (hx : 0 ≤ dx) (hy : 0 ≤ dy) (hN : (N : Int) = (W + dx) * (H + dy)) (hin : ∀ k, k < m → 0 ≤ l[k]?.getD 0 ∧ l[k]?.getD 0 < n) (hdis : ∀ i j, i < j → j < m → l[i]?.getD 0 < l[j]?.getD 0) (hs : 0 < psum ps l) (hu : ∀ i : Int, 0 ≤ i → i < (n : Int) → u' (mov W dx dy i) = u i + a) (hv : ∀ i : Int, 0 ≤ i → i < (n : Int) → v' (mov W dx dy i) = v i + b) :
    mean2 u' v' (movP W dx dy ps l N m) (movd W dx dy l m) = mean2 u v ps l + mean1 u ps l * b + mean1 v ps l * a + (a : Rat) * b := by
  unfold mean2 mean1
  rw [psum_moved hlm hf hx hy hN hin hdis, movd_length, hlm]
  have h : sumK (fun i => u' i * v' i * pix (movP W dx dy ps l N m) i) (movd W dx dy l m) m = sumK (fun i => u i * v i * pix ps i) l m + sumK (fun i => u i * pix ps i) l m * b + sumK (fun i => v i * pix ps i) l m * a + psum ps l * (a * b) := by
    unfold psum
    rw [hlm, ← sumK_mul, ← sumK_mul, ← sumK_mul, ← sumK_add, ← sumK_add, ← sumK_add]
    refine sumK2 (fun k hk => ?_)
    rw [movd_get hk, pix_moved hf hx hy hN hin hdis hk, hu _ (hin k hk).1 (hin k hk).2, hv _ (hin k hk).1 (hin k hk).2]
    grind
  rw [h]
  have h0 : ((psum ps l : Int) : Rat) ≠ 0 := by
    intro h; have : psum ps l = 0 := by exact_mod_cast h
    omega
  generalize psum ps l = s at *
  simp only [Rat.divInt_eq_div, Rat.intCast_add, Rat.intCast_mul]
  grind
/-- The second moments are the same. -/
theorem central_moved {u u' v v' : Int → Int} {a b : Int} (hlm : l.length = m) (hf : 1 ≤ W ∧ W ≤ 100 ∧ 1 ≤ H ∧ H ≤ 100 ∧ (n : Int) = W * H) (hx : 0 ≤ dx) (hy : 0 ≤ dy) (hN : (N : Int) = (W + dx) * (H + dy)) (hin : ∀ k, k < m → 0 ≤ l[k]?.getD 0 ∧ l[k]?.getD 0 < n) (hdis : ∀ i j, i < j → j < m → l[i]?.getD 0 < l[j]?.getD 0) (hs : 0 < psum ps l) (hu : ∀ i : Int, 0 ≤ i → i < (n : Int) → u' (mov W dx dy i) = u i + a) (hv : ∀ i : Int, 0 ≤ i → i < (n : Int) → v' (mov W dx dy i) = v i + b) :
    central u' v' (movP W dx dy ps l N m) (movd W dx dy l m) = central u v ps l := by
  unfold central
  rw [mean1_moved hlm hf hx hy hN hin hdis hs hu, mean1_moved hlm hf hx hy hN hin hdis hs hv, mean2_moved hlm hf hx hy hN hin hdis hs hu hv]
  grind
/-- The moments of the moved field. -/
theorem mom_moved (hlm : l.length = m) (hf : 1 ≤ W ∧ W ≤ 100 ∧ 1 ≤ H ∧ H ≤ 100 ∧ (n : Int) = W * H) (hx : 0 ≤ dx) (hy : 0 ≤ dy) (hN : (N : Int) = (W + dx) * (H + dy)) (hin : ∀ k, k < m → 0 ≤ l[k]?.getD 0 ∧ l[k]?.getD 0 < n) (hdis : ∀ i j, i < j → j < m → l[i]?.getD 0 < l[j]?.getD 0) (hs : 0 < psum ps l) :
    momOf (W + dx) (movP W dx dy ps l N m) (movd W dx dy l m) = ⟨psum ps l, prQ (mean1 (colv W) ps l + dx), prQ (mean1 (rowv W) ps l + dy), prQ (central (colv W) (colv W) ps l), prQ (central (colv W) (rowv W) ps l), prQ (central (rowv W) (rowv W) ps l)⟩ := by
  have hc : ∀ i, 0 ≤ i → i < (n : Int) → colv (W + dx) (mov W dx dy i) = colv W i + dx := fun i h0 h1 => (mov_facts hf hx hy h0 h1).2.2.1
  have hr : ∀ i, 0 ≤ i → i < (n : Int) → rowv (W + dx) (mov W dx dy i) = rowv W i + dy := fun i h0 h1 => (mov_facts hf hx hy h0 h1).2.2.2.1
  unfold momOf
  rw [psum_moved hlm hf hx hy hN hin hdis, mean1_moved hlm hf hx hy hN hin hdis hs hc, mean1_moved hlm hf hx hy hN hin hdis hs hr, central_moved hlm hf hx hy hN hin hdis hs hc hc, central_moved hlm hf hx hy hN hin hdis hs hc hr, central_moved hlm hf hx hy hN hin hdis hs hr hr]
/-- The moved list and field are valid. -/
theorem start_moved (hm0 : 0 < m) (hpl : ps.length = n) (hff : fieldOk W H n ps = true) (hx : 0 ≤ dx) (hy : 0 ≤ dy) (hW : W + dx ≤ 100) (hH : H + dy ≤ 100) (hN : (N : Int) = (W + dx) * (H + dy)) (hin : ∀ k, k < m → 0 ≤ l[k]?.getD 0 ∧ l[k]?.getD 0 < n) (hdis : ∀ i j, i < j → j < m → l[i]?.getD 0 < l[j]?.getD 0) :
    startE (W + dx) (H + dy) N (movP W dx dy ps l N m) (movd W dx dy l m) = 0 := by
  have hf := fieldOk_size hff
  have hl : listed (movd W dx dy l m) N = true := by
    refine listed_of (by rw [movd_length]; exact hm0) (fun k hk => ?_) (fun i k hik hk => ?_)
    · rw [movd_length] at hk
      rw [movd_get hk]
      have a := mov_facts (dx := dx) (dy := dy) hf hx hy (hin k hk).1 (hin k hk).2
      omega
    · rw [movd_length] at hk
      rw [movd_get hk, movd_get (by omega)]
      exact mov_lt hf hx hy (hin i (by omega)).1 (hdis i k hik hk) (hin k hk).2
  have hp : fieldOk (W + dx) (H + dy) N (movP W dx dy ps l N m) = true := by
    simp only [fieldOk, Bool.and_eq_true] at hff ⊢
    have hb : ∀ x ∈ ps, -4294967296 ≤ x ∧ x ≤ 4294967296 := fun x hx => by
      obtain ⟨k, hk, rfl⟩ := List.getElem_of_mem hx
      have := okPix_good hff.2 (k := k) (by omega)
      rw [List.getElem?_eq_getElem hk] at this
      exact this
    have hb2 := movP_mem (W := W) (dx := dx) (dy := dy) (l := l) (N := N) (P := fun x => -4294967296 ≤ x ∧ x ≤ 4294967296) (by omega) hb m
    refine ⟨?_, ?_⟩
    · unfold sizeOk
      simp only [Bool.and_eq_true, decide_eq_true_eq, Bool.not_eq_true', decide_eq_false_iff_not]
      omega
    · have hk : ∀ k, k ≤ N → okPix (movP W dx dy ps l N m) k = true := by
        intro k
        induction k with
        | zero => intro _; rfl
        | succ k ih =>
          intro hk
          simp only [okPix, Bool.and_eq_true]
          refine ⟨ih (by omega), ?_⟩
          have hl : k < (movP W dx dy ps l N m).length := by rw [movP_length]; omega
          have := hb2 _ (List.getElem_mem hl)
          rw [List.getElem?_eq_getElem hl]
          simp only [inPix, Bool.and_eq_true, decide_eq_true_eq]
          exact this
      exact hk N (Nat.le_refl _)
  unfold startE
  rw [if_pos hp, if_pos hl]
end

/-- No pixel of the list is negative, to k. -/
def posK (ps l : List Int) : Nat → Bool
  | 0 => true
  | k + 1 => posK ps l k && decide (0 ≤ ps[(l[k]?.getD 0).toNat]?.getD 0)
theorem posK_all {ps l : List Int} {m k : Nat} (h : posK ps l m = true) (hk : k < m) : 0 ≤ pix ps (l[k]?.getD 0) := by
  induction m with
  | zero => omega
  | succ m ih =>
    simp only [posK, Bool.and_eq_true, decide_eq_true_eq] at h
    by_cases e : k = m
    · subst e; exact h.2
    · exact ih h.1 (by omega)
theorem sumK_nonneg {F : Int → Int} {l : List Int} {m : Nat} (h : ∀ k, k < m → 0 ≤ F (l[k]?.getD 0)) : 0 ≤ sumK F l m := by
  induction m with
  | zero => exact Int.le_refl _
  | succ k ih =>
    have e1 : sumK F l (k + 1) = sumK F l k + F (l[k]?.getD 0) := rfl
    have := ih (fun j hj => h j (by omega))
    have := h k (by omega)
    omega
theorem sumK_mono {F G : Int → Int} {l : List Int} {m : Nat} (h : ∀ k, k < m → F (l[k]?.getD 0) ≤ G (l[k]?.getD 0)) : sumK F l m ≤ sumK G l m := by
  induction m with
  | zero => exact Int.le_refl _
  | succ k ih =>
    have e1 : sumK F l (k + 1) = sumK F l k + F (l[k]?.getD 0) := rfl
    have e2 : sumK G l (k + 1) = sumK G l k + G (l[k]?.getD 0) := rfl
    have := ih (fun j hj => h j (by omega))
    have := h k (by omega)
    omega
/-- With pixels that are not negative the mean is between the ends. -/
theorem mean_in {u : Int → Int} {ps l : List Int} {m : Nat} {U : Int} (hlm : l.length = m) (hu : ∀ k, k < m → 0 ≤ u (l[k]?.getD 0) ∧ u (l[k]?.getD 0) ≤ U) (hp : posK ps l m = true) (hs : 0 < psum ps l) :
    Rat.divInt 0 1 ≤ mean1 u ps l ∧ mean1 u ps l ≤ Rat.divInt U 1 := by
  have h1 : 0 ≤ sumK (fun i => u i * pix ps i) l m := sumK_nonneg (fun k hk => Int.mul_nonneg (hu k hk).1 (posK_all hp hk))
  have h2 : sumK (fun i => u i * pix ps i) l m ≤ sumK (fun i => pix ps i * U) l m := sumK_mono (fun k hk => by
    have := Int.mul_le_mul_of_nonneg_right (hu k hk).2 (posK_all hp hk)
    rw [Int.mul_comm U] at this
    exact this)
  rw [sumK_mul] at h2
  unfold psum at hs
  unfold mean1 psum
  rw [hlm] at hs ⊢
  exact ⟨divInt_le' (by omega) hs (by omega), divInt_le' hs (by omega) (by rw [Int.mul_comm U]; simpa using h2)⟩
end Go.Proofs.Ytkippclhbkjbmaa

namespace Go.Proofs.Ytkippclhbkjbmaa
open Go.RowKit

/-- The operations that have come up: those of l, and the new variables f1, f2 if they have. -/
def cn (f1 f2 : Nat) (l : Array Bool) (s1 s2 : Bool) : Array Bool :=
  let l := if s1 then l.setIfInBounds f1 true else l
  if s2 then l.setIfInBounds f2 true else l
theorem cn_call {f1 f2 c : Nat} {l : Array Bool} {s1 s2 : Bool} (h1 : c ≠ f1) (h2 : c ≠ f2) : (cn f1 f2 l s1 s2).setIfInBounds c true = cn f1 f2 (l.setIfInBounds c true) s1 s2 := by
  cases s1 <;> cases s2 <;> simp only [cn, if_true, Bool.false_eq_true, if_false]
  · rw [Array.setIfInBounds_comm _ _ (Ne.symm h2)]
  · rw [Array.setIfInBounds_comm _ _ (Ne.symm h1)]
  · rw [Array.setIfInBounds_comm _ _ (Ne.symm h2), Array.setIfInBounds_comm _ _ (Ne.symm h1)]
theorem cn_one {f1 f2 : Nat} {l : Array Bool} {s2 : Bool} (h : f1 ≠ f2) : (cn f1 f2 l false s2).setIfInBounds f1 true = cn f1 f2 l true s2 := by
  cases s2 <;> simp only [cn, if_true, Bool.false_eq_true, if_false]
  rw [Array.setIfInBounds_comm _ _ (Ne.symm h)]
theorem cn_two {f1 f2 : Nat} {l : Array Bool} {s1 : Bool} : (cn f1 f2 l s1 false).setIfInBounds f2 true = cn f1 f2 l s1 true := by
  cases s1 <;> simp only [cn, if_true, Bool.false_eq_true, if_false]

def okOne (md : Region.Mode) (ops : Array Oper) (f1 f2 : Nat) (h : Option Nat) (l : Array Bool) (s1 s2 : Bool) : Bool :=
  let r := Region.ready md ops (cn f1 f2 l s1 s2)
  !r.isEmpty && r.all fun i => (h == some i) || (i == f1 && !s1) || (i == f2 && !s2)
def okFree (md : Region.Mode) (ops : Array Oper) (f1 f2 : Nat) : List Nat → Array Bool → Bool
  | [], l => okOne md ops f1 f2 none l false false && okOne md ops f1 f2 none l false true && okOne md ops f1 f2 none l true false
  | c :: cs, l => okOne md ops f1 f2 (some c) l false false && okOne md ops f1 f2 (some c) l false true && okOne md ops f1 f2 (some c) l true false && okOne md ops f1 f2 (some c) l true true && c != f1 && c != f2 && okFree md ops f1 f2 cs (l.setIfInBounds c true)
theorem okFree_head {md : Region.Mode} {ops : Array Oper} {f1 f2 : Nat} {cs : List Nat} {l : Array Bool} (h : okFree md ops f1 f2 cs l = true) {s1 s2 : Bool} (hn : cs = [] → s1 = true → s2 = true → False) : okOne md ops f1 f2 cs.head? l s1 s2 = true := by
  cases cs with
  | nil =>
    simp only [okFree, Bool.and_eq_true] at h
    cases s1 <;> cases s2
    · exact h.1.1
    · exact h.1.2
    · exact h.2
    · exact (hn rfl rfl rfl).elim
  | cons c cs =>
    simp only [okFree, Bool.and_eq_true] at h
    cases s1 <;> cases s2
    · exact h.1.1.1.1.1.1
    · exact h.1.1.1.1.1.2
    · exact h.1.1.1.1.2
    · exact h.1.1.1.2

def puts (d1 d2 : Nat) (a : Act) (u1 u2 : Value) : Act := (a.put (some d1) u1).put (some d2) u2

/-- A block that none of the calls has made. -/
def Apart (I : List (Nat × Nat)) (g : Nat) : Prop := ∀ p ∈ I, ¬ (p.1 ≤ g ∧ g < p.2)

/-- The walk over the chain; I: the blocks that the calls so far have made, from .. to. -/
def Chain (P : Program) (ops : Array Oper) (Q : Exit → Act → World → Prop) (md : Region.Mode) (L : List Nat) (S : World → Prop) (f1 f2 d1 d2 F : Nat) (t1 t2 : TypeId) (z1 z2 : Array Value) (base : Nat) : List Nat → List (Nat × Nat) → Array Bool → Act → World → Prop
  | [], I, l, a, w => ∀ g1 g2 w', Below w.heap.size w w' → Blk w' g1 t1 z1 → Blk w' g2 t2 z2 → base ≤ g1 → base ≤ g2 → g1 ≠ g2 → Apart I g1 → Apart I g2 →
      wpAnyL P md ops Q L S F (cn f1 f2 l true true) (puts d1 d2 a (.pointer (some ⟨g1, 0, none⟩)) (.pointer (some ⟨g2, 0, none⟩))) w'
  | c :: cs, I, l, a, w => ∀ u1 u2 w', Below w.heap.size w w' →
      wpOp P ops Q c (fun a2 w2 => (a2.tmps[d1]? = some u1 ∧ a2.tmps[d2]? = some u2 ∧ Below w'.heap.size w' w2) ∧ Chain P ops Q md L S f1 f2 d1 d2 F t1 t2 z1 z2 base cs ((w'.heap.size, w2.heap.size) :: I) (l.setIfInBounds c true) a2 w2) (puts d1 d2 a u1 u2) w'

theorem put_self {t : Array Value} {d : Nat} {u : Value} (h : t[d]? = some u) : t.setIfInBounds d u = t := by
  apply Array.ext
  · simp
  · intro i h1 h2
    rw [Array.getElem_setIfInBounds (by simpa using h1)]
    split
    · rename_i e
      subst e
      rw [Array.getElem?_eq_getElem h2] at h
      injection h with h
      exact h.symm
    · rfl
theorem puts_self {a : Act} {d1 d2 : Nat} {u1 u2 : Value} (h1 : a.tmps[d1]? = some u1) (h2 : a.tmps[d2]? = some u2) : a = puts d1 d2 a u1 u2 := by
  cases a with
  | mk t ds =>
    simp only [puts, Act.put] at *
    rw [put_self h1, put_self h2]
theorem puts_one {a : Act} {d1 d2 : Nat} {u1 u2 v : Value} (h : d1 ≠ d2) : (puts d1 d2 a u1 u2).put (some d1) v = puts d1 d2 a v u2 := by
  simp only [puts, Act.put]
  rw [Array.setIfInBounds_comm _ _ (Ne.symm h), Array.setIfInBounds_setIfInBounds]
theorem puts_two {a : Act} {d1 d2 : Nat} {u1 u2 v : Value} : (puts d1 d2 a u1 u2).put (some d2) v = puts d1 d2 a u1 v := by
  simp only [puts, Act.put]
  rw [Array.setIfInBounds_setIfInBounds]

section
variable {P : Program} {ops : Array Oper} {Q : Exit → Act → World → Prop} {md : Region.Mode} {L : List Nat} {S : World → Prop} {f1 f2 d1 d2 F : Nat} {t1 t2 : TypeId} {z1 z2 : Array Value}

theorem two_aux (hne : f1 ≠ f2) (hde : d1 ≠ d2) {w00 : World} (hS : ∀ w, Below w00.heap.size w00 w → S w)
    (hA1 : ∀ (K : Act → World → Prop) (a : Act) (w : World), K (a.put (some d1) (.pointer (some ⟨w.heap.size, 0, none⟩))) (w.alloc (.cells z1 t1)) → wpOp P ops Q f1 K a w)
    (hA2 : ∀ (K : Act → World → Prop) (a : Act) (w : World), K (a.put (some d2) (.pointer (some ⟨w.heap.size, 0, none⟩))) (w.alloc (.cells z2 t2)) → wpOp P ops Q f2 K a w) :
    ∀ (n : Nat) (cs : List Nat) (I : List (Nat × Nat)) (l : Array Bool) (s1 s2 : Bool) (a0 : Act) (w0 w : World) (x1 x2 : Value) (g1 g2 : Nat), n = cs.length + (if s1 then 0 else 1) + (if s2 then 0 else 1) → okFree md ops f1 f2 cs l = true →
      Chain P ops Q md L S f1 f2 d1 d2 F t1 t2 z1 z2 w00.heap.size cs I l a0 w0 → Below w0.heap.size w0 w → Below w00.heap.size w00 w → (∀ p ∈ I, p.2 ≤ w.heap.size) →
      (s1 = true → x1 = .pointer (some ⟨g1, 0, none⟩) ∧ Blk w g1 t1 z1 ∧ w00.heap.size ≤ g1 ∧ Apart I g1) → (s2 = true → x2 = .pointer (some ⟨g2, 0, none⟩) ∧ Blk w g2 t2 z2 ∧ w00.heap.size ≤ g2 ∧ Apart I g2) → (s1 = true → s2 = true → g1 ≠ g2) →
      wpAnyL P md ops Q L S (n + F) (cn f1 f2 l s1 s2) (puts d1 d2 a0 x1 x2) w := by
  intro n
  induction n with
  | zero =>
    intro cs I l s1 s2 a0 w0 w x1 x2 g1 g2 hn hok hC hb hb0 hI h1 h2 h12
    have hs1 : s1 = true := by
      cases s1
      · exfalso; simp only [Bool.false_eq_true, if_false] at hn; omega
      · rfl
    have hs2 : s2 = true := by
      cases s2
      · exfalso; simp only [Bool.false_eq_true, if_false] at hn; omega
      · rfl
    subst hs1 hs2
    obtain ⟨rfl, k1, j1, i1⟩ := h1 rfl
    obtain ⟨rfl, k2, j2, i2⟩ := h2 rfl
    cases cs with
    | nil => rw [Nat.zero_add]; exact hC g1 g2 w hb k1 k2 j1 j2 (h12 rfl rfl) i1 i2
    | cons c cs => simp at hn
  | succ n ih =>
    intro cs I l s1 s2 a0 w0 w x1 x2 g1 g2 hn hok hC hb hb0 hI h1 h2 h12
    have hone := okFree_head hok (s1 := s1) (s2 := s2) (fun e1 e2 e3 => by subst e1 e2 e3; simp at hn)
    simp only [okOne, Bool.and_eq_true, List.all_eq_true] at hone
    rw [Nat.add_right_comm]
    refine ⟨fun h0 => by rw [h0] at hone; simp at hone, fun i hi => ?_⟩
    have hi2 := hone.2 i hi
    have hb0s := hb0.size
    simp only [Bool.or_eq_true, Bool.and_eq_true, beq_iff_eq] at hi2
    rcases hi2 with (hi2 | ⟨rfl, hs⟩) | ⟨rfl, hs⟩
    · cases cs with
      | nil => cases hi2
      | cons c cs =>
        simp only [List.head?_cons, Option.some.injEq] at hi2
        subst hi2
        simp only [okFree, Bool.and_eq_true, bne_iff_ne, ne_eq] at hok
        have hc1 := hok.1.1.2
        have hc2 := hok.1.2
        refine wpOp_mono (fun a2 w2 h => ?_) (hC x1 x2 w hb)
        obtain ⟨⟨e1, e2, hb2⟩, hC2⟩ := h
        have hb02 := hb0.trans (hb2.mono hb0s)
        have hsz := hb2.size
        refine ⟨fun _ => hS _ hb02, ?_⟩
        rw [cn_call hc1 hc2]
        have hap : ∀ {g : Nat}, Apart I g → g < w.heap.size → Apart ((w.heap.size, w2.heap.size) :: I) g := fun h hg p hp => by
          rcases List.mem_cons.1 hp with rfl | hp
          · intro h'; have := h'.1; simp at this; omega
          · exact h p hp
        have hr := ih cs ((w.heap.size, w2.heap.size) :: I) (l.setIfInBounds c true) s1 s2 a2 w2 w2 x1 x2 g1 g2 (by simp only [List.length_cons] at hn; omega) hok.2 hC2 (Below.refl _ _) hb02
          (fun p hp => by
            rcases List.mem_cons.1 hp with rfl | hp
            · exact Nat.le_refl _
            · exact Nat.le_trans (hI p hp) hsz)
          (fun e => ⟨(h1 e).1, (h1 e).2.1.below hb2 (h1 e).2.1.lt, (h1 e).2.2.1, hap (h1 e).2.2.2 (h1 e).2.1.lt⟩) (fun e => ⟨(h2 e).1, (h2 e).2.1.below hb2 (h2 e).2.1.lt, (h2 e).2.2.1, hap (h2 e).2.2.2 (h2 e).2.1.lt⟩) h12
        rw [← puts_self e1 e2] at hr
        exact hr
    · have hs1 : s1 = false := by simpa using hs
      subst hs1
      refine hA1 _ _ _ ⟨fun _ => hS _ (hb0.alloc hb0s _), ?_⟩
      rw [cn_one hne, puts_one hde]
      refine ih cs I l true s2 a0 w0 _ _ x2 w.heap.size g2 (by simp at hn ⊢; omega) hok hC (hb.alloc hb.size _) (hb0.alloc hb0s _) (fun p hp => by have := hI p hp; simp; omega) (fun _ => ⟨rfl, Blk.new _ _ _, hb0s, fun p hp h => by have := hI p hp; omega⟩) (fun e => ⟨(h2 e).1, (h2 e).2.1.alloc _, (h2 e).2.2⟩) (fun _ e => by have := (h2 e).2.1.lt; omega)
    · have hs2 : s2 = false := by simpa using hs
      subst hs2
      refine hA2 _ _ _ ⟨fun _ => hS _ (hb0.alloc hb0s _), ?_⟩
      rw [cn_two, puts_two]
      refine ih cs I l s1 true a0 w0 _ x1 _ g1 w.heap.size (by simp at hn ⊢; omega) hok hC (hb.alloc hb.size _) (hb0.alloc hb0s _) (fun p hp => by have := hI p hp; simp; omega) (fun e => ⟨(h1 e).1, (h1 e).2.1.alloc _, (h1 e).2.2⟩) (fun _ => ⟨rfl, Blk.new _ _ _, hb0s, fun p hp h => by have := hI p hp; omega⟩) (fun e _ => by have := (h1 e).2.1.lt; omega)

theorem wpAnyL_free2 {l : Array Bool} {a : Act} {w : World} (f1 f2 d1 d2 F : Nat) (t1 t2 : TypeId) (z1 z2 : Array Value) (cs : List Nat) (hne : f1 ≠ f2) (hde : d1 ≠ d2) (hok : okFree md ops f1 f2 cs l = true) (e1 : d1 < a.tmps.size) (e2 : d2 < a.tmps.size) (hS : ∀ w', Below w.heap.size w w' → S w')
    (hA1 : ∀ (K : Act → World → Prop) (a : Act) (w : World), K (a.put (some d1) (.pointer (some ⟨w.heap.size, 0, none⟩))) (w.alloc (.cells z1 t1)) → wpOp P ops Q f1 K a w)
    (hA2 : ∀ (K : Act → World → Prop) (a : Act) (w : World), K (a.put (some d2) (.pointer (some ⟨w.heap.size, 0, none⟩))) (w.alloc (.cells z2 t2)) → wpOp P ops Q f2 K a w)
    (h : Chain P ops Q md L S f1 f2 d1 d2 F t1 t2 z1 z2 w.heap.size cs [] l a w) : wpAnyL P md ops Q L S (cs.length + 1 + 1 + F) l a w := by
  have := two_aux (md := md) (L := L) (F := F) hne hde hS hA1 hA2 (cs.length + 1 + 1) cs [] l false false a w w (a.tmps[d1]) (a.tmps[d2]) 0 0 rfl hok h (Below.refl _ _) (Below.refl _ _) (fun p hp => by cases hp) (fun e => by cases e) (fun e => by cases e) (fun e => by cases e)
  rw [← puts_self (Array.getElem?_eq_getElem e1) (Array.getElem?_eq_getElem e2)] at this
  exact this
theorem wpOp_shut {i : Nat} {o : Oper} {K : Act → World → Prop} {a : Act} {w : World} (ho : ops[i]? = some o)
    (h : ∀ K' : Act → World → Prop, Shut (∀ a w, K a w → K' a w) → if Region.wanted o (yielded ops a.tmps) = true then Oper.wp P o a w K' Q else K' (a.put o.dst undef) w) : wpOp P ops Q i K a w :=
  wpOp_step ho (fun K' hK => h K' hK)
theorem chain_cons {base : Nat} {c : Nat} {cs : List Nat} {I : List (Nat × Nat)} {l : Array Bool} {a : Act} {w : World}
    (h : ∀ u1 u2 w', Below w.heap.size w w' → wpOp P ops Q c (fun a2 w2 => (a2.tmps[d1]? = some u1 ∧ a2.tmps[d2]? = some u2 ∧ Below w'.heap.size w' w2) ∧ Chain P ops Q md L S f1 f2 d1 d2 F t1 t2 z1 z2 base cs ((w'.heap.size, w2.heap.size) :: I) (l.setIfInBounds c true) a2 w2) (puts d1 d2 a u1 u2) w') :
    Chain P ops Q md L S f1 f2 d1 d2 F t1 t2 z1 z2 base (c :: cs) I l a w := h
theorem chain_nil {base : Nat} {I : List (Nat × Nat)} {l : Array Bool} {a : Act} {w : World}
    (h : ∀ g1 g2 w', Below w.heap.size w w' → Blk w' g1 t1 z1 → Blk w' g2 t2 z2 → base ≤ g1 → base ≤ g2 → g1 ≠ g2 → Apart I g1 → Apart I g2 → wpAnyL P md ops Q L S F (cn f1 f2 l true true) (puts d1 d2 a (.pointer (some ⟨g1, 0, none⟩)) (.pointer (some ⟨g2, 0, none⟩))) w') :
    Chain P ops Q md L S f1 f2 d1 d2 F t1 t2 z1 z2 base [] I l a w := h
end
end Go.Proofs.Ytkippclhbkjbmaa

namespace Go.Proofs.Ytkippclhbkjbmaa
open Go.RowKit

section
variable {P : Program} {ops : Array Oper} {Q : Exit → Act → World → Prop} {md : Region.Mode} {L : List Nat} {S : World → Prop}
theorem wpAnyL_pair {l : Array Bool} {a : Act} {w : World} (i j d1 d2 F : Nat) (t1 t2 : TypeId) (v1 v2 : Nat → Value) (z1 z2 : Array Value) (hne : i ≠ j) (hde : d1 ≠ d2)
    (r0 : Region.ready md ops l = [i, j]) (r1 : Region.ready md ops (l.setIfInBounds i true) = [j]) (r2 : Region.ready md ops (l.setIfInBounds j true) = [i]) (e1 : d1 < a.tmps.size) (e2 : d2 < a.tmps.size) (hS : ∀ w', Below w.heap.size w w' → S w')
    (hA1 : ∀ (K : Act → World → Prop) (u1 u2 : Value) (w : World), K (puts d1 d2 a (v1 w.heap.size) u2) (w.alloc (.cells z1 t1)) → wpOp P ops Q i K (puts d1 d2 a u1 u2) w)
    (hA2 : ∀ (K : Act → World → Prop) (u1 u2 : Value) (w : World), K (puts d1 d2 a u1 (v2 w.heap.size)) (w.alloc (.cells z2 t2)) → wpOp P ops Q j K (puts d1 d2 a u1 u2) w)
    (h : ∀ g1 g2 w', Below w.heap.size w w' → Blk w' g1 t1 z1 → Blk w' g2 t2 z2 → w.heap.size ≤ g1 → w.heap.size ≤ g2 → g1 ≠ g2 → g1 < w'.heap.size ∧ g2 < w'.heap.size → wpAnyL P md ops Q L S F ((l.setIfInBounds i true).setIfInBounds j true) (puts d1 d2 a (v1 g1) (v2 g2)) w') :
    wpAnyL P md ops Q L S (F + 1 + 1) l a w := by
  have key : wpAnyL P md ops Q L S (F + 1 + 1) l (puts d1 d2 a (a.tmps[d1]) (a.tmps[d2])) w := by
    refine ⟨(fun h0 => by rw [r0] at h0; cases h0), fun k hk => ?_⟩
    rw [r0] at hk
    have b1 := fun o => (Below.refl w.heap.size w).alloc (Nat.le_refl _) o
    have b2 := fun o o' => (b1 o).alloc (show w.heap.size ≤ (w.alloc o).heap.size by simp) o'
    rcases List.mem_cons.1 hk with e | e
    · subst e
      refine hA1 _ _ _ _ ⟨fun _ => hS _ (b1 _), (fun h0 => by rw [r1] at h0; cases h0), fun k hk => ?_⟩
      rw [r1, List.mem_singleton] at hk
      subst hk
      refine hA2 _ _ _ _ ⟨fun _ => hS _ (b2 _ _), ?_⟩
      exact h _ _ _ (b2 _ _) ((Blk.new _ _ _).alloc _) (Blk.new _ _ _) (Nat.le_refl _) (by simp) (by simp) (by simp; omega)
    · rw [List.mem_singleton] at e
      subst e
      refine hA2 _ _ _ _ ⟨fun _ => hS _ (b1 _), (fun h0 => by rw [r2] at h0; cases h0), fun k hk => ?_⟩
      rw [r2, List.mem_singleton] at hk
      subst hk
      refine hA1 _ _ _ _ ⟨fun _ => hS _ (b2 _ _), ?_⟩
      rw [Array.setIfInBounds_comm _ _ (Ne.symm hne)]
      exact h _ _ _ (b2 _ _) (Blk.new _ _ _) ((Blk.new _ _ _).alloc _) (by simp) (Nat.le_refl _) (by simp) (by simp; omega)
  rw [← puts_self (Array.getElem?_eq_getElem e1) (Array.getElem?_eq_getElem e2)] at key
  exact key

def puts3 (d1 d2 d3 : Nat) (a : Act) (x y z : Value) : Act := (puts d1 d2 a x y).put (some d3) z
theorem puts3_self {a : Act} {d1 d2 d3 : Nat} (h1 : d1 < a.tmps.size) (h2 : d2 < a.tmps.size) (h3 : d3 < a.tmps.size) : a = puts3 d1 d2 d3 a (a.tmps[d1]) (a.tmps[d2]) (a.tmps[d3]) := by
  have e := puts_self (Array.getElem?_eq_getElem h1) (Array.getElem?_eq_getElem h2)
  unfold puts3
  rw [← e]
  cases a with
  | mk t ds =>
    simp only [Act.put] at *
    rw [put_self (Array.getElem?_eq_getElem h3)]
/-- The same with a third operation that waits for the first alone and makes no block. -/
theorem wpAnyL_trio {l : Array Bool} {a : Act} {w : World} (i j k d1 d2 d3 F : Nat) (t1 t2 : TypeId) (v1 v2 f : Nat → Value) (z1 z2 : Array Value) (hij : i ≠ j) (hkj : k ≠ j)
    (r0 : Region.ready md ops l = [i, j]) (r1 : Region.ready md ops (l.setIfInBounds i true) = [k, j]) (r13 : Region.ready md ops ((l.setIfInBounds i true).setIfInBounds k true) = [j]) (r2 : Region.ready md ops (l.setIfInBounds j true) = [i]) (r12 : Region.ready md ops ((l.setIfInBounds i true).setIfInBounds j true) = [k])
    (e1 : d1 < a.tmps.size) (e2 : d2 < a.tmps.size) (e3 : d3 < a.tmps.size) (hS : ∀ w', Below w.heap.size w w' → S w')
    (hA1 : ∀ (K : Act → World → Prop) (x y z : Value) (w : World), K (puts3 d1 d2 d3 a (v1 w.heap.size) y z) (w.alloc (.cells z1 t1)) → wpOp P ops Q i K (puts3 d1 d2 d3 a x y z) w)
    (hA2 : ∀ (K : Act → World → Prop) (x y z : Value) (w : World), K (puts3 d1 d2 d3 a x (v2 w.heap.size) z) (w.alloc (.cells z2 t2)) → wpOp P ops Q j K (puts3 d1 d2 d3 a x y z) w)
    (hA3 : ∀ (K : Act → World → Prop) (g : Nat) (y z : Value) (w : World), K (puts3 d1 d2 d3 a (v1 g) y (f g)) w → wpOp P ops Q k K (puts3 d1 d2 d3 a (v1 g) y z) w)
    (h : ∀ g1 g2 w', Below w.heap.size w w' → Blk w' g1 t1 z1 → Blk w' g2 t2 z2 → w.heap.size ≤ g1 → w.heap.size ≤ g2 → g1 ≠ g2 → g1 < w'.heap.size ∧ g2 < w'.heap.size → wpAnyL P md ops Q L S F (((l.setIfInBounds i true).setIfInBounds j true).setIfInBounds k true) (puts3 d1 d2 d3 a (v1 g1) (v2 g2) (f g1)) w') :
    wpAnyL P md ops Q L S (F + 1 + 1 + 1) l a w := by
  have key : wpAnyL P md ops Q L S (F + 1 + 1 + 1) l (puts3 d1 d2 d3 a (a.tmps[d1]) (a.tmps[d2]) (a.tmps[d3])) w := by
    have b1 := fun o => (Below.refl w.heap.size w).alloc (Nat.le_refl _) o
    have b2 := fun o o' => (b1 o).alloc (show w.heap.size ≤ (w.alloc o).heap.size by simp) o'
    refine ⟨(fun h0 => by rw [r0] at h0; cases h0), fun n hn => ?_⟩
    rw [r0] at hn
    rcases List.mem_cons.1 hn with e | e
    · subst e
      refine hA1 _ _ _ _ _ ⟨fun _ => hS _ (b1 _), (fun h0 => by rw [r1] at h0; cases h0), fun n hn => ?_⟩
      rw [r1] at hn
      rcases List.mem_cons.1 hn with e | e
      · subst e
        refine hA3 _ _ _ _ _ ⟨fun _ => hS _ (b1 _), (fun h0 => by rw [r13] at h0; cases h0), fun n hn => ?_⟩
        rw [r13, List.mem_singleton] at hn
        subst hn
        refine hA2 _ _ _ _ _ ⟨fun _ => hS _ (b2 _ _), ?_⟩
        rw [Array.setIfInBounds_comm _ _ hkj]
        exact h _ _ _ (b2 _ _) ((Blk.new _ _ _).alloc _) (Blk.new _ _ _) (Nat.le_refl _) (by simp) (by simp) (by simp; omega)
      · rw [List.mem_singleton] at e
        subst e
        refine hA2 _ _ _ _ _ ⟨fun _ => hS _ (b2 _ _), (fun h0 => by rw [r12] at h0; cases h0), fun n hn => ?_⟩
        rw [r12, List.mem_singleton] at hn
        subst hn
        refine hA3 _ _ _ _ _ ⟨fun _ => hS _ (b2 _ _), ?_⟩
        exact h _ _ _ (b2 _ _) ((Blk.new _ _ _).alloc _) (Blk.new _ _ _) (Nat.le_refl _) (by simp) (by simp) (by simp; omega)
    · rw [List.mem_singleton] at e
      subst e
      refine hA2 _ _ _ _ _ ⟨fun _ => hS _ (b1 _), (fun h0 => by rw [r2] at h0; cases h0), fun n hn => ?_⟩
      rw [r2, List.mem_singleton] at hn
      subst hn
      have e12 : (l.setIfInBounds _ true).setIfInBounds _ true = (l.setIfInBounds _ true).setIfInBounds _ true := Array.setIfInBounds_comm true true (Ne.symm hij)
      refine hA1 _ _ _ _ _ ⟨fun _ => hS _ (b2 _ _), ?_⟩
      rw [e12]
      refine ⟨(fun h0 => by rw [r12] at h0; cases h0), fun n hn => ?_⟩
      rw [r12, List.mem_singleton] at hn
      subst hn
      refine hA3 _ _ _ _ _ ⟨fun _ => hS _ (b2 _ _), ?_⟩
      exact h _ _ _ (b2 _ _) (Blk.new _ _ _) ((Blk.new _ _ _).alloc _) (by simp) (Nat.le_refl _) (by simp) (by simp; omega)
  rw [← puts3_self e1 e2 e3] at key
  exact key

theorem puts3_one {a : Act} {d1 d2 d3 : Nat} {x y z v : Value} (h : d1 ≠ d2) (h3 : d1 ≠ d3) : (puts3 d1 d2 d3 a x y z).put (some d1) v = puts3 d1 d2 d3 a v y z := by
  simp only [puts3, puts, Act.put]
  rw [Array.setIfInBounds_comm _ _ (Ne.symm h3), Array.setIfInBounds_comm _ _ (Ne.symm h), Array.setIfInBounds_setIfInBounds]
theorem puts3_two {a : Act} {d1 d2 d3 : Nat} {x y z v : Value} (h3 : d2 ≠ d3) : (puts3 d1 d2 d3 a x y z).put (some d2) v = puts3 d1 d2 d3 a x v z := by
  simp only [puts3, puts, Act.put]
  rw [Array.setIfInBounds_comm _ _ (Ne.symm h3), Array.setIfInBounds_setIfInBounds]
theorem puts3_three {a : Act} {d1 d2 d3 : Nat} {x y z v : Value} : (puts3 d1 d2 d3 a x y z).put (some d3) v = puts3 d1 d2 d3 a x y v := by
  simp only [puts3, puts, Act.put]
  rw [Array.setIfInBounds_setIfInBounds]
theorem puts3_at {a : Act} {d1 d2 d3 : Nat} {x y z : Value} (h : d1 ≠ d2) (h3 : d1 ≠ d3) (e : d1 < a.tmps.size) : (puts3 d1 d2 d3 a x y z).tmps[d1]?.getD undef = x := by
  show (((a.tmps.setIfInBounds d1 x).setIfInBounds d2 y).setIfInBounds d3 z)[d1]?.getD undef = x
  simp [Array.getElem?_setIfInBounds, h.symm, h3.symm, e]
/-- The same; G: what the operations read of the slots. -/
theorem wpAnyL_trioG {l : Array Bool} {a : Act} {w : World} (i j k d1 d2 d3 F : Nat) (t1 t2 : TypeId) (v1 v2 f : Nat → Value) (z1 z2 : Array Value) (G : Act → Prop) (hG : ∀ x y z, G (puts3 d1 d2 d3 a x y z)) (hij : i ≠ j) (hkj : k ≠ j) (h12 : d1 ≠ d2) (h13 : d1 ≠ d3) (h23 : d2 ≠ d3)
    (r0 : Region.ready md ops l = [i, j]) (r1 : Region.ready md ops (l.setIfInBounds i true) = [k, j]) (r13 : Region.ready md ops ((l.setIfInBounds i true).setIfInBounds k true) = [j]) (r2 : Region.ready md ops (l.setIfInBounds j true) = [i]) (r12 : Region.ready md ops ((l.setIfInBounds i true).setIfInBounds j true) = [k])
    (e1 : d1 < a.tmps.size) (e2 : d2 < a.tmps.size) (e3 : d3 < a.tmps.size) (hS : ∀ w', Below w.heap.size w w' → S w')
    (hA1 : ∀ (K : Act → World → Prop) (a : Act) (w : World), G a → K (a.put (some d1) (v1 w.heap.size)) (w.alloc (.cells z1 t1)) → wpOp P ops Q i K a w)
    (hA2 : ∀ (K : Act → World → Prop) (a : Act) (w : World), K (a.put (some d2) (v2 w.heap.size)) (w.alloc (.cells z2 t2)) → wpOp P ops Q j K a w)
    (hA3 : ∀ (K : Act → World → Prop) (a : Act) (g : Nat) (w : World), G a → a.tmps[d1]?.getD undef = v1 g → K (a.put (some d3) (f g)) w → wpOp P ops Q k K a w)
    (h : ∀ g1 g2 w', Below w.heap.size w w' → Blk w' g1 t1 z1 → Blk w' g2 t2 z2 → w.heap.size ≤ g1 → w.heap.size ≤ g2 → g1 ≠ g2 → g1 < w'.heap.size ∧ g2 < w'.heap.size → wpAnyL P md ops Q L S F (((l.setIfInBounds i true).setIfInBounds j true).setIfInBounds k true) (puts3 d1 d2 d3 a (v1 g1) (v2 g2) (f g1)) w') :
    wpAnyL P md ops Q L S (F + 1 + 1 + 1) l a w :=
  wpAnyL_trio i j k d1 d2 d3 F t1 t2 v1 v2 f z1 z2 hij hkj r0 r1 r13 r2 r12 e1 e2 e3 hS
    (fun K x y z w h => hA1 K _ w (hG x y z) (by rw [puts3_one h12 h13]; exact h))
    (fun K x y z w h => hA2 K _ w (by rw [puts3_two h23]; exact h))
    (fun K g y z w h => hA3 K _ g w (hG _ _ _) (puts3_at h12 h13 e1) (by rw [puts3_three]; exact h)) h
end
end Go.Proofs.Ytkippclhbkjbmaa

namespace Go.Proofs.Ytkippclhbkjbmaa
open Go.RowKit

theorem infoL : (Try.prog.info? 2).map (fun i => (i.zero, i.size, i.bytes)) = some (some (.int .i64 0), 1, 8) := by kernel_rfl
theorem infoL2 : (Try.prog.info? 3).map (fun i => (i.zero, i.size, i.bytes)) = some (some (.int .i64 0), 1, 8) := by kernel_rfl
theorem makeL {P : Program} (t e : TypeId) {i : TypeInfo} (ht : P.underlying t = some (.slice e)) (hi : P.info? e = some i) (hz : i.zero = some (.int .i64 0)) (hs : i.size = 1) (hb : i.bytes = 8)
    (n : Nat) (hn : n ≤ 1000000) (W : World) :
    (Instr.makeSlice t (.int .i64 n) (.int .i64 n)).run P W = .ok (.slice (some ⟨W.heap.size, 0, none⟩) n n) (W.alloc (.cells (List.replicate n (Value.int .i64 0)).toArray e)) := by
  have hr := run_make (P := P) W t e i (.int .i64 0) ht hi hz .i64 .i64 n n (by omega) (by omega) (by rw [hb]; omega) (by omega)
  simp only [Int.toNat_natCast] at hr
  rw [hr]
  have : madeCells (Value.int .i64 0).cells (n * i.size) = (List.replicate n (Value.int .i64 0)).toArray := by
    rw [hs, Nat.mul_one]
    apply Array.toList_inj.1
    rw [show (Value.int .i64 0).cells = #[.int .i64 0] from rfl, toList_madeCells_one]
  rw [this]
theorem MutI.of_rep {w : World} {g N : Nat} {t : TypeId} (h : Blk w g t (List.replicate N (Value.int .i64 0)).toArray) : MutI w g (List.replicate N 0) := fun k hk => by
  rw [List.length_replicate] at hk
  refine ⟨?_, h.frozen k⟩
  rw [h.cell]
  simp [hk]
theorem MutI.belowB {w w' : World} {g B : Nat} {l : List Int} (h : MutI w g l) (hg : g < B) (hb : Below B w w') : MutI w' g l := fun k hk =>
  ⟨(hb.cell hg).trans (h k hk).1, (hb.frozen hg).trans (h k hk).2⟩
theorem row_geL {w : World} {base : Nat} {e : TypeId} {size n : Nat} {v : Value} {xs : List Value} (h : w.ownsRow base e size v n xs) : ∀ k, v.ownBlock = some k → base ≤ k := by
  intro k hk
  rcases h.2 with ⟨hv, -⟩ | ⟨g, cap, cur, hv, hg, -⟩
  · rw [hv] at hk; cases hk
  · rw [hv] at hk
    have : g = k := by injection hk
    omega
theorem nameL {α : Sort _} (x : α) {p : Prop} (h : ∀ y, x = y → p) : p := h x rfl
theorem wrI {x : Int} (h : x.natAbs ≤ 9000000000000000000) : IntKind.i64.wrap x = x := by rw [IntKind.wrap_i64]; omega
theorem mov_wrap {W dx dy W2 j : Int} {s : Nat} (hj : 0 ≤ j) (hW2 : W + dx = W2) (h : mov W dx dy j = s) (h1 : 0 ≤ (j / W + dy) * (W + dx)) (h2 : 0 ≤ j / W) (h3 : j / W + dy ≤ 1000) (h4 : 0 ≤ j % W) (h5 : 0 ≤ dx) (h6 : 0 ≤ dy) (hs : (s : Int) < 100000) :
    IntKind.i64.wrap (IntKind.i64.wrap (IntKind.i64.wrap (IntKind.i64.wrap (IntKind.i64.wrap (j / W) + dy) * W2) + j.tmod W) + dx) = (s : Int) := by
  rw [Int.tmod_eq_emod_of_nonneg hj]
  unfold mov at h
  rw [← hW2]
  rw [wrI (x := j / W) (by omega), wrI (x := j / W + dy) (by omega)]
  generalize (j / W + dy) * (W + dx) = X at *
  generalize j % W = Y at *
  rw [wrI (x := X) (by omega), wrI (x := X + Y) (by omega), h, wrI (by omega)]
theorem sm100 {a b : Int} (h0 : 0 < b) (h1 : a.natAbs ≤ 100) (h2 : b.natAbs ≤ 100) : Sm (Rat.divInt a b) := by
  have h : 100 < pw 1 := by rw [pw_succ, pw_zero]; decide
  exact (SmN.div (i := 1) (j := 1) h0 (by omega) (by omega)).sm (by omega) (by omega)
theorem mean1_smN {u : Int → Int} {ps l : List Int} {n m : Nat} (hlm : l.length = m) (hr : Rng ps l n m) (hu : ∀ j, j < m → (u (l[j]?.getD 0)).natAbs ≤ 99) (hm : m ≤ 40) (hs : 0 < psum ps l) : SmN 2 2 (mean1 u ps l) := by
  unfold mean1
  have a : (sumK (fun i => u i * pix ps i) l l.length).natAbs ≤ 40 * (99 * 8589934592) := by
    rw [hlm]
    exact sumK_rng2 (m := m) (fun j hj => by rw [Int.natAbs_mul]; exact Nat.mul_le_mul (hu j hj) (by have := hr j hj; omega)) (Nat.le_refl _) hm
  have b : (psum ps l).natAbs ≤ 40 * 8589934592 := by
    unfold psum
    rw [hlm]
    exact sumK_rng2 (m := m) (fun j hj => by have := hr j hj; omega) (Nat.le_refl _) hm
  exact SmN.div hs (i64_pw2 (Nat.le_trans a (by omega))) (i64_pw2 (Nat.le_trans b (by omega)))
/-- The mean moved is small. -/
theorem add_sm {q : Rat} {d : Int} (h : SmN 2 2 q) (hd : d.natAbs ≤ 100) : Sm (q + (d : Rat)) := by
  have h1 : 100 < pw 1 := by rw [pw_succ, pw_zero]; decide
  exact (h.add (SmN.int (i := 1) (by omega))).sm (by omega) (by omega)
theorem add_sub_int (q : Rat) (d : Int) : q + (d : Rat) - q = (d : Rat) := by grind
theorem prQ_int (d : Int) : prQ (Rat.divInt d 1) = prQ (d : Rat) := by rw [Rat.divInt_eq_div]; congr 1; grind
/-- Small fractions within a box. -/
theorem box_in {a b c d x y : Rat} (h1 : a ≤ x) (h2 : x ≤ b) (h3 : c ≤ y) (h4 : y ≤ d) : accB [decide (cmpQ a x ≤ 0), decide (cmpQ x b ≤ 0), decide (cmpQ c y ≤ 0), decide (cmpQ y d ≤ 0)] 4 = true := by
  simp [accB, cmpQ_le, h1, h2, h3, h4]
end Go.Proofs.Ytkippclhbkjbmaa

namespace Go.Proofs.Ytkippclhbkjbmaa
open Go.RowKit
attribute [local go_sem] add_lit

theorem setCells_far : ∀ (vs : List Value) (w : World) (g o g' : Nat), g' ≠ g → (w.setCells g o vs).heap[g']? = w.heap[g']?
  | [], _, _, _, _, _ => rfl
  | v :: vs, w, g, o, g', h => by
    simp only [World.setCells]
    rw [setCells_far vs _ g (o + 1) g' h]
    exact Below.heap_setCell _ ⟨g, o, none⟩ _ g' h
theorem LimI.heap {w W : World} {g n c : Nat} {l : List Int} (h : LimI w (some ⟨g, 0, none⟩) n c l) (hb : W.heap[g]? = w.heap[g]?) : LimI W (some ⟨g, 0, none⟩) n c l := by
  obtain ⟨h1, h2, h3, h4, h5⟩ := h
  refine ⟨h1, h2, h3, h4, fun hn => ?_⟩
  obtain ⟨g1, o1, e, hc⟩ := h5 hn
  injection e with e
  injection e with e1 e2
  subst e1 e2
  exact ⟨g, 0, rfl, fun k hk => (World.cell?_of_block (a := ⟨g, 0 + k, none⟩) hb).trans (hc k hk)⟩
theorem LimI.lt {w : World} {g n c : Nat} {l : List Int} (h : LimI w (some ⟨g, 0, none⟩) n c l) (hn : 0 < n) : g < w.heap.size := by
  obtain ⟨h1, h2, h3, h4, h5⟩ := h
  obtain ⟨g1, o1, e, hc⟩ := h5 hn
  injection e with e
  injection e with e1 e2
  subst e1 e2
  exact lt_of_cell (hc 0 hn)

theorem loopQ_sm {cmp : Rat → Rat → Int} {q : Nat → Rat} (h : ∀ f, Sm (q f)) (k : Nat) : Sm (loopQ cmp q k) := by
  induction k with
  | zero => exact h 0
  | succ k ih =>
    unfold loopQ
    split
    · exact h _
    · exact ih

/-- The variables of the least and the greatest mean, before round f. -/
def EV (w : World) (g h f : Nat) (L M : Rat) : Prop :=
  (f = 0 ∧ Blk w g 29 #[.bool false, .slice none 0 0, .bool false, .slice none 0 0] ∧ Blk w h 29 #[.bool false, .slice none 0 0, .bool false, .slice none 0 0]) ∨ (0 < f ∧ FracV w g L ∧ FracV w h M)
theorem EV.lt {w : World} {g h f : Nat} {L M : Rat} (e : EV w g h f L M) : g < w.heap.size ∧ h < w.heap.size := by
  rcases e with ⟨-, a, b⟩ | ⟨-, a, b⟩
  · exact ⟨a.lt, b.lt⟩
  · exact ⟨a.lt, b.lt⟩
theorem EV.below {w w' : World} {g h f : Nat} {L M : Rat} (e : EV w g h f L M) (hb : Below w.heap.size w w') : EV w' g h f L M := by
  rcases e with ⟨e0, a, b⟩ | ⟨e0, a, b⟩
  · exact .inl ⟨e0, keep_blk hb a, keep_blk hb b⟩
  · exact .inr ⟨e0, a.below hb, b.below hb⟩
theorem EV.step {w w' : World} {g h f k : Nat} {L M : Rat} (e : EV w g h f L M) (hs : StepN w w' k) (h1 : g ≠ k) (h2 : h ≠ k) : EV w' g h f L M := by
  rcases e with ⟨e0, a, b⟩ | ⟨e0, a, b⟩
  · exact .inl ⟨e0, hs.2.1 _ _ _ h1 a, hs.2.1 _ _ _ h2 b⟩
  · exact .inr ⟨e0, a.keep hs.1 (fun _ => hs.2.1 _ _ _ h1), b.keep hs.1 (fun _ => hs.2.1 _ _ _ h2)⟩

end Go.Proofs.Ytkippclhbkjbmaa
