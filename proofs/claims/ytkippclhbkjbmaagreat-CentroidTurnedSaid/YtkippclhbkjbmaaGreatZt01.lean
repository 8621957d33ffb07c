/- The law's words: valid. The field with columns and rows exchanged, the field multiplied: sums and moments (plain). The field with columns and rows exchanged, the field multiplied: moments (plain). The law's body: CentroidTurned returns true. -/
import Derived.Laws.Rows
import Derived.Test.YtkippclhbkjbmaaGreatZh52
import Derived.Test.YtkippclhbkjbmaaGreatZh35
import Derived.Test.YtkippclhbkjbmaaGreatZh42
import Derived.Test.YtkippclhbkjbmaaGreatZh49
import Derived.Test.YtkippclhbkjbmaaGreatZh48
import Derived.Test.YtkippclhbkjbmaaGreatZh51
set_option linter.unusedSimpArgs false
set_option linter.unusedVariables false

namespace Go.Proofs.YtkippclhbkjbmaaGreat
open Go.RowKit
attribute [local go_sem] add_lit

set_option maxRecDepth 100000 in
set_option maxHeartbeats 1000000 in
theorem valid_any (W H : Int) (A : Option Addr) (n c : Nat) (B : Option Addr) (m d : Nat) (ps l : List Int) (w : World) (hp : LimI w A n c ps) (hl : LimI w B m d l) (iW : I64 W) (iH : I64 H) (b : Bool) (hb : (!(decide (100 < (n : Int)) || decide (40 < (m : Int))) && decide (startE W H n ps l = 0)) = b) :
    Calls Tryz.prog 20 #[.agg #[.int .i64 W, .int .i64 H, .slice A n c], .slice B m d] w fun e w' => e = .returned (.bool b) ∧ Below w.heap.size w w' := by
  obtain ⟨W0, hW0, hB, q0, s0⟩ := alloc1 w 24 #[.int .i64 W, .int .i64 H, .slice A n c]
  have c0 := q0.cell 0
  have c1 := q0.cell 1
  have c2 := q0.cell 2
  simp at c0 c1 c2
  replace hp := hide (hp.below hB)
  replace hl := hide (hl.below hB)
  obtain ⟨x, hx⟩ : ∃ x, (decide (100 < (n : Int)) || decide (40 < (m : Int))) = x := ⟨_, rfl⟩
  rw [hx] at hb
  go_enter Tryz.func20, Tryz.ntmps20
  go_wp2_with fail
  refine (greatL_ok W H A n c B m d W0 x hx).mono ?_
  rintro e w1 ⟨rfl, hbw⟩
  replace hB := hB.trans (hbw.mono hB.size)
  replace q0 := keep_blk hbw q0
  replace hp := hide (hp.out.below hbw)
  replace hl := hide (hl.out.below hbw)
  clear c0 c1 c2 hW0 hbw
  cases x
  case true =>
    obtain rfl : b = false := by rw [← hb]; rfl
    go_wp2_with fail
    go_ret
    exact ⟨rfl, hB⟩
  have c0 := q0.cell 0
  have c1 := q0.cell 1
  have c2 := q0.cell 2
  simp at c0 c1 c2
  simp at hx
  obtain ⟨E, hE⟩ : ∃ E, startE W H n ps l = E := ⟨_, rfl⟩
  rw [hE] at hb
  go_wp2_with fail
  refine (rStart_ok W H A n c B m d ps l w1 hp.out hl.out (by omega) (by omega) iW iH E hE).mono ?_
  rintro e w2 ⟨rfl, hbw⟩
  replace hB := hB.trans (hbw.mono hB.size)
  clear hE
  by_cases hz : E = 0
  · have tz : (E == 0) = true := by simpa using hz
    obtain rfl : b = true := by rw [← hb]; simpa using hz
    go_wp2_with fail
    go_ret
    exact ⟨rfl, hB⟩
  · have tz : (E == 0) = false := by simpa using hz
    obtain rfl : b = false := by rw [← hb]; simpa using hz
    go_wp2_with fail
    go_ret
    exact ⟨rfl, hB⟩
end Go.Proofs.YtkippclhbkjbmaaGreat

namespace Go.Proofs.YtkippclhbkjbmaaGreat
open Go.RowKit

/-- The place of a pixel in the field with columns and rows exchanged. -/
def sig (W H i : Int) : Int := i % W * H + i / W

section
variable {W H i : Int} {n : Nat}
theorem sig_facts (hf : 1 ≤ W ∧ W ≤ 100 ∧ 1 ≤ H ∧ H ≤ 100 ∧ (n : Int) = W * H) (h0 : 0 ≤ i) (h1 : i < n) :
    0 ≤ sig W H i ∧ sig W H i < n ∧ sig W H i % H = i / W ∧ sig W H i / H = i % W ∧ 0 ≤ i % W ∧ i % W < W ∧ 0 ≤ i / W ∧ i / W < H := by
  have hW : 0 < W := by omega
  have hH : 0 < H := by omega
  have a1 := Int.emod_nonneg i (show W ≠ 0 by omega)
  have a2 := Int.emod_lt_of_pos i hW
  have a3 : 0 ≤ i / W := Int.ediv_nonneg h0 (by omega)
  have a4 : i / W < H := by
    rw [Int.ediv_lt_iff_lt_mul hW, Int.mul_comm H W]
    omega
  unfold sig
  generalize i % W = x at *
  generalize i / W = y at *
  have b1 : 0 ≤ x * H := Int.mul_nonneg a1 (by omega)
  have b2 : x * H + H ≤ W * H := by
    have h3 : (x + 1) * H ≤ W * H := Int.mul_le_mul_of_nonneg_right (by omega) (by omega)
    rw [Int.add_mul, Int.one_mul] at h3
    exact h3
  have b3 : (x * H + y) % H = y := by
    rw [Int.add_comm, Int.add_mul_emod_self_right, Int.emod_eq_of_lt a3 a4]
  have b4 : (x * H + y) / H = x := by
    rw [Int.add_comm, Int.add_mul_ediv_right _ _ (show H ≠ 0 by omega), Int.ediv_eq_zero_of_lt a3 a4]
    omega
  exact ⟨by omega, by omega, b3, b4, a1, a2, a3, a4⟩
theorem sig_inj {j : Int} (hf : 1 ≤ W ∧ W ≤ 100 ∧ 1 ≤ H ∧ H ≤ 100 ∧ (n : Int) = W * H) (h0 : 0 ≤ i) (h1 : i < n) (g0 : 0 ≤ j) (g1 : j < n) (h : sig W H i = sig W H j) : i = j := by
  have a := sig_facts hf h0 h1
  have b := sig_facts hf g0 g1
  rw [h] at a
  have e1 : i / W = j / W := by rw [← a.2.2.1, ← b.2.2.1]
  have e2 : i % W = j % W := by rw [← a.2.2.2.1, ← b.2.2.2.1]
  have c1 := Int.mul_ediv_add_emod i W
  have c2 := Int.mul_ediv_add_emod j W
  rw [e1, e2] at c1
  omega
end

/-- The pixels of the turned field, the first k laid. -/
def turnL (W H : Int) (ps : List Int) : Nat → List Int
  | 0 => ps
  | k + 1 => (turnL W H ps k).set (sig W H k).toNat (ps[k]?.getD 0)
theorem turnL_length (W H : Int) (ps : List Int) (k : Nat) : (turnL W H ps k).length = ps.length := by
  induction k with
  | zero => rfl
  | succ k ih => simp [turnL, ih]
theorem turnL_at {W H : Int} {ps : List Int} {n : Nat} (hf : 1 ≤ W ∧ W ≤ 100 ∧ 1 ≤ H ∧ H ≤ 100 ∧ (n : Int) = W * H) (hpl : ps.length = n) {i k : Nat} (hi : i < k) (hk : k ≤ n) : (turnL W H ps k)[(sig W H i).toNat]?.getD 0 = ps[i]?.getD 0 := by
  induction k with
  | zero => omega
  | succ k ih =>
    have a := sig_facts (n := n) hf (show (0 : Int) ≤ (i : Int) by omega) (by omega)
    have b := sig_facts (n := n) hf (show (0 : Int) ≤ (k : Int) by omega) (by omega)
    simp only [turnL]
    by_cases e : i = k
    · subst e
      rw [List.getElem?_set_self (by rw [turnL_length, hpl]; omega)]
      rfl
    · rw [List.getElem?_set_ne (fun h => e (by
        have h2 : sig W H (k : Int) = sig W H (i : Int) := by omega
        have := sig_inj hf (by omega) (by omega) (by omega) (by omega) h2
        omega))]
      exact ih (by omega) (by omega)
theorem turnL_mem {W H : Int} {ps : List Int} {P : Int → Prop} (hp : ∀ x ∈ ps, P x) {k : Nat} (hk : k ≤ ps.length) : ∀ x ∈ turnL W H ps k, P x := by
  induction k with
  | zero => exact hp
  | succ k ih =>
    intro x hx
    rcases List.mem_or_eq_of_mem_set hx with h | h
    · exact ih (by omega) x h
    · rw [h, List.getElem?_eq_getElem (by omega)]
      exact hp _ (List.getElem_mem _)

/-- The pixels multiplied, the first k of them. -/
def moreL (ps : List Int) (t : Int) : Nat → List Int
  | 0 => ps
  | k + 1 => (moreL ps t k).set k (ps[k]?.getD 0 * t)
theorem moreL_length (ps : List Int) (t : Int) (k : Nat) : (moreL ps t k).length = ps.length := by
  induction k with
  | zero => rfl
  | succ k ih => simp [moreL, ih]
theorem moreL_at (ps : List Int) (t : Int) {i k : Nat} (hk : k ≤ ps.length) : (moreL ps t k)[i]?.getD 0 = if i < k then ps[i]?.getD 0 * t else ps[i]?.getD 0 := by
  induction k with
  | zero => simp [moreL]
  | succ k ih =>
    simp only [moreL]
    by_cases e : i = k
    · subst e
      rw [List.getElem?_set_self (by rw [moreL_length]; omega), if_pos (by omega)]
      rfl
    · rw [List.getElem?_set_ne (fun h => e h.symm), ih (by omega)]
      by_cases h : i < k
      · rw [if_pos h, if_pos (by omega)]
      · rw [if_neg h, if_neg (by omega)]
theorem moreL_mem {ps : List Int} {t : Int} {P Q : Int → Prop} (hpq : ∀ x, P x → Q x) (hq : ∀ x, P x → Q (x * t)) (hp : ∀ x ∈ ps, P x) {k : Nat} (hk : k ≤ ps.length) : ∀ x ∈ moreL ps t k, Q x := by
  induction k with
  | zero => exact fun x hx => hpq x (hp x hx)
  | succ k ih =>
    intro x hx
    rcases List.mem_or_eq_of_mem_set hx with h | h
    · exact ih (by omega) x h
    · rw [h, List.getElem?_eq_getElem (by omega)]
      exact hq _ (hp _ (List.getElem_mem _))

/-- The marks of the list's places, the first k of them. -/
def markL (W H : Int) (l : List Int) (n : Nat) : Nat → List Bool
  | 0 => List.replicate n false
  | k + 1 => (markL W H l n k).set (sig W H (l[k]?.getD 0)).toNat true
theorem markL_length (W H : Int) (l : List Int) (n k : Nat) : (markL W H l n k).length = n := by
  induction k with
  | zero => simp [markL]
  | succ k ih => simp [markL, ih]
/-- The marked places below j. -/
def tookL (b : List Bool) : Nat → List Int
  | 0 => []
  | j + 1 => if b[j]?.getD false then tookL b j ++ [(j : Int)] else tookL b j
theorem tookL_lt {b : List Bool} {j : Nat} : ∀ x ∈ tookL b j, 0 ≤ x ∧ x < j := by
  induction j with
  | zero => simp [tookL]
  | succ j ih =>
    intro x hx
    unfold tookL at hx
    split at hx
    · rcases List.mem_append.1 hx with h | h
      · have := ih x h; omega
      · rw [List.mem_singleton] at h; omega
    · have := ih x hx; omega
/-- The sum of F over a list. -/
def sumL (F : Int → Int) : List Int → Int
  | [] => 0
  | x :: l => F x + sumL F l
theorem sumL_append (F : Int → Int) (l l' : List Int) : sumL F (l ++ l') = sumL F l + sumL F l' := by
  induction l with
  | nil => simp [sumL]
  | cons x l ih => simp only [List.cons_append, sumL, ih]; omega
theorem sumK_take (F : Int → Int) (l : List Int) {k : Nat} (hk : k ≤ l.length) : sumK F l k = sumL F (l.take k) := by
  induction k with
  | zero => simp [sumK, sumL]
  | succ k ih =>
    have e : sumK F l (k + 1) = sumK F l k + F (l[k]?.getD 0) := rfl
    rw [e, ih (by omega), List.take_add_one, sumL_append, List.getElem?_eq_getElem (by omega)]
    simp [sumL]
theorem sumK_all (F : Int → Int) (l : List Int) : sumK F l l.length = sumL F l := by
  rw [sumK_take F l (Nat.le_refl _), List.take_length]
/-- The sum over marked places below j. -/
def sumB (F : Int → Int) (b : List Bool) : Nat → Int
  | 0 => 0
  | j + 1 => sumB F b j + (if b[j]?.getD false then F j else 0)
theorem sumL_took (F : Int → Int) (b : List Bool) (j : Nat) : sumL F (tookL b j) = sumB F b j := by
  induction j with
  | zero => rfl
  | succ j ih =>
    unfold tookL sumB
    split
    · rw [sumL_append, ih]; simp [sumL]
    · rw [ih]; omega
theorem sumB_set (F : Int → Int) (b : List Bool) {i : Nat} (hi : i < b.length) (hb : b[i]?.getD false = false) (j : Nat) : sumB F (b.set i true) j = sumB F b j + (if i < j then F i else 0) := by
  induction j with
  | zero => simp [sumB]
  | succ j ih =>
    unfold sumB
    rw [ih]
    by_cases e : i = j
    · subst e
      rw [List.getElem?_set_self hi, hb]
      simp
    · rw [List.getElem?_set_ne e]
      by_cases h : i < j
      · rw [if_pos h, if_pos (show i < j + 1 by omega)]; omega
      · rw [if_neg h, if_neg (show ¬ i < j + 1 by omega)]; omega
theorem sumB_none (F : Int → Int) (n j : Nat) : sumB F (List.replicate n false) j = 0 := by
  induction j with
  | zero => rfl
  | succ j ih =>
    unfold sumB
    rw [ih, List.getElem?_replicate]
    split <;> simp
theorem mark_new {W H : Int} {l : List Int} {n m : Nat} (hf : 1 ≤ W ∧ W ≤ 100 ∧ 1 ≤ H ∧ H ≤ 100 ∧ (n : Int) = W * H) (hin : ∀ k, k < m → 0 ≤ l[k]?.getD 0 ∧ l[k]?.getD 0 < n) (hdis : ∀ i j, i < j → j < m → l[i]?.getD 0 < l[j]?.getD 0) {k : Nat} : ∀ {i : Nat}, k ≤ i → i < m → (markL W H l n k)[(sig W H (l[i]?.getD 0)).toNat]?.getD false = false := by
  induction k with
  | zero =>
    intro i _ _
    simp only [markL]
    rw [List.getElem?_replicate]
    split <;> rfl
  | succ k ih =>
    intro i hki him
    simp only [markL]
    have a := sig_facts hf (hin i him).1 (hin i him).2
    have b := sig_facts hf (hin k (by omega)).1 (hin k (by omega)).2
    rw [List.getElem?_set_ne (fun h => by
      have h2 : sig W H (l[k]?.getD 0) = sig W H (l[i]?.getD 0) := by omega
      have h3 := sig_inj hf (hin k (by omega)).1 (hin k (by omega)).2 (hin i him).1 (hin i him).2 h2
      have h4 := hdis k i (by omega) him
      omega)]
    exact ih (by omega) him
theorem sumB_mark {W H : Int} {l : List Int} {n m : Nat} (F : Int → Int) (hf : 1 ≤ W ∧ W ≤ 100 ∧ 1 ≤ H ∧ H ≤ 100 ∧ (n : Int) = W * H) (hin : ∀ k, k < m → 0 ≤ l[k]?.getD 0 ∧ l[k]?.getD 0 < n) (hdis : ∀ i j, i < j → j < m → l[i]?.getD 0 < l[j]?.getD 0) {k : Nat} (hk : k ≤ m) : sumB F (markL W H l n k) n = sumK (fun i => F (sig W H i)) l k := by
  induction k with
  | zero => simp only [markL, sumK]; exact sumB_none F n n
  | succ k ih =>
    have a := sig_facts hf (hin k (by omega)).1 (hin k (by omega)).2
    have e : sumK (fun i => F (sig W H i)) l (k + 1) = sumK (fun i => F (sig W H i)) l k + F (sig W H (l[k]?.getD 0)) := rfl
    simp only [markL]
    rw [sumB_set F _ (by rw [markL_length]; omega) (mark_new hf hin hdis (Nat.le_refl _) (by omega)), ih (by omega), e, if_pos (by omega)]
    congr 2
    omega
/-- Sums over the turned list. -/
theorem sum_turned {W H : Int} {l : List Int} {n m : Nat} (F : Int → Int) (hf : 1 ≤ W ∧ W ≤ 100 ∧ 1 ≤ H ∧ H ≤ 100 ∧ (n : Int) = W * H) (hin : ∀ k, k < m → 0 ≤ l[k]?.getD 0 ∧ l[k]?.getD 0 < n) (hdis : ∀ i j, i < j → j < m → l[i]?.getD 0 < l[j]?.getD 0) : sumK F (tookL (markL W H l n m) n) (tookL (markL W H l n m) n).length = sumK (fun i => F (sig W H i)) l m := by
  rw [sumK_all, sumL_took, sumB_mark F hf hin hdis (Nat.le_refl _)]
theorem sumK_one (l : List Int) (k : Nat) : sumK (fun _ => 1) l k = k := by
  induction k with
  | zero => rfl
  | succ k ih =>
    have e : sumK (fun _ => 1) l (k + 1) = sumK (fun _ => 1) l k + 1 := rfl
    rw [e, ih]; simp
theorem turned_length {W H : Int} {l : List Int} {n m : Nat} (hf : 1 ≤ W ∧ W ≤ 100 ∧ 1 ≤ H ∧ H ≤ 100 ∧ (n : Int) = W * H) (hin : ∀ k, k < m → 0 ≤ l[k]?.getD 0 ∧ l[k]?.getD 0 < n) (hdis : ∀ i j, i < j → j < m → l[i]?.getD 0 < l[j]?.getD 0) : (tookL (markL W H l n m) n).length = m := by
  have h := sum_turned (fun _ => 1) hf hin hdis
  rw [sumK_one, sumK_one] at h
  omega
theorem sumK_congr' {F G : Int → Int} {l : List Int} {m : Nat} (h : ∀ k, k < m → F (l[k]?.getD 0) = G (l[k]?.getD 0)) : sumK F l m = sumK G l m := by
  induction m with
  | zero => rfl
  | succ k ih =>
    have e1 : sumK F l (k + 1) = sumK F l k + F (l[k]?.getD 0) := rfl
    have e2 : sumK G l (k + 1) = sumK G l k + G (l[k]?.getD 0) := rfl
    rw [e1, e2, ih (fun j hj => h j (by omega)), h k (by omega)]
theorem took_get {b : List Bool} (j : Nat) : ∀ i k, i < k → k < (tookL b j).length → (tookL b j)[i]?.getD 0 < (tookL b j)[k]?.getD 0 := by
  induction j with
  | zero => intro i k _ hk; simp [tookL] at hk
  | succ j ih =>
    intro i k hik hk
    unfold tookL at hk ⊢
    split at hk
    · rename_i hb
      rw [if_pos hb]
      rw [List.length_append, List.length_singleton] at hk
      by_cases e : k < (tookL b j).length
      · rw [List.getElem?_append_left (by omega), List.getElem?_append_left e]
        exact ih i k hik e
      · obtain rfl : k = (tookL b j).length := by omega
        rw [List.getElem?_append_left (by omega), List.getElem?_append_right (Nat.le_refl _), Nat.sub_self, List.getElem?_eq_getElem (by omega)]
        exact (tookL_lt _ (List.getElem_mem _)).2
    · rename_i hb
      rw [if_neg hb]
      exact ih i k hik hk
theorem listed_of {l : List Int} {n : Nat} (h0 : 0 < l.length) (hin : ∀ k, k < l.length → 0 ≤ l[k]?.getD 0 ∧ l[k]?.getD 0 < n) (hinc : ∀ i k, i < k → k < l.length → l[i]?.getD 0 < l[k]?.getD 0) : listed l n = true := by
  have h : ∀ m, m ≤ l.length → listedTo l n m = true := by
    intro m
    induction m with
    | zero => intro _; rfl
    | succ k ih =>
      intro hk
      simp only [listedTo, Bool.and_eq_true]
      refine ⟨ih (by omega), ?_⟩
      have a := hin k (by omega)
      have hb : badAt l n k = false := by
        rw [← Bool.not_eq_true]
        intro hb
        rcases badAt_true.1 hb with h | h | ⟨h, h2⟩
        · omega
        · omega
        · have := hinc (k - 1) k (by omega) (by omega)
          omega
      rw [hb]; rfl
  simp only [listed, Bool.and_eq_true, decide_eq_true_eq]
  exact ⟨h0, h _ (Nat.le_refl _)⟩
theorem turned_listed {W H : Int} {l : List Int} {n m : Nat} (hm0 : 0 < m) (hf : 1 ≤ W ∧ W ≤ 100 ∧ 1 ≤ H ∧ H ≤ 100 ∧ (n : Int) = W * H) (hin : ∀ k, k < m → 0 ≤ l[k]?.getD 0 ∧ l[k]?.getD 0 < n) (hdis : ∀ i j, i < j → j < m → l[i]?.getD 0 < l[j]?.getD 0) : listed (tookL (markL W H l n m) n) n = true := by
  have hl := turned_length hf hin hdis
  refine listed_of (by omega) (fun k hk => ?_) (took_get n)
  rw [List.getElem?_eq_getElem hk]
  exact tookL_lt _ (List.getElem_mem _)
end Go.Proofs.YtkippclhbkjbmaaGreat

namespace Go.Proofs.YtkippclhbkjbmaaGreat
open Go.RowKit

section
variable {W H : Int} {ps l : List Int} {n m : Nat}
theorem pix_turned (hf : 1 ≤ W ∧ W ≤ 100 ∧ 1 ≤ H ∧ H ≤ 100 ∧ (n : Int) = W * H) (hpl : ps.length = n) {i : Int} (h0 : 0 ≤ i) (h1 : i < n) : pix (turnL W H ps n) (sig W H i) = pix ps i := by
  obtain ⟨j, rfl⟩ : ∃ j : Nat, i = j := ⟨i.toNat, by omega⟩
  unfold pix
  rw [turnL_at hf hpl (show j < n by omega) (Nat.le_refl _), Int.toNat_natCast]
theorem sum_turned2 {F F' : Int → Int} (hf : 1 ≤ W ∧ W ≤ 100 ∧ 1 ≤ H ∧ H ≤ 100 ∧ (n : Int) = W * H) (hin : ∀ k, k < m → 0 ≤ l[k]?.getD 0 ∧ l[k]?.getD 0 < n) (hdis : ∀ i j, i < j → j < m → l[i]?.getD 0 < l[j]?.getD 0) (h : ∀ i : Int, 0 ≤ i → i < (n : Int) → F' (sig W H i) = F i) :
    sumK F' (tookL (markL W H l n m) n) (tookL (markL W H l n m) n).length = sumK F l m := by
  rw [sum_turned F' hf hin hdis]
  exact sumK_congr' (fun k hk => h _ (hin k hk).1 (hin k hk).2)
theorem psum_turned (hlm : l.length = m) (hpl : ps.length = n) (hf : 1 ≤ W ∧ W ≤ 100 ∧ 1 ≤ H ∧ H ≤ 100 ∧ (n : Int) = W * H) (hin : ∀ k, k < m → 0 ≤ l[k]?.getD 0 ∧ l[k]?.getD 0 < n) (hdis : ∀ i j, i < j → j < m → l[i]?.getD 0 < l[j]?.getD 0) :
    psum (turnL W H ps n) (tookL (markL W H l n m) n) = psum ps l := by
  unfold psum
  rw [sum_turned2 hf hin hdis (fun i h0 h1 => pix_turned hf hpl h0 h1), hlm]
theorem mean1_turned {u u' : Int → Int} (hlm : l.length = m) (hpl : ps.length = n) (hf : 1 ≤ W ∧ W ≤ 100 ∧ 1 ≤ H ∧ H ≤ 100 ∧ (n : Int) = W * H) (hin : ∀ k, k < m → 0 ≤ l[k]?.getD 0 ∧ l[k]?.getD 0 < n) (hdis : ∀ i j, i < j → j < m → l[i]?.getD 0 < l[j]?.getD 0) (hu : ∀ i : Int, 0 ≤ i → i < (n : Int) → u' (sig W H i) = u i) :
    mean1 u' (turnL W H ps n) (tookL (markL W H l n m) n) = mean1 u ps l := by
  unfold mean1
  rw [psum_turned hlm hpl hf hin hdis, sum_turned2 (F := fun i => u i * pix ps i) hf hin hdis (fun i h0 h1 => by simp only [hu i h0 h1, pix_turned hf hpl h0 h1]), hlm]
theorem mean2_turned {u u' v v' : Int → Int} (hlm : l.length = m) (hpl : ps.length = n) (hf : 1 ≤ W ∧ W ≤ 100 ∧ 1 ≤ H ∧ H ≤ 100 ∧ (n : Int) = W * H) (hin : ∀ k, k < m → 0 ≤ l[k]?.getD 0 ∧ l[k]?.getD 0 < n) (hdis : ∀ i j, i < j → j < m → l[i]?.getD 0 < l[j]?.getD 0) (hu : ∀ i : Int, 0 ≤ i → i < (n : Int) → u' (sig W H i) = u i) (hv : ∀ i : Int, 0 ≤ i → i < (n : Int) → v' (sig W H i) = v i) :
    mean2 u' v' (turnL W H ps n) (tookL (markL W H l n m) n) = mean2 u v ps l := by
  unfold mean2
  rw [psum_turned hlm hpl hf hin hdis, sum_turned2 (F := fun i => u i * v i * pix ps i) hf hin hdis (fun i h0 h1 => by simp only [hu i h0 h1, hv i h0 h1, pix_turned hf hpl h0 h1]), hlm]
/-- The moments with x and y exchanged. -/
def Mom.flip (M : Mom) : Mom := ⟨M.s, M.y, M.x, M.yy, M.xy, M.xx⟩
theorem mom_turned (hlm : l.length = m) (hpl : ps.length = n) (hf : 1 ≤ W ∧ W ≤ 100 ∧ 1 ≤ H ∧ H ≤ 100 ∧ (n : Int) = W * H) (hin : ∀ k, k < m → 0 ≤ l[k]?.getD 0 ∧ l[k]?.getD 0 < n) (hdis : ∀ i j, i < j → j < m → l[i]?.getD 0 < l[j]?.getD 0) :
    momOf H (turnL W H ps n) (tookL (markL W H l n m) n) = (momOf W ps l).flip := by
  have hc : ∀ i, 0 ≤ i → i < (n : Int) → colv H (sig W H i) = rowv W i := fun i h0 h1 => (sig_facts hf h0 h1).2.2.1
  have hr : ∀ i, 0 ≤ i → i < (n : Int) → rowv H (sig W H i) = colv W i := fun i h0 h1 => (sig_facts hf h0 h1).2.2.2.1
  have e : mean2 (rowv W) (colv W) ps l = mean2 (colv W) (rowv W) ps l := by
    unfold mean2
    have h : sumK (fun i => rowv W i * colv W i * pix ps i) l l.length = sumK (fun i => colv W i * rowv W i * pix ps i) l l.length := sumK_congr' (fun k hk => by rw [Int.mul_comm (rowv W _)])
    rw [h]
  simp only [momOf, Mom.flip, central]
  rw [psum_turned hlm hpl hf hin hdis, mean1_turned hlm hpl hf hin hdis hc, mean1_turned hlm hpl hf hin hdis hr, mean2_turned hlm hpl hf hin hdis hc hc, mean2_turned hlm hpl hf hin hdis hc hr, mean2_turned hlm hpl hf hin hdis hr hr, e, Rat.mul_comm (mean1 (rowv W) ps l) (mean1 (colv W) ps l)]

theorem sumK_mul (F : Int → Int) (t : Int) (l : List Int) (k : Nat) : sumK (fun i => F i * t) l k = sumK F l k * t := by
  induction k with
  | zero => simp [sumK]
  | succ k ih =>
    have e1 : sumK (fun i => F i * t) l (k + 1) = sumK (fun i => F i * t) l k + F (l[k]?.getD 0) * t := rfl
    have e2 : sumK F l (k + 1) = sumK F l k + F (l[k]?.getD 0) := rfl
    rw [e1, e2, ih, Int.add_mul]
theorem pix_more (hpl : ps.length = n) {t i : Int} (h0 : 0 ≤ i) (h1 : i < n) : pix (moreL ps t n) i = pix ps i * t := by
  unfold pix
  rw [moreL_at ps t (by omega), if_pos (by omega)]
theorem psum_more (hlm : l.length = m) (hpl : ps.length = n) (hin : ∀ k, k < m → 0 ≤ l[k]?.getD 0 ∧ l[k]?.getD 0 < n) (t : Int) : psum (moreL ps t n) l = psum ps l * t := by
  unfold psum
  rw [hlm, ← sumK_mul]
  exact sumK_congr' (fun k hk => pix_more hpl (hin k hk).1 (hin k hk).2)
theorem mom_more {t : Int} (ht : t ≠ 0) (hlm : l.length = m) (hpl : ps.length = n) (hin : ∀ k, k < m → 0 ≤ l[k]?.getD 0 ∧ l[k]?.getD 0 < n) :
    momOf W (moreL ps t n) l = { momOf W ps l with s := psum ps l * t } := by
  have h1 : ∀ u : Int → Int, mean1 u (moreL ps t n) l = mean1 u ps l := fun u => by
    unfold mean1
    have h : sumK (fun i => u i * pix (moreL ps t n) i) l l.length = sumK (fun i => u i * pix ps i) l l.length * t := by
      rw [← sumK_mul]
      exact sumK_congr' (fun k hk => by rw [pix_more hpl (hin k (by omega)).1 (hin k (by omega)).2]; simp only [Int.mul_assoc])
    rw [psum_more hlm hpl hin, h, Rat.divInt_mul_right ht]
  have h2 : ∀ u v : Int → Int, mean2 u v (moreL ps t n) l = mean2 u v ps l := fun u v => by
    unfold mean2
    have h : sumK (fun i => u i * v i * pix (moreL ps t n) i) l l.length = sumK (fun i => u i * v i * pix ps i) l l.length * t := by
      rw [← sumK_mul]
      exact sumK_congr' (fun k hk => by rw [pix_more hpl (hin k (by omega)).1 (hin k (by omega)).2]; simp only [Int.mul_assoc])
    rw [psum_more hlm hpl hin, h, Rat.divInt_mul_right ht]
  simp only [momOf, central, h1, h2, psum_more hlm hpl hin]
end

theorem fieldOk_turned {W H : Int} {ps : List Int} {n : Nat} (hpl : ps.length = n) (h : fieldOk W H n ps = true) : fieldOk H W n (turnL W H ps n) = true := by
  have hs := fieldOk_size h
  simp only [fieldOk, Bool.and_eq_true] at h ⊢
  have hb : ∀ x ∈ ps, -4294967296 ≤ x ∧ x ≤ 4294967296 := fun x hx => by
    obtain ⟨k, hk, rfl⟩ := List.getElem_of_mem hx
    have := okPix_good h.2 (k := k) (by omega)
    rw [List.getElem?_eq_getElem hk] at this
    exact this
  have hb2 := turnL_mem (W := W) (H := H) hb (show n ≤ ps.length by omega)
  refine ⟨?_, ?_⟩
  · have h1 := h.1
    unfold sizeOk at h1 ⊢
    simp only [Bool.and_eq_true, decide_eq_true_eq, Bool.not_eq_true', decide_eq_false_iff_not] at h1 ⊢
    have e : H * W = W * H := Int.mul_comm H W
    omega
  · have hk : ∀ k, k ≤ n → okPix (turnL W H ps n) k = true := by
      intro k
      induction k with
      | zero => intro _; rfl
      | succ k ih =>
        intro hk
        simp only [okPix, Bool.and_eq_true]
        refine ⟨ih (by omega), ?_⟩
        have hl : k < (turnL W H ps n).length := by rw [turnL_length]; omega
        have := hb2 _ (List.getElem_mem hl)
        rw [List.getElem?_eq_getElem hl]
        simp only [inPix, Bool.and_eq_true, decide_eq_true_eq]
        exact this
    exact hk n (Nat.le_refl _)
end Go.Proofs.YtkippclhbkjbmaaGreat

namespace Go.Proofs.YtkippclhbkjbmaaGreat
open Go.RowKit
attribute [local go_sem] add_lit

theorem infoB : (Tryz.prog.info? 4).map (fun i => (i.zero, i.size, i.bytes)) = some (some (.bool false), 1, 1) := by kernel_rfl
theorem makeB {P : Program} (t e : TypeId) {i : TypeInfo} (ht : P.underlying t = some (.slice e)) (hi : P.info? e = some i) (hz : i.zero = some (.bool false)) (hs : i.size = 1) (hb : i.bytes = 1)
    (n : Nat) (hn : n ≤ 70368744177664) (W : World) :
    (Instr.makeSlice t (.int .i64 n) (.int .i64 n)).run P W = .ok (.slice (some ⟨W.heap.size, 0, none⟩) n n) (W.alloc (.cells (List.replicate n (Value.bool false)).toArray e)) := by
  have hr := run_make (P := P) W t e i (.bool false) ht hi hz .i64 .i64 n n (by omega) (by omega) (by rw [hb]; omega) (by omega)
  simp only [Int.toNat_natCast] at hr
  rw [hr]
  have : madeCells (Value.bool false).cells (n * i.size) = (List.replicate n (Value.bool false)).toArray := by
    rw [hs, Nat.mul_one]
    apply Array.toList_inj.1
    rw [show (Value.bool false).cells = #[.bool false] from rfl, toList_madeCells_one]
  rw [this]
/-- Marks that may be written. -/
def MutB (w : World) (g : Nat) (b : List Bool) : Prop := ∀ k, k < b.length → w.cell? ⟨g, k, none⟩ = some (.bool (b[k]?.getD false)) ∧ w.frozen? ⟨g, k, none⟩ = false
theorem MutB.of_blk {w : World} {g : Nat} {t : TypeId} {cs : Array Value} {b : List Bool} (h : Blk w g t cs) (hb : cs = (b.map Value.bool).toArray) : MutB w g b := fun k hk => by
  subst hb
  refine ⟨?_, h.frozen k⟩
  rw [h.cell]
  simp [List.getElem?_eq_getElem hk]
theorem MutB.set_ {w : World} {g : Nat} {l : List Bool} (h : MutB w g l) (i : Nat) (x : Bool) : MutB (w.setCell ⟨g, i, none⟩ (.bool x)) g (l.set i x) := fun k hk => by
  rw [List.length_set] at hk
  obtain ⟨h1, h2⟩ := h k hk
  refine ⟨?_, ?_⟩
  · by_cases e : k = i
    · subst e
      rw [List.getElem?_set_self hk]
      exact World.cell?_setCell_same _ _ _ h1
    · rw [List.getElem?_set_ne (fun e' => e e'.symm)]
      rw [World.cell?_setCell_other _ _ _ _ (fun e' => by injection e' with _ e2; exact e e2.symm)]
      exact h1
  · rw [← h2]; simp
theorem MutB.drew_ {w : World} {g : Nat} {l : List Bool} (h : MutB w g l) : MutB w.drew g l := h
theorem MutB.below {w w' : World} {g : Nat} {l : List Bool} (h : MutB w g l) (hg : g < w.heap.size) (hb : Below w.heap.size w w') : MutB w' g l := fun k hk =>
  ⟨(hb.cell hg).trans (h k hk).1, (hb.frozen hg).trans (h k hk).2⟩
theorem infoI : (Tryz.prog.info? 3).map (fun i => (i.zero, i.size, i.bytes)) = some (some (.int .i64 0), 1, 8) := by kernel_rfl
theorem tookL_len (b : List Bool) (j : Nat) : (tookL b j).length ≤ j := by
  induction j with
  | zero => simp [tookL]
  | succ j ih =>
    unfold tookL
    split
    · simp; omega
    · omega
theorem row_ge_ {w : World} {base : Nat} {e : TypeId} {size n : Nat} {v : Value} {xs : List Value} (h : w.ownsRow base e size v n xs) : ∀ k, v.ownBlock = some k → base ≤ k := by
  intro k hk
  rcases h.2 with ⟨hv, -⟩ | ⟨g, cap, cur, hv, hg, -⟩
  · rw [hv] at hk; cases hk
  · rw [hv] at hk
    have : g = k := by injection hk
    omega
theorem wpList_load_midG {P : Program} {ops : Array Oper} {rest : List Oper} {op : Oper} {a : Act} {w : World} {Q : Exit → Act → World → Prop} (hw : Region.wanted op (yielded ops a.tmps) = true) (ty : TypeId) (x : Operand) (ho : op.op = .load ty x)
    (b o : Nat) (hx : a.eval x = .pointer (some ⟨b, o, none⟩)) (cs : List Value) (d : TypeDesc) (hc : w.rangeAt b o cs)
    (hu : P.underlying ty = some d) (hd : d.isRow = true) (hi : (P.info? ty).map (·.size) = some cs.length)
    (h : wpList P ops Q rest (a.put op.dst (.agg cs.toArray)) w) : wpList P ops Q (op :: rest) a w :=
  BigFrame.wpList_want hw fun _ hK => wp_load_mid ty x ho b o hx cs d hc hu hd hi (hK _ _ h)
theorem more_if {x t : Int} (ht : 1 ≤ t) : (if x * t ≤ 0 then (18 : Int) else 0) = if x ≤ 0 then 18 else 0 := by
  by_cases h : x ≤ 0
  · rw [if_pos h, if_pos (Int.mul_nonpos_of_nonpos_of_nonneg h (by omega))]
  · rw [if_neg h, if_neg (fun h2 => by have := Int.mul_pos (show 0 < x by omega) (show 0 < t by omega); omega)]
theorem more_mom {W t : Int} (ht : 1 ≤ t) (ps l : List Int) : (if psum ps l * t ≤ 0 then Mom.zero else { momOf W ps l with s := psum ps l * t }) = { (if psum ps l ≤ 0 then Mom.zero else momOf W ps l) with s := (if psum ps l ≤ 0 then Mom.zero else momOf W ps l).s * t } := by
  by_cases h : psum ps l ≤ 0
  · rw [if_pos h, if_pos (Int.mul_nonpos_of_nonpos_of_nonneg h (by omega))]
    simp [Mom.zero]
  · rw [if_neg h, if_neg (fun h2 => by have := Int.mul_pos (show 0 < psum ps l by omega) (show 0 < t by omega); omega)]
    rfl
theorem MomF.keep_ {w W : World} {cs : Array Value} {M : Mom} (h : MomF w cs M) (k : ∀ na A n c z, Wd w na A n c z → Wd W na A n c z) : MomF W cs M := by
  obtain ⟨n0, A0, k0, c0, m0, B0, j0, d0, n1, A1, k1, c1, m1, B1, j1, d1, n2, A2, k2, c2, m2, B2, j2, d2, n3, A3, k3, c3, m3, B3, j3, d3, n4, A4, k4, c4, m4, B4, j4, d4, rfl, h0, h1, h2, h3, h4⟩ := h
  exact ⟨_, _, _, _, _, _, _, _, _, _, _, _, _, _, _, _, _, _, _, _, _, _, _, _, _, _, _, _, _, _, _, _, _, _, _, _, _, _, _, _, rfl, ⟨k _ _ _ _ _ h0.1, k _ _ _ _ _ h0.2⟩, ⟨k _ _ _ _ _ h1.1, k _ _ _ _ _ h1.2⟩, ⟨k _ _ _ _ _ h2.1, k _ _ _ _ _ h2.2⟩, ⟨k _ _ _ _ _ h3.1, k _ _ _ _ _ h3.2⟩, ⟨k _ _ _ _ _ h4.1, k _ _ _ _ _ h4.2⟩⟩
theorem name_ {α : Sort _} (x : α) {p : Prop} (h : ∀ y, x = y → p) : p := h x rfl
theorem sig_wrap {W H k : Int} {s : Nat} (hk : 0 ≤ k) (h : k % W * H + k / W = s) (b1 : 0 ≤ k % W * H) (b2 : 0 ≤ k / W) (hs : (s : Int) < 100000) : IntKind.i64.wrap (IntKind.i64.wrap (k.tmod W * H) + IntKind.i64.wrap (k / W)) = (s : Int) := by
  rw [Int.tmod_eq_emod_of_nonneg hk, IntKind.wrap_i64, IntKind.wrap_i64, IntKind.wrap_i64]
  generalize k % W * H = X at *
  generalize k / W = Y at *
  (try unfold wrap64)
  omega
theorem MutI.drew_ {w : World} {g : Nat} {l : List Int} (h : MutI w g l) : MutI w.drew g l := h
/-- What 'Moments' answers to a valid field and list. -/
def momE' (ps l : List Int) : Int := if psum ps l ≤ 0 then 18 else 0
def momM' (W : Int) (ps l : List Int) : Mom := if psum ps l ≤ 0 then Mom.zero else momOf W ps l
theorem moments_any (W H : Int) (A : Option Addr) (n c : Nat) (B : Option Addr) (m d : Nat) (ps l : List Int) (w : World) (hp : LimI w A n c ps) (hl : LimI w B m d l) (h8 : m ≤ 40) (iW : I64 W) (iH : I64 H) (hE : startE W H n ps l = 0) (E : Int) (M : Mom) (hEE : momE' ps l = E) (hMM : momM' W ps l = M) :
    Calls Tryz.prog 9 #[.agg #[.int .i64 W, .int .i64 H, .slice A n c], .slice B m d] w (MomP w E M) := by
  subst hEE hMM
  unfold momE' momM'
  by_cases hs : psum ps l ≤ 0
  · rw [if_pos hs, if_pos hs]
    exact (moments_good W H A n c B m d ps l w hp hl h8 iW iH hE).mono fun e w' h => h.1 hs
  · rw [if_neg hs, if_neg hs]
    exact (moments_good W H A n c B m d ps l w hp hl h8 iW iH hE).mono fun e w' h => h.2 (by omega)

set_option maxRecDepth 100000 in
set_option maxHeartbeats 16000000 in
theorem law_turned (W H : Int) (A : Option Addr) (n c : Nat) (B : Option Addr) (m d : Nat) (ps l : List Int) (t : Int) (w : World) (hp : LimI w A n c ps) (hl : LimI w B m d l) (iW : I64 W) (iH : I64 H) :
    Calls Tryz.prog 5 #[.agg #[.int .i64 W, .int .i64 H, .slice A n c], .slice B m d, .int .i64 t] w fun e w' => e = .returned (.bool true) ∧ Below w.heap.size w w' := by
  have hmx : Tryz.prog.follows .mixedOrders = true := by kernel_rfl
  obtain ⟨W0, hW0, hB, q0, s0⟩ := alloc1 w 24 #[.int .i64 W, .int .i64 H, .slice A n c]
  have hlm : l.length = m := hl.lenI
  have hpl : ps.length = n := hp.lenI
  replace hp := hide hp
  replace hl := hide hl
  go_enter Tryz.func5, Tryz.ntmps5
  go_wp2_with fail
  refine (alive_ok W0).mono ?_
  rintro e w1 ⟨rfl, hbw⟩
  replace hB := hB.trans (hbw.mono hB.size)
  replace q0 := keep_blk hbw q0
  clear hW0 hbw s0
  have c0 := q0.cell 0
  have c1 := q0.cell 1
  have c2 := q0.cell 2
  simp at c0 c1 c2
  obtain ⟨b, hb⟩ : ∃ b, (!(decide (100 < (n : Int)) || decide (40 < (m : Int))) && decide (startE W H n ps l = 0)) = b := ⟨_, rfl⟩
  go_wp2_with fail
  refine (valid_any W H A n c B m d ps l w1 (hp.out.below hB) (hl.out.below hB) iW iH b hb).mono ?_
  rintro e w2 ⟨rfl, hbw⟩
  replace hB := hB.trans (hbw.mono hB.size)
  replace q0 := keep_blk hbw q0
  clear hbw c0 c1 c2
  cases b
  case false =>
    go_wp2_with fail
    go_ret
    exact ⟨rfl, hB⟩
  simp at hb
  obtain ⟨⟨h9, h8⟩, hE⟩ := hb
  replace h9 : n ≤ 100 := by omega
  replace h8 : m ≤ 40 := by omega
  obtain ⟨hfo, hli⟩ := startE_zero hE
  have hf := fieldOk_size hfo
  have hr := rng_of hfo hli hlm
  have hdis : ∀ i j, i < j → j < m → l[i]?.getD 0 < l[j]?.getD 0 := fun i j hi hj => listed_incr hli i j hi (by omega)
  have hin : ∀ k, k < m → 0 ≤ l[k]?.getD 0 ∧ l[k]?.getD 0 < n := fun k hk => listed_in hli (by omega)
  have hpx : ∀ k, k < n → -4294967296 ≤ ps[k]?.getD 0 ∧ ps[k]?.getD 0 ≤ 4294967296 := fun k hk => by
    have h := fieldOk_pix hfo (i := (k : Int)) (by omega) (by omega)
    unfold pix at h
    simpa using h
  have hm0 : 0 < m := by rw [← hlm]; exact listed_pos hli
  have hn0 : 0 < n := by
    have h := listed_in hli (k := 0) (by omega)
    omega
  replace hlm := hide hlm
  replace hpl := hide hpl
  replace hf := hide hf
  replace hr := hide hr
  replace hdis := hide hdis
  replace hpx := hide hpx
  replace hin := hide hin
  replace hli := hide hli
  replace hfo := hide hfo
  by_cases o1 : t < 1
  · have t1 : decide (t < 1) = true := by simpa using o1
    go_wp2_with fail
    go_ret
    exact ⟨rfl, hB⟩
  have t1 : decide (t < 1) = false := by simpa using o1
  by_cases o2 : 1000 < t
  · have t2 : decide (1000 < t) = true := by simpa using o2
    go_wp2_with fail
    go_ret
    exact ⟨rfl, hB⟩
  have t2 : decide (1000 < t) = false := by simpa using o2
  have c0 := q0.cell 0
  have c1 := q0.cell 1
  have c2 := q0.cell 2
  simp at c0 c1 c2
  obtain ⟨E, hEE⟩ : ∃ E, momE' ps l = E := ⟨_, rfl⟩
  obtain ⟨M, hMM⟩ : ∃ M, momM' W ps l = M := ⟨_, rfl⟩
  go_wp2_with fail
  refine (moments_any W H A n c B m d ps l w2 (hp.out.below hB) (hl.out.below hB) h8 iW iH hE E M hEE hMM).mono ?_
  rintro e w3 ⟨hb3, csM, rfl, hFm⟩
  clear c0 c1 c2
  replace hEE := hide hEE
  replace hMM := hide hMM
  replace hE := hide hE
  replace hB := hB.trans (hb3.mono hB.size)
  replace q0 := keep_blk hb3 q0
  clear hb3
  have hBw3 : w.heap.size ≤ w3.heap.size := hB.size
  obtain ⟨pn0, pA0, pk0, pc0, pm0, pB0, pj0, pd0, pn1, pA1, pk1, pc1, pm1, pB1, pj1, pd1, pn2, pA2, pk2, pc2, pm2, pB2, pj2, pd2, pn3, pA3, pk3, pc3, pm3, pB3, pj3, pd3, pn4, pA4, pk4, pc4, pm4, pB4, pj4, pd4, rfl, f0, f1, f2, f3, f4⟩ := hFm
  have hFm : MomF w3 #[.int .i64 M.s, .bool pn0, .slice pA0 pk0 pc0, .bool pm0, .slice pB0 pj0 pd0, .bool pn1, .slice pA1 pk1 pc1, .bool pm1, .slice pB1 pj1 pd1, .bool pn2, .slice pA2 pk2 pc2, .bool pm2, .slice pB2 pj2 pd2, .bool pn3, .slice pA3 pk3 pc3, .bool pm3, .slice pB3 pj3 pd3, .bool pn4, .slice pA4 pk4 pc4, .bool pm4, .slice pB4 pj4 pd4] M := ⟨_, _, _, _, _, _, _, _, _, _, _, _, _, _, _, _, _, _, _, _, _, _, _, _, _, _, _, _, _, _, _, _, _, _, _, _, _, _, _, _, rfl, f0, f1, f2, f3, f4⟩
  have hFf : MomF w3 #[.int .i64 M.s, .bool pn1, .slice pA1 pk1 pc1, .bool pm1, .slice pB1 pj1 pd1, .bool pn0, .slice pA0 pk0 pc0, .bool pm0, .slice pB0 pj0 pd0, .bool pn4, .slice pA4 pk4 pc4, .bool pm4, .slice pB4 pj4 pd4, .bool pn3, .slice pA3 pk3 pc3, .bool pm3, .slice pB3 pj3 pd3, .bool pn2, .slice pA2 pk2 pc2, .bool pm2, .slice pB2 pj2 pd2] M.flip := ⟨_, _, _, _, _, _, _, _, _, _, _, _, _, _, _, _, _, _, _, _, _, _, _, _, _, _, _, _, _, _, _, _, _, _, _, _, _, _, _, _, rfl, f1, f0, f4, f3, f2⟩
  have hFt : MomF w3 #[.int .i64 (M.s * t), .bool pn0, .slice pA0 pk0 pc0, .bool pm0, .slice pB0 pj0 pd0, .bool pn1, .slice pA1 pk1 pc1, .bool pm1, .slice pB1 pj1 pd1, .bool pn2, .slice pA2 pk2 pc2, .bool pm2, .slice pB2 pj2 pd2, .bool pn3, .slice pA3 pk3 pc3, .bool pm3, .slice pB3 pj3 pd3, .bool pn4, .slice pA4 pk4 pc4, .bool pm4, .slice pB4 pj4 pd4] { M with s := M.s * t } := ⟨_, _, _, _, _, _, _, _, _, _, _, _, _, _, _, _, _, _, _, _, _, _, _, _, _, _, _, _, _, _, _, _, _, _, _, _, _, _, _, _, rfl, f0, f1, f2, f3, f4⟩
  clear f0 f1 f2 f3 f4 hFm
  replace hFf := hide hFf
  replace hFt := hide hFt
  obtain ⟨V3, hV3, hB3, q6, -, -, -⟩ := new_obj 34 #[.int .i64 0, .bool false, .slice none 0 0, .bool false, .slice none 0 0, .bool false, .slice none 0 0, .bool false, .slice none 0 0, .bool false, .slice none 0 0, .bool false, .slice none 0 0, .bool false, .slice none 0 0, .bool false, .slice none 0 0, .bool false, .slice none 0 0, .bool false, .slice none 0 0] (Below.refl w3.heap.size w3) (Nat.le_refl _)
  obtain ⟨V4, hV4, hB4, q8, -⟩ := set_all [.int .i64 M.s, .bool pn0, .slice pA0 pk0 pc0, .bool pm0, .slice pB0 pj0 pd0, .bool pn1, .slice pA1 pk1 pc1, .bool pm1, .slice pB1 pj1 pd1, .bool pn2, .slice pA2 pk2 pc2, .bool pm2, .slice pB2 pj2 pd2, .bool pn3, .slice pA3 pk3 pc3, .bool pm3, .slice pB3 pj3 pd3, .bool pn4, .slice pA4 pk4 pc4, .bool pm4, .slice pB4 pj4 pd4] [.int .i64 0, .bool false, .slice none 0 0, .bool false, .slice none 0 0, .bool false, .slice none 0 0, .bool false, .slice none 0 0, .bool false, .slice none 0 0, .bool false, .slice none 0 0, .bool false, .slice none 0 0, .bool false, .slice none 0 0, .bool false, .slice none 0 0, .bool false, .slice none 0 0] rfl rfl rfl hB3 (Nat.le_refl _) q6
  replace hFf := hide (hFf.out.below hB4)
  replace hFt := hide (hFt.out.below hB4)
  replace hB := hB.trans (hB4.mono hB.size)
  replace q0 := keep_blk hB4 q0
  have hg8 := q8.lt
  have hg8w : w.heap.size ≤ w3.heap.size := hBw3
  go_wp2_with (refine wpList_store_mid rfl 34 _ _ rfl w3.heap.size 0 #[.int .i64 M.s, .bool pn0, .slice pA0 pk0 pc0, .bool pm0, .slice pB0 pj0 pd0, .bool pn1, .slice pA1 pk1 pc1, .bool pm1, .slice pB1 pj1 pd1, .bool pn2, .slice pA2 pk2 pc2, .bool pm2, .slice pB2 pj2 pd2, .bool pn3, .slice pA3 pk3 pc3, .bool pm3, .slice pB3 pj3 pd3, .bool pn4, .slice pA4 pk4 pc4, .bool pm4, .slice pB4 pj4 pd4] rfl rfl (q6.there (by simp)) info_mom (by simp [Value.oneCell']) ?_; rw [hV4])
  clear hV3 hV4 hB3 hB4 q6
  generalize w3.heap.size = g8 at *
  have hSf : ∀ wx, Below V4.heap.size V4 wx → wx.cell? ⟨w.heap.size, 0, none⟩ = some (.int .i64 W) ∧ wx.cell? ⟨w.heap.size, 1, none⟩ = some (.int .i64 H) ∧ wx.cell? ⟨w.heap.size, 2, none⟩ = some (.slice A n c) := fun wx hbx => by
    have e0 := (keep_blk hbx q0).cell 0
    have e1 := (keep_blk hbx q0).cell 1
    have e2 := (keep_blk hbx q0).cell 2
    simp at e0 e1 e2
    exact ⟨e0, e1, e2⟩
  replace hSf := hide hSf
  have hBl : ∀ wx, Below V4.heap.size V4 wx → Below w.heap.size w wx := fun wx hbx => hB.trans (hbx.mono hB.size)
  replace hBl := hide hBl
  have hb8 : Below V4.heap.size V4 V4.drew := below_dn (Below.refl _ _) 1
  refine wp_held [] (fun wx => wx.cell? ⟨w.heap.size, 0, none⟩ = some (.int .i64 W) ∧ wx.cell? ⟨w.heap.size, 1, none⟩ = some (.int .i64 H) ∧ wx.cell? ⟨w.heap.size, 2, none⟩ = some (.slice A n c)) hmx (hSf.out _ hb8) (fun _ => ?_)

  refine wpAnyL_take (i := 0) (v := ?v1) rfl (by kernel_rfl) (by kernel_rfl) (by kernel_rfl) (by kernel_rfl) (by kernel_rfl) (Or.inl ⟨by rfl, ?hy1⟩) (hSf.out _ hb8) ?rest1
  case hy1 => (intro W2 hSw; (try dsimp only at hSw); go_simp; try with_reducible rfl)
  try simp only [Act.put, List.setIfInBounds_toArray, List.set_cons_zero, List.set_cons_succ]
  refine wpAnyL_take (i := 2) (v := ?v2) rfl (by kernel_rfl) (by kernel_rfl) (by kernel_rfl) (by kernel_rfl) (by kernel_rfl) (Or.inl ⟨by rfl, ?hy2⟩) (hSf.out _ hb8) ?rest2
  case hy2 => (intro W2 hSw; (try dsimp only at hSw); go_simp; try with_reducible rfl)
  try simp only [Act.put, List.setIfInBounds_toArray, List.set_cons_zero, List.set_cons_succ]
  refine wpAnyL_free2 4 5 10 11 2 24 24 #[.int .i64 0, .int .i64 0, .slice none 0 0] #[.int .i64 0, .int .i64 0, .slice none 0 0] [1, 3] (by decide) (by decide) (by kernel_rfl) (by simp) (by simp) (fun wx hbx => hSf.out _ (hb8.trans (hbx.mono hb8.size))) ?hA1 ?hA2 ?_
  case hA1 => (intro K a w h; refine wpOp_shut (i := 4) rfl (fun K2 hK2 => ?_); go_simp; exact hK2.out _ _ h)
  case hA2 => (intro K a w h; refine wpOp_shut (i := 5) rfl (fun K2 hK2 => ?_); go_simp; exact hK2.out _ _ h)
  refine chain_cons (fun u1 u2 wa hba => ?_)
  refine wpOp_shut (i := 1) rfl (fun K hK => ?_)
  try simp only [puts, cn, if_true, Act.put, List.setIfInBounds_toArray, List.set_cons_zero, List.set_cons_succ]
  go_simp
  have hba8 := hb8.trans (hba.mono hb8.size)
  refine (twin_ok W H A n c ps wa (hp.out.below (hBl.out _ hba8)) (by omega)).mono ?_
  rintro e wb ⟨va, rfl, hOa, hbb⟩
  obtain ⟨ga, ca, rfl, hga, hga2, hca, hca2, hMa⟩ := hOa.mut (by rw [hpl.out]; exact hn0)
  clear hOa
  rw [hpl.out] at hca
  (try rw [hpl.out])
  refine hK.out _ _ ⟨⟨rfl, rfl, hbb⟩, ?_⟩
  clear hK K
  try simp only [puts, cn, if_true, Act.put, List.setIfInBounds_toArray, List.set_cons_zero, List.set_cons_succ]
  have hbb8 := hba8.trans (hbb.mono hba8.size)
  replace hMa := hide hMa
  refine chain_cons (fun u3 u4 wc hbc => ?_)
  refine wpOp_shut (i := 3) rfl (fun K hK => ?_)
  try simp only [puts, cn, if_true, Act.put, List.setIfInBounds_toArray, List.set_cons_zero, List.set_cons_succ]
  go_simp
  have hbc8 := hbb8.trans (hbc.mono hbb8.size)
  refine (twin_ok W H A n c ps wc (hp.out.below (hBl.out _ hbc8)) (by omega)).mono ?_
  rintro e wd ⟨vb, rfl, hOb, hbd⟩
  obtain ⟨gb, cb, rfl, hgb, hgb2, hcb, hcb2, hMb⟩ := hOb.mut (by rw [hpl.out]; exact hn0)
  clear hOb
  rw [hpl.out] at hcb
  (try rw [hpl.out])
  refine hK.out _ _ ⟨⟨rfl, rfl, hbd⟩, ?_⟩
  clear hK K
  try simp only [puts, cn, if_true, Act.put, List.setIfInBounds_toArray, List.set_cons_zero, List.set_cons_succ]
  have hbd8 := hbc8.trans (hbd.mono hbc8.size)
  replace hMb := hide hMb
  refine chain_nil (fun h1 h2 we hbe k1 k2 j1 j2 hne ia ib => ?_)
  have hbe8 := hbd8.trans (hbe.mono hbd8.size)
  have ia1 := ia _ (List.mem_cons_self ..)
  have ia2 := ia _ (List.mem_cons_of_mem _ (List.mem_cons_self ..))
  have ib1 := ib _ (List.mem_cons_self ..)
  have ib2 := ib _ (List.mem_cons_of_mem _ (List.mem_cons_self ..))
  simp only at ia1 ia2 ib1 ib2
  have s1 := hb8.size
  have s2 := hba.size
  have s3 := hbb.size
  have s4 := hbc.size
  have s5 := hbd.size
  have n1 : ga ≠ h1 ∧ gb ≠ h1 ∧ ga ≠ h2 ∧ gb ≠ h2 ∧ ga ≠ gb := by omega
  have n2 : V4.heap.size ≤ ga ∧ V4.heap.size ≤ gb ∧ V4.heap.size ≤ h1 ∧ V4.heap.size ≤ h2 := ⟨by omega, by omega, j1, j2⟩
  replace hMa := hide (hMa.out.below hga2 ((hbc.trans (hbd.mono hbc.size)).trans (hbe.mono (Nat.le_trans hbc.size hbd.size))))
  replace hMb := hide (hMb.out.below hgb2 hbe)
  clear hba8 hbb8 hbc8 hbd8 ia ib ia1 ia2 ib1 ib2 hga hgb hga2 hgb2 hba hbb hbc hbd hbe s1 s2 s3 s4 s5 j1 j2
  replace n1 := hide n1
  replace n2 := hide n2
  have y0 := k1.cell 0
  have y1 := k1.cell 1
  have y2 := k1.cell 2
  simp at y0 y1 y2
  have z0 := k1.frozen 0
  have z1 := k1.frozen 1
  have z2 := k1.frozen 2
  obtain ⟨V, hV, hBV, p1, hst⟩ := set_all [.int .i64 W, .int .i64 H, .slice (some ⟨ga, 0, none⟩) n ca] [.int .i64 0, .int .i64 0, .slice none 0 0] rfl rfl rfl hbe8 n2.out.2.2.1 k1
  have fa : V.heap[ga]? = we.heap[ga]? := by rw [← hV]; exact setCells_far _ _ _ _ _ n1.out.1
  have fb : V.heap[gb]? = we.heap[gb]? := by rw [← hV]; exact setCells_far _ _ _ _ _ n1.out.2.1
  simp only [World.setCells, Nat.reduceAdd, Nat.zero_add] at hV
  have p2 := hst.2.1 _ _ _ (Ne.symm hne) k2
  replace hMa := hide (hMa.out.blk fa)
  replace hMb := hide (hMb.out.blk fb)
  try simp only [puts, cn, if_true, Act.put, List.setIfInBounds_toArray, List.set_cons_zero, List.set_cons_succ]
  refine wpAnyL_one (i := 6) rfl (by kernel_rfl) (fun K hK => ?_)
  go_simp
  (try rw [hV])
  refine hK.out _ _ (fun _ => hSf.out _ hBV) ?_
  clear hK K y0 y1 y2 z0 z1 z2 hV fa fb
  try simp only [puts, cn, if_true, Act.put, List.setIfInBounds_toArray, List.set_cons_zero, List.set_cons_succ]
  have y0 := p2.cell 0
  have y1 := p2.cell 1
  have y2 := p2.cell 2
  simp at y0 y1 y2
  have z0 := p2.frozen 0
  have z1 := p2.frozen 1
  have z2 := p2.frozen 2
  obtain ⟨Ux, hU, hBU, p3, hst2⟩ := set_all [.int .i64 W, .int .i64 H, .slice (some ⟨gb, 0, none⟩) n cb] [.int .i64 0, .int .i64 0, .slice none 0 0] rfl rfl rfl hBV n2.out.2.2.2 p2
  have fa : Ux.heap[ga]? = V.heap[ga]? := by rw [← hU]; exact setCells_far _ _ _ _ _ n1.out.2.2.1
  have fb : Ux.heap[gb]? = V.heap[gb]? := by rw [← hU]; exact setCells_far _ _ _ _ _ n1.out.2.2.2.1
  simp only [World.setCells, Nat.reduceAdd, Nat.zero_add] at hU
  have p4 := hst2.2.1 _ _ _ hne p1
  replace hMa := hide (hMa.out.blk fa)
  replace hMb := hide (hMb.out.blk fb)
  refine wpAnyL_one (i := 7) rfl (by kernel_rfl) (fun K hK => ?_)
  go_simp
  (try rw [hU])
  refine hK.out _ _ (fun _ => hSf.out _ hBU) ?_
  clear hK K y0 y1 y2 z0 z1 z2 hU fa fb hst hst2 p1 p2 k1 k2 hbe8 hBV
  try simp only [puts, cn, if_true, Act.put, List.setIfInBounds_toArray, List.set_cons_zero, List.set_cons_succ]
  refine wpAnyL_done (by kernel_rfl) ?_ _
  refine OnlyNormal.normal ?_
  try simp only [puts, cn, if_true, Act.put, List.setIfInBounds_toArray, List.set_cons_zero, List.set_cons_succ]
  go_simp
  have y0 := p4.cell 0
  have y1 := p4.cell 1
  simp at y0 y1
  have z0 := p4.frozen 0
  have z1 := p4.frozen 1
  have hb9 : Below V4.heap.size V4 Ux.drew := below_dn hBU 1
  obtain ⟨x0, x1, x2⟩ := hSf.out _ hBU
  go_wp2_with fail
  refine wp_held [] (fun wx => wx.cell? ⟨w.heap.size, 0, none⟩ = some (.int .i64 W) ∧ wx.cell? ⟨w.heap.size, 1, none⟩ = some (.int .i64 H) ∧ wx.cell? ⟨w.heap.size, 2, none⟩ = some (.slice A n c)) hmx (hSf.out _ (below_dn hBU 1)) (fun _ => ?_)
  refine wpAnyL_take (i := 0) (v := ?v3) rfl (by kernel_rfl) (by kernel_rfl) (by kernel_rfl) (by kernel_rfl) (by kernel_rfl) (Or.inl ⟨by rfl, ?hy3⟩) (hSf.out _ hb9) ?rest3
  case hy3 => (intro W2 hSw; (try dsimp only at hSw); go_simp; try with_reducible rfl)
  try simp only [Act.put, List.setIfInBounds_toArray, List.set_cons_zero, List.set_cons_succ]
  refine wpAnyL_take (i := 1) (v := ?v4) rfl (by kernel_rfl) (by kernel_rfl) (by kernel_rfl) (by kernel_rfl) (by kernel_rfl) (Or.inl ⟨by rfl, ?hy4⟩) (hSf.out _ hb9) ?rest4
  case hy4 => (intro W2 hSw; (try dsimp only at hSw); go_simp; try with_reducible rfl)
  try simp only [Act.put, List.setIfInBounds_toArray, List.set_cons_zero, List.set_cons_succ]
  refine wpAnyL_take (i := 2) (v := ?v5) rfl (by kernel_rfl) (by kernel_rfl) (by kernel_rfl) (by kernel_rfl) (by kernel_rfl) (Or.inl ⟨by rfl, ?hy5⟩) (hSf.out _ hb9) ?rest5
  case hy5 => (intro W2 hSw; (try dsimp only at hSw); go_simp; try with_reducible rfl)
  try simp only [Act.put, List.setIfInBounds_toArray, List.set_cons_zero, List.set_cons_succ]
  refine wpAnyL_take (i := 3) (v := ?v6) rfl (by kernel_rfl) (by kernel_rfl) (by kernel_rfl) (by kernel_rfl) (by kernel_rfl) (Or.inl ⟨by rfl, ?hy6⟩) (hSf.out _ hb9) ?rest6
  case hy6 => (intro W2 hSw; (try dsimp only at hSw); go_simp; try with_reducible rfl)
  try simp only [Act.put, List.setIfInBounds_toArray, List.set_cons_zero, List.set_cons_succ]
  refine wpAnyL_take (i := 4) (v := ?v7) rfl (by kernel_rfl) (by kernel_rfl) (by kernel_rfl) (by kernel_rfl) (by kernel_rfl) (Or.inl ⟨by rfl, ?hy7⟩) (hSf.out _ hb9) ?rest7
  case hy7 => (intro W2 hSw; (try dsimp only at hSw); go_simp; try with_reducible rfl)
  try simp only [Act.put, List.setIfInBounds_toArray, List.set_cons_zero, List.set_cons_succ]
  obtain ⟨Y, hY, hBY, r1, hstY⟩ := set_mid (t := 24) (B := V4.heap.size) (w0 := V4) (g := h1) [.int .i64 H, .slice (some ⟨ga, 0, none⟩) n ca] [.int .i64 H] [.int .i64 W] [] Ux.drew 0 rfl rfl rfl rfl hb9 n2.out.2.2.1 (p4 : Blk Ux.drew h1 24 _)
  have fa : Y.heap[ga]? = Ux.heap[ga]? := by rw [← hY]; exact setCells_far _ _ _ _ _ n1.out.1
  have fb : Y.heap[gb]? = Ux.heap[gb]? := by rw [← hY]; exact setCells_far _ _ _ _ _ n1.out.2.1
  simp only [World.setCells, Nat.reduceAdd, Nat.zero_add] at hY
  have r3 := hstY.2.1 _ _ _ (Ne.symm hne) (p3 : Blk Ux.drew h2 24 _)
  replace hMa := hide (hMa.out.blk fa)
  replace hMb := hide (hMb.out.blk fb)
  refine wpAnyL_one (i := 5) rfl (by kernel_rfl) (fun K hK => ?_)
  go_simp
  (try rw [hY])
  refine hK.out _ _ (fun _ => hSf.out _ hBY) ?_
  clear hK K y0 y1 z0 z1 hY fa fb hstY p3 p4 hb9 hBU
  try simp only [puts, cn, if_true, Act.put, List.setIfInBounds_toArray, List.set_cons_zero, List.set_cons_succ]
  replace r1 : Blk Y h1 24 #[.int .i64 H, .int .i64 H, .slice (some ⟨ga, 0, none⟩) n ca] := r1
  have y0 := r1.cell 0
  have y1 := r1.cell 1
  simp at y0 y1
  have z0 := r1.frozen 0
  have z1 := r1.frozen 1
  refine wpAnyL_take (i := 6) (v := ?v8) rfl (by kernel_rfl) (by kernel_rfl) (by kernel_rfl) (by kernel_rfl) (by kernel_rfl) (Or.inl ⟨by rfl, ?hy8⟩) (hSf.out _ hBY) ?rest8
  case hy8 => (intro W2 hSw; (try dsimp only at hSw); go_simp; try with_reducible rfl)
  try simp only [Act.put, List.setIfInBounds_toArray, List.set_cons_zero, List.set_cons_succ]
  obtain ⟨Z, hZ, hBZ, r2, hstZ⟩ := set_mid (t := 24) (B := V4.heap.size) (w0 := V4) (g := h1) [.slice (some ⟨ga, 0, none⟩) n ca] [.int .i64 W] [.int .i64 H] [.int .i64 H] Y 1 rfl rfl rfl rfl hBY n2.out.2.2.1 r1
  have fa : Z.heap[ga]? = Y.heap[ga]? := by rw [← hZ]; exact setCells_far _ _ _ _ _ n1.out.1
  have fb : Z.heap[gb]? = Y.heap[gb]? := by rw [← hZ]; exact setCells_far _ _ _ _ _ n1.out.2.1
  simp only [World.setCells, Nat.reduceAdd, Nat.zero_add] at hZ
  have r4 := hstZ.2.1 _ _ _ (Ne.symm hne) r3
  replace hMa := hide (hMa.out.blk fa)
  replace hMb := hide (hMb.out.blk fb)
  replace r2 : Blk Z h1 24 #[.int .i64 H, .int .i64 W, .slice (some ⟨ga, 0, none⟩) n ca] := r2
  refine wpAnyL_one (i := 7) rfl (by kernel_rfl) (fun K hK => ?_)
  go_simp
  (try rw [hZ])
  refine hK.out _ _ (fun _ => hSf.out _ hBZ) ?_
  clear hK K y0 y1 z0 z1 hZ fa fb hstZ r1 r3 hBY
  try simp only [puts, cn, if_true, Act.put, List.setIfInBounds_toArray, List.set_cons_zero, List.set_cons_succ]
  refine wpAnyL_done (by kernel_rfl) ?_ _
  refine OnlyNormal.normal ?_
  try simp only [puts, cn, if_true, Act.put, List.setIfInBounds_toArray, List.set_cons_zero, List.set_cons_succ]
  go_simp
  go_wp2_with fail
  go_loopw [12] (fun iv wr => ∃ k : Nat, k ≤ n ∧ iv = .int .i64 k ∧ Below V4.heap.size V4 wr ∧ Blk wr h1 24 #[.int .i64 H, .int .i64 W, .slice (some ⟨ga, 0, none⟩) n ca] ∧ Blk wr h2 24 #[.int .i64 W, .int .i64 H, .slice (some ⟨gb, 0, none⟩) n cb] ∧ MutI wr ga (turnL W H ps k) ∧ MutI wr gb (moreL ps t k)) (fun iv _ => n - (intOf iv).toNat)
  case atStart => exact ⟨0, by omega, rfl, hBZ, r2, r4, hMa.out, hMb.out⟩
  case round =>
    clear hBZ r2 r4 hMa hMb
    obtain ⟨k, hk1, rfl, hbr, r2, r4, hMa, hMb⟩ := hrel
    obtain ⟨x0, x1, x2⟩ := hSf.out _ hbr
    by_cases hk : k < n
    case neg =>
      obtain rfl : n = k := by omega
      have htk : decide ((n : Int) < (n : Int)) = false := by simp
      obtain ⟨i0, hi, hz0, hz1, hz2⟩ := info_parts infoB
      have hmk := makeB (P := Tryz.prog) 56 4 Tryz.underlying56 hi hz0 hz1 hz2 n (by omega)
      obtain ⟨Vm, hVm, hBm, qm, -, hkm, sVm⟩ := new_obj 4 (Array.replicate n (Value.bool false)) (Below.refl wr.heap.size wr) (Nat.le_refl _)
      have hM0 : MutB Vm wr.heap.size (markL W H l n 0) := MutB.of_blk qm (by simp [markL])
      replace hMa := hide hMa
      replace hMb := hide hMb
      go_wp2_with fail
      clear hVm qm hkm hmk hi hz0 hz1 hz2
      obtain ⟨wo, rfl⟩ : ∃ wo : World, wo = wr := ⟨_, rfl⟩
      have hsz0 : wo.heap.size < Vm.heap.size := by omega
      clear sVm
      obtain ⟨gm, hgm⟩ : ∃ gm, wo.heap.size = gm := ⟨_, rfl⟩
      rw [hgm] at hM0 hsz0 hBm ⊢
      go_loopw [14] (fun iv wx => ∃ k : Nat, k ≤ m ∧ iv = .int .i64 k ∧ Below gm wo wx ∧ gm < wx.heap.size ∧ MutB wx gm (markL W H l n k)) (fun iv _ => m - (intOf iv).toNat)
      case atStart => exact ⟨0, by omega, rfl, hBm, hsz0, hM0⟩
      case round =>
        clear hM0 hBm hsz0
        obtain ⟨k, hk1, rfl, hbx, hszx, hM⟩ := hrel
        have hbo : Below wo.heap.size wo wr := by rw [hgm]; exact hbx
        have hbv := hbr.trans (hbo.mono hbr.size)
        obtain ⟨x0, x1, x2⟩ := hSf.out _ hbv
        by_cases hk : k < m
        case neg =>
          obtain rfl : m = k := by omega
          have htk : decide ((m : Int) < (m : Int)) = false := by simp
          obtain ⟨wq, rfl⟩ : ∃ wq : World, wq = wr := ⟨_, rfl⟩
          have hgl : ga < wo.heap.size ∧ gb < wo.heap.size := ⟨lt_of_cell (hMa.out 0 (by rw [turnL_length, hpl.out]; exact hn0)).1, lt_of_cell (hMb.out 0 (by rw [moreL_length, hpl.out]; exact hn0)).1⟩
          replace r2 := keep_blk hbo r2
          replace r4 := keep_blk hbo r4
          replace hMa := hide (hMa.out.below hgl.1 hbo)
          replace hMb := hide (hMb.out.below hgl.2 hbo)
          have hgl2 : ga < wq.heap.size ∧ gb < wq.heap.size := by have := hbo.size; omega
          clear hgl
          have hmkl : (markL W H l n m).length = n := markL_length ..
          obtain ⟨mk, hmkE⟩ : ∃ mk, markL W H l n m = mk := ⟨_, rfl⟩
          rw [hmkE] at hM hmkl
          replace hmkE := hide hmkE
          replace hM := hide hM
          clear x0 x1 x2
          go_wp2_with fail
          obtain ⟨i1, hj0, hjz0, hjz1, hjz2⟩ := info_parts infoI
          go_loopw [15, 16] (fun tv iv wx => ∃ j : Nat, j ≤ n ∧ iv = .int .i64 j ∧ Below wq.heap.size wq wx ∧ OwnI 3 wx wq.heap.size tv (tookL mk j)) (fun _ iv _ => n - (intOf iv).toNat)
          case atStart => exact ⟨0, by omega, rfl, Below.refl _ _, ⟨World.ownsRow_nil _ _ _ _, by simp [tookL]⟩⟩
          case round =>
            obtain ⟨j, hj1, rfl, hbq, hO⟩ := hrel
            by_cases hjn : j < n
            case neg =>
              obtain rfl : n = j := by omega
              have htk : decide ((n : Int) < (n : Int)) = false := by simp
              have hbv2 : Below V4.heap.size V4 wr := hbv.trans (hbq.mono hbv.size)
              replace r2 := keep_blk hbq r2
              replace r4 := keep_blk hbq r4
              have hTl : (tookL mk n).length = m := by rw [← hmkE.out]; exact turned_length hf.out hin.out hdis.out
              obtain ⟨A3, c3, rfl, hLT⟩ := hO.lim
              rw [hTl] at hLT ⊢
              have hIG : ∀ x ∈ turnL W H ps n, I64 x := turnL_mem hp.out.2.2.2.1 (by have := hpl.out; omega)
              have hIM : ∀ x ∈ moreL ps t n, I64 x := moreL_mem (P := fun x => -4294967296 ≤ x ∧ x ≤ 4294967296) (fun x hx => by unfold I64; omega) (fun x hx => by
                have h : (x * t).natAbs ≤ 4294967296 * 1000 := by rw [Int.natAbs_mul]; exact Nat.mul_le_mul (by omega) (by omega)
                unfold I64; omega) (fun x hx => by
                obtain ⟨i, hi, rfl⟩ := List.getElem_of_mem hx
                have h := hpx.out i (by have := hpl.out; omega)
                rw [List.getElem?_eq_getElem hi] at h
                exact h) (by have := hpl.out; omega)
              have hLa : LimI wr (some ⟨ga, 0, none⟩) n ca (turnL W H ps n) := LimI.of_mut (hMa.out.below hgl2.1 hbq) (by rw [turnL_length]; exact hpl.out) hca hca2 hIG
              have hLb : LimI wr (some ⟨gb, 0, none⟩) n cb (moreL ps t n) := LimI.of_mut (hMb.out.below hgl2.2 hbq) (by rw [moreL_length]; exact hpl.out) hcb hcb2 hIM
              have hEt : startE H W n (turnL W H ps n) (tookL mk n) = 0 := by unfold startE; rw [fieldOk_turned hpl.out hfo.out, ← hmkE.out, turned_listed hm0 hf.out hin.out hdis.out]; rfl
              have hEt2 : momE' (turnL W H ps n) (tookL mk n) = E := by unfold momE'; rw [← hmkE.out, psum_turned hlm.out hpl.out hf.out hin.out hdis.out]; exact hEE.out
              have hMt : momM' H (turnL W H ps n) (tookL mk n) = M.flip := by
                rw [← hMM.out]; unfold momM'; rw [← hmkE.out, psum_turned hlm.out hpl.out hf.out hin.out hdis.out, mom_turned hlm.out hpl.out hf.out hin.out hdis.out]
                split <;> rfl
              have hE2 : momE' (moreL ps t n) l = E := by
                rw [← hEE.out]; unfold momE'; rw [psum_more hlm.out hpl.out hin.out]; exact more_if (by omega)
              have hM2 : momM' W (moreL ps t n) l = { M with s := M.s * t } := by
                rw [← hMM.out]; unfold momM'; rw [psum_more hlm.out hpl.out hin.out, mom_more (by omega) hlm.out hpl.out hin.out]; exact more_mom (by omega) _ _
              have hMs : M.s.natAbs ≤ 40 * 8589934592 := by
                have h := hr.out.sum (k := m) (Nat.le_refl _)
                have h2 : psum ps l = sumK (pix ps) l m := by unfold psum; rw [hlm.out]
                rw [← hMM.out]; unfold momM'
                split
                · show (0 : Int).natAbs ≤ _; omega
                · show (psum ps l).natAbs ≤ _; rw [h2]; omega
              have hMt2 : wrap64 (M.s * t) = M.s * t := by
                have h : (M.s * t).natAbs ≤ 40 * 8589934592 * 1000 := by rw [Int.natAbs_mul]; exact Nat.mul_le_mul hMs (by omega)
                exact wrapS (by omega)
              clear hIG hIM hM hO hmkl hMs
              generalize turnL W H ps n = G at *
              generalize tookL mk n = T at *
              generalize moreL ps t n = Mo at *
              replace hMa := hide True.intro
              replace hMb := hide True.intro
              clear hMa hMb
              replace hLb := hide hLb
              replace hE2 := hide hE2
              replace hM2 := hide hM2
              have c0 := r2.cell 0
              have c1 := r2.cell 1
              have c2 := r2.cell 2
              simp at c0 c1 c2
              go_wp2_with fail
              refine (moments_any H W (some ⟨ga, 0, none⟩) n ca A3 m c3 G T wr hLa hLT h8 iH iW hEt E M.flip hEt2 hMt).mono ?_
              rintro e w5 ⟨hb5, csN, rfl, hFn⟩
              clear c0 c1 c2 hLa hLT hEt hEt2 hMt
              replace hbv2 := hbv2.trans (hb5.mono hbv2.size)
              replace r4 := keep_blk hb5 r4
              replace hLb := hide (hLb.out.below hb5)
              obtain ⟨sn0, sA0, sk0, sc0, sm0, sB0, sj0, sd0, sn1, sA1, sk1, sc1, sm1, sB1, sj1, sd1, sn2, sA2, sk2, sc2, sm2, sB2, sj2, sd2, sn3, sA3, sk3, sc3, sm3, sB3, sj3, sd3, sn4, sA4, sk4, sc4, sm4, sB4, sj4, sd4, rfl, f0, f1, f2, f3, f4⟩ := hFn
              have hFn : MomF w5 #[.int .i64 M.s, .bool sn0, .slice sA0 sk0 sc0, .bool sm0, .slice sB0 sj0 sd0, .bool sn1, .slice sA1 sk1 sc1, .bool sm1, .slice sB1 sj1 sd1, .bool sn2, .slice sA2 sk2 sc2, .bool sm2, .slice sB2 sj2 sd2, .bool sn3, .slice sA3 sk3 sc3, .bool sm3, .slice sB3 sj3 sd3, .bool sn4, .slice sA4 sk4 sc4, .bool sm4, .slice sB4 sj4 sd4] M.flip := ⟨_, _, _, _, _, _, _, _, _, _, _, _, _, _, _, _, _, _, _, _, _, _, _, _, _, _, _, _, _, _, _, _, _, _, _, _, _, _, _, _, rfl, f0, f1, f2, f3, f4⟩
              clear f0 f1 f2 f3 f4
              replace hFn := hide hFn
              obtain ⟨V7, hV7, hB7, q17, -, -, -⟩ := new_obj 34 #[.int .i64 0, .bool false, .slice none 0 0, .bool false, .slice none 0 0, .bool false, .slice none 0 0, .bool false, .slice none 0 0, .bool false, .slice none 0 0, .bool false, .slice none 0 0, .bool false, .slice none 0 0, .bool false, .slice none 0 0, .bool false, .slice none 0 0, .bool false, .slice none 0 0] (Below.refl w5.heap.size w5) (Nat.le_refl _)
              obtain ⟨V8, hV8, hB8, q17b, -⟩ := set_all [.int .i64 M.s, .bool sn0, .slice sA0 sk0 sc0, .bool sm0, .slice sB0 sj0 sd0, .bool sn1, .slice sA1 sk1 sc1, .bool sm1, .slice sB1 sj1 sd1, .bool sn2, .slice sA2 sk2 sc2, .bool sm2, .slice sB2 sj2 sd2, .bool sn3, .slice sA3 sk3 sc3, .bool sm3, .slice sB3 sj3 sd3, .bool sn4, .slice sA4 sk4 sc4, .bool sm4, .slice sB4 sj4 sd4] [.int .i64 0, .bool false, .slice none 0 0, .bool false, .slice none 0 0, .bool false, .slice none 0 0, .bool false, .slice none 0 0, .bool false, .slice none 0 0, .bool false, .slice none 0 0, .bool false, .slice none 0 0, .bool false, .slice none 0 0, .bool false, .slice none 0 0, .bool false, .slice none 0 0] rfl rfl rfl hB7 (Nat.le_refl _) q17
              replace hbv2 := hbv2.trans (hB8.mono hbv2.size)
              replace r4 := keep_blk hB8 r4
              replace hLb := hide (hLb.out.below hB8)
              replace hFn := hide (hFn.out.below hB8)
              have q8x := keep_blk hbv2 q8
              have a0 := q8x.cell 0
              have a1 := q8x.cell 1
              have a2 := q8x.cell 2
              have a3 := q8x.cell 3
              have a4 := q8x.cell 4
              have a5 := q8x.cell 5
              have a6 := q8x.cell 6
              have a7 := q8x.cell 7
              have a8 := q8x.cell 8
              have a9 := q8x.cell 9
              have a10 := q8x.cell 10
              have a11 := q8x.cell 11
              have a12 := q8x.cell 12
              have a13 := q8x.cell 13
              have a14 := q8x.cell 14
              have a15 := q8x.cell 15
              have a16 := q8x.cell 16
              have a17 := q8x.cell 17
              have a18 := q8x.cell 18
              have a19 := q8x.cell 19
              have a20 := q8x.cell 20
              simp at a0 a1 a2 a3 a4 a5 a6 a7 a8 a9 a10 a11 a12 a13 a14 a15 a16 a17 a18 a19 a20
              obtain ⟨dd, hd1, hd2⟩ := und_mom
              have tE : (E == E) = true := by simp
              have tE2 : (E != E) = false := by simp
              go_wp2_with (first | (refine wpList_store_mid rfl 34 _ _ rfl w5.heap.size 0 #[.int .i64 M.s, .bool sn0, .slice sA0 sk0 sc0, .bool sm0, .slice sB0 sj0 sd0, .bool sn1, .slice sA1 sk1 sc1, .bool sm1, .slice sB1 sj1 sd1, .bool sn2, .slice sA2 sk2 sc2, .bool sm2, .slice sB2 sj2 sd2, .bool sn3, .slice sA3 sk3 sc3, .bool sm3, .slice sB3 sj3 sd3, .bool sn4, .slice sA4 sk4 sc4, .bool sm4, .slice sB4 sj4 sd4] rfl rfl (q17.there (by simp)) info_mom (by simp [Value.oneCell']) ?_; rw [hV8]) | (refine wpList_load_midG (by rfl) 34 _ rfl w5.heap.size 0 rfl [.int .i64 M.s, .bool sn0, .slice sA0 sk0 sc0, .bool sm0, .slice sB0 sj0 sd0, .bool sn1, .slice sA1 sk1 sc1, .bool sm1, .slice sB1 sj1 sd1, .bool sn2, .slice sA2 sk2 sc2, .bool sm2, .slice sB2 sj2 sd2, .bool sn3, .slice sA3 sk3 sc3, .bool sm3, .slice sB3 sj3 sd3, .bool sn4, .slice sA4 sk4 sc4, .bool sm4, .slice sB4 sj4 sd4] dd (q17b.rangeAt [] (rest := []) rfl) hd1 hd2 info_mom ?_))
              refine (rsameM_true _ _ M.flip V8 hFn.out (hFf.out.below hbv2)).mono ?_
              rintro e w6 ⟨rfl, hb6⟩
              clear hV7 hV8 hB7 hB8 q17 q17b hFn hFf a0 a1 a2 a3 a4 a5 a6 a7 a8 a9 a10 a11 a12 a13 a14 a15 a16 a17 a18 a19 a20
              replace hbv2 := hbv2.trans (hb6.mono hbv2.size)
              replace r4 := keep_blk hb6 r4
              replace hLb := hide (hLb.out.below hb6)
              clear hb5 hb6 q8x
              obtain ⟨x, hx⟩ : ∃ x, fieldOk W H n Mo = x := ⟨_, rfl⟩
              have c0 := r4.cell 0
              have c1 := r4.cell 1
              have c2 := r4.cell 2
              simp at c0 c1 c2
              go_wp2_with fail
              refine (rCheck10_ok W H (some ⟨gb, 0, none⟩) n cb Mo w6 hLb.out (by omega) iW iH x hx).mono ?_
              rintro e w7 ⟨rfl, hb⟩
              clear c0 c1 c2
              replace hbv2 := hbv2.trans (hb.mono hbv2.size)
              replace r4 := keep_blk hb r4
              replace hLb := hide (hLb.out.below hb)
              clear hb
              cases x
              case false =>
                simp only [errOf, Bool.false_eq_true, if_false]
                go_wp2_with fail
                go_ret
                exact ⟨rfl, hBl.out _ hbv2⟩
              simp only [errOf, if_true]
              have hEm : startE W H n Mo l = 0 := by unfold startE; rw [hx, hli.out]; rfl
              clear hx
              have c0 := r4.cell 0
              have c1 := r4.cell 1
              have c2 := r4.cell 2
              simp at c0 c1 c2
              go_wp2_with fail
              refine (moments_any W H (some ⟨gb, 0, none⟩) n cb B m d Mo l w7 hLb.out (hl.out.below (hBl.out _ hbv2)) h8 iW iH hEm E { M with s := M.s * t } hE2.out hM2.out).mono ?_
              rintro e w8 ⟨hb, csN, rfl, hFn⟩
              clear c0 c1 c2 hLb hEm r4
              replace hbv2 := hbv2.trans (hb.mono hbv2.size)
              have hg8y : g8 < w8.heap.size := Nat.lt_of_lt_of_le hg8 hbv2.size
              clear hb
              obtain ⟨vn0, vA0, vk0, vc0, vm0, vB0, vj0, vd0, vn1, vA1, vk1, vc1, vm1, vB1, vj1, vd1, vn2, vA2, vk2, vc2, vm2, vB2, vj2, vd2, vn3, vA3, vk3, vc3, vm3, vB3, vj3, vd3, vn4, vA4, vk4, vc4, vm4, vB4, vj4, vd4, rfl, f0, f1, f2, f3, f4⟩ := hFn
              have hFn : MomF w8 #[.int .i64 (M.s * t), .bool vn0, .slice vA0 vk0 vc0, .bool vm0, .slice vB0 vj0 vd0, .bool vn1, .slice vA1 vk1 vc1, .bool vm1, .slice vB1 vj1 vd1, .bool vn2, .slice vA2 vk2 vc2, .bool vm2, .slice vB2 vj2 vd2, .bool vn3, .slice vA3 vk3 vc3, .bool vm3, .slice vB3 vj3 vd3, .bool vn4, .slice vA4 vk4 vc4, .bool vm4, .slice vB4 vj4 vd4] { M with s := M.s * t } := ⟨_, _, _, _, _, _, _, _, _, _, _, _, _, _, _, _, _, _, _, _, _, _, _, _, _, _, _, _, _, _, _, _, _, _, _, _, _, _, _, _, rfl, f0, f1, f2, f3, f4⟩
              clear f0 f1 f2 f3 f4
              replace hFn := hide hFn
              obtain ⟨V9, hV9, hB9, q19, -, -, -⟩ := new_obj 34 #[.int .i64 0, .bool false, .slice none 0 0, .bool false, .slice none 0 0, .bool false, .slice none 0 0, .bool false, .slice none 0 0, .bool false, .slice none 0 0, .bool false, .slice none 0 0, .bool false, .slice none 0 0, .bool false, .slice none 0 0, .bool false, .slice none 0 0, .bool false, .slice none 0 0] (Below.refl w8.heap.size w8) (Nat.le_refl _)
              obtain ⟨Va, hVa, hBa, q19b, -⟩ := set_all [.int .i64 (M.s * t), .bool vn0, .slice vA0 vk0 vc0, .bool vm0, .slice vB0 vj0 vd0, .bool vn1, .slice vA1 vk1 vc1, .bool vm1, .slice vB1 vj1 vd1, .bool vn2, .slice vA2 vk2 vc2, .bool vm2, .slice vB2 vj2 vd2, .bool vn3, .slice vA3 vk3 vc3, .bool vm3, .slice vB3 vj3 vd3, .bool vn4, .slice vA4 vk4 vc4, .bool vm4, .slice vB4 vj4 vd4] [.int .i64 0, .bool false, .slice none 0 0, .bool false, .slice none 0 0, .bool false, .slice none 0 0, .bool false, .slice none 0 0, .bool false, .slice none 0 0, .bool false, .slice none 0 0, .bool false, .slice none 0 0, .bool false, .slice none 0 0, .bool false, .slice none 0 0, .bool false, .slice none 0 0] rfl rfl rfl hB9 (Nat.le_refl _) q19
              replace hbv2 := hbv2.trans (hBa.mono hbv2.size)
              replace hFn := hide (hFn.out.below hBa)
              replace hFt := hide (hFt.out.below hbv2)
              have hBf := hBl.out _ hbv2
              have q8x := keep_blk hbv2 q8
              have a0 := q8x.cell 0
              simp at a0
              have z0 := q8x.frozen 0
              have hgx : w8.heap.size ≠ g8 := by omega
              obtain ⟨Vb, hVb, hBb, q8b, hstb⟩ := set_mid (t := 34) (B := w.heap.size) (w0 := w) (g := g8) [.bool pn0, .slice pA0 pk0 pc0, .bool pm0, .slice pB0 pj0 pd0, .bool pn1, .slice pA1 pk1 pc1, .bool pm1, .slice pB1 pj1 pd1, .bool pn2, .slice pA2 pk2 pc2, .bool pm2, .slice pB2 pj2 pd2, .bool pn3, .slice pA3 pk3 pc3, .bool pm3, .slice pB3 pj3 pd3, .bool pn4, .slice pA4 pk4 pc4, .bool pm4, .slice pB4 pj4 pd4] [.int .i64 (M.s * t)] [.int .i64 M.s] [] Va 0 rfl rfl rfl rfl hBf hg8w q8x
              simp only [World.setCells, Nat.reduceAdd, Nat.zero_add] at hVb
              replace q8b : Blk Vb g8 34 #[.int .i64 (M.s * t), .bool pn0, .slice pA0 pk0 pc0, .bool pm0, .slice pB0 pj0 pd0, .bool pn1, .slice pA1 pk1 pc1, .bool pm1, .slice pB1 pj1 pd1, .bool pn2, .slice pA2 pk2 pc2, .bool pm2, .slice pB2 pj2 pd2, .bool pn3, .slice pA3 pk3 pc3, .bool pm3, .slice pB3 pj3 pd3, .bool pn4, .slice pA4 pk4 pc4, .bool pm4, .slice pB4 pj4 pd4] := q8b
              have q19c := hstb.2.1 _ _ _ hgx q19b
              replace hFn := hide (hFn.out.keep_ hstb.1)
              replace hFt := hide (hFt.out.keep_ hstb.1)
              go_wp2_with (first | (refine wpList_store_mid rfl 34 _ _ rfl w8.heap.size 0 #[.int .i64 (M.s * t), .bool vn0, .slice vA0 vk0 vc0, .bool vm0, .slice vB0 vj0 vd0, .bool vn1, .slice vA1 vk1 vc1, .bool vm1, .slice vB1 vj1 vd1, .bool vn2, .slice vA2 vk2 vc2, .bool vm2, .slice vB2 vj2 vd2, .bool vn3, .slice vA3 vk3 vc3, .bool vm3, .slice vB3 vj3 vd3, .bool vn4, .slice vA4 vk4 vc4, .bool vm4, .slice vB4 vj4 vd4] rfl rfl (q19.there (by simp)) info_mom (by simp [Value.oneCell']) ?_; rw [hVa]) | (refine wpList_load_midG (by rfl) 34 _ rfl w8.heap.size 0 rfl [.int .i64 (M.s * t), .bool vn0, .slice vA0 vk0 vc0, .bool vm0, .slice vB0 vj0 vd0, .bool vn1, .slice vA1 vk1 vc1, .bool vm1, .slice vB1 vj1 vd1, .bool vn2, .slice vA2 vk2 vc2, .bool vm2, .slice vB2 vj2 vd2, .bool vn3, .slice vA3 vk3 vc3, .bool vm3, .slice vB3 vj3 vd3, .bool vn4, .slice vA4 vk4 vc4, .bool vm4, .slice vB4 vj4 vd4] dd (q19c.rangeAt [] (rest := []) rfl) hd1 hd2 info_mom ?_) | (refine wpList_load_midG (by rfl) 34 _ rfl g8 0 rfl [.int .i64 (M.s * t), .bool pn0, .slice pA0 pk0 pc0, .bool pm0, .slice pB0 pj0 pd0, .bool pn1, .slice pA1 pk1 pc1, .bool pm1, .slice pB1 pj1 pd1, .bool pn2, .slice pA2 pk2 pc2, .bool pm2, .slice pB2 pj2 pd2, .bool pn3, .slice pA3 pk3 pc3, .bool pm3, .slice pB3 pj3 pd3, .bool pn4, .slice pA4 pk4 pc4, .bool pm4, .slice pB4 pj4 pd4] dd (q8b.rangeAt [] (rest := []) rfl) hd1 hd2 info_mom ?_))
              refine (rsameM_true _ _ { M with s := M.s * t } Vb hFn.out hFt.out).mono ?_
              rintro e w9 ⟨rfl, hb⟩
              go_wp2_with fail
              go_ret
              exact ⟨rfl, hBb.trans (hb.mono hBb.size)⟩
            have htk : decide ((j : Int) < (n : Int)) = true := by simp; omega
            have hmc := (hM.out j (by rw [hmkl]; exact hjn)).1
            replace hmc := (hbq.cell (lt_of_cell hmc)).trans hmc
            have hsz := hbq.size
            cases hb : mk[j]?.getD false
            case false =>
              have e : tookL mk (j + 1) = tookL mk j := by show (if mk[j]?.getD false then _ else _) = _; rw [hb]; rfl
              rw [hb] at hmc
              replace e := hide e
              replace hb := hide hb
              go_wp2_with fail
              go_round
              case rel => exact ⟨j + 1, by omega, by go_num, hbq, by rw [e.out]; exact hO⟩
              case measure => simp [intOf]; omega
            case true =>
              have e : tookL mk (j + 1) = tookL mk j ++ [(j : Int)] := by show (if mk[j]?.getD false then _ else _) = _; rw [hb]; rfl
              rw [hb] at hmc
              replace e := hide e
              replace hb := hide hb
              obtain ⟨V, hV, hBV, qV, hk3, hk4, sV⟩ := new_obj 3 #[.int .i64 (j : Int)] hbq hbq.size
              have hjI : I64 (j : Int) := by unfold I64; omega
              have hR := (LimI.of_blk (l := [(j : Int)]) qV rfl (by simpa using hjI) (by simp)).reads
              have hOV := hO.1.alloc (.cells #[.int .i64 (j : Int)] 3)
              rw [hV] at hOV
              have hln : (tookL mk j).length ≤ n := by have := tookL_len mk j; omega
              have hI2 := hO.2
              replace hO := hide hO
              replace hln := hide hln
              replace hOV := hide hOV
              replace hR := hide hR
              replace hI2 := hide hI2
              go_wp2_with (at_builtin; refine wpList_append_any _ rfl (.tmp 130) (.tmp 132) 25 rfl wq.heap.size 3 i1 _ 1 8 Tryz.underlying25 hj0 hjz0 hjz1 hjz2 rfl (by omega) _ (tookL mk j).length ((tookL mk j).map intv) rfl hOV.out _ (some ⟨wr.heap.size, 0, none⟩) 1 1 [intv (j : Int)] rfl hR.out (oneCell_ints [(j : Int)]) (by have := hln.out; simp only [maxLen]; omega) (by have := hln.out; omega) hBV.size ?_; intro v5 w5 hO5 hg5 hat5)
              go_round
              case rel => exact ⟨j + 1, by omega, by go_num, hBV.grown hg5 hBV.size (fun k hk => row_ge_ hOV.out k hk), by rw [e.out]; exact OwnI.append (m := [(j : Int)]) rfl rfl hO5 hI2.out (by simpa using hjI)⟩
              case measure => simp [intOf]; omega
        have htk : decide ((k : Int) < (m : Int)) = true := by simp; omega
        obtain ⟨g, o, rfl, hc⟩ := hl.out.2.2.2.2 hm0
        have hck := ((hBl.out _ hbv).cell (lt_of_cell (hc k hk))).trans (hc k hk)
        clear hc
        have hlk := hin.out k hk
        have hmk : markL W H l n (k + 1) = (markL W H l n k).set (sig W H (l[k]?.getD 0)).toNat true := rfl
        obtain ⟨j, hj⟩ : ∃ j : Nat, l[k]?.getD 0 = j := ⟨(l[k]?.getD 0).toNat, by omega⟩
        rw [hj] at hck hlk hmk
        have sf := sig_facts (i := (j : Int)) hf.out (by omega) (by omega)
        obtain ⟨s, hs⟩ : ∃ s : Nat, sig W H (j : Int) = s := ⟨(sig W H (j : Int)).toNat, by omega⟩
        rw [hs, Int.toNat_natCast] at hmk
        have hsn : s < n := by omega
        have hac := (hM s (by rw [markL_length]; exact hsn)).1
        have haf := (hM s (by rw [markL_length]; exact hsn)).2
        generalize (markL W H l n k)[s]?.getD false = oldb at *
        have hWn : ¬ W = 0 := by have := hf.out.1; omega
        have hWz : (W == 0) = false := by simpa using hWn
        have hW1 := hf.out.1
        have hW2 := hf.out.2.1
        have hH1 := hf.out.2.2.1
        have hH2 := hf.out.2.2.2.1
        have hk0 : (0 : Int) ≤ (j : Int) := by omega
        have hse : (j : Int) % W * H + (j : Int) / W = s := hs
        have hb1 : 0 ≤ (j : Int) % W * H := Int.mul_nonneg sf.2.2.2.2.1 (by omega)
        have hb2 : 0 ≤ (j : Int) / W := sf.2.2.2.2.2.2.1
        have e5 : IntKind.i64.wrap (IntKind.i64.wrap ((j : Int).tmod W * H) + IntKind.i64.wrap ((j : Int) / W)) = (s : Int) := sig_wrap hk0 hse hb1 hb2 (by omega)
        have hsi : (s : Int) < (n : Int) := by omega
        have q2 := (keep_blk hbo r2).cell 0
        simp at q2
        replace hse := hide hse
        replace e5 := hide e5
        replace hs := hide hs
        replace sf := hide sf
        replace hj := hide hj
        replace hmk := hide hmk
        replace hlk := hide hlk
        replace hM := hide hM
        replace hgm := hide hgm
        go_wp2_with fail
        refine wp_held [20] (fun wx => wx.cell? ⟨w.heap.size, 0, none⟩ = some (.int .i64 W) ∧ wx.cell? ⟨h1, 0, none⟩ = some (.int .i64 H) ∧ wx.cell? ⟨g, o + k, none⟩ = some (.int .i64 j)) hmx ⟨x0, q2, hck⟩ (fun _ => ?_)
        refine wpAnyL_take (i := 0) (v := ?v1701) rfl (by kernel_rfl) (by kernel_rfl) (by kernel_rfl) (by kernel_rfl) (by kernel_rfl) (Or.inl ⟨by rfl, ?hy1701⟩) ⟨x0, q2, hck⟩ ?rest1701
        case hy1701 => (intro W2 hSw; (try dsimp only at hSw); go_simp; try with_reducible rfl)
        try simp only [Act.put, List.setIfInBounds_toArray, List.set_cons_zero, List.set_cons_succ]
        refine wpAnyL_take (i := 1) (v := ?v1702) rfl (by kernel_rfl) (by kernel_rfl) (by kernel_rfl) (by kernel_rfl) (by kernel_rfl) (Or.inl ⟨by rfl, ?hy1702⟩) ⟨x0, q2, hck⟩ ?rest1702
        case hy1702 => (intro W2 hSw; (try dsimp only at hSw); go_simp; try with_reducible rfl)
        try simp only [Act.put, List.setIfInBounds_toArray, List.set_cons_zero, List.set_cons_succ]
        refine wpAnyL_take (i := 2) (v := ?v1703) rfl (by kernel_rfl) (by kernel_rfl) (by kernel_rfl) (by kernel_rfl) (by kernel_rfl) (Or.inl ⟨by rfl, ?hy1703⟩) ⟨x0, q2, hck⟩ ?rest1703
        case hy1703 => (intro W2 hSw; (try dsimp only at hSw); go_simp; try with_reducible rfl)
        try simp only [Act.put, List.setIfInBounds_toArray, List.set_cons_zero, List.set_cons_succ]
        refine wpAnyL_take (i := 3) (v := ?v1704) rfl (by kernel_rfl) (by kernel_rfl) (by kernel_rfl) (by kernel_rfl) (by kernel_rfl) (Or.inl ⟨by rfl, ?hy1704⟩) ⟨x0, q2, hck⟩ ?rest1704
        case hy1704 => (intro W2 hSw; (try dsimp only at hSw); go_simp; try with_reducible rfl)
        try simp only [Act.put, List.setIfInBounds_toArray, List.set_cons_zero, List.set_cons_succ]
        refine wpAnyL_take (i := 4) (v := ?v1705) rfl (by kernel_rfl) (by kernel_rfl) (by kernel_rfl) (by kernel_rfl) (by kernel_rfl) (Or.inl ⟨by rfl, ?hy1705⟩) ⟨x0, q2, hck⟩ ?rest1705
        case hy1705 => (intro W2 hSw; (try dsimp only at hSw); go_simp; try with_reducible rfl)
        try simp only [Act.put, List.setIfInBounds_toArray, List.set_cons_zero, List.set_cons_succ]
        refine wpAnyL_take (i := 5) (v := ?v1706) rfl (by kernel_rfl) (by kernel_rfl) (by kernel_rfl) (by kernel_rfl) (by kernel_rfl) (Or.inl ⟨by rfl, ?hy1706⟩) ⟨x0, q2, hck⟩ ?rest1706
        case hy1706 => (intro W2 hSw; (try dsimp only at hSw); go_simp; try with_reducible rfl)
        try simp only [Act.put, List.setIfInBounds_toArray, List.set_cons_zero, List.set_cons_succ]
        refine wpAnyL_take (i := 6) (v := ?v1707) rfl (by kernel_rfl) (by kernel_rfl) (by kernel_rfl) (by kernel_rfl) (by kernel_rfl) (Or.inl ⟨by rfl, ?hy1707⟩) ⟨x0, q2, hck⟩ ?rest1707
        case hy1707 => (intro W2 hSw; (try dsimp only at hSw); go_simp; try with_reducible rfl)
        try simp only [Act.put, List.setIfInBounds_toArray, List.set_cons_zero, List.set_cons_succ]
        refine wpAnyL_take (i := 7) (v := ?v1708) rfl (by kernel_rfl) (by kernel_rfl) (by kernel_rfl) (by kernel_rfl) (by kernel_rfl) (Or.inl ⟨by rfl, ?hy1708⟩) ⟨x0, q2, hck⟩ ?rest1708
        case hy1708 => (intro W2 hSw; (try dsimp only at hSw); go_simp; try with_reducible rfl)
        try simp only [Act.put, List.setIfInBounds_toArray, List.set_cons_zero, List.set_cons_succ]
        refine wpAnyL_take (i := 8) (v := ?v1709) rfl (by kernel_rfl) (by kernel_rfl) (by kernel_rfl) (by kernel_rfl) (by kernel_rfl) (Or.inl ⟨by rfl, ?hy1709⟩) ⟨x0, q2, hck⟩ ?rest1709
        case hy1709 => (intro W2 hSw; (try dsimp only at hSw); go_simp; try with_reducible rfl)
        try simp only [Act.put, List.setIfInBounds_toArray, List.set_cons_zero, List.set_cons_succ]
        refine wpAnyL_take (i := 9) (v := ?v1710) rfl (by kernel_rfl) (by kernel_rfl) (by kernel_rfl) (by kernel_rfl) (by kernel_rfl) (Or.inl ⟨by rfl, ?hy1710⟩) ⟨x0, q2, hck⟩ ?rest1710
        case hy1710 => (intro W2 hSw; (try dsimp only at hSw); go_simp; try with_reducible rfl)
        try simp only [Act.put, List.setIfInBounds_toArray, List.set_cons_zero, List.set_cons_succ]
        refine wpAnyL_take (i := 10) (v := ?v1711) rfl (by kernel_rfl) (by kernel_rfl) (by kernel_rfl) (by kernel_rfl) (by kernel_rfl) (Or.inl ⟨by rfl, ?hy1711⟩) ⟨x0, q2, hck⟩ ?rest1711
        case hy1711 => (intro W2 hSw; (try dsimp only at hSw); go_simp; try with_reducible rfl)
        try simp only [Act.put, List.setIfInBounds_toArray, List.set_cons_zero, List.set_cons_succ]
        refine wpAnyL_take (i := 11) (v := ?v1712) rfl (by kernel_rfl) (by kernel_rfl) (by kernel_rfl) (by kernel_rfl) (by kernel_rfl) (Or.inl ⟨by rfl, ?hy1712⟩) ⟨x0, q2, hck⟩ ?rest1712
        case hy1712 => (intro W2 hSw; (try dsimp only at hSw); go_simp; try with_reducible rfl)
        try simp only [Act.put, List.setIfInBounds_toArray, List.set_cons_zero, List.set_cons_succ]
        refine wpAnyL_take (i := 12) (v := ?v1713) rfl (by kernel_rfl) (by kernel_rfl) (by kernel_rfl) (by kernel_rfl) (by kernel_rfl) (Or.inl ⟨by rfl, ?hy1713⟩) ⟨x0, q2, hck⟩ ?rest1713
        case hy1713 => (intro W2 hSw; (try dsimp only at hSw); go_simp; try with_reducible rfl)
        try simp only [Act.put, List.setIfInBounds_toArray, List.set_cons_zero, List.set_cons_succ]
        refine wpAnyL_take (i := 13) (v := ?v1714) rfl (by kernel_rfl) (by kernel_rfl) (by kernel_rfl) (by kernel_rfl) (by kernel_rfl) (Or.inl ⟨by rfl, ?hy1714⟩) ⟨x0, q2, hck⟩ ?rest1714
        case hy1714 => (intro W2 hSw; (try dsimp only at hSw); go_simp; try with_reducible rfl)
        try simp only [Act.put, List.setIfInBounds_toArray, List.set_cons_zero, List.set_cons_succ]
        refine wpAnyL_take (i := 14) (v := ?v1715) rfl (by kernel_rfl) (by kernel_rfl) (by kernel_rfl) (by kernel_rfl) (by kernel_rfl) (Or.inl ⟨by rfl, ?hy1715⟩) ⟨x0, q2, hck⟩ ?rest1715
        case hy1715 => (intro W2 hSw; (try dsimp only at hSw); go_simp; try with_reducible rfl)
        try simp only [Act.put, List.setIfInBounds_toArray, List.set_cons_zero, List.set_cons_succ]
        refine wpAnyL_take (i := 15) (v := ?v1716) rfl (by kernel_rfl) (by kernel_rfl) (by kernel_rfl) (by kernel_rfl) (by kernel_rfl) (Or.inl ⟨by rfl, ?hy1716⟩) ⟨x0, q2, hck⟩ ?rest1716
        case hy1716 => (intro W2 hSw; (try dsimp only at hSw); go_simp; try with_reducible rfl)
        try simp only [Act.put, List.setIfInBounds_toArray, List.set_cons_zero, List.set_cons_succ]
        refine wpAnyL_take (i := 16) (v := ?v1717) rfl (by kernel_rfl) (by kernel_rfl) (by kernel_rfl) (by kernel_rfl) (by kernel_rfl) (Or.inl ⟨by rfl, ?hy1717⟩) ⟨x0, q2, hck⟩ ?rest1717
        case hy1717 => (intro W2 hSw; (try dsimp only at hSw); go_simp; try with_reducible rfl)
        try simp only [Act.put, List.setIfInBounds_toArray, List.set_cons_zero, List.set_cons_succ]
        refine wpAnyL_take (i := 17) (v := ?v1718) rfl (by kernel_rfl) (by kernel_rfl) (by kernel_rfl) (by kernel_rfl) (by kernel_rfl) (Or.inl ⟨by rfl, ?hy1718⟩) ⟨x0, q2, hck⟩ ?rest1718
        case hy1718 => (intro W2 hSw; (try dsimp only at hSw); go_simp; try with_reducible rfl)
        try simp only [Act.put, List.setIfInBounds_toArray, List.set_cons_zero, List.set_cons_succ]
        refine wpAnyL_take (i := 18) (v := .int .i64 (s : Int)) rfl (by kernel_rfl) (by kernel_rfl) (by kernel_rfl) (by kernel_rfl) (by kernel_rfl) (Or.inl ⟨by rfl, ?hy1719⟩) ⟨x0, q2, hck⟩ ?rest1719
        case hy1719 => (intro W2 hSw; (try dsimp only at hSw); go_simp; (try rw [e5.out]))
        try simp only [Act.put, List.setIfInBounds_toArray, List.set_cons_zero, List.set_cons_succ]
        refine wpAnyL_take (i := 19) (v := ?v1720) rfl (by kernel_rfl) (by kernel_rfl) (by kernel_rfl) (by kernel_rfl) (by kernel_rfl) (Or.inl ⟨by rfl, ?hy1720⟩) ⟨x0, q2, hck⟩ ?rest1720
        case hy1720 => (intro W2 hSw; (try dsimp only at hSw); go_simp; try with_reducible rfl)
        try simp only [Act.put, List.setIfInBounds_toArray, List.set_cons_zero, List.set_cons_succ]
        refine wpAnyL_late (i := 20) rfl (by kernel_rfl) (by kernel_rfl) (fun K hK => ?_)
        go_simp
        refine hK.out _ _ ?_
        clear hK K
        try simp only [Act.put, List.setIfInBounds_toArray, List.set_cons_zero, List.set_cons_succ]
        refine wpAnyL_done (by kernel_rfl) ?_ _
        refine OnlyNormal.normal ?_
        go_wp2_with fail
        go_round
        case rel => exact ⟨k + 1, by omega, by go_num, below_dn (hbx.setCell (p := ⟨gm, s, none⟩) (Nat.le_refl _) (.bool true)) 1, by simpa using hszx, by rw [hmk.out]; exact MutB.drew_ (hM.out.set_ s true)⟩
        case measure => simp [intOf]; omega
    have htk : decide ((k : Int) < (n : Int)) = true := by simp; omega
    obtain ⟨g', o', rfl, hc⟩ := hp.out.2.2.2.2 hn0
    have hcp := ((hBl.out _ hbr).cell (lt_of_cell (hc k hk))).trans (hc k hk)
    clear hc
    have hP := hpx.out k hk
    have sf := sig_facts (i := (k : Int)) hf.out (by omega) (by omega)
    obtain ⟨s, hs⟩ : ∃ s : Nat, sig W H (k : Int) = s := ⟨(sig W H (k : Int)).toNat, by omega⟩
    have hsn : s < n := by omega
    have hst : turnL W H ps (k + 1) = (turnL W H ps k).set s (ps[k]?.getD 0) := by show (turnL W H ps k).set (sig W H (k : Int)).toNat _ = _; rw [hs]; rfl
    have hmo : moreL ps t (k + 1) = (moreL ps t k).set k (ps[k]?.getD 0 * t) := rfl
    have hla : (turnL W H ps k).length = n := by rw [turnL_length]; exact hpl.out
    have hlb : (moreL ps t k).length = n := by rw [moreL_length]; exact hpl.out
    have hac := (hMa s (by omega)).1
    have haf := (hMa s (by omega)).2
    have hbc := (hMb k (by omega)).1
    have hbf := (hMb k (by omega)).2
    rw [moreL_at ps t (by have := hpl.out; omega), if_neg (show ¬ k < k by omega)] at hbc
    generalize ps[k]?.getD 0 = P at *
    generalize (turnL W H ps k)[s]?.getD 0 = oldv at *
    have hWn : ¬ W = 0 := by have := hf.out.1; omega
    have hWz : (W == 0) = false := by simpa using hWn
    have hW1 := hf.out.1
    have hW2 := hf.out.2.1
    have hH1 := hf.out.2.2.1
    have hH2 := hf.out.2.2.2.1
    have hk0 : (0 : Int) ≤ (k : Int) := by omega
    have hse : (k : Int) % W * H + (k : Int) / W = s := hs
    have hb1 : 0 ≤ (k : Int) % W * H := Int.mul_nonneg sf.2.2.2.2.1 (by omega)
    have hb2 : 0 ≤ (k : Int) / W := sf.2.2.2.2.2.2.1
    have e1 : wrap64 ((k : Int) % W * H) = (k : Int) % W * H := wrapS (by omega)
    have e2 : wrap64 ((k : Int) / W) = (k : Int) / W := wrapS (by omega)
    have e3 : wrap64 ((k : Int) % W * H + (k : Int) / W) = s := by rw [hse]; exact wrapS (by omega)
    have e5 : IntKind.i64.wrap (IntKind.i64.wrap ((k : Int).tmod W * H) + IntKind.i64.wrap ((k : Int) / W)) = (s : Int) := sig_wrap hk0 hse hb1 hb2 (by omega)
    have e4 : wrap64 (P * t) = P * t := by
      have h : (P * t).natAbs ≤ 4294967296 * 1000 := by rw [Int.natAbs_mul]; exact Nat.mul_le_mul (by omega) (by omega)
      exact wrapS (by omega)
    have hsi : (s : Int) < (n : Int) := by omega
    have q2 := r2.cell 0
    have q3 := r2.cell 2
    simp at q2 q3
    replace hse := hide hse
    replace e5 := hide e5
    replace hst := hide hst
    replace hmo := hide hmo
    replace hs := hide hs
    replace sf := hide sf
    replace hMa := hide hMa
    replace hMb := hide hMb
    replace hla := hide hla
    replace hlb := hide hlb
    go_wp2_with fail
    refine wp_held [20] (fun wx => wx.cell? ⟨w.heap.size, 0, none⟩ = some (.int .i64 W) ∧ wx.cell? ⟨w.heap.size, 2, none⟩ = some (.slice (some ⟨g', o', none⟩) n c) ∧ wx.cell? ⟨h1, 0, none⟩ = some (.int .i64 H) ∧ wx.cell? ⟨h1, 2, none⟩ = some (.slice (some ⟨ga, 0, none⟩) n ca) ∧ wx.cell? ⟨g', o' + k, none⟩ = some (.int .i64 P)) hmx ⟨x0, x2, q2, q3, hcp⟩ (fun _ => ?_)
    refine wpAnyL_take (i := 0) (v := ?v701) rfl (by kernel_rfl) (by kernel_rfl) (by kernel_rfl) (by kernel_rfl) (by kernel_rfl) (Or.inl ⟨by rfl, ?hy701⟩) ⟨x0, x2, q2, q3, hcp⟩ ?rest701
    case hy701 => (intro W2 hSw; (try dsimp only at hSw); go_simp; try with_reducible rfl)
    try simp only [Act.put, List.setIfInBounds_toArray, List.set_cons_zero, List.set_cons_succ]
    refine wpAnyL_take (i := 1) (v := ?v702) rfl (by kernel_rfl) (by kernel_rfl) (by kernel_rfl) (by kernel_rfl) (by kernel_rfl) (Or.inl ⟨by rfl, ?hy702⟩) ⟨x0, x2, q2, q3, hcp⟩ ?rest702
    case hy702 => (intro W2 hSw; (try dsimp only at hSw); go_simp; try with_reducible rfl)
    try simp only [Act.put, List.setIfInBounds_toArray, List.set_cons_zero, List.set_cons_succ]
    refine wpAnyL_take (i := 2) (v := ?v703) rfl (by kernel_rfl) (by kernel_rfl) (by kernel_rfl) (by kernel_rfl) (by kernel_rfl) (Or.inl ⟨by rfl, ?hy703⟩) ⟨x0, x2, q2, q3, hcp⟩ ?rest703
    case hy703 => (intro W2 hSw; (try dsimp only at hSw); go_simp; try with_reducible rfl)
    try simp only [Act.put, List.setIfInBounds_toArray, List.set_cons_zero, List.set_cons_succ]
    refine wpAnyL_take (i := 3) (v := ?v704) rfl (by kernel_rfl) (by kernel_rfl) (by kernel_rfl) (by kernel_rfl) (by kernel_rfl) (Or.inl ⟨by rfl, ?hy704⟩) ⟨x0, x2, q2, q3, hcp⟩ ?rest704
    case hy704 => (intro W2 hSw; (try dsimp only at hSw); go_simp; try with_reducible rfl)
    try simp only [Act.put, List.setIfInBounds_toArray, List.set_cons_zero, List.set_cons_succ]
    refine wpAnyL_take (i := 4) (v := ?v705) rfl (by kernel_rfl) (by kernel_rfl) (by kernel_rfl) (by kernel_rfl) (by kernel_rfl) (Or.inl ⟨by rfl, ?hy705⟩) ⟨x0, x2, q2, q3, hcp⟩ ?rest705
    case hy705 => (intro W2 hSw; (try dsimp only at hSw); go_simp; try with_reducible rfl)
    try simp only [Act.put, List.setIfInBounds_toArray, List.set_cons_zero, List.set_cons_succ]
    refine wpAnyL_take (i := 5) (v := ?v706) rfl (by kernel_rfl) (by kernel_rfl) (by kernel_rfl) (by kernel_rfl) (by kernel_rfl) (Or.inl ⟨by rfl, ?hy706⟩) ⟨x0, x2, q2, q3, hcp⟩ ?rest706
    case hy706 => (intro W2 hSw; (try dsimp only at hSw); go_simp; try with_reducible rfl)
    try simp only [Act.put, List.setIfInBounds_toArray, List.set_cons_zero, List.set_cons_succ]
    refine wpAnyL_take (i := 6) (v := ?v707) rfl (by kernel_rfl) (by kernel_rfl) (by kernel_rfl) (by kernel_rfl) (by kernel_rfl) (Or.inl ⟨by rfl, ?hy707⟩) ⟨x0, x2, q2, q3, hcp⟩ ?rest707
    case hy707 => (intro W2 hSw; (try dsimp only at hSw); go_simp; try with_reducible rfl)
    try simp only [Act.put, List.setIfInBounds_toArray, List.set_cons_zero, List.set_cons_succ]
    refine wpAnyL_take (i := 7) (v := ?v708) rfl (by kernel_rfl) (by kernel_rfl) (by kernel_rfl) (by kernel_rfl) (by kernel_rfl) (Or.inl ⟨by rfl, ?hy708⟩) ⟨x0, x2, q2, q3, hcp⟩ ?rest708
    case hy708 => (intro W2 hSw; (try dsimp only at hSw); go_simp; try with_reducible rfl)
    try simp only [Act.put, List.setIfInBounds_toArray, List.set_cons_zero, List.set_cons_succ]
    refine wpAnyL_take (i := 8) (v := ?v709) rfl (by kernel_rfl) (by kernel_rfl) (by kernel_rfl) (by kernel_rfl) (by kernel_rfl) (Or.inl ⟨by rfl, ?hy709⟩) ⟨x0, x2, q2, q3, hcp⟩ ?rest709
    case hy709 => (intro W2 hSw; (try dsimp only at hSw); go_simp; try with_reducible rfl)
    try simp only [Act.put, List.setIfInBounds_toArray, List.set_cons_zero, List.set_cons_succ]
    refine wpAnyL_take (i := 9) (v := ?v710) rfl (by kernel_rfl) (by kernel_rfl) (by kernel_rfl) (by kernel_rfl) (by kernel_rfl) (Or.inl ⟨by rfl, ?hy710⟩) ⟨x0, x2, q2, q3, hcp⟩ ?rest710
    case hy710 => (intro W2 hSw; (try dsimp only at hSw); go_simp; try with_reducible rfl)
    try simp only [Act.put, List.setIfInBounds_toArray, List.set_cons_zero, List.set_cons_succ]
    refine wpAnyL_take (i := 10) (v := ?v711) rfl (by kernel_rfl) (by kernel_rfl) (by kernel_rfl) (by kernel_rfl) (by kernel_rfl) (Or.inl ⟨by rfl, ?hy711⟩) ⟨x0, x2, q2, q3, hcp⟩ ?rest711
    case hy711 => (intro W2 hSw; (try dsimp only at hSw); go_simp; try with_reducible rfl)
    try simp only [Act.put, List.setIfInBounds_toArray, List.set_cons_zero, List.set_cons_succ]
    refine wpAnyL_take (i := 11) (v := ?v712) rfl (by kernel_rfl) (by kernel_rfl) (by kernel_rfl) (by kernel_rfl) (by kernel_rfl) (Or.inl ⟨by rfl, ?hy712⟩) ⟨x0, x2, q2, q3, hcp⟩ ?rest712
    case hy712 => (intro W2 hSw; (try dsimp only at hSw); go_simp; try with_reducible rfl)
    try simp only [Act.put, List.setIfInBounds_toArray, List.set_cons_zero, List.set_cons_succ]
    refine wpAnyL_take (i := 12) (v := ?v713) rfl (by kernel_rfl) (by kernel_rfl) (by kernel_rfl) (by kernel_rfl) (by kernel_rfl) (Or.inl ⟨by rfl, ?hy713⟩) ⟨x0, x2, q2, q3, hcp⟩ ?rest713
    case hy713 => (intro W2 hSw; (try dsimp only at hSw); go_simp; try with_reducible rfl)
    try simp only [Act.put, List.setIfInBounds_toArray, List.set_cons_zero, List.set_cons_succ]
    refine wpAnyL_take (i := 13) (v := .int .i64 (s : Int)) rfl (by kernel_rfl) (by kernel_rfl) (by kernel_rfl) (by kernel_rfl) (by kernel_rfl) (Or.inl ⟨by rfl, ?hy714⟩) ⟨x0, x2, q2, q3, hcp⟩ ?rest714
    case hy714 => (intro W2 hSw; (try dsimp only at hSw); go_simp; (try rw [e5.out]))
    try simp only [Act.put, List.setIfInBounds_toArray, List.set_cons_zero, List.set_cons_succ]
    refine wpAnyL_take (i := 14) (v := ?v715) rfl (by kernel_rfl) (by kernel_rfl) (by kernel_rfl) (by kernel_rfl) (by kernel_rfl) (Or.inl ⟨by rfl, ?hy715⟩) ⟨x0, x2, q2, q3, hcp⟩ ?rest715
    case hy715 => (intro W2 hSw; (try dsimp only at hSw); go_simp; try with_reducible rfl)
    try simp only [Act.put, List.setIfInBounds_toArray, List.set_cons_zero, List.set_cons_succ]
    refine wpAnyL_take (i := 15) (v := ?v716) rfl (by kernel_rfl) (by kernel_rfl) (by kernel_rfl) (by kernel_rfl) (by kernel_rfl) (Or.inl ⟨by rfl, ?hy716⟩) ⟨x0, x2, q2, q3, hcp⟩ ?rest716
    case hy716 => (intro W2 hSw; (try dsimp only at hSw); go_simp; try with_reducible rfl)
    try simp only [Act.put, List.setIfInBounds_toArray, List.set_cons_zero, List.set_cons_succ]
    refine wpAnyL_take (i := 16) (v := ?v717) rfl (by kernel_rfl) (by kernel_rfl) (by kernel_rfl) (by kernel_rfl) (by kernel_rfl) (Or.inl ⟨by rfl, ?hy717⟩) ⟨x0, x2, q2, q3, hcp⟩ ?rest717
    case hy717 => (intro W2 hSw; (try dsimp only at hSw); go_simp; try with_reducible rfl)
    try simp only [Act.put, List.setIfInBounds_toArray, List.set_cons_zero, List.set_cons_succ]
    refine wpAnyL_take (i := 17) (v := ?v718) rfl (by kernel_rfl) (by kernel_rfl) (by kernel_rfl) (by kernel_rfl) (by kernel_rfl) (Or.inl ⟨by rfl, ?hy718⟩) ⟨x0, x2, q2, q3, hcp⟩ ?rest718
    case hy718 => (intro W2 hSw; (try dsimp only at hSw); go_simp; try with_reducible rfl)
    try simp only [Act.put, List.setIfInBounds_toArray, List.set_cons_zero, List.set_cons_succ]
    refine wpAnyL_take (i := 18) (v := ?v719) rfl (by kernel_rfl) (by kernel_rfl) (by kernel_rfl) (by kernel_rfl) (by kernel_rfl) (Or.inl ⟨by rfl, ?hy719⟩) ⟨x0, x2, q2, q3, hcp⟩ ?rest719
    case hy719 => (intro W2 hSw; (try dsimp only at hSw); go_simp; try with_reducible rfl)
    try simp only [Act.put, List.setIfInBounds_toArray, List.set_cons_zero, List.set_cons_succ]
    refine wpAnyL_take (i := 19) (v := ?v720) rfl (by kernel_rfl) (by kernel_rfl) (by kernel_rfl) (by kernel_rfl) (by kernel_rfl) (Or.inl ⟨by rfl, ?hy720⟩) ⟨x0, x2, q2, q3, hcp⟩ ?rest720
    case hy720 => (intro W2 hSw; (try dsimp only at hSw); go_simp; try with_reducible rfl)
    try simp only [Act.put, List.setIfInBounds_toArray, List.set_cons_zero, List.set_cons_succ]
    refine name_ (wr.setCell ⟨ga, s, none⟩ (.int .i64 P)).drew (fun wx hwx => ?_)
    have hbx : Below V4.heap.size V4 wx := by rw [← hwx]; exact below_dn (hbr.setCell (p := ⟨ga, s, none⟩) n2.out.1 (.int .i64 P)) 1
    have r2x : Blk wx h1 24 #[.int .i64 H, .int .i64 W, .slice (some ⟨ga, 0, none⟩) n ca] := by rw [← hwx]; exact (r2.far (p := ⟨ga, s, none⟩) (fun e => n1.out.1 e.symm) (.int .i64 P)).drew
    have r4x : Blk wx h2 24 #[.int .i64 W, .int .i64 H, .slice (some ⟨gb, 0, none⟩) n cb] := by rw [← hwx]; exact (r4.far (p := ⟨ga, s, none⟩) (fun e => n1.out.2.2.1 e.symm) (.int .i64 P)).drew
    have hMax : MutI wx ga (turnL W H ps (k + 1)) := by rw [← hwx, hst.out]; exact MutI.drew_ (hMa.out.set_ s P)
    have hgab : gb ≠ ga := fun e => n1.out.2.2.2.2 e.symm
    have hMbx : MutI wx gb (moreL ps t k) := hMb.out.blk (by rw [← hwx]; exact Below.heap_setCell _ ⟨ga, s, none⟩ _ gb hgab)
    replace hbc : wx.cell? ⟨gb, k, none⟩ = some (.int .i64 P) := by have h := (hMbx k (by rw [hlb.out]; exact hk)).1; have h2 := (hMb.out k (by rw [hlb.out]; exact hk)).1; rw [h]; rw [hbc] at h2; exact h2.symm
    replace hbf := (hMbx k (by rw [hlb.out]; exact hk)).2
    refine wpAnyL_late (i := 20) rfl (by kernel_rfl) (by kernel_rfl) (fun K hK => ?_)
    go_simp
    (try rw [hwx])
    refine hK.out _ _ ?_
    clear hK K
    try simp only [Act.put, List.setIfInBounds_toArray, List.set_cons_zero, List.set_cons_succ]
    clear hwx r2 r4 hMa hMb hac haf x0 x1 x2 q2 q3 hcp
    have q4 := r4x.cell 2
    simp at q4
    refine wpAnyL_done (by kernel_rfl) ?_ _
    refine OnlyNormal.normal ?_
    go_wp2_with fail
    go_round
    case rel => exact ⟨k + 1, by omega, by go_num, hbx.setCell (p := ⟨gb, k, none⟩) n2.out.2.1 (.int .i64 (P * t)), r2x.far (fun e => n1.out.2.1 e.symm) _, r4x.far (fun e => n1.out.2.2.2.1 e.symm) _, hMax.blk (Below.heap_setCell _ ⟨gb, k, none⟩ _ ga n1.out.2.2.2.2), by rw [hmo.out]; exact hMbx.set_ k (P * t)⟩
    case measure => simp [intOf]; omega
end Go.Proofs.YtkippclhbkjbmaaGreat
