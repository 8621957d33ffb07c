/- Reference of centroid: Tilted. Reference of centroid: the sums over a tilted field (plain). Fields and lists: increasing lists, the reference's least and greatest of the tilted means (plain). The box holds each mean: least and greatest of the tilted means, changed pixels (plain). -/
import Derived.Test.YtkippclhbkjbmaaZn43
import Derived.Test.YtkippclhbkjbmaaZn38
import Derived.Test.YtkippclhbkjbmaaZn20
import Derived.Test.YtkippclhbkjbmaaZn27
import Derived.Test.YtkippclhbkjbmaaZn44
import Derived.Test.YtkippclhbkjbmaaZn46
set_option linter.unusedSimpArgs false
set_option linter.unusedVariables false

namespace Go.Proofs.Ytkippclhbkjbmaa
open Go.RowKit
attribute [local go_sem] add_lit

/-- The pixels, the first k of the list tilted. -/
def tlt (row : Bool) (W : Int) (ps l : List Int) (f off : Int) : Nat → List Int
  | 0 => ps
  | k + 1 => (tlt row W ps l f off k).set (l[k]?.getD 0).toNat (tv f off (plc row W (l[k]?.getD 0)) (pix ps (l[k]?.getD 0)))
theorem tlt_length (row : Bool) (W : Int) (ps l : List Int) (f off : Int) (k : Nat) : (tlt row W ps l f off k).length = ps.length := by
  induction k with
  | zero => rfl
  | succ k ih => simp [tlt, ih]
theorem tlt_other {row : Bool} {W : Int} {ps l : List Int} {f off : Int} {k i : Nat} (h : ∀ j, j < k → (l[j]?.getD 0).toNat ≠ i) : (tlt row W ps l f off k)[i]?.getD 0 = ps[i]?.getD 0 := by
  induction k with
  | zero => rfl
  | succ k ih =>
    simp only [tlt]
    rw [List.getElem?_set_ne (h k (by omega)), ih (fun j hj => h j (by omega))]
theorem MutI.set_ {w : World} {g : Nat} {l : List Int} (h : MutI w g l) (i : Nat) (x : Int) : MutI (w.setCell ⟨g, i, none⟩ (.int .i64 x)) g (l.set i x) := fun k hk => by
  rw [List.length_set] at hk
  obtain ⟨h1, h2⟩ := h k hk
  refine ⟨?_, ?_⟩
  · by_cases e : k = i
    · subst e
      rw [List.getElem?_set_self hk]
      exact World.cell?_setCell_same _ _ _ h1
    · rw [List.getElem?_set_ne (fun e' => e e'.symm)]
      rw [World.cell?_setCell_other _ _ _ _ (fun e' => by injection e' with _ e2; exact e e2.symm)]
      exact h1
  · rw [← h2]; simp
theorem MutI.blk {w w' : World} {g : Nat} {l : List Int} (h : MutI w g l) (hb : w'.heap[g]? = w.heap[g]?) : MutI w' g l := fun k hk =>
  ⟨(World.cell?_of_block (a := ⟨g, k, none⟩) hb).trans (h k hk).1, (World.frozen?_of_block (a := ⟨g, k, none⟩) hb).trans (h k hk).2⟩
theorem tlt_I64 {row : Bool} {W : Int} {ps l : List Int} {f off : Int} {n m : Nat} (hp : ∀ x ∈ ps, I64 x) (hr : Rng ps l n m) (ho : off.natAbs ≤ 4294967296) {k : Nat} (hk : k ≤ m) : ∀ x ∈ tlt row W ps l f off k, I64 x := by
  induction k with
  | zero => exact hp
  | succ k ih =>
    intro x hx
    rcases List.mem_or_eq_of_mem_set hx with h | h
    · exact ih (by omega) x h
    · have hr1 := hr k (by omega)
      have := tv_rng (f := f) (x := plc row W (l[k]?.getD 0)) ho (show (pix ps (l[k]?.getD 0)).natAbs ≤ 8589934592 by omega)
      rw [h]; unfold I64; omega
theorem MutI.below {w w' : World} {g : Nat} {l : List Int} (h : MutI w g l) (hg : g < w.heap.size) (hb : Below w.heap.size w w') : MutI w' g l := fun k hk =>
  ⟨(hb.cell hg).trans (h k hk).1, (hb.frozen hg).trans (h k hk).2⟩

end Go.Proofs.Ytkippclhbkjbmaa

namespace Go.Proofs.Ytkippclhbkjbmaa
open Go.RowKit

theorem pix_tlt {row : Bool} {W : Int} {ps l : List Int} {f off : Int} {n m : Nat} (hpl : ps.length = n) (hr : Rng ps l n m) (hdis : ∀ i j, i < j → j < m → l[i]?.getD 0 < l[j]?.getD 0) {j k : Nat} (hj : j < k) (hk : k ≤ m) :
    pix (tlt row W ps l f off k) (l[j]?.getD 0) = tv f off (plc row W (l[j]?.getD 0)) (pix ps (l[j]?.getD 0)) := by
  induction k with
  | zero => omega
  | succ k ih =>
    have h1 := hr j (by omega)
    have h2 := hr k (by omega)
    by_cases e : j = k
    · subst e
      unfold pix
      simp only [tlt]
      rw [List.getElem?_set_self (by rw [tlt_length, hpl]; omega)]
      rfl
    · have h3 := hdis j k (by omega) (by omega)
      have h4 := ih (by omega) (by omega)
      unfold pix at h4 ⊢
      simp only [tlt]
      rw [List.getElem?_set_ne (by omega)]
      exact h4
theorem sum_tlt {row : Bool} {W : Int} {ps l : List Int} {f off : Int} {n m : Nat} (hpl : ps.length = n) (hr : Rng ps l n m) (hdis : ∀ i j, i < j → j < m → l[i]?.getD 0 < l[j]?.getD 0) {k : Nat} (hk : k ≤ m) :
    sumK (pix (tlt row W ps l f off m)) l k = tden (plc row W) ps l f off k := by
  induction k with
  | zero => rfl
  | succ k ih =>
    have e1 : sumK (pix (tlt row W ps l f off m)) l (k + 1) = sumK (pix (tlt row W ps l f off m)) l k + pix (tlt row W ps l f off m) (l[k]?.getD 0) := rfl
    have e2 : tden (plc row W) ps l f off (k + 1) = tden (plc row W) ps l f off k + tv f off (plc row W (l[k]?.getD 0)) (pix ps (l[k]?.getD 0)) := rfl
    rw [e1, e2, ih (by omega), pix_tlt hpl hr hdis (by omega) (Nat.le_refl _)]
theorem pl_tlt {row : Bool} {W : Int} {ps l : List Int} {f off : Int} {n m : Nat} (hpl : ps.length = n) (hr : Rng ps l n m) (hdis : ∀ i j, i < j → j < m → l[i]?.getD 0 < l[j]?.getD 0) {k : Nat} (hk : k ≤ m) :
    sumK (pl row W (tlt row W ps l f off m)) l k = tnum (plc row W) ps l f off k := by
  induction k with
  | zero => rfl
  | succ k ih =>
    have e1 : sumK (pl row W (tlt row W ps l f off m)) l (k + 1) = sumK (pl row W (tlt row W ps l f off m)) l k + plc row W (l[k]?.getD 0) * pix (tlt row W ps l f off m) (l[k]?.getD 0) := rfl
    have e2 : tnum (plc row W) ps l f off (k + 1) = tnum (plc row W) ps l f off k + plc row W (l[k]?.getD 0) * tv f off (plc row W (l[k]?.getD 0)) (pix ps (l[k]?.getD 0)) := rfl
    rw [e1, e2, ih (by omega), pix_tlt hpl hr hdis (by omega) (Nat.le_refl _)]
/-- Pixels of a list stay in the range that the sums bear. -/
theorem rng_tlt {row : Bool} {W : Int} {ps l : List Int} {f off : Int} {n m : Nat} (hpl : ps.length = n) (hr : Rng ps l n m) (hp : ∀ k, k < m → (pix ps (l[k]?.getD 0)).natAbs ≤ 4294967296) (ho : off.natAbs ≤ 4294967296) (hdis : ∀ i j, i < j → j < m → l[i]?.getD 0 < l[j]?.getD 0) : Rng (tlt row W ps l f off m) l n m := fun k hk => by
  have h1 := hr k hk
  have h2 := hp k hk
  have h3 : (tv f off (plc row W (l[k]?.getD 0)) (pix ps (l[k]?.getD 0))).natAbs ≤ 8589934592 := by unfold tv; split <;> omega
  rw [pix_tlt hpl hr hdis hk (Nat.le_refl _)]
  exact ⟨h1.1, h1.2.1, by omega, by omega⟩
end Go.Proofs.Ytkippclhbkjbmaa

namespace Go.Proofs.Ytkippclhbkjbmaa
open Go.RowKit

theorem listed_incr {l : List Int} {n : Nat} (h : listed l n = true) : ∀ i j, i < j → j < l.length → l[i]?.getD 0 < l[j]?.getD 0 := by
  have hb : ∀ k, 0 < k → k < l.length → l[k - 1]?.getD 0 < l[k]?.getD 0 := fun k h0 hk => by
    simp only [listed, Bool.and_eq_true] at h
    exact (badAt_false (listedTo_good h.2 hk)).2.2 h0
  intro i j hij hj
  induction j with
  | zero => omega
  | succ j ih =>
    have h1 := hb (j + 1) (by omega) hj
    rw [Nat.add_sub_cancel] at h1
    by_cases e : i = j
    · subst e; exact h1
    · have := ih (by omega) (by omega); omega

/-- The loop of the reference: the first value, then each that comes before. -/
def loopQ (cmp : Rat → Rat → Int) (q : Nat → Rat) : Nat → Rat
  | 0 => q 0
  | k + 1 => if cmp (q (k + 1)) (loopQ cmp q k) < 0 then q (k + 1) else loopQ cmp q k
theorem loopQ_first (cmp : Rat → Rat → Int) (qs : List Rat) (k : Nat) : firstQ cmp qs.tail (qs[0]?.getD 0) k = loopQ cmp (fun i => qs[i]?.getD 0) k := by
  induction k with
  | zero => rfl
  | succ k ih =>
    simp only [firstQ, loopQ, ih, List.getElem?_tail]
theorem loopQ_congr (cmp : Rat → Rat → Int) {q q' : Nat → Rat} (k : Nat) (h : ∀ i, i ≤ k → q i = q' i) : loopQ cmp q k = loopQ cmp q' k := by
  induction k with
  | zero => exact h 0 (by omega)
  | succ k ih => simp only [loopQ, ih (fun i hi => h i (by omega)), h (k + 1) (by omega)]
theorem leastQ_loop (u : Int → Int) (ps l : List Int) (off : Int) : leastQ u ps l off = loopQ cmpQ (fun f => tq u ps l (f : Nat) (-off)) 100 := by
  unfold leastQ
  rw [loopQ_first]
  exact loopQ_congr _ _ (fun i hi => tqs_get u ps l (-off) (by omega))
theorem mostQ_loop (u : Int → Int) (ps l : List Int) (off : Int) : mostQ u ps l off = loopQ (fun a b => cmpQ b a) (fun f => tq u ps l (f : Nat) off) 100 := by
  unfold mostQ
  rw [loopQ_first]
  exact loopQ_congr _ _ (fun i hi => tqs_get u ps l off (by omega))
theorem cmpQ_flip (a b : Rat) : 0 < cmpQ a b ↔ cmpQ b a < 0 := by
  unfold cmpQ
  by_cases h1 : a < b
  · have h2 : ¬ b < a := by grind
    simp [h1, h2]
  · by_cases h2 : b < a
    · simp [h1, h2]
    · simp [h1, h2]
end Go.Proofs.Ytkippclhbkjbmaa

namespace Go.Proofs.Ytkippclhbkjbmaa
open Go.RowKit

theorem cmpQ_le {a b : Rat} : cmpQ a b ≤ 0 ↔ a ≤ b := by
  unfold cmpQ
  by_cases h1 : a < b
  · simp only [h1, if_true]
    constructor
    · intro _; grind
    · intro _; decide
  · by_cases h2 : b < a
    · simp only [h1, h2, if_false, if_true]
      constructor
      · intro h; exact absurd h (by decide)
      · intro h; grind
    · simp only [h1, h2, if_false]
      constructor
      · intro _; grind
      · intro _; decide
theorem cmpQ_lt {a b : Rat} (h : a < b) : cmpQ a b < 0 := by
  unfold cmpQ; rw [if_pos h]; decide
theorem loopQ_le {q : Nat → Rat} (k : Nat) : ∀ i, i ≤ k → loopQ cmpQ q k ≤ q i := by
  induction k with
  | zero => intro i hi; obtain rfl : i = 0 := (by omega); exact Rat.le_refl
  | succ k ih =>
    intro i hi
    unfold loopQ
    by_cases h : cmpQ (q (k + 1)) (loopQ cmpQ q k) < 0
    · rw [if_pos h]
      have h2 : q (k + 1) ≤ loopQ cmpQ q k := cmpQ_le.1 (by omega)
      by_cases e : i = k + 1
      · subst e; exact Rat.le_refl
      · exact Rat.le_trans h2 (ih i (by omega))
    · rw [if_neg h]
      by_cases e : i = k + 1
      · subst e
        have h3 : ¬ q (k + 1) < loopQ cmpQ q k := fun h4 => h (cmpQ_lt h4)
        grind
      · exact ih i (by omega)
theorem loopQ_ge {q : Nat → Rat} (k : Nat) : ∀ i, i ≤ k → q i ≤ loopQ (fun a b => cmpQ b a) q k := by
  induction k with
  | zero => intro i hi; obtain rfl : i = 0 := (by omega); exact Rat.le_refl
  | succ k ih =>
    intro i hi
    unfold loopQ
    by_cases h : cmpQ (loopQ (fun a b => cmpQ b a) q k) (q (k + 1)) < 0
    · rw [if_pos h]
      have h2 : loopQ (fun a b => cmpQ b a) q k ≤ q (k + 1) := cmpQ_le.1 (by omega)
      by_cases e : i = k + 1
      · subst e; exact Rat.le_refl
      · exact Rat.le_trans (ih i (by omega)) h2
    · rw [if_neg h]
      by_cases e : i = k + 1
      · subst e
        have h3 : ¬ loopQ (fun a b => cmpQ b a) q k < q (k + 1) := fun h4 => h (cmpQ_lt h4)
        grind
      · exact ih i (by omega)
theorem loopQ_mem (cmp : Rat → Rat → Int) (q : Nat → Rat) (k : Nat) : ∃ i, i ≤ k ∧ loopQ cmp q k = q i := by
  induction k with
  | zero => exact ⟨0, by omega, rfl⟩
  | succ k ih =>
    obtain ⟨i, h1, h2⟩ := ih
    unfold loopQ
    split
    · exact ⟨k + 1, by omega, rfl⟩
    · exact ⟨i, by omega, h2⟩

/-- The place from which a number's multiples are at least another. -/
def upTo (N D : Int) : Int := -((-N) / D)
theorem upTo_iff {N D : Int} (hD : 0 < D) (u : Int) : upTo N D ≤ u ↔ N ≤ u * D := by
  unfold upTo
  have h := Int.mul_ediv_add_emod (-N) D
  have h0 := Int.emod_nonneg (-N) (show D ≠ 0 by omega)
  have h1 := Int.emod_lt_of_pos (-N) hD
  generalize (-N) / D = z at *
  generalize (-N) % D = r at *
  constructor
  · intro h2
    have h3 : (-z) * D ≤ u * D := Int.mul_le_mul_of_nonneg_right h2 (by omega)
    rw [Int.neg_mul, Int.mul_comm z D] at h3
    omega
  · intro h2
    rcases Int.lt_or_le u (-z) with h3 | h3
    · exfalso
      have h4 : (u + 1) * D ≤ (-z) * D := Int.mul_le_mul_of_nonneg_right (by omega) (by omega)
      rw [Int.neg_mul, Int.mul_comm z D, Int.add_mul, Int.one_mul] at h4
      omega
    · exact h3
/-- A place from 0 to 100. -/
def atMost (f : Int) : Nat := (max 0 (min 100 f)).toNat
theorem atMost_le (f : Int) : atMost f ≤ 100 := by unfold atMost; omega
theorem atMost_iff {f u : Int} (h0 : 0 ≤ u) (h1 : u ≤ 99) : ((atMost f : Nat) : Int) ≤ u ↔ f ≤ u := by unfold atMost; omega

theorem divInt_le' {a b c d : Int} (hb : 0 < b) (hd : 0 < d) (h : a * d ≤ c * b) : Rat.divInt a b ≤ Rat.divInt c d := by
  rw [Rat.divInt_eq_div, Rat.divInt_eq_div]
  have hb' : (0 : Rat) < (b : Rat) := by exact_mod_cast hb
  have hd' : (0 : Rat) < (d : Rat) := by exact_mod_cast hd
  have h' : (a : Rat) * d ≤ c * b := by exact_mod_cast h
  have e : (a : Rat) / b * b = a := Rat.div_mul_cancel (fun h0 => by rw [h0] at hb'; exact absurd hb' (by decide))
  generalize (a : Rat) / b = r at *
  refine Rat.not_lt.1 fun h1 => ?_
  rw [Rat.div_lt_iff hd'] at h1
  have h2 := (Rat.mul_lt_mul_right hb').2 h1
  have e2 : r * (d : Rat) * b = a * d := by
    rw [← e, Rat.mul_assoc, Rat.mul_comm (d : Rat) (b : Rat), ← Rat.mul_assoc]
  rw [e2] at h2
  exact absurd h' (Rat.not_le.2 h2)

/-- Changed pixels: c is what is added at each place of the list. -/
def modl (ps l : List Int) (c : Nat → Int) : Nat → List Int
  | 0 => ps
  | k + 1 => (modl ps l c k).set (l[k]?.getD 0).toNat (pix ps (l[k]?.getD 0) + c k)
theorem modl_length (ps l : List Int) (c : Nat → Int) (k : Nat) : (modl ps l c k).length = ps.length := by
  induction k with
  | zero => rfl
  | succ k ih => simp [modl, ih]
theorem modl_other {ps l : List Int} {c : Nat → Int} {k i : Nat} (h : ∀ j, j < k → (l[j]?.getD 0).toNat ≠ i) : (modl ps l c k)[i]?.getD 0 = ps[i]?.getD 0 := by
  induction k with
  | zero => rfl
  | succ k ih =>
    simp only [modl]
    rw [List.getElem?_set_ne (h k (by omega)), ih (fun j hj => h j (by omega))]
theorem pix_modl {ps l : List Int} {c : Nat → Int} {n m : Nat} (hpl : ps.length = n) (hr : Rng ps l n m) (hdis : ∀ i j, i < j → j < m → l[i]?.getD 0 < l[j]?.getD 0) {j k : Nat} (hj : j < m) (hk : k ≤ m) :
    pix (modl ps l c k) (l[j]?.getD 0) = pix ps (l[j]?.getD 0) + (if j < k then c j else 0) := by
  induction k with
  | zero => simp [modl]
  | succ k ih =>
    have h1 := hr j hj
    have h2 := hr k (by omega)
    by_cases e : j = k
    · subst e
      unfold pix
      simp only [modl]
      rw [List.getElem?_set_self (by rw [modl_length, hpl]; omega), if_pos (by omega)]
      rfl
    · have h4 := ih (by omega)
      unfold pix at h4 ⊢
      simp only [modl]
      rw [List.getElem?_set_ne (by
        rcases Nat.lt_or_gt_of_ne e with h5 | h5
        · have := hdis j k h5 (by omega); omega
        · have := hdis k j h5 hj; omega), h4]
      by_cases h6 : j < k
      · rw [if_pos h6, if_pos (by omega)]
      · rw [if_neg h6, if_neg (by omega)]

/-- A mean of pixels that differ by at most off is not below the least tilted mean, nor above the greatest one. -/
theorem mean_between {u : Int → Int} {ps ps' l : List Int} {m : Nat} {off : Int} (hlm : l.length = m) (hu : ∀ k, k < m → 0 ≤ u (l[k]?.getD 0) ∧ u (l[k]?.getD 0) ≤ 99) (ho : 0 ≤ off)
    (hc : ∀ k, k < m → (pix ps' (l[k]?.getD 0) - pix ps (l[k]?.getD 0)).natAbs ≤ off.natAbs) (hD : ∀ f : Int, 0 < tden u ps l f off m ∧ 0 < tden u ps l f (-off) m) (hs : 0 < psum ps' l) :
    leastQ u ps l off ≤ mean1 u ps' l ∧ mean1 u ps' l ≤ mostQ u ps l off := by
  obtain ⟨N, hN⟩ : ∃ N, sumK (fun i => u i * pix ps' i) l l.length = N := ⟨_, rfl⟩
  obtain ⟨D, hDD⟩ : ∃ D, psum ps' l = D := ⟨_, rfl⟩
  have hm1 : mean1 u ps' l = Rat.divInt N D := by unfold mean1; rw [hN, hDD]
  rw [hDD] at hs
  rw [hm1]
  have hN2 : sumK (fun i => u i * pix ps' i) l m = N := by rw [← hlm]; exact hN
  have hD2 : sumK (pix ps') l m = D := by rw [← hlm]; exact hDD
  obtain ⟨f, hf⟩ : ∃ f : Nat, f = atMost (upTo N D) := ⟨_, rfl⟩
  have hf100 : f ≤ 100 := by rw [hf]; exact atMost_le _
  have hfu : ∀ k, k < m → ((f : Int) ≤ u (l[k]?.getD 0) ↔ N ≤ u (l[k]?.getD 0) * D) := fun k hk => by
    rw [hf, atMost_iff (hu k hk).1 (hu k hk).2, upTo_iff hs]
  clear hf hm1 hN hDD
  have key : ∀ k, k ≤ m → D * tnum u ps l f (-off) k - N * tden u ps l f (-off) k ≤ D * sumK (fun i => u i * pix ps' i) l k - N * sumK (pix ps') l k ∧ D * sumK (fun i => u i * pix ps' i) l k - N * sumK (pix ps') l k ≤ D * tnum u ps l f off k - N * tden u ps l f off k := by
    intro k
    induction k with
    | zero => intro _; simp [tnum, tden, sumK]
    | succ k ih =>
      intro hk
      obtain ⟨i1, i2⟩ := ih (by omega)
      have hck := hc k (by omega)
      have hfk := hfu k (by omega)
      have e1 : ∀ o, tnum u ps l f o (k + 1) = tnum u ps l f o k + u (l[k]?.getD 0) * tv f o (u (l[k]?.getD 0)) (pix ps (l[k]?.getD 0)) := fun o => rfl
      have e2 : ∀ o, tden u ps l f o (k + 1) = tden u ps l f o k + tv f o (u (l[k]?.getD 0)) (pix ps (l[k]?.getD 0)) := fun o => rfl
      have e3 : sumK (fun i => u i * pix ps' i) l (k + 1) = sumK (fun i => u i * pix ps' i) l k + u (l[k]?.getD 0) * pix ps' (l[k]?.getD 0) := rfl
      have e4 : sumK (pix ps') l (k + 1) = sumK (pix ps') l k + pix ps' (l[k]?.getD 0) := rfl
      rw [e1, e1, e2, e2, e3, e4]
      generalize u (l[k]?.getD 0) = x at *
      generalize pix ps' (l[k]?.getD 0) = p' at *
      generalize pix ps (l[k]?.getD 0) = p at *
      generalize tnum u ps l f (-off) k = a1 at *
      generalize tden u ps l f (-off) k = a2 at *
      generalize tnum u ps l f off k = b1 at *
      generalize tden u ps l f off k = b2 at *
      generalize sumK (fun i => u i * pix ps' i) l k = c1 at *
      generalize sumK (pix ps') l k = c2 at *
      have s1 : (x * D - N) * (tv f (-off) x p - p') ≤ 0 := by
        unfold tv
        by_cases h : (f : Int) ≤ x
        · rw [if_pos h]
          have := hfk.1 h
          exact Int.mul_nonpos_of_nonneg_of_nonpos (by omega) (by omega)
        · rw [if_neg h]
          have : ¬ N ≤ x * D := fun h2 => h (hfk.2 h2)
          exact Int.mul_nonpos_of_nonpos_of_nonneg (by omega) (by omega)
      have s2 : 0 ≤ (x * D - N) * (tv f off x p - p') := by
        unfold tv
        by_cases h : (f : Int) ≤ x
        · rw [if_pos h]
          have := hfk.1 h
          exact Int.mul_nonneg (by omega) (by omega)
        · rw [if_neg h]
          have : ¬ N ≤ x * D := fun h2 => h (hfk.2 h2)
          exact Int.mul_nonneg_of_nonpos_of_nonpos (by omega) (by omega)
      generalize tv f (-off) x p = t1 at *
      generalize tv f off x p = t2 at *
      refine ⟨by grind, by grind⟩
  obtain ⟨k1, k2⟩ := key m (Nat.le_refl _)
  rw [hN2, hD2] at k1 k2
  have z : D * N - N * D = 0 := by grind
  rw [z] at k1 k2
  constructor
  · rw [leastQ_loop]
    refine Rat.le_trans (loopQ_le 100 f hf100) ?_
    show Rat.divInt (tnum u ps l f (-off) l.length) (tden u ps l f (-off) l.length) ≤ _
    rw [hlm]
    exact divInt_le' (hD f).2 hs (by grind)
  · rw [mostQ_loop]
    refine Rat.le_trans ?_ (loopQ_ge 100 f hf100)
    show _ ≤ Rat.divInt (tnum u ps l f off l.length) (tden u ps l f off l.length)
    rw [hlm]
    exact divInt_le' hs (hD f).1 (by grind)

/-- Places behind the last column tilt alike. -/
theorem tq_beyond {u : Int → Int} {ps l : List Int} {W off : Int} {m i : Nat} (hlm : l.length = m) (hu : ∀ k, k < m → u (l[k]?.getD 0) < W) (hi : W ≤ i) : tq u ps l i off = tq u ps l W off := by
  have h : ∀ k, k ≤ m → tnum u ps l i off k = tnum u ps l W off k ∧ tden u ps l i off k = tden u ps l W off k := by
    intro k
    induction k with
    | zero => intro _; exact ⟨rfl, rfl⟩
    | succ k ih =>
      intro hk
      obtain ⟨i1, i2⟩ := ih (by omega)
      have huk := hu k (by omega)
      have e1 : ∀ f, tnum u ps l f off (k + 1) = tnum u ps l f off k + u (l[k]?.getD 0) * tv f off (u (l[k]?.getD 0)) (pix ps (l[k]?.getD 0)) := fun o => rfl
      have e2 : ∀ f, tden u ps l f off (k + 1) = tden u ps l f off k + tv f off (u (l[k]?.getD 0)) (pix ps (l[k]?.getD 0)) := fun o => rfl
      have e3 : tv i off (u (l[k]?.getD 0)) (pix ps (l[k]?.getD 0)) = tv W off (u (l[k]?.getD 0)) (pix ps (l[k]?.getD 0)) := by
        unfold tv; rw [if_neg (by omega), if_neg (by omega)]
      rw [e1, e1, e2, e2, e3, i1, i2]
      exact ⟨rfl, rfl⟩
  unfold tq
  rw [hlm, (h m (Nat.le_refl _)).1, (h m (Nat.le_refl _)).2]
theorem any_reached {q : Nat → Rat} {r : Rat} {k : Nat} (h : ∃ i, i ≤ k ∧ q i = r) : ((List.range (k + 1)).any fun i => decide (q i = r)) = true := by
  obtain ⟨i, h1, h2⟩ := h
  rw [List.any_eq_true]
  exact ⟨i, by simp; omega, by simpa using h2⟩
theorem least_reached {u : Int → Int} {ps l : List Int} {off : Int} {W m : Nat} (hlm : l.length = m) (hu : ∀ k, k < m → u (l[k]?.getD 0) < W) :
    ((List.range (W + 1)).any fun i => decide (tq u ps l (i : Nat) (-off) = leastQ u ps l off)) = true ∧ ((List.range (W + 1)).any fun i => decide (tq u ps l (i : Nat) off = mostQ u ps l off)) = true := by
  constructor
  · rw [leastQ_loop]
    obtain ⟨i, h1, h2⟩ := loopQ_mem cmpQ (fun f => tq u ps l (f : Nat) (-off)) 100
    rw [h2]
    by_cases hi : i ≤ W
    · exact any_reached (q := fun f => tq u ps l (f : Nat) (-off)) ⟨i, hi, rfl⟩
    · exact any_reached (q := fun f => tq u ps l (f : Nat) (-off)) ⟨W, Nat.le_refl _, (tq_beyond (W := (W : Int)) hlm hu (by omega)).symm⟩
  · rw [mostQ_loop]
    obtain ⟨i, h1, h2⟩ := loopQ_mem (fun a b => cmpQ b a) (fun f => tq u ps l (f : Nat) off) 100
    rw [h2]
    by_cases hi : i ≤ W
    · exact any_reached (q := fun f => tq u ps l (f : Nat) off) ⟨i, hi, rfl⟩
    · exact any_reached (q := fun f => tq u ps l (f : Nat) off) ⟨W, Nat.le_refl _, (tq_beyond (W := (W : Int)) hlm hu (by omega)).symm⟩
end Go.Proofs.Ytkippclhbkjbmaa
