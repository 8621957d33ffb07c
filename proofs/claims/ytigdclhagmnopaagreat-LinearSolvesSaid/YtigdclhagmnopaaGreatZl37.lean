/- The reference of linear: Rank, Posdef. -/
import Derived.Test.YtigdclhagmnopaaGreatZl34
import Derived.Test.YtigdclhagmnopaaGreatZl36
set_option linter.unusedSimpArgs false
set_option linter.unusedVariables false
namespace Go.Proofs.YtigdclhagmnopaaGreat
open Go.RowKit
attribute [local go_sem] Zi
def qM (rs : List RX) : List (List Rat) := rs.map fun r => r.es.map FX.q
theorem Zbg {rs : List RX} (h : Zdc rs = 0) : 0 < rs.length /\ rs.length <= 12 /\ 0 < n0R rs /\ n0R rs <= 12 /\ ∀ r ∈ rs, r.n = n0R rs /\ Za7 r.es = true := by
 unfold Zdc at h
 split at h
 ·exact absurd h (by decide)
 ·rename_i h1
  split at h
  ·exact absurd h (by decide)
  ·rename_i h2
   split at h
   ·rename_i h3
    rw [List.all_eq_true] at h3
    have hf : ∀ r ∈ rs, r.n = n0R rs /\ Za7 r.es = true := fun r hr => by
     have := h3 r hr
     unfold Zcm at this
     simpa using this
    unfold Zdx at h1
    simp only [Bool.or_eq_true, decide_eq_true_eq, not_or, Nat.not_lt, Bool.not_eq_true, List.any_eq_false] at h1
    have hne : rs ≠ [] := fun e => h2 (by rw [e]; rfl)
    obtain ⟨r, hr⟩ := List.exists_mem_of_ne_nil rs hne
    have h4 : ¬ 12 < r.n := by have := h1.2 r hr; unfold RX.long at this; simpa using this
    have h5 := hf r hr
    exact ⟨List.length_pos_iff.2 hne, h1.1, by omega, by omega, hf⟩
   ·exact absurd h (by decide)
theorem Zor {es : List FX} (h : Za7 es = true) : ∀ e ∈ es, e.ok = true := fun e he => by
 unfold Za7 at h
 rw [List.all_eq_true] at h
 have := h e he
 unfold FX.fine at this
 rw [Bool.and_eq_true] at this
 exact this.2
section
variable {w : World} {A : Option Addr} {n c : Nat} {rs : List RX}
theorem MXL.good (h : MXL w A n c rs) (hE : Zdc rs = 0) : MFL w A n c (qM rs) := h.mfl fun r hr => Zor ((Zbg hE).2.2.2.2 r hr).2
theorem Zmg (h : MXL w A n c rs) : (qM rs).length = n := by unfold qM; rw [List.length_map]; exact h.1
theorem Zgb (h : MXL w A n c rs) (hE : Zdc rs = 0) (i : Nat) (hi : i < n) : ((qM rs)[i]?.getD []).length = n0R rs := by
 unfold qM
 have he := List.getElem?_eq_getElem (l := rs) (i := i) (by rw [h.1]; exact hi)
 rw [List.getElem?_map, he]
 simp only [Option.map_some, Option.getD_some, List.length_map]
 have hm := List.getElem_mem (l := rs) (n := i) (by rw [h.1]; exact hi)
 rw [(h.2.2.2.1 _ hm).1, ((Zbg hE).2.2.2.2 _ hm).1]
end
end Go.Proofs.YtigdclhagmnopaaGreat
