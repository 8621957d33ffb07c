/- Package linear: det. -/
import Derived.Test.YtigdclhagmnopaaGreatZm40
set_option linter.unusedSimpArgs false
set_option linter.unusedVariables false
namespace Go.Proofs.YtigdclhagmnopaaGreat
open Go.RowKit
attribute [local go_sem] Zh
theorem OwnP.poly_at {t : TypeId} {w : World} {base : Nat} {v : Value} {xs : List Int} (h : OwnP t w base v xs) : ∃ A c, v = .slice A xs.length c /\ xs.length <= c /\ c <= maxLen /\ ∀ k, k < xs.length -> ∃ b neg A1 n1 c1, A = some ⟨b, 0, none⟩ /\ w.cell? ⟨b, k * 2, none⟩ = some (.bool neg) /\ w.cell? ⟨b, k * 2 + 1, none⟩ = some (.slice A1 n1 c1) /\ Wd w neg A1 n1 c1 (xs[k]?.getD 0) := by
 obtain ⟨es, h1, h2, rfl⟩ := h
 rcases h1 with ⟨rfl, rfl⟩ | ⟨g, sp, rfl, h4, h5, h6⟩
 ·exact ⟨none, 0, rfl, Nat.le_refl _, Nat.zero_le _, fun k hk => absurd hk (by simp)⟩
 ·rw [List.length_map]
  refine ⟨_, es.length + sp, rfl, Nat.le_add_right _ _, h5, fun k hk => ?_⟩
  have he := List.getElem?_eq_getElem hk
  have hc := Zhf (es := es ++ List.replicate sp Zb3) (i := k) (e := es[k]) (by rw [List.getElem?_append_left hk]; exact he)
  have hm := h2 es[k] (List.getElem_mem hk)
  refine ⟨g, _, _, _, _, rfl, by rw [h6.cell]; exact hc.1, by rw [h6.cell]; exact hc.2, ?_⟩
  rw [List.getElem?_map, he]
  exact WE.wd hm.1 hm.2
end Go.Proofs.YtigdclhagmnopaaGreat
