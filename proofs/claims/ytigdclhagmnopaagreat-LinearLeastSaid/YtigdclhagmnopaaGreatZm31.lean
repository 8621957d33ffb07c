/- The reference of frac: Neg; the reference of linear: det. -/
import Derived.Test.YtigdclhagmnopaaGreatZm30
set_option linter.unusedSimpArgs false
set_option linter.unusedVariables false
namespace Go.Proofs.YtigdclhagmnopaaGreat
open Go.RowKit
attribute [local go_sem] Zh
theorem Zih {C D m : Nat} : ∀ (f c r : Nat) (R : List (List Rat)) (ng : Bool), okR C D m f c r R -> BdR C D m (Z3 f c r R ng).1
 | 0, _, _, _, _, h => h
 | f + 1, c, r, R, ng, h => by
  by_cases h0 : r = R.length
  ·rw [Zkr h0]; exact h.1
  ·obtain ⟨q, hq⟩ : ∃ q, Zau (fun i => Zo R i c == 0) R.length R.length r = q := ⟨_, rfl⟩
   by_cases hn : q = R.length
   ·rw [Zky h0 hq hn]; exact Zih f _ _ _ _ (Zn4 h h0 hq hn)
   ·rw [Zk1 h0 hq hn]; exact Zih f _ _ _ _ (Zn6 h h0 hq hn)
theorem BdR.mono {C D C' D' m : Nat} {R : List (List Rat)} (h : BdR C D m R) (hC : C <= C') (hD : D <= D') : BdR C' D' m R := ⟨h.1, fun i j => ⟨Nat.lt_of_lt_of_le (h.2 i j).1 hC, Nat.lt_of_lt_of_le (h.2 i j).2 hD⟩⟩
theorem Zk6 {C D C' D' m : Nat} (hC : C <= C') (hD : D <= D') : ∀ (f c r : Nat) (R : List (List Rat)), okR C D m f c r R -> okR C' D' m f c r R
 | 0, _, _, _, h => BdR.mono h hC hD
 | f + 1, c, r, R, h => ⟨h.1.mono hC hD, h.2.imp id (fun ⟨h1, h2⟩ => ⟨fun e => Zk6 hC hD f _ _ _ (h1 e), fun e => Zk6 hC hD f _ _ _ (h2 e)⟩)⟩
end Go.Proofs.YtigdclhagmnopaaGreat
