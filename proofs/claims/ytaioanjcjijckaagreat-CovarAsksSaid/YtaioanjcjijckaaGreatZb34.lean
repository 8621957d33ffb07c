/- The reference of frac: Neg; the reference of linear: det. -/
import Derived.Test.YtaioanjcjijckaaGreatZb33
set_option linter.unusedSimpArgs false
set_option linter.unusedVariables false
namespace Go.Proofs.YtaioanjcjijckaaGreat
open Go.RowKit
attribute [local go_sem] Zf
theorem BdR.mono {C D C' D' m:Nat} {R:List (List Rat)} (h:BdR C D m R) (hC:C <= C') (hD:D <= D'):BdR C' D' m R:=⟨h.1,fun i j=>⟨Nat.lt_of_lt_of_le (h.2 i j).1 hC,Nat.lt_of_lt_of_le (h.2 i j).2 hD⟩⟩
theorem Zj2 {C D C' D' m:Nat} (hC:C <= C') (hD:D <= D'):∀ (f c r:Nat) (R:List (List Rat)),okR C D m f c r R->okR C' D' m f c r R
 | 0,_,_,_,h=>BdR.mono h hC hD
 | f+1,c,r,R,h=>⟨h.1.mono hC hD,h.2.imp id (fun ⟨h1,h2⟩=>⟨fun e=>Zj2 hC hD f _ _ _ (h1 e),fun e=>Zj2 hC hD f _ _ _ (h2 e)⟩)⟩
end Go.Proofs.YtaioanjcjijckaaGreat
