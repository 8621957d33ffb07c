/- The reference of linear: clear. -/
import Derived.Deep.LoopGhost
import Derived.Test.YtpehacgjclkhmaaGreatZy36
set_option linter.unusedSimpArgs false
set_option linter.unusedVariables false
namespace Go.Proofs.YtpehacgjclkhmaaGreat
open Go.RowKit
attribute [local go_sem] Zg
theorem list_at {α : Type} {L : List α} {i : Nat} (h : i < L.length) : ∃ r,L[i]? = some r:=⟨_,List.getElem?_eq_getElem h⟩
end Go.Proofs.YtpehacgjclkhmaaGreat
