/- Reference of frac: added. -/
import Derived.Test.YtpehacgjclkhmaaGreatZy23
set_option linter.unusedSimpArgs false
set_option linter.unusedVariables false
namespace Go.Proofs.YtpehacgjclkhmaaGreat
open Go.RowKit
attribute [local go_sem] Zg
theorem Fr.keep {w W : World} {na : Bool} {A : Option Addr} {n c : Nat} {nb : Bool} {B : Option Addr} {m d : Nat} {r : Rat} (h : Fr w na A n c nb B m d r) (k : ∀ na A n c z,Wd w na A n c z -> Wd W na A n c z) : Fr W na A n c nb B m d r:=⟨k _ _ _ _ _ h.1,k _ _ _ _ _ h.2⟩
end Go.Proofs.YtpehacgjclkhmaaGreat
