/- The reference's System, without a right side. The -/
import Derived.Test.YthappeninglakaaGreatZg15
set_option linter.unusedSimpArgs false
set_option linter.unusedVariables false
namespace Go.Proofs.YthappeninglakaaGreat
open Go.RowKit
attribute [local go_sem] Zg
theorem Zoo(w:World):LimI w none 0 0 []:=⟨rfl,Nat.le_refl _,Nat.zero_le _,by simp,λh=>absurd h (by omega)⟩
