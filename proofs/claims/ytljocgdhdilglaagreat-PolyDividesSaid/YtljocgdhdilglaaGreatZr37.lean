/- Package frac: the closure of Mul. -/
import Derived.Test.YtljocgdhdilglaaGreatZr33
import Derived.Test.YtljocgdhdilglaaGreatZr35
set_option linter.unusedSimpArgs false
set_option linter.unusedVariables false

namespace Go.Proofs.YtljocgdhdilglaaGreat
open Go.RowKit
attribute [local go_sem] add_lit

theorem ResP.code0 {w : World} {z : Int} {neg : Bool} {A : Option Addr} {n c : Nat} {code : Int} (h : ResP w z neg A n c code) (hs : z.natAbs < pw 4096) : code = 0 := by
  rcases h with ⟨_, h, _⟩ | ⟨h, _⟩
  · exact h
  · omega
theorem Fr.drew {w : World} {na : Bool} {A : Option Addr} {n c : Nat} {nb : Bool} {B : Option Addr} {m d : Nat} {r : Rat} (h : Fr w na A n c nb B m d r) : Fr w.drew na A n c nb B m d r := h
theorem Wd.drew {w : World} {neg : Bool} {A : Option Addr} {n c : Nat} {z : Int} (h : Wd w neg A n c z) : Wd w.drew neg A n c z := h
/-- A result (numerator, denominator). -/
def PairW (w : World) (x y : Int) (e : Ending) (w' : World) : Prop :=
  Below w.heap.size w w' ∧ ∃ na A n c nb B m d, e = .returned (.tuple #[.agg #[.bool na, .slice A n c], .agg #[.bool nb, .slice B m d]]) ∧ Wd w' na A n c x ∧ Wd w' nb B m d y

end Go.Proofs.YtljocgdhdilglaaGreat
