/- What a region with one call and one new variable for a -/
import Derived.Test.YtkcbhbddgmkoiaaGreatZc36
set_option linter.unusedSimpArgs false
set_option linter.unusedVariables false
namespace Go.Proofs.YtkcbhbddgmkoiaaGreat
open Go.RowKit
theorem Fr.zero_iff {w : World} {na : Bool} {A : Option Addr} {n c : Nat} {nb : Bool} {B : Option Addr} {m d : Nat} {r : Rat} (h : Fr w na A n c nb B m d r) : n = 0 ↔ r = 0:=by
 have h1:=h.1.lim.len;have h2:=length_digits_pos (v:=r.num.natAbs)
 constructor
 ·intro hn
  have : r.num = 0:=by omega
  exact Rat.num_eq_zero.1 this
 ·rintro rfl
  have : (0 : Rat).num.natAbs = 0:=rfl;omega
end Go.Proofs.YtkcbhbddgmkoiaaGreat
