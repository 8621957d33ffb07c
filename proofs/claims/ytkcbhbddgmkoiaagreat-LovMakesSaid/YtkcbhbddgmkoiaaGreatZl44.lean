/- Package linear: vector, Check, square; the reference's -/
import Derived.Deep.LoopGhost
import Derived.Test.YtkcbhbddgmkoiaaGreatZl42
set_option linter.unusedSimpArgs false
set_option linter.unusedVariables false
namespace Go.Proofs.YtkcbhbddgmkoiaaGreat
open Go.RowKit
attribute [local go_sem] Zg
structure RI where
 A : Option Addr
 n : Nat
 c : Nat
 l : List Int
section
variable {w w' : World} {A : Option Addr} {n c : Nat} {rs : List RI}
end
end Go.Proofs.YtkcbhbddgmkoiaaGreat
