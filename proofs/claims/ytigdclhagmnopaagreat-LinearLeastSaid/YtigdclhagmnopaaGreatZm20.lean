/- Rows of fractions: Few, Large, and the reference's vector. -/
import Derived.Test.YtigdclhagmnopaaGreatZm19
set_option linter.unusedSimpArgs false
set_option linter.unusedVariables false
namespace Go.Proofs.YtigdclhagmnopaaGreat
open Go.RowKit
attribute [local go_sem] Zh
def IdxB (w : World) (b : Bool) (e : Ending) (w' : World) : Prop := ∃ i : Int, e = .returned (.int .i64 i) /\ decide (0 <= i) = b /\ Below w.heap.size w w'
end Go.Proofs.YtigdclhagmnopaaGreat
