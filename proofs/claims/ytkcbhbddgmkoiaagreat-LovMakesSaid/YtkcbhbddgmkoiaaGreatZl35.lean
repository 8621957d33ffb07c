/- Slices of int64 (and int) in memory; slices.Max, slices.Min. -/
import Derived.BigQuiet
import Derived.LoopTactic
import Derived.Deep.QuietTactic
import Derived.Test.YtkcbhbddgmkoiaaGreatChecked
import Derived.Test.YtkcbhbddgmkoiaaGreatZl01
set_option linter.unusedSimpArgs false
set_option linter.unusedVariables false
namespace Go.Proofs.YtkcbhbddgmkoiaaGreat
open Go.RowKit
attribute [local go_sem] Zg
def I64 (z : Int) : Prop:=-9223372036854775808 <= z /\ z <= 9223372036854775807
end Go.Proofs.YtkcbhbddgmkoiaaGreat
