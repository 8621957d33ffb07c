/- Package frac: Add of small fractions. -/
import Derived.Test.YtkcbhbddgmkoiaaGreatZl18
set_option linter.unusedSimpArgs false
set_option linter.unusedVariables false
namespace Go.Proofs.YtkcbhbddgmkoiaaGreat
open Go.RowKit
attribute [local go_sem] Zg
end Go.Proofs.YtkcbhbddgmkoiaaGreat
