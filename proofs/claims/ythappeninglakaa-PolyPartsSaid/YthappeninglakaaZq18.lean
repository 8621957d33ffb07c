/- Slices of int64 (and int) in memory; slices.Max, slices.Min. -/
import Derived.BigQuiet
import Derived.LoopTactic
import Derived.Deep.QuietTactic
import Derived.Test.YthappeninglakaaChecked
import Derived.Test.YthappeninglakaaZq01
set_option linter.unusedSimpArgs false
set_option linter.unusedVariables false
namespace Go.Proofs.Ythappeninglakaa
open Go.RowKit
attribute [local go_sem] Zj
end Go.Proofs.Ythappeninglakaa
