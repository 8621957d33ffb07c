/- The reference's System. -/
import Derived.Test.YtdkhcplnoomcbaaGreatDoorZb14
set_option linter.unusedSimpArgs false
set_option linter.unusedVariables false
namespace Go.Proofs.YtdkhcplnoomcbaaGreatDoor
open Go.RowKit
attribute [local go_sem] Zf
