/- The reference's System, without a right side. The -/
import Derived.Test.YtdkhcplnoomcbaaGreatDoorZb15
set_option linter.unusedSimpArgs false
set_option linter.unusedVariables false
namespace Go.Proofs.YtdkhcplnoomcbaaGreatDoor
open Go.RowKit
attribute [local go_sem] Zf
