/- The example that every law of the layer looks at: its numbers (plain). -/
import Derived.Test.YtkippclhbkjbmaaZn46
set_option linter.unusedSimpArgs false
set_option linter.unusedVariables false

namespace Go.Proofs.Ytkippclhbkjbmaa
open Go.RowKit

theorem ex_start : startE 3 1 3 [1, 2, 1] [0, 1, 2] = 0 := by decide +kernel
theorem ex_sum : psum [1, 2, 1] [0, 1, 2] = 4 := by decide +kernel
theorem ex_x : prQ (mean1 (colv 3) [1, 2, 1] [0, 1, 2]) = (1, 1) := by decide +kernel
theorem ex_y : prQ (mean1 (rowv 3) [1, 2, 1] [0, 1, 2]) = (0, 1) := by decide +kernel
theorem ex_xx : prQ (central (colv 3) (colv 3) [1, 2, 1] [0, 1, 2]) = (1, 2) := by decide +kernel
theorem ex_bound : boundE 2 1 2 [6, 3] [0, 1] 1 = 0 := by decide +kernel
theorem ex_lx : prQ (leastQ (colv 2) [6, 3] [0, 1] 1) = (2, 9) := by decide +kernel
theorem ex_mx : prQ (mostQ (colv 2) [6, 3] [0, 1] 1) = (4, 9) := by decide +kernel
theorem ex_ly : prQ (leastQ (rowv 2) [6, 3] [0, 1] 1) = (0, 1) := by decide +kernel
theorem ex_my : prQ (mostQ (rowv 2) [6, 3] [0, 1] 1) = (0, 1) := by decide +kernel
theorem of_11 : prQ (Rat.divInt 1 1) = (1, 1) := by decide +kernel
theorem of_01 : prQ (Rat.divInt 0 1) = (0, 1) := by decide +kernel
theorem of_12 : prQ (Rat.divInt 1 2) = (1, 2) := by decide +kernel
theorem of_29 : prQ (Rat.divInt 2 9) = (2, 9) := by decide +kernel
theorem of_49 : prQ (Rat.divInt 4 9) = (4, 9) := by decide +kernel
end Go.Proofs.Ytkippclhbkjbmaa
