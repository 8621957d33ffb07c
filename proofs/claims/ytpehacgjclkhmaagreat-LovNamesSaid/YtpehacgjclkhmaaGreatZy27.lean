/- Rows of fractions: Few, Large, and the reference's vector. -/
import Derived.Test.YtpehacgjclkhmaaGreatZy26
set_option linter.unusedSimpArgs false
set_option linter.unusedVariables false
namespace Go.Proofs.YtpehacgjclkhmaaGreat
open Go.RowKit
attribute [local go_sem] Zg
end Go.Proofs.YtpehacgjclkhmaaGreat
