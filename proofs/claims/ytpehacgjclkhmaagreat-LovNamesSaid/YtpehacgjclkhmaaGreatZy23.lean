/- Package planisphereref01: Mul. Reference of frac: product. -/
import Derived.Test.YtpehacgjclkhmaaGreatZy22
set_option linter.unusedSimpArgs false
set_option linter.unusedVariables false
namespace Go.Proofs.YtpehacgjclkhmaaGreat
open Go.RowKit
attribute [local go_sem] Zg
end Go.Proofs.YtpehacgjclkhmaaGreat
