/- An append of numbers, and whose block it yields; what the -/
import Derived.Test.YtaioanjcjijckaaGreatZb39
set_option linter.unusedSimpArgs false
set_option linter.unusedVariables false
namespace Go.Proofs.YtaioanjcjijckaaGreat
open Go.RowKit
section
variable {P:Program} (w:World)
end
end Go.Proofs.YtaioanjcjijckaaGreat
