/- Package frac: the closures of Sub (and Add where the seat has it). -/
import Derived.Test.YtljocgdhdilglaaGreatZr37
set_option linter.unusedSimpArgs false
set_option linter.unusedVariables false

namespace Go.Proofs.YtljocgdhdilglaaGreat
open Go.RowKit
attribute [local go_sem] add_lit

end Go.Proofs.YtljocgdhdilglaaGreat
