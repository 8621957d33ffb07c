/- Solving a triangular system; the reference's solved. What -/
import Derived.Test.YtaioanjcjijckaaGreatZb44
set_option linter.unusedSimpArgs false
set_option linter.unusedVariables false
namespace Go.Proofs.YtaioanjcjijckaaGreat
open Go.RowKit
attribute [local go_sem] Zf
section
variable {tS tF tW tR tI tX tB t:TypeId} {w w' W0:World} {g gn gX gO Bs go2 n c base i:Nat} {A:Option Addr} {L2:List RZ} {L:List RF} {cs:Array Value} {qs part:List Rat} {xs:List Int} {cur:RS} {row:Option Nat}
end
end Go.Proofs.YtaioanjcjijckaaGreat
