/- Package linear: whole. -/
import Derived.Test.YtaioanjcjijckaaGreatZb40
set_option linter.unusedSimpArgs false
set_option linter.unusedVariables false
namespace Go.Proofs.YtaioanjcjijckaaGreat
open Go.RowKit
attribute [local go_sem] Zf
section
variable {tS tF:TypeId} {w w':World} {base:Nat} {v v':Value} {L:List RZ}
end
section
variable {tS tW t':TypeId} {w:World} {base:Nat} {v:Value} {L:List RZ} {xs:List Int} {rs:List RS}
end
section
variable {tS tW tG:TypeId} {w w' W0:World} {g3 gd gO base:Nat} {v1 v1' v2 v2':Value} {L:List RZ} {xs q:List Int} {dn:Bool} {dA:Option Addr} {dk dc:Nat} {D:Int}
end
end Go.Proofs.YtaioanjcjijckaaGreat
