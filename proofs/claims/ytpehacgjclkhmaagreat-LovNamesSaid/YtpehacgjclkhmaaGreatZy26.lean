/- Reference of frac: Add, Sub, Mul, Div of small fractions -/
import Derived.Test.YtpehacgjclkhmaaGreatZy25
set_option linter.unusedSimpArgs false
set_option linter.unusedVariables false
namespace Go.Proofs.YtpehacgjclkhmaaGreat
open Go.RowKit
attribute [local go_sem] Zg
def cmpQ (a b : Rat) : Int:=if a < b then -1 else if b < a then 1 else 0
theorem Zpm (a b : Rat) : Zbp (a.num * b.den) (b.num * a.den) = cmpQ a b:=by
 unfold Zbp cmpQ;simp only [Rat.lt_iff]
end Go.Proofs.YtpehacgjclkhmaaGreat
