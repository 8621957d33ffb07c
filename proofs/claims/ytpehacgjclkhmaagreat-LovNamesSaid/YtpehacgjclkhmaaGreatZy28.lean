/- Reference of frac: Reduced, product with any denominator -/
import Derived.Test.YtpehacgjclkhmaaGreatZy26
set_option linter.unusedSimpArgs false
set_option linter.unusedVariables false
namespace Go.Proofs.YtpehacgjclkhmaaGreat
open Go.RowKit
attribute [local go_sem] Zg
theorem Zgk (a b : Rat) (h : b ≠ 0) : Rat.divInt (a.num * b.den) ((a.den : Int) * b.num) = a / b:=by
 rw [Rat.divInt_eq_div,Rat.intCast_mul,Rat.intCast_mul,Rat.intCast_natCast,Rat.intCast_natCast]
 have e0 : ∀ x : Rat,((x.num : Int) : Rat) = x * ((x.den : Nat) : Rat):=fun x=>by
  have h1 : ((x.num : Int) : Rat) / ((x.den : Nat) : Rat) = x:=by have:=Rat.num_divInt_den x;rw [Rat.divInt_eq_div,Rat.intCast_natCast] at this;exact this
  have h2 : ((x.den : Nat) : Rat) ≠ 0:=by intro h;have : x.den = 0:=by exact_mod_cast h
                                          have:=x.den_pos;omega
  rw [<- h1];grind
 have d : ∀ x : Rat,((x.den : Nat) : Rat) ≠ 0:=fun x h=>by
  have : x.den = 0:=by exact_mod_cast h
  have:=x.den_pos;omega
 rw [e0 a,e0 b];have da:=d a;have db:=d b
 grind
theorem Zh7 (a b : Rat) (h : b ≠ 0) : ((a.den : Int) * b.num) ≠ 0:=by
 have h1:=a.den_pos
 have h2 : b.num ≠ 0:=fun e=>h (Rat.num_eq_zero.1 e)
 exact Int.mul_ne_zero (by omega) h2
end Go.Proofs.YtpehacgjclkhmaaGreat
