/- Rows of fractions in a block of the call's own, whose -/
import Derived.Test.YtpehacgjclkhmaaGreatZw33
import Derived.Test.YtpehacgjclkhmaaGreatZw28
set_option linter.unusedSimpArgs false
set_option linter.unusedVariables false
namespace Go.Proofs.YtpehacgjclkhmaaGreat
open Go.RowKit
section
variable {w : World} {g i : Nat} {na : Bool} {A : Option Addr} {n c : Nat} {nb : Bool} {B : Option Addr} {m d : Nat}
end
section
variable {t : TypeId} {w w' : World} {g : Nat} {qs : List Rat}
end
structure RF where
 g : Nat
 c : Nat
 q : List Rat
section
variable {tS tF : TypeId} {w w' : World} {go : Nat} {L : List RF}
end
section
variable {a b : Rat} {i j k l : Nat}
theorem SmN.mulN (h : SmN i j a) (g : SmN k l b) : SmN (i + k) (j + l) (a * b):=by
 rw [<- Zoe a b];have hd : ((a.den : Int) * (b.den : Nat)) ≠ 0:=Int.ne_of_gt (Zc3 a b);refine ⟨Nat.lt_of_le_of_lt (Zrg _ _ hd) ?_,Nat.lt_of_le_of_lt (Zqm _ _ hd) ?_⟩
 ·rw [Int.natAbs_mul];exact Zda h.1 g.1
 ·rw [Int.natAbs_mul,Int.natAbs_natCast,Int.natAbs_natCast];exact Zda h.2 g.2
theorem SmN.divN (h : SmN i j a) (g : SmN k l b) (h0 : b ≠ 0) : SmN (i + l) (j + k) (a / b):=by
 rw [<- Zgx a b h0];have hd:=Ziy a b h0;refine ⟨Nat.lt_of_le_of_lt (Zrg _ _ hd) ?_,Nat.lt_of_le_of_lt (Zqm _ _ hd) ?_⟩
 ·rw [Int.natAbs_mul,Int.natAbs_natCast];exact Zda h.1 g.2
 ·rw [Int.natAbs_mul,Int.natAbs_natCast];exact Zda h.2 g.1
end
theorem pw_pow (k n : Nat) : pw k ^ n = pw (k * n):=by
 induction n with
 | zero=>rfl
 | succ n ih=>rw [Nat.pow_succ,ih,Nat.mul_succ,Zeg]
theorem le_pw1 {n : Nat} (h : n <= 900) : n <= pw 1:=by rw [Zaf,Zbv];omega
theorem Zon {b : Nat} : ∀ n,n <= 900 -> Zek (pw b) n <= pw ((b + 1) * n)
 | 0,_=>Nat.le_refl _
 | n + 1,h=>by
  have h1:=Zon (b:=b) n (by omega);have h2 : (n + 1) * (pw b * Zek (pw b) n) <= pw 1 * (pw b * pw ((b + 1) * n)):=Nat.mul_le_mul (le_pw1 h) (Nat.mul_le_mul (Nat.le_refl _) h1);rw [<- Zeg,<- Zeg] at h2;rw [show (b + 1) * (n + 1) = 1 + (b + (b + 1) * n) by rw [Nat.mul_succ];omega];exact h2
def SmE (k : Nat) (Q : List (List Rat)) : Prop:=∀ i j,(Zp Q i j).num.natAbs <= pw k /\ (Zp Q i j).den <= pw k
section
variable {k n m : Nat} {Q : List (List Rat)}
theorem SmE.denTo (h : SmE k Q) (i t : Nat) : denTo (Q[i]?.getD []) t <= pw (k * t):=by
 rw [<- pw_pow];exact Zq2 _ (fun j=>(h i j).2) t
theorem SmE.denAt (h : SmE k Q) {i : Nat} (hr : (Q[i]?.getD []).length = m) : denAt Q i <= pw (k * m):=by
 have:=h.denTo i m;unfold Go.Proofs.YtpehacgjclkhmaaGreat.denAt;rw [hr];exact this
theorem Zky {z : Int} {d : Nat} {q : Rat} (h : (z : Rat) = (d : Nat) * q) : z.natAbs <= d * q.num.natAbs:=by
 have h1 : (z : Rat) * ((q.den : Nat) : Rat) = ((d : Nat) : Rat) * ((q.num : Int) : Rat):=by
  have e0 : ((q.num : Int) : Rat) / ((q.den : Nat) : Rat) = q:=by have:=Rat.num_divInt_den q;rw [Rat.divInt_eq_div,Rat.intCast_natCast] at this;exact this
  have e1 : ((q.den : Nat) : Rat) ≠ 0:=by
   intro h;have : q.den = 0:=by exact_mod_cast h
   have:=q.den_pos;omega
  have e2 : ((q.num : Int) : Rat) = q * ((q.den : Nat) : Rat):=by
   have : ((q.num : Int) : Rat) / ((q.den : Nat) : Rat) * ((q.den : Nat) : Rat) = ((q.num : Int) : Rat):=by grind
   rw [e0] at this;exact this.symm
  rw [h,e2];grind
 have h2 : z * (q.den : Int) = (d : Int) * q.num:=by exact_mod_cast h1
 have h3:=congrArg Int.natAbs h2;rw [Int.natAbs_mul,Int.natAbs_mul,Int.natAbs_natCast,Int.natAbs_natCast] at h3;rw [<- h3];exact Nat.le_mul_of_pos_right _ q.den_pos
theorem SmE.whole (h : SmE k Q) {i : Nat} (hr : (Q[i]?.getD []).length = m) (j : Nat) : (entZ (Zd5 Q) i j).natAbs <= pw (k * m + k):=by
 refine Nat.le_trans (Zky (Zfp Q i j)) ?_;rw [Zeg];exact Nat.mul_le_mul (h.denAt hr) (h i j).1
end
def qM (rs : List RX) : List (List Rat):=rs.map fun r=>r.es.map FX.q
section
variable {w : World} {A : Option Addr} {n c : Nat} {rs : List RX}
theorem qM_len (h : MXL w A n c rs) : (qM rs).length = n:=by unfold qM;rw [List.length_map];exact h.1
end
end Go.Proofs.YtpehacgjclkhmaaGreat
