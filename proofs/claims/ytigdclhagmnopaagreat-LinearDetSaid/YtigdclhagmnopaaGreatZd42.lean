/- Package frac: Cmp of small fractions. Package linear: -/
import Derived.Test.YtigdclhagmnopaaGreatZd41
set_option linter.unusedSimpArgs false
set_option linter.unusedVariables false
namespace Go.Proofs.YtigdclhagmnopaaGreat
open Go.RowKit
attribute [local go_sem] Zg
def Zro (Q : List (List Rat)) (n : Nat) : Prop:=okZ (pw 200) n n 0 0 (Zr Q) 1 /\ Zf7 Q n n /\ (∀ k,k <= n -> byZ Q k < pw 4096) /\ (Zd4 Q).natAbs < pw 4096 /\ Rat.divInt (Zd4 Q) (byZ Q n) = Zph Q
theorem Zfd {C C' m : Nat} (hC : C <= C') : ∀ (f c r : Nat) (Z : List (List Int)) (la : Int),okZ C m f c r Z la -> okZ C' m f c r Z la
 | 0,_,_,_,_,h=>⟨⟨h.1.1,fun i j=>Nat.lt_of_lt_of_le (h.1.2 i j) hC⟩,h.2.1,Nat.lt_of_lt_of_le h.2.2 hC⟩
 | f + 1,_,_,_,_,h=>⟨⟨h.1.1,fun i j=>Nat.lt_of_lt_of_le (h.1.2 i j) hC⟩,⟨h.2.1.1,Nat.lt_of_lt_of_le h.2.1.2 hC⟩,h.2.2.imp id (fun ⟨h1,h2⟩=>⟨fun e=>Zfd hC f _ _ _ _ (h1 e),fun e=>Zfd hC f _ _ _ _ (h2 e)⟩)⟩
theorem pw_pow (k n : Nat) : pw k ^ n = pw (k * n):=by
 induction n with
 | zero=>rfl
 | succ n ih=>rw [Nat.pow_succ,ih,Nat.mul_succ,Zdf]
theorem le_pw1 {n : Nat} (h : n <= 900) : n <= pw 1:=by rw [Zbd,Zdc];omega
theorem Zfo {b : Nat} : ∀ n,n <= 900 -> Za0 (pw b) n <= pw ((b + 1) * n)
 | 0,_=>Nat.le_refl _
 | n + 1,h=>by
  have h1:=Zfo (b:=b) n (by omega);have h2 : (n + 1) * (pw b * Za0 (pw b) n) <= pw 1 * (pw b * pw ((b + 1) * n)):=Nat.mul_le_mul (le_pw1 h) (Nat.mul_le_mul (Nat.le_refl _) h1);rw [<- Zdf,<- Zdf] at h2;rw [show (b + 1) * (n + 1) = 1 + (b + (b + 1) * n) by rw [Nat.mul_succ];omega];exact h2
def SmE (k : Nat) (Q : List (List Rat)) : Prop:=∀ i j,(Zn Q i j).num.natAbs <= pw k /\ (Zn Q i j).den <= pw k
section
variable {k n m : Nat} {Q : List (List Rat)}
theorem SmE.denTo (h : SmE k Q) (i t : Nat) : denTo (Q[i]?.getD []) t <= pw (k * t):=by
 rw [<- pw_pow];exact Zoq _ (fun j=>(h i j).2) t
theorem SmE.denAt (h : SmE k Q) {i : Nat} (hr : (Q[i]?.getD []).length = m) : denAt Q i <= pw (k * m):=by
 have:=h.denTo i m;unfold Go.Proofs.YtigdclhagmnopaaGreat.denAt;rw [hr];exact this
theorem Zn2 {z : Int} {d : Nat} {q : Rat} (h : (z : Rat) = (d : Nat) * q) : z.natAbs <= d * q.num.natAbs:=by
 have h1 : (z : Rat) * ((q.den : Nat) : Rat) = ((d : Nat) : Rat) * ((q.num : Int) : Rat):=by
  have e0 : ((q.num : Int) : Rat) / ((q.den : Nat) : Rat) = q:=by have:=Rat.num_divInt_den q;rw [Rat.divInt_eq_div,Rat.intCast_natCast] at this;exact this
  have e1 : ((q.den : Nat) : Rat) ≠ 0:=by
   intro h;have : q.den = 0:=by exact_mod_cast h
   have:=q.den_pos;omega
  have e2 : ((q.num : Int) : Rat) = q * ((q.den : Nat) : Rat):=by
   have : ((q.num : Int) : Rat) / ((q.den : Nat) : Rat) * ((q.den : Nat) : Rat) = ((q.num : Int) : Rat):=by grind
   rw [e0] at this;exact this.symm
  rw [h,e2];grind
 have h2 : z * (q.den : Int) = (d : Int) * q.num:=by exact_mod_cast h1
 have h3:=congrArg Int.natAbs h2;rw [Int.natAbs_mul,Int.natAbs_mul,Int.natAbs_natCast,Int.natAbs_natCast] at h3;rw [<- h3];exact Nat.le_mul_of_pos_right _ q.den_pos
theorem SmE.whole (h : SmE k Q) {i : Nat} (hr : (Q[i]?.getD []).length = m) (j : Nat) : (Zac (Zr Q) i j).natAbs <= pw (k * m + k):=by
 refine Nat.le_trans (Zn2 (Zf3 Q i j)) ?_;rw [Zdf];exact Nat.mul_le_mul (h.denAt hr) (h i j).1
theorem SmE.byZ (h : SmE k Q) (hrow : ∀ i,i < n -> (Q[i]?.getD []).length = m) : ∀ t,t <= n -> byZ Q t <= pw (k * m * t)
 | 0,_=>Nat.le_refl _
 | t + 1,ht=>by
  have h1:=SmE.byZ h hrow t (by omega);have h2:=h.denAt (hrow t (by omega));rw [Nat.mul_succ,Zdf];exact Nat.mul_le_mul h1 h2
theorem SmE.rank (h : SmE k Q) (hl : Q.length = n) (hn : n <= 900) (hrow : ∀ i,i < n -> (Q[i]?.getD []).length = m) (h1 : (k * m + k + 1) * n + k * m < 189) (h2 : k < 189) :
    okZ (pw 200) m m 0 0 (Zr Q) 1 /\ okR (pw 190) (pw 190) m m 0 0 Q /\ rankZ Q m = rankR Q m /\ Zf7 Q n m:=by
 obtain ⟨o1,o2,o3⟩:=Zmy (B:=pw (k * m + k)) (S:=pw (k * m)) (Zbn _) (Zbn _) Q hl hrow (fun i hi=>h.denAt (hrow i hi)) (fun i j hi=>h.whole (hrow i hi) j) (Nat.le_refl m);have hb:=Zfo (b:=k * m + k) n hn;have hp : Za0 (pw (k * m + k)) n < pw 190:=Nat.lt_of_le_of_lt hb (Zbs (by omega))
 have hp2 : Za0 (pw (k * m + k)) n * pw (k * m) < pw 190:=by
  refine Nat.lt_of_le_of_lt (Nat.mul_le_mul hb (Nat.le_refl _)) ?_;rw [<- Zdf];exact Zbs (by omega)
 refine ⟨Zfd (Nat.le_trans hp (Zbt (by decide))) _ _ _ _ _ o1,Zgv hp hp2 _ _ _ _ o2,o3,fun i t hi ht=>?_,fun i j=>?_⟩
 ·refine Nat.lt_of_le_of_lt (h.denTo i t) (Zbs ?_)
  have : k * t <= k * m:=Nat.mul_le_mul (Nat.le_refl _) ht;omega
 ·exact Nat.lt_of_le_of_lt (h i j).1 (Zbs (by omega))
theorem SmE.det (h : SmE k Q) (hl : Q.length = n) (hn : n <= 900) (hrow : ∀ i,i < n -> (Q[i]?.getD []).length = n) (h1 : (k * n + k + 1) * n + k * n < 189) (h2 : k < 189) (h3 : k * n * n < 4096) :
    Zro Q n /\ okR (pw 190) (pw 190) n n 0 0 Q /\ Zph Q = Zab n (Zn Q):=by
 obtain ⟨o1,o2,o3,o4⟩:=h.rank hl hn hrow h1 h2;obtain ⟨d1,d2,d3⟩:=Zo8 (B:=pw (k * n + k)) (S:=pw (k * n)) (Zbn _) (Zbn _) Q hl hrow (fun i hi=>h.denAt (hrow i hi)) (fun i j hi=>h.whole (hrow i hi) j);have hb:=Zfo (b:=k * n + k) n hn;refine ⟨⟨o1,o4,fun t ht=>?_,Nat.lt_of_le_of_lt (Nat.le_trans d3 hb) (Zbs (by omega)),d1⟩,o2,d2⟩;refine Nat.lt_of_le_of_lt (h.byZ hrow t ht) (Zbs ?_);have : k * n * t <= k * n * n:=Nat.mul_le_mul (Nat.le_refl _) ht;omega
end
theorem Fr.num_lt {w : World} {na : Bool} {A : Option Addr} {n c : Nat} {nb : Bool} {B : Option Addr} {m d : Nat} {r : Rat} (h : Fr w na A n c nb B m d r) : r.num.natAbs < pw n /\ r.den < pw m:=by
 have h1:=h.1.2.2.1;have h2:=h.2.2.2.1;rw [Int.natAbs_natCast] at h2;exact ⟨(Zp _ _).1 (Nat.le_of_eq h1),(Zp _ _).1 (Nat.le_of_eq h2)⟩
theorem Zrf {w : World} {A : Option Addr} {n c : Nat} {rs : List RX} (h : MXL w A n c rs) (hE : Zd0 rs = 0) (hc : calmM rs) : n <= 5 /\ n0R rs <= 5 /\ SmE 2 (qM rs):=by
 obtain ⟨f1,f2,f3,f4,f5⟩:=Zb4 hE;have hl:=h.1
 have hn5 : n <= 5:=by have:=hc.1;omega
 obtain ⟨g,o,r0,-,he0,-,-,hr0⟩:=h.gat hE (k:=0) (by omega);refine ⟨hn5,?_,fun i j=>?_⟩
 ·have:=(hc.2 0 r0 (by omega) he0).1
  omega
 ·unfold Zn qM
  rw [List.getElem?_map]
  cases hr : rs[i]? with
  | none=>exact ⟨Nat.zero_le _,Zbn _⟩
  | some r =>
   simp only [Option.map_some,Option.getD_some,List.getElem?_map]
   cases he : r.es[j]? with
   | none=>exact ⟨Nat.zero_le _,Zbn _⟩
   | some e =>
    simp only [Option.map_some,Option.getD_some];have hrm:=List.mem_of_getElem? hr;have hem:=List.mem_of_getElem? he;have hi:=(List.getElem?_eq_some_iff.1 hr).1;have hF:=h.2.2.2.1 r hrm;have hin:=hF.2.2.2.1 e hem;have hla:=(hc.2 i r (by omega) hr).2 e hem;have hv:=(f5 r hrm).2;unfold Zbx at hv;rw [List.all_eq_true] at hv;have hfi:=hv e hem;unfold FX.fine at hfi;rw [Bool.and_eq_true,decide_eq_true_eq] at hfi
    have hfew : e.few <= 2:=by
     refine Classical.byContradiction fun hx=>?_
     unfold Zei at hla;rw [decide_eq_true (by omega : 2 < e.few),decide_eq_true hfi.1] at hla
     cases hla
    unfold FX.few at hfew;have hfr:=(Zki hin.1 hin.2 hfi.2).num_lt;exact ⟨Nat.le_trans (Nat.le_of_lt hfr.1) (Zbt (by omega)),Nat.le_trans (Nat.le_of_lt hfr.2) (Zbt (by omega))⟩
section
variable {A : Option Addr} {n c : Nat} {rs : List RX} {w : World}
end
end Go.Proofs.YtigdclhagmnopaaGreat
