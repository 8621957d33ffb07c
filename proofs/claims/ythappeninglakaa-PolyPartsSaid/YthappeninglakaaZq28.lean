/- Sizes along the greatest common divisor of polynomials of -/
import Derived.Test.YthappeninglakaaZq27
set_option maxRecDepth 100000
set_option maxHeartbeats 16000000
set_option linter.unusedSimpArgs false
set_option linter.unusedVariables false
namespace Go.Proofs.Ythappeninglakaa
def KB (E : Nat) : Nat:=10 * (19 - 2 * E) + 12
theorem Zom {b : Nat} : ∀ n,n <= 900 -> Zfo (pw b) n <= pw ((b + 1) * n)
 | 0,_=>by show 1 <= pw ((b + 1) * 0);exact Za7 _
 | n + 1,h=>by
  have h1:=Zom (b:=b) n (by omega)
  have h3 : n + 1 <= pw 1:=by rw [Zal,Zdh];omega
  have h2 : (n + 1) * (pw b * Zfo (pw b) n) <= pw 1 * (pw b * pw ((b + 1) * n)):=Nat.mul_le_mul h3 (Nat.mul_le_mul (Nat.le_refl _) h1);rw [<- Zco,<- Zco] at h2;rw [show (b + 1) * (n + 1) = 1 + (b + (b + 1) * n) by rw [Nat.mul_succ];omega];exact h2
theorem Prs.bnd {P Q a b : List Int} (h : Prs P Q a b) (hQ : Top Q) (hb : Prim b) (hP : Bnd 9 P) (hQb : Bnd 9 Q) (h9 : P.length <= 9) (h9' : Q.length <= 9) : Bnd (KB a.length) b:=fun i=>by
 have h1:=h.bound hQ hb (Za7 9) (fun i=>Nat.le_of_lt (hP i)) (fun i=>Nat.le_of_lt (hQb i)) (n:=8) (by have:=h.ep;omega) i;have h2:=Zom (b:=9) (P.length + Q.length + 1 - 2 * a.length) (by omega);have h3 : pw ((9 + 1) * (P.length + Q.length + 1 - 2 * a.length)) <= pw (10 * (19 - 2 * a.length)):=Zdn (Nat.mul_le_mul_left _ (by omega));have h4:=Nat.mul_le_mul_right (pw 9) (Nat.le_trans h2 h3);have h5 : 0 < pw (10 * (19 - 2 * a.length)) * pw 9:=Nat.mul_pos (Za7 _) (Za7 _)
 have c1 : Cn (2 * 8) 8 = 54114966815:=by decide +kernel
 have e : pw (KB a.length) = 79228162514264337593543950336 * (pw (10 * (19 - 2 * a.length)) * pw 9):=by
  unfold KB;rw [show 10 * (19 - 2 * a.length) + 12 = 10 * (19 - 2 * a.length) + 9 + 3 by omega,Zco,Zco,Nat.mul_comm];rfl
 rw [c1] at h1;rw [e];refine Nat.lt_of_le_of_lt h1 ?_
 generalize pw (10 * (19 - 2 * a.length)) * pw 9 = W at *
 generalize Zfo (pw 9) (P.length + Q.length + 1 - 2 * a.length) * pw 9 = Z at *
 omega
theorem KB_le {E : Nat} (h2 : 2 <= E) (h9 : E <= 9) : KB E + E * (KB E + 1) <= 1000:=by
 unfold KB
 rcases (show E = 2 \/ E = 3 \/ E = 4 \/ E = 5 \/ E = 6 \/ E = 7 \/ E = 8 \/ E = 9 by omega) with rfl | rfl | rfl | rfl | rfl | rfl | rfl | rfl <;> decide
theorem Zpz {E F : Nat} (h : E <= F) : KB F <= KB E:=by unfold KB;omega
theorem Zqb (E : Nat) : 9 <= KB E:=by unfold KB;omega
theorem Zqp (q : List Int) : ∀ k quot rest,(Zec q k quot rest).1.length = quot.length:=by
 intro k
 induction k with
 | zero=>intro quot rest;rfl
 | succ k ih =>
  intro quot rest;unfold Zec
  by_cases h : (Zf rest).length < q.length
  ·rw [if_pos h]
  ·rw [if_neg h,ih,Zct,Zdv]
theorem Zlt (p q : List Int) : (Zan p q).1.length = p.length + 1 - q.length:=by
 unfold Zan;rw [Zqp,List.length_replicate]
theorem Ze5 {r : List Int} (h : Z2 r = true) : ∃ σ : Rat,σ ≠ 0 /\ ∀ x,Ze r x = σ * Ze (Zh r) x:=by
 rcases Za5 h with rfl | h1
 ·exact ⟨1,by decide,fun x=>by show (0 : Rat) = 1 * 0;grind⟩
 ·exact ⟨((signP r : Int) : Rat),fun h2=>h1.sign (by exact_mod_cast h2),Zau r⟩
section
variable {P Q a b : List Int}
theorem Prs.next (h : Prs P Q a b) (hb : Top b) (hok : Zb8 a b = true) : Prs P Q b (Zh (Zan a b).2):=by
 obtain ⟨-,⟨c,hc,e1⟩,e2,e3⟩:=Zb5 hok;obtain ⟨σ,hσ,e4⟩:=Ze5 e3;have hl:=Zlt a b;have:=h.len;refine h.step hb hc hσ ((Zei (Zan a b).1).mono (by omega)) (fun x=>?_) (by rw [Zv];exact e2);rw [<- e4];exact e1 x
theorem Prs.first (hb : Top b) (hl : b.length <= a.length) (hok : Zb8 a b = true) : Prs a b b (Zh (Zan a b).2):=by
 obtain ⟨-,⟨c,hc,e1⟩,e2,e3⟩:=Zb5 hok;obtain ⟨σ,hσ,e4⟩:=Ze5 e3;have hl2:=Zlt a b;refine Prs.start hb hl hc hσ ((Zei (Zan a b).1).mono (by omega)) (fun x=>?_) (by rw [Zv];exact e2);rw [<- e4];exact e1 x
theorem Zl5 (hQ : Top Q) (hP : Bnd 9 P) (hQb : Bnd 9 Q) (h9 : P.length <= 9) (h9' : Q.length <= 9) : ∀ (k : Nat) (a b : List Int),Prs P Q a b -> Zk5 b -> Bnd (KB a.length) a -> b.length <= k -> Zbz k a b = true:=by
 intro k
 induction k with
 | zero =>
  intro a b h hb ha hk;simp only [Zbz,decide_eq_true_eq];exact List.eq_nil_of_length_eq_zero (by omega)
 | succ k ih =>
  intro a b h hb ha hk;unfold Zbz
  by_cases hbe : b = []
  ·rw [if_pos hbe]
  ·rw [if_neg hbe]
   have hbp : Prim b:=by
    rcases hb with h1 | h1
    ·exact h1
    ·exact absurd h1 hbe
   have hbb:=h.bnd hQ hbp hP hQb h9 h9';have hl:=h.len;have hep:=h.ep;have hb1:=hbp.2.1;have hK:=KB_le (E:=a.length) (by omega) (by omega);have hm : (a.length + 1 - b.length) * (KB a.length + 1) <= a.length * (KB a.length + 1):=Nat.mul_le_mul_right _ (by omega);have hok:=(Zfl hbp.top (Nat.le_refl a.length) ha hbb (by omega) (by omega)).1;rw [Bool.and_eq_true];refine ⟨hok,ih b _ (h.next hbp.top hok) (Zch (Zb5 hok).2.2.2) (hbb.mono (Zpz (by omega))) ?_⟩;rw [Zv];have:=(Zb5 hok).2.2.1;omega
end
theorem Zgk {p q : List Int} (hp : Z2 p = true) (hq : Z2 q = true) (hpb : Bnd 9 p) (hqb : Bnd 9 q) (h9 : p.length <= 9) (h9' : q.length <= 9) : Zbz ((Zh q).length + 1) (Zh p) (Zh q) = true:=by
 have ha : Bnd 9 (Zh p):=hpb.part;have hb : Bnd 9 (Zh q):=hqb.part;have ep:=Zch hp;have eq:=Zch hq
 have hla : (Zh p).length <= 9:=by rw [Zv];exact h9
 have hlb : (Zh q).length <= 9:=by rw [Zv];exact h9'
 generalize Zh p = a at *
 generalize Zh q = b at *
 clear hp hq hpb hqb h9 h9';unfold Zbz
 by_cases hbe : b = []
 ·rw [if_pos hbe]
 rw [if_neg hbe,Bool.and_eq_true]
 have hbp : Prim b:=by
  rcases eq with h1 | h1
  ·exact h1
  ·exact absurd h1 hbe
 have hb1:=hbp.2.1
 have hok:=(Zfl hbp.top (Nat.le_refl a.length) ha hb (by omega) (by
  have : (a.length + 1 - b.length) * (9 + 1) <= 9 * (9 + 1):=Nat.mul_le_mul_right _ (by omega)
  omega)).1
 refine ⟨hok,?_⟩;obtain ⟨-,-,e2,e3⟩:=Zb5 hok
 rcases Nat.lt_or_ge a.length b.length with hlt | hge
 ·-- the first step exchanges the two
  have hr : Zh (Zan a b).2 = a:=by
   rcases ep with h1 | h1
   ·have hd : Zan a b = (List.replicate (a.length + 1 - b.length) 0,Zf a):=by
      unfold Zan
      cases hl : a.length with
      | zero=>have:=h1.2.1;omega
      | succ j =>
       unfold Zec;rw [if_pos (by have:=Zbo a;omega)]
    rw [hd];show Zh (Zf a) = a;rw [Zib h1.top]
    exact Zcj h1.top.part h1 (κ:=1 / ((signP a : Int) : Rat)) (fun x=>by
     have hs : ((signP a : Int) : Rat) ≠ 0:=fun h2=>h1.top.sign (by exact_mod_cast h2)
     rw [Zau a x];grind)
   ·subst h1
    have h2 : (Zan [] b).2 = []:=by
     have h3 : (Zan [] b) = (List.replicate (0 + 1 - b.length) 0,Zf []):=rfl;rw [h3];rfl
    rw [h2];rfl
  rw [hr];obtain ⟨k,hk⟩ : ∃ k,b.length = k + 1:=⟨b.length - 1,by omega⟩;rw [hk];unfold Zbz
  by_cases hae : a = []
  ·rw [if_pos hae]
  rw [if_neg hae,Bool.and_eq_true]
  have hap : Prim a:=by
   rcases ep with h1 | h1
   ·exact h1
   ·exact absurd h1 hae
  have hok2:=(Zfl hap.top (Nat.le_refl b.length) hb ha (by omega) (by
   have : (b.length + 1 - a.length) * (9 + 1) <= 9 * (9 + 1):=Nat.mul_le_mul_right _ (by have:=hap.2.1;omega)
   omega)).1
  obtain ⟨-,-,e4,e5⟩:=Zb5 hok2;exact ⟨hok2,Zl5 hap.top hb ha hlb hla k a _ (Prs.first hap.top (by omega) hok2) (Zch e5) (ha.mono (Zqb _)) (by rw [Zv];omega)⟩
 ·exact Zl5 hbp.top ha hb hla hlb b.length b _ (Prs.first hbp.top hge hok) (Zch e3) (hb.mono (Zqb _)) (by rw [Zv];omega)
def lcZ (q : List Int) : Int:=q[q.length - 1]?.getD 0
def Zbx (T q : List Int) : List Int:=
 (List.range T.length).map fun i=>T[i]?.getD 0 * ((lcZ q).natAbs : Int) - (if T.length - q.length <= i then (if lcZ q < 0 then -lcZ T else lcZ T) * q[i - (T.length - q.length)]?.getD 0 else 0)
def sgZ (z : Int) : Int:=if z < 0 then -1 else 1
theorem sgZ_ne (z : Int) : ((sgZ z : Int) : Rat) ≠ 0:=by unfold sgZ;split <;> decide
theorem Zdb (T q : List Int) : (Zbx T q).length = T.length:=by simp [Zbx]
theorem Zjn (T q : List Int) (i : Nat) : cz (Zbx T q) i = sgZ (lcZ q) * cz (Zaw T q) i:=by
 rcases Nat.lt_or_ge i T.length with hi | hi
 ·have h1 : cz (Zaw T q) i = T[i]?.getD 0 * lcZ q - (if T.length - q.length <= i then q[i - (T.length - q.length)]?.getD 0 * lcZ T else 0):=Zeu hi
  have h2 : cz (Zbx T q) i = T[i]?.getD 0 * ((lcZ q).natAbs : Int) - (if T.length - q.length <= i then (if lcZ q < 0 then -lcZ T else lcZ T) * q[i - (T.length - q.length)]?.getD 0 else 0):=by
   unfold Zbx;rw [Zhe,if_pos hi]
  rw [h1,h2];unfold sgZ
  by_cases h3 : lcZ q < 0
  ·rw [if_pos h3,if_pos h3,show ((lcZ q).natAbs : Int) = - lcZ q by omega]
   split <;> grind
  ·rw [if_neg h3,if_neg h3,show ((lcZ q).natAbs : Int) = lcZ q by omega]
   split <;> grind
 ·rw [Zda (by rw [Zdb];exact hi),Zda (by rw [Za4];exact hi)]
  omega
def psK (q : List Int) : Nat -> List Int -> List Int
 | 0,R=>Zf R
 | k + 1,R=>if (Zf R).length < q.length then Zf R else psK q k (Zbx (Zf R) q)
def Zfw (l : List Int) : List Int:=l.map fun a=>-a
def Zdq (r : List Int) : List Int:=if lcZ r < 0 then Zfw (Zh r) else Zh r
def Zbm (p q : List Int) : List Int:=Zdq (psK q p.length p)
def Zeb : Nat -> List Int -> List Int -> List Int
 | 0,p,_=>p
 | k + 1,p,q=>if q = [] then p else Zeb k q (Zbm p q)
def Zhv (p q : List Int) : List Int:=Zh (Zeb (q.length + 1) p q)
theorem Zme (l : List Int) (i : Nat) : cz (Zfw l) i = - cz l i:=by
 unfold Zfw cz;rw [List.getElem?_map]
 cases l[i]? with
 | none=>rfl
 | some x=>rfl
theorem Zft (l : List Int) : (Zfw l).length = l.length:=by simp [Zfw]
theorem Ziu {T q : List Int} (hq : 0 < q.length) (h : q.length <= T.length) : (Zf (Zbx T q)).length < T.length:=by
 have h1:=Zjo (xs:=Zbx T q) (by rw [Zdb];omega) (by
  have h2:=Zjn T q ((Zbx T q).length - 1);have h3 : cz (Zaw T q) (T.length - 1) = 0:=Zhc hq h;rw [Zdb,h3] at h2;rw [Zdb];show cz (Zbx T q) (T.length - 1) = 0
  rw [h2];omega)
 rw [Zdb] at h1;exact h1
theorem Zoh {q : List Int} (hq : Top q) : ∀ (k : Nat) (R : List Int),(Zf R).length + 1 <= q.length + k -> ∃ (u : Rat -> Rat) (c : Rat),Pol u /\ c ≠ 0 /\ (∀ x,u x * Ze q x + Ze (psK q k R) x = c * Ze R x) /\ (psK q k R).length < q.length /\ Z2 (psK q k R) = true:=by
 have hq0:=hq.1;intro k
 induction k with
 | zero =>
  intro R h;exact ⟨fun _=>0,1,Pol.const 0,by decide,fun x=>by show 0 * _ + Ze (Zf R) x = _;rw [Zbr];grind,by show (Zf R).length < _;omega,Zby R⟩
 | succ k ih =>
  intro R h
  by_cases hs : (Zf R).length < q.length
  ·have e : psK q (k + 1) R = Zf R:=by rw [psK,if_pos hs]
   rw [e];exact ⟨fun _=>0,1,Pol.const 0,by decide,fun x=>by show 0 * _ + Ze (Zf R) x = _;rw [Zbr];grind,hs,Zby R⟩
  ·have e : psK q (k + 1) R = psK q k (Zbx (Zf R) q):=by rw [psK,if_neg hs]
   rw [e]
   have hle : q.length <= (Zf R).length:=by omega
   have hsh:=Ziu hq0 hle;obtain ⟨u,c,hu,hc,h1,h2,h3⟩:=ih (Zbx (Zf R) q) (by omega)
   have hlc : ((lcZ q : Int) : Rat) ≠ 0:=fun h4=>hq.2 (by exact_mod_cast h4)
   refine ⟨fun x=>u x + (c * ((sgZ (lcZ q) : Int) : Rat)) * Ze (Zbe (List.replicate ((Zf R).length - q.length + 1) 0) (Zf R) q) x,c * ((sgZ (lcZ q) : Int) : Rat) * ((lcZ q : Int) : Rat),hu.add ((Za2 _).smul _),?_,fun x=>?_,h2,h3⟩
   ·intro h4
    rcases Rat.mul_eq_zero.1 h4 with h5 | h5
    ·rcases Rat.mul_eq_zero.1 h5 with h6 | h6
     ·exact hc h6
     ·exact sgZ_ne _ h6
    ·exact hlc h5
   ·have h4:=h1 x
    rw [Zcx (Zjn (Zf R) q) x] at h4;have h5:=Zls (Q:=List.replicate ((Zf R).length - q.length + 1) 0) (T:=Zf R) (q:=q) hq0 hle (by simp) x;rw [Zkm,Zbr R x] at h5;have h6 : ((q[q.length - 1]?.getD 0 : Int) : Rat) = ((lcZ q : Int) : Rat):=rfl;rw [h6] at h5
    grind
theorem Zrl {b : List Int} (hb : Top b) {f g : Rat -> Rat} (hf : Pol f) (hg : PF (b.length - 1) g) (h : ∀ x,f x * Ze b x = g x) : Zf8 g:=by
 by_cases hz : Zf8 f
 ·intro x
  rw [<- h x,hz x];grind
 ·exfalso
  obtain ⟨k,hk⟩:=Zjc hf hz;obtain ⟨m,hm⟩ : ∃ m,b.length = m + 1:=⟨b.length - 1,by have:=hb.1;omega⟩;have hbd:=hb.deg;rw [hm] at hbd;have:=(hk.mul hbd).le_of_pf (hg.congr fun x=>h x);omega
theorem Zq9 {p q : List Int} (hq : Top q) (hp : Z2 p = true) (hok : Zb8 (Zh p) (Zh q) = true) : Zh (psK q p.length p) = Zh (Zan (Zh p) (Zh q)).2:=by
 have hq0:=hq.1;obtain ⟨u,c,hu,hc,h1,h2,h3⟩:=Zoh hq p.length p (by have:=Zbo p;omega);obtain ⟨hbt,⟨d,hd,k1⟩,k2,k3⟩:=Zb5 hok;obtain ⟨σ,hσ,k4⟩:=Ze5 hp;obtain ⟨τ,hτ,k5⟩:=Ze5 (Zb1 hq)
 have hz : Zf8 (fun x=>d * Ze (psK q p.length p) x - c * σ * Ze (Zan (Zh p) (Zh q)).2 x):=by
  refine Zrl hbt (f:=fun x=>(c * σ) * Ze (Zan (Zh p) (Zh q)).1 x - (d * τ) * u x) (((Za2 _).smul _).sub (hu.smul _)) ?_ (fun x=>?_)
  ·rw [Zv] at k2 ⊢
   exact (((Zei _).mono (by omega)).smul d).sub1 (((Zei _).mono (by omega)).smul (c * σ))
  ·have e1:=h1 x
   have e2:=k1 x;rw [k4 x,k5 x] at e1
   grind
 obtain ⟨κ,hκ,hκ0⟩:=Zjh hd
 have he : ∀ x,Ze (psK q p.length p) x = (κ * c * σ) * Ze (Zan (Zh p) (Zh q)).2 x:=fun x=>by
  have e1 : d * Ze (psK q p.length p) x - c * σ * Ze (Zan (Zh p) (Zh q)).2 x = 0:=hz x
  have e2 : Ze (psK q p.length p) x = κ * d * Ze (psK q p.length p) x:=by rw [hκ];grind
  rw [e2];grind
 have hs0 : κ * c * σ ≠ 0:=fun h4=>by
  rcases Rat.mul_eq_zero.1 h4 with h5 | h5
  ·rcases Rat.mul_eq_zero.1 h5 with h6 | h6
   ·exact hκ0 h6
   ·exact hc h6
  ·exact hσ h5
 rcases Za5 k3 with h4 | h4
 ·rcases Za5 h3 with h5 | h5
  ·rw [h4,h5]
  ·exfalso
   exact h5.nz fun x=>by rw [he x,h4];show _ * (0 : Rat) = 0;grind
 ·rcases Za5 h3 with h5 | h5
  ·exfalso
   refine h4.nz fun x=>?_
   have h6:=he x;rw [h5] at h6
   rcases Rat.mul_eq_zero.1 (show (κ * c * σ) * Ze (Zan (Zh p) (Zh q)).2 x = 0 from h6.symm) with h7 | h7
   ·exact absurd h7 hs0
   ·exact h7
  ·have hs1 : ((signP (psK q p.length p) : Int) : Rat) ≠ 0:=fun h6=>h5.sign (by exact_mod_cast h6)
   obtain ⟨μ,hμ,-⟩:=Zjh hs1
   refine Zcj h5.part h4.part (κ:=μ * (κ * c * σ) * ((signP (Zan (Zh p) (Zh q)).2 : Int) : Rat)) fun x=>?_
   have e1:=Zau (psK q p.length p) x;have e2:=Zau (Zan (Zh p) (Zh q)).2 x;have e3:=he x;rw [e1,e2] at e3
   have e4 : Ze (Zh (psK q p.length p)) x = μ * ((signP (psK q p.length p) : Int) : Rat) * Ze (Zh (psK q p.length p)) x:=by rw [hμ];grind
   rw [e4];grind
theorem Zr4 {f : List Int} (h : Prim f) : Zh f = f:=Zcj h.top.part h (κ:=1 / ((signP f : Int) : Rat)) fun x=>by
 have hs : ((signP f : Int) : Rat) ≠ 0:=fun h2=>h.top.sign (by exact_mod_cast h2)
 rw [Zau f x];grind
theorem Zjg {f : List Int} (h : Top f) : Top (Zfw f):=⟨by rw [Zft];exact h.1,by rw [Zft,Zme];have:=h.2;omega⟩
theorem Zr7 {f : List Int} (h : Prim f) : Zh (Zfw f) = f:=Zcj (Zjg h.top).part h (κ:=-1 / ((signP (Zfw f) : Int) : Rat)) fun x=>by
 have hs : ((signP (Zfw f) : Int) : Rat) ≠ 0:=fun h2=>(Zjg h.top).sign (by exact_mod_cast h2)
 have e1:=Zau (Zfw f) x;have e2:=Zcx (p:=f) (q:=Zfw f) (t:=-1) (fun i=>by rw [Zme];omega) x;rw [e2] at e1;have e3 : (((-1 : Int) : Int) : Rat) = -1:=rfl;rw [e3] at e1
 grind
theorem Zgp {r : List Int} (h : Z2 r = true) : Zh (Zdq r) = Zh r /\ Z2 (Zdq r) = true /\ (Zdq r).length = r.length /\ ∀ i,(cz (Zdq r) i).natAbs = (cz (Zh r) i).natAbs:=by
 rcases Za5 h with rfl | h1
 ·refine ⟨rfl,rfl,rfl,fun i=>rfl⟩
 ·unfold Zdq
  split
  ·exact ⟨Zr7 h1.part,Zb1 (Zjg h1.part.top),by rw [Zft,Zv],fun i=>by rw [Zme,Int.natAbs_neg]⟩
  ·exact ⟨Zr4 h1.part,Zb1 h1.part.top,Zv r,fun i=>rfl⟩
theorem Zfc {p q : List Int} (hq : Top q) (hp : Z2 p = true) (hok : Zb8 (Zh p) (Zh q) = true) : Zh (Zbm p q) = Zh (Zan (Zh p) (Zh q)).2 /\ Z2 (Zbm p q) = true /\ (Zbm p q).length < q.length /\ ∀ i,(cz (Zbm p q) i).natAbs = (cz (Zh (Zbm p q)) i).natAbs:=by
 obtain ⟨-,-,-,-,-,h2,h3⟩:=Zoh hq p.length p (by have:=Zbo p;have:=hq.1;omega);obtain ⟨k1,k2,k3,k4⟩:=Zgp h3;refine ⟨?_,k2,?_,fun i=>?_⟩
 ·exact k1.trans (Zq9 hq hp hok)
 ·unfold Zbm;rw [k3];exact h2
 ·unfold Zbm;rw [k4,k1]
theorem Znf : ∀ (k : Nat) (p q : List Int),Z2 p = true -> Z2 q = true -> Zbz k (Zh p) (Zh q) = true -> Zh (Zeb k p q) = Zet k (Zh p) (Zh q)
 | 0,p,q,_,_,_=>rfl
 | k + 1,p,q,hp,hq,hok=>by
  by_cases hqe : q = []
  ·subst hqe
   have e1 : Zeb (k + 1) p [] = p:=by rw [Zeb,if_pos rfl]
   have e2 : Zet (k + 1) (Zh p) (Zh []) = Zh p:=by rw [Zet,if_pos Znn]
   rw [e1,e2]
  ·have hqt : Top q:=by
     rcases Za5 hq with h | h
     ·exact absurd h hqe
     ·exact h
   have hpq : Zh q ≠ []:=fun h=>by
    have h1:=hqt.part.2.1;rw [h] at h1;exact absurd h1 (by decide)
   unfold Zbz at hok;rw [if_neg hpq,Bool.and_eq_true] at hok;obtain ⟨k1,k2,-,-⟩:=Zfc hqt hp hok.1
   have e1 : Zeb (k + 1) p q = Zeb k q (Zbm p q):=by rw [Zeb,if_neg hqe]
   have e2 : Zet (k + 1) (Zh p) (Zh q) = Zet k (Zh q) (Zh (Zan (Zh p) (Zh q)).2):=by rw [Zet,if_neg hpq]
   rw [e1,e2,<- k1];exact Znf k q (Zbm p q) hq k2 (by rw [k1];exact hok.2)
def Zez (q : List Int) : Nat -> List Int -> Bool
 | 0,R=>smallP R && decide ((Zf R).length < q.length)
 | k + 1,R=>smallP R && (if (Zf R).length < q.length then true else Zez q k (Zbx (Zf R) q))
def Zcv : Nat -> List Int -> List Int -> Bool
 | 0,_,q=>decide (q = [])
 | k + 1,p,q=>if q = [] then true else smallP q && (Zez q p.length p && Zcv k q (Zbm p q))
theorem Zrg {M Mq : Nat} {T q : List Int} (hT : Bnd M T) (hq : Bnd Mq q) : Bnd (M + (Mq + 1)) (Zbx T q):=fun i=>by
 have h1:=(Zno (Q:=[]) (fun i=>by rw [Zda (Nat.zero_le _)];exact Za7 _) hT hq).2 i;rw [Zjn,Int.natAbs_mul]
 have h2 : (sgZ (lcZ q)).natAbs = 1:=by unfold sgZ;split <;> rfl
 rw [h2,Nat.one_mul];exact h1
theorem Zsz {q : List Int} (hq : Top q) {Mq : Nat} (hqb : Bnd Mq q) : ∀ (k : Nat) (R : List Int) (M t : Nat),Bnd M R -> (Zf R).length + 1 <= q.length + t -> t <= k -> M + t * (Mq + 1) <= 1000 -> Zez q k R = true:=by
 have hq0:=hq.1;intro k
 induction k with
 | zero =>
  intro R M t hR hf ht hM
  obtain rfl : t = 0:=by omega
  simp only [Zez,Bool.and_eq_true,decide_eq_true_eq];exact ⟨hR.smallP (by omega),by omega⟩
 | succ k ih =>
  intro R M t hR hf ht hM;have hM1 : M <= M + t * (Mq + 1):=Nat.le_add_right _ _;simp only [Zez,Bool.and_eq_true];refine ⟨hR.smallP (by omega),?_⟩
  by_cases hlt : (Zf R).length < q.length
  ·rw [if_pos hlt]
  ·rw [if_neg hlt]
   obtain ⟨t,rfl⟩ : ∃ s,t = s + 1:=⟨t - 1,by omega⟩;have hsh:=Ziu hq0 (show q.length <= (Zf R).length by omega)
   have hM2 : M + (t + 1) * (Mq + 1) = M + (Mq + 1) + t * (Mq + 1):=by rw [Nat.succ_mul];omega
   exact ih _ (M + (Mq + 1)) t (Zrg hR.trim hqb) (by omega) (by omega) (by omega)
theorem Zjp {p q : List Int} (hq : Top q) {M Mq : Nat} (hp : Bnd M p) (hqb : Bnd Mq q) (hM : M + (p.length + 1 - q.length) * (Mq + 1) <= 1000) : Zez q p.length p = true:=by
 have:=Zbo p;have hq0:=hq.1;exact Zsz hq hqb p.length p M (p.length + 1 - q.length) hp (by omega) (by omega) hM
theorem Bnd.abs {M : Nat} {p q : List Int} (h : Bnd M p) (he : ∀ i,(cz q i).natAbs = (cz p i).natAbs) : Bnd M q:=fun i=>by rw [he i];exact h i
section
variable {P Q : List Int}
theorem Zji (hQ : Top Q) (hP : Bnd 9 P) (hQb : Bnd 9 Q) (h9 : P.length <= 9) (h9' : Q.length <= 9) : ∀ (k : Nat) (p q : List Int),Prs P Q (Zh p) (Zh q) -> Top p -> Z2 q = true -> Bnd (KB p.length) p -> (∀ i,(cz q i).natAbs = (cz (Zh q) i).natAbs) -> Zbz k (Zh p) (Zh q) = true -> q.length <= k -> Zcv k p q = true:=by
 intro k
 induction k with
 | zero =>
  intro p q h hp hq hpb hqa _ hk;simp only [Zcv,decide_eq_true_eq];exact List.eq_nil_of_length_eq_zero (by omega)
 | succ k ih =>
  intro p q h hp hq hpb hqa hok hk;unfold Zcv
  by_cases hqe : q = []
  ·rw [if_pos hqe]
  ·rw [if_neg hqe]
   have hqt : Top q:=by
    rcases Za5 hq with h1 | h1
    ·exact absurd h1 hqe
    ·exact h1
   have hpq : Zh q ≠ []:=fun h=>by
    have h1:=hqt.part.2.1;rw [h] at h1;exact absurd h1 (by decide)
   unfold Zbz at hok;rw [if_neg hpq,Bool.and_eq_true] at hok;have hbb:=h.bnd hQ hqt.part hP hQb h9 h9';rw [Zv] at hbb;have hqb : Bnd (KB p.length) q:=hbb.abs hqa;have hl:=h.len;have hep:=h.ep;rw [Zv,Zv] at hl;rw [Zv] at hep;have hb1:=hqt.1;have hK:=KB_le (E:=p.length) (by omega) (by omega);have hm : (p.length + 1 - q.length) * (KB p.length + 1) <= p.length * (KB p.length + 1):=Nat.mul_le_mul_right _ (by omega);obtain ⟨k1,k2,k3,k4⟩:=Zfc hqt (Zb1 hp) hok.1;rw [Bool.and_eq_true,Bool.and_eq_true];refine ⟨hqb.smallP (by omega),Zjp hqt hpb hqb (by omega),ih q (Zbm p q) ?_ hqt k2 (hqb.mono (Zpz (by omega))) k4 (by rw [k1];exact hok.2) (by omega)⟩;rw [k1];exact h.next hqt.part.top hok.1
end
theorem Zj6 {p q : List Int} (hp : Z2 p = true) (hq : Z2 q = true) (hpb : Bnd 9 p) (hqb : Bnd 9 q) (h9 : p.length <= 9) (h9' : q.length <= 9) : Zcv (q.length + 1) p q = true:=by
 have hcom:=Zgk hp hq hpb hqb h9 h9';rw [Zv] at hcom;unfold Zcv
 by_cases hqe : q = []
 ·rw [if_pos hqe]
 rw [if_neg hqe]
 have hqt : Top q:=by
  rcases Za5 hq with h1 | h1
  ·exact absurd h1 hqe
  ·exact h1
 have hq1:=hqt.1
 have hpq : Zh q ≠ []:=fun h=>by
  have h1:=hqt.part.2.1;rw [h] at h1;exact absurd h1 (by decide)
 unfold Zbz at hcom;rw [if_neg hpq,Bool.and_eq_true] at hcom;obtain ⟨k1,k2,k3,k4⟩:=Zfc hqt hp hcom.1
 have hla : (Zh p).length <= 9:=by rw [Zv];exact h9
 have hlb : (Zh q).length <= 9:=by rw [Zv];exact h9'
 rw [Bool.and_eq_true,Bool.and_eq_true]
 refine ⟨hqb.smallP (by omega),Zjp hqt hpb hqb (by
  have : (p.length + 1 - q.length) * (9 + 1) <= 9 * (9 + 1):=Nat.mul_le_mul_right _ (by omega)
  omega),?_⟩
 rcases Nat.lt_or_ge p.length q.length with hlt | hge
 ·-- the first step exchanges the two
  obtain ⟨k,hk⟩ : ∃ k,q.length = k + 1:=⟨q.length - 1,by omega⟩;have hcom2:=hcom.2;rw [hk] at hcom2 ⊢;unfold Zcv
  by_cases hre : Zbm p q = []
  ·rw [if_pos hre]
  rw [if_neg hre]
  have hrt : Top (Zbm p q):=by
   rcases Za5 k2 with h1 | h1
   ·exact absurd h1 hre
   ·exact h1
  have hpr : Zh (Zbm p q) ≠ []:=fun h=>by
   have h1:=hrt.part.2.1;rw [h] at h1;exact absurd h1 (by decide)
  rw [<- k1] at hcom2
  have hps : Zh (Zbm p q) = Zh p:=by
   have h5 : psK q p.length p = Zf p:=by
    cases hl : p.length with
    | zero=>rfl
    | succ j=>rw [psK,if_pos (by have:=Zbo p;omega)]
   unfold Zbm;rw [h5,Zid hp];exact (Zgp hp).1
  have hrb : Bnd 9 (Zbm p q):=by
   refine Bnd.abs ?_ k4;rw [hps];exact hpb.part
  unfold Zbz at hcom2;rw [if_neg hpr,Bool.and_eq_true] at hcom2;have hr1:=hrt.1;obtain ⟨j1,j2,j3,j4⟩:=Zfc hrt hq hcom2.1;rw [Bool.and_eq_true,Bool.and_eq_true]
  refine ⟨hrb.smallP (by omega),Zjp hrt hqb hrb (by
   have : (q.length + 1 - (Zbm p q).length) * (9 + 1) <= 9 * (9 + 1):=Nat.mul_le_mul_right _ (by omega)
   omega),?_⟩
  refine Zji (P:=Zh q) (Q:=Zh (Zbm p q)) hrt.part.top hqb.part hrb.part hlb (by rw [Zv];omega) k _ _ ?_ hrt j2 (hrb.mono (Zqb _)) j4 (by rw [j1];exact hcom2.2) (by omega);rw [j1];exact Prs.first hrt.part.top (by rw [Zv,Zv];omega) hcom2.1
 ·refine Zji (P:=Zh p) (Q:=Zh q) hqt.part.top hpb.part hqb.part hla hlb q.length q _ ?_ hqt k2 (hqb.mono (Zqb _)) k4 (by rw [k1];exact hcom.2) (by omega)
  rw [k1];exact Prs.first hqt.part.top (by rw [Zv,Zv];omega) hcom.1
theorem Znv {p q : List Int} (hp : Z2 p = true) (hq : Z2 q = true) (hpb : Bnd 9 p) (hqb : Bnd 9 q) (h9 : p.length <= 9) (h9' : q.length <= 9) : Zhv p q = Za1 p q:=by
 have hcom:=Zgk hp hq hpb hqb h9 h9';unfold Zhv Za1;rw [Zv] at hcom ⊢;exact Znf _ p q hp hq hcom
open Go.RowKit
theorem new_blk {w : World} (t : TypeId) (cs : Array Value) : ∃ W,w.alloc (.cells cs t) = W /\ Blk W w.heap.size t cs /\ Below w.heap.size w W:=
 ⟨_,rfl,Blk.new _ _ _,(Below.refl _ _).alloc (Nat.le_refl _) _⟩
attribute [local go_sem] Zj
theorem Zn7 {q R : List Int} {k : Nat} (h : (Zf R).length < q.length) : psK q k R = Zf R:=by
 cases k with
 | zero=>rfl
 | succ k=>show (if _ then _ else _) = _;rw [if_pos h]
theorem Ztl {q R : List Int} {k : Nat} (h : ¬ (Zf R).length < q.length) (hok : Zez q k R = true) : ∃ k',k = k' + 1 /\ psK q k R = psK q k' (Zbx (Zf R) q) /\ Zez q k' (Zbx (Zf R) q) = true:=by
 cases k with
 | zero=>simp only [Zez,Bool.and_eq_true,decide_eq_true_eq] at hok;exact absurd hok.2 h
 | succ k =>
  refine ⟨k,rfl,?_,?_⟩
  ·show (if _ then _ else _) = _;rw [if_neg h]
  ·simp only [Zez,Bool.and_eq_true] at hok
   have:=hok.2;rw [if_neg h] at this;exact this
theorem Zo7 {q R : List Int} {k : Nat} (hok : Zez q k R = true) : smallP R = true:=by
 cases k <;> (simp only [Zez,Bool.and_eq_true] at hok;exact hok.1)
theorem Zkr {p : List Int} (h : smallP p = true) (i : Nat) : (p[i]?.getD 0).natAbs < pw 1000:=by
 cases he : p[i]? with
 | none=>exact Za7 _
 | some x=>exact of_decide_eq_true (List.all_eq_true.1 h x (List.mem_of_getElem? he))
theorem Zjk {a b : Int} (ha : a.natAbs < pw 1000) (hb : b.natAbs < pw 1000) : (a * b).natAbs < pw 2000:=by
 rw [Int.natAbs_mul,show (2000 : Nat) = 1000 + 1000 from rfl,Zco];exact Nat.mul_lt_mul'' ha hb
theorem Zsp {T q : List Int} {i N : Nat} {lq lt : Int} (hi : i < T.length) (hN : T.length - q.length = N) (h1 : lcZ q = lq) (h2 : lcZ T = lt) : (Zbx T q)[i]?.getD 0 = T[i]?.getD 0 * (lq.natAbs : Int) - (if N <= i then (if lq < 0 then -lt else lt) * q[i - N]?.getD 0 else 0):=by
 unfold Zbx;rw [List.getElem?_map,List.getElem?_range hi,h1,h2,hN]
 rfl
theorem sub_pw {a b : Int} {k : Nat} (ha : a.natAbs < pw k) (hb : b.natAbs < pw k) : (a - b).natAbs < pw (k + 1):=by
 have h3 : pw (k + 1) = 4294967296 * pw k:=by rw [Zco,Nat.mul_comm];rfl
 omega
theorem Zs4 {a b : Int} (ha : a.natAbs < pw 2000) (hb : b.natAbs < pw 2000) : (a - b).natAbs < pw 4096:=Nat.lt_of_lt_of_le (sub_pw ha hb) (Zdn (by decide))
theorem Ztf (A B : Option Addr) (n c m d : Nat) (ps qs : List Int) (w : World) (hp : PolyL w A n c ps) (hq : PolyL w B m d qs) (hn : n <= 100) (hm0 : 0 < m) (sq : smallP qs = true) (hok : Zez qs ps.length ps = true) :
    Calls Try.prog 29 #[.slice A n c,.slice B m d] w (Zi8 w (Zbm ps qs)):=by
 obtain ⟨iw,hi,hz0,hz1,hz2⟩:=info_parts Zfm
 have hmx : Try.prog.follows .mixedOrders = true:=by kernel_rfl
 have hpl:=Zb hp.len;have hql:=Zb hq.len;obtain ⟨hmc,hdm⟩:=hq.cap;unfold maxLen at hdm;obtain ⟨m1,hm1⟩ : ∃ m1,m = m1 + 1:=⟨m - 1,by omega⟩
 have hz1' : lcZ qs = qs[m1]?.getD 0:=by unfold lcZ;rw [hql.out,hm1];rfl
 obtain ⟨bq,oq,nl,Al,kl,cl,rfl,l0,l1,hlw⟩:=hq.at_ (k:=m1) (by omega);rw [<- hz1'] at hlw;have hnl:=hlw.1;obtain ⟨lq,hlq⟩ : ∃ z,lcZ qs = z:=⟨_,rfl⟩;have hlqs : Hid (lq.natAbs < pw 1000):=Zb (by rw [<- hlq,hz1'];exact Zkr sq m1);rw [hlq] at hlw hnl
 have hmw : IntKind.i64.wrap ((m : Int) - 1) = (m1 : Int):=by rw [IntKind.wrap_i64];omega
 have hml : (m1 : Int) < (m : Int):=by omega
 have hbq:=Zn l0;have hq0 : Hid (w.cell? ⟨bq,oq + m1 * 2,none⟩ = some (.bool nl) /\ w.cell? ⟨bq,oq + m1 * 2 + 1,none⟩ = some (.slice Al kl cl)):=Zb ⟨l0,l1⟩;replace hz1':=Zb hz1';replace hm1:=Zb hm1;replace hok:=Zb hok;replace sq:=Zb sq;replace hlq:=Zb hlq;replace hnl:=Zb hnl;have hres : Hid (Zdq (psK qs ps.length ps) = Zbm ps qs):=Zb rfl;replace hq:=Zb hq;go_enter Try.func29,Try.ntmps29;go_wp2_with fail;refine (Zh8 A n c ps w hp (by omega)).mono ?_;rintro e w1 ⟨v,rfl,hv,hb1⟩;obtain ⟨A5,c5,hv3,hP1⟩:=hv.poly
 have hvl : ∀ g o,A5 = some ⟨g,o,none⟩ -> g < w1.heap.size:=by
  intro g o h
  rcases hv.pown with ⟨h1,-⟩ | ⟨g1,c1,zs,h1,-,-,-,h2⟩
  ·rw [h1] at hv3;injection hv3 with h3;rw [<- h3] at h;cases h
  ·rw [h1] at hv3;injection hv3 with h3;rw [<- h3] at h;injection h with h;injection h with h;rw [<- h];exact h2.lt
 subst hv3;replace l0:=Za hb1 l0;replace l1:=Za hb1 l1;have hlw1:=Zb (hlw.below hb1);replace hv:=Zb hv;replace hb1:=Zb hb1;replace hvl:=Zb hvl;clear hP1 hlw;go_wp2_with fail;refine (rAbs_T nl Al kl cl lq w1 hlw1.out).mono ?_;rintro e w2 ⟨hb2,n2,A2,k2,c2,rfl,hW2⟩;have hB2:=hb1.out.trans (hb2.mono hb1.out.size);have hv2:=Zb (hv.out.kept hb2);have hg2 : Hid (w1.heap.size <= w2.heap.size):=Zb hb2.size;replace l0:=Za hb2 l0;replace l1:=Za hb2 l1;obtain ⟨V,hV,hBV,q,vd,vb,vsz⟩:=Z8 26 #[.bool false,.slice none 0 0] hB2 hB2.size;replace hW2:=vd _ _ _ _ _ hW2;obtain ⟨y0,y1,y2,y3⟩:=q.two;obtain ⟨X,hX,hBX,q,st⟩:=Zu n2 A2 k2 c2 hBV hB2.size q;replace hW2:=Zb (st.1 _ _ _ _ _ hW2)
 have hfr : Below w2.heap.size w2 X:=by
  rw [<- hX,<- hV];exact (((Below.refl w2.heap.size w2).alloc (Nat.le_refl _) _).setCell (p:=⟨w2.heap.size,0,none⟩) (Nat.le_refl _) _).setCell (p:=⟨w2.heap.size,1,none⟩) (Nat.le_refl _) _
 have hv4:=Zb (hv2.out.kept hfr);obtain ⟨gL,hgL⟩ : ∃ g,w2.heap.size = g:=⟨_,rfl⟩;rw [hgL] at q y0 y1 y2 y3 hX
 have hgLw : w.heap.size <= gL:=by rw [<- hgL];exact hB2.size
 have hne0 : Hid (∀ g o,A5 = some ⟨g,o,none⟩ -> g ≠ gL):=Zb (fun g o h=>by have h1:=hvl.out g o h;have h2:=hg2.out;omega);replace q:=Zb q;replace hBX:=Zb hBX;clear st vd vb hv hv2 hvl hlw1 hb1 hb2 hfr hB2;go_wp2_with fail;(try rw [hgL]);(try rw [hV]);(try rw [hX]);replace hgL:=Zb hgL;clear hV hX y0 y1 y2 y3 l0 l1
 go_loopg [5] ps.length (fun k rv wr=>∃ (R : List Int) (A5 : Option Addr) (c5 : Nat),rv = .slice A5 (Zf R).length c5 /\ OwnP 26 wr w.heap.size (.slice A5 (Zf R).length c5) (Zf R) /\ Hid (psK qs k R = psK qs ps.length ps) /\ Hid (Zez qs k R = true) /\ Hid (R.length <= 100) /\ Hid (∀ g o,A5 = some ⟨g,o,none⟩ -> g ≠ gL) /\ Blk wr gL 26 #[.bool n2,.slice A2 k2 c2] /\ Wd wr n2 A2 k2 c2 (lq.natAbs : Int) /\ Below w.heap.size w wr)
 case atStart=>exact ⟨ps,A5,c5,rfl,hv4.out,Zb rfl,Zb hok.out,Zb (by rw [hpl.out];exact hn),hne0,q.out,hW2.out,hBX.out⟩
 case round =>
  clear hv4 q hW2 hBX hne0;obtain ⟨R,A5,c5,rfl,hown,hps,hokk,hRl,hne,qL,hWL,hB⟩:=hrel;obtain ⟨wA,rfl⟩ : ∃ x : World,x = wr:=⟨_,rfl⟩;obtain ⟨T,hT⟩ : ∃ T,Zf R = T:=⟨_,rfl⟩;have hTR : Hid (∀ j : Nat,(T[j]?.getD 0 : Int) = R[j]?.getD 0):=Zb (fun j=>by rw [<- hT];exact Zh7 R j)
  have hTlen : T.length <= 100:=by rw [<- hT];exact Nat.le_trans (Znh R) hRl.out
  rw [hT] at hown ⊢;obtain ⟨t,hTl⟩ : ∃ t,T.length = t:=⟨_,rfl⟩;rw [hTl] at hown hTlen ⊢;have hTe : Hid (∀ x,T.getLast? = some x -> x ≠ 0):=Zb (by rw [<- hT];exact Zb0 R)
  by_cases htm : t < m
  ·skip
   have b0 : decide ((m : Int) <= (t : Int)) = false:=decide_eq_false (by omega);have b1 : decide (m <= t) = false:=decide_eq_false (by omega);have hTX : Hid (Zdq T = Zbm ps qs):=Zb (by rw [<- hres.out,<- hps.out,Zn7 (by rw [hT,hTl,hql.out];exact htm),hT]);obtain ⟨A5x,c5x,hveq,hP5⟩:=hown.poly
   injection hveq with e1 e2 e3
   subst e1;subst e3;rw [hTl] at hP5;replace hTl:=Zb hTl;have ht9 : Hid (t <= 900):=Zb (by omega);have hBA:=Zb hB;have hBA0 : Hid (w.heap.size <= wA.heap.size):=Zb hB.size;replace hT:=Zb hT;replace htm:=Zb htm;replace e2:=Zb e2;clear hown qL hWL hB;have hTs : Hid (t = 0 \/ signP T ≠ 0):=Zb (by have:=Zey hTe.out;rw [hTl.out] at this;exact this);obtain ⟨h5a,h5b⟩:=hP5.cap;unfold maxLen at h5b
   by_cases ht0 : t = 0
   ·skip
    have hT0 : T = []:=List.eq_nil_of_length_eq_zero (by rw [hTl.out];exact ht0);have q7a : decide ((0 : Int) < (t : Int)) = false:=decide_eq_false (by omega);have q7b : decide (0 < t) = false:=decide_eq_false (by omega);have hsg:=Zb (show Zdq T = Zh T by rw [hT0];rfl);have q7c : Hid ((Zh T).length = t):=Zb (by rw [Zd9];exact hTl.out);replace ht0:=Zb ht0;replace hT0:=Zb hT0;replace hP5:=Zb hP5;go_wp2_with fail;refine (Zdy _ t c5 T wA hP5.out ht9.out hTs.out).mono ?_;rintro e w6 ⟨v6,rfl,hv6,hb6⟩;replace hBA:=Zb (hBA.out.trans (hb6.mono hBA.out.size));obtain ⟨A6,c6,hv7,hP6⟩:=hv6.poly;subst hv7;rw [q7c.out] at hP6 ⊢;replace hP6:=Zb hP6;clear hv6 hb6 hP5;go_wp2_with fail
    go_loopg [14] 0 (fun k jv wr=>jv = .int .i64 0 /\ wr = w6)
    case atStart=>exact ⟨rfl,rfl⟩
    case round =>
     obtain ⟨rfl,rfl⟩:=hrel;go_wp2_with fail;go_ret;exact ⟨_,_,_,rfl,(by rw [<- hTX.out];exact (by rw [hsg.out];exact hP6.out)),hBA.out⟩
   have q7a : decide ((0 : Int) < (t : Int)) = true:=decide_eq_true (by omega);have q7b : decide (0 < t) = true:=decide_eq_true (by omega);obtain ⟨j1,hj1⟩ : ∃ j1 : Nat,t = j1 + 1:=⟨t - 1,by omega⟩;obtain ⟨b0,ob0,e0,Ae,ke,ce,hA0,cc1,cc2,hwe0⟩:=hP5.at_ (k:=j1) (by omega)
   have hlc : lcZ T = T[j1]?.getD 0:=by unfold lcZ;rw [hTl.out,hj1];rfl
   have hnn:=hwe0.1
   have hji : (t : Int) - 1 = (j1 : Int):=by omega
   have hwr : IntKind.i64.wrap ((t : Int) - 1) = (j1 : Int):=by rw [hji,IntKind.wrap_i64];omega
   have hjl : (j1 : Int) < (t : Int):=by omega
   have hj0 : (0 : Int) <= (j1 : Int):=by omega
   have hjl2 : j1 < t:=by omega
   have q7c : Hid ((Zh T).length = t):=Zb (by rw [Zd9];exact hTl.out);rw [<- hlc] at hnn;subst hA0;replace hj1:=Zb hj1;replace hji:=Zb hji;replace hlc:=Zb hlc;replace ht0:=Zb ht0;replace hP5:=Zb hP5;replace hnn:=Zb hnn;clear hwe0;go_wp2_with fail;refine (Zdy _ t c5 T wA hP5.out ht9.out hTs.out).mono ?_;rintro e w6 ⟨v6,rfl,hv6,hb6⟩;replace hBA:=Zb (hBA.out.trans (hb6.mono hBA.out.size));clear cc1 cc2 hb6 hP5
   cases e0
   case false =>
    have hsg:=Zb (show Zdq T = Zh T by
     unfold Zdq
     rw [if_neg (of_decide_eq_false hnn.out.symm)])
    obtain ⟨A6,c6,hv7,hP6⟩:=hv6.poly;subst hv7;rw [q7c.out] at hP6 ⊢;replace hP6:=Zb hP6;clear hv6;go_wp2_with fail
    go_loopg [14] 0 (fun k jv wr=>jv = .int .i64 0 /\ wr = w6)
    case atStart=>exact ⟨rfl,rfl⟩
    case round =>
     obtain ⟨rfl,rfl⟩:=hrel;go_wp2_with fail;go_ret;exact ⟨_,_,_,rfl,(by rw [<- hTX.out];exact (by rw [hsg.out];exact hP6.out)),hBA.out⟩
   case true =>
    have hsg:=Zb (show Zdq T = Zfw (Zh T) by
     unfold Zdq
     rw [if_pos (of_decide_eq_true hnn.out.symm)])
    rcases hv6.pown with ⟨-,h0⟩ | ⟨gp,cp,zs,rfl,hgp,hcp1,hcp2,hR⟩
    ·exfalso
     have:=q7c.out;rw [h0] at this
     simp at this
     have:=ht0.out;omega
    clear hv6;rw [q7c.out] at hcp1;rw [q7c.out];have hgp2 : w.heap.size <= gp:=Nat.le_trans (by have:=hBA0.out;omega) hgp;unfold maxLen at hcp2;obtain ⟨P,hPd⟩ : ∃ P,Zh T = P:=⟨_,rfl⟩;rw [hPd] at hR q7c hsg;replace hPd:=Zb hPd;replace hR:=Zb hR;go_wp2_with fail
    go_loopg [14] t (fun k jv wr=>∃ (i : Nat) (L : List Int),i + k = t /\ jv = .int .i64 i /\ POwn 26 wr gp (L ++ zs) /\ Hid (L.length = t) /\ Hid (∀ j,j < i -> L[j]?.getD 0 = -(P[j]?.getD 0)) /\ Hid (∀ j,i <= j -> L[j]?.getD 0 = P[j]?.getD 0) /\ Below w.heap.size w wr)
    case atStart=>exact ⟨0,P,by omega,rfl,hR.out,q7c,Zb (fun j h=>absurd h (Nat.not_lt_zero _)),Zb (fun j h=>rfl),hBA.out⟩
    case round =>
     clear hR hBA;obtain ⟨i,L,hik,rfl,hL,hLl,hL1,hL2,hB⟩:=hrel;obtain ⟨wB,rfl⟩ : ∃ x : World,x = wr:=⟨_,rfl⟩
     cases gk with
     | zero =>
      obtain rfl : i = t:=by omega
      have hLe : L = Zfw P:=by
       apply List.ext_getElem
       ·rw [hLl.out,Zft,q7c.out]
       ·intro j h1 h2
        have h3:=hL1.out j (by rw [hLl.out] at h1;exact h1);rw [List.getElem?_eq_getElem h1,List.getElem?_eq_getElem (by rw [q7c.out];rw [hLl.out] at h1;exact h1)] at h3
        simpa [Zfw] using h3
      have hP6:=hL.pre (xs:=L) (c:=cp) (by rw [hLl.out];exact hcp1) (by unfold maxLen;exact hcp2);rw [hLl.out,hLe] at hP6;replace hP6:=Zb hP6;replace hLe:=Zb hLe;replace hB:=Zb hB
      have v0 : decide ((i : Int) < (i : Int)) = false:=by simp
      clear hL;go_wp2_with fail;go_ret;exact ⟨_,_,_,rfl,(by rw [<- hTX.out];exact (by rw [hsg.out];exact hP6.out)),hB.out⟩
     | succ gk' =>
      obtain rfl : gk' = t - (i + 1):=by omega
      have hin : i < t:=by omega
      have v0 : decide ((i : Int) < (t : Int)) = true:=by simp;omega
      have v1 : (i : Int) < (t : Int):=by omega
      have hil : i < L.length:=by rw [hLl.out];exact hin
      have hil2 : i < P.length:=by rw [q7c.out];exact hin
      obtain ⟨n1,A1,k1,c1,p0,p1,hw1⟩:=hL.at_ (i:=i) (by rw [List.length_append];omega);rw [List.getElem?_append_left hil,hL2.out i (Nat.le_refl _)] at hw1;replace hL:=Zb hL;replace hB:=Zb hB;replace hw1:=Zb hw1;replace hil:=Zb hil;replace hil2:=Zb hil2;go_wp2_with fail;refine (Zpd n1 A1 k1 c1 _ wB hw1.out).mono ?_;rintro e w7 ⟨hb7,n2,A2,k2,c2,rfl,hw2⟩;have hL7:=hL.out.below hb7;have hB7:=hB.out.trans (hb7.mono hB.out.size);have f0:=hL7.frozen (i * 2);have f1:=hL7.frozen (i * 2 + 1);obtain ⟨n3,A3,k3,c3,r0,r1,-⟩:=hL7.at_ (i:=i) (by rw [List.length_append];have:=hil.out;omega);obtain ⟨Z,hZ,hBZ,hLZ,-,-,-⟩:=hL7.put hil.out hw2 hB7 hgp2;replace hLZ:=Zb hLZ;replace hBZ:=Zb hBZ;clear hL7 hB7 hb7 p0 p1 hw1 hL hB hw2;go_wp2_with fail;(try rw [hZ])
      go_roundg (t - (i + 1))
      case measure=>omega
      case rel=>exact ⟨i + 1,L.set i (-(P[i]?.getD 0)),by omega,by go_num,hLZ.out,Zb (by rw [List.length_set];exact hLl.out),Zb (fun j hj=>by
          rcases Nat.lt_or_ge j i with h' | h'
          ·rw [List.getElem?_set_ne (by omega)];exact hL1.out j h'
          ·obtain rfl : j = i:=by omega
           rw [List.getElem?_set_self hil.out];rfl),Zb (fun j hj=>by rw [List.getElem?_set_ne (by omega)];exact hL2.out j (by omega)),hBZ.out⟩
  have b0 : decide ((m : Int) <= (t : Int)) = true:=decide_eq_true (by omega);have b1 : decide (m <= t) = true:=decide_eq_true (by omega);obtain ⟨k',hk',hpn,hon⟩:=Ztl (by rw [hT,hTl,hql.out];exact htm) hokk.out;rw [hT] at hpn hon;have hpn:=Zb (hpn.symm.trans hps.out);have hRs:=Zb (Zo7 hokk.out);have hTs : Hid (∀ j : Nat,(T[j]?.getD 0 : Int).natAbs < pw 1000):=Zb (fun j=>by rw [hTR.out j];exact Zkr hRs.out j)
  rcases hown.pown with ⟨-,h0⟩ | ⟨gr,cr,zs,hveq,hgr,hcr1,hcr2,hR⟩
  ·exfalso
   rw [h0] at hTl
   simp at hTl
   omega
  injection hveq with e1 e2 e3
  subst e1;subst e3;rw [hTl] at hcr1;unfold maxLen at hcr2;have hner : gr ≠ gL:=hne.out gr 0 rfl;have hgrw : gr < wA.heap.size:=hR.lt;obtain ⟨t1,ht1⟩ : ∃ t1,t = t1 + 1:=⟨t - 1,by omega⟩;obtain ⟨N,hN⟩ : ∃ N,t = N + m:=⟨t - m,by omega⟩
  have hlcT : lcZ T = T[t1]?.getD 0:=by unfold lcZ;rw [hTl,ht1];rfl
  obtain ⟨nt,At,kt,ct,x0,x1,hwt⟩:=hR.at_ (i:=t1) (by rw [List.length_append];omega);rw [List.getElem?_append_left (by omega),<- hlcT] at hwt
  have htw : IntKind.i64.wrap ((t : Int) - 1) = (t1 : Int):=by rw [IntKind.wrap_i64];omega
  have htl : (t1 : Int) < (t : Int):=by omega
  have hNw : IntKind.i64.wrap ((t : Int) - (m : Int)) = (N : Int):=by rw [IntKind.wrap_i64];omega
  have hNt : (N : Int) <= (t : Int):=by omega
  obtain ⟨lt,hlt⟩ : ∃ z,lcZ T = z:=⟨_,rfl⟩;have hlts : Hid (lt.natAbs < pw 1000):=Zb (by rw [<- hlt,hlcT];exact hTs.out t1);rw [hlt] at hwt;have hlcT:=Zb hlcT;replace hlt:=Zb hlt;replace hT:=Zb hT;replace hTl:=Zb hTl;replace htm:=Zb htm;replace e2:=Zb e2;replace ht1:=Zb ht1;replace hN:=Zb hN;replace hk':=Zb hk';replace hon:=Zb hon;replace hR:=Zb hR;replace qL:=Zb qL;replace hWL:=Zb hWL;replace hwt:=Zb hwt;have l0:=Za hB (hq0.out.1);have l1:=Za hB (hq0.out.2);clear hown hps hokk hne;go_wp2_with fail;replace hB:=Zb hB;have hr1 : Below wA.heap.size wA wA.drew:=Zr (Below.refl _ _) 1;replace hR:=Zb (hR.out.below hr1);replace qL:=Zb (Zd hr1 qL.out);replace hWL:=Zb (hWL.out.below hr1);replace hwt:=Zb (hwt.out.below hr1);have hB2:=Zb (hB.out.trans (hr1.mono hB.out.size));clear hB;replace x0:=Za hr1 x0;replace x1:=Za hr1 x1;replace l0:=Za hr1 l0;replace l1:=Za hr1 l1;clear hr1;refine Zav [] (fun wx=>(wx.cell? ⟨gr,t1 * 2,none⟩ = some (.bool nt)) /\ (wx.cell? ⟨gr,t1 * 2 + 1,none⟩ = some (.slice At kt ct)) /\ (wx.cell? ⟨bq,oq + m1 * 2,none⟩ = some (.bool nl)) /\ (wx.cell? ⟨bq,oq + m1 * 2 + 1,none⟩ = some (.slice Al kl cl))) hmx ⟨x0,x1,l0,l1⟩ (fun _=>?_);refine Zt2 11 [0,1,2,3,4,5,6,7,8,9,10] rfl (by kernel_rfl) ⟨x0,x1,l0,l1⟩ ?_
  iterate 11 (refine tkA ?_;try simp only [Act.put,putL_a,putL_z,putL_s,putG_a,putG_s,putG_z])
  refine tk0 ?_;obtain ⟨gl,hgl⟩ : ∃ g,wA.drew.heap.size = g:=⟨_,rfl⟩;obtain ⟨V9,hV9,q9,hb9⟩:=new_blk (w:=wA.drew) 26 #[.bool false,.slice none 0 0];rw [hgl] at q9;obtain ⟨f0,f1,f2,f3⟩:=q9.two;obtain ⟨Y9,hY9,hbY9,qY9,st9⟩:=Zu nt At kt ct hb9 (Nat.le_of_eq hgl) q9;have hrw : Hid (gr < wA.drew.heap.size):=Zb hgrw;have hLw : Hid (gL < wA.drew.heap.size):=Zb qL.out.lt;have hww : Hid (w.heap.size <= wA.drew.heap.size):=Zb hB2.out.size
  refine wpAnyL_o 11 fun K hK=>?_
  go_simp;(try rw [hgl]);(try rw [hV9]);refine hK.out _ _ (fun _=>⟨Za hb9 x0,Za hb9 x1,Za hb9 l0,Za hb9 l1⟩) ?_;clear hK K hV9
  try simp only [Act.put,putL_a,putL_z,putL_s,putG_a,putG_s,putG_z]
  refine Zt1 1 [12] rfl (by kernel_rfl) ⟨Za hb9 x0,Za hb9 x1,Za hb9 l0,Za hb9 l1⟩ ?_
  (refine tkA ?_;try simp only [Act.put,putL_a,putL_z,putL_s,putG_a,putG_s,putG_z])
  refine tk0 ?_
  refine wpAnyL_o 13 fun K hK=>?_
  go_simp;(try rw [hY9]);refine hK.out _ _ (fun _=>⟨Za hbY9 x0,Za hbY9 x1,Za hbY9 l0,Za hbY9 l1⟩) ?_;clear hK K hY9 f0 f1 f2 f3
  try simp only [Act.put,putL_a,putL_z,putL_s,putG_a,putG_s,putG_z]
  refine wpAnyL_fin ?_
  have hnel : gr ≠ gl:=by have:=hrw.out;omega
  have hnLl : gL ≠ gl:=by have:=hLw.out;omega
  have hglw : w.heap.size <= gl:=by have:=hww.out;omega
  replace hgl:=Zb hgl;clear st9 q9 hb9 hrw hLw hww;replace hR:=Zb (hR.out.below hbY9);replace qL:=Zb (Zd hbY9 qL.out);replace hWL:=Zb (hWL.out.below hbY9);replace hwt:=Zb (hwt.out.below hbY9);have hB3:=Zb (hB2.out.trans (hbY9.mono hB2.out.size));clear hB2;replace l0:=Za hbY9 l0;replace l1:=Za hbY9 l1;clear hbY9 x0 x1;replace qY9:=Zb qY9
  go_upto_if 49 with fail
  go_cut [] from 50 to 54 (fun wx=>∃ (n3 : Bool) (A3 : Option Addr) (k3 c3 : Nat),Blk wx gl 26 #[.bool n3,.slice A3 k3 c3] /\ Wd wx n3 A3 k3 c3 (if lq < 0 then -lt else lt) /\ POwn 26 wx gr (T ++ zs) /\ Blk wx gL 26 #[.bool n2,.slice A2 k2 c2] /\ Wd wx n2 A2 k2 c2 (lq.natAbs : Int) /\ Below w.heap.size w wx)
  case first =>
   cases nl
   case false =>
    have hif : (if lq < 0 then -lt else lt) = lt:=if_neg (of_decide_eq_false hnl.out.symm);replace hif:=Zb hif;clear l1;go_wp2_with fail
    go_meet
    exact ⟨nt,At,kt,ct,qY9.out,by rw [hif.out];exact hwt.out,hR.out,qL.out,hWL.out,hB3.out⟩
   case true =>
    have hif : (if lq < 0 then -lt else lt) = -lt:=if_pos (of_decide_eq_true hnl.out.symm);replace hif:=Zb hif;clear l1;obtain ⟨k0,k1,k2',k3'⟩:=qY9.out.two;go_wp2_with fail;refine (Zpd nt At kt ct lt Y9 hwt.out).mono ?_;rintro e w7 ⟨hb7,n3,A3,k3,c3,rfl,hw3⟩;have q7:=Zd hb7 qY9.out;have hR7:=hR.out.below hb7;have hB7:=hB3.out.trans (hb7.mono hB3.out.size);have qL7:=Zd hb7 qL.out;have hWL7:=hWL.out.below hb7;obtain ⟨r0,r1,r2,r3⟩:=q7.two;obtain ⟨Z,hZ,hBZ,qZ,st⟩:=Zu n3 A3 k3 c3 hB7 hglw q7
    have hRZ : POwn 26 Z gr (T ++ zs):=by
     rw [<- hZ];exact (hR7.farK q7 (NoLimb.box _ _ _ _) hnel 0 _).farK (q7.set_ 0 (.bool n3)) (NoLimb.box _ _ _ _) hnel 1 _
    have hw8:=Zb (st.1 _ _ _ _ _ hw3);have hWL8:=Zb (st.1 _ _ _ _ _ hWL7);have qL8:=Zb (st.2.1 _ _ _ hnLl qL7);replace hRZ:=Zb hRZ;replace qZ:=Zb qZ;replace hBZ:=Zb hBZ;clear st q7 hR7 hB7 hb7 qL7 hWL7 hw3 k0 k1 k2' k3' l0;go_wp2_with fail;(try rw [hZ])
    go_meet
    exact ⟨n3,A3,k3,c3,qZ.out,by rw [hif.out];exact hw8.out,hRZ.out,qL8.out,hWL8.out,hBZ.out⟩
  case rest =>
   obtain ⟨n3,A3,k3,c3,ql,hwl,hR,qL,hWL,hB⟩:=hcut;obtain ⟨wC,rfl⟩ : ∃ x : World,x = wc:=⟨_,rfl⟩;clear l0 l1;obtain ⟨ld,hld⟩ : ∃ z,(if lq < 0 then -lt else lt) = z:=⟨_,rfl⟩;rw [hld] at hwl;have hlds : Hid (ld.natAbs < pw 1000):=Zb (by have:=hlts.out;rw [<- hld];split <;> (try rw [Int.natAbs_neg]) <;> exact this);have hsN : Hid (T.length - qs.length = N):=Zb (by rw [hTl.out,hql.out];have:=hN.out;omega)
   have hstep : Hid (∀ i : Nat,i < t -> (Zbx T qs)[i]?.getD 0 = T[i]?.getD 0 * (lq.natAbs : Int) - (if N <= i then ld * qs[i - N]?.getD 0 else 0)):=Zb (fun i hi=>by
    rw [Zsp (by rw [hTl.out];exact hi) hsN.out hlq.out hlt.out,hld])
   replace hld:=Zb hld;replace ql:=Zb ql;replace hwl:=Zb hwl;replace hR:=Zb hR;replace qL:=Zb qL;replace hWL:=Zb hWL;replace hB:=Zb hB;go_wp2_with fail
   go_loopg [10] t (fun k iv wr=>∃ (i : Nat) (L : List Int),i + k = t /\ iv = .int .i64 i /\ POwn 26 wr gr (L ++ zs) /\ Hid (L.length = t) /\ Hid (∀ j,j < i -> L[j]?.getD 0 = (Zbx T qs)[j]?.getD 0) /\ Hid (∀ j,i <= j -> L[j]?.getD 0 = T[j]?.getD 0) /\ Blk wr gl 26 #[.bool n3,.slice A3 k3 c3] /\ Wd wr n3 A3 k3 c3 ld /\ Blk wr gL 26 #[.bool n2,.slice A2 k2 c2] /\ Wd wr n2 A2 k2 c2 (lq.natAbs : Int) /\ Below w.heap.size w wr)
   case atStart=>exact ⟨0,T,by omega,rfl,hR.out,hTl,Zb (fun j h=>absurd h (Nat.not_lt_zero _)),Zb (fun j h=>rfl),ql.out,hwl.out,qL.out,hWL.out,hB.out⟩
   case round =>
    clear hR ql hwl qL hWL hB;obtain ⟨i,L,hik,rfl,hR,hLl,hL1,hL2,ql,hwl,qL,hWL,hB⟩:=hrel;obtain ⟨wE,rfl⟩ : ∃ x : World,x = wr:=⟨_,rfl⟩
    cases gk with
    | zero =>
     obtain rfl : i = t:=by omega
     have hLe : L = Zbx T qs:=by
      apply List.ext_getElem
      ·rw [hLl.out,Zdb,hTl.out]
      ·intro j h1 h2
       have h3:=hL1.out j (by rw [hLl.out] at h1;exact h1);rw [List.getElem?_eq_getElem h1,List.getElem?_eq_getElem h2] at h3
       simpa using h3
     have hP6:=hR.pre (xs:=L) (c:=c5) (by rw [hLl.out];exact hcr1) (by unfold maxLen;exact hcr2);rw [hLl.out,hLe] at hP6;replace hLe:=Zb hLe;replace hP6:=Zb hP6;replace ql:=Zb ql;replace qL:=Zb qL;replace hWL:=Zb hWL;replace hB:=Zb hB
     have v0 : decide ((i : Int) < (i : Int)) = false:=by simp
     clear hR hwl ql;go_wp2_with fail;refine (Zh8 _ i c5 (Zbx T qs) wE hP6.out (by omega)).mono ?_;rintro e w8 ⟨v8,rfl,hv8,hb8⟩;obtain ⟨A8,c8,hv9,hP8⟩:=hv8.poly
     have hne8 : ∀ g o,A8 = some ⟨g,o,none⟩ -> g ≠ gL:=by
      intro g o h;have h1:=qL.out.lt
      rcases hv8.pown with ⟨h2,-⟩ | ⟨g1,c1,z1,h2,h3,-,-,-⟩
      ·rw [h2] at hv9;injection hv9 with h4;rw [<- h4] at h;cases h
      ·rw [h2] at hv9;injection hv9 with h4;rw [<- h4] at h;injection h with h;injection h with h;rw [<- h];omega
     subst hv9;have hv10:=Zb (hv8.weak hB.out.size);replace qL:=Zb (Zd hb8 qL.out);replace hWL:=Zb (hWL.out.below hb8);replace hB:=Zb (hB.out.trans (hb8.mono hB.out.size));replace hne8:=Zb hne8;clear hP6 hP8 hv8 hb8;go_wp2_with fail
     go_roundg k'
     case measure=>have:=hk'.out;omega
     case rel=>exact ⟨Zbx T qs,A8,c8,rfl,hv10.out,hpn,hon,Zb (by rw [Zdb,hTl.out];exact hTlen),hne8,qL.out,hWL.out,hB.out⟩
    | succ gk' =>
     obtain rfl : gk' = t - (i + 1):=by omega
     have hin : i < t:=by omega
     have v0 : decide ((i : Int) < (t : Int)) = true:=by simp;omega
     have v1 : (i : Int) < (t : Int):=by omega
     have hil : i < L.length:=by rw [hLl.out];exact hin
     obtain ⟨na,Aa,ka,ca,x0,x1,hwa⟩:=hR.at_ (i:=i) (by rw [List.length_append];omega);rw [List.getElem?_append_left hil,hL2.out i (Nat.le_refl _)] at hwa;have hst:=Zb (hstep.out i hin);have hm1s:=Zb (Zjk (hTs.out i) (b:=(lq.natAbs : Int)) (by rw [Int.natAbs_natCast];exact hlqs.out));replace hil:=Zb hil;replace hR:=Zb hR;replace hwa:=Zb hwa;replace ql:=Zb ql;replace hwl:=Zb hwl;replace qL:=Zb qL;replace hWL:=Zb hWL;replace hB:=Zb hB;go_wp2_with fail;have cc1 : wE.cell? ⟨gL,0,none⟩ = some (.bool n2):=qL.out.cell 0;have cc2 : wE.cell? ⟨gL,1,none⟩ = some (.slice A2 k2 c2):=qL.out.cell 1;have hr3 : Below wE.heap.size wE wE.drew:=Zr (Below.refl _ _) 1;replace hR:=Zb (hR.out.below hr3);replace hwa:=Zb (hwa.out.below hr3);replace ql:=Zb (Zd hr3 ql.out);replace hwl:=Zb (hwl.out.below hr3);replace qL:=Zb (Zd hr3 qL.out);replace hWL:=Zb (hWL.out.below hr3);have hB4:=Zb (hB.out.trans (hr3.mono hB.out.size));clear hB;replace x0:=Za hr3 x0;replace x1:=Za hr3 x1;replace cc1:=Za hr3 cc1;replace cc2:=Za hr3 cc2;clear hr3;refine Zav [12] (fun wx=>(wx.cell? ⟨gr,i * 2,none⟩ = some (.bool na)) /\ (wx.cell? ⟨gr,i * 2 + 1,none⟩ = some (.slice Aa ka ca)) /\ (wx.cell? ⟨gL,0,none⟩ = some (.bool n2)) /\ (wx.cell? ⟨gL,1,none⟩ = some (.slice A2 k2 c2))) hmx ⟨x0,x1,cc1,cc2⟩ (fun _=>?_);refine Zt2 7 [0,1,2,3,4,5,6] rfl (by kernel_rfl) ⟨x0,x1,cc1,cc2⟩ ?_
     iterate 7 (refine tkA ?_;try simp only [Act.put,putL_a,putL_z,putL_s,putG_a,putG_s,putG_z])
     refine tk0 ?_
     refine wpAnyL_o 7 fun K hK=>?_
     (try rw [if_pos (by kernel_rfl)]);go_simp;refine (Zpa na n2 Aa A2 ka ca k2 c2 (T[i]?.getD 0) (lq.natAbs : Int) wE.drew hwa.out hWL.out (Nat.lt_trans hm1s.out (pw_lt (by decide)))).mono ?_;rintro e w5 ⟨hb3,n4,A4,k4,c4,rfl,hw4⟩;replace hR:=Zb (hR.out.below hb3);replace hwa:=Zb (hwa.out.below hb3);replace ql:=Zb (Zd hb3 ql.out);replace hwl:=Zb (hwl.out.below hb3);replace qL:=Zb (Zd hb3 qL.out);replace hWL:=Zb (hWL.out.below hb3);have hB6:=Zb (hB4.out.trans (hb3.mono hB4.out.size));clear hB4;replace x0:=Za hb3 x0;replace x1:=Za hb3 x1;replace cc1:=Za hb3 cc1;replace cc2:=Za hb3 cc2;clear hb3;refine hK.out _ _ (fun _=>⟨x0,x1,cc1,cc2⟩) ?_;clear hK K
     try simp only [Act.put,putL_a,putL_z,putL_s,putG_a,putG_s,putG_z]
     replace hw4:=Zb hw4;refine Zt1 4 [8,9,10,11] rfl (by kernel_rfl) ⟨x0,x1,cc1,cc2⟩ ?_
     iterate 4 (refine tkA ?_;try simp only [Act.put,putL_a,putL_z,putL_s,putG_a,putG_s,putG_z])
     refine tk0 ?_;have f0:=hR.out.frozen (i * 2);have f1:=hR.out.frozen (i * 2 + 1);obtain ⟨ZA,hZA,hBZA,hRZA,kwZA,kbZA,-⟩:=hR.out.put (by have:=hil.out;exact this) hw4.out hB6.out (Nat.le_trans (Nat.le_refl _) hgr);have hwlZA:=Zb (kwZA _ _ _ _ _ hwl.out);have hWLZA:=Zb (kwZA _ _ _ _ _ hWL.out);have qlZA:=Zb (kbZA _ _ _ (fun h=>hnel h.symm) ql.out);have qLZA:=Zb (kbZA _ _ _ (fun h=>hner h.symm) qL.out);have hzZA:=Zb (kwZA _ _ _ _ _ hw4.out);refine Zbn (i:=12) rfl (by kernel_rfl) (by kernel_rfl) (fun K hK=>?_);go_simp;(try rw [hZA]);refine hK.out _ _ ?_;clear hK K
     try simp only [Act.put,putL_a,putL_z,putL_s,putG_a,putG_s,putG_z]
     refine wpAnyL_fin ?_;clear kwZA kbZA f0 f1 hR hwl hWL ql qL hw4 hZA;have hwl:=hwlZA;have hWL:=hWLZA;have ql:=qlZA;have qL:=qLZA;have hR:=Zb hRZA;have hB:=Zb hBZA;clear hwlZA hWLZA qlZA qLZA hRZA hBZA hB6;clear x0 x1 cc1 cc2;clear hwa
     have vN : decide ((N : Int) <= (i : Int)) = decide (N <= i):=by simp
     by_cases hNi : N <= i
     case neg =>
      have v2 : decide ((N : Int) <= (i : Int)) = false:=decide_eq_false (by omega);have v3 : decide (N <= i) = false:=decide_eq_false hNi;rw [if_neg hNi] at hst;replace hNi:=Zb hNi;clear vN;go_wp2_with fail
      go_roundg (t - (i + 1))
      case measure=>omega
      case rel=>exact ⟨i + 1,L.set i (T[i]?.getD 0 * (lq.natAbs : Int)),by omega,by go_num,hR.out,Zb (by rw [List.length_set];exact hLl.out),Zb (fun j hj=>by
            rcases Nat.lt_or_ge j i with h' | h'
            ·rw [List.getElem?_set_ne (by omega)];exact hL1.out j h'
            ·obtain rfl : j = i:=by omega
             rw [List.getElem?_set_self hil.out,hst.out];exact (Int.sub_zero _).symm),Zb (fun j hj=>by rw [List.getElem?_set_ne (by omega)];exact hL2.out j (by omega)),ql.out,hwl.out,qL.out,hWL.out,hB.out⟩
     have v2 : decide ((N : Int) <= (i : Int)) = true:=decide_eq_true (by omega);have v3 : decide (N <= i) = true:=decide_eq_true hNi;rw [if_pos hNi] at hst;obtain ⟨j0,hj0⟩ : ∃ j0,i = N + j0:=⟨i - N,by omega⟩
     have hij : i - N = j0:=by omega
     rw [hij] at hst
     have hjw : IntKind.i64.wrap ((i : Int) - (N : Int)) = (j0 : Int):=by rw [IntKind.wrap_i64];omega
     have hjm : j0 < m:=by have:=hN.out;omega
     have hjm2 : (j0 : Int) < (m : Int):=by omega
     obtain ⟨b2,o2,nb,Ab,kb,cb,hA2,z0,z1,hwb⟩:=(hq.out.below hB.out).at_ hjm
     cases hA2
     have hqs2:=Zb (Zkr sq.out j0);obtain ⟨u0,u1,-,-⟩:=ql.out.two;replace hNi:=Zb hNi;replace hij:=Zb hij;replace hj0:=Zb hj0;replace hwb:=Zb hwb;clear vN;go_wp2_with fail;have hSv101 : Hid (∀ wx,Below ZA.heap.size ZA wx -> wx.cell? ⟨gl,0,none⟩ = some (.bool n3) /\ wx.cell? ⟨gl,1,none⟩ = some (.slice A3 k3 c3) /\ wx.cell? ⟨bq,oq + j0 * 2,none⟩ = some (.bool nb) /\ wx.cell? ⟨bq,oq + j0 * 2 + 1,none⟩ = some (.slice Ab kb cb)):=Zb (fun wx hbx=>⟨Za hbx u0,Za hbx u1,Za hbx z0,Za hbx z1⟩);have hr101 : Below ZA.heap.size ZA ZA.drew:=Zr (Below.refl _ _) 1;refine wp_heldS [] hmx hSv101 hr101 (fun hxs101=>?_);refine Zt2 7 [0,1,2,3,4,5,6] rfl (by kernel_rfl) (hSv101.out _ hr101) ?_
     iterate 7 (refine tkA ?_;try simp only [Act.put,putL_a,putL_z,putL_s,putG_a,putG_s,putG_z])
     refine tk0 ?_;refine Za0 ([] : List (Nat × Nat)) [(7,84),(8,76),(11,11)] (fun i=>match i with | 8=>[9,10] | _=>[]) [(7,84),(8,76),(9,85),(10,86),(11,11)] (Zl ZA.heap.size (T1 (ld * qs[j0]?.getD 0)) (ld * qs[j0]?.getD 0) (0) 7 8 9 1000 10 11 1001) 2 (by kernel_rfl) (fun _ _ _ _ _ hb h=>Zba (fun _ _ _=>T1.stays) hb h) (fun wx h=>hSv101.out _ (hr101.trans (h.mono hr101.size))) ?hop101 ?hfin101
     case hop101 =>
      intro p hp;simp only [List.mem_cons,List.not_mem_nil,or_false] at hp;simp only [List.map_cons,List.map_nil,Zae,Act.put,putL_a,putL_z,putL_s]
      rcases hp with rfl | rfl | rfl
      ·intro ν wx hb hP
       have hbx:=hr101.trans (hb.mono hr101.size);refine Zo (i:=7) rfl (fun K hK=>?_);go_simp;refine (Zpa n3 nb A3 Ab k3 c3 kb cb ld (qs[j0]?.getD 0) wx (hwl.out.below hbx) (hwb.out.below hbx) (Nat.lt_trans (Zjk hlds.out hqs2.out) (pw_lt (by decide)))).mono ?_;rintro e w5 ⟨hb5,na5,A5,k5,c5,rfl,hf5⟩;exact hK.out _ _ ⟨_,rfl,(by simp only [Zl];exact ⟨_,_,_,_,rfl,hf5⟩),hb5,trivial,fun h=>by simp at h⟩
      ·intro ν wx hb hP
       have h0:=hP (7,84) (by simp) (by kernel_rfl);simp only [Zl] at h0;obtain ⟨na5,A5,k5,c5,hν,hf5⟩:=h0;rw [hν];refine Zo (i:=8) rfl (fun K hK=>?_);go_simp;refine hK.out _ _ ⟨_,rfl,(by simp only [Zl];exact ⟨_,_,_,_,rfl,hf5⟩),Below.refl _ _,?_,fun h=>by simp at h⟩;exact ⟨_,.agg #[.bool na5,.slice A5 k5 c5],rfl,Or.inl ⟨by kernel_rfl,fun W2 _=>by go_simp⟩,(by simp only [Zl];exact ⟨_,_,_,_,rfl,hf5⟩),⟨_,.int .i64 0,rfl,Or.inl ⟨by kernel_rfl,fun W2 _=>by go_simp⟩,by simp [Zl],trivial⟩⟩
      ·intro ν wx hb hP
       refine Zo (i:=11) rfl (fun K hK=>?_);go_simp;exact hK.out _ _ ⟨_,rfl,(by simp only [Zl];exact ⟨_,rfl,hb.size,Blk.new _ _ _⟩),(Below.refl _ _).alloc (Nat.le_refl _) _,trivial,(fun h=>by simp at h)⟩
     case hfin101 =>
      intro ν wx hb hP hNE;have h0:=hP (7,84) (by simp);have h1:=hP (8,76) (by simp);have h3:=hP (10,86) (by simp);have hx0:=hP (9,85) (by simp);have ha0:=hP (11,11) (by simp);simp only [Zl] at h0 h1 hx0 ha0;obtain ⟨a0,a1,a2,a3,h0,-⟩:=h0;obtain ⟨e0,e1,e2,e3,h1,-⟩:=h1;obtain ⟨y0n,y0A,y0k,y0c,hx0,y0f⟩:=hx0;obtain ⟨gy0,ha0,kv0,qv0⟩:=ha0;simp only [List.map_cons,List.map_nil,Zae,Act.put,putL_a,putL_z,putL_s];rw [h0,h1,hx0,(show ν 86 = Value.int .i64 0 by simpa [Zl] using h3),ha0];clear h0 h1 h3 hx0 ha0 hP ν hNE;have hbx:=hr101.trans (hb.mono hr101.size);obtain ⟨f00,f10,f20,f30⟩:=qv0.two;obtain ⟨Zy0,hZ0,hbZy0,qZ0,kZ0⟩:=Zu y0n y0A y0k y0c hbx kv0 qv0
      refine wpAnyL_o 12 fun K hK=>?_
      go_simp;(try rw [hZ0]);refine hK.out _ _ (fun _=>hSv101.out _ hbZy0) ?_;clear hK K hZ0 f00 f10 f20 f30
      try simp only [Act.put,putL_a,putL_z,putL_s]
      refine Zt1 1 [13] rfl (by kernel_rfl) (hSv101.out _ hbZy0) ?_
      (refine tkA ?_;try simp only [Act.put,putL_a,putL_z,putL_s,putG_a,putG_s,putG_z])
      refine tk0 ?_;refine wpAnyL_fin ?_;have y0b:=Zb qZ0;replace y0f:=Zb (kZ0.1 _ _ _ _ _ y0f);have ykv:=kv0;clear kZ0 qZ0 kv0 hbx hb hr101 hSv101 hxs101;replace hR:=Zb (hR.out.below hbZy0);replace ql:=Zb (Zd hbZy0 ql.out);replace qL:=Zb (Zd hbZy0 qL.out);replace hwl:=Zb (hwl.out.below hbZy0);replace hWL:=Zb (hWL.out.below hbZy0);replace hB:=Zb (hB.out.trans (hbZy0.mono hB.out.size));obtain ⟨ni,Ai,ki,ci,x0,x1,hwi⟩:=hR.out.at_ (i:=i) (by rw [List.length_append,List.length_set];have:=hil.out;omega);rw [List.getElem?_append_left (by rw [List.length_set];exact hil.out),List.getElem?_set_self hil.out] at hwi;replace hwi:=Zb hwi;replace y0f:=Zb y0f;clear u0 u1 z0 z1 hwb hbZy0 ykv;go_wp2_with fail;have cc1 : Zy0.cell? ⟨gy0,0,none⟩ = some (.bool y0n):=y0b.out.cell 0;have cc2 : Zy0.cell? ⟨gy0,1,none⟩ = some (.slice y0A y0k y0c):=y0b.out.cell 1;have hr3 : Below Zy0.heap.size Zy0 Zy0.drew:=Zr (Below.refl _ _) 1;replace hR:=Zb (hR.out.below hr3);replace hwi:=Zb (hwi.out.below hr3);replace ql:=Zb (Zd hr3 ql.out);replace hwl:=Zb (hwl.out.below hr3);replace qL:=Zb (Zd hr3 qL.out);replace hWL:=Zb (hWL.out.below hr3);replace y0f:=Zb (y0f.out.below hr3);replace y0b:=Zb (Zd hr3 y0b.out);have hB4:=Zb (hB.out.trans (hr3.mono hB.out.size));clear hB;replace x0:=Za hr3 x0;replace x1:=Za hr3 x1;replace cc1:=Za hr3 cc1;replace cc2:=Za hr3 cc2;clear hr3
      refine Zav [12] (fun wx=>(wx.cell? ⟨gr,i * 2,none⟩ = some (.bool ni)) /\ (wx.cell? ⟨gr,i * 2 + 1,none⟩ = some (.slice Ai ki ci)) /\ (wx.cell? ⟨gy0,0,none⟩ = some (.bool y0n)) /\ (wx.cell? ⟨gy0,1,none⟩ = some (.slice y0A y0k y0c))) hmx ⟨x0,x1,cc1,cc2⟩ (fun _=>?_);refine Zt2 7 [0,1,2,3,4,5,6] rfl (by kernel_rfl) ⟨x0,x1,cc1,cc2⟩ ?_
      iterate 7 (refine tkA ?_;try simp only [Act.put,putL_a,putL_z,putL_s,putG_a,putG_s,putG_z])
      refine tk0 ?_
      refine wpAnyL_o 7 fun K hK=>?_
      (try rw [if_pos (by kernel_rfl)]);go_simp;refine (rSub_T ni y0n Ai y0A ki ci y0k y0c _ _ Zy0.drew hwi.out y0f.out (Zs4 hm1s.out (Zjk hlds.out hqs2.out))).mono ?_;rintro e w5 ⟨hb3,n4,A4,k4,c4,rfl,hw4⟩;replace hR:=Zb (hR.out.below hb3);replace hwi:=Zb (hwi.out.below hb3);replace ql:=Zb (Zd hb3 ql.out);replace hwl:=Zb (hwl.out.below hb3);replace qL:=Zb (Zd hb3 qL.out);replace hWL:=Zb (hWL.out.below hb3);replace y0f:=Zb (y0f.out.below hb3);replace y0b:=Zb (Zd hb3 y0b.out);have hB6:=Zb (hB4.out.trans (hb3.mono hB4.out.size));clear hB4;replace x0:=Za hb3 x0;replace x1:=Za hb3 x1;replace cc1:=Za hb3 cc1;replace cc2:=Za hb3 cc2;clear hb3;refine hK.out _ _ (fun _=>⟨x0,x1,cc1,cc2⟩) ?_;clear hK K
      try simp only [Act.put,putL_a,putL_z,putL_s,putG_a,putG_s,putG_z]
      replace hw4:=Zb hw4;refine Zt1 4 [8,9,10,11] rfl (by kernel_rfl) ⟨x0,x1,cc1,cc2⟩ ?_
      iterate 4 (refine tkA ?_;try simp only [Act.put,putL_a,putL_z,putL_s,putG_a,putG_s,putG_z])
      refine tk0 ?_;have f0:=hR.out.frozen (i * 2);have f1:=hR.out.frozen (i * 2 + 1);obtain ⟨ZB,hZB,hBZB,hRZB,kwZB,kbZB,-⟩:=hR.out.put (by have:=hil.out;rw [List.length_set];exact this) hw4.out hB6.out (Nat.le_trans (Nat.le_refl _) hgr);have hwlZB:=Zb (kwZB _ _ _ _ _ hwl.out);have hWLZB:=Zb (kwZB _ _ _ _ _ hWL.out);have qlZB:=Zb (kbZB _ _ _ (fun h=>hnel h.symm) ql.out);have qLZB:=Zb (kbZB _ _ _ (fun h=>hner h.symm) qL.out);have hzZB:=Zb (kwZB _ _ _ _ _ hw4.out);refine Zbn (i:=12) rfl (by kernel_rfl) (by kernel_rfl) (fun K hK=>?_);go_simp;(try rw [hZB]);refine hK.out _ _ ?_;clear hK K
      try simp only [Act.put,putL_a,putL_z,putL_s,putG_a,putG_s,putG_z]
      refine wpAnyL_fin ?_;clear kwZB kbZB f0 f1 hR hwl hWL ql qL hw4 hZB;have hwl:=hwlZB;have hWL:=hWLZB;have ql:=qlZB;have qL:=qLZB;have hR:=Zb hRZB;have hB:=Zb hBZB;clear hwlZB hWLZB qlZB qLZB hRZB hBZB hB6;clear x0 x1 cc1 cc2;rw [List.set_set,show (some (T[i]?.getD 0 * (lq.natAbs : Int))).getD 0 - ld * qs[j0]?.getD 0 = (Zbx T qs)[i]?.getD 0 from hst.out.symm] at hR;go_wp2_with fail
      go_roundg (t - (i + 1))
      case measure=>omega
      case rel=>exact ⟨i + 1,L.set i ((Zbx T qs)[i]?.getD 0),by omega,by go_num,hR.out,Zb (by rw [List.length_set];exact hLl.out),Zb (fun j hj=>by
            rcases Nat.lt_or_ge j i with h' | h'
            ·rw [List.getElem?_set_ne (by omega)];exact hL1.out j h'
            ·obtain rfl : j = i:=by omega
             rw [List.getElem?_set_self hil.out];rfl),Zb (fun j hj=>by rw [List.getElem?_set_ne (by omega)];exact hL2.out j (by omega)),ql.out,hwl.out,qL.out,hWL.out,hB.out⟩
theorem Zs0 {p : List Int} (h : Z2 p = true) : ∀ x,p.getLast? = some x -> x ≠ 0:=fun x hx=>by
 unfold Z2 at h;rw [hx] at h;exact of_decide_eq_true h
theorem Zfz {p : List Int} (h : Z2 p = true) : p.length = 0 \/ signP p ≠ 0:=Zey (Zs0 h)
theorem Zp0 {q : List Int} : ∀ (k : Nat) (R : List Int),Z2 (psK q k R) = true /\ (Zez q k R = true -> (psK q k R).length < q.length)
 | 0,R=>⟨Zby R,fun h=>by simp only [Zez,Bool.and_eq_true,decide_eq_true_eq] at h;exact h.2⟩
 | k + 1,R=>by
  by_cases h : (Zf R).length < q.length
  ·rw [Zn7 h];exact ⟨Zby R,fun _=>h⟩
  ·have ih:=Zp0 (q:=q) k (Zbx (Zf R) q)
   refine ⟨?_,fun hok=>?_⟩
   ·show Z2 (if _ then _ else _) = true;rw [if_neg h];exact ih.1
   ·obtain ⟨k',e,h1,h2⟩:=Ztl h hok
    injection e with e
    subst e;rw [h1];exact ih.2 h2
theorem Znc {p q : List Int} (hok : Zez q p.length p = true) : Z2 (Zbm p q) = true /\ (Zbm p q).length < q.length:=by
 obtain ⟨h1,h2⟩:=Zp0 (q:=q) p.length p;obtain ⟨-,h3,h4,-⟩:=Zgp h1;exact ⟨h3,by show (Zdq _).length < _;rw [h4];exact h2 hok⟩
theorem Zlv {k : Nat} {P Q : List Int} (h : Q = []) : Zeb k P Q = P:=by
 cases k with
 | zero=>rfl
 | succ k=>show (if _ then _ else _) = _;rw [if_pos h]
theorem Znq {k : Nat} {P Q : List Int} (h : Q ≠ []) (hok : Zcv k P Q = true) : ∃ k',k = k' + 1 /\ Zeb k P Q = Zeb k' Q (Zbm P Q) /\ smallP Q = true /\ Zez Q P.length P = true /\ Zcv k' Q (Zbm P Q) = true:=by
 cases k with
 | zero=>exact absurd (of_decide_eq_true hok) h
 | succ k =>
  have h1 : (if Q = [] then true else smallP Q && (Zez Q P.length P && Zcv k Q (Zbm P Q))) = true:=hok;rw [if_neg h] at h1;simp only [Bool.and_eq_true] at h1;exact ⟨k,rfl,by show (if _ then _ else _) = _;rw [if_neg h],h1.1,h1.2.1,h1.2.2⟩
theorem Zkb (A B : Option Addr) (n c m d : Nat) (ps qs : List Int) (w : World) (hp : PolyL w A n c ps) (hq : PolyL w B m d qs) (hn : n <= 100) (hm : m <= 100) (ep : Z2 ps = true) (eq : Z2 qs = true) (hok : Zcv (qs.length + 1) ps qs = true) :
    Calls Try.prog 16 #[.slice A n c,.slice B m d] w (Zi8 w (Zhv ps qs)):=by
 have hl1:=hp.len;have hl2:=hq.len;subst hl1;subst hl2;have h0 : Hid (ps.length <= 100 /\ qs.length <= 100 /\ Z2 ps = true /\ Z2 qs = true):=Zb ⟨hn,hm,ep,eq⟩;have hX : Hid (Zh (Zeb (qs.length + 1) ps qs) = Zhv ps qs):=Zb rfl;replace hok:=Zb hok;clear hn hm ep eq;go_enter Try.func16,Try.ntmps16;go_wp2_with fail
 go_loopg [0,1] (qs.length + 1) (fun k pv qv wr=>∃ (P Q : List Int) (A5 : Option Addr) (c5 : Nat) (B5 : Option Addr) (d5 : Nat),pv = .slice A5 P.length c5 /\ qv = .slice B5 Q.length d5 /\ PolyL wr A5 P.length c5 P /\ PolyL wr B5 Q.length d5 Q /\ Hid (P.length <= 100 /\ Q.length <= 100 /\ Z2 P = true /\ Z2 Q = true) /\ Hid (Zcv k P Q = true) /\ Hid (Zeb k P Q = Zeb (qs.length + 1) ps qs) /\ Below w.heap.size w wr)
 case atStart=>exact ⟨ps,qs,A,c,B,d,rfl,rfl,hp,hq,h0,hok,Zb rfl,Below.refl _ _⟩
 case round =>
  clear hp hq h0 hok;obtain ⟨P,Q,A5,c5,B5,d5,rfl,rfl,hP,hQ,h0,hok,hc,hB⟩:=hrel;obtain ⟨wA,rfl⟩ : ∃ x : World,x = wr:=⟨_,rfl⟩;obtain ⟨lp,hlp⟩ : ∃ l,P.length = l:=⟨_,rfl⟩;obtain ⟨lq,hlq⟩ : ∃ l,Q.length = l:=⟨_,rfl⟩;rw [hlp] at hP ⊢;rw [hlq] at hQ ⊢
  have hlp1 : lp <= 100:=by rw [<- hlp];exact h0.out.1
  have hlq1 : lq <= 100:=by rw [<- hlq];exact h0.out.2.1
  have hb1:=hP.cap.2;have hb2:=hQ.cap.2;unfold maxLen at hb1 hb2
  by_cases hz : lq = 0
  ·skip
   have hQ0 : Q = []:=List.eq_nil_of_length_eq_zero (by omega);have t0 : decide ((0 : Int) < (lq : Int)) = false:=decide_eq_false (by omega);have t1 : decide (0 < lq) = false:=decide_eq_false (by omega);have hPX : Hid (Zh P = Zhv ps qs):=Zb (by rw [<- hX.out,<- hc.out,Zlv hQ0]);have hs : Hid (lp = 0 \/ signP P ≠ 0):=Zb (by rw [<- hlp];exact Zfz h0.out.2.2.1);replace hz:=Zb hz;replace hQ0:=Zb hQ0;replace hlp:=Zb hlp;replace hlq:=Zb hlq;replace hP:=Zb hP;replace hB:=Zb hB;clear hQ;go_wp2_with fail;refine (Zdy A5 lp c5 P wA hP.out (by omega) hs.out).mono ?_;rintro e w6 ⟨v6,rfl,hv6,hb6⟩;obtain ⟨A6,c6,hv7,hP6⟩:=hv6.poly;subst hv7;replace hB:=Zb (hB.out.trans (hb6.mono hB.out.size));replace hP6:=Zb hP6;clear hv6 hb6;go_wp2_with fail;go_ret;exact ⟨_,_,_,rfl,by rw [<- hPX.out];exact hP6.out,hB.out⟩
  have hQ0 : Q ≠ []:=fun h=>hz (by rw [<- hlq,h];rfl)
  have t0 : decide ((0 : Int) < (lq : Int)) = true:=decide_eq_true (by omega);have t1 : decide (0 < lq) = true:=decide_eq_true (by omega);obtain ⟨k',hk',h1,h2,h3,h4⟩:=Znq hQ0 hok.out;have h5:=Znc h3;have h6:=Zb (h1.symm.trans hc.out);replace h2:=Zb h2;replace h3:=Zb h3;replace h4:=Zb h4;replace h5:=Zb h5;replace hz:=Zb hz;replace hQ0:=Zb hQ0;replace hlp:=Zb hlp;replace hlq:=Zb hlq;replace hP:=Zb hP;replace hQ:=Zb hQ;replace hB:=Zb hB;replace hk':=Zb hk';clear h1 hc hok;go_wp2_with fail;refine (Ztf A5 B5 lp c5 lq d5 P Q wA hP.out hQ.out hlp1 (by have:=hz.out;omega) h2.out h3.out).mono ?_;rintro e w6 ⟨A6,n6,c6,rfl,hP6,hb6⟩;have hl6:=hP6.len;subst hl6;replace hB:=Zb (hB.out.trans (hb6.mono hB.out.size));replace hQ:=Zb (hQ.out.below hb6);replace hP6:=Zb hP6;clear hb6 hP;go_wp2_with fail
  go_roundg k'
  case measure=>have:=hk'.out;omega
  case rel=>exact ⟨Q,Zbm P Q,B5,d5,A6,c6,by rw [hlq.out],rfl,by rw [hlq.out];exact hQ.out,hP6.out,Zb ⟨h0.out.2.1,by have:=h5.out.2;have:=h0.out.2.1;omega,h0.out.2.2.2,h5.out.1⟩,h4,h6,hB.out⟩
theorem Zly : ∀ {k : Nat} {P Q : List Int},Zcv k P Q = true -> P.length <= 900 -> Q.length <= 900 -> (Zeb k P Q).length <= 900
 | 0,P,Q,_,h,_=>h
 | k + 1,P,Q,hok,h1,h2=>by
  by_cases hq : Q = []
  ·rw [Zlv hq];exact h1
  ·obtain ⟨k',e,h3,-,h4,h5⟩:=Znq hq hok
   injection e with e
   subst e;rw [h3];exact Zly h5 h2 (by have:=(Znc h4).2;omega)
theorem sGcd_ok (A B : Option Addr) (n c m d : Nat) (ps qs : List WE) (w : World) (hp : WL w A n c ps) (hq : WL w B m d qs) (kp : pOk ps = true) (kq : pOk qs = true) (ep : Z2 (ps.map WE.num) = true) (eq : Z2 (qs.map WE.num) = true) (hok : Zcv ((qs.map WE.num).length + 1) (ps.map WE.num) (qs.map WE.num) = true) :
    Calls Try.prog 7 #[.slice A n c,.slice B m d] w (ResPoly w (Zhv (ps.map WE.num) (qs.map WE.num))):=by
 have hn9:=(Zbw kp).1;have hm9:=(Zbw kq).1;rw [hp.len] at hn9;rw [hq.len] at hm9;have hP : PolyL w A n c (ps.map WE.num):=⟨ps,hp,rfl,fun e he=>((Zbw kp).2 e he).1⟩;have hQ : PolyL w B m d (qs.map WE.num):=⟨qs,hq,rfl,fun e he=>((Zbw kq).2 e he).1⟩;replace hP:=Zb hP;replace hQ:=Zb hQ
 have hT:=fun W h1 h2=>Zb (Zkb A B n c m d (ps.map WE.num) (qs.map WE.num) W h1 h2 (by omega) (by omega) ep eq hok)
 have hle : Hid (∀ w' A n c,PolyL w' A n c (Zhv (ps.map WE.num) (qs.map WE.num)) -> n <= 900):=Zb (fun w' A n c h=>by
  rw [<- h.len];unfold Zhv;rw [Zd9]
  exact Zly hok (by rw [List.length_map,hp.len];omega) (by rw [List.length_map,hq.len];omega))
 replace kp : Hid (Zbg (pOk ps && pOk qs) = 0):=by unfold Hid;rw [kp,kq];rfl
 clear kq ep eq hok;go_enter Try.func7,Try.ntmps7;go_wp2_with fail;refine (Zic _ _ _ _ _ _ _ _ _ hp hq).mono ?_;rintro e w1 ⟨he1,hb1⟩;rw [kp.out] at he1;subst he1;go_wp2_with fail;refine (hT w1 (hP.out.below hb1) (hQ.out.below hb1)).out.mono ?_;rintro e w3 ⟨A3,n3,c3,rfl,hP3,hb3⟩;have hB3:=hb1.trans (hb3.mono hb1.size);clear hT;go_wp2_with fail;refine (Zld _ _ _ _ _ hP3 (hle.out _ _ _ _ hP3)).mono ?_;rintro e w4 ⟨hb4,A4,n4,c4,code4,rfl,hR4⟩;replace hR4:=Zb hR4;go_wp2_with fail;go_returns;exact ⟨hB3.trans (hb4.mono hB3.size),A4,n4,c4,code4,rfl,hR4.out⟩
theorem Zsa (A B : Option Addr) (n c m d : Nat) (ps qs : List WE) (w : World) (hp : WL w A n c ps) (hq : WL w B m d qs) (k : (pOk ps && pOk qs) = false) :
    Calls Try.prog 7 #[.slice A n c,.slice B m d] w (BadPoly w):=by
 replace k : Hid (Zbg (pOk ps && pOk qs) = 8):=by unfold Hid;rw [k];rfl
 go_enter Try.func7,Try.ntmps7;go_wp2_with fail;refine (Zic _ _ _ _ _ _ _ _ _ hp hq).mono ?_;rintro e w1 ⟨he1,hb1⟩;rw [k.out] at he1;subst he1;go_wp2_with fail;refine (Zic _ _ _ _ _ _ _ _ _ (hp.below hb1) (hq.below hb1)).mono ?_;rintro e w2 ⟨he2,hb2⟩;rw [k.out] at he2;subst he2;go_wp2_with fail;go_returns;exact ⟨hb1.trans (hb2.mono hb1.size),none,rfl⟩
theorem Zli {p f : List Int} {M : Nat} (hp : Top p) (hf : Prim f) (hd : Dvd (Ze f) (Ze p)) (h9 : p.length <= 9) (hb : Bnd M p) : Bnd (M + 3) f:=fun i=>by
 have h1:=Zhl hp hf hd h9 (fun i=>Nat.le_of_lt (hb i)) i
 have h2 : Cn (2 * 9) 9 * (9 * (pw M * (2 * 9) ^ 9)) < pw (M + 3):=by
  have e : pw (M + 3) = 79228162514264337593543950336 * pw M:=by
   rw [Zco,Nat.mul_comm];rfl
  have c1 : Cn (2 * 9) 9 = 4465300034131:=by decide +kernel
  rw [e,c1];have:=Za7 M
  generalize pw M = y at *
  omega
 exact Nat.lt_of_le_of_lt h1 h2
theorem der_bnd {p : List Int} (h : Bnd 8 p) (h9 : p.length <= 9) : Bnd 9 (Zaj p):=fun i=>by
 rw [Zsh]
 rcases Nat.lt_or_ge (i + 1) p.length with hi | hi
 ·rw [Int.natAbs_mul,Int.natAbs_natCast]
  have h1:=h (i + 1)
  have e : pw 9 = 4294967296 * pw 8:=by rw [Zal]
  rw [e];have h2 : (cz p (i + 1)).natAbs * (i + 1) <= (cz p (i + 1)).natAbs * 9:=Nat.mul_le_mul_left _ (by omega)
  generalize pw 8 = y at *
  omega
 ·rw [Zda hi]
  simp only [Int.zero_mul,Int.natAbs_zero];exact Za7 _
theorem Bnd.signP {M : Nat} {p : List Int} (h : Bnd M p) (hp : Top p) : (signP p).natAbs < pw M:=by
 have h1:=Zgq p (p.length - 1);have h2:=Int.natAbs_dvd_natAbs.2 h1;have h3:=hp.2;exact Nat.lt_of_le_of_lt (Nat.le_of_dvd (by omega) h2) (h _)
theorem Zgt {p : List Int} (hp : Top p) (hb : Bnd 8 p) (h9 : p.length <= 9) :
    Zbz ((Zh (Zaj p)).length + 1) (Zh p) (Zh (Zaj p)) = true /\ Zb8 p (Za1 p (Zaj p)) = true /\ Zcv ((Zaj p).length + 1) p (Zaj p) = true /\ Zhv p (Zaj p) = Za1 p (Zaj p) /\
     Prim (Za1 p (Zaj p)) /\ Dvd (Ze (Za1 p (Zaj p))) (Ze p) /\ Bnd 11 (Za1 p (Zaj p)) /\ (Za1 p (Zaj p)).length <= p.length /\ Prim (Zbl p) /\ Bnd 11 (Zbl p):=by
 have hdb:=der_bnd hb h9
 have hdl : (Zaj p).length <= 9:=by rw [Zd2];omega
 have hb9:=hb.mono (show 8 <= 9 by decide);have hok:=Zgk (Zb1 hp) (Zej hp) hb9 hdb h9 hdl;obtain ⟨h1,-⟩:=Zii (Zb1 hp) (Zej hp) hok;have hg:=Zr1 hp (Zej hp) hok;have hgb:=Zli hp hg h1.left h9 hb;have hgl:=h1.left.deg_le hg.top.deg hp.deg hp.nz
 have hok2 : Zb8 p (Za1 p (Zaj p)) = true:=(Zfl hg.top (M:=8) (Mq:=11) (Nat.le_refl _) hb hgb (by omega) (by
  have : (p.length + 1 - (Za1 p (Zaj p)).length) * (11 + 1) <= 9 * (11 + 1):=Nat.mul_le_mul_right _ (by have:=hg.2.1;omega)
  omega)).1
 obtain ⟨hf,κ,hκ,h2⟩:=Zj2 hp hok hok2;have hfd : Dvd (Ze (Zbl p)) (Ze p):=⟨fun x=>κ * Ze (Za1 p (Zaj p)) x,(Za2 _).smul κ,fun x=>by rw [h2];grind⟩;exact ⟨hok,hok2,Zj6 (Zb1 hp) (Zej hp) hb9 hdb h9 hdl,Znv (Zb1 hp) (Zej hp) hb9 hdb h9 hdl,hg,h1.left,hgb,hgl,hf,Zli hp hf hfd h9 hb⟩
theorem Zrk {p : List Int} (hp : Top p) (hb : Bnd 8 p) (h9 : p.length <= 9) {K : List Rat} (hl : K.length + (Za1 p (Zaj p)).length = p.length + 1) (hK : ∀ x,Ze p x = ev K x * Ze (Za1 p (Zaj p)) x) :
    ∃ zs : List Int,K = rl zs /\ Top zs /\ Zh zs = Zbl p /\ Bnd 19 zs:=by
 obtain ⟨hok,hok2,-,-,hg,hgd,-,hgl,hf,hfb⟩:=Zgt hp hb h9;obtain ⟨-,κ,hκ,h2⟩:=Zj2 hp hok hok2;obtain ⟨h,hh,hph⟩:=Znp hp hg hgd
 have hs : ((signP p : Int) : Rat) ≠ 0:=fun h3=>hp.sign (by exact_mod_cast h3)
 have e1 : ∀ x,Ze p x = ((signP p : Int) : Rat) * (Ze h x * Ze (Za1 p (Zaj p)) x):=fun x=>by rw [Zau p x,hph,Zev]
 have e2 : ∀ x,((signP p : Int) : Rat) * Ze h x = κ * Ze (Zbl p) x:=Zd6 (Za2 (Za1 p (Zaj p))) hg.top.nz ((Za2 h).smul _) ((Za2 _).smul κ) (fun x=>by
  have h3:=e1 x;rw [h2 x] at h3
  grind)
 have e3 : h = Zbl p:=Zcj hh hf (κ:=κ / ((signP p : Int) : Rat)) fun x=>by
  have:=e2 x
  grind
 have hKp : Pol (ev K):=⟨_,K,Nat.le_refl _,fun x=>rfl⟩
 have e4 : ∀ x,ev K x = ((signP p : Int) : Rat) * Ze (Zbl p) x:=Zd6 (Za2 (Za1 p (Zaj p))) hg.top.nz hKp ((Za2 _).smul _) (fun x=>by
  have h3:=e1 x;rw [hK x,e3] at h3
  grind)
 obtain ⟨zs,hz⟩ : ∃ zs,zs = (Zbl p).map (signP p * ·):=⟨_,rfl⟩
 have hzc : ∀ i,cz zs i = signP p * cz (Zbl p) i:=fun i=>by rw [hz];exact Ze1 _ _ i
 have hzl : zs.length = (Zbl p).length:=by rw [hz];simp
 have hzt : Top zs:=by
  refine ⟨by rw [hzl];exact hf.2.1,?_⟩;rw [hzl,hzc];intro h3
  rcases Int.mul_eq_zero.1 h3 with h4 | h4
  ·exact hp.sign h4
  ·exact hf.top.2 h4
 have hze : ∀ x,Ze zs x = ((signP p : Int) : Rat) * Ze (Zbl p) x:=fun x=>Zcx hzc x
 have hsz : ((signP zs : Int) : Rat) ≠ 0:=fun h3=>hzt.sign (by exact_mod_cast h3)
 refine ⟨zs,?_,hzt,Zcj hzt.part hf (κ:=((signP p : Int) : Rat) / ((signP zs : Int) : Rat)) (fun x=>?_),fun i=>?_⟩
 ·have hlen : K.length = zs.length:=by
    rw [hzl];obtain ⟨a,ha⟩ : ∃ a,(Zbl p).length = a + 1:=⟨(Zbl p).length - 1,by have:=hf.2.1;omega⟩;obtain ⟨c,hc⟩ : ∃ c,(Za1 p (Zaj p)).length = c + 1:=⟨(Za1 p (Zaj p)).length - 1,by have:=hg.2.1;omega⟩;have d1:=hf.top.deg;have d2:=hg.top.deg;rw [ha] at d1;rw [hc] at d2
    have d3 : Deg p.length (fun x=>Ze (Zbl p) x * Ze (Za1 p (Zaj p)) x):=by
     obtain ⟨l,l1,l2,l3⟩:=hp.deg
     have hκp : ∀ x,Ze (Zbl p) x * Ze (Za1 p (Zaj p)) x = (1 / κ) * Ze p x:=fun x=>by rw [h2 x];grind
     refine ⟨Zc5 (1 / κ) l,by rw [Zc9];exact l1,?_,fun x=>by rw [Zbu,<- l3];exact hκp x⟩
     rcases l2 with l2 | l2
     ·exact .inl l2
     ·refine .inr ?_
      rw [Zb3];intro h3
      rcases Rat.mul_eq_zero.1 h3 with h4 | h4
      ·have : κ * (1 / κ) = 1:=by grind
       rw [h4] at this
       grind
      ·exact l2 h4
    have:=(d1.mul d2).unique d3;omega
  have hco:=Zdd (p:=K) (q:=rl zs) (fun x=>by rw [Zbb,e4,hze])
  apply List.ext_getElem?
  intro i;have h3:=hco i;unfold co at h3
  rcases Nat.lt_or_ge i K.length with hi | hi
  ·have hi2 : i < (rl zs).length:=by simp [rl];omega
   rw [List.getElem?_eq_getElem hi,List.getElem?_eq_getElem hi2] at h3 ⊢;simp only [Option.getD_some] at h3;rw [h3]
  ·rw [List.getElem?_eq_none hi,List.getElem?_eq_none (by simp [rl];omega)]
 ·have h3:=Zau zs x
  rw [hze] at h3
  grind
 ·rw [hzc,Int.natAbs_mul]
  have h3:=hb.signP hp;have h4:=hfb i;rw [show 19 = 8 + 11 from rfl,Zco];exact Nat.mul_lt_mul'' h3 h4
def qK (d : List Rat) : Nat -> List Rat -> List Rat
 | 0,_=>[]
 | k + 1,r=>qK d k (ovR d r) ++ [ovC d r]
theorem Zfv (d : List Rat) : ∀ (k : Nat) (r : List Rat),(qK d k r).length = k
 | 0,_=>rfl
 | k + 1,r=>by
  show (qK d k (ovR d r) ++ [ovC d r]).length = k + 1;rw [List.length_append,Zfv d k];rfl
theorem Zp8 (l : List Rat) (a x : Rat) : ev (l ++ [a]) x = ev l x + a * x ^ l.length:=by
 induction l with
 | nil=>show a + x * 0 = 0 + a * x ^ 0;rw [Rat.pow_zero];grind
 | cons b l ih =>
  show b + x * ev (l ++ [a]) x = b + x * ev l x + a * x ^ (l.length + 1);rw [ih];grind
theorem Zp7 {d : List Rat} (hd : 0 < d.length) (hz : co d (d.length - 1) ≠ 0) : ∀ (k : Nat) (r : List Rat),r.length + 1 = k + d.length -> ∀ x,ev r x = ev (qK d k r) x * ev d x + ev (ovK d k r) x
 | 0,r,_,x=>by show ev r x = 0 * _ + ev r x;grind
 | k + 1,r,h,x=>by
  have h1:=Zp7 hd hz k (ovR d r) (by rw [Zfi];omega) x;have h2:=Zpg (r:=r) hd (by omega) hz x;show ev r x = ev (qK d k (ovR d r) ++ [ovC d r]) x * ev d x + ev (ovK d k (ovR d r)) x;rw [Zp8,Zfv];rw [h2,show r.length - d.length = k by omega] at h1
  grind
theorem Zmp {z : Int} {M : Nat} (h : z.natAbs < pw M) (hM : M <= 1000) : Sm ((z : Int) : Rat):=(SmN.int h).sm hM (by decide)
theorem mul_bnd {U P : List Int} {M B : Nat} (hU : Bnd M U) (hP : Bnd B P) (hl : U.length + P.length <= 4294967295) (i : Nat) : (cz (Zef U P) i).natAbs < pw (M + B + 1):=by
 rcases Nat.lt_or_ge i (Zef U P).length with hi | hi
 ·have hi2 : i < U.length + P.length - 1:=by simpa [Zef] using hi
  have h1 : cz (Zef U P) i = coP U P i:=by
   unfold Zef;rw [Zhe,if_pos hi2]
  rw [h1];have h2 : (coP U P i).natAbs <= (i + 1) * (pw M * pw B):=Zpm (fun i=>Nat.le_of_lt (hU i)) (fun i=>Nat.le_of_lt (hP i)) i;refine Nat.lt_of_le_of_lt h2 ?_;rw [show M + B + 1 = 1 + (M + B) by omega,Zco,Zco M B];exact Nat.mul_lt_mul_of_pos_right (by rw [Zal,Zdh];omega) (Nat.mul_pos (Za7 _) (Za7 _))
 ·rw [Zda hi];exact Za7 _
theorem ov_int {g : List Int} (hg : Top g) {M B : Nat} (hgb : Bnd B g) (hM : M + B + 1 <= 1000) : ∀ (k : Nat) (zs : List Int) (r : List Rat),zs.length = k -> r.length + 1 = k + g.length -> k + g.length <= 1000 -> (∀ x,ev r x = Ze zs x * Ze g x) -> Bnd M zs ->
    okOv (rl g) k r /\ qK (rl g) k r = rl zs:=by
 have hg0:=hg.1
 have hgl : (rl g).length = g.length:=by simp [rl]
 have hgz : co (rl g) ((rl g).length - 1) ≠ 0:=by
  rw [hgl,Zb9];intro h0;exact hg.2 (by exact_mod_cast h0)
 intro k
 induction k with
 | zero =>
  intro zs r hz hr _ he hb;obtain rfl:=List.eq_nil_of_length_eq_zero hz;exact ⟨trivial,rfl⟩
 | succ k ih =>
  intro zs r hz hr hk he hb
  have hco : ∀ t,co r t = ((cz (Zef zs g) t : Int) : Rat):=fun t=>by
   rw [<- Zb9];exact Zdd (fun x=>by rw [he,Zbb,Zev]) t
  obtain ⟨z,hzk⟩ : ∃ z,cz zs k = z:=⟨_,rfl⟩
  have htop : co r (r.length - 1) = ((z : Int) : Rat) * co (rl g) ((rl g).length - 1):=by
   have h1:=Zja (p:=rl zs) (q:=rl g) (n:=k) (m:=g.length - 1) (by simp [rl,hz]) (by rw [hgl];omega);have h2:=Zdd (p:=r) (q:=Zee (rl zs) (rl g)) (fun x=>by rw [he,Zh1,Zbb,Zbb]) (r.length - 1);rw [h2,show r.length - 1 = k + (g.length - 1) by omega,h1,Zb9,hzk,hgl]
  have hC : ovC (rl g) r = ((z : Int) : Rat):=by
   unfold ovC;rw [htop]
   grind
  have hzs : zs = zs.take k ++ [z]:=by
   have h1 : zs.take (k + 1) = zs:=List.take_of_length_le (by omega)
   have h2 : zs[k]?.toList = [z]:=by
    rw [<- hzk];unfold cz;rw [List.getElem?_eq_getElem (by omega)];rfl
   rw [List.take_add_one,h2] at h1;exact h1.symm
  have hlt : (zs.take k).length = k:=by rw [List.length_take];omega
  have hsplit : ∀ x,Ze zs x = Ze (zs.take k) x + ((z : Int) : Rat) * x ^ k:=fun x=>by
   have h1:=Zp8 (rl (zs.take k)) ((z : Int) : Rat) x
   have h2 : rl (zs.take k) ++ [((z : Int) : Rat)] = rl zs:=by
    unfold rl
    conv=>rhs;rw [hzs]
    rw [List.map_append];rfl
   rw [h2,Zbb,Zbb] at h1;rw [h1];rw [show (rl (zs.take k)).length = k by simp [rl];omega]
  obtain ⟨i1,i2⟩:=ih (zs.take k) (ovR (rl g) r) hlt (by rw [Zfi];omega) (by omega) (fun x=>by
   rw [Zpg (by rw [hgl];exact hg0) (by rw [hgl];omega) hgz x,hC,he,hsplit,hgl,show r.length - g.length = k by omega,Zbb]
   grind) (fun i=>by
   rcases Nat.lt_or_ge i k with h1 | h1
   ·have h2 : cz (zs.take k) i = cz zs i:=by unfold cz;rw [List.getElem?_take,if_pos h1]
    rw [h2];exact hb i
   ·rw [Zda (by omega)];exact Za7 _)
  refine ⟨⟨fun t=>?_,?_,fun t=>?_,i1⟩,?_⟩
  ·rw [hco]
   exact Zmp (mul_bnd hb hgb (by omega) t) hM
  ·rw [hC,<- hzk]
   exact Zmp (hb k) (by omega)
  ·rw [hC,Zb9,<- Rat.intCast_mul]
   refine Zmp (M:=M + B) ?_ (by omega);rw [<- hzk];exact Zje (hb k) (hgb t)
  ·show qK (rl g) k (ovR (rl g) r) ++ [ovC (rl g) r] = rl zs
   rw [i2,hC]
   conv=>rhs;rw [hzs]
   unfold rl;rw [List.map_append];rfl
theorem Zof {p : List Int} (hp : Top p) (hb : Bnd 8 p) (h9 : p.length <= 9) : ∃ zs : List Int,qK (rl (Za1 p (Zaj p))) (p.length + 1 - (Za1 p (Zaj p)).length) (rl p) = rl zs /\ Top zs /\ Zh zs = Zbl p /\ Bnd 19 zs /\ zs.length + (Za1 p (Zaj p)).length = p.length + 1 /\
    okOv (rl (Za1 p (Zaj p))) (p.length + 1 - (Za1 p (Zaj p)).length) (rl p) /\ ovK (rl (Za1 p (Zaj p))) (p.length + 1 - (Za1 p (Zaj p)).length) (rl p) = List.replicate ((Za1 p (Zaj p)).length - 1) 0:=by
 obtain ⟨hok,hok2,-,-,hg,hgd,hgb,hgl,-,-⟩:=Zgt hp hb h9;obtain ⟨g,hgg⟩ : ∃ g,Za1 p (Zaj p) = g:=⟨_,rfl⟩
 have hoq:=fun K hl hK=>Zrk hp hb h9 (K:=K) hl hK
 rw [hgg] at hg hgd hgb hgl hoq ⊢;have hg0:=hg.2.1
 have hrl : (rl g).length = g.length:=by simp [rl]
 have hrp : (rl p).length = p.length:=by simp [rl]
 have hgz : co (rl g) ((rl g).length - 1) ≠ 0:=by
  rw [hrl,Zb9];intro h0;exact hg.top.2 (by exact_mod_cast h0)
 have hk : p.length + 1 = (p.length + 1 - g.length) + g.length:=by omega
 have hzero:=Ztb hg.top hgd hk;have hev:=Zp7 (d:=rl g) (by rw [hrl];exact hg0) hgz (p.length + 1 - g.length) (rl p) (by rw [hrl,hrp];exact hk)
 have hr0 : ∀ x,ev (List.replicate (g.length - 1) 0) x = 0:=fun x=>Zdk (fun c hc=>List.eq_of_mem_replicate hc) x
 obtain ⟨zs,z1,z2,z3,z4⟩:=hoq (qK (rl g) (p.length + 1 - g.length) (rl p)) (by rw [Zfv];omega) (fun x=>by
  have h1:=hev x;rw [hzero,hr0,Zbb,Zbb] at h1
  rw [h1];grind)
 have hzl : zs.length = p.length + 1 - g.length:=by
  have h1:=Zfv (rl g) (p.length + 1 - g.length) (rl p);rw [z1] at h1
  simpa [rl] using h1
 refine ⟨zs,z1,z2,z3,z4,by omega,?_,hzero⟩
 exact (ov_int hg.top hgb (M:=19) (by decide) (p.length + 1 - g.length) zs (rl p) hzl (by rw [hrp];exact hk) (by omega) (fun x=>by
  have h1:=hev x;rw [hzero,hr0,z1,Zbb,Zbb,Zbb] at h1
  rw [Zbb,h1];grind) z4).1
def FTail (t : TypeId) (w : World) (g n i : Nat) (x : Nat -> Rat) : Prop:=∃ es : List FE,Blk w g t (Zak es) /\ es.length = n /\ ∀ (j : Nat) (e : FE),i <= j -> es[j]? = some e -> e.in_ w /\ e.q = x j
section
variable {t : TypeId} {w w' : World} {g n i : Nat} {x : Nat -> Rat}
theorem FTail.new (t : TypeId) (w : World) (n : Nat) (x : Nat -> Rat) : FTail t (w.alloc (.cells (Zak (List.replicate n Zbh)) t)) w.heap.size n n x:=
 ⟨_,Blk.new _ _ _,by simp,fun j e h1 h2=>by rw [List.getElem?_eq_none (by simp;exact h1)] at h2;cases h2⟩
theorem FTail.below (h : FTail t w g n i x) (hb : Below w.heap.size w w') : FTail t w' g n i x:=by
 obtain ⟨es,h1,h2,h3⟩:=h;exact ⟨es,Zd hb h1,h2,fun j e hj he=>⟨(h3 j e hj he).1.below hb,(h3 j e hj he).2⟩⟩
theorem FTail.raw (h : FTail t w g n i x) : FRaw t w g n:=by obtain ⟨es,h1,h2,-⟩:=h;exact ⟨es,h1,by omega⟩
theorem FTail.set_ (h : FTail t w g n (i + 1) x) (hi : i < n) {na : Bool} {A : Option Addr} {k c : Nat} {nb : Bool} {B : Option Addr} {m d : Nat} (hf : Fr w na A k c nb B m d (x i)) : FTail t (Zi6 w g i na A k c nb B m d) g n i x:=by
 obtain ⟨es,h1,h2,h3⟩:=h;have hb:=(((h1.set_ (i * 4) (.bool na)).set_ (i * 4 + 1) (.slice A k c)).set_ (i * 4 + 2) (.bool nb)).set_ (i * 4 + 3) (.slice B m d);have hs:=Zir (es:=es) (i:=i) ⟨na,A,k,c,nb,B,m,d,x i⟩ (by omega);dsimp only at hs;rw [hs] at hb;have hnl:=Zci es;refine ⟨_,hb,by rw [List.length_set];exact h2,fun j e hj he=>?_⟩;rw [List.getElem?_set] at he
 by_cases hij : i = j
 ·subst hij
  rw [if_pos rfl,if_pos (by omega)] at he
  cases he
  exact ⟨Zfb hf h1 hnl,rfl⟩
 ·rw [if_neg hij] at he
  have:=h3 j e (by omega) he;exact ⟨Zfb this.1 h1 hnl,this.2⟩
theorem FTail.fl (h : FTail t w g n 0 x) (hm : n <= maxLen) : FL w (some ⟨g,0,none⟩) n n ((List.range n).map x):=by
 obtain ⟨es,h1,h2,h3⟩:=h;refine ⟨es,h2,Nat.le_refl _,hm,fun e he=>?_,?_,fun _=>⟨g,0,rfl,fun k e he=>?_⟩⟩
 ·obtain ⟨j,hj,e2⟩:=List.getElem_of_mem he
  exact (h3 j e (Nat.zero_le _) (by rw [List.getElem?_eq_getElem hj,e2])).1
 ·apply List.ext_getElem?
  intro j;rw [List.getElem?_map,List.getElem?_map]
  by_cases hj : j < n
  ·have he:=List.getElem?_eq_getElem (l:=es) (i:=j) (by omega)
   rw [he,List.getElem?_range hj,Option.map_some,Option.map_some,(h3 j _ (Nat.zero_le _) he).2]
  ·rw [List.getElem?_eq_none (by omega),List.getElem?_eq_none (by simpa using hj)];rfl
 ·have hc:=Zek he
  exact ⟨by rw [Nat.zero_add,h1.cell];exact hc.1,by rw [Nat.zero_add,h1.cell];exact hc.2.1,by rw [Nat.zero_add,h1.cell];exact hc.2.2.1,by rw [Nat.zero_add,h1.cell];exact hc.2.2.2⟩
theorem FTail.other {g' i' : Nat} {na : Bool} {A : Option Addr} {k c : Nat} {nb : Bool} {B : Option Addr} {m d : Nat} (h : FTail t w g n i x) (hne : g ≠ g') (hb : ∃ t cs,Blk w g' t cs /\ NoLimb cs) : FTail t (Zi6 w g' i' na A k c nb B m d) g n i x:=by
 obtain ⟨es,h1,h2,h3⟩:=h;obtain ⟨t',cs,hb,hcs⟩:=hb;exact ⟨es,Zkk h1 hne,h2,fun j e hj he=>⟨Zfb (h3 j e hj he).1 hb hcs,(h3 j e hj he).2⟩⟩
end
theorem sOver_q (A B : Option Addr) (n c m d : Nat) (ps qs : List Int) (w : World) (hp : PolyL w A n c ps) (hq : PolyL w B m d qs) (tq : Top qs) (pos : 0 < cz qs (qs.length - 1)) (hmn : m <= n) (hn : n <= 100)
    (hok : okOv (rl qs) (n + 1 - m) (rl ps)) (hdq : ∀ t,Sm (co (rl qs) t)) (hz : ovK (rl qs) (n + 1 - m) (rl ps) = List.replicate (m - 1) 0) :
    Calls Try.prog 41 #[.slice A n c,.slice B m d] w fun e w'=>Below w.heap.size w w' /\ ∃ O ko B' d',e = .returned (.tuple #[.slice O (n + 1 - m) ko,.slice B' 0 d']) /\ FL w' O (n + 1 - m) ko (qK (rl qs) (n + 1 - m) (rl ps)):=by
 have hC:=Zpf;obtain ⟨iw,hi,hz0,hz1,hz2⟩:=info_parts Ztn
 have hmx : Try.prog.follows .mixedOrders = true:=by kernel_rfl
 have hpl:=Zb hp.len;have hql:=Zb hq.len
 have hm0 : 0 < m:=by rw [<- hql.out];exact tq.1
 have hrlp : Hid ((rl ps).length = n):=Zb (by simp [rl];exact hpl.out);have hrlq : Hid ((rl qs).length = m):=Zb (by simp [rl];exact hql.out);have htop : Hid (0 < (co (rl qs) (m - 1)).num):=Zb (by rw [Zb9,Rat.num_intCast,<- hql.out];exact pos);obtain ⟨k0,hk0⟩ : ∃ k,n + 1 - m = k:=⟨_,rfl⟩;rw [hk0] at hok hz ⊢;obtain ⟨kq,hkq⟩ : ∃ K,qK (rl qs) k0 (rl ps) = K:=⟨_,rfl⟩;rw [hkq];have hkl : Hid (kq.length = k0):=Zb (by rw [<- hkq,Zfv]);have hq0 : Hid (∀ i,i < k0 -> (qK (rl qs) k0 (rl ps))[i]?.getD 0 = kq[i]?.getD 0):=Zb (fun i _=>by rw [hkq]);replace hkq:=Zb hkq
 have hkI : (n : Int) - (m : Int) + 1 = (k0 : Int):=by omega
 have hkJ : (n : Int) - (m : Int) = (k0 : Int) - 1:=by omega
 replace hok:=Zb hok;replace hdq:=Zb hdq;replace hz:=Zb hz;replace hp:=Zb hp;replace hq:=Zb hq;replace pos:=Zb pos;replace tq:=Zb tq;go_enter Try.func41,Try.ntmps41;go_wp2_with fail;refine (Zh4 A n c ps w hp.out (by omega)).mono ?_;rintro e w1 ⟨hb1,v1,rfl,hv1⟩
 rcases hv1.fown with ⟨-,hnil⟩ | ⟨gr,cr,rfl,hgr,hcr1,hcr2,hR⟩
 ·exfalso
  have:=hrlp.out;rw [hnil] at this
  simp at this
  omega
 rw [hrlp.out] at hcr1 ⊢;clear hv1;go_wp2_with fail;refine (Zh4 B m d qs w1 (hq.out.below hb1) (by omega)).mono ?_;rintro e w2 ⟨hb2,v2,rfl,hv2⟩
 rcases hv2.fown with ⟨-,hnil⟩ | ⟨gd,cd,rfl,hgd,hcd1,hcd2,hD⟩
 ·exfalso
  have:=hrlq.out;rw [hnil] at this
  simp at this
  omega
 rw [hrlq.out] at hcd1 ⊢;clear hv2;have hrd : gr < gd:=Nat.lt_of_lt_of_le hR.lt hgd;replace hR:=hR.below hb2;have hB2:=hb1.trans (hb2.mono hb1.size);have hmk:=makeF (P:=Try.prog) 56 78 Try.underlying56 hi hz0 hz1 hz2 (k0 : Int) k0 rfl (by omega)
 have hw1 : IntKind.i64.wrap ((n : Int) - (m : Int)) = (k0 : Int) - 1:=by rw [hkJ,IntKind.wrap_i64];omega
 have hw2 : IntKind.i64.wrap ((k0 : Int) - 1 + 1) = (k0 : Int):=by rw [IntKind.wrap_i64];omega
 have hmx0 : (0 : Int) < (k0 : Int):=by omega
 have hmx1 : max 0 (k0 : Int) = (k0 : Int):=by omega
 obtain ⟨gO,hgO⟩ : ∃ g,w2.heap.size = g:=⟨_,rfl⟩;obtain ⟨X,hX,hXB,-,-,-,sX⟩:=Z8 78 (Zak (List.replicate k0 Zbh)) (Below.refl w2.heap.size w2) (Nat.le_refl _)
 have hO : FTail 78 X gO k0 k0 (fun i=>kq[i]?.getD 0):=by rw [<- hX,<- hgO];exact FTail.new _ _ _ _
 have hgRO : gr < gO:=by rw [<- hgO];exact hR.lt
 have hgDO : gd < gO:=by rw [<- hgO];exact hD.lt
 replace hR:=hR.below hXB;replace hD:=hD.below hXB;have hBX:=hB2.trans (hXB.mono hB2.size);replace hkI:=Zb hkI;replace hkJ:=Zb hkJ;go_wp2_with fail
 have hGX : Hid (∀ k,(k = gr \/ k = gO) -> ∃ t cs,Blk X k t cs /\ NoLimb cs):=Zb (fun k hk=>by
  rcases hk with rfl | rfl
  ·exact hR.box
  ·exact hO.raw.box)
 replace hD:=Zb hD;unfold maxLen at hcd2;clear hX hmk hw1 hw2 hmx0 hmx1 hb1 hb2 hB2 hXB;have hcr1':=hcr1
 go_loopg [6,9] k0 (fun k rv nv wr=>∃ (r : List Rat) (nr cr : Nat) (nn : Int),rv = .slice (some ⟨gr,0,none⟩) nr cr /\ nv = .int .i64 nn /\ Hid (nn = (k : Int) - 1) /\ Hid (r.length = nr) /\ Hid (nr + 1 = k + m) /\ nr <= cr /\ cr <= maxLen /\ k <= k0 /\ FOwn 78 wr gr r /\ FTail 78 wr gO k0 k (fun i=>kq[i]?.getD 0) /\ Hid (∀ i,i < k -> (qK (rl qs) k r)[i]?.getD 0 = kq[i]?.getD 0) /\ Hid (ovK (rl qs) k r = List.replicate (m - 1) 0) /\ Hid (okOv (rl qs) k r) /\ Kept (fun g=>g = gr \/ g = gO) X wr)
 case atStart=>exact ⟨rl ps,n,cr,_,rfl,rfl,Zb rfl,hrlp,Zb (by omega),hcr1,hcr2,Nat.le_refl _,hR,hO,hq0,hz,hok,Kept.refl _ _⟩
 case round =>
  clear hR hO hz hok hcr1 hcr2 hcr1' hq0;obtain ⟨r,nr,cr,nn,rfl,rfl,hnn,hrl,hnrm,hnrc,hcrm,hkk,hR,hO,hqx,hz,hok,hK⟩:=hrel;unfold maxLen at hcrm;have hD1:=Zb (hD.out.keptG hK (by omega) hGX.out)
  cases gk with
  | zero =>
   obtain rfl : nn = -1:=hnn.out;have hfl:=hR.fl (c:=cr) (by rw [hrl.out];exact hnrc) (by unfold maxLen;exact hcrm);have hzz:=hz.out
   have hrz : r = List.replicate nr 0:=by
    have e : ovK (rl qs) 0 r = r:=rfl;rw [e] at hzz;rw [hzz]
    congr 1
    have:=hnrm.out;omega
   rw [hrl.out,hrz] at hfl;have hBr : Below w.heap.size w wr:=hBX.trans (hK.to_below (B:=w.heap.size) (fun k hk=>by rcases hk with rfl | rfl <;> omega) hBX.size)
   have hnr100 : nr <= 100:=by have:=hnrm.out;omega
   replace hrz:=Zb hrz;have hFO:=hO.fl (by unfold maxLen;omega)
   have hke : (List.range k0).map (fun i=>kq[i]?.getD 0) = kq:=by
    apply List.ext_getElem
    ·rw [List.length_map,List.length_range,hkl.out]
    ·intro i h1 h2
     rw [List.getElem_map,List.getElem_range,List.getElem?_eq_getElem h2];rfl
   rw [hke] at hFO;replace hFO:=Zb hFO;clear hzz hR hO hke;go_wp2_with fail;refine (hC _ nr cr wr hfl hnr100).mono ?_;rintro e w9 ⟨hb9,B9,d9,rfl⟩;have hB9:=hBr.trans (hb9.mono hBr.size);go_wp2_with fail;go_returns;exact ⟨hB9,_,_,_,_,rfl,hFO.out.below hb9⟩
  | succ j =>
   obtain rfl : nn = (j : Int):=by have:=hnn.out;omega
   have hjk : j < k0:=by omega
   have hnrj : Hid (nr = j + m):=Zb (by have:=hnrm.out;omega)
   have tge : decide ((0 : Int) <= (j : Int)) = true:=by simp
   obtain ⟨top,htopE⟩ : ∃ t : Nat,t = j + m - 1:=⟨_,rfl⟩;obtain ⟨l1,hl1E⟩ : ∃ t : Nat,t = m - 1:=⟨_,rfl⟩;have e1 : IntKind.i64.wrap ((j : Int) + (m : Int)) = (j : Int) + (m : Int):=IntWalk.i64_in _ (by omega)
   have e2 : IntKind.i64.wrap ((j : Int) + (m : Int) - 1) = (top : Int):=by rw [IntKind.wrap_i64];omega
   have e3 : IntKind.i64.wrap ((m : Int) - 1) = (l1 : Int):=by rw [IntKind.wrap_i64];omega
   have hnrj2:=hnrj.out
   have b1 : (top : Int) < (nr : Int):=by omega
   have b2 : (l1 : Int) < (m : Int):=by omega
   have b3 : top < nr:=by omega
   have b4 : l1 < m:=by omega
   have hok2:=hok.out;obtain ⟨sR,sC,sW,hokj⟩:=hok2;obtain ⟨n1,A1,k1,c1,m1,B1,j1,d1,p0,p1,p2,p3,hf1⟩:=hR.at_ (i:=top) (by rw [hrl.out];exact b3);obtain ⟨n2,A2,k2,c2,m2,B2,j2,d2,q0,q1,q2,q3,hf2⟩:=hD1.out.at_ (i:=l1) (by rw [hrlq.out];exact b4);have hf1c : r[top]?.getD 0 = co r top:=rfl;have hf2c : (rl qs)[l1]?.getD 0 = co (rl qs) l1:=rfl;rw [hf1c] at hf1;rw [hf2c] at hf2;obtain ⟨cq,hcq⟩ : ∃ q : Rat,co r top / co (rl qs) l1 = q:=⟨_,rfl⟩
   have hcqC : Hid (ovC (rl qs) r = cq):=Zb (by
    unfold ovC
    rw [hrl.out,hrlq.out,<- hcq,show nr - 1 = top by omega,show m - 1 = l1 by omega])
   have hqj : Hid (kq[j]?.getD 0 = cq):=Zb (by
    rw [<- hqx.out j (Nat.lt_succ_self j),<- hcqC.out];show (qK (rl qs) j (ovR (rl qs) r) ++ [ovC (rl qs) r])[j]?.getD 0 = _
    rw [List.getElem?_append_right (by rw [Zfv];exact Nat.le_refl _),Zfv,Nat.sub_self];rfl)
   have hqx2 : Hid (∀ i,i < j -> (qK (rl qs) j (ovR (rl qs) r))[i]?.getD 0 = kq[i]?.getD 0):=Zb (fun i hi=>by
    rw [<- hqx.out i (by omega)];show _ = (qK (rl qs) j (ovR (rl qs) r) ++ [ovC (rl qs) r])[i]?.getD 0
    rw [List.getElem?_append_left (by rw [Zfv];exact hi)])
   clear hqx
   have hpos2 : 0 < (co (rl qs) l1).num:=by have:=htop.out;rw [<- hl1E] at this;exact this
   replace sR:=Zb sR;replace sC:=Zb sC;replace sW:=Zb sW;replace hokj:=Zb hokj;replace hcq:=Zb hcq;replace hpos2:=Zb hpos2;replace htopE:=Zb htopE;replace hl1E:=Zb hl1E;clear hf1c hf2c hnrj2;replace hR:=Zb hR;replace hO:=Zb hO;replace hK:=Zb hK;go_wp2_with fail;have sc1 : Sm (co r top):=sR.out top;have sc2 : Sm (co (rl qs) l1):=hdq.out l1;have hSv1 : Hid (∀ wx,Below wr.heap.size wr wx -> wx.cell? ⟨gr,top * 4,none⟩ = some (.bool n1) /\ wx.cell? ⟨gr,top * 4 + 1,none⟩ = some (.slice A1 k1 c1) /\ wx.cell? ⟨gr,top * 4 + 2,none⟩ = some (.bool m1) /\ wx.cell? ⟨gr,top * 4 + 3,none⟩ = some (.slice B1 j1 d1) /\ wx.cell? ⟨gd,l1 * 4,none⟩ = some (.bool n2) /\ wx.cell? ⟨gd,l1 * 4 + 1,none⟩ = some (.slice A2 k2 c2) /\ wx.cell? ⟨gd,l1 * 4 + 2,none⟩ = some (.bool m2) /\ wx.cell? ⟨gd,l1 * 4 + 3,none⟩ = some (.slice B2 j2 d2)):=Zb (fun wx hbx=>⟨Za hbx p0,Za hbx p1,Za hbx p2,Za hbx p3,Za hbx q0,Za hbx q1,Za hbx q2,Za hbx q3⟩);have hr1 : Below wr.heap.size wr wr.drew:=Zr (Below.refl _ _) 1;refine wp_heldS [] hmx hSv1 hr1 (fun hxs1=>?_);refine Zt2 14 [0,1,2,3,4,5,6,7,8,9,10,11,12,13] rfl (by kernel_rfl) (hSv1.out _ hr1) ?_
   iterate 14 (refine tkA ?_;try simp only [Act.put,putL_a,putL_z,putL_s,putG_a,putG_s,putG_z])
   refine tk0 ?_;refine Zi1 [(14,51),(15,36),(16,52),(18,10)] (fun i=>match i with | 15=>[17] | _=>[]) [(14,51),(15,36),(17,53),(16,52),(18,10)] (Zcd wr.heap.size (co r top / co (rl qs) l1) 14 15 16 17 18 17) 2 (by kernel_rfl) (fun _ _ _ _ _ hb h=>Zix hb h) (fun wx h=>hSv1.out _ (hr1.trans (h.mono hr1.size))) ?hop1 ?hfin1
   case hop1 =>
    intro p hp;simp only [List.mem_cons,List.not_mem_nil,or_false] at hp;simp only [List.map_cons,List.map_nil,Zae,Act.put,putL_a,putL_z,putL_s]
    rcases hp with rfl | rfl | rfl | rfl
    ·intro ν wx hb hP
     have hbx:=hr1.trans (hb.mono hr1.size);refine Zo (i:=14) rfl (fun K hK=>?_);go_simp;refine (Zph n1 m1 n2 m2 A1 B1 A2 B2 k1 c1 j1 d1 k2 c2 j2 d2 _ _ wx (hf1.below hbx) (hf2.below hbx) sc1 sc2 hpos2.out).mono ?_;rintro e w5 ⟨hb5,na5,A5,k5,c5,nb5,B5,m5,d5,rfl,hf5⟩;exact hK.out _ _ ⟨_,rfl,(by simp only [Zcd];exact ⟨_,_,_,_,_,_,_,_,rfl,hf5⟩),hb5,trivial⟩
    ·intro ν wx hb hP
     have h0:=hP (14,51) (by simp) (by kernel_rfl);simp only [Zcd] at h0;obtain ⟨na5,A5,k5,c5,nb5,B5,m5,d5,hν,hf5⟩:=h0;rw [hν];refine Zo (i:=15) rfl (fun K hK=>?_);go_simp;refine hK.out _ _ ⟨_,rfl,(by simp only [Zcd];exact ⟨_,_,_,_,_,_,_,_,rfl,hf5⟩),Below.refl _ _,?_⟩;exact ⟨_,.int .i64 0,rfl,Or.inl ⟨by kernel_rfl,fun W2 _=>by go_simp⟩,by simp [Zcd],trivial⟩
    ·intro ν wx hb hP
     have h0:=hP (15,36) (by simp) (by kernel_rfl);simp only [Zcd] at h0;obtain ⟨na5,A5,k5,c5,nb5,B5,m5,d5,hν,hf5⟩:=h0;rw [hν];refine Zo (i:=16) rfl (fun K hK=>?_);go_simp;exact hK.out _ _ ⟨_,rfl,(by simp only [Zcd];exact ⟨_,_,_,_,_,_,_,_,rfl,hf5⟩),Below.refl _ _,trivial⟩
    ·intro ν wx hb hP
     refine Zo (i:=18) rfl (fun K hK=>?_);go_simp;exact hK.out _ _ ⟨_,rfl,(by simp only [Zcd];exact ⟨_,rfl,hb.size,Blk.new _ _ _⟩),(Below.refl _ _).alloc (Nat.le_refl _) _,trivial⟩
   case hfin1 =>
    intro ν wx hb hP;have h0:=hP (14,51) (by simp);have h1:=hP (15,36) (by simp);have h2:=hP (16,52) (by simp);have h3:=hP (17,53) (by simp);have h4:=hP (18,10) (by simp);simp only [Zcd] at h0 h1 h2 h4;obtain ⟨a0,a1,a2,a3,a4,a5,a6,a7,h0,-⟩:=h0;obtain ⟨b0',b1',b2',b3',b4',b5',b6',b7',h1,-⟩:=h1;obtain ⟨ccn,ccA,cck,ccc,ccm,ccB,ccj,ccd,h2,ccf⟩:=h2;obtain ⟨gcc,h4,kv,qv⟩:=h4;simp only [List.map_cons,List.map_nil,Zae,Act.put,putL_a,putL_z,putL_s];rw [h0,h1,h2,(show ν 53 = Value.int .i64 0 by simpa [Zcd] using h3),h4];clear h0 h1 h2 h3 h4 hP ν;have hbx:=hr1.trans (hb.mono hr1.size);have qv4:=qv.four;have kv2 : wr.heap.size <= gcc:=kv;refine (Zdp ccn ccA cck ccc ccm ccB ccj ccd hbx kv2 qv).elim (fun Zcc hq=>?_);have c0:=qv4.1;have c1':=qv4.2.1;have c2':=qv4.2.2.1;have c3:=qv4.2.2.2.1;have f0:=qv4.2.2.2.2.1;have f1:=qv4.2.2.2.2.2.1;have f2:=qv4.2.2.2.2.2.2.1;have f3:=qv4.2.2.2.2.2.2.2;have hZ:=hq.1
    refine wpAnyL_o 19 fun K hK=>?_
    go_simp;(try rw [hZ]);refine hK.out _ _ (fun _=>hSv1.out _ hq.2.1) ?_;clear hK K
    try simp only [Act.put,putL_a,putL_z,putL_s]
    refine Zt1 1 [20] rfl (by kernel_rfl) (hSv1.out _ hq.2.1) ?_
    (refine tkA ?_;try simp only [Act.put,putL_a,putL_z,putL_s,putG_a,putG_s,putG_z])
    refine tk0 ?_;refine wpAnyL_fin ?_;have hbZcc:=hq.2.1;have ccb:=Zb hq.2.2.1;replace ccf:=Zb (Fr.keep ccf hq.2.2.2.1);clear hq hZ c0 c1' c2' c3 f0 f1 f2 f3 qv4 qv kv hbx hb hr1 hSv1 hxs1;rw [hcq.out] at ccf;have hB7:=hbZcc;have hO7:=hO.out.below hB7
    obtain ⟨nO,AO,kO,cO,mO,BO,jO,dO,o0,o1,o2,o3,-⟩ : ∃ na A k c nb B m d,Zcc.cell? ⟨gO,j * 4,none⟩ = some (.bool na) /\ Zcc.cell? ⟨gO,j * 4 + 1,none⟩ = some (.slice A k c) /\ Zcc.cell? ⟨gO,j * 4 + 2,none⟩ = some (.bool nb) /\ Zcc.cell? ⟨gO,j * 4 + 3,none⟩ = some (.slice B m d) /\ True:=by
     obtain ⟨na,A,k,c,nb,B,m,d,h0,h1,h2,h3⟩:=hO7.raw.cells (i:=j) (by omega);exact ⟨na,A,k,c,nb,B,m,d,h0,h1,h2,h3,trivial⟩
    have z0:=hO7.raw.frozen (j * 4);have z1:=hO7.raw.frozen (j * 4 + 1);have z2:=hO7.raw.frozen (j * 4 + 2);have z3:=hO7.raw.frozen (j * 4 + 3)
    have hj1 : (j : Int) < (k0 : Int):=by omega
    obtain ⟨x0,x1,x2,x3,-⟩:=ccb.out.four;obtain ⟨Z7,hZ7⟩ : ∃ W,Zi6 Zcc gO j ccn ccA cck ccc ccm ccB ccj ccd = W:=⟨_,rfl⟩;have hZ7':=hZ7;unfold Zi6 at hZ7';have hKc : Kept (fun g=>g = gr \/ g = gO) X Zcc:=hK.out.below hB7
    have hgOX : gO < X.heap.size:=by rw [sX,hgO];omega
    have hK7 : Hid (Kept (fun g=>g = gr \/ g = gO) X Z7):=Zb (by rw [<- hZ7];exact Zll hKc (.inl (.inr rfl)));have hO8 : Hid (FTail 78 Z7 gO k0 j (fun i=>kq[i]?.getD 0)):=Zb (by rw [<- hZ7];exact hO7.set_ (by omega) (by show Fr _ _ _ _ _ _ _ _ _ (kq[j]?.getD 0);rw [hqj.out];exact ccf.out));have hR8 : Hid (FOwn 78 Z7 gr r):=Zb (by rw [<- hZ7];exact (hR.out.below hB7).other (by omega) hO7.raw.box)
    have hgcO : gcc ≠ gO:=by have h1:=hK.out.size;omega
    have ccb7 : Hid (Blk Z7 gcc 78 #[.bool ccn,.slice ccA cck ccc,.bool ccm,.slice ccB ccj ccd]):=Zb (by rw [<- hZ7];exact Zkk ccb.out hgcO);have ccf7 : Hid (Fr Z7 ccn ccA cck ccc ccm ccB ccj ccd cq):=Zb (by rw [<- hZ7];obtain ⟨t,cs,hb,hcs⟩:=hO7.raw.box;exact Zfb ccf.out hb hcs)
    have hgcr : gcc ≠ gr:=by have h1:=hK.out.size;omega
    clear hO7 hKc hZ7 hR hO hK;replace hB7:=Zb hB7;clear hbZcc;go_wp2_with fail;(try rw [hZ7']);clear hZ7' x0 x1 x2 x3 z0 z1 z2 z3 o0 o1 o2 o3 nO AO kO cO mO BO jO dO ccb ccf;clear p0 p1 p2 p3 q0 q1 q2 q3 hf1 hf2 sc1 sc2
    have hG7 : Hid (∀ k,(k = gr \/ k = gO) -> ∃ t cs,Blk Z7 k t cs /\ NoLimb cs):=Zb (fun k hk=>by
     rcases hk with rfl | rfl
     ·exact hR8.out.box
     ·exact hO8.out.raw.box)
    go_loopg [12] m (fun k iv wr=>∃ (i : Nat) (r2 : List Rat),i + k = m /\ iv = .int .i64 i /\ Hid (r2.length = nr) /\ Hid (∀ t,co r2 t = co r t - (if j <= t /\ t < j + i then cq * co (rl qs) (t - j) else 0)) /\ FOwn 78 wr gr r2 /\ FTail 78 wr gO k0 j (fun i=>kq[i]?.getD 0) /\ Kept (fun g=>g = gr \/ g = gO) Z7 wr)
    case atStart=>exact ⟨0,r,by omega,rfl,hrl,Zb (fun t=>by rw [if_neg (by omega)];exact subz _),hR8.out,hO8.out,Kept.refl _ _⟩
    case round =>
     clear hR8 hO8;obtain ⟨i,r2,hik,rfl,hrl2,hco2,hR,hO,hK3⟩:=hrel;have hK:=hK7.out.trans hK3;have hD3:=hD.out.keptG hK (by omega) hGX.out
     cases gk with
     | zero =>
      obtain rfl : i = m:=by omega
      have tge2 : decide ((i : Int) < (i : Int)) = false:=by simp
      have hr2e : r2 = ovS (rl qs) r:=ov_end hm0 (by rw [hrl.out];exact hnrj.out) hrlq.out (by rw [hrl2.out,hrl.out]) hcqC.out hco2.out;have e5 : IntKind.i64.wrap ((j : Int) + (i : Int)) = (j : Int) + (i : Int):=IntWalk.i64_in _ (by omega);have e6 : IntKind.i64.wrap ((j : Int) - 1) = (j : Int) - 1:=IntWalk.i64_in _ (by omega);have hnrj2:=hnrj.out
      have b7 : top <= cr:=by omega
      have b8 : (top : Int) <= (cr : Int):=by omega
      have hRt:=hR.take top;rw [hr2e,show (ovS (rl qs) r).take top = ovR (rl qs) r by unfold ovR;rw [hrl.out,show nr - 1 = top by have:=htopE.out;omega]] at hRt
      have hlt : (ovR (rl qs) r).length = top:=by rw [Zfi,hrl.out];have:=htopE.out;omega
      have hrel2 : Hid (∃ (r' : List Rat) (nr' cr' : Nat) (nn' : Int),Value.slice (some ⟨gr,0,none⟩) top cr = .slice (some ⟨gr,0,none⟩) nr' cr' /\ Value.int .i64 ((j : Int) - 1) = .int .i64 nn' /\ Hid (nn' = (j : Int) - 1) /\ Hid (r'.length = nr') /\ Hid (nr' + 1 = j + i) /\ nr' <= cr' /\ cr' <= maxLen /\ j <= k0 /\ FOwn 78 wr gr r' /\ FTail 78 wr gO k0 j (fun i=>kq[i]?.getD 0) /\ Hid (∀ i,i < j -> (qK (rl qs) j r')[i]?.getD 0 = kq[i]?.getD 0) /\ Hid (ovK (rl qs) j r' = List.replicate (i - 1) 0) /\ Hid (okOv (rl qs) j r') /\ Kept (fun g=>g = gr \/ g = gO) X wr):=Zb ⟨ovR (rl qs) r,top,cr,_,rfl,rfl,Zb rfl,Zb hlt,Zb (by have:=htopE.out;omega),b7,hcrm,by omega,hRt,hO,Zb hqx2.out,Zb hz.out,Zb hokj.out,hK⟩;clear hRt hlt hr2e hR hO hK hK3 hD3 hnrj2;go_wp2_with fail
      go_roundg j
      case measure=>omega
      case rel=>exact hrel2.out
     | succ gk' =>
      obtain rfl : gk' = m - (i + 1):=by omega
      have him : i < m:=by omega
      have tlt : decide ((i : Int) < (m : Int)) = true:=by simp;omega
      have bI : (i : Int) < (m : Int):=by omega
      obtain ⟨ji,hji⟩ : ∃ t : Nat,t = j + i:=⟨_,rfl⟩
      have e4 : IntKind.i64.wrap ((j : Int) + (i : Int)) = (ji : Int):=by rw [IntKind.wrap_i64];omega
      have hnrj2:=hnrj.out
      have b5 : (ji : Int) < (nr : Int):=by omega
      have b6 : ji < nr:=by omega
      obtain ⟨n3,A3,k3,cc3,m3,B3,j3,d3,q0,q1,q2,q3,hf2⟩:=hD3.at_ (i:=i) (by rw [hrlq.out];exact him);have hf2c : (rl qs)[i]?.getD 0 = co (rl qs) i:=rfl;rw [hf2c] at hf2;obtain ⟨x0,x1,x2,x3,-⟩:=(hK3.blk ccb7.out (by rintro (h | h) <;> omega)).four;have hfc : Fr wr ccn ccA cck ccc ccm ccB ccj ccd cq:=⟨hK3.wd ccf7.out.1 hG7.out,hK3.wd ccf7.out.2 hG7.out⟩;replace hR:=Zb hR;replace hO:=Zb hO;replace hD3:=Zb hD3;replace hK:=Zb hK;replace hK3:=Zb hK3;replace hji:=Zb hji;clear hf2c hnrj2;go_wp2_with fail
      have sc1 : Sm cq:=by rw [<- hcqC.out];exact sC.out
      have sc2 : Sm (co (rl qs) i):=hdq.out i;have hSv2 : Hid (∀ wx,Below wr.heap.size wr wx -> wx.cell? ⟨gcc,0,none⟩ = some (.bool ccn) /\ wx.cell? ⟨gcc,1,none⟩ = some (.slice ccA cck ccc) /\ wx.cell? ⟨gcc,2,none⟩ = some (.bool ccm) /\ wx.cell? ⟨gcc,3,none⟩ = some (.slice ccB ccj ccd) /\ wx.cell? ⟨gd,i * 4,none⟩ = some (.bool n3) /\ wx.cell? ⟨gd,i * 4 + 1,none⟩ = some (.slice A3 k3 cc3) /\ wx.cell? ⟨gd,i * 4 + 2,none⟩ = some (.bool m3) /\ wx.cell? ⟨gd,i * 4 + 3,none⟩ = some (.slice B3 j3 d3)):=Zb (fun wx hbx=>⟨Za hbx x0,Za hbx x1,Za hbx x2,Za hbx x3,Za hbx q0,Za hbx q1,Za hbx q2,Za hbx q3⟩);have hr2 : Below wr.heap.size wr wr.drew:=Zr (Below.refl _ _) 1;refine wp_heldS [] hmx hSv2 hr2 (fun hxs2=>?_);refine Zt2 5 [0,1,2,3,4] rfl (by kernel_rfl) (hSv2.out _ hr2) ?_
      iterate 5 (refine tkA ?_;try simp only [Act.put,putL_a,putL_z,putL_s,putG_a,putG_s,putG_z])
      refine tk0 ?_;refine Zi1 [(5,70),(6,64),(7,71),(9,13)] (fun i=>match i with | 6=>[8] | _=>[]) [(5,70),(6,64),(8,72),(7,71),(9,13)] (Zcd wr.heap.size (cq * co (rl qs) i) 5 6 7 8 9 8) 2 (by kernel_rfl) (fun _ _ _ _ _ hb h=>Zix hb h) (fun wx h=>hSv2.out _ (hr2.trans (h.mono hr2.size))) ?hop2 ?hfin2
      case hop2 =>
       intro p hp;simp only [List.mem_cons,List.not_mem_nil,or_false] at hp;simp only [List.map_cons,List.map_nil,Zae,Act.put,putL_a,putL_z,putL_s]
       rcases hp with rfl | rfl | rfl | rfl
       ·intro ν wx hb hP
        have hbx:=hr2.trans (hb.mono hr2.size);refine Zo (i:=5) rfl (fun K hK=>?_);go_simp;refine (Zpc ccn ccm n3 m3 ccA ccB A3 B3 cck ccc ccj ccd k3 cc3 j3 d3 _ _ wx (hfc.below hbx) (hf2.below hbx) sc1 sc2).mono ?_;rintro e w5 ⟨hb5,na5,A5,k5,c5,nb5,B5,m5,d5,rfl,hf5⟩;exact hK.out _ _ ⟨_,rfl,(by simp only [Zcd];exact ⟨_,_,_,_,_,_,_,_,rfl,hf5⟩),hb5,trivial⟩
       ·intro ν wx hb hP
        have h0:=hP (5,70) (by simp) (by kernel_rfl);simp only [Zcd] at h0;obtain ⟨na5,A5,k5,c5,nb5,B5,m5,d5,hν,hf5⟩:=h0;rw [hν];refine Zo (i:=6) rfl (fun K hK=>?_);go_simp;refine hK.out _ _ ⟨_,rfl,(by simp only [Zcd];exact ⟨_,_,_,_,_,_,_,_,rfl,hf5⟩),Below.refl _ _,?_⟩;exact ⟨_,.int .i64 0,rfl,Or.inl ⟨by kernel_rfl,fun W2 _=>by go_simp⟩,by simp [Zcd],trivial⟩
       ·intro ν wx hb hP
        have h0:=hP (6,64) (by simp) (by kernel_rfl);simp only [Zcd] at h0;obtain ⟨na5,A5,k5,c5,nb5,B5,m5,d5,hν,hf5⟩:=h0;rw [hν];refine Zo (i:=7) rfl (fun K hK=>?_);go_simp;exact hK.out _ _ ⟨_,rfl,(by simp only [Zcd];exact ⟨_,_,_,_,_,_,_,_,rfl,hf5⟩),Below.refl _ _,trivial⟩
       ·intro ν wx hb hP
        refine Zo (i:=9) rfl (fun K hK=>?_);go_simp;exact hK.out _ _ ⟨_,rfl,(by simp only [Zcd];exact ⟨_,rfl,hb.size,Blk.new _ _ _⟩),(Below.refl _ _).alloc (Nat.le_refl _) _,trivial⟩
      case hfin2 =>
       intro ν wx hb hP;have h0:=hP (5,70) (by simp);have h1:=hP (6,64) (by simp);have h2:=hP (7,71) (by simp);have h3:=hP (8,72) (by simp);have h4:=hP (9,13) (by simp);simp only [Zcd] at h0 h1 h2 h4;obtain ⟨a0,a1,a2,a3,a4,a5,a6,a7,h0,-⟩:=h0;obtain ⟨b0',b1',b2',b3',b4',b5',b6',b7',h1,-⟩:=h1;obtain ⟨wwn,wwA,wwk,wwc,wwm,wwB,wwj,wwd,h2,wwf⟩:=h2;obtain ⟨gww,h4,kv,qv⟩:=h4;simp only [List.map_cons,List.map_nil,Zae,Act.put,putL_a,putL_z,putL_s];rw [h0,h1,h2,(show ν 72 = Value.int .i64 0 by simpa [Zcd] using h3),h4];clear h0 h1 h2 h3 h4 hP ν;have hbx:=hr2.trans (hb.mono hr2.size);have qv4:=qv.four;have kv2 : wr.heap.size <= gww:=kv;refine (Zdp wwn wwA wwk wwc wwm wwB wwj wwd hbx kv2 qv).elim (fun Zww hq=>?_);have c0:=qv4.1;have c1':=qv4.2.1;have c2':=qv4.2.2.1;have c3:=qv4.2.2.2.1;have f0:=qv4.2.2.2.2.1;have f1:=qv4.2.2.2.2.2.1;have f2:=qv4.2.2.2.2.2.2.1;have f3:=qv4.2.2.2.2.2.2.2;have hZ:=hq.1
       refine wpAnyL_o 10 fun K hK=>?_
       go_simp;(try rw [hZ]);refine hK.out _ _ (fun _=>hSv2.out _ hq.2.1) ?_;clear hK K
       try simp only [Act.put,putL_a,putL_z,putL_s]
       refine Zt1 1 [11] rfl (by kernel_rfl) (hSv2.out _ hq.2.1) ?_
       (refine tkA ?_;try simp only [Act.put,putL_a,putL_z,putL_s,putG_a,putG_s,putG_z])
       refine tk0 ?_;refine wpAnyL_fin ?_;have hbZww:=hq.2.1;have wwb:=Zb hq.2.2.1;replace wwf:=Zb (Fr.keep wwf hq.2.2.2.1);clear hq hZ c0 c1' c2' c3 f0 f1 f2 f3 qv4 qv kv hbx hb hr2 hSv2 hxs2;have hbx0:=hbZww;have hR2:=hR.out.below hbx0;have hO2:=hO.out.below hbx0;have hK2:=hK3.out.below hbx0;have hrl2':=hrl2.out;obtain ⟨n4,A4,k4,c4,m4,B4,j4,d4,u0',u1',u2',u3',hf4⟩:=hR2.at_ (i:=ji) (by rw [hrl2'];exact b6)
       have hf4c : r2[ji]?.getD 0 = co r ji:=by
        have h1:=hco2.out ji;have h2:=hji.out;rw [if_neg (by omega),<- subz] at h1;exact h1
       rw [hf4c] at hf4;have v0:=hR2.frozen (ji * 4);have v1:=hR2.frozen (ji * 4 + 1);have v2:=hR2.frozen (ji * 4 + 2);have v3:=hR2.frozen (ji * 4 + 3);obtain ⟨y0,y1,y2,y3,-⟩:=wwb.out.four;have sc3 : Sm (co r ji):=sR.out ji
       have sc4 : Sm (cq * co (rl qs) i):=by rw [<- hcqC.out];exact sW.out i
       replace hR2:=Zb hR2;replace hO2:=Zb hO2;replace hK2:=Zb hK2;clear hf4c hrl2' hbx0 q0 q1 q2 q3 x0 x1 x2 x3 hf2 hfc sc1 sc2 hR hO hK hK3 hD3;go_wp2_with fail;have hSv9 : Hid (∀ wx,Below Zww.heap.size Zww wx -> wx.cell? ⟨gr,ji * 4,none⟩ = some (.bool n4) /\ wx.cell? ⟨gr,ji * 4 + 1,none⟩ = some (.slice A4 k4 c4) /\ wx.cell? ⟨gr,ji * 4 + 2,none⟩ = some (.bool m4) /\ wx.cell? ⟨gr,ji * 4 + 3,none⟩ = some (.slice B4 j4 d4) /\ wx.cell? ⟨gww,0,none⟩ = some (.bool wwn) /\ wx.cell? ⟨gww,1,none⟩ = some (.slice wwA wwk wwc) /\ wx.cell? ⟨gww,2,none⟩ = some (.bool wwm) /\ wx.cell? ⟨gww,3,none⟩ = some (.slice wwB wwj wwd)):=Zb (fun wx hbx=>⟨Za hbx u0',Za hbx u1',Za hbx u2',Za hbx u3',Za hbx y0,Za hbx y1,Za hbx y2,Za hbx y3⟩);have hr9 : Below Zww.heap.size Zww Zww.drew:=Zr (Below.refl _ _) 1;refine wp_heldS [16] hmx hSv9 hr9 (fun hxs9=>?_);refine Zt2 11 [0,1,2,3,4,5,6,7,8,9,10] rfl (by kernel_rfl) (hSv9.out _ hr9) ?_
       iterate 11 (refine tkA ?_;try simp only [Act.put,putL_a,putL_z,putL_s,putG_a,putG_s,putG_z])
       refine tk0 ?_
       refine wpAnyL_o 11 fun K hK=>?_
       go_simp;refine (Zpj n4 m4 wwn wwm A4 B4 wwA wwB k4 c4 j4 d4 wwk wwc wwj wwd _ _ Zww.drew (hf4.below hr9) (wwf.out.below hr9) sc3 sc4).mono ?_;rintro e w5 ⟨hb5,n5,A5,k5,c5,m5,B5,j5,d5,rfl,hf5⟩;have hr10:=hr9.trans (hb5.mono hr9.size);refine hK.out _ _ (fun _=>hSv9.out _ hr10) ?_;clear hK K
       try simp only [Act.put,putL_a,putL_z,putL_s]
       refine Zt1 4 [12,13,14,15] rfl (by kernel_rfl) (hSv9.out _ hr10) ?_
       iterate 4 (refine tkA ?_;try simp only [Act.put,putL_a,putL_z,putL_s,putG_a,putG_s,putG_z])
       refine tk0 ?_;have hb5' : Below Zww.heap.size Zww w5:=Zm hb5;have hR5:=hR2.out.below hb5';have hO5:=hO2.out.below hb5';obtain ⟨Z9,hZ9⟩ : ∃ W,Zi6 w5 gr ji n5 A5 k5 c5 m5 B5 j5 d5 = W:=⟨_,rfl⟩;have hZ9':=hZ9;unfold Zi6 at hZ9';have hK9 : Hid (Kept (fun g=>g = gr \/ g = gO) Z7 Z9):=Zb (by rw [<- hZ9];exact Zll (hK2.out.below hb5') (.inl (.inl rfl)));have hO9 : Hid (FTail 78 Z9 gO k0 j (fun i=>kq[i]?.getD 0)):=Zb (by rw [<- hZ9];exact hO5.other (by omega) hR5.box);have hR9 : Hid (FOwn 78 Z9 gr (r2.set ji (co r ji - cq * co (rl qs) i))):=Zb (by rw [<- hZ9];exact hR5.set_ (by rw [hrl2.out];exact b6) hf5);have f0:=Zi hb5' u0' v0;have f1:=Zi hb5' u1' v1;have f2:=Zi hb5' u2' v2;have f3:=Zi hb5' u3' v3;have g0:=Za hb5' u0';have g1:=Za hb5' u1';have g2:=Za hb5' u2';have g3:=Za hb5' u3';clear hR5 hO5 hZ9;refine Zbn (i:=16) rfl (by kernel_rfl) (by kernel_rfl) (fun K hK=>?_);go_simp;(try rw [hZ9']);refine hK.out _ _ ?_;clear hK K
       try simp only [Act.put,putL_a,putL_z,putL_s]
       refine wpAnyL_fin ?_;clear hZ9' f0 f1 f2 f3 g0 g1 g2 g3 hb5 hb5' hr9 hr10 hSv9 hxs9 u0' u1' u2' u3' y0 y1 y2 y3 v0 v1 v2 v3 hf5 hf4 hR2 hO2 hK2;go_wp2_with fail
       go_roundg (m - (i + 1))
       case measure=>omega
       case rel=>exact ⟨i + 1,_,by omega,by go_num,Zb (by rw [List.length_set];exact hrl2.out),Zb (ov_step hji.out (by rw [hrl2.out];exact b6) hco2.out),hR9.out,hO9.out,hK9.out⟩
end Go.Proofs.Ythappeninglakaa
