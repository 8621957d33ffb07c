/- What the division, the greatest common divisor and the -/
import Derived.Test.YthappeninglakaaZq25
import Derived.Test.YthappeninglakaaZq21
set_option maxRecDepth 100000
set_option maxHeartbeats 1000000
set_option linter.unusedSimpArgs false
set_option linter.unusedVariables false
namespace Go.Proofs.Ythappeninglakaa
def rl (p : List Int) : List Rat:=p.map (fun (a : Int)=>(a : Rat))
theorem Zbb (p : List Int) (x : Rat) : ev (rl p) x = Ze p x:=by
 induction p with
 | nil=>rfl
 | cons a p ih =>
  show (a : Rat) + x * ev (rl p) x = (a : Rat) + x * Ze p x;rw [ih]
theorem Zb9 (p : List Int) (i : Nat) : co (rl p) i = ((cz p i : Int) : Rat):=by
 unfold co rl cz;rw [List.getElem?_map]
 cases p[i]? <;> simp
theorem Zhj {p q : List Rat} (h : ∀ i,co p i = co q i) (x : Rat) : ev p x = ev q x:=by
 have h1:=Zdk (p:=Zeg p (Zc5 (-1) q)) (fun c hc=>by
  obtain ⟨i,hi,rfl⟩:=List.getElem_of_mem hc;have h2:=Zgj p (Zc5 (-1) q) i;rw [Zb3,h] at h2;unfold co at h2;rw [List.getElem?_eq_getElem hi] at h2;have h3 : (Zeg p (Zc5 (-1) q))[i] = co q i + -1 * co q i:=h2
  rw [h3];grind) x
 rw [Ze2,Zbu] at h1
 grind
theorem Zei (p : List Int) : PF p.length (Ze p):=⟨rl p,by simp [rl],fun x=>(Zbb p x).symm⟩
theorem Za2 (p : List Int) : Pol (Ze p):=⟨_,Zei p⟩
def Top (p : List Int) : Prop:=0 < p.length /\ cz p (p.length - 1) ≠ 0
theorem Za5 {p : List Int} (h : Z2 p = true) : p = [] \/ Top p:=by
 cases hp : p with
 | nil=>exact .inl rfl
 | cons a l =>
  right
  rw [<- hp]
  have hl : 0 < p.length:=by rw [hp];simp
  refine ⟨hl,?_⟩;unfold Z2 at h;rw [List.getLast?_eq_getElem?] at h;unfold cz;rw [List.getElem?_eq_getElem (by omega)] at h ⊢
  simpa using h
theorem Zb1 {p : List Int} (h : Top p) : Z2 p = true:=by
 obtain ⟨h1,h2⟩:=h;unfold Z2;rw [List.getLast?_eq_getElem?];unfold cz at h2;rw [List.getElem?_eq_getElem (by omega)] at h2 ⊢
 simpa using h2
theorem Top.deg {p : List Int} (h : Top p) : Deg p.length (Ze p):=by
 refine ⟨rl p,by simp [rl],.inr ?_,fun x=>(Zbb p x).symm⟩;rw [Zb9];intro h0
 have : cz p (p.length - 1) = 0:=by exact_mod_cast h0
 exact h.2 this
theorem Top.nz {p : List Int} (h : Top p) : ¬ Zf8 (Ze p):=fun hz=>by
 have:=h.deg.unique (Zh3 hz);have:=h.1;omega
theorem Zl6 {p q : List Int} (h : ∀ x,Ze p x = Ze q x) (i : Nat) : cz p i = cz q i:=by
 have:=Zdd (p:=rl p) (q:=rl q) (fun x=>by rw [Zbb,Zbb,h]) i;rw [Zb9,Zb9] at this
 exact_mod_cast this
theorem Zib {p : List Int} (h : Top p) : Zf p = p:=by
 have:=Ze9 (xs:=p) (k:=p.length) (fun j hj=>by rw [List.getElem?_eq_none hj];rfl) (.inr h.2);rw [this,List.take_length]
theorem Zid {p : List Int} (h : Z2 p = true) : Zf p = p:=by
 rcases Za5 h with rfl | h
 ·rfl
 ·exact Zib h
theorem Zse {p q : List Int} (hp : Z2 p = true) (hq : Z2 q = true) (h : ∀ i,cz p i = cz q i) : p = q:=by
 rw [<- Zid hp,<- Zid hq];exact Zq8 h
theorem Zcx {p q : List Int} {t : Int} (h : ∀ i,cz q i = t * cz p i) (x : Rat) : Ze q x = t * Ze p x:=by
 rw [<- Zbb,<- Zbb,<- Zbu];refine Zhj (fun i=>?_) x;rw [Zb3,Zb9,Zb9,h,Rat.intCast_mul]
theorem Zgs (p : List Int) : (signP p).natAbs = (Zaf p).natAbs:=by unfold signP;split <;> simp
theorem Zgq (p : List Int) (i : Nat) : signP p ∣ cz p i:=by
 rw [<- Int.natAbs_dvd,Zgs,Int.natAbs_dvd];exact Zdt p i
theorem Zp4 (p : List Int) (i : Nat) : cz (Zh p) i = Int.fdiv (cz p i) (signP p):=by
 unfold Zh cz;rw [List.getElem?_map]
 cases p[i]? <;> simp
theorem Zfp (p : List Int) (i : Nat) : cz p i = signP p * cz (Zh p) i:=by
 rw [Zp4,Int.fdiv_eq_ediv_of_dvd (Zgq p i),Int.mul_ediv_cancel' (Zgq p i)]
theorem Zau (p : List Int) (x : Rat) : Ze p x = (signP p : Int) * Ze (Zh p) x:=Zcx (Zfp p) x
theorem Zv (p : List Int) : (Zh p).length = p.length:=by simp [Zh]
def Prim (p : List Int) : Prop:=Zaf p = 1 /\ 0 < p.length /\ 0 < cz p (p.length - 1)
theorem Prim.top {p : List Int} (h : Prim p) : Top p:=⟨h.2.1,by have:=h.2.2;omega⟩
theorem Top.sign {p : List Int} (h : Top p) : signP p ≠ 0:=by
 have h1 : Zaf p ≠ 0:=fun h0=>h.2 (Zg9 h0 _)
 have:=Zgs p;omega
theorem Top.part {p : List Int} (h : Top p) : Prim (Zh p):=by
 have hs:=h.sign;have h1:=Zif (p:=Zh p) (q:=p) (Zfp p);have h2:=Ze7 (Zh p)
 have h3 : (Zaf (Zh p)).natAbs = 1:=by
  rw [Zgs] at h1
  have h4 : 0 < (Zaf p).natAbs:=by have:=Zgs p;omega
  have h5 : (Zaf p).natAbs * (Zaf (Zh p)).natAbs = (Zaf p).natAbs * 1:=by omega
  exact Nat.eq_of_mul_eq_mul_left h4 h5
 refine ⟨by omega,by rw [Zv];exact h.1,?_⟩;rw [Zv];have h6:=Zfp p (p.length - 1);have h7:=Ze7 p;have h8:=h.2
 have h9 : Zaf p ≠ 0:=fun h0=>h.2 (Zg9 h0 _)
 rw [h6] at h8
 have hne : cz (Zh p) (p.length - 1) ≠ 0:=fun h0=>h8 (by rw [h0];simp)
 by_cases hneg : cz p (p.length - 1) < 0
 ·have hsg : signP p = -Zaf p:=by unfold signP;exact if_pos hneg
  rw [hsg] at h6
  rcases Int.lt_or_gt_of_ne hne with h10 | h10
  ·have : 0 < Zaf p * -cz (Zh p) (p.length - 1):=Int.mul_pos (by omega) (by omega)
   rw [h6] at hneg
   have e : -Zaf p * cz (Zh p) (p.length - 1) = Zaf p * -cz (Zh p) (p.length - 1):=by simp [Int.neg_mul,Int.mul_neg]
   omega
  ·exact h10
 ·have hsg : signP p = Zaf p:=by unfold signP;exact if_neg hneg
  rw [hsg] at h6
  rcases Int.lt_or_gt_of_ne hne with h10 | h10
  ·have : 0 < Zaf p * -cz (Zh p) (p.length - 1):=Int.mul_pos (by omega) (by omega)
   have e : Zaf p * -cz (Zh p) (p.length - 1) = -(Zaf p * cz (Zh p) (p.length - 1)):=by simp [Int.mul_neg]
   omega
  ·exact h10
theorem Zcj {a b : List Int} (ha : Prim a) (hb : Prim b) {κ : Rat} (h : ∀ x,Ze a x = κ * Ze b x) : a = b:=by
 have hcz : ∀ i,(κ.den : Int) * cz a i = κ.num * cz b i:=fun i=>by
  have h1:=Zdd (p:=Zc5 (κ.den : Nat) (rl a)) (q:=Zc5 (κ.num : Int) (rl b)) (fun x=>by
   rw [Zbu,Zbu,Zbb,Zbb,h]
   have e0 : ((κ.num : Int) : Rat) / ((κ.den : Nat) : Rat) = κ:=by have:=Rat.num_divInt_den κ;rw [Rat.divInt_eq_div,Rat.intCast_natCast] at this;exact this
   have e1 : ((κ.den : Nat) : Rat) ≠ 0:=by
    intro h0
    have : κ.den = 0:=by exact_mod_cast h0
    exact κ.den_nz this
   have e2 : ((κ.den : Nat) : Rat) * κ = ((κ.num : Int) : Rat):=by
    generalize ((κ.num : Int) : Rat) = N at *
    generalize ((κ.den : Nat) : Rat) = D at *
    grind
   rw [<- e2];grind) i
  rw [Zb3,Zb3,Zb9,Zb9] at h1
  exact_mod_cast h1
 have e1:=Zif (p:=a) (q:=a.map ((κ.den : Int) * ·)) (t:=κ.den) (fun i=>Ze1 a _ i);have e2:=Zif (p:=b) (q:=a.map ((κ.den : Int) * ·)) (t:=κ.num) (fun i=>by rw [Ze1,hcz]);rw [ha.1] at e1;rw [hb.1,e1] at e2
 simp at e2
 have hden : κ.den = 1:=by
  have:=κ.reduced;unfold Nat.Coprime at this;rw [<- e2,Nat.gcd_self] at this;exact this
 rw [hden] at hcz e2
 have hlen : a.length = b.length:=by
  have k1:=ha.top.deg;have k2:=hb.top.deg
  have hκ : κ ≠ 0:=by
   intro h0;exact ha.top.nz (fun x=>by rw [h,h0];grind)
  have k3 : Deg b.length (Ze a):=by
   obtain ⟨l,l1,l2,l3⟩:=k2;refine ⟨Zc5 κ l,by rw [Zc9];exact l1,?_,fun x=>by rw [Zbu,h,l3]⟩
   rcases l2 with l2 | l2
   ·exact .inl l2
   ·right
    rw [Zb3];intro h0
    rcases Rat.mul_eq_zero.1 h0 with h1 | h1
    ·exact hκ h1
    ·exact l2 h1
  exact k1.unique k3
 have hnum : κ.num = 1:=by
  have k1:=hcz (a.length - 1);have k2:=ha.2.2;have k3:=hb.2.2;rw [<- hlen] at k3
  have k4 : κ.num = 1 \/ κ.num = -1:=by omega
  rcases k4 with k4 | k4
  ·exact k4
  ·rw [k4] at k1
   simp at k1
   omega
 refine Zse (Zb1 ha.top) (Zb1 hb.top) fun i=>?_
 have:=hcz i;rw [hnum] at this
 simpa using this
def Zfe (n : Nat) (l : List Rat) : List Rat:=List.replicate n 0 ++ l
theorem Zh9 (n : Nat) (l : List Rat) (x : Rat) : ev (Zfe n l) x = x ^ n * ev l x:=by
 induction n with
 | zero=>rw [Rat.pow_zero];simp [Zfe]
 | succ n ih =>
  have e : Zfe (n + 1) l = 0 :: Zfe n l:=by simp [Zfe,List.replicate_succ]
  rw [e,ev,ih,Rat.pow_succ];grind
theorem Zie (n : Nat) (l : List Rat) (i : Nat) : co (Zfe n l) i = if n <= i then co l (i - n) else 0:=by
 unfold co Zfe
 by_cases h : n <= i
 ·rw [if_pos h,List.getElem?_append_right (by simpa using h)];simp
 ·rw [if_neg h,List.getElem?_append_left (by simp;omega),List.getElem?_replicate,if_pos (by omega)];rfl
theorem Zls {Q T q : List Int} (hq : 0 < q.length) (hT : q.length <= T.length) (hn : T.length - q.length < Q.length) (x : Rat) :
    Ze (Zbe Q T q) x * Ze q x + Ze (Zaw T q) x = ((q[q.length - 1]?.getD 0 : Int) : Rat) * (Ze Q x * Ze q x + Ze T x):=by
 obtain ⟨la,hla⟩ : ∃ z : Int,q[q.length - 1]?.getD 0 = z:=⟨_,rfl⟩;obtain ⟨le,hle⟩ : ∃ z : Int,T[T.length - 1]?.getD 0 = z:=⟨_,rfl⟩
 have h1 : Ze (Zbe Q T q) x = (la : Rat) * Ze Q x + x ^ (T.length - q.length) * le:=by
  rw [<- Zbb,<- Zbb,<- Zbu,show x ^ (T.length - q.length) * (le : Rat) = ev (Zfe (T.length - q.length) [(le : Rat)]) x by rw [Zh9];simp only [ev];grind,<- Ze2];refine Zhj (fun i=>?_) x;rw [Zgj,Zb3,Zie,Zb9,Zb9];unfold cz;rw [Zgl,hla,hle]
  by_cases hi : i = T.length - q.length
  ·rw [if_pos ⟨hi,by omega⟩,if_pos (by omega),hi,Nat.sub_self,Zc2,Rat.intCast_add,Rat.intCast_mul];grind
  ·rw [if_neg (fun h=>hi h.1),Rat.intCast_mul]
   by_cases hi2 : T.length - q.length <= i
   ·rw [if_pos hi2,Zhb (by simp;omega)];grind
   ·rw [if_neg hi2];grind
 have h2 : Ze (Zaw T q) x = (la : Rat) * Ze T x + (-(le : Rat)) * (x ^ (T.length - q.length) * Ze q x):=by
  rw [<- Zbb,<- Zbb,<- Zbb,<- Zbu,<- Zh9,<- Zbu,<- Ze2];refine Zhj (fun i=>?_) x;rw [Zgj,Zb3,Zb3,Zie,Zb9,Zb9]
  rcases Nat.lt_or_ge i T.length with hi | hi
  ·unfold cz
   rw [Zeu hi,hla,hle,Rat.intCast_sub,Rat.intCast_mul]
   by_cases hi2 : T.length - q.length <= i
   ·rw [if_pos hi2,if_pos hi2,Zb9,Rat.intCast_mul]
    unfold cz
    grind
   ·rw [if_neg hi2,if_neg hi2]
    simp only [Rat.intCast_zero]
    grind
  ·rw [Zda (by rw [Za4];exact hi),Zda hi,if_pos (by omega),Zb9,Zda (by omega)]
   simp only [Rat.intCast_zero]
   grind
 rw [h1,h2,hla];grind
theorem Ztd (l : List Int) (g : Int) (i : Nat) : cz (byG l g) i = Int.fdiv (cz l i) g:=Zjb l g i
theorem Znk {l : List Int} {g : Int} (h : ∀ i,g ∣ cz l i) (x : Rat) : Ze l x = (g : Rat) * Ze (byG l g) x:=
 Zcx (fun i=>by rw [Ztd,Int.fdiv_eq_ediv_of_dvd (h i),Int.mul_ediv_cancel' (h i)]) x
theorem Zil (Q T q : List Int) (i : Nat) : Zbs Q T q ∣ cz (Zbe Q T q) i /\ Zbs Q T q ∣ cz (Zaw T q) i:=by
 unfold Zbs Zfr
 constructor
 ·refine Int.dvd_trans ?_ (Zdt _ i)
  rw [<- Int.dvd_natAbs];exact Int.ofNat_dvd.2 (Nat.gcd_dvd_right _ _)
 ·refine Int.dvd_trans ?_ (Zdt _ i)
  rw [<- Int.dvd_natAbs];exact Int.ofNat_dvd.2 (Nat.gcd_dvd_left _ _)
theorem Zqm {q : List Int} (hq : Top q) : ∀ k Q R,Zdm q k Q R = true -> Zlu q Q R -> (Zf R).length + 1 <= Q.length + q.length ->
    ∃ c : Rat,c ≠ 0 /\ ∀ x,Ze (Zec q k Q R).1 x * Ze q x + Ze (Zec q k Q R).2 x = c * (Ze Q x * Ze q x + Ze R x):=by
 intro k
 induction k with
 | zero =>
  intro Q R _ _ _;refine ⟨1,by decide,fun x=>?_⟩;show Ze Q x * Ze q x + Ze (Zf R) x = _;rw [Zbr];grind
 | succ k ih =>
  intro Q R hok hz hl
  by_cases hlt : (Zf R).length < q.length
  ·rw [Zgi hlt]
   refine ⟨1,by decide,fun x=>?_⟩;show Ze Q x * Ze q x + Ze (Zf R) x = _;rw [Zbr];grind
  ·obtain ⟨j,hj,hd,hok2⟩:=Zkl hok hlt
   obtain rfl : j = k:=by omega
   have hle : q.length <= (Zf R).length:=by omega
   have hn : (Zf R).length - q.length < Q.length:=by have:=hq.1;omega
   have hg:=Zn3 hz hq.1 hle hn;have hz2:=Zhd hq.1 hz hle
   have hshort : (Zf (byG (Zaw (Zf R) q) (Zbs Q (Zf R) q))).length <= (Zf R).length:=by
    have:=Zbo (byG (Zaw (Zf R) q) (Zbs Q (Zf R) q));rw [Zct,Za4] at this;exact this
   obtain ⟨c,hc,h1⟩:=ih _ _ hok2 hz2 (by rw [Zct,Zdv];omega)
   have hla : ((q[q.length - 1]?.getD 0 : Int) : Rat) ≠ 0:=by
    intro h0
    have : q[q.length - 1]?.getD 0 = 0:=by exact_mod_cast h0
    exact hq.2 this
   have hgR : ((Zbs Q (Zf R) q : Int) : Rat) ≠ 0:=by
    intro h0;exact hg (by exact_mod_cast h0)
   rw [hd];refine ⟨c * (((q[q.length - 1]?.getD 0 : Int) : Rat) / (Zbs Q (Zf R) q : Int)),?_,fun x=>?_⟩
   ·intro h0
    rcases Rat.mul_eq_zero.1 h0 with h2 | h2
    ·exact hc h2
    ·rw [Rat.div_def] at h2
     rcases Rat.mul_eq_zero.1 h2 with h3 | h3
     ·exact hla h3
     ·exact hgR (by grind)
   ·rw [h1]
    have e1:=Zls hq.1 hle hn x;rw [Znk (fun i=>(Zil Q (Zf R) q i).1) x,Znk (fun i=>(Zil Q (Zf R) q i).2) x,Zbr] at e1
    generalize ((Zbs Q (Zf R) q : Int) : Rat) = G at *
    generalize ((q[q.length - 1]?.getD 0 : Int) : Rat) = la at *
    generalize Ze (byG (Zbe Q (Zf R) q) (Zbs Q (Zf R) q)) x = A at *
    generalize Ze (byG (Zaw (Zf R) q) (Zbs Q (Zf R) q)) x = B at *
    have e2 : A * Ze q x + B = la / G * (Ze Q x * Ze q x + Ze R x):=by grind
    rw [e2];grind
theorem Zkm (n : Nat) (x : Rat) : Ze (List.replicate n 0) x = 0:=by
 rw [<- Zbb];refine Zdk (fun c hc=>?_) x;unfold rl at hc;obtain ⟨a,ha,rfl⟩:=List.mem_map.1 hc;rw [(List.mem_replicate.1 ha).2];rfl
theorem Zb5 {p q : List Int} (h : Zb8 p q = true) : Top q /\ (∃ c : Rat,c ≠ 0 /\ ∀ x,Ze (Zan p q).1 x * Ze q x + Ze (Zan p q).2 x = c * Ze p x) /\ (Zan p q).2.length < q.length /\ Z2 (Zan p q).2 = true:=by
 have h2:=Zm7 h;simp only [Zb8,Bool.and_eq_true,decide_eq_true_eq] at h;obtain ⟨⟨⟨h3,h4⟩,h5⟩,h6⟩:=h;have hq : Top q:=⟨h4,h5⟩;refine ⟨hq,?_,h2.1,?_⟩
 ·obtain ⟨c,hc,h7⟩:=Zqm hq _ _ _ h6 (fun j _=>by rw [List.getElem?_replicate];split <;> rfl) (by rw [List.length_replicate];have:=Zbo p;omega)
  refine ⟨c,hc,fun x=>?_⟩;have h8:=h7 x;rw [Zkm] at h8;rw [show (Zan p q) = Zec q p.length (List.replicate (p.length + 1 - q.length) 0) p from rfl,h8];grind
 ·obtain ⟨_,r,hr⟩:=Zon q _ _ _ h6
  have e : (Zan p q).2 = Zf r:=hr;rw [e];exact Zby r
def Zk5 (p : List Int) : Prop:=Prim p \/ p = []
theorem Znn : Zh [] = []:=rfl
theorem Zch {p : List Int} (h : Z2 p = true) : Zk5 (Zh p):=by
 rcases Za5 h with rfl | h
 ·exact .inr rfl
 ·exact .inl h.part
theorem Zd3 (x : Rat) : Ze [] x = 0:=rfl
structure IsGcd (g : List Int) (P Q : Rat -> Rat) : Prop where
 sum : ∃ u v,Pol u /\ Pol v /\ ∀ x,Ze g x = u x * P x + v x * Q x
 left : Dvd (Ze g) P
 right : Dvd (Ze g) Q
theorem Zr0 : ∀ k p q,Zbz k p q = true -> Zk5 p -> Zk5 q -> IsGcd (Zet k p q) (Ze p) (Ze q) /\ Zk5 (Zet k p q):=by
 intro k
 induction k with
 | zero =>
  intro p q h hp hq
  obtain rfl : q = []:=by simpa [Zbz] using h
  exact ⟨⟨⟨fun _=>1,fun _=>0,Pol.const 1,Pol.const 0,fun x=>by show Ze p x = _;grind⟩,Dvd.refl,Dvd.zero Zd3⟩,hp⟩
 | succ k ih =>
  intro p q h hp hq
  by_cases hqe : q = []
  ·subst hqe
   have e : Zet (k + 1) p [] = p:=by unfold Zet;rw [if_pos rfl]
   rw [e];exact ⟨⟨⟨fun _=>1,fun _=>0,Pol.const 1,Pol.const 0,fun x=>by show Ze p x = _;grind⟩,Dvd.refl,Dvd.zero Zd3⟩,hp⟩
  ·unfold Zbz at h
   rw [if_neg hqe,Bool.and_eq_true] at h
   have e : Zet (k + 1) p q = Zet k q (Zh (Zan p q).2):=by rw [Zet,if_neg hqe]
   rw [e];obtain ⟨hqt,⟨c,hc,h1⟩,-,h3⟩:=Zb5 h.1;obtain ⟨⟨⟨u,v,hu,hv,hg⟩,h4,h5⟩,h6⟩:=ih q (Zh (Zan p q).2) h.2 hq (Zch h3);have hs:=Zau (Zan p q).2;obtain ⟨s,hs0⟩ : ∃ s : Rat,((signP (Zan p q).2 : Int) : Rat) = s:=⟨_,rfl⟩;rw [hs0] at hs
   generalize Zet k q (Zh (Zan p q).2) = g at *
   have hA:=Za2 (Zan p q).1;have hr : Dvd (Ze g) (Ze (Zan p q).2):=(h5.mul (Pol.const s)).congr hs;refine ⟨⟨?_,?_,h4⟩,h6⟩
   ·by_cases hz : s = 0
    ·have hz2 : ∀ x,Ze (Zh (Zan p q).2) x = 0:=by
       rcases Za5 h3 with h7 | h7
       ·rw [h7];exact fun x=>rfl
       ·exfalso
        have:=h7.sign;rw [hz] at hs0;exact this (by exact_mod_cast hs0)
     exact ⟨fun _=>0,u,Pol.const 0,hu,fun x=>by rw [hg,hz2];grind⟩
    ·refine ⟨fun x=>(s⁻¹ * c) * v x,fun x=>u x - s⁻¹ * (v x * Ze (Zan p q).1 x),hv.smul _,hu.sub ((hv.mul hA).smul _),fun x=>?_⟩
     have e1:=h1 x;rw [hs x] at e1;rw [hg]
     generalize Ze (Zh (Zan p q).2) x = R at *
     have e2 : R = s⁻¹ * (c * Ze p x - Ze (Zan p q).1 x * Ze q x):=by grind
     rw [e2];grind
   ·refine Dvd.const hc (((h4.mul hA).add hr).congr fun x=>?_)
    rw [<- h1 x]
theorem Zii {p q : List Int} (hp : Z2 p = true) (hq : Z2 q = true) (hok : Zbz ((Zh q).length + 1) (Zh p) (Zh q) = true) : IsGcd (Za1 p q) (Ze p) (Ze q) /\ Zk5 (Za1 p q):=by
 obtain ⟨⟨⟨u,v,hu,hv,hg⟩,h1,h2⟩,h3⟩:=Zr0 _ _ _ hok (Zch hp) (Zch hq)
 have key : ∀ y : List Int,Z2 y = true -> ∃ t : Rat,∀ x,Ze (Zh y) x = t * Ze y x:=by
  intro y hy
  rcases Za5 hy with rfl | hy
  ·exact ⟨1,fun x=>by rw [Znn,Zd3];grind⟩
  ·have h4 : ((signP y : Int) : Rat) ≠ 0:=by
     intro h0;exact hy.sign (by exact_mod_cast h0)
   refine ⟨((signP y : Int) : Rat)⁻¹,fun x=>?_⟩;rw [Zau y x]
   generalize ((signP y : Int) : Rat) = s at *
   grind
 obtain ⟨s,hs⟩:=key p hp;obtain ⟨t,ht⟩:=key q hq;refine ⟨⟨⟨fun x=>s * u x,fun x=>t * v x,hu.smul _,hv.smul _,fun x=>?_⟩,(h1.mul (Pol.const _)).congr (Zau p),(h2.mul (Pol.const _)).congr (Zau q)⟩,h3⟩;show Ze (Zet _ _ _) x = _;rw [hg,hs,ht];grind
theorem Zr1 {p q : List Int} (hp : Top p) (hq : Z2 q = true) (hok : Zbz ((Zh q).length + 1) (Zh p) (Zh q) = true) : Prim (Za1 p q):=by
 obtain ⟨h1,h2⟩:=Zii (Zb1 hp) hq hok
 rcases h2 with h2 | h2
 ·exact h2
 ·exfalso
  obtain ⟨k,_,hk⟩:=h1.left;refine hp.nz (fun x=>?_);rw [hk,h2,Zd3];grind
theorem Zd2 (p : List Int) : (Zaj p).length = p.length - 1:=by simp [Zaj]
theorem Zsh (p : List Int) (i : Nat) : cz (Zaj p) i = cz p (i + 1) * ((i + 1 : Nat) : Int):=Zqe p i
theorem Zej {p : List Int} (h : Top p) : Z2 (Zaj p) = true:=by
 rcases Nat.lt_or_ge 1 p.length with h1 | h1
 ·refine Zb1 ⟨by rw [Zd2];omega,?_⟩
  rw [Zd2,Zsh,show p.length - 1 - 1 + 1 = p.length - 1 by omega];intro h0
  rcases Int.mul_eq_zero.1 h0 with h2 | h2
  ·exact h.2 h2
  ·omega
 ·have : Zaj p = []:=List.eq_nil_of_length_eq_zero (by rw [Zd2];omega)
  rw [this];rfl
theorem Ztc {p q : List Int} (h : Zb8 p q = true) (hd : Dvd (Ze q) (Ze p)) : (Zan p q).2 = []:=by
 obtain ⟨hq,⟨c,hc,h1⟩,h2,h3⟩:=Zb5 h
 rcases Za5 h3 with h4 | h4
 ·exact h4
 ·exfalso
  have h5 : Dvd (Ze q) (Ze (Zan p q).2):=by
   obtain ⟨k,hk,h6⟩:=hd;refine ⟨fun x=>c * k x - Ze (Zan p q).1 x,(hk.smul c).sub (Za2 _),fun x=>?_⟩;have:=h1 x;rw [h6] at this
   grind
  have:=h5.deg_le hq.deg h4.deg h4.nz;omega
theorem Zj2 {p : List Int} (hp : Top p) (hok : Zbz ((Zh (Zaj p)).length + 1) (Zh p) (Zh (Zaj p)) = true) (hok2 : Zb8 p (Za1 p (Zaj p)) = true) :
    Prim (Zbl p) /\ ∃ κ : Rat,κ ≠ 0 /\ ∀ x,Ze p x = κ * (Ze (Zbl p) x * Ze (Za1 p (Zaj p)) x):=by
 obtain ⟨h1,-⟩:=Zii (Zb1 hp) (Zej hp) hok;obtain ⟨hg,⟨c,hc,h2⟩,-,-⟩:=Zb5 hok2;have hr:=Ztc hok2 h1.left;rw [hr] at h2
 have h3 : ∀ x,c * Ze p x = Ze (Zf (Zan p (Za1 p (Zaj p))).1) x * Ze (Za1 p (Zaj p)) x:=fun x=>by
  rw [Zbr,<- h2 x,Zd3];grind
 have ht : Top (Zf (Zan p (Za1 p (Zaj p))).1):=by
  rcases Za5 (Zby (Zan p (Za1 p (Zaj p))).1) with h4 | h4
  ·exfalso
   refine hp.nz (fun x=>?_);have:=h3 x;rw [h4,Zd3] at this
   grind
  ·exact h4
 refine ⟨ht.part,((signP (Zf (Zan p (Za1 p (Zaj p))).1) : Int) : Rat) / c,?_,fun x=>?_⟩
 ·intro h0
  rw [Rat.div_def] at h0
  rcases Rat.mul_eq_zero.1 h0 with h4 | h4
  ·exact ht.sign (by exact_mod_cast h4)
  ·exact hc (by grind)
 ·have h4:=h3 x
  rw [Zau (Zf (Zan p (Za1 p (Zaj p))).1)] at h4;show Ze p x = _ * (Ze (Zh (Zf (Zan p (Za1 p (Zaj p))).1)) x * _)
  generalize ((signP (Zf (Zan p (Za1 p (Zaj p))).1) : Int) : Rat) = s at *
  have e : Ze p x = c⁻¹ * (c * Ze p x):=by rw [<- Rat.mul_assoc,Rat.inv_mul_cancel c hc];grind
  rw [e,h4,Rat.div_def];grind
def evZ : List Int -> Int -> Int
 | [],_=>0
 | a :: l,k=>a + k * evZ l k
theorem Zgv (p : List Int) (k : Int) : Ze p (k : Rat) = (evZ p k : Int):=by
 induction p with
 | nil=>rfl
 | cons a p ih =>
  show (a : Rat) + (k : Rat) * Ze p k = ((a + k * evZ p k : Int) : Rat);rw [ih,Rat.intCast_add,Rat.intCast_mul]
theorem evZ_le {p : List Int} {k : Int} {M R : Nat} (hk : k.natAbs <= R) (hR : 1 <= R) (hp : ∀ i,(cz p i).natAbs <= M) : (evZ p k).natAbs <= p.length * (M * R ^ p.length):=by
 induction p with
 | nil=>simp [evZ]
 | cons a p ih =>
  have h1:=ih (fun i=>by have:=hp (i + 1);unfold cz at this ⊢;simpa using this);have h2 : a.natAbs <= M:=hp 0
  have h3 : (k * evZ p k).natAbs <= p.length * (M * R ^ (p.length + 1)):=by
   rw [Int.natAbs_mul,Nat.pow_succ]
   calc k.natAbs * (evZ p k).natAbs <= R * (p.length * (M * R ^ p.length)):=Nat.mul_le_mul hk h1
    _ = p.length * (M * (R ^ p.length * R)):=by rw [Nat.mul_comm R];simp only [Nat.mul_assoc]
  have h4 : M <= M * R ^ (p.length + 1):=Nat.le_mul_of_pos_right _ (Nat.pow_pos hR);simp only [List.length_cons,evZ];rw [Nat.succ_mul];omega
def Zfs (r : Int) : List Int -> List Int
 | []=>[]
 | [_]=>[]
 | _ :: b :: l=>evZ (b :: l) r :: Zfs r (b :: l)
theorem Zip (r : Int) (p : List Int) : (Zfs r p).length = p.length - 1:=by
 match p with
 | []=>rfl
 | [a]=>rfl
 | a :: b :: l =>
  have:=Zip r (b :: l);simp only [Zfs,List.length_cons] at this ⊢;omega
theorem Zp1 (r : Int) (p : List Int) (k : Int) : evZ p k = (k - r) * evZ (Zfs r p) k + evZ p r:=by
 match p with
 | []=>simp [Zfs,evZ]
 | [a]=>simp [Zfs,evZ]
 | a :: b :: l =>
  have h:=Zp1 r (b :: l) k;show a + k * evZ (b :: l) k = (k - r) * (evZ (b :: l) r + k * evZ (Zfs r (b :: l)) k) + (a + r * evZ (b :: l) r)
  generalize evZ (b :: l) k = A at *
  generalize evZ (b :: l) r = B at *
  generalize evZ (Zfs r (b :: l)) k = C at *
  rw [h]
  grind
theorem Zfg (a : Int) (l : List Int) : cz (a :: l) 0 = a:=rfl
theorem Ze6 (a : Int) (l : List Int) (i : Nat) : cz (a :: l) (i + 1) = cz l i:=by simp [cz]
theorem Zp3 (r : Int) (p : List Int) (i : Nat) : cz p i = (if i = 0 then evZ p r else cz (Zfs r p) (i - 1)) - r * cz (Zfs r p) i:=by
 match p with
 | []=>cases i <;> simp [Zfs,evZ,cz]
 | [a]=>cases i <;> simp [Zfs,evZ,cz]
 | a :: b :: l =>
  cases i with
  | zero =>
   rw [if_pos rfl,Zfg,Zfs,Zfg,evZ]
   generalize evZ (b :: l) r = E
   omega
  | succ i =>
   rw [if_neg (by omega),Ze6,Zfs,Nat.add_sub_cancel,Ze6];have h:=Zp3 r (b :: l) i;rw [h]
   cases i with
   | zero=>rw [if_pos rfl,Zfg]
   | succ i=>rw [if_neg (by omega),Nat.add_sub_cancel,Ze6]
def Cn (R : Nat) : Nat -> Nat
 | 0=>0
 | n + 1=>1 + (1 + R) * (2 * Cn R n)
theorem Zpb (R : Nat) : ∀ (n : Nat) (p : List Int),p.length <= n -> ∀ K : List Nat,K.length = n -> K.Nodup -> (∀ k ∈ K,k <= R) -> ∀ B : Nat,(∀ k ∈ K,(evZ p (k : Nat)).natAbs <= B) -> ∀ i,(cz p i).natAbs <= Cn R n * B:=by
 intro n
 induction n with
 | zero =>
  intro p hp K _ _ _ B _ i;rw [Zda (by omega)];exact Nat.zero_le _
 | succ n ih =>
  intro p hp K hK hnd hR B hB i
  match K,hK with
  | r :: K,hK =>
   obtain ⟨hr,hnd2⟩:=List.nodup_cons.1 hnd
   have hq:=ih (Zfs (r : Nat) p) (by rw [Zip];omega) K (by simpa using hK) hnd2 (fun k hk=>hR k (List.mem_cons_of_mem _ hk)) (2 * B) (fun k hk=>by
    have h1:=Zp1 (r : Nat) p (k : Nat);have h2:=hB k (List.mem_cons_of_mem _ hk);have h3:=hB r (List.mem_cons_self ..)
    have h4 : ((k : Int) - (r : Int)).natAbs * (evZ (Zfs (r : Nat) p) (k : Nat)).natAbs <= 2 * B:=by
     rw [<- Int.natAbs_mul];omega
    have h5 : 1 <= ((k : Int) - (r : Int)).natAbs:=by
     have : k ≠ r:=fun h=>hr (h ▸ hk)
     omega
    exact Nat.le_trans (Nat.le_mul_of_pos_left _ h5) h4)
   have h1:=Zp3 (r : Nat) p i;have h2:=hq i;have h3:=hq (i - 1);have h4:=hB r (List.mem_cons_self ..);have h5:=hR r (List.mem_cons_self ..)
   have h6 : ((r : Int) * cz (Zfs (r : Nat) p) i).natAbs <= R * (Cn R n * (2 * B)):=by
    rw [Int.natAbs_mul];exact Nat.mul_le_mul (by simpa using h5) h2
   have h7 : Cn R (n + 1) * B = B + (Cn R n * (2 * B) + R * (Cn R n * (2 * B))):=by
    simp only [Cn];grind
   rw [h7,h1]
   generalize Cn R n * (2 * B) = X at *
   generalize R * X = Y at *
   split <;> omega
theorem Zs8 : ∀ (Z : List Nat),Z.Nodup -> ∀ (f : Rat -> Rat) (n : Nat),Deg (n + 1) f -> (∀ z ∈ Z,f (z : Nat) = 0) -> Z.length <= n:=by
 intro Z
 induction Z with
 | nil=>intro _ _ n _ _;exact Nat.zero_le _
 | cons z Z ih =>
  intro hnd f n hf hz;obtain ⟨hz1,hnd2⟩:=List.nodup_cons.1 hnd;obtain ⟨q,hq,h1⟩:=hf.pol.root (hz z (List.mem_cons_self ..))
  have hqz : ¬ Zf8 q:=fun h=>by have:=hf.unique (Zh3 (fun x=>by rw [h1,h x];grind));omega
  obtain ⟨j,hj⟩:=Zjc hq hqz;have h2:=((hj.mul (deg_lin _)).congr h1).unique hf
  have:=ih hnd2 q j hj (fun y hy=>by
   have h3:=hz y (List.mem_cons_of_mem _ hy);rw [h1] at h3
   rcases Rat.mul_eq_zero.1 h3 with h4 | h4
   ·exact h4
   ·exfalso
    have : ((y : Nat) : Rat) = (z : Nat):=by grind
    have : y = z:=by exact_mod_cast this
    exact hz1 (this ▸ hy))
  simp only [List.length_cons];omega
theorem points {P : List Int} {n m : Nat} (hP : Top P) (hm : P.length <= m + 1) : ∃ K : List Nat,K.length = n /\ K.Nodup /\ (∀ k ∈ K,k <= n + m) /\ ∀ k ∈ K,evZ P (k : Nat) ≠ 0:=by
 have hnd : (List.range (n + m)).Nodup:=List.nodup_range
 have hsum : ((List.range (n + m)).filter fun k=>decide (evZ P (k : Nat) ≠ 0)).length + ((List.range (n + m)).filter fun k=>!decide (evZ P (k : Nat) ≠ 0)).length = n + m:=by
  have : ∀ l : List Nat,(l.filter fun k=>decide (evZ P (k : Nat) ≠ 0)).length + (l.filter fun k=>!decide (evZ P (k : Nat) ≠ 0)).length = l.length:=by
   intro l
   induction l with
   | nil=>rfl
   | cons a l ih =>
    by_cases h : evZ P (a : Nat) = 0
    ·rw [List.filter_cons_of_neg (by simp [h]),List.filter_cons_of_pos (by simp [h])];simp only [List.length_cons];omega
    ·rw [List.filter_cons_of_pos (by simp [h]),List.filter_cons_of_neg (by simp [h])];simp only [List.length_cons];omega
  rw [this,List.length_range]
 have hz : ((List.range (n + m)).filter fun k=>!decide (evZ P (k : Nat) ≠ 0)).length <= m:=by
  obtain ⟨j,hj⟩ : ∃ j,P.length = j + 1:=⟨P.length - 1,by have:=hP.1;omega⟩;have hd:=hP.deg;rw [hj] at hd
  have:=Zs8 _ (hnd.filter (fun k=>!decide (evZ P (k : Nat) ≠ 0))) _ j hd (fun z hz=>by
   have h1:=(List.mem_filter.1 hz).2
   have h2 : evZ P (z : Nat) = 0:=by simpa using h1
   have h3:=Zgv P (z : Nat);rw [h2] at h3
   exact h3)
  omega
 refine ⟨((List.range (n + m)).filter fun k=>decide (evZ P (k : Nat) ≠ 0)).take n,?_,?_,fun k hk=>?_,fun k hk=>?_⟩
 ·rw [List.length_take];omega
 ·exact (hnd.filter _).sublist (List.take_sublist _ _)
 ·have:=(List.mem_filter.1 (List.mem_of_mem_take hk)).1
  rw [List.mem_range] at this;omega
 ·have:=(List.mem_filter.1 (List.mem_of_mem_take hk)).2
  simpa using this
theorem Zl2 : ∀ l : List Rat,∃ D : Nat,0 < D /\ ∃ h : List Int,∀ x,(D : Rat) * ev l x = Ze h x
 | []=>⟨1,by omega,[],fun x=>by show (1 : Rat) * 0 = 0;grind⟩
 | a :: l=>by
  obtain ⟨D,hD,h,hh⟩:=Zl2 l;refine ⟨a.den * D,Nat.mul_pos a.den_pos hD,(a.num * (D : Nat)) :: h.map ((a.den : Int) * ·),fun x=>?_⟩
  have e0 : ((a.num : Int) : Rat) / ((a.den : Nat) : Rat) = a:=by have:=Rat.num_divInt_den a;rw [Rat.divInt_eq_div,Rat.intCast_natCast] at this;exact this
  have e1 : ((a.den : Nat) : Rat) ≠ 0:=by
   intro h0
   have : a.den = 0:=by exact_mod_cast h0
   exact a.den_nz this
  have e2 : ((a.den : Nat) : Rat) * a = ((a.num : Int) : Rat):=by
   generalize ((a.num : Int) : Rat) = N at *
   generalize ((a.den : Nat) : Rat) = E at *
   grind
  have e3:=Zcx (p:=h) (q:=h.map ((a.den : Int) * ·)) (t:=(a.den : Nat)) (fun i=>Ze1 h _ i) x;show ((a.den * D : Nat) : Rat) * (a + x * ev l x) = ((a.num * (D : Nat) : Int) : Rat) + x * Ze (h.map ((a.den : Int) * ·)) x;rw [e3,<- hh x,Rat.intCast_mul,<- e2,Rat.intCast_natCast,Rat.intCast_natCast,Rat.natCast_mul]
  grind
theorem Zsc {a b : List Int} (ha : Prim a) (hb : Prim b) : Prim (Zef a b):=by
 have hl : (Zef a b).length = a.length + b.length - 1:=by simp [Zef]
 have h1:=ha.2.1;have h2:=hb.2.1
 have h3 : cz (Zef a b) (a.length - 1 + (b.length - 1)) = cz a (a.length - 1) * cz b (b.length - 1):=by
  have:=Zdd (p:=rl (Zef a b)) (q:=Zee (rl a) (rl b)) (fun x=>by rw [Zbb,Zh1,Zbb,Zbb,Zev]) (a.length - 1 + (b.length - 1));rw [Zja (p:=rl a) (q:=rl b) (by simp [rl];omega) (by simp [rl];omega),Zb9,Zb9,Zb9] at this
  exact_mod_cast this
 refine ⟨gauss ha.1 hb.1,by omega,?_⟩;rw [hl,show a.length + b.length - 1 - 1 = a.length - 1 + (b.length - 1) by omega,h3];exact Int.mul_pos ha.2.2 hb.2.2
theorem Znp {p f : List Int} (hp : Top p) (hf : Prim f) (hd : Dvd (Ze f) (Ze p)) : ∃ h,Prim h /\ Zh p = Zef h f:=by
 obtain ⟨q,⟨n,l,hl,hql⟩,hq⟩:=hd;obtain ⟨D,hD,h0,hh⟩:=Zl2 l
 have hDR : ((D : Nat) : Rat) ≠ 0:=by
  intro h1
  have : D = 0:=by exact_mod_cast h1
  omega
 have e1 : ∀ x,(D : Rat) * Ze p x = Ze (Zf h0) x * Ze f x:=fun x=>by rw [hq,hql,Zbr,<- hh];grind
 have ht : Top (Zf h0):=by
  rcases Za5 (Zby h0) with h1 | h1
  ·exfalso
   refine hp.nz (fun x=>?_);have:=e1 x;rw [h1,Zd3] at this
   grind
  ·exact h1
 refine ⟨Zh (Zf h0),ht.part,?_⟩
 have hs : ((signP p : Int) : Rat) ≠ 0:=by
  intro h1;exact hp.sign (by exact_mod_cast h1)
 refine Zcj hp.part (Zsc ht.part hf) (κ:=(((D : Nat) : Rat) * (signP p : Int))⁻¹ * (signP (Zf h0) : Int)) (fun x=>?_);have e2:=e1 x;rw [Zau p,Zau (Zf h0)] at e2;rw [Zev]
 generalize Ze (Zh p) x = A at *
 generalize Ze (Zh (Zf h0)) x = B at *
 generalize ((signP p : Int) : Rat) = s at *
 generalize ((signP (Zf h0) : Int) : Rat) = t at *
 generalize ((D : Nat) : Rat) = d at *
 have hds : d * s ≠ 0:=by
  intro h1
  rcases Rat.mul_eq_zero.1 h1 with h2 | h2
  ·exact hDR h2
  ·exact hs h2
 have e3 : A = (d * s)⁻¹ * ((d * s) * A):=by rw [<- Rat.mul_assoc,Rat.inv_mul_cancel _ hds];grind
 rw [e3,show d * s * A = t * B * Ze f x by rw [<- e2];grind]
 grind
theorem Zhl {p f : List Int} (hp : Top p) (hf : Prim f) (hd : Dvd (Ze f) (Ze p)) {n M : Nat} (hn : p.length <= n) (hM : ∀ i,(cz p i).natAbs <= M) (i : Nat) : (cz f i).natAbs <= Cn (2 * n) n * (n * (M * (2 * n) ^ n)):=by
 obtain ⟨h,hh,hpart⟩:=Znp hp hf hd;obtain ⟨K,k1,k2,k3,k4⟩:=points (n:=n) (m:=n - 1) hp (by omega)
 have hn1 : 1 <= n:=by have:=hp.1;omega
 have hfl : f.length <= n:=by
  have:=hd.deg_le hf.top.deg hp.deg hp.nz;omega
 refine Zpb (2 * n) n f hfl K k1 k2 (fun k hk=>by have:=k3 k hk;omega) _ (fun k hk=>?_) i;have hk3:=k3 k hk
 have e1 : evZ p (k : Nat) = signP p * (evZ h (k : Nat) * evZ f (k : Nat)):=by
  have e2:=Zau p ((k : Int) : Rat);rw [hpart,Zev,Zgv,Zgv,Zgv] at e2
  exact_mod_cast e2
 have hne:=k4 k hk
 have h2 : (evZ f (k : Nat)).natAbs <= (evZ p (k : Nat)).natAbs:=by
  refine Nat.le_of_dvd (by omega) (Int.natAbs_dvd_natAbs.2 ⟨signP p * evZ h (k : Nat),?_⟩);rw [e1];grind
 have h3:=evZ_le (p:=p) (k:=(k : Nat)) (R:=2 * n) (by simp;omega) (by omega) hM;refine Nat.le_trans h2 (Nat.le_trans h3 ?_);exact Nat.mul_le_mul hn (Nat.mul_le_mul_left _ (Nat.pow_le_pow_right (by omega) hn))
def Bnd (M : Nat) (p : List Int) : Prop:=∀ i,(cz p i).natAbs < pw M
theorem Bnd.mono {M M' : Nat} {p : List Int} (h : Bnd M p) (hM : M <= M') : Bnd M' p:=fun i=>Nat.lt_of_lt_of_le (h i) (Zdn hM)
theorem Bnd.trim {M : Nat} {p : List Int} (h : Bnd M p) : Bnd M (Zf p):=fun i=>by
 have : cz (Zf p) i = cz p i:=Zh7 p i;rw [this];exact h i
theorem Bnd.smallP {M : Nat} {p : List Int} (h : Bnd M p) (hM : M <= 1000) : smallP p = true:=by
 unfold Go.Proofs.Ythappeninglakaa.smallP;rw [List.all_eq_true];intro a ha;obtain ⟨i,hi,rfl⟩:=List.getElem_of_mem ha;have:=h.mono hM i;unfold cz at this;rw [List.getElem?_eq_getElem hi] at this
 simpa using this
theorem Zps {x g : Int} (h : g ∣ x) : (Int.fdiv x g).natAbs <= x.natAbs:=by
 rw [Int.fdiv_eq_ediv_of_dvd h];obtain ⟨k,rfl⟩:=h
 by_cases hg : g = 0
 ·subst hg;simp
 ·rw [Int.mul_ediv_cancel_left _ hg,Int.natAbs_mul]
  exact Nat.le_mul_of_pos_left _ (by omega)
theorem Bnd.byG {M : Nat} {l : List Int} {g : Int} (h : Bnd M l) (hg : ∀ i,g ∣ cz l i) : Bnd M (byG l g):=fun i=>by
 rw [Ztd];exact Nat.lt_of_le_of_lt (Zps (hg i)) (h i)
theorem Bnd.part {M : Nat} {p : List Int} (h : Bnd M p) : Bnd M (Zh p):=fun i=>by
 rw [Zp4];exact Nat.lt_of_le_of_lt (Zps (Zgq p i)) (h i)
theorem Zje {a b : Int} {M M' : Nat} (ha : a.natAbs < pw M) (hb : b.natAbs < pw M') : (a * b).natAbs < pw (M + M'):=by
 rw [Int.natAbs_mul,Zco];exact Nat.mul_lt_mul'' ha hb
theorem Zno {M Mq : Nat} {Q T q : List Int} (hQ : Bnd M Q) (hT : Bnd M T) (hq : Bnd Mq q) : Bnd (M + (Mq + 1)) (Zbe Q T q) /\ Bnd (M + (Mq + 1)) (Zaw T q):=by
 have h2:=pw_dbl (M + Mq)
 have e : M + (Mq + 1) = M + Mq + 1:=by omega
 rw [e];have hM:=Zdn (show M <= M + Mq by omega);have hla:=hq (q.length - 1);have hle:=hT (T.length - 1)
 constructor
 ·intro i
  unfold cz;rw [Zgl];have h1:=Zje (hQ i) hla;unfold cz at h1 hle
  split <;> omega
 ·intro i
  rcases Nat.lt_or_ge i T.length with hi | hi
  ·unfold cz
   rw [Zeu hi];have h1:=Zje (hT i) hla;have h3:=Zje (hq (i - (T.length - q.length))) hle;rw [show Mq + M = M + Mq by omega] at h3;unfold cz at h1 h3
   split <;> omega
  ·rw [Zda (by rw [Za4];exact hi)]
   exact Za7 _
theorem Zrr {q : List Int} (hq : Top q) {Mq : Nat} (hqb : Bnd Mq q) : ∀ (k : Nat) (Q R : List Int) (M t : Nat),Bnd M Q -> Bnd M R -> Zlu q Q R -> (Zf R).length + 1 <= Q.length + q.length -> (Zf R).length + 1 <= q.length + t -> t <= k -> M + t * (Mq + 1) <= 1000 ->
    Zdm q k Q R = true /\ Bnd (M + t * (Mq + 1)) (Zec q k Q R).1 /\ Bnd (M + t * (Mq + 1)) (Zec q k Q R).2:=by
 intro k
 induction k with
 | zero =>
  intro Q R M t hQ hR hz hl hf ht hM
  obtain rfl : t = 0:=by omega
  rw [Nat.zero_mul,Nat.add_zero] at hM ⊢;refine ⟨?_,hQ,hR.trim⟩;simp only [Zdm,Bool.and_eq_true,decide_eq_true_eq];exact ⟨⟨hQ.smallP hM,hR.smallP hM⟩,by omega⟩
 | succ k ih =>
  intro Q R M t hQ hR hz hl hf ht hM;have hM1 : M <= M + t * (Mq + 1):=Nat.le_add_right _ _
  by_cases hlt : (Zf R).length < q.length
  ·rw [Zgi hlt]
   refine ⟨?_,hQ.mono hM1,hR.trim.mono hM1⟩;simp only [Zdm,Bool.and_eq_true];rw [if_pos hlt];exact ⟨⟨hQ.smallP (by omega),hR.smallP (by omega)⟩,rfl⟩
  ·have hle : q.length <= (Zf R).length:=by omega
   have hq0:=hq.1;obtain ⟨t,rfl⟩ : ∃ s,t = s + 1:=⟨t - 1,by omega⟩;have hsb:=Zno hQ hR.trim hqb;have hd:=Zil Q (Zf R) q;have hb1:=hsb.1.byG (fun i=>(hd i).1);have hb2:=hsb.2.byG (fun i=>(hd i).2);have hz2:=Zhd hq0 hz hle
   have hshort : (Zf (byG (Zaw (Zf R) q) (Zbs Q (Zf R) q))).length < (Zf R).length:=by
    have:=Zjo (xs:=byG (Zaw (Zf R) q) (Zbs Q (Zf R) q)) (by rw [Zct,Za4];omega) (by rw [Zjb,Zct,Za4,Zhc hq0 hle];simp);rw [Zct,Za4] at this;exact this
   have hM2 : M + (t + 1) * (Mq + 1) = M + (Mq + 1) + t * (Mq + 1):=by rw [Nat.succ_mul];omega
   rw [hM2] at hM ⊢;have h:=ih _ _ (M + (Mq + 1)) t hb1 hb2 hz2 (by rw [Zct,Zdv];omega) (by omega) (by omega) hM;refine ⟨?_,?_,?_⟩
   ·simp only [Zdm,Bool.and_eq_true]
    rw [if_neg hlt];exact ⟨⟨hQ.smallP (by omega),hR.smallP (by omega)⟩,h.1⟩
   ·rw [Zec,if_neg hlt];exact h.2.1
   ·rw [Zec,if_neg hlt];exact h.2.2
theorem Zfl {p q : List Int} (hq : Top q) {M Mq la : Nat} (hla : p.length <= la) (hp : Bnd M p) (hqb : Bnd Mq q) (hMq : Mq <= 1000) (hM : M + (la + 1 - q.length) * (Mq + 1) <= 1000) :
    Zb8 p q = true /\ Bnd (M + (la + 1 - q.length) * (Mq + 1)) (Zan p q).1 /\ Bnd (M + (la + 1 - q.length) * (Mq + 1)) (Zan p q).2:=by
 have hq0:=hq.1;have hts:=Zbo p;have hmono : M + (p.length + 1 - q.length) * (Mq + 1) <= M + (la + 1 - q.length) * (Mq + 1):=Nat.add_le_add_left (Nat.mul_le_mul_right _ (by omega)) _
 have h:=Zrr hq hqb p.length (List.replicate (p.length + 1 - q.length) 0) p M (p.length + 1 - q.length) (fun i=>by
  unfold cz;rw [List.getElem?_replicate]
  split <;> exact Za7 _) hp (fun j _=>by rw [List.getElem?_replicate];split <;> rfl) (by rw [List.length_replicate];omega) (by omega) (by omega) (by omega)
 refine ⟨?_,h.2.1.mono hmono,h.2.2.mono hmono⟩;simp only [Zb8,Bool.and_eq_true,decide_eq_true_eq];exact ⟨⟨⟨hqb.smallP hMq,hq0⟩,hq.2⟩,h.1⟩
open Go.RowKit
attribute [local go_sem] Zj
theorem Ztn : (Try.prog.info? 78).map (fun i=>(i.zero,i.size,i.bytes)) = some (some (.agg #[.bool false,.slice none 0 0,.bool false,.slice none 0 0]),4,64):=by kernel_rfl
theorem Zph (na nb na' nb' : Bool) (A B A' B' : Option Addr) (n c m d n' c' m' d' : Nat) (a b : Rat) (w : World) (ha : Fr w na A n c nb B m d a) (hb : Fr w na' A' n' c' nb' B' m' d' b) (sa : Sm a) (sb : Sm b) (hp : 0 < b.num) :
    Calls Try.prog 61 #[.agg #[.bool na,.slice A n c,.bool nb,.slice B m d],.agg #[.bool na',.slice A' n' c',.bool nb',.slice B' m' d']] w (Zn0 w (a / b)):=by
 obtain ⟨W0,hW0,hB0,⟨q0,q1,q2⟩,s0⟩:=Zkc w 78 #[.bool na,.slice A n c,.bool nb,.slice B m d] 78 #[.bool na',.slice A' n' c',.bool nb',.slice B' m' d'] 78 #[.bool false,.slice none 0 0,.bool false,.slice none 0 0];replace ha:=Zb (ha.below hB0);replace hb:=Zb (hb.below hB0);have hH:=Zit na nb' nb na' A B' B A' n c m' d' m d n' c' a.num b.den a.den b.num W0 ha.out.1 hb.out.2 ha.out.2 hb.out.1 (Ze3 sa.1 sb.dn) (Ze3 sa.dn sb.1) (Int.mul_pos (by have:=a.den_pos;omega) hp);rw [rat_div hp] at hH;replace hH:=Zb hH;obtain ⟨a0,a1,a2,a3,-⟩:=q0.four;obtain ⟨b0,b1,b2,b3,-⟩:=q1.four;go_enter Try.func61,Try.ntmps61;go_wp2_with fail;refine (hH.out).mono ?_;rintro e w1 ⟨hb1,nx,Ax,kx,cx,ny,Ay,ky,cy,rfl,hF⟩;have hB1:=hB0.trans (hb1.mono hB0.size);replace q2:=Zb (Zd hb1 q2);replace hF:=Zb hF;clear a0 a1 a2 a3 b0 b1 b2 b3 hW0;obtain ⟨c20,c21,c22,c23,f20,f21,f22,f23⟩:=q2.out.four;obtain ⟨W7,hW7,hB7,q3,kW,-,s7⟩:=Zdp nx Ax kx cx ny Ay ky cy hB1 (by omega) q2.out;obtain ⟨r0,r1,r2,r3,-⟩:=q3.four;go_wp2_with fail;refine bodyPost_ret (v:=.tuple #[.agg #[.bool nx,.slice Ax kx cx,.bool ny,.slice Ay ky cy],.int .i64 0]) (by simp [results,Try.results61,go_sem,r0,r1,r2,r3]) rfl ?_;exact ⟨hB7,_,_,_,_,_,_,_,_,rfl,kW _ _ _ _ _ hF.out.1,kW _ _ _ _ _ hF.out.2⟩
theorem fr_int {w : World} {na : Bool} {A : Option Addr} {n c : Nat} {nb : Bool} {B : Option Addr} {m d : Nat} {z : Int} (h1 : Wd w na A n c z) (h2 : Wd w nb B m d 1) : Fr w na A n c nb B m d (z : Rat):=by
 refine ⟨?_,?_⟩
 ·rw [Rat.num_intCast];exact h1
 ·rw [Rat.den_intCast];exact h2
theorem Zh4 (A : Option Addr) (n c : Nat) (xs : List Int) (w : World) (h : PolyL w A n c xs) (hn : n <= 900) :
    Calls Try.prog 60 #[.slice A n c] w fun e w'=>Below w.heap.size w w' /\ ∃ v,e = .returned v /\ OwnF 78 w' w.heap.size v (rl xs):=by
 obtain ⟨iw,hi,hz0,hz1,hz2⟩:=info_parts Ztn
 have hmx : Try.prog.follows .mixedOrders = true:=by kernel_rfl
 have hxl:=Zb h.len;obtain ⟨hnc,hcm⟩:=h.cap;unfold maxLen at hcm;replace h:=Zb h;go_enter Try.func60,Try.ntmps60;go_wp2_with fail
 go_loopg [3,4] n (fun k ov iv wr=>∃ i : Nat,i + k = n /\ iv = .int .i64 i /\ OwnF 78 wr w.heap.size ov ((rl xs).take i) /\ Below w.heap.size w wr)
 case atStart=>exact ⟨0,Nat.zero_add _,rfl,by rw [List.take_zero];exact OwnF.nil _ _ _,Below.refl _ _⟩
 case round =>
  obtain ⟨i,hik,rfl,hown,hB⟩:=hrel
  by_cases hin : i < n
  case neg =>
   obtain rfl : n = i:=by omega
   have htk : decide ((n : Int) < (n : Int)) = false:=by simp
   rw [List.take_of_length_le (by simp [rl,hxl.out])] at hown;go_wp2_with fail;go_ret;exact ⟨hB,_,rfl,hown⟩
  have htk : decide ((i : Int) < (n : Int)) = true:=by simp;omega
  have hini : (i : Int) < (n : Int):=by omega
  have hsB:=hB.size;obtain ⟨b,o,neg,A1,n1,c1,rfl,p0w,p1w,hWw⟩:=h.out.at_ hin;have p0:=Za hB p0w;have p1:=Za hB p1w;have hW:=hWw.below hB;clear hWw;obtain ⟨x,hx⟩ : ∃ z,xs[i]?.getD 0 = z:=⟨_,rfl⟩;rw [hx] at hW;replace hx:=Zb hx;replace hown:=Zb hown;go_wp2_with fail;have hSv : Hid (∀ wx,Below wr.heap.size wr wx -> wx.cell? ⟨b,o + i * 2,none⟩ = some (.bool neg) /\ wx.cell? ⟨b,o + i * 2 + 1,none⟩ = some (.slice A1 n1 c1)):=Zb (fun wx hbx=>⟨Za hbx p0,Za hbx p1⟩);have hr0 : Below wr.heap.size wr wr.drew:=Zr (Below.refl _ _) 1;refine wp_heldS [] hmx hSv hr0 (fun _=>?_);refine Zt2 5 [0,1,2,3,4] rfl (by kernel_rfl) (hSv.out _ hr0) ?_
  iterate 5 (refine tkA ?_;try simp only [Act.put,putL_a,putL_z,putL_s,putG_a,putG_s,putG_z])
  refine tk0 ?_
  refine wpAnyL_o 5 fun K hK=>?_
  go_simp;refine (Zdw 1 wr.drew (by omega) (by omega)).mono ?_;rintro e w5 ⟨hb5,nb,B5,m5,d5,rfl,hW5⟩;have hr1:=hr0.trans (hb5.mono hr0.size);refine hK.out _ _ (fun _=>hSv.out _ hr1) ?_;clear hK K
  try simp only [Act.put,putL_a,putL_z,putL_s]
  refine Zt1 1 [6] rfl (by kernel_rfl) (hSv.out _ hr1) ?_
  (refine tkA ?_;try simp only [Act.put,putL_a,putL_z,putL_s,putG_a,putG_s,putG_z])
  refine tk0 ?_;refine (Z8 78 #[.bool neg,.slice A1 n1 c1,.bool nb,.slice B5 m5 d5] (Below.refl w5.heap.size w5) (Nat.le_refl _)).elim (fun V hq=>?_)
  refine wpAnyL_o 7 fun K hK=>?_
  go_simp;(try rw [hq.1]);have hbV:=hq.2.1;have yV:=hq.2.2.1;clear hq;have hr2:=hr1.trans (hbV.mono hr1.size);refine hK.out _ _ (fun _=>hSv.out _ hr2) ?_;clear hK K
  try simp only [Act.put,putL_a,putL_z,putL_s]
  have hfr : Fr V neg A1 n1 c1 nb B5 m5 d5 (x : Rat):=fr_int (hW.below hr2) (hW5.below hbV)
  refine wpAnyL_o 8 fun K hK=>?_
  rw [if_pos (by kernel_rfl)];refine Zjr V (.tmp 11) (.tmp 18) 56 rfl w.heap.size 78 iw Try.underlying56 hi hz0 hz1 hz2 _ _ rfl (hown.out.kept hr2) _ _ 1 1 [⟨neg,A1,n1,c1,nb,B5,m5,d5,(x : Rat)⟩] rfl (Zpk (x : Rat) yV) rfl (List.forall_mem_singleton.2 hfr) (by rw [List.length_take];omega) (Nat.le_trans hsB hr2.size) (fun v9 w9 hown9 hg9 hk9=>?_);have hB9:=(hB.trans (hr2.mono hsB)).grown hg9 (Nat.le_trans hsB hr2.size) ((hown.out.kept hr2).row_ge);refine hK.out _ _ (fun _=>⟨Za hB9 p0w,Za hB9 p1w⟩) ?_;clear hK K
  try simp only [Act.put,putL_a,putL_z,putL_s]
  refine Zt1 1 [9] rfl (by kernel_rfl) ⟨Za hB9 p0w,Za hB9 p1w⟩ ?_
  (refine tkA ?_;try simp only [Act.put,putL_a,putL_z,putL_s,putG_a,putG_s,putG_z])
  refine tk0 ?_;refine wpAnyL_fin ?_
  have hown10 : OwnF 78 w9 w.heap.size v9 ((rl xs).take (i + 1)):=by
   have e : (rl xs).take (i + 1) = (rl xs).take i ++ [(x : Rat)]:=by
    rw [List.take_add_one]
    congr 1
    unfold rl;rw [List.getElem?_map]
    have hlt : i < xs.length:=by rw [hxl.out];exact hin
    have hx2:=hx.out;rw [List.getElem?_eq_getElem hlt] at hx2 ⊢
    simp at hx2
    simp [hx2]
   rw [e];exact hown9
  replace hown10:=Zb hown10;clear hk9 hg9 hown9 hfr yV hbV hb5 hr0 hr1 hr2 hSv hW5 p0 p1 hown hW;go_wp2_with fail
  go_roundg (n - (i + 1))
  case measure=>omega
  case rel=>exact ⟨i + 1,by omega,by go_num,hown10.out,hB9⟩
def ovC (d r : List Rat) : Rat:=co r (r.length - 1) / co d (d.length - 1)
def ovS (d r : List Rat) : List Rat:=(List.range r.length).map fun i=>co r i - (if r.length - d.length <= i then ovC d r * co d (i - (r.length - d.length)) else 0)
def ovR (d r : List Rat) : List Rat:=(ovS d r).take (r.length - 1)
def ovK (d : List Rat) : Nat -> List Rat -> List Rat
 | 0,r=>r
 | k + 1,r=>ovK d k (ovR d r)
def okOv (d : List Rat) : Nat -> List Rat -> Prop
 | 0,_=>True
 | k + 1,r=>(∀ t,Sm (co r t)) /\ Sm (ovC d r) /\ (∀ t,Sm (ovC d r * co d t)) /\ okOv d k (ovR d r)
theorem Zd1 (d r : List Rat) : (ovS d r).length = r.length:=by simp [ovS]
theorem Zfi (d r : List Rat) : (ovR d r).length = r.length - 1:=by unfold ovR;rw [List.length_take,Zd1];omega
theorem Zpo {d r : List Rat} (hd : 0 < d.length) (hl : d.length <= r.length) (i : Nat) : co (ovS d r) i = co r i - (if r.length - d.length <= i then ovC d r * co d (i - (r.length - d.length)) else 0):=by
 rcases Nat.lt_or_ge i r.length with h | h
 ·show (ovS d r)[i]?.getD 0 = _
  simp [ovS,h]
 ·rw [Zhb (by rw [Zd1];exact h),Zhb h,if_pos (by omega),Zhb (l:=d) (by omega)]
  grind
theorem ovS_top {d r : List Rat} (hd : 0 < d.length) (hl : d.length <= r.length) (hz : co d (d.length - 1) ≠ 0) : co (ovS d r) (r.length - 1) = 0:=by
 rw [Zpo hd hl,if_pos (by omega),show r.length - 1 - (r.length - d.length) = d.length - 1 by omega];unfold ovC
 grind
theorem Zpg {d r : List Rat} (hd : 0 < d.length) (hl : d.length <= r.length) (hz : co d (d.length - 1) ≠ 0) (x : Rat) : ev (ovR d r) x = ev r x - ovC d r * (x ^ (r.length - d.length) * ev d x):=by
 have h1 : ev (ovS d r) x = ev (ovR d r) x:=Zpt (n:=r.length - 1) (by rw [Zd1];omega) (ovS_top hd hl hz) x;rw [<- h1]
 have h2 : ev (ovS d r) x = ev (Zeg r (Zc5 (-(ovC d r)) (Zfe (r.length - d.length) d))) x:=by
  refine Zhj (fun i=>?_) x;rw [Zpo hd hl,Zgj,Zb3,Zie]
  split <;> grind
 rw [h2,Ze2,Zbu,Zh9]
 grind
theorem pow_pol (n : Nat) : Pol (fun x=>x ^ n):=Pol.pow ⟨_,PF.id⟩ n
theorem Zsb {d : List Rat} (hd : 0 < d.length) (hz : co d (d.length - 1) ≠ 0) : ∀ (k : Nat) (r : List Rat),r.length + 1 = k + d.length -> (ovK d k r).length + 1 = d.length /\ ∃ K,Pol K /\ ∀ x,ev r x = K x * ev d x + ev (ovK d k r) x:=by
 intro k
 induction k with
 | zero=>intro r hl;exact ⟨by show r.length + 1 = d.length;omega,fun _=>0,Pol.const 0,fun x=>by show ev r x = 0 * ev d x + ev r x;grind⟩
 | succ k ih =>
  intro r hl;obtain ⟨h1,K,hK,h2⟩:=ih (ovR d r) (by rw [Zfi];omega);refine ⟨h1,fun x=>K x + ovC d r * x ^ (r.length - d.length),hK.add ((pow_pol _).smul _),fun x=>?_⟩;have h3:=h2 x;rw [Zpg hd (by omega) hz] at h3;show _ = _ + ev (ovK d k (ovR d r)) x
  grind
theorem Zrn {l : List Rat} (h : ∀ x,ev l x = 0) : l = List.replicate l.length 0:=by
 rw [List.eq_replicate_iff];exact ⟨rfl,Zp9 _ l rfl 0 (fun n _=>h n)⟩
theorem Ztb {p q : List Int} (hq : Top q) (hd : Dvd (Ze q) (Ze p)) {k : Nat} (hk : p.length + 1 = k + q.length) : ovK (rl q) k (rl p) = List.replicate (q.length - 1) 0:=by
 have hl : (rl q).length = q.length:=by simp [rl]
 have hl2 : (rl p).length = p.length:=by simp [rl]
 have hz : co (rl q) ((rl q).length - 1) ≠ 0:=by
  rw [hl,Zb9];intro h0;exact hq.2 (by exact_mod_cast h0)
 obtain ⟨h1,K,hK,h2⟩:=Zsb (d:=rl q) (by rw [hl];exact hq.1) hz k (rl p) (by rw [hl,hl2];exact hk);rw [hl] at h1
 have h3 : Dvd (Ze q) (ev (ovK (rl q) k (rl p))):=by
  obtain ⟨u,hu,h4⟩:=hd;refine ⟨fun x=>u x - K x,hu.sub hK,fun x=>?_⟩;have h5:=h2 x;rw [Zbb,Zbb,h4] at h5
  grind
 have hz2 : ∀ x,ev (ovK (rl q) k (rl p)) x = 0:=by
  obtain ⟨m,hm,hmd⟩:=PF.deg (n:=q.length - 1) (f:=ev (ovK (rl q) k (rl p))) ⟨_,by omega,fun x=>rfl⟩
  cases m with
  | zero=>exact hmd.zero
  | succ m =>
   exfalso
   have:=h3.deg_le hq.deg hmd (fun hz=>by have:=hmd.unique (Zh3 hz);omega);have:=hq.1;omega
 have:=Zrn hz2;rw [show (ovK (rl q) k (rl p)).length = q.length - 1 by omega] at this;exact this
theorem Zs2 {t : Array Value} {d : Nat} {u : Value} (h : t[d]? = some u) : t.setIfInBounds d u = t:=by
 apply Array.ext
 ·simp
 ·intro i h1 h2
  rw [Array.getElem_setIfInBounds (by simpa using h1)]
  split
  ·rename_i e
   subst e;rw [Array.getElem?_eq_getElem h2] at h
   injection h with h
   exact h.symm
  ·rfl
section
variable {P : Program} {ops : Array Oper} {Q : Exit -> Act -> World -> Prop} {md : Region.Mode} {L : List Nat} {S : World -> Prop} {f1 f2 d1 d2 F : Nat} {t1 t2 : TypeId} {z1 z2 : Array Value}
theorem Zo {i : Nat} {o : Oper} {K : Act -> World -> Prop} {a : Act} {w : World} (ho : ops[i]? = some o)
    (h : ∀ K' : Act -> World -> Prop,Shut (∀ a w,K a w -> K' a w) -> if Region.wanted o (yielded ops a.tmps) = true then Oper.wp P o a w K' Q else K' (a.put o.dst undef) w) : wpOp P ops Q i K a w:=
 wpOp_step ho (fun K' hK=>h K' hK)
end
def Zap (md : Region.Mode) (ops : Array Oper) (i : Nat) : List Nat:=match ops[i]? with | some o=>(o.after.toList.filter (fun e=>Region.binds md e)).map (·.on) | none=>[]
def Zat (ops : Array Oper) (i : Nat) : Nat:=match ops[i]? with | some o=>o.dst.getD 0 | none=>0
def Zaz (R : List Nat) (l : Array Bool) : Array Bool:=R.foldl (fun l i=>l.setIfInBounds i true) l
def clo (md : Region.Mode) (ops : Array Oper) : List Nat -> List Nat -> List Nat
 | [],c=>c
 | r :: rs,c=>clo md ops rs (if c.contains r then Zap md ops r ++ c else c)
def Zbd : List Nat -> Bool
 | []=>true
 | x :: l=>!l.contains x && Zbd l
def Zae : List Nat -> Act -> (Nat -> Value) -> Act
 | [],a,_=>a
 | d :: ds,a,ν=>Zae ds (a.put (some d) (ν d)) ν
def upd (ν : Nat -> Value) (d : Nat) (v : Value) : Nat -> Value:=fun k=>if k = d then v else ν k
theorem Zsw {a : Act} {d e : Nat} {u v : Value} (h : d ≠ e) : (a.put (some d) u).put (some e) v = (a.put (some e) v).put (some d) u:=by
 simp only [Act.put];rw [Array.setIfInBounds_comm _ _ h]
theorem Zqs {ds : List Nat} {a : Act} {ν : Nat -> Value} {d : Nat} {v : Value} (h : d ∉ ds) : Zae ds (a.put (some d) v) ν = (Zae ds a ν).put (some d) v:=by
 induction ds generalizing a with
 | nil=>rfl
 | cons e ds ih =>
  have h1 : d ≠ e:=fun h'=>h (h' ▸ List.mem_cons_self ..)
  show Zae ds ((a.put (some d) v).put (some e) (ν e)) ν = _;rw [Zsw h1,ih (fun h'=>h (List.mem_cons_of_mem _ h'))]
  rfl
theorem Zky {ds : List Nat} {a : Act} {ν : Nat -> Value} {d : Nat} {v : Value} (h : d ∉ ds) : Zae ds a (upd ν d v) = Zae ds a ν:=by
 induction ds generalizing a with
 | nil=>rfl
 | cons e ds ih =>
  have h1 : e ≠ d:=fun h'=>h (h' ▸ List.mem_cons_self ..)
  show Zae ds (a.put (some e) (upd ν d v e)) (upd ν d v) = Zae ds (a.put (some e) (ν e)) ν;rw [ih (fun h'=>h (List.mem_cons_of_mem _ h'))];simp only [upd,if_neg h1]
theorem put_put {a : Act} {d : Nat} {u v : Value} : (a.put (some d) u).put (some d) v = a.put (some d) v:=by
 simp only [Act.put];rw [Array.setIfInBounds_setIfInBounds]
theorem Zbc {x : Nat} {l : List Nat} (h : Zbd (x :: l) = true) : x ∉ l /\ Zbd l = true:=by
 simp only [Zbd,Bool.and_eq_true,Bool.not_eq_true'] at h;exact ⟨fun hx=>by rw [List.contains_iff_mem.2 hx] at h;exact absurd h.1 (by simp),h.2⟩
theorem Zin {ds : List Nat} {a : Act} {ν : Nat -> Value} {d : Nat} {v : Value} (h : d ∈ ds) (hn : Zbd ds = true) : (Zae ds a ν).put (some d) v = Zae ds a (upd ν d v):=by
 induction ds generalizing a with
 | nil=>cases h
 | cons e ds ih =>
  obtain ⟨h1,h2⟩:=Zbc hn;show (Zae ds (a.put (some e) (ν e)) ν).put (some d) v = Zae ds (a.put (some e) (upd ν d v e)) (upd ν d v)
  by_cases hd : d = e
  ·subst hd
   rw [<- Zqs h1,put_put,Zky h1];simp only [upd,if_true]
  ·rcases List.mem_cons.1 h with h' | h'
   ·exact absurd h' hd
   ·rw [ih h' h2]
    simp only [upd,if_neg (Ne.symm hd)]
theorem Zop {ds : List Nat} {a : Act} : Zae ds a (fun d=>a.tmps.getD d undef) = a:=by
 induction ds with
 | nil=>rfl
 | cons d ds ih =>
  show Zae ds (a.put (some d) (a.tmps.getD d undef)) _ = a
  have : a.put (some d) (a.tmps.getD d undef) = a:=by
   cases a with
   | mk t df =>
    simp only [Act.put]
    congr 1
    rcases Nat.lt_or_ge d t.size with h | h
    ·exact Zs2 (by rw [Array.getD_eq_getD_getElem?,Array.getElem?_eq_getElem h];rfl)
    ·exact Array.setIfInBounds_eq_of_size_le h
  rw [this];exact ih
theorem Zbp (R : List Nat) (l : Array Bool) (k : Nat) : (Zaz R l).getD k true = if k ∈ R then true else l.getD k true:=by
 unfold Zaz
 induction R generalizing l with
 | nil=>simp
 | cons r R ih =>
  rw [List.foldl_cons,ih]
  by_cases h1 : k ∈ R
  ·rw [if_pos h1,if_pos (List.mem_cons_of_mem _ h1)]
  ·rw [if_neg h1]
   by_cases h2 : k = r
   ·subst h2
    rw [if_pos (List.mem_cons_self ..)];rw [Array.getD_eq_getD_getElem?,Array.getElem?_setIfInBounds]
    split
    ·split <;> rfl
    ·rename_i h;exact absurd rfl h
   ·rw [if_neg (fun h=>by rcases List.mem_cons.1 h with h | h;exact h2 h;exact h1 h),Go.getD_set_ne true (Ne.symm h2)]
theorem Ze8 (R : List Nat) (l : Array Bool) : (Zaz R l).size = l.size:=by
 unfold Zaz
 induction R generalizing l with
 | nil=>rfl
 | cons r R ih=>rw [List.foldl_cons,ih];simp
theorem Zo6 {l m : Array Bool} (hs : l.size = m.size) (h : ∀ k,l.getD k true = m.getD k true) : l = m:=by
 apply Array.ext hs
 intro i h1 h2;have:=h i;rw [Array.getD_eq_getD_getElem?,Array.getD_eq_getD_getElem?,Array.getElem?_eq_getElem h1,Array.getElem?_eq_getElem h2] at this;exact this
section
variable {P : Program} {ops : Array Oper} {Q : Exit -> Act -> World -> Prop} {md : Region.Mode} {L : List Nat} {S : World -> Prop}
theorem Zok {l : Array Bool} {R : List Nat} (hd : ∀ r ∈ R,l.getD r false = true -> ∀ p ∈ Zap md ops r,l.getD p false = true) :
    ∀ (rs : List Nat) (c : List Nat),(∀ r ∈ rs,r ∈ R) -> (∀ x ∈ c,l.getD x false = true) -> ∀ x ∈ clo md ops rs c,l.getD x false = true
 | [],c,_,hc,x,hx=>hc x hx
 | r :: rs,c,hr,hc,x,hx=>by
  refine Zok hd rs _ (fun y hy=>hr y (List.mem_cons_of_mem _ hy)) (fun y hy=>?_) x hx
  split at hy
  ·rename_i h1
   rcases List.mem_append.1 hy with h2 | h2
   ·exact hd r (hr r (List.mem_cons_self ..)) (hc r (List.contains_iff_mem.1 h1)) y h2
   ·exact hc y h2
  ·exact hc y hy
theorem Zds {l : Array Bool} {k : Nat} (h : l.getD k false = true) : l.getD k true = true:=by
 rw [Array.getD_eq_getD_getElem?] at h ⊢
 cases hk : l[k]? with
 | none=>rfl
 | some b=>rw [hk] at h;exact h
theorem Zai {l : Array Bool} {k j : Nat} (h : l.getD k false = true) : (l.setIfInBounds j true).getD k false = true:=by
 by_cases hkj : j = k
 ·subst hkj
  rw [Array.getD_eq_getD_getElem?,Array.getElem?_setIfInBounds_self];rw [Array.getD_eq_getD_getElem?] at h
  split
  ·rfl
  ·rename_i h1;rw [Array.getElem?_eq_none (by omega)] at h;cases h
 ·rw [Go.getD_set_ne false hkj];exact h
theorem Zkf {i : Nat} {l : Array Bool} (h : i ∈ Region.ready md ops l) : l.getD i true = false /\ i < ops.size /\ ∀ p ∈ Zap md ops i,l.getD p false = true:=by
 obtain ⟨h1,o,ho,h2⟩:=mem_ready.1 h;refine ⟨h1,(Array.getElem?_eq_some_iff.1 ho).1,fun p hp=>?_⟩;unfold Zap at hp;rw [ho] at hp;obtain ⟨e,he,rfl⟩:=List.mem_map.1 hp;rw [List.mem_filter] at he;exact h2 e (by simpa using he.1) he.2
theorem Zf2 {i : Nat} {l : Array Bool} (h1 : l.getD i true = false) {o : Oper} (ho : ops[i]? = some o) (h : ∀ p ∈ Zap md ops i,l.getD p false = true) : i ∈ Region.ready md ops l:=by
 refine mem_ready.2 ⟨h1,o,ho,fun e he hb=>h _ ?_⟩;unfold Zap;rw [ho];exact List.mem_map.2 ⟨e,List.mem_filter.2 ⟨by simpa using he,hb⟩,rfl⟩
def left (R : List Nat) (l : Array Bool) : Nat:=(R.filter fun r=>!l.getD r true).length
theorem Zkg {f : Nat -> Nat} : ∀ {R : List Nat},Zbd (R.map f) = true -> Zbd R = true
 | [],_=>rfl
 | r :: R,h=>by
  obtain ⟨h1,h2⟩:=Zbc (x:=f r) (l:=R.map f) h;simp only [Zbd,Bool.and_eq_true,Bool.not_eq_true'];refine ⟨?_,Zkg h2⟩
  cases hc : R.contains r with
  | false=>rfl
  | true=>exact absurd (List.mem_map.2 ⟨r,List.contains_iff_mem.1 hc,rfl⟩) h1
theorem Zew {f : Nat -> Nat} : ∀ {R : List Nat},Zbd (R.map f) = true -> ∀ {r i : Nat},r ∈ R -> i ∈ R -> r ≠ i -> f r ≠ f i
 | [],_,_,_,h,_,_=>by cases h
 | x :: R,h,r,i,hr,hi,hne=>by
  obtain ⟨h1,h2⟩:=Zbc (x:=f x) (l:=R.map f) h
  rcases List.mem_cons.1 hr with hr' | hr'
  ·rcases List.mem_cons.1 hi with hi' | hi'
   ·exact absurd (hr'.trans hi'.symm) hne
   ·exact fun e=>h1 (List.mem_map.2 ⟨i,hi',by rw [<- e,hr']⟩)
  ·rcases List.mem_cons.1 hi with hi' | hi'
   ·exact fun e=>h1 (List.mem_map.2 ⟨r,hr',by rw [e,hi']⟩)
   ·exact Zew h2 hr' hi' hne
theorem Zq6 {R : List Nat} {l : Array Bool} {i : Nat} (hi : i ∉ R) : left R (l.setIfInBounds i true) = left R l:=by
 unfold left
 congr 1
 apply List.filter_congr
 intro r hr;rw [Go.getD_set_ne true (fun e : i = r=>hi (e ▸ hr))]
theorem Zj4 {R : List Nat} {l : Array Bool} {i : Nat} (hn : Zbd R = true) (hi : i ∈ R) (h : l.getD i true = false) : left R (l.setIfInBounds i true) + 1 = left R l:=by
 have hlt : i < l.size:=by
  rcases Nat.lt_or_ge i l.size with h' | h'
  ·exact h'
  ·rw [Array.getD_eq_getD_getElem?,Array.getElem?_eq_none h'] at h;cases h
 have hset : (l.setIfInBounds i true).getD i true = true:=by
  rw [Array.getD_eq_getD_getElem?,Array.getElem?_setIfInBounds_self,if_pos hlt];rfl
 induction R with
 | nil=>cases hi
 | cons r R ih =>
  obtain ⟨n1,n2⟩:=Zbc hn
  by_cases hr : i = r
  ·subst hr
   have:=Zq6 (l:=l) n1;unfold left at this ⊢;rw [List.filter_cons_of_neg (by simp [hset]),List.filter_cons_of_pos (by simp [h]),this]
   rfl
  ·have hi2 : i ∈ R:=by
     rcases List.mem_cons.1 hi with h' | h'
     ·exact absurd h' hr
     ·exact h'
   have:=ih n2 hi2;unfold left at this ⊢
   by_cases hb : l.getD r true = true
   ·rw [List.filter_cons_of_neg (by rw [Go.getD_set_ne true hr];simp [hb]),List.filter_cons_of_neg (by simp [hb])];exact this
   ·rw [List.filter_cons_of_pos (by rw [Go.getD_set_ne true hr];simpa using hb),List.filter_cons_of_pos (by simpa using hb),List.length_cons,List.length_cons,this]
theorem Zn2 (R : List (Nat × Nat)) (h : R.all (fun p=>Zat ops p.1 == p.2) = true) : (R.map (·.1)).map (Zat ops) = R.map (·.2):=by
 rw [List.map_map]
 apply List.map_congr_left
 intro p hp;rw [List.all_eq_true] at h
 simpa using h p hp
end
def Zas (R : List Nat) (att : Nat -> List Nat) : List Nat:=R.flatMap fun i=>i :: att i
def Zgw (md : Region.Mode) (ops : Array Oper) (l : Array Bool) (i : Nat) : List Nat -> List Nat -> Bool
 | [],_=>true
 | u :: us,done=>(match ops[u]? with | some o=>o.dst.isSome | none=>false) && (Zap md ops u).contains i && !l.getD u true && (Zap md ops u).all (fun p=>p == i || done.contains p || l.getD p false || (Zap md ops i).contains p) &&
     ((List.range ops.size).all fun j=>j == u || (j == i || done.contains j || l.getD j false || (Zap md ops i).contains j) || (Zap md ops j).contains u || (match ops[u]?,ops[j]? with | some ou,some oj=>ou.apart ops oj | _,_=>true)) && Zgw md ops l i us (u :: done)
def Zpu (md : Region.Mode) (ops : Array Oper) (att : Nat -> List Nat) : List Nat -> Array Bool -> Bool
 | [],_=>true
 | r :: rs,l=>!l.getD r true && (match ops[r]? with | some o=>o.dst.isSome | none=>false) && (Zap md ops r).all (fun p=>l.getD p false) && Zpu md ops att rs (Zaz (r :: att r) l)
def Zt0 (md : Region.Mode) (ops : Array Oper) (R F : List Nat) (l : Array Bool) : Bool:=
 (List.range ops.size).all fun k=>F.contains k || l.getD k true || (Zap md ops k).any (fun p=>!F.contains p && !l.getD p false) || (R.all fun r=>(clo md ops F.reverse (Zap md ops k)).contains r)
def Zjx (md : Region.Mode) (ops : Array Oper) (R : List Nat) (att : Nat -> List Nat) (l : Array Bool) : Bool:=
 Zpu md ops att R l && Zt0 md ops R (Zas R att) l && Zbd ((Zas R att).map (Zat ops)) && decide (l.size = ops.size) && R.all (fun i=>Zgw md ops l i (att i) []) && Region.noSelect ops
section
variable {P : Program} {ops : Array Oper} {Q : Exit -> Act -> World -> Prop} {md : Region.Mode} {L : List Nat} {S : World -> Prop}
def Zoo (P : Program) (ops : Array Oper) (Φ : Nat -> Value -> World -> Prop) (w : World) : List Nat -> Act -> Prop
 | [],_=>True
 | u :: us,a=>∃ o v,ops[u]? = some o /\ YieldsIf P ops (fun _=>True) o v a /\ Φ u v w /\ Zoo P ops Φ w us (a.put o.dst v)
theorem Zf4 {l : Array Bool} {i : Nat} (h : i < l.size) : (l.setIfInBounds i true).getD i false = true:=by
 rw [Array.getD_eq_getD_getElem?,Array.getElem?_setIfInBounds_self,if_pos h];rfl
theorem Zbj {us : List Nat} {l : Array Bool} {k : Nat} (h : l.getD k false = true) : (Zaz us l).getD k false = true:=by
 induction us generalizing l with
 | nil=>exact h
 | cons u us ih=>exact ih (l:=l.setIfInBounds u true) (Zai h)
theorem Zjs {us : List Nat} {l : Array Bool} {k : Nat} (hk : k ∈ us) (h : k < l.size) : (Zaz us l).getD k false = true:=by
 induction us generalizing l with
 | nil=>cases hk
 | cons u us ih =>
  rcases List.mem_cons.1 hk with rfl | hk
  ·exact Zbj (us:=us) (Zf4 h)
  ·exact ih (l:=l.setIfInBounds u true) hk (by simp;exact h)
theorem Zpp {Φ : Nat -> Value -> World -> Prop} {l0 : Array Bool} {i : Nat} {R : List Nat} {a0 : Act} {w : World} {F : Nat} (hns : Region.noSelect ops = true) (hnd : Zbd (R.map (Zat ops)) = true) (hiR : i ∈ R) :
    ∀ (us done : List Nat) (l : Array Bool) (ν : Nat -> Value),Zgw md ops l0 i us done = true -> (∀ u ∈ us,u ∈ R) -> (∀ u ∈ us,u ∉ L) -> (∀ u ∈ us,l.getD u true = false) -> l.size = ops.size -> Zbd us = true ->
     (∀ p,l0.getD p false = true -> l.getD p false = true) -> l.getD i false = true -> (∀ p ∈ Zap md ops i,l.getD p false = true) -> (∀ u ∈ done,l.getD u false = true) -> S w ->
     Zoo P ops Φ w us (Zae (R.map (Zat ops)) a0 ν) ->
     (∀ ν',(∀ k,(∀ u ∈ us,Zat ops u ≠ k) -> ν' k = ν k) -> (∀ u ∈ us,Φ u (ν' (Zat ops u)) w) -> Zag P md ops (OnlyNormal Q) L S F (Zaz us l) (Zae (R.map (Zat ops)) a0 ν') w) ->
     Zag P md ops (OnlyNormal Q) L S (us.length + F) l (Zae (R.map (Zat ops)) a0 ν) w:=by
 intro us
 induction us with
 | nil =>
  intro done l ν _ _ _ _ _ _ _ _ _ _ _ _ h;rw [show ([] : List Nat).length + F = F by simp];exact h ν (fun _ _=>rfl) (fun u hu=>by cases hu)
 | cons u us ih =>
  intro done l ν hat hR hL hun hsz hndu hl0 hi hp hdone hS htr h;simp only [Zgw,Bool.and_eq_true,List.all_eq_true] at hat;obtain ⟨⟨⟨⟨⟨h1,h2⟩,h3⟩,h4⟩,h5⟩,h6⟩:=hat;obtain ⟨o,v,ho,hy,hΦ,htr2⟩:=htr;obtain ⟨n1,n2⟩:=Zbc hndu;have husz : u < ops.size:=(Array.getElem?_eq_some_iff.1 ho).1;have hu0:=hun u (List.mem_cons_self ..)
  have hready : u ∈ Region.ready md ops l:=Zf2 hu0 ho (fun p hp2=>by
   have h7:=h4 p hp2;simp only [Bool.or_eq_true,beq_iff_eq] at h7
   rcases h7 with ((h7 | h7) | h7) | h7
   ·rw [h7];exact hi
   ·exact hdone p (List.contains_iff_mem.1 h7)
   ·exact hl0 p h7
   ·exact hp p (List.contains_iff_mem.1 h7))
  have hdst : o.dst = some (Zat ops u):=by
   rw [ho] at h1;obtain ⟨d,hd⟩:=Option.isSome_iff_exists.1 h1;unfold Zat;rw [ho];simp only [hd,Option.getD_some]
  have hdn : Zat ops u ∈ R.map (Zat ops):=List.mem_map.2 ⟨u,hR u (List.mem_cons_self ..),rfl⟩;rw [List.length_cons,Nat.add_right_comm]
  refine Zh5 ho (Region.noSelect_spec hns) (fun _ _ _ h=>(h : False).elim) (by
   cases hc : L.contains u with
   | false=>rfl
   | true=>exact absurd (List.contains_iff_mem.1 hc) (hL u (List.mem_cons_self ..))) _ l _ w (fun j oj hoj hju hjl hnw=>?_) hready hy (fun _=>hS) ?_
  ·have h7:=h5 j (List.mem_range.2 (Array.getElem?_eq_some_iff.1 hoj).1)
   simp only [Bool.or_eq_true,beq_iff_eq] at h7
   rcases h7 with ((h7 | h7) | h7) | h7
   ·exact absurd h7 hju
   ·exfalso
    have h8 : l.getD j false = true:=by
     rcases h7 with ((h7 | h7) | h7) | h7
     ·rw [h7];exact hi
     ·exact hdone j (List.contains_iff_mem.1 h7)
     ·exact hl0 j h7
     ·exact hp j (List.contains_iff_mem.1 h7)
    rw [Zds h8] at hjl
    cases hjl
   ·exfalso
    have h8:=List.contains_iff_mem.1 h7;unfold Zap at h8;rw [hoj] at h8;obtain ⟨e,he,he2⟩:=List.mem_map.1 h8;rw [List.mem_filter] at he;exact hnw e (by simpa using he.1) he.2 he2
   ·rw [ho,hoj] at h7;exact h7
  ·rw [hdst,Zin hdn hnd]
   refine ih (u :: done) (l.setIfInBounds u true) (upd ν (Zat ops u) v) h6 (fun x hx=>hR x (List.mem_cons_of_mem _ hx)) (fun x hx=>hL x (List.mem_cons_of_mem _ hx)) (fun x hx=>?_) (by simp;exact hsz) n2 (fun p hp2=>Zai (hl0 p hp2)) (Zai hi) (fun p hp2=>Zai (hp p hp2)) (fun x hx=>?_) hS ?_ (fun ν' k1 k2=>?_)
   ·rw [Go.getD_set_ne true (fun e : u = x=>n1 (e ▸ hx))]
    exact hun x (List.mem_cons_of_mem _ hx)
   ·rcases List.mem_cons.1 hx with rfl | hx
    ·exact Zf4 (by omega)
    ·exact Zai (hdone x hx)
   ·rw [hdst,Zin hdn hnd] at htr2
    exact htr2
   ·refine h ν' (fun k hk=>?_) (fun x hx=>?_)
    ·rw [k1 k (fun x hx=>hk x (List.mem_cons_of_mem _ hx))]
     simp only [upd,if_neg (Ne.symm (hk u (List.mem_cons_self ..)))]
    ·rcases List.mem_cons.1 hx with rfl | hx
     ·have h9 : ∀ y ∈ us,Zat ops y ≠ Zat ops x:=fun y hy=>Zew hnd (hR y (List.mem_cons_of_mem _ hy)) (hR x (List.mem_cons_self ..)) (fun e=>n1 (e ▸ hy))
      rw [k1 _ h9];simp only [upd,if_true];exact hΦ
     ·exact k2 x hx
theorem Zj5 {us : List Nat} {l : Array Bool} {k : Nat} (h : (Zaz us l).getD k false = true) : k ∈ us \/ l.getD k false = true:=by
 induction us generalizing l with
 | nil=>exact .inr h
 | cons u us ih =>
  rcases ih (l:=l.setIfInBounds u true) h with h1 | h1
  ·exact .inl (List.mem_cons_of_mem _ h1)
  ·by_cases hk : u = k
   ·exact .inl (hk ▸ List.mem_cons_self ..)
   ·rw [Go.getD_set_ne false hk] at h1;exact .inr h1
theorem Zf0 {us : List Nat} {l : Array Bool} {k : Nat} (h : (Zaz us l).getD k true = false) : l.getD k true = false:=by
 rw [Zbp] at h
 split at h
 ·cases h
 ·exact h
theorem Zhf {att : Nat -> List Nat} : ∀ (R : List Nat) (l0 : Array Bool),Zpu md ops att R l0 = true -> (∀ r ∈ R,l0.getD r true = false /\ ∃ o d,ops[r]? = some o /\ o.dst = some d) /\
      ∀ l : Array Bool,l.size = l0.size -> (∀ k,l0.getD k false = true -> l.getD k false = true) -> (∀ r ∈ R,l.getD r true = true -> ∀ u ∈ att r,l.getD u false = true) -> (∃ r ∈ R,l.getD r true = false) -> ∃ r ∈ R,l.getD r true = false /\ ∀ p ∈ Zap md ops r,l.getD p false = true
 | [],_,_=>⟨fun r hr=>(by cases hr),fun l _ _ _ ⟨r,hr,_⟩=>(by cases hr)⟩
 | r :: R,l0,h=>by
  simp only [Zpu,Bool.and_eq_true,Bool.not_eq_true',List.all_eq_true] at h;obtain ⟨⟨⟨h1,h2⟩,h3⟩,h4⟩:=h;obtain ⟨k1,k2⟩:=Zhf R _ h4;refine ⟨fun x hx=>?_,fun l hsz hl hat hu=>?_⟩
  ·rcases List.mem_cons.1 hx with rfl | hx
   ·refine ⟨h1,?_⟩
    cases ho : ops[x]? with
    | none=>rw [ho] at h2;cases h2
    | some o =>
     rw [ho] at h2;obtain ⟨d,hd⟩:=Option.isSome_iff_exists.1 h2;exact ⟨o,d,rfl,hd⟩
   ·obtain ⟨m1,m2⟩:=k1 x hx
    exact ⟨Zf0 m1,m2⟩
  ·by_cases hr : l.getD r true = false
   ·exact ⟨r,List.mem_cons_self ..,hr,fun p hp=>hl p (h3 p hp)⟩
   ·have hr2 : l.getD r true = true:=by simpa using hr
    have hrs : r < l0.size:=by
     rcases Nat.lt_or_ge r l0.size with h' | h'
     ·exact h'
     ·rw [Array.getD_eq_getD_getElem?,Array.getElem?_eq_none h'] at h1;cases h1
    have hrl : r < l.size:=by omega
    have hrf : l.getD r false = true:=by
     rw [Array.getD_eq_getD_getElem?,Array.getElem?_eq_getElem hrl] at hr2 ⊢;exact hr2
    obtain ⟨x,hx,hx2⟩:=k2 l (by rw [Ze8];exact hsz) (fun k hk=>by
     rcases Zj5 hk with h5 | h5
     ·rcases List.mem_cons.1 h5 with rfl | h5
      ·exact hrf
      ·exact hat r (List.mem_cons_self ..) hr2 k h5
     ·exact hl k h5) (fun y hy=>hat y (List.mem_cons_of_mem _ hy)) (by
     obtain ⟨y,hy,hy2⟩:=hu
     rcases List.mem_cons.1 hy with rfl | hy
     ·exact absurd hy2 hr
     ·exact ⟨y,hy,hy2⟩)
    exact ⟨x,List.mem_cons_of_mem _ hx,hx2⟩
theorem Zmv {R : List Nat} (hn : Zbd R = true) : ∀ (us : List Nat) (l : Array Bool),Zbd us = true -> (∀ u ∈ us,u ∈ R) -> (∀ u ∈ us,l.getD u true = false) -> left R (Zaz us l) + us.length = left R l:=by
 intro us
 induction us with
 | nil=>intro l _ _ _;rfl
 | cons u us ih =>
  intro l h1 h2 h3;obtain ⟨n1,n2⟩:=Zbc h1;have h4:=Zj4 hn (h2 u (List.mem_cons_self ..)) (h3 u (List.mem_cons_self ..))
  have h5:=ih (l.setIfInBounds u true) n2 (fun x hx=>h2 x (List.mem_cons_of_mem _ hx)) (fun x hx=>by
   rw [Go.getD_set_ne true (fun e : u = x=>n1 (e ▸ hx))]
   exact h3 x (List.mem_cons_of_mem _ hx))
  show left R (Zaz us (l.setIfInBounds u true)) + (us.length + 1) = _;omega
theorem Zdr : ∀ {a b : List Nat},Zbd (a ++ b) = true -> Zbd b = true
 | [],_,h=>h
 | _ :: a,_,h=>Zdr (a:=a) (Zbc h).2
theorem Zed : ∀ {a b : List Nat},Zbd (a ++ b) = true -> Zbd a = true
 | [],_,_=>rfl
 | x :: a,b,h=>by
  obtain ⟨h1,h2⟩:=Zbc (x:=x) (l:=a ++ b) h;simp only [Zbd,Bool.and_eq_true,Bool.not_eq_true'];refine ⟨?_,Zed h2⟩
  cases hc : a.contains x with
  | false=>rfl
  | true=>exact absurd (List.mem_append_left _ (List.contains_iff_mem.1 hc)) h1
theorem Zi2 : ∀ {a b : List Nat},Zbd (a ++ b) = true -> ∀ x,x ∈ a -> x ∉ b
 | [],_,_,x,hx=>by cases hx
 | y :: a,b,h,x,hx=>by
  obtain ⟨h1,h2⟩:=Zbc (x:=y) (l:=a ++ b) h
  rcases List.mem_cons.1 hx with hx' | hx'
  ·intro hb;exact h1 (List.mem_append_right _ (hx' ▸ hb))
  ·exact Zi2 h2 x hx'
theorem Zn1 {att : Nat -> List Nat} : ∀ {R : List Nat},Zbd (Zas R att) = true -> ∀ r ∈ R,Zbd (r :: att r) = true /\ ∀ r' ∈ R,r' ≠ r -> ∀ x ∈ r :: att r,x ∉ r' :: att r'
 | [],_,r,hr=>by cases hr
 | y :: R,h,r,hr=>by
  have e : Zas (y :: R) att = (y :: att y) ++ Zas R att:=rfl;rw [e] at h;have h1:=Zed h;have h2:=Zdr h;have h3:=Zi2 h
  have hmem : ∀ z ∈ R,∀ x ∈ z :: att z,x ∈ Zas R att:=fun z hz x hx=>List.mem_flatMap.2 ⟨z,hz,hx⟩
  by_cases hry : r = y
  ·subst hry
   refine ⟨h1,fun r' hr' hne x hx hx2=>?_⟩
   rcases List.mem_cons.1 hr' with h4 | h4
   ·exact hne h4
   ·exact h3 x hx (hmem r' h4 x hx2)
  ·have hrR : r ∈ R:=by
     rcases List.mem_cons.1 hr with h4 | h4
     ·exact absurd h4 hry
     ·exact h4
   obtain ⟨k1,k2⟩:=Zn1 h2 r hrR;refine ⟨k1,fun r' hr' hne x hx hx2=>?_⟩
   by_cases hr'y : r' = y
   ·subst hr'y
    exact h3 x hx2 (hmem r hrR x hx)
   ·rcases List.mem_cons.1 hr' with h4 | h4
    ·exact hr'y h4
    ·exact k2 r' h4 hne x hx hx2
theorem Zsm (R : List Nat) (att : Nat -> List Nat) (D : List Nat) (hDR : ∀ i ∈ D,i ∈ R) (Φ : Nat -> Value -> World -> Prop) {l0 : Array Bool} {a0 : Act} {w0 : World} (hok : Zjx md ops R att l0 = true) (hL : ∀ u ∈ Zas R att,u ∉ L)
    (hst : ∀ i ∈ Zas R att,∀ v w w',Below w.heap.size w w' -> Φ i v w -> Φ i v w') (hS : ∀ w',Below w0.heap.size w0 w' -> S w') {F : Nat}
    (hop : ∀ i ∈ R,∀ (ν : Nat -> Value) (w : World),Below w0.heap.size w0 w -> (∀ j ∈ Zas R att,j ∈ Zap md ops i -> Φ j (ν (Zat ops j)) w) ->
     wpOp P ops (OnlyNormal Q) i (fun a' w'=>∃ v,a' = (Zae ((Zas R att).map (Zat ops)) a0 ν).put (some (Zat ops i)) v /\ Φ i v w' /\ Below w.heap.size w w' /\ Zoo P ops Φ w' (att i) a' /\ (i ∈ D -> ∀ j ∈ D,∀ u,Φ j u w -> v ≠ u)) (Zae ((Zas R att).map (Zat ops)) a0 ν) w)
    (hfin : ∀ (ν : Nat -> Value) (w : World),Below w0.heap.size w0 w -> (∀ i ∈ Zas R att,Φ i (ν (Zat ops i)) w) -> (∀ i ∈ D,∀ j ∈ D,i ≠ j -> ν (Zat ops i) ≠ ν (Zat ops j)) -> Zag P md ops (OnlyNormal Q) L S F (Zaz (Zas R att) l0) (Zae ((Zas R att).map (Zat ops)) a0 ν) w) :
    ∀ (n : Nat) (l : Array Bool) (ν : Nat -> Value) (w : World),n = left (Zas R att) l -> l.size = l0.size -> (∀ k,k ∉ Zas R att -> l.getD k true = l0.getD k true) -> (∀ k,l0.getD k false = true -> l.getD k false = true) ->
     (∀ r ∈ Zas R att,l.getD r false = true -> ∀ p ∈ Zap md ops r,l.getD p false = true) ->
     (∀ r ∈ R,∀ u ∈ att r,(l.getD r true = true -> l.getD u false = true) /\ (l.getD r true = false -> l.getD u true = false)) -> Below w0.heap.size w0 w -> (∀ r ∈ Zas R att,l.getD r true = true -> Φ r (ν (Zat ops r)) w) -> (∀ i ∈ D,∀ j ∈ D,i ≠ j -> l.getD i true = true -> l.getD j true = true -> ν (Zat ops i) ≠ ν (Zat ops j)) ->
     Zag P md ops (OnlyNormal Q) L S (n + F) l (Zae ((Zas R att).map (Zat ops)) a0 ν) w:=by
 simp only [Zjx,Bool.and_eq_true,decide_eq_true_eq] at hok;obtain ⟨⟨⟨⟨⟨hto,hou⟩,hnd⟩,hsz0⟩,hato⟩,hns⟩:=hok;rw [List.all_eq_true] at hato;obtain ⟨t1,t2⟩:=Zhf R l0 hto;have hndf:=Zkg hnd
 have hmemR : ∀ r ∈ R,r ∈ Zas R att:=fun r hr=>List.mem_flatMap.2 ⟨r,hr,List.mem_cons_self ..⟩
 have hmemU : ∀ r ∈ R,∀ u ∈ att r,u ∈ Zas R att:=fun r hr u hu=>List.mem_flatMap.2 ⟨r,hr,List.mem_cons_of_mem _ hu⟩
 have hattp : ∀ r ∈ R,∀ u ∈ att r,r ∈ Zap md ops u /\ (∃ o,ops[u]? = some o):=fun r hr=>by
  have : ∀ (us done : List Nat),Zgw md ops l0 r us done = true -> ∀ u ∈ us,r ∈ Zap md ops u /\ (∃ o,ops[u]? = some o):=by
   intro us
   induction us with
   | nil=>intro _ _ u hu;cases hu
   | cons x us ih =>
    intro done h u hu;simp only [Zgw,Bool.and_eq_true] at h
    rcases List.mem_cons.1 hu with rfl | hu
    ·refine ⟨List.contains_iff_mem.1 h.1.1.1.1.2,?_⟩
     cases ho : ops[u]? with
     | none=>have:=h.1.1.1.1.1;rw [ho] at this;cases this
     | some o=>exact ⟨o,rfl⟩
    ·exact ih _ h.2 u hu
  exact this (att r) [] (hato r hr)
 intro n
 induction n using Nat.strongRecOn with
 | _ n ih =>
  intro l ν w hn hsz hK hM hD hA hb hΦ hNE
  have hsize : ∀ r ∈ Zas R att,r < l.size:=fun x hx=>by
   obtain ⟨r,hr,hx2⟩:=List.mem_flatMap.1 hx
   rcases List.mem_cons.1 hx2 with rfl | hx2
   ·obtain ⟨-,o,d,ho,-⟩:=t1 x hr
    have:=(Array.getElem?_eq_some_iff.1 ho).1;omega
   ·obtain ⟨-,o,ho⟩:=hattp r hr x hx2
    have:=(Array.getElem?_eq_some_iff.1 ho).1;omega
  have htf : ∀ k,k < l.size -> l.getD k true = true -> l.getD k false = true:=fun k hk h=>by
   rw [Array.getD_eq_getD_getElem?,Array.getElem?_eq_getElem hk] at h ⊢;exact h
  by_cases hex : ∃ r ∈ R,l.getD r true = false
  ·obtain ⟨r,hr,hr1,hr2⟩:=t2 l hsz hM (fun r hr h u hu=>(hA r hr u hu).1 h) hex
   obtain ⟨-,o,d,ho,-⟩:=t1 r hr;have hready:=Zf2 (md:=md) hr1 ho hr2
   obtain ⟨m,rfl⟩ : ∃ m,n = m + 1:=by
    have:=Zj4 hndf (hmemR r hr) hr1;exact ⟨left (Zas R att) (l.setIfInBounds r true),by omega⟩
   rw [Nat.add_right_comm];refine ⟨fun h0=>(by rw [h0] at hready;cases hready),fun i hi=>?_⟩;obtain ⟨hi1,hi2,hi3⟩:=Zkf hi
   have hiF : i ∈ Zas R att:=by
    apply Classical.byContradiction
    intro hni;unfold Zt0 at hou;rw [List.all_eq_true] at hou;have h1:=hou i (List.mem_range.2 hi2);simp only [Bool.or_eq_true,List.any_eq_true,List.all_eq_true,Bool.and_eq_true,Bool.not_eq_true'] at h1
    rcases h1 with ((h1 | h1) | ⟨p,hp,h2,h3⟩) | h1
    ·exact hni (List.contains_iff_mem.1 h1)
    ·rw [hK i hni,h1] at hi1;cases hi1
    ·have hpR : p ∉ Zas R att:=fun h=>by rw [List.contains_iff_mem.2 h] at h2;cases h2
     have h4:=hi3 p hp;have h5:=Zds h4;rw [hK p hpR] at h5
     have hps : p < l.size:=by
      rcases Nat.lt_or_ge p l.size with h' | h'
      ·exact h'
      ·rw [Array.getD_eq_getD_getElem?,Array.getElem?_eq_none h'] at h4;cases h4
     rw [Array.getD_eq_getD_getElem?,Array.getElem?_eq_getElem (by omega)] at h5 h3;simp only [Option.getD_some] at h5 h3;rw [h5] at h3;cases h3
    ·have h2:=Zok (md:=md) (ops:=ops) (l:=l) (R:=Zas R att) hD (Zas R att).reverse (Zap md ops i) (fun r hr=>List.mem_reverse.1 hr) hi3
     have h3:=Zds (h2 r (List.contains_iff_mem.1 (h1 r hr)));rw [hr1] at h3;cases h3
   have hiR : i ∈ R:=by
    obtain ⟨r',hr',hx⟩:=List.mem_flatMap.1 hiF
    rcases List.mem_cons.1 hx with rfl | hx
    ·exact hr'
    ·exfalso
     have h1:=Zds (hi3 r' (hattp r' hr' i hx).1);have h2:=Zds ((hA r' hr' i hx).1 h1);rw [hi1] at h2;cases h2
   have hdn : Zat ops i ∈ (Zas R att).map (Zat ops):=List.mem_map.2 ⟨i,hiF,rfl⟩;obtain ⟨own1,own2⟩:=Zn1 hndf i hiR;obtain ⟨ni,nus⟩:=Zbc own1;refine wpOp_mono (fun a' w' h=>?_) (hop i hiR ν w hb fun j hj hp=>hΦ j hj (Zds (hi3 j hp)));obtain ⟨v,rfl,hv,hb2,htr,hne⟩:=h;have hb3:=hb.trans (hb2.mono hb.size);refine ⟨fun _=>hS _ hb3,?_⟩;rw [Zin hdn hnd] at htr ⊢;have hset : (l.setIfInBounds i true).getD i false = true:=Zf4 (hsize i hiF)
   have hund : ∀ u ∈ att i,(l.setIfInBounds i true).getD u true = false:=fun u hu=>by
    rw [Go.getD_set_ne true (fun e : i = u=>ni (e ▸ hu))];exact (hA i hiR u hu).2 hi1
   have hlt:=Zj4 hndf hiF hi1;have hlm:=Zmv hndf (att i) (l.setIfInBounds i true) nus (hmemU i hiR) hund
   have hm : m = (att i).length + left (Zas R att) (Zaz (att i) (l.setIfInBounds i true)):=by omega
   rw [hm,Nat.add_assoc];refine Zpp (R:=Zas R att) hns hnd hiF (att i) [] (l.setIfInBounds i true) _ (hato i hiR) (hmemU i hiR) (fun u hu=>hL u (hmemU i hiR u hu)) hund (by simp;omega) nus (fun p hp=>Zai (hM p hp)) hset (fun p hp=>Zai (hi3 p hp)) (fun u hu=>by cases hu) (hS _ hb3) htr (fun ν' k1 k2=>?_)
   have hνi : ν' (Zat ops i) = v:=by
    rw [k1 _ (fun u hu=>Zew hnd (hmemU i hiR u hu) hiF (fun e=>ni (e ▸ hu)))];simp only [upd,if_true]
   have hνo : ∀ x ∈ Zas R att,x ≠ i -> x ∉ att i -> ν' (Zat ops x) = ν (Zat ops x):=fun x hx h1 h2=>by
    rw [k1 _ (fun u hu=>Zew hnd (hmemU i hiR u hu) hx (fun e=>h2 (e ▸ hu)))];simp only [upd,if_neg (Zew hnd hx hiF h1)]
   refine ih _ (by omega) (Zaz (att i) (l.setIfInBounds i true)) ν' w' rfl (by rw [Ze8];simp;exact hsz) (fun k hk=>?_) (fun k hk=>Zbj (Zai (hM k hk))) (fun x hx hxt p hp=>?_) (fun r' hr' u hu=>?_) hb3 (fun x hx hxt=>?_) (fun a ha b hb' hab hat hbt=>?_)
   ·rw [Zbp,if_neg (fun h=>hk (hmemU i hiR k h)),Go.getD_set_ne true (fun e : i = k=>hk (e ▸ hiF))]
    exact hK k hk
   ·rcases Zj5 hxt with h1 | h1
    ·-- an operation of the train
     have h2 : ∀ (us done : List Nat),Zgw md ops l0 i us done = true -> (∀ u ∈ done,(Zaz (att i) (l.setIfInBounds i true)).getD u false = true) -> (∀ u ∈ us,u ∈ att i) -> ∀ u ∈ us,∀ p ∈ Zap md ops u,(Zaz (att i) (l.setIfInBounds i true)).getD p false = true:=by
      intro us
      induction us with
      | nil=>intro _ _ _ _ u hu;cases hu
      | cons y us ihu =>
       intro done h hd hall u hu p hp;simp only [Zgw,Bool.and_eq_true,List.all_eq_true] at h
       rcases List.mem_cons.1 hu with rfl | hu
       ·have h7:=h.1.1.2 p hp
        simp only [Bool.or_eq_true,beq_iff_eq] at h7
        rcases h7 with ((h7 | h7) | h7) | h7
        ·rw [h7];exact Zbj hset
        ·exact hd p (List.contains_iff_mem.1 h7)
        ·exact Zbj (Zai (hM p h7))
        ·exact Zbj (Zai (hi3 p (List.contains_iff_mem.1 h7)))
       ·refine ihu (y :: done) h.2 (fun z hz=>?_) (fun z hz=>hall z (List.mem_cons_of_mem _ hz)) u hu p hp
        rcases List.mem_cons.1 hz with rfl | hz
        ·exact Zjs (hall z (List.mem_cons_self ..)) (by simp;exact hsize z (hmemU i hiR z (hall z (List.mem_cons_self ..))))
        ·exact hd z hz
     exact h2 (att i) [] (hato i hiR) (fun u hu=>by cases hu) (fun u hu=>hu) x h1 p hp
    ·by_cases hxi : i = x
     ·subst hxi;exact Zbj (Zai (hi3 p hp))
     ·rw [Go.getD_set_ne false hxi] at h1
      exact Zbj (Zai (hD x hx h1 p hp))
   ·by_cases hri : r' = i
    ·subst hri
     refine ⟨fun _=>Zjs hu (by simp;exact hsize u (hmemU r' hr' u hu)),fun h=>?_⟩;have h1:=Zf0 h;rw [Zds hset] at h1;cases h1
    ·have hd1:=own2 r' hr' hri
     have hu1 : u ∉ att i:=fun h=>hd1 u (List.mem_cons_of_mem _ h) (List.mem_cons_of_mem _ hu)
     have hu2 : i ≠ u:=fun h=>hd1 i (List.mem_cons_self ..) (h ▸ List.mem_cons_of_mem _ hu)
     have hr1' : r' ∉ att i:=fun h=>hd1 r' (List.mem_cons_of_mem _ h) (List.mem_cons_self ..)
     refine ⟨fun h=>?_,fun h=>?_⟩
     ·rw [Zbp,if_neg hr1',Go.getD_set_ne true (Ne.symm hri)] at h
      exact Zbj (Zai ((hA r' hr' u hu).1 h))
     ·rw [Zbp,if_neg hr1',Go.getD_set_ne true (Ne.symm hri)] at h
      rw [Zbp,if_neg hu1,Go.getD_set_ne true hu2];exact (hA r' hr' u hu).2 h
   ·by_cases hxi : x = i
    ·subst hxi;rw [hνi];exact hv
    ·by_cases hxa : x ∈ att i
     ·exact k2 x hxa
     ·rw [hνo x hx hxi hxa]
      rw [Zbp,if_neg hxa,Go.getD_set_ne true (Ne.symm hxi)] at hxt;exact hst x hx _ _ _ hb2 (hΦ x hx hxt)
   ·have hDa : ∀ x ∈ D,x ∉ att i:=fun x hx h=>by
      by_cases hxi : x = i
      ·exact ni (hxi ▸ h)
      ·exact own2 x (hDR x hx) hxi x (List.mem_cons_of_mem _ h) (List.mem_cons_self ..)
    have hold : ∀ x ∈ D,x ≠ i -> (Zaz (att i) (l.setIfInBounds i true)).getD x true = true -> ν' (Zat ops x) = ν (Zat ops x) /\ l.getD x true = true:=fun x hx hxi h=>by
     rw [Zbp,if_neg (hDa x hx),Go.getD_set_ne true (Ne.symm hxi)] at h;exact ⟨hνo x (hmemR x (hDR x hx)) hxi (hDa x hx),h⟩
    by_cases hai : a = i
    ·have hbi : b ≠ i:=fun h=>hab (hai.trans h.symm)
     obtain ⟨e1,e2⟩:=hold b hb' hbi hbt;rw [hai,hνi,e1];exact hne (hai ▸ ha) b hb' _ (hΦ b (hmemR b (hDR b hb')) e2)
    ·obtain ⟨e1,e2⟩:=hold a ha hai hat
     by_cases hbi : b = i
     ·rw [hbi,hνi,e1]
      exact fun h=>hne (hbi ▸ hb') a ha _ (hΦ a (hmemR a (hDR a ha)) e2) h.symm
     ·obtain ⟨e3,e4⟩:=hold b hb' hbi hbt
      rw [e1,e3];exact hNE a ha b hb' hab e2 e4
  ·have hall : ∀ x ∈ Zas R att,l.getD x true = true:=fun x hx=>by
     obtain ⟨r,hr,hx2⟩:=List.mem_flatMap.1 hx
     have h1 : l.getD r true = true:=by
      cases h : l.getD r true with
      | true=>rfl
      | false=>exact absurd ⟨r,hr,h⟩ hex
     rcases List.mem_cons.1 hx2 with rfl | hx2
     ·exact h1
     ·exact Zds ((hA r hr x hx2).1 h1)
   have h0 : left (Zas R att) l = 0:=by
    unfold left;rw [List.length_eq_zero_iff,List.filter_eq_nil_iff];intro r hr;rw [hall r hr];simp
   have : l = Zaz (Zas R att) l0:=by
    refine Zo6 (by rw [Ze8];exact hsz) fun k=>?_
    rw [Zbp]
    by_cases hk : k ∈ Zas R att
    ·rw [if_pos hk];exact hall k hk
    ·rw [if_neg hk];exact hK k hk
   subst this;rw [hn,h0,Nat.zero_add];exact hfin ν w hb (fun i hi=>hΦ i hi (hall i hi)) (fun i hi j hj hij=>hNE i hi j hj hij (hall i (hmemR i (hDR i hi))) (hall j (hmemR j (hDR j hj))))
theorem Za0 (DP : List (Nat × Nat)) (RP : List (Nat × Nat)) (att : Nat -> List Nat) (FP : List (Nat × Nat)) (Φ : Nat -> Value -> World -> Prop) (F : Nat) {l0 : Array Bool} {a0 : Act} {w0 : World}
    (hok : (Zjx md ops (RP.map (·.1)) att l0 && (Zas (RP.map (·.1)) att == FP.map (·.1)) && FP.all (fun p=>Zat ops p.1 == p.2) && RP.all (fun p=>Zat ops p.1 == p.2) && FP.all (fun p=>!L.contains p.1) && DP.all (fun p=>RP.contains p)) = true)
    (hst : ∀ p ∈ FP,∀ v w w',Below w.heap.size w w' -> Φ p.1 v w -> Φ p.1 v w') (hS : ∀ w',Below w0.heap.size w0 w' -> S w')
    (hop : ∀ p ∈ RP,∀ (ν : Nat -> Value) (w : World),Below w0.heap.size w0 w -> (∀ q ∈ FP,(Zap md ops p.1).contains q.1 = true -> Φ q.1 (ν q.2) w) ->
     wpOp P ops (OnlyNormal Q) p.1 (fun a' w'=>∃ v,a' = (Zae (FP.map (·.2)) a0 ν).put (some p.2) v /\ Φ p.1 v w' /\ Below w.heap.size w w' /\ Zoo P ops Φ w' (att p.1) a' /\ (p ∈ DP -> ∀ q ∈ DP,∀ u,Φ q.1 u w -> v ≠ u)) (Zae (FP.map (·.2)) a0 ν) w)
    (hfin : ∀ (ν : Nat -> Value) (w : World),Below w0.heap.size w0 w -> (∀ p ∈ FP,Φ p.1 (ν p.2) w) -> (∀ p ∈ DP,∀ q ∈ DP,p ≠ q -> ν p.2 ≠ ν q.2) -> Zag P md ops (OnlyNormal Q) L S F (Zaz (FP.map (·.1)) l0) (Zae (FP.map (·.2)) a0 ν) w) :
    Zag P md ops (OnlyNormal Q) L S (FP.length + F) l0 a0 w0:=by
 simp only [Bool.and_eq_true,beq_iff_eq] at hok;obtain ⟨⟨⟨⟨⟨h1,h2⟩,h3⟩,h4⟩,h5⟩,h6⟩:=hok;rw [List.all_eq_true] at h6;have hD:=Zn2 (ops:=ops) FP h3;rw [<- h2] at hD;rw [List.all_eq_true] at h3 h4 h5
 have hmem : ∀ i,i ∈ Zas (RP.map (·.1)) att -> ∃ p ∈ FP,p.1 = i:=fun i hi=>by
  rw [h2] at hi;exact List.mem_map.1 hi
 have hall:=h1;simp only [Zjx,Bool.and_eq_true,decide_eq_true_eq] at h1;obtain ⟨⟨⟨⟨⟨hto,-⟩,hnd⟩,hsz0⟩,hato⟩,-⟩:=h1;obtain ⟨t1,-⟩:=Zhf _ l0 hto
 have hund : ∀ i ∈ Zas (RP.map (·.1)) att,l0.getD i true = false:=fun x hx=>by
  obtain ⟨r,hr,hx2⟩:=List.mem_flatMap.1 hx
  rcases List.mem_cons.1 hx2 with rfl | hx2
  ·exact (t1 x hr).1
  ·rw [List.all_eq_true] at hato
   have : ∀ (us done : List Nat),Zgw md ops l0 r us done = true -> ∀ u ∈ us,l0.getD u true = false:=by
    intro us
    induction us with
    | nil=>intro _ _ u hu;cases hu
    | cons y us ih =>
     intro done h u hu;simp only [Zgw,Bool.and_eq_true,Bool.not_eq_true'] at h
     rcases List.mem_cons.1 hu with rfl | hu
     ·exact h.1.1.1.2
     ·exact ih _ h.2 u hu
   exact this _ _ (hato r hr) x hx2
 have hlen : left (Zas (RP.map (·.1)) att) l0 = FP.length:=by
  unfold left;rw [List.filter_eq_self.2 (fun r hr=>by rw [hund r hr];rfl),h2,List.length_map]
 have h:=Zsm (P:=P) (ops:=ops) (Q:=Q) (md:=md) (L:=L) (S:=S) (RP.map (·.1)) att (DP.map (·.1)) (fun i hi=>by
  obtain ⟨p,hp,rfl⟩:=List.mem_map.1 hi
  exact List.mem_map.2 ⟨p,List.contains_iff_mem.1 (h6 p hp),rfl⟩) Φ (F:=F) (a0:=a0) (w0:=w0) hall (fun u hu=>by
  obtain ⟨p,hp,rfl⟩:=hmem u hu;have:=h5 p hp;intro hc;rw [List.contains_iff_mem.2 hc] at this
  cases this) (fun i hi=>by
  obtain ⟨p,hp,rfl⟩:=hmem i hi
  exact hst p hp) hS (fun i hi ν w hb hP=>by
  obtain ⟨p,hp,rfl⟩:=List.mem_map.1 hi
  have:=hop p hp ν w hb (fun q hq hc=>by
   have hq2:=hP q.1 (by rw [h2];exact List.mem_map.2 ⟨q,hq,rfl⟩) (List.contains_iff_mem.1 hc);have e:=h3 q hq;simp only [beq_iff_eq] at e;rw [e] at hq2
   exact hq2)
  have e:=h4 p hp;simp only [beq_iff_eq] at e;rw [hD,e];refine wpOp_mono (fun a' w' h=>?_) this;obtain ⟨v,k1,k2,k3,k4,k5⟩:=h;refine ⟨v,k1,k2,k3,k4,fun hi j hj u hu=>?_⟩;obtain ⟨p',hp',hpe⟩:=List.mem_map.1 hi;obtain ⟨q',hq',rfl⟩:=List.mem_map.1 hj;have e1:=h4 p' (List.contains_iff_mem.1 (h6 p' hp'));simp only [beq_iff_eq] at e1;have : p' = p:=Prod.ext hpe (by rw [<- e1,<- e,hpe])
  exact k5 (this ▸ hp') q' hq' u hu) (fun ν w hb hf hne=>by
  rw [hD,h2]
  exact hfin ν w hb (fun p hp=>by
   have hq2:=hf p.1 (by rw [h2];exact List.mem_map.2 ⟨p,hp,rfl⟩);have e:=h3 p hp;simp only [beq_iff_eq] at e;rw [e] at hq2
   exact hq2) (fun p hp q hq hpq=>by
   have e1:=h4 p (List.contains_iff_mem.1 (h6 p hp));have e2:=h4 q (List.contains_iff_mem.1 (h6 q hq));simp only [beq_iff_eq] at e1 e2;have:=hne p.1 (List.mem_map.2 ⟨p,hp,rfl⟩) q.1 (List.mem_map.2 ⟨q,hq,rfl⟩) (fun h=>hpq (Prod.ext h (by rw [<- e1,<- e2,h])));rw [e1,e2] at this
   exact this)) FP.length l0 (fun d=>a0.tmps.getD d undef) w0 hlen.symm rfl (fun _ _=>rfl) (fun _ h=>h)
  (fun r hr h=>by have h1:=Zds h;rw [hund r hr] at h1;cases h1)
  (fun r hr u hu=>⟨fun h=>(by rw [hund r (List.mem_flatMap.2 ⟨r,hr,List.mem_cons_self ..⟩)] at h;cases h),fun _=>hund u (List.mem_flatMap.2 ⟨r,hr,List.mem_cons_of_mem _ hu⟩)⟩)
  (Below.refl _ _) (fun r hr h=>by rw [hund r hr] at h;cases h)
  (fun i hi j hj _ h _=>by
   obtain ⟨p,hp,rfl⟩:=List.mem_map.1 hi;rw [hund p.1 (List.mem_flatMap.2 ⟨p.1,List.mem_map.2 ⟨p,List.contains_iff_mem.1 (h6 p hp),rfl⟩,List.mem_cons_self ..⟩)] at h
   cases h)
 rw [Zop] at h;exact h
theorem Zi1 (RP : List (Nat × Nat)) (att : Nat -> List Nat) (FP : List (Nat × Nat)) (Φ : Nat -> Value -> World -> Prop) (F : Nat) {l0 : Array Bool} {a0 : Act} {w0 : World}
    (hok : (Zjx md ops (RP.map (·.1)) att l0 && (Zas (RP.map (·.1)) att == FP.map (·.1)) && FP.all (fun p=>Zat ops p.1 == p.2) && RP.all (fun p=>Zat ops p.1 == p.2) && FP.all (fun p=>!L.contains p.1)) = true)
    (hst : ∀ p ∈ FP,∀ v w w',Below w.heap.size w w' -> Φ p.1 v w -> Φ p.1 v w') (hS : ∀ w',Below w0.heap.size w0 w' -> S w')
    (hop : ∀ p ∈ RP,∀ (ν : Nat -> Value) (w : World),Below w0.heap.size w0 w -> (∀ q ∈ FP,(Zap md ops p.1).contains q.1 = true -> Φ q.1 (ν q.2) w) ->
     wpOp P ops (OnlyNormal Q) p.1 (fun a' w'=>∃ v,a' = (Zae (FP.map (·.2)) a0 ν).put (some p.2) v /\ Φ p.1 v w' /\ Below w.heap.size w w' /\ Zoo P ops Φ w' (att p.1) a') (Zae (FP.map (·.2)) a0 ν) w)
    (hfin : ∀ (ν : Nat -> Value) (w : World),Below w0.heap.size w0 w -> (∀ p ∈ FP,Φ p.1 (ν p.2) w) -> Zag P md ops (OnlyNormal Q) L S F (Zaz (FP.map (·.1)) l0) (Zae (FP.map (·.2)) a0 ν) w) :
    Zag P md ops (OnlyNormal Q) L S (FP.length + F) l0 a0 w0:=
 Za0 [] RP att FP Φ F (by rw [hok];rfl) hst hS (fun p hp ν w hb hP=>wpOp_mono (fun a' w' h=>by
  obtain ⟨v,k1,k2,k3,k4⟩:=h
  exact ⟨v,k1,k2,k3,k4,fun h=>by cases h⟩) (hop p hp ν w hb hP)) (fun ν w hb hf _=>hfin ν w hb hf)
end
theorem subz (x : Rat) : x = x - 0:=by grind
theorem Zna (n : Nat) : Zz (List.replicate n Zbh) = (madeCells #[.bool false,.slice none 0 0,.bool false,.slice none 0 0] (n * 4)).toList:=by
 apply List.ext_getElem?
 intro i
 have hm : (madeCells #[.bool false,.slice none 0 0,.bool false,.slice none 0 0] (n * 4)).toList[i]? = if i < n * 4 then some ((#[Value.bool false,Value.slice none 0 0,Value.bool false,Value.slice none 0 0])[i % 4]!) else none:=by
  unfold madeCells
  by_cases h : i < n * 4
  ·simp [h]
  ·simp [h]
 rw [hm]
 by_cases h : i < n * 4
 ·rw [if_pos h]
  have he : (List.replicate n Zbh)[i / 4]? = some Zbh:=by rw [List.getElem?_replicate,if_pos (by omega)]
  have hc:=Zhh he
  have h4 : i % 4 = 0 \/ i % 4 = 1 \/ i % 4 = 2 \/ i % 4 = 3:=by omega
  rcases h4 with h2 | h2 | h2 | h2
  ·rw [show i / 4 * 4 = i by omega] at hc;rw [hc.1,h2];rfl
  ·rw [show i / 4 * 4 + 1 = i by omega] at hc;rw [hc.2.1,h2];rfl
  ·rw [show i / 4 * 4 + 2 = i by omega] at hc;rw [hc.2.2.1,h2];rfl
  ·rw [show i / 4 * 4 + 3 = i by omega] at hc;rw [hc.2.2.2,h2];rfl
 ·rw [if_neg h]
  exact List.getElem?_eq_none (by rw [Zam];simp;omega)
theorem makeF {P : Program} (t e : TypeId) {i : TypeInfo} (ht : P.underlying t = some (.slice e)) (hi : P.info? e = some i) (hz : i.zero = some (.agg #[.bool false,.slice none 0 0,.bool false,.slice none 0 0])) (hs : i.size = 4) (hb : i.bytes = 64)
    (x : Int) (n : Nat) (hx : x = n) (hn : n <= 1000000000000) (W : World) :
    (Instr.makeSlice t (.int .i64 x) (.int .i64 x)).run P W = .ok (.slice (some ⟨W.heap.size,0,none⟩) n n) (W.alloc (.cells (Zak (List.replicate n Zbh)) e)):=by
 subst hx;have hr:=run_make (P:=P) W t e i _ ht hi hz .i64 .i64 n n (by omega) (by omega) (by rw [hb];omega) (by omega);simp only [Int.toNat_natCast] at hr;rw [hr]
 have : madeCells (Value.agg #[.bool false,.slice none 0 0,.bool false,.slice none 0 0]).cells (n * i.size) = Zak (List.replicate n Zbh):=by
  rw [hs]
  apply Array.toList_inj.1
  unfold Zak;rw [Zna]
  rfl
 rw [this]
theorem FOwn.keptG {t : TypeId} {w w' : World} {g : Nat} {qs : List Rat} {G : Nat -> Prop} (h : FOwn t w g qs) (hk : Kept G w w') (hg : ¬ G g) (hG : ∀ k,G k -> ∃ t cs,Blk w k t cs /\ NoLimb cs) : FOwn t w' g qs:=by
 obtain ⟨es,zs,h1,h2,h3⟩:=h;exact ⟨es,zs,hk.blk h1 hg,fun e he=>⟨hk.wd (h2 e he).1 hG,hk.wd (h2 e he).2 hG⟩,h3⟩
theorem ov_step {r r2 d : List Rat} {cq : Rat} {j i ji : Nat} (hji : ji = j + i) (hl : ji < r2.length) (h : ∀ t,co r2 t = co r t - (if j <= t /\ t < j + i then cq * co d (t - j) else 0)) :
    ∀ t,co (r2.set ji (co r ji - cq * co d i)) t = co r t - (if j <= t /\ t < j + (i + 1) then cq * co d (t - j) else 0):=fun t=>by
 by_cases ht : t = ji
 ·subst ht
  show (r2.set t _)[t]?.getD 0 = _;rw [List.getElem?_set_self hl,Option.getD_some,if_pos (by omega),show t - j = i by omega]
 ·show (r2.set ji _)[t]?.getD 0 = _
  rw [List.getElem?_set_ne (fun h=>ht h.symm)];have h1:=h t;rw [show r2[t]?.getD 0 = co r2 t from rfl,h1]
  by_cases h2 : j <= t /\ t < j + i
  ·rw [if_pos h2,if_pos (by omega)]
  ·rw [if_neg h2,if_neg (by omega)]
theorem ov_end {r r2 d : List Rat} {cq : Rat} {j m : Nat} (hm : 0 < m) (hr : r.length = j + m) (hd : d.length = m) (hl : r2.length = r.length) (hc : ovC d r = cq) (h : ∀ t,co r2 t = co r t - (if j <= t /\ t < j + m then cq * co d (t - j) else 0)) : r2 = ovS d r:=by
 apply List.ext_getElem?
 intro t
 rcases Nat.lt_or_ge t r.length with ht | ht
 ·have h1:=h t
  have h2:=Zpo (d:=d) (r:=r) (by omega) (by omega) t;rw [hr,hd,hc,show j + m - m = j by omega] at h2
  have h3 : co r2 t = co (ovS d r) t:=by
   rw [h1,h2]
   by_cases h4 : j <= t
   ·rw [if_pos h4,if_pos (by omega)]
   ·rw [if_neg h4,if_neg (by omega)]
  have h5 : r2[t]?.getD 0 = (ovS d r)[t]?.getD 0:=h3;rw [List.getElem?_eq_getElem (by omega),List.getElem?_eq_getElem (by rw [Zd1];omega)] at h5 ⊢;exact congrArg some h5
 ·rw [List.getElem?_eq_none (by omega),List.getElem?_eq_none (by rw [Zd1];omega)]
def Zcd (B0 : Nat) (q : Rat) (ca mv x0 x1 al as_ : Nat) (i : Nat) (v : Value) (w : World) : Prop:=
 if i = ca \/ i = mv then ∃ na A n c nb B m d,v = .tuple #[.agg #[.bool na,.slice A n c,.bool nb,.slice B m d],.int .i64 0] /\ Fr w na A n c nb B m d q
 else if i = x0 then ∃ na A n c nb B m d,v = .agg #[.bool na,.slice A n c,.bool nb,.slice B m d] /\ Fr w na A n c nb B m d q
 else if i = x1 \/ i = as_ then v = .int .i64 0
 else if i = al then ∃ g,v = .pointer (some ⟨g,0,none⟩) /\ B0 <= g /\ Blk w g 78 #[.bool false,.slice none 0 0,.bool false,.slice none 0 0]
 else True
theorem Zix {B0 : Nat} {q : Rat} {ca mv x0 x1 al as_ i : Nat} {v : Value} {w w' : World} (hb : Below w.heap.size w w') (h : Zcd B0 q ca mv x0 x1 al as_ i v w) : Zcd B0 q ca mv x0 x1 al as_ i v w':=by
 unfold Zcd at h ⊢
 split at h
 ·rename_i h1;rw [if_pos h1]
  obtain ⟨na,A,n,c,nb,B,m,d,e,hf⟩:=h;exact ⟨na,A,n,c,nb,B,m,d,e,hf.below hb⟩
 ·rename_i h1;rw [if_neg h1]
  split at h
  ·rename_i h2;rw [if_pos h2]
   obtain ⟨na,A,n,c,nb,B,m,d,e,hf⟩:=h;exact ⟨na,A,n,c,nb,B,m,d,e,hf.below hb⟩
  ·rename_i h2;rw [if_neg h2]
   split at h
   ·rename_i h3;rw [if_pos h3];exact h
   ·rename_i h3;rw [if_neg h3]
    split at h
    ·rename_i h4;rw [if_pos h4]
     obtain ⟨g,e,h5,h6⟩:=h;exact ⟨g,e,h5,Zd hb h6⟩
    ·rename_i h4;rw [if_neg h4];trivial
def ClearC : Prop:=∀ (A : Option Addr) (n c : Nat) (w : World),FL w A n c (List.replicate n 0) -> n <= 100 ->
 Calls Try.prog 43 #[.slice A n c] w fun e w'=>Below w.heap.size w w' /\ ∃ B d,e = .returned (.slice B 0 d)
theorem Zm6 (A : Option Addr) (c : Nat) (w : World) :
    Calls Try.prog 51 #[.slice A 0 c] w fun e w'=>Below w.heap.size w w' /\ ∃ na B m d,e = .returned (.agg #[.bool na,.slice B m d]):=by
 obtain ⟨X1,hX1,hB1,q1,k1,-,s1⟩:=Z8 26 #[.bool false,.slice none 0 0] (Below.refl w.heap.size w) (Nat.le_refl _);obtain ⟨X2,hX2,hB2,q2,k2,far2,s2⟩:=Z8 26 #[.bool false,.slice none 0 0] hB1 hB1.size;rw [s1] at q2;obtain ⟨X3,hX3,hB3,q3,k3⟩:=Zu false none 0 0 hB2 (by omega) q2;obtain ⟨a0,a1,f0,f1⟩:=q2.two;obtain ⟨b0,b1,f2,f3⟩:=q3.two;have q1':=k3.2.1 _ _ _ (by omega) (far2 _ _ _ q1);obtain ⟨c0,c1,g0,g1⟩:=q1'.two;obtain ⟨X4,hX4,hB4,q4,k4⟩:=Zu false none 0 0 hB3 (Nat.le_refl _) q1';obtain ⟨d0,d1,h0,h1⟩:=q4.two;have t0 : decide ((0 : Int) < (0 : Int)) = false:=rfl;go_enter Try.func51,Try.ntmps51;go_wp2_with fail
 go_loopg [4] 0 (fun k iv wr=>iv = .int .i64 0 /\ wr = X3)
 case atStart=>exact ⟨rfl,rfl⟩
 case round =>
  obtain ⟨rfl,rfl⟩:=hrel;go_wp2_with fail;refine bodyPost_ret (v:=.agg #[.bool false,.slice none 0 0]) (by simp [results,Try.results51,go_sem,d0,d1]) rfl ?_;exact ⟨hB4,_,_,_,_,rfl⟩
theorem Zr9 (A : Option Addr) (c : Nat) (w : World) :
    Calls Try.prog 30 #[.slice A 0 c] w fun e w'=>Below w.heap.size w w' /\ e = .returned (.slice none 0 0):=by
 have t0 : decide ((0 : Int) < (0 : Int)) = false:=rfl;go_enter Try.func30,Try.ntmps30;go_wp2_with fail;refine (Zm6 A c w).mono ?_;rintro e w1 ⟨hb1,na,B,m,d,rfl⟩;obtain ⟨X2,hX2,hB2,q2,k2,far2,s2⟩:=Z8 26 #[.bool false,.slice none 0 0] hb1 hb1.size;obtain ⟨X3,hX3,hB3,q3,k3⟩:=Zu na B m d hB2 hb1.size q2;obtain ⟨a0,a1,f0,f1⟩:=q2.two;go_wp2_with fail
 go_loopg [4,5] 0 (fun k ov iv wr=>ov = .slice none 0 0 /\ iv = .int .i64 0 /\ wr = X3)
 case atStart=>exact ⟨rfl,rfl,rfl⟩
 case round =>
  obtain ⟨rfl,rfl,rfl⟩:=hrel;go_wp2_with fail;go_ret;exact ⟨hB3,rfl⟩
end Go.Proofs.Ythappeninglakaa
