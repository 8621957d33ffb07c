/- The reference of linear: Check, square. Solving by -/
import Derived.Test.YthappeninglakaaGreatZt11
set_option linter.unusedSimpArgs false
set_option linter.unusedVariables false
namespace Go.Proofs.YthappeninglakaaGreat
open Go.RowKit
open Nat renaming lt_of_le_of_lt→Qa,le_refl→Qb,le_mul_of_pos_right→Qc,lt_of_lt_of_le→Qd,mul_le_mul→Qe
open List renaming getElem?_eq_none→Qf,all_eq_true→Qh,length_map→Qi
open Int renaming natAbs_natCast→Qg
attribute [local go_sem] Zg
def upS(E X:Nat->Nat->Rat)(i k t:Nat):Rat:=E i k-Zu t (λj=>if i<j then E i j*X j k else 0)
theorem Ztc(E X:Nat->Nat->Rat)(i k t:Nat)(h:t<=i+1):upS E X i k t=E i k:=by
 unfold upS
 have:Zu t (λj=>if i<j then E i j*X j k else 0)=0:=by
  induction t with
  | zero=>rfl
  | succ t ih=>simp only[Zu];rw[ih Gk,Gw Gk];grind
 rw[this];grind
theorem Zq9(E X:Nat->Nat->Rat){i k t:Nat}(h:i<t):upS E X i k (t+1)=upS E X i k t-E i t*X t k:=by
 unfold upS;simp only[Zu];rw[Gx h];grind
def Zg9(E X:Nat->Nat->Rat)(n m:Nat):Prop:=
 (∀ i,i<n->E i i≠0)/\(∀ i k,i<n->n<=k->k<m->X i k=upS E X i k n/E i i)/\(∀ i j,SmN 300 300 (E i j))/\(∀ i k,SmN 300 300 (X i k))/\∀ i k t,SmN 400 400 (upS E X i k t)
def Zju(X:Nat->Nat->Rat)(n m:Nat):List (List Rat):=(List.range n).map λi=>(List.range (m-n)).map λc=>X i (n+c)
theorem Zxz{E X X':Nat->Nat->Rat}{i k t:Nat}(h:∀ j,i<j->j<t->X j k=X' j k):upS E X i k t=upS E X' i k t:=by
 unfold upS;congr 1;refine Zy λj hj=>?_;by_cases hij:i<j;rw[Gx hij,Gx hij,h j hij hj];rw[Gw hij,Gw hij]
theorem Zyc{E E' X:Nat->Nat->Rat}{i k t:Nat}{c:Rat}(h:∀ j,E' i j=c*E i j):upS E' X i k t=c*upS E X i k t:=by
 unfold upS
 have:Zu t (λj=>if i<j then E' i j*X j k else 0)=c*Zu t (λj=>if i<j then E i j*X j k else 0):=by
  have h1:=Ze2 (n:=t) (λj=>if i<j then E i j*X j k else 0) (λ_=>0) c 0;rw[show c*Zu t (λj=>if i<j then E i j*X j k else 0)=c*Zu t (λj=>if i<j then E i j*X j k else 0)+0*Zu t (λ_=>0) by grind,<- h1];refine Zy λj _=>?_;by_cases hij:i<j;rw[Gx hij,Gx hij,h];grind;rw[Gw hij,Gw hij];grind
 rw[this,h];grind
theorem Zra{E X:Nat->Nat->Rat}{n i k t:Nat}(hX:∀ j,n<=j->X j k=0)(h:n<=t):upS E X i k t=upS E X i k n:=by
 unfold upS;congr 1
 induction t with
 | zero=>obtain rfl:n=0:=by omega
         rfl
 | succ t ih =>
  by_cases hn:n=t+1;rw[hn];simp only[Zu];rw[ih Gk];by_cases hit:i<t;rw[Gx hit,hX t Gk];grind;rw[Gw hit];grind
theorem Znn{n:Nat}(E:Nat->Nat->Rat):∀ t,t<=n->∃ X:Nat->Nat->Rat,(∀ i k,n-t<=i->i<n->X i k=upS E X i k n/E i i)/\∀ i k,n<=i->X i k=0
 | 0,_=>⟨λ_ _=>0,λi k h1 h2=>by omega,λ_ _ _=>rfl⟩
 | t+1,ht=>by
  obtain⟨X,h1,h2⟩:=Znn (n:=n) E t Gk;refine⟨λi k=>if i=n-(t+1)then upS E X i k n/E i i else X i k,λi k hi hn=>?_,λi k hi=>?_⟩
  ·have hc:upS E (λi k=>if i=n-(t+1)then upS E X i k n/E i i else X i k) i k n=upS E X i k n:=Zxz λj hj hjn=>by
     rw[Gw Gk]
   rw[hc];show (if i=n-(t+1)then upS E X i k n/E i i else X i k)=_;by_cases hit:i=n-(t+1);rw[Gx hit];rw[Gw hit];exact h1 i k Gk hn
  show (if i=n-(t+1)then _ else _)=_;rw[Gw Gk];exact h2 i k hi
theorem Zue{n:Nat}{E X:Nat->Nat->Rat}{i k:Nat}(hi:i<n)(hlow:∀ j,j<i->E i j=0)(hd:E i i≠0)(hX:X i k=upS E X i k n/E i i):Zu n (λj=>E i j*X j k)=E i k:=by
 have h1:E i i*X i k=upS E X i k n:=by rw[hX];grind
 unfold upS at h1
 have h2:Zu n (λj=>E i j*X j k)=Zu n (λj=>if j=i then E i i*X i k else 0)+Zu n (λj=>if i<j then E i j*X j k else 0):=by
  have:=Ze2 (n:=n) (λj=>if j=i then E i i*X i k else 0) (λj=>if i<j then E i j*X j k else 0) 1 1;rw[show ∀ a b:Rat,a+b=1*a+1*b by intro a b;grind,<- this];refine Zy λj _=>?_;rcases Nat.lt_trichotomy j i with h|h|h;rw[hlow j h,Gw Gk,Gw Gk];grind;subst h;rw[Gx rfl,Gw (Nat.lt_irrefl _)];grind;rw[Gw Gk,Gx h];grind
 rw[h2,Zge i hi (λj _ hj=>Gw hj),Gx rfl,h1];grind
def Zn2(R:List (List Rat))(m:Nat)(x:Nat->Rat)(i:Nat):Rat:=Zu m (λj=>Zi R i j*x j)
theorem Zkv{n m:Nat}(x:Nat->Rat):∀ (f col r:Nat) (R:List (List Rat)) (neg:Bool),R.length=n->(∀ i,i<n->(R[i]?.getD []).length=m)->r<=n->(∀ i j,r<=i->i<n->j<col->Zi R i j=0) ->
    (∀ i,i<n->Zn2 (Zbf f col r R neg).1 m x i=0)->∀ i,i<n->Zn2 R m x i=0
 | 0,col,r,R,neg,_,_,_,_,h=>h
 | f+1,col,r,R,neg,hl,hrow,hr,hlow,h=>by
  unfold Zbf at h;rw[hl]at h;by_cases hrn:r=n;simp only[Gx hrn]at h;exact h;simp only[Gw hrn]at h;obtain⟨q,hq⟩:∃ q,Zbr (λi=>Zi R i col == 0) n n r=q:=⟨_,rfl⟩;obtain⟨p1,p2,p3,p4⟩:=Zfb (z:=λi=>Zi R i col == 0) (n:=n) (f:=n) (k:=r) Gk Gk;rw[hq]at p1 p2 p3 p4;rw[hq]at h;by_cases hqn:q=n
  ·simp only[Gx hqn]at h
   refine Zkv x f (col+1) r R neg hl hrow hr (λi j h1 h2 h3=>?_) h;by_cases hj:j=col;rw[hj];simpa using p3 i h1 Gk;exact hlow i j h1 h2 Gk
  simp only[Gw hqn]at h;have u:q<n:=Gk;have U:Zi R q col≠0:=by simpa using p4 u
  have O:(Zag R q r).length=n:=by rw[Zec,hl]
  have y:∀ i,i<(Zag R q r).length->((Zag R q r)[i]?.getD []).length=m:=λi hi=>by
   rw[O]at hi;rw[Zdy Gk Gk];exact hrow _ (Zhv u Gk hi)
  have I:∀ i j,Zi (Zag R q r) i j=Zi R (swI q r i) j:=λi j=>Zid Gk Gk i j
  have o:∀ i j,r<=i->i<n->j<col->Zi (Zag R q r) i j=0:=λi j h1 h2 h3=>by
   rw[I];exact hlow _ j (Zq0 p1 h1) (Zhv u Gk h2) h3
  have V:swI q r r=q:=by unfold swI;split
                         rename_i e;exact e;rw[Gx rfl]
  have Y:Zi (Zag R q r) r col≠0:=by rw[I,V];exact U
  have C:∀ i j,i<n->Zi (Zbt (Zag R q r) r col) i j=if i<=r then Zi (Zag R q r) i j else Zi (Zag R q r) i j-Zi (Zag R q r) i col/Zi (Zag R q r) r col*Zi (Zag R q r) r j:=
   λi j hi=>Zgu (m:=m) y (λj hj=>o r j (Qb _) Gk hj) i j Gk Gk
  have ih:=Zkv x f (col+1) (r+1) (Zbt (Zag R q r) r col) _ (by rw[Ze5,O]) (λi hi=>by rw[Zm6 i Gk];exact y i Gk) Gk (λi j h1 h2 h3=>by
   rw[C i j h2,Gw Gk];by_cases hj:j=col;rw[hj];grind;rw[o i j Gk h2 Gk,o r j (Qb _) Gk Gk];grind) h
  have J:Zn2 (Zag R q r) m x r=0:=by
   have:=ih r Gk;unfold Zn2 at this ⊢;rw[<- this];refine Zy λj _=>by rw[C r j Gk,Gx (Qb _)]
  have T:∀ i,i<n->Zn2 (Zag R q r) m x i=0:=λi hi=>by
   have h1:=ih i hi;by_cases hir:i<=r
   ·unfold Zn2 at h1 ⊢
    rw[<- h1];exact Zy λj _=>by rw[C i j hi,Gx hir]
   unfold Zn2 at h1 J ⊢;have h2:=Ze2 (n:=m) (λj=>Zi (Zag R q r) i j*x j) (λj=>Zi (Zag R q r) r j*x j) 1 (-(Zi (Zag R q r) i col/Zi (Zag R q r) r col));rw[J]at h2
   have h3:Zu m (λj=>Zi (Zbt (Zag R q r) r col) i j*x j)=Zu m (λj=>1*(Zi (Zag R q r) i j*x j)+-(Zi (Zag R q r) i col/Zi (Zag R q r) r col)*(Zi (Zag R q r) r j*x j)):=
    Zy λj _=>by rw[C i j hi,Gw hir];grind
   rw[h3,h2]at h1
   grind
  intro i hi;have:=T (swI q r i) (Zhv u Gk hi);unfold Zn2 at this ⊢;rw[<- this];exact Zy λj _=>by rw[I,Zqo]
theorem BndQ.sub{B C:Nat}{p q:Rat}(h:BndQ B p)(k:BndQ C q):BndQ (B+C) (p-q):=by
 obtain⟨a,rfl,ha⟩:=h;obtain⟨b,rfl,hb⟩:=k;exact⟨a-b,by rw[Rat.intCast_sub],by omega⟩
theorem BndQ.zero{B:Nat}:BndQ B 0:=⟨0,rfl,by simp⟩
def SolQ(Q X:Nat->Nat->Rat)(n m:Nat):Prop:=∀ i k,i<n->n<=k->k<m->Zu n (λj=>Q i j*X j k)=Q i k
theorem Zv0{n m:Nat}{f:Nat->Rat}{k:Nat}(hk:n<=k)(hm:k<m)(h:∀ j,n<=j->j≠k->f j=0):Zu m f=Zu n f+f k:=by
 induction m with
 | zero=>omega
 | succ m ih =>
  simp only[Zu];by_cases hkm:k=m
  ·subst hkm
   congr 1
   have:∀ t,n+t<=k->Zu (n+t) f=Zu n f:=by
    intro t
    induction t with
    | zero=>intro _;rfl
    | succ t iht=>intro ht;rw[<- Nat.add_assoc];simp only[Zu];rw[iht Gk,h (n+t) Gk Gk];grind
   have h1:=this (k-n) Gk;rw[show n+(k-n)=k by omega]at h1;exact h1
  rw[ih Gk,h m Gk Gk];grind
section
variable{B S n m:Nat}
theorem Ci{G:Prop}(h:G:=by
 exact⟨Zb4 _,by show 1<pw 300;exact Nat.lt_of_lt_of_le Zee (Zbm Gj)⟩):G:=h
theorem Cx{G:Prop}(h:G:=by
 rw[this];exact⟨Zb4 _,by show 1<pw 400;exact Nat.lt_of_lt_of_le Zee (Zbm Gj)⟩):G:=h
theorem Zvt(hB:1<=B)(hS:1<=S)(R:List (List Rat))(hl:R.length=n)(hrow:∀ i,i<n->(R[i]?.getD []).length=m)(hs:∀ i,i<n->denAt R i<=S)(hBd:∀ i j,i<n->(Zaf (Z6 R) i j).natAbs<=B)(hnm:n<=m)
    (g1:(n+1)*(Zbp B n*Zbp B n)<pw 400) (g2:Zbp B n*Zbp B n*S<pw 400) (g3:Zbp B n*S<pw 300) :
    okZ (Zbp B n+1) m n 0 0 (Z6 R) 1/\okR (Zbp B n+1) (Zbp B n*S+1) m n 0 0 R /\
    (Zam n 0 0 (Z6 R) false 1).2.1=(Zbf n 0 0 R false).2.1/\(Zbf n 0 0 R false).2.1<=n /\
    ((Zbf n 0 0 R false).2.1<n->Zap n (Zi R)=0) /\
    ((Zbf n 0 0 R false).2.1=n->Zap n (Zi R)≠0/\∃ X:Nat->Nat->Rat,Zg9 (Zi (Zbf n 0 0 R false).1) X n m/\Zg9 (λi j=>(Zaf (Zam n 0 0 (Z6 R) false 1).1 i j:Rat)) X n m/\SolQ (Zi R) X n m/\∀ i k,(X i k).num.natAbs<=Zbp B n/\(X i k).den<=Zbp B n):=by
 obtain⟨h1,h2⟩:=Znf R hl hrow hs hBd;obtain⟨o1,o2,o3,o4,a7,U,G',s',o5,o6,o7,o8,o9⟩:=Zk0 hB hS n 0 0 R _ _ _ _ false 1 h1 h2 Gk
 have c9:((byZ R n:Nat):Rat)≠0:=by
  intro h;have:byZ R n=0:=by exact_mod_cast h
  have:=byZ_pos R n;omega
 have C:=o9 (λb=>b);rw[Zt6 (λa b=>Zi R a b) (λa=>((denAt R a:Nat):Rat)),<- Z02]at C;have c4:sgB false=1:=rfl;rw[c4]at C;have c6:∀ b,sgB b*sgB b=1:=by intro b;cases b <;> simp[sgB] <;> grind
 refine⟨o1,o2,o3,o5.rn,λhr=>?_,λhr=>?_⟩
 ·have hE:=o5.det n (λb=>b) (λa=>a) (λa ha=>ha) (λa _=>rfl) (λa ha=>ha)
  have d3:a7=n:=Gk
  have h0:Zap n (λa b=>s' a*Zi (Zbf n 0 0 R false).1 a b)=0:=by
   rw[Zj7]
   ·refine Zvc (k:=n-1) Gk ?_
    rw[o5.low (n-1) (n-1) Gk Gk Gk];grind
   intro a b ha hb;by_cases har:a<(Zbf n 0 0 R false).2.1
   ·have:∀ l,l<(Zbf n 0 0 R false).2.1->l<=U l:=by
      intro l
      induction l with
      | zero=>intro _;omega
      | succ l ih=>intro hl;have:=ih Gk;have:=o5.inc l (l+1) Gk hl;omega
    have:=this a har;rw[o5.bef a b har Gk];grind
   rw[o5.low a b Gk ha Gk];grind
  rw[hE]at h0;rw[h0]at C;have:((byZ R n:Nat):Rat)*Zap n (Zi R)=0:=by grind
  rcases Rat.mul_eq_zero.1 this with h|h;exact absurd h c9;exact h
 rw[hr]at o5 o6;have b3:a7<=n:=Gk;have I:∀ l,l<n->U l=l:=λl hl=>o5.diag b3 hl;obtain⟨E,o⟩:=Gz (Zi (Zbf n 0 0 R false).1);have T:∀ i j,i<n->j<i->E i j=0:=λi j hi hj=>by rw[<- o];exact o5.bef i j hi (by rw[I i hi];exact hj)
 have Y:∀ i,i<n->E i i≠0:=λi hi=>by have:=o5.piv i hi;rw[I i hi]at this;rw[<- o];exact this
 have y:∀ i j,n<=i->E i j=0:=λi j hi=>by rw[<- o];unfold Zi;rw[Qf (l:=(Zbf n 0 0 R false).1) (by rw[o5.len];exact hi)];rfl
 have d0:∀ i j,i<n->m<=j->E i j=0:=λi j hi hj=>by rw[<- o];exact Zr3 o5.row hi hj
 have b9:∀ i,i<n->s' i≠0:=λi hi=>(o5.sB i hi).2
 -- the determinant
 obtain⟨D,hD⟩:∃ D,Zap n (λa b=>G' a b)=D:=⟨_,rfl⟩
 have b8:Zap n (λa b=>s' a*E a b)=D:=by
  have:=o5.det n (λb=>b) (λa=>a) (λa ha=>ha) (λa _=>rfl) (λa ha=>ha);rw[<- hD,<- this,o]
 have J:D≠0:=by
  rw[<- b8,Zj7 (λa b ha hb=>by rw[T a b ha hb];grind)];intro h0
  have hp:∀ t,t<=n->Za6 t (λi=>s' i*E i i)≠0:=by
   intro t
   induction t with
   | zero=>intro _ h;simp only[Za6]at h;revert h;decide
   | succ t ih =>
    intro ht h;simp only[Za6]at h;rcases Rat.mul_eq_zero.1 h with h|h;exact ih Gk h;rcases Rat.mul_eq_zero.1 h with h|h;exact b9 t Gk h;exact Y t Gk h
  exact hp n (Qb _) h0
 have a4:BndQ (Zbp B n) D:=by rw[<- hD];exact Zhk λa b ha hb=>o5.gB a b ha
 obtain⟨X,hX,u⟩:=Znn (n:=n) E n (Qb _);replace hX:∀ i k,i<n->X i k=upS E X i k n/E i i:=λi k hi=>hX i k Gk hi;have b1:∀ i k,i<n->Zu n (λj=>E i j*X j k)=E i k:=λi k hi=>Zue hi (λj hj=>T i j hi hj) (Y i hi) (hX i k hi)
 have b6:∀ i k,i<n->BndQ (Zbp B n) (D*X i k):=λi k hi=>by
  have hc:=Z0y (λa b=>s' a*E a b) (λj=>X j k) (λa=>s' a*E a k) (λa ha=>by
   have:=Ze2 (n:=n) (λj=>E a j*X j k) (λ_=>0) (s' a) 0;rw[b1 a k ha]at this;rw[show s' a*E a k=s' a*E a k+0*Zu n (λ_=>0) by grind,<- this];exact Zy λj _=>by grind) hi
  rw[b8]at hc;rw[hc];have:=o5.det n (λb=>if b=i then k else b) (λa=>a) (λa ha=>ha) (λa _=>rfl) (λa ha=>ha);rw[o]at this
  rw[<- Za4 (M:=λa b=>s' a*E a (if b=i then k else b)) (λa b _ _=>by
   by_cases hb:b=i;rw[Gx hb,Gx hb];rw[Gw hb,Gw hb]),this]
  exact Zhk λa b ha hb=>o5.gB a _ ha
 have a9:∀ i k,(X i k).num.natAbs<=Zbp B n/\(X i k).den<=Zbp B n:=λi k=>by
  have b0:1<=Zbp B n:=Zc4 (m:=0) hB Gk;by_cases hi:i<n;exact Zex (b6 i k hi) a4 J;rw[u i k Gk];exact⟨Nat.zero_le _,b0⟩
 have b0:1<=Zbp B n:=Zc4 (m:=0) hB Gk;have a0:Zbp B n<=Zbp B n*S:=Qc _ hS;obtain⟨P,hP⟩:∃ P:Nat->Rat,P=λi=>Zeo (Zbf n 0 0 R false).1 U s' i*s' i:=⟨_,rfl⟩
 have V:∀ i,i<n->P i≠0:=λi hi h0=>by
  rw[hP]at h0;rcases Rat.mul_eq_zero.1 h0 with h|h;exact o5.piv_ne (l:=i) Gk h;exact b9 i hi h
 have b4:∀ i,i<n->BndQ (Zbp B n*S) (P i):=λi hi=>by
  rw[hP];have h5:=o5.pivL_bnd (l:=i) Gk;have h6:=Zc4 hB (show i<=n by omega);exact(h5.mul (o5.sB i hi).1).mono (Qe h6 (Qb _))
 have a5:∀ i j,i<n->BndQ (Zbp B n) (P i*E i j):=λi j hi=>by
  have h5:=o5.minor hi j;rw[show min i n=i by omega,o]at h5;rw[hP];have:Zeo (Zbf n 0 0 R false).1 U s' i*s' i*E i j=Zeo (Zbf n 0 0 R false).1 U s' i*(s' i*E i j):=by grind
  rw[this];exact h5.mono (Zc4 hB Gk)
 have a8:∀ i k t,i<n->t<=n->BndQ ((n+1)*(Zbp B n*Zbp B n)) (P i*D*upS E X i k t):=λi k t hi ht=>by
  have e:P i*D*upS E X i k t=P i*E i k*D-Zu t (λj=>if i<j then (P i*E i j)*(D*X j k)else 0):=by
   unfold upS;have:=Ze2 (n:=t) (λj=>if i<j then E i j*X j k else 0) (λ_=>0) (P i*D) 0
   have h5:Zu t (λj=>if i<j then (P i*E i j)*(D*X j k)else 0)=P i*D*Zu t (λj=>if i<j then E i j*X j k else 0)+0*Zu t (λ_=>0):=by
    rw[<- this];refine Zy λj _=>?_;by_cases hij:i<j;rw[Gx hij,Gx hij];grind;rw[Gw hij,Gw hij];grind
   rw[h5];grind
  rw[e]
  have b2:BndQ (t*(Zbp B n*Zbp B n)) (Zu t (λj=>if i<j then (P i*E i j)*(D*X j k)else 0)):=Znr λj hj=>by
   by_cases hij:i<j;rw[Gx hij];exact(a5 i j hi).mul (b6 j k Gk);rw[Gw hij];exact BndQ.zero
  refine(((a5 i k hi).mul a4).sub b2).mono ?_;rw[Nat.add_mul,Nat.one_mul,Nat.add_comm];exact Nat.add_le_add_right (Qe ht (Qb _)) _
 have c1:∀ i,i<n->BndQ (Zbp B n*Zbp B n*S) (P i*D):=λi hi=>by
  refine((b4 i hi).mul a4).mono ?_;rw[Nat.mul_right_comm];exact Qb _
 have c0:∀ i k t,SmN 400 400 (upS E X i k t):=λi k t=>by
  by_cases hi:i<n
  ·rcases Nat.le_total t n with ht|ht
   ·have:=Zex (a8 i k t hi ht) (c1 i hi) (λh0=>by
      rcases Rat.mul_eq_zero.1 h0 with h|h;exact V i hi h;exact J h)
    exact⟨Qa this.1 g1,Qa this.2 g2⟩
   rw[Zra (λj hj=>u j k hj) ht]
   have:=Zex (a8 i k n hi (Qb _)) (c1 i hi) (λh0=>by
    rcases Rat.mul_eq_zero.1 h0 with h|h;exact V i hi h;exact J h)
   exact⟨Qa this.1 g1,Qa this.2 g2⟩
  have:upS E X i k t=0:=by
    unfold upS
    rw[y i k Gk,Ze1 (λj _=>by
     by_cases hij:i<j;rw[Gx hij,y i j Gk];grind;rw[Gw hij])]
    grind
  exact Cx
 have b7:∀ i k,SmN 300 300 (X i k):=λi k=>⟨Qa (a9 i k).1 (Qa a0 g3),Qa (a9 i k).2 (Qa a0 g3)⟩
 have c5:∀ i j,SmN 300 300 (E i j):=λi j=>by
  by_cases hi:i<n
  ·have:=Zex (a5 i j hi) (b4 i hi) (V i hi)
   exact⟨Qa this.1 (Qa a0 g3),Qa this.2 g3⟩
  rw[y i j Gk];exact Ci
 have a3:∀ i j,i<n->(Zaf (Zam n 0 0 (Z6 R) false 1).1 i j:Rat)=P i*E i j:=λi j hi=>by
  rw[o6.ent i j hi,show min i n=i by omega,o,hP];grind
 have O:∀ i j,n<=i->(Zaf (Zam n 0 0 (Z6 R) false 1).1 i j:Rat)=0:=λi j hi=>by
  unfold Zaf;rw[Qf (l:=(Zam n 0 0 (Z6 R) false 1).1) (by rw[o6.len];exact hi)];rfl
 refine⟨?_,X,?_,?_,?_,a9⟩
 ·intro h0
  rw[hD]at C;rw[h0]at C;have hq:=c6 (Zbf n 0 0 R false).2.2;apply J;have:sgB (Zbf n 0 0 R false).2.2*(sgB (Zbf n 0 0 R false).2.2*D)=0:=by rw[C];grind
  grind
 ·rw[o]
  exact⟨Y,λi k hi _ _=>hX i k hi,c5,b7,c0⟩
 ·have b5:∀ i k t,i<n->upS (λi j=>(Zaf (Zam n 0 0 (Z6 R) false 1).1 i j:Rat)) X i k t=P i*upS E X i k t:=λi k t hi=>Zyc (E:=E) λj=>a3 i j hi
  refine⟨λi hi=>?_,λi k hi _ _=>?_,λi j=>?_,b7,λi k t=>?_⟩
  ·show (Zaf (Zam n 0 0 (Z6 R) false 1).1 i i:Rat)≠0
   rw[a3 i i hi];intro h0;rcases Rat.mul_eq_zero.1 h0 with h|h;exact V i hi h;exact Y i hi h
  ·show X i k=upS (λi j=>(Zaf (Zam n 0 0 (Z6 R) false 1).1 i j:Rat)) X i k n/(Zaf (Zam n 0 0 (Z6 R) false 1).1 i i:Rat)
   rw[b5 i k n hi,a3 i i hi,hX i k hi];have a1:=V i hi;have a2:=Y i hi
   grind
  ·by_cases hi:i<n
   ·obtain⟨z,c8,c2⟩:=a5 i j hi
    show SmN 300 300 (Zaf (Zam n 0 0 (Z6 R) false 1).1 i j:Rat);rw[a3 i j hi,c8];exact(SmN.int (i:=300) (Qa c2 (Qa a0 g3))).mono Gj Gj
   show SmN 300 300 (Zaf (Zam n 0 0 (Z6 R) false 1).1 i j:Rat);rw[O i j Gk];exact Ci
  have key:∀ t,i<n->t<=n->SmN 400 400 (P i*upS E X i k t):=λt hi ht=>by
    have h5:=a8 i k t hi ht;have e:P i*D*upS E X i k t=D*(P i*upS E X i k t):=by grind
    rw[e]at h5;have:=Zex h5 a4 J;have c3:Zbp B n<=Zbp B n*Zbp B n*S:=Nat.le_trans (Qc _ b0) (Qc _ hS);exact⟨Qa this.1 g1,Qa this.2 (Qa c3 g2)⟩
  by_cases hi:i<n
  ·rw[b5 i k t hi]
   rcases Nat.le_total t n with ht|ht;exact key t hi ht;rw[Zra (λj hj=>u j k hj) ht];exact key n hi (Qb _)
  have:upS (λi j=>(Zaf (Zam n 0 0 (Z6 R) false 1).1 i j:Rat)) X i k t=0:=by
    unfold upS;have hz:∀ j,(Zaf (Zam n 0 0 (Z6 R) false 1).1 i j:Rat)=0:=λj=>O i j Gk;simp only[hz]
    rw[Ze1 (λj _=>by
     by_cases hij:i<j;rw[Gx hij];grind;rw[Gw hij])]
    grind
  exact Cx
 intro i k hi hk c7
 have hv:∀ (F:Nat->Rat),Zu m (λj=>F j*(if j<n then X j k else if j=k then -1 else 0))=Zu n (λj=>F j*X j k)-F k:=λF=>by
  have h1:=Zv0 (n:=n) (m:=m) (f:=λj=>F j*(if j<n then X j k else if j=k then -1 else 0)) (k:=k) hk c7 (λj h1 h2=>by
   show F j*(if j<n then X j k else if j=k then -1 else 0)=0;rw[Gw (show ¬ j<n by omega),Gw h2];grind)
  have h2:Zu n (λj=>F j*(if j<n then X j k else if j=k then -1 else 0))=Zu n (λj=>F j*X j k):=Zy λj hj=>by
   show F j*(if j<n then X j k else if j=k then -1 else 0)=F j*X j k;rw[Gx hj]
  have h3:F k*(if k<n then X k k else if k=k then -1 else 0)=- F k:=by
   rw[Gw (show ¬ k<n by omega),Gx rfl];grind
  rw[h1,h2,h3];grind
 have a6:=Zkv (n:=n) (m:=m) (λj=>if j<n then X j k else if j=k then -1 else 0) n 0 0 R false hl hrow (Nat.zero_le _) (λ_ j _ _ hj=>by omega) (λi hi=>by
  unfold Zn2;have h1:=hv (λj=>E i j);rw[o];rw[b1 i k hi]at h1;rw[h1];grind) i hi
 unfold Zn2 at a6;have h1:=hv (λj=>Zi R i j);rw[a6]at h1
 grind
end
theorem Znv{C C' m:Nat}(hC:C<=C'):∀ (f c r:Nat) (Z:List (List Int)) (la:Int),okZ C m f c r Z la->okZ C' m f c r Z la
 | 0,_,_,_,_,h=>⟨⟨h.1.1,λi j=>Qd (h.1.2 i j) hC⟩,h.2.1,Qd h.2.2 hC⟩
 | f+1,_,_,_,_,h=>⟨⟨h.1.1,λi j=>Qd (h.1.2 i j) hC⟩,⟨h.2.1.1,Qd h.2.1.2 hC⟩,h.2.2.imp id (λ⟨h1,h2⟩=>⟨λe=>Znv hC f _ _ _ _ (h1 e),λe=>Znv hC f _ _ _ _ (h2 e)⟩)⟩
theorem pw_pow(k n:Nat):pw k^n=pw (k*n):=by
 induction n with
 | zero=>rfl
 | succ n ih=>rw[Nat.pow_succ,ih,Nat.mul_succ,Zc8]
theorem le_pw1{n:Nat}(h:n<=900):n<=pw 1:=by rw[Za2,Zd4];omega
theorem Zkd{b:Nat}:∀ n,n<=900->Zbp (pw b) n<=pw ((b+1)*n)
 | 0,_=>Qb _
 | n+1,h=>by
  have h1:=Zkd (b:=b) n Gk;have h2:(n+1)*(pw b*Zbp (pw b) n)<=pw 1*(pw b*pw ((b+1)*n)):=Qe (le_pw1 h) (Qe (Qb _) h1);rw[<- Zc8,<- Zc8]at h2;rw[show (b+1)*(n+1)=1+(b+(b+1)*n) by rw[Nat.mul_succ];omega];exact h2
def SmE(k:Nat)(Q:List (List Rat)):Prop:=∀ i j,(Zi Q i j).num.natAbs<=pw k/\(Zi Q i j).den<=pw k
section
variable{k n m:Nat}{Q:List (List Rat)}
theorem SmE.denTo(h:SmE k Q)(i t:Nat):denTo (Q[i]?.getD []) t<=pw (k*t):=by
 rw[<- pw_pow];exact Zrh _ (λj=>(h i j).2) t
theorem SmE.denAt(h:SmE k Q){i:Nat}(hr:(Q[i]?.getD []).length=m):denAt Q i<=pw (k*m):=by
 have:=h.denTo i m;unfold Go.Proofs.YthappeninglakaaGreat.denAt;rw[hr];exact this
theorem Zqy{z:Int}{d:Nat}{q:Rat}(h:(z:Rat)=(d:Nat)*q):z.natAbs<=d*q.num.natAbs:=by
 have h1:(z:Rat)*((q.den:Nat):Rat)=((d:Nat):Rat)*((q.num:Int):Rat):=by
  have e0:((q.num:Int):Rat)/((q.den:Nat):Rat)=q:=by have:=Rat.num_divInt_den q;rw[Rat.divInt_eq_div,Rat.intCast_natCast]at this;exact this
  have e1:((q.den:Nat):Rat)≠0:=by
   intro h;have:q.den=0:=by exact_mod_cast h
   have:=q.den_pos;omega
  have e2:((q.num:Int):Rat)=q*((q.den:Nat):Rat):=by
   have:((q.num:Int):Rat)/((q.den:Nat):Rat)*((q.den:Nat):Rat)=((q.num:Int):Rat):=by grind
   rw[e0]at this;exact this.symm
  rw[h,e2];grind
 have h2:z*(q.den:Int)=(d:Int)*q.num:=by exact_mod_cast h1
 have h3:=congrArg Int.natAbs h2;rw[Int.natAbs_mul,Int.natAbs_mul,Qg,Qg]at h3;rw[<- h3];exact Qc _ q.den_pos
theorem SmE.whole(h:SmE k Q){i:Nat}(hr:(Q[i]?.getD []).length=m)(j:Nat):(Zaf (Z6 Q) i j).natAbs<=pw (k*m+k):=by
 refine Nat.le_trans (Zqy (Zgs Q i j)) ?_;rw[Zc8];exact Qe (h.denAt hr) (h i j).1
end
def qM(rs:List RX):List (List Rat):=rs.map λr=>r.es.map FX.q
section
variable{w:World}{A:Option Addr}{n c:Nat}{rs:List RX}
theorem Z1p(h:MXL w A n c rs):(qM rs).length=n:=by unfold qM;rw[Qi];exact h.1
end
theorem Zja{rs:List RX}(h:Zgz rs=0):0<rs.length/\rs.length<=12/\0<n0R rs/\n0R rs<=12/\∀ r ∈ rs,r.n=n0R rs/\Zet r.es=true:=by
 unfold Zgz at h
 split at h
 exact absurd h Gj;rename_i h1
 split at h
 exact absurd h Gj;rename_i h2
 split at h
 ·rename_i h3
  rw[Qh]at h3
  have hf:∀ r ∈ rs,r.n=n0R rs/\Zet r.es=true:=λr hr=>by
   have:=h3 r hr;unfold Zhc at this;simpa using this
  unfold Zhw at h1;simp only[Bool.or_eq_true,decide_eq_true_eq,not_or,Nat.not_lt,Bool.not_eq_true,List.any_eq_false]at h1;have f:rs ≠ []:=λe=>h2 (by rw[e];rfl);obtain⟨r,hr⟩:=List.exists_mem_of_ne_nil rs f;have h4:¬ 12<r.n:=by have:=h1.2 r hr;unfold RX.long at this;simpa using this
  have h5:=hf r hr;exact⟨List.length_pos_iff.2 f,h1.1,by omega,by omega,hf⟩
 exact absurd h Gj
theorem Zze{es:List FX}(h:Zet es=true):∀ e ∈ es,e.ok=true:=λe he=>by
 unfold Zet at h;rw[Qh]at h;have:=h e he;unfold FX.fine at this;rw[Bool.and_eq_true]at this;exact this.2
section
variable{w:World}{A:Option Addr}{n c:Nat}{rs:List RX}
theorem MXL.good(h:MXL w A n c rs)(hE:Zgz rs=0):MFL w A n c (qM rs):=h.mfl λr hr=>Zze ((Zja hE).2.2.2.2 r hr).2
theorem qM_row(h:MXL w A n c rs)(hE:Zgz rs=0)(i:Nat)(hi:i<n):((qM rs)[i]?.getD []).length=n0R rs:=by
 unfold qM;have he:=List.getElem?_eq_getElem (l:=rs) (i:=i) (by rw[h.1];exact hi);rw[List.getElem?_map,he];simp only[Option.map_some,Option.getD_some,Qi];have hm:=List.getElem_mem (l:=rs) (n:=i) (by rw[h.1];exact hi);rw[(h.2.2.2.1 _ hm).1,((Zja hE).2.2.2.2 _ hm).1]
end
theorem Zeq(a:Bool)(A:Option Addr)(n c:Nat)(b:Bool)(B:Option Addr)(m d:Nat):NoLimb #[.bool a,.slice A n c,.bool b,.slice B m d]:=λi x=>by
 match i with
 | 0=>simp
 | 1=>simp
 | 2=>simp
 | 3=>simp
 | i+4=>simp
