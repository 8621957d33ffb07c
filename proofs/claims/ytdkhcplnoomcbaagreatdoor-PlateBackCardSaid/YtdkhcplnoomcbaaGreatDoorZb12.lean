/- The reference of linear: Check, square. Solving by -/
import Derived.Test.YtdkhcplnoomcbaaGreatDoorZb11
set_option linter.unusedSimpArgs false
set_option linter.unusedVariables false
namespace Go.Proofs.YtdkhcplnoomcbaaGreatDoor
open Go.RowKit
open Nat renaming lt_of_le_of_lt→Qa,le_refl→Qb,lt_of_lt_of_le→Qc,le_mul_of_pos_right→Qd,mul_le_mul→Qe
open List renaming getElem?_eq_none→Qf
attribute [local go_sem] Zf
def upS(E X:Nat->Nat->Rat)(i k t:Nat):Rat:=E i k-sumQ t (λj=>if i<j then E i j*X j k else 0)
theorem Zwj(E X:Nat->Nat->Rat)(i k t:Nat)(h:t<=i+1):upS E X i k t=E i k:=by
 unfold upS
 have:sumQ t (λj=>if i<j then E i j*X j k else 0)=0:=by
  induction t with
  | zero=>rfl
  | succ t ih=>simp only[sumQ];rw[ih Gk,Gw Gk];grind
 rw[this];grind
theorem Zuv(E X:Nat->Nat->Rat){i k t:Nat}(h:i<t):upS E X i k (t+1)=upS E X i k t-E i t*X t k:=by
 unfold upS;simp only[sumQ];rw[Gx h];grind
def Zid(E X:Nat->Nat->Rat)(n m:Nat):Prop:=
 (∀ i,i<n->E i i≠0)/\(∀ i k,i<n->n<=k->k<m->X i k=upS E X i k n/E i i)/\(∀ i j,SmN 300 300 (E i j))/\(∀ i k,SmN 300 300 (X i k))/\∀ i k t,SmN 400 400 (upS E X i k t)
def Zj0(X:Nat->Nat->Rat)(n m:Nat):List (List Rat):=(List.range n).map λi=>(List.range (m-n)).map λc=>X i (n+c)
theorem Ztu{E X X':Nat->Nat->Rat}{i k t:Nat}(h:∀ j,i<j->j<t->X j k=X' j k):upS E X i k t=upS E X' i k t:=by
 unfold upS;congr 1;refine Zx λj hj=>?_;by_cases hij:i<j;rw[Gx hij,Gx hij,h j hij hj];rw[Gw hij,Gw hij]
theorem Zt1{E E' X:Nat->Nat->Rat}{i k t:Nat}{c:Rat}(h:∀ j,E' i j=c*E i j):upS E' X i k t=c*upS E X i k t:=by
 unfold upS
 have:sumQ t (λj=>if i<j then E' i j*X j k else 0)=c*sumQ t (λj=>if i<j then E i j*X j k else 0):=by
  have h1:=Zeo (n:=t) (λj=>if i<j then E i j*X j k else 0) (λ_=>0) c 0;rw[show c*sumQ t (λj=>if i<j then E i j*X j k else 0)=c*sumQ t (λj=>if i<j then E i j*X j k else 0)+0*sumQ t (λ_=>0) by grind,<- h1];refine Zx λj _=>?_;by_cases hij:i<j;rw[Gx hij,Gx hij,h];grind;rw[Gw hij,Gw hij];grind
 rw[this,h];grind
theorem Zoy{E X:Nat->Nat->Rat}{n i k t:Nat}(hX:∀ j,n<=j->X j k=0)(h:n<=t):upS E X i k t=upS E X i k n:=by
 unfold upS;congr 1
 induction t with
 | zero=>obtain rfl:n=0:=by omega
         rfl
 | succ t ih =>
  by_cases hn:n=t+1;rw[hn];simp only[sumQ];rw[ih Gk];by_cases hit:i<t;rw[Gx hit,hX t Gk];grind;rw[Gw hit];grind
theorem Zlx{n:Nat}(E:Nat->Nat->Rat):∀ t,t<=n->∃ X:Nat->Nat->Rat,(∀ i k,n-t<=i->i<n->X i k=upS E X i k n/E i i)/\∀ i k,n<=i->X i k=0
 | 0,_=>⟨λ_ _=>0,λi k h1 h2=>by omega,λ_ _ _=>rfl⟩
 | t+1,ht=>by
  obtain⟨X,h1,h2⟩:=Zlx (n:=n) E t Gk;refine⟨λi k=>if i=n-(t+1)then upS E X i k n/E i i else X i k,λi k hi hn=>?_,λi k hi=>?_⟩
  ·have hc:upS E (λi k=>if i=n-(t+1)then upS E X i k n/E i i else X i k) i k n=upS E X i k n:=Ztu λj hj hjn=>by
     rw[Gw Gk]
   rw[hc];show (if i=n-(t+1)then upS E X i k n/E i i else X i k)=_;by_cases hit:i=n-(t+1);rw[Gx hit];rw[Gw hit];exact h1 i k Gk hn
  show (if i=n-(t+1)then _ else _)=_;rw[Gw Gk];exact h2 i k hi
theorem Zq5{n:Nat}{E X:Nat->Nat->Rat}{i k:Nat}(hi:i<n)(hlow:∀ j,j<i->E i j=0)(hd:E i i≠0)(hX:X i k=upS E X i k n/E i i):sumQ n (λj=>E i j*X j k)=E i k:=by
 have h1:E i i*X i k=upS E X i k n:=by rw[hX];grind
 unfold upS at h1
 have h2:sumQ n (λj=>E i j*X j k)=sumQ n (λj=>if j=i then E i i*X i k else 0)+sumQ n (λj=>if i<j then E i j*X j k else 0):=by
  have:=Zeo (n:=n) (λj=>if j=i then E i i*X i k else 0) (λj=>if i<j then E i j*X j k else 0) 1 1;rw[show ∀ a b:Rat,a+b=1*a+1*b by intro a b;grind,<- this];refine Zx λj _=>?_;rcases Nat.lt_trichotomy j i with h|h|h;rw[hlow j h,Gw Gk,Gw Gk];grind;subst h;rw[Gx rfl,Gw (Nat.lt_irrefl _)];grind;rw[Gw Gk,Gx h];grind
 rw[h2,Zgt i hi (λj _ hj=>Gw hj),Gx rfl,h1];grind
def Zma(R:List (List Rat))(m:Nat)(x:Nat->Rat)(i:Nat):Rat:=sumQ m (λj=>Zv R i j*x j)
theorem Zi9{n m:Nat}(x:Nat->Rat):∀ (f col r:Nat) (R:List (List Rat)) (neg:Bool),R.length=n->(∀ i,i<n->(R[i]?.getD []).length=m)->r<=n->(∀ i j,r<=i->i<n->j<col->Zv R i j=0) ->
    (∀ i,i<n->Zma (Za9 f col r R neg).1 m x i=0)->∀ i,i<n->Zma R m x i=0
 | 0,col,r,R,neg,_,_,_,_,h=>h
 | f+1,col,r,R,neg,hl,hrow,hr,hlow,h=>by
  unfold Za9 at h;rw[hl]at h;by_cases hrn:r=n;simp only[Gx hrn]at h;exact h;simp only[Gw hrn]at h;obtain⟨q,hq⟩:∃ q,Zbf (λi=>Zv R i col == 0) n n r=q:=⟨_,rfl⟩;obtain⟨p1,p2,p3,p4⟩:=Zer (z:=λi=>Zv R i col == 0) (n:=n) (f:=n) (k:=r) Gk Gk;rw[hq]at p1 p2 p3 p4;rw[hq]at h;by_cases hqn:q=n
  ·simp only[Gx hqn]at h
   refine Zi9 x f (col+1) r R neg hl hrow hr (λi j h1 h2 h3=>?_) h;by_cases hj:j=col;rw[hj];simpa using p3 i h1 Gk;exact hlow i j h1 h2 Gk
  simp only[Gw hqn]at h;have u:q<n:=Gk;have Y:Zv R q col≠0:=by simpa using p4 u
  have O:(Zae R q r).length=n:=by rw[Zdz,hl]
  have C:∀ i,i<(Zae R q r).length->((Zae R q r)[i]?.getD []).length=m:=λi hi=>by
   rw[O]at hi;rw[Zdg Gk Gk];exact hrow _ (Zgr u Gk hi)
  have I:∀ i j,Zv (Zae R q r) i j=Zv R (swI q r i) j:=λi j=>Zg8 Gk Gk i j
  have o:∀ i j,r<=i->i<n->j<col->Zv (Zae R q r) i j=0:=λi j h1 h2 h3=>by
   rw[I];exact hlow _ j (Zoq p1 h1) (Zgr u Gk h2) h3
  have a0:swI q r r=q:=by unfold swI;split
                          rename_i e;exact e;rw[Gx rfl]
  have a1:Zv (Zae R q r) r col≠0:=by rw[I,a0];exact Y
  have E:∀ i j,i<n->Zv (Zcw (Zae R q r) r col) i j=if i<=r then Zv (Zae R q r) i j else Zv (Zae R q r) i j-Zv (Zae R q r) i col/Zv (Zae R q r) r col*Zv (Zae R q r) r j:=
   λi j hi=>Zh3 (m:=m) C (λj hj=>o r j (Qb _) Gk hj) i j Gk Gk
  have ih:=Zi9 x f (col+1) (r+1) (Zcw (Zae R q r) r col) _ (by rw[Zkl,O]) (λi hi=>by rw[Zle i Gk];exact C i Gk) Gk (λi j h1 h2 h3=>by
   rw[E i j h2,Gw Gk];by_cases hj:j=col;rw[hj];grind;rw[o i j Gk h2 Gk,o r j (Qb _) Gk Gk];grind) h
  have J:Zma (Zae R q r) m x r=0:=by
   have:=ih r Gk;unfold Zma at this ⊢;rw[<- this];refine Zx λj _=>by rw[E r j Gk,Gx (Qb _)]
  have U:∀ i,i<n->Zma (Zae R q r) m x i=0:=λi hi=>by
   have h1:=ih i hi;by_cases hir:i<=r
   ·unfold Zma at h1 ⊢
    rw[<- h1];exact Zx λj _=>by rw[E i j hi,Gx hir]
   unfold Zma at h1 J ⊢;have h2:=Zeo (n:=m) (λj=>Zv (Zae R q r) i j*x j) (λj=>Zv (Zae R q r) r j*x j) 1 (-(Zv (Zae R q r) i col/Zv (Zae R q r) r col));rw[J]at h2
   have h3:sumQ m (λj=>Zv (Zcw (Zae R q r) r col) i j*x j)=sumQ m (λj=>1*(Zv (Zae R q r) i j*x j)+-(Zv (Zae R q r) i col/Zv (Zae R q r) r col)*(Zv (Zae R q r) r j*x j)):=
    Zx λj _=>by rw[E i j hi,Gw hir];grind
   rw[h3,h2]at h1
   grind
  intro i hi;have:=U (swI q r i) (Zgr u Gk hi);unfold Zma at this ⊢;rw[<- this];exact Zx λj _=>by rw[I,Zoh]
theorem BndQ.sub{B C:Nat}{p q:Rat}(h:BndQ B p)(k:BndQ C q):BndQ (B+C) (p-q):=by
 obtain⟨a,rfl,ha⟩:=h;obtain⟨b,rfl,hb⟩:=k;exact⟨a-b,by rw[Rat.intCast_sub],by omega⟩
theorem BndQ.zero{B:Nat}:BndQ B 0:=⟨0,rfl,by simp⟩
def SolQ(Q X:Nat->Nat->Rat)(n m:Nat):Prop:=∀ i k,i<n->n<=k->k<m->sumQ n (λj=>Q i j*X j k)=Q i k
theorem Zr8{n m:Nat}{f:Nat->Rat}{k:Nat}(hk:n<=k)(hm:k<m)(h:∀ j,n<=j->j≠k->f j=0):sumQ m f=sumQ n f+f k:=by
 induction m with
 | zero=>omega
 | succ m ih =>
  simp only[sumQ];by_cases hkm:k=m
  ·subst hkm
   congr 1
   have:∀ t,n+t<=k->sumQ (n+t) f=sumQ n f:=by
    intro t
    induction t with
    | zero=>intro _;rfl
    | succ t iht=>intro ht;rw[<- Nat.add_assoc];simp only[sumQ];rw[iht Gk,h (n+t) Gk Gk];grind
   have h1:=this (k-n) Gk;rw[show n+(k-n)=k by omega]at h1;exact h1
  rw[ih Gk,h m Gk Gk];grind
section
variable{B S n m:Nat}
theorem IG{G:Prop}(h:G:=by
 exact⟨Zdt _,by show 1<pw 300;exact Nat.lt_of_lt_of_le Zdh (Zbm Gi)⟩):G:=h
theorem IW{G:Prop}(h:G:=by
 rw[this];exact⟨Zdt _,by show 1<pw 400;exact Nat.lt_of_lt_of_le Zdh (Zbm Gi)⟩):G:=h
theorem Zr3(hB:1<=B)(hS:1<=S)(R:List (List Rat))(hl:R.length=n)(hrow:∀ i,i<n->(R[i]?.getD []).length=m)(hs:∀ i,i<n->Zc3 R i<=S)(hBd:∀ i j,i<n->(Zag (Zab R) i j).natAbs<=B)(hnm:n<=m)
    (g1:(n+1)*(Zbd B n*Zbd B n)<pw 400) (g2:Zbd B n*Zbd B n*S<pw 400) (g3:Zbd B n*S<pw 300) :
    okZ (Zbd B n+1) m n 0 0 (Zab R) 1/\okR (Zbd B n+1) (Zbd B n*S+1) m n 0 0 R /\
    (Zaw n 0 0 (Zab R) false 1).2.1=(Za9 n 0 0 R false).2.1/\(Za9 n 0 0 R false).2.1<=n /\
    ((Za9 n 0 0 R false).2.1<n->Zas n (Zv R)=0) /\
    ((Za9 n 0 0 R false).2.1=n->Zas n (Zv R)≠0/\∃ X:Nat->Nat->Rat,Zid (Zv (Za9 n 0 0 R false).1) X n m/\Zid (λi j=>(Zag (Zaw n 0 0 (Zab R) false 1).1 i j:Rat)) X n m/\SolQ (Zv R) X n m/\∀ i k,(X i k).num.natAbs<=Zbd B n/\(X i k).den<=Zbd B n):=by
 obtain⟨h1,h2⟩:=Zrw R hl hrow hs hBd;obtain⟨o1,o2,o3,o4,b0,a0,G',s',o5,o6,o7,o8,o9⟩:=Zjd hB hS n 0 0 R _ _ _ _ false 1 h1 h2 Gk
 have d4:((byZ R n:Nat):Rat)≠0:=by
  intro h;have:byZ R n=0:=by exact_mod_cast h
  have:=byZ_pos R n;omega
 have I:=o9 (λb=>b);rw[Zq0 (λa b=>Zv R a b) (λa=>((Zc3 R a:Nat):Rat)),<- Zv5]at I;have c7:sgB false=1:=rfl;rw[c7]at I;have c9:∀ b,sgB b*sgB b=1:=by intro b;cases b <;> simp[sgB] <;> grind
 refine⟨o1,o2,o3,o5.rn,λhr=>?_,λhr=>?_⟩
 ·have hE:=o5.det n (λb=>b) (λa=>a) (λa ha=>ha) (λa _=>rfl) (λa ha=>ha)
  have d6:b0=n:=Gk
  have h0:Zas n (λa b=>s' a*Zv (Za9 n 0 0 R false).1 a b)=0:=by
   rw[Zio]
   ·refine Zrs (k:=n-1) Gk ?_
    rw[o5.low (n-1) (n-1) Gk Gk Gk];grind
   intro a b ha hb;by_cases har:a<(Za9 n 0 0 R false).2.1
   ·have:∀ l,l<(Za9 n 0 0 R false).2.1->l<=a0 l:=by
      intro l
      induction l with
      | zero=>intro _;omega
      | succ l ih=>intro hl;have:=ih Gk;have:=o5.inc l (l+1) Gk hl;omega
    have:=this a har;rw[o5.bef a b har Gk];grind
   rw[o5.low a b Gk ha Gk];grind
  rw[hE]at h0;rw[h0]at I;have:((byZ R n:Nat):Rat)*Zas n (Zv R)=0:=by grind
  rcases Rat.mul_eq_zero.1 this with h|h;exact absurd h d4;exact h
 rw[hr]at o5 o6;have b6:b0<=n:=Gk;have J:∀ l,l<n->a0 l=l:=λl hl=>o5.diag b6 hl;obtain⟨E,o⟩:=Gz (Zv (Za9 n 0 0 R false).1);have Y:∀ i j,i<n->j<i->E i j=0:=λi j hi hj=>by rw[<- o];exact o5.bef i j hi (by rw[J i hi];exact hj)
 have a4:∀ i,i<n->E i i≠0:=λi hi=>by have:=o5.piv i hi;rw[J i hi]at this;rw[<- o];exact this
 have C:∀ i j,n<=i->E i j=0:=λi j hi=>by rw[<- o];unfold Zv;rw[Qf (l:=(Za9 n 0 0 R false).1) (by rw[o5.len];exact hi)];rfl
 have d5:∀ i j,i<n->m<=j->E i j=0:=λi j hi hj=>by rw[<- o];exact Zpg o5.row hi hj
 have c2:∀ i,i<n->s' i≠0:=λi hi=>(o5.sB i hi).2
 -- the determinant
 obtain⟨D,hD⟩:∃ D,Zas n (λa b=>G' a b)=D:=⟨_,rfl⟩
 have c1:Zas n (λa b=>s' a*E a b)=D:=by
  have:=o5.det n (λb=>b) (λa=>a) (λa ha=>ha) (λa _=>rfl) (λa ha=>ha);rw[<- hD,<- this,o]
 have O:D≠0:=by
  rw[<- c1,Zio (λa b ha hb=>by rw[Y a b ha hb];grind)];intro h0
  have hp:∀ t,t<=n->Za2 t (λi=>s' i*E i i)≠0:=by
   intro t
   induction t with
   | zero=>intro _ h;simp only[Za2]at h;revert h;decide
   | succ t ih =>
    intro ht h;simp only[Za2]at h;rcases Rat.mul_eq_zero.1 h with h|h;exact ih Gk h;rcases Rat.mul_eq_zero.1 h with h|h;exact c2 t Gk h;exact a4 t Gk h
  exact hp n (Qb _) h0
 have a7:BndQ (Zbd B n) D:=by rw[<- hD];exact Zgh λa b ha hb=>o5.gB a b ha
 obtain⟨X,hX,u⟩:=Zlx (n:=n) E n (Qb _);replace hX:∀ i k,i<n->X i k=upS E X i k n/E i i:=λi k hi=>hX i k Gk hi;have b4:∀ i k,i<n->sumQ n (λj=>E i j*X j k)=E i k:=λi k hi=>Zq5 hi (λj hj=>Y i j hi hj) (a4 i hi) (hX i k hi)
 have b9:∀ i k,i<n->BndQ (Zbd B n) (D*X i k):=λi k hi=>by
  have hc:=Zoe (λa b=>s' a*E a b) (λj=>X j k) (λa=>s' a*E a k) (λa ha=>by
   have:=Zeo (n:=n) (λj=>E a j*X j k) (λ_=>0) (s' a) 0;rw[b4 a k ha]at this;rw[show s' a*E a k=s' a*E a k+0*sumQ n (λ_=>0) by grind,<- this];exact Zx λj _=>by grind) hi
  rw[c1]at hc;rw[hc];have:=o5.det n (λb=>if b=i then k else b) (λa=>a) (λa ha=>ha) (λa _=>rfl) (λa ha=>ha);rw[o]at this
  rw[<- Za8 (M:=λa b=>s' a*E a (if b=i then k else b)) (λa b _ _=>by
   by_cases hb:b=i;rw[Gx hb,Gx hb];rw[Gw hb,Gw hb]),this]
  exact Zgh λa b ha hb=>o5.gB a _ ha
 have b2:∀ i k,(X i k).num.natAbs<=Zbd B n/\(X i k).den<=Zbd B n:=λi k=>by
  have b3:1<=Zbd B n:=Zc1 (m:=0) hB Gk;by_cases hi:i<n;exact Zfr (b9 i k hi) a7 O;rw[u i k Gk];exact⟨Nat.zero_le _,b3⟩
 have b3:1<=Zbd B n:=Zc1 (m:=0) hB Gk;have a5:Zbd B n<=Zbd B n*S:=Qd _ hS;obtain⟨P,hP⟩:∃ P:Nat->Rat,P=λi=>Zeg (Za9 n 0 0 R false).1 a0 s' i*s' i:=⟨_,rfl⟩
 have a3:∀ i,i<n->P i≠0:=λi hi h0=>by
  rw[hP]at h0;rcases Rat.mul_eq_zero.1 h0 with h|h;exact o5.piv_ne (l:=i) Gk h;exact c2 i hi h
 have b7:∀ i,i<n->BndQ (Zbd B n*S) (P i):=λi hi=>by
  rw[hP];have h5:=o5.pivL_bnd (l:=i) Gk;have h6:=Zc1 hB (show i<=n by omega);exact(h5.mul (o5.sB i hi).1).mono (Qe h6 (Qb _))
 have a8:∀ i j,i<n->BndQ (Zbd B n) (P i*E i j):=λi j hi=>by
  have h5:=o5.minor hi j;rw[show min i n=i by omega,o]at h5;rw[hP];have:Zeg (Za9 n 0 0 R false).1 a0 s' i*s' i*E i j=Zeg (Za9 n 0 0 R false).1 a0 s' i*(s' i*E i j):=by grind
  rw[this];exact h5.mono (Zc1 hB Gk)
 have b1:∀ i k t,i<n->t<=n->BndQ ((n+1)*(Zbd B n*Zbd B n)) (P i*D*upS E X i k t):=λi k t hi ht=>by
  have e:P i*D*upS E X i k t=P i*E i k*D-sumQ t (λj=>if i<j then (P i*E i j)*(D*X j k)else 0):=by
   unfold upS;have:=Zeo (n:=t) (λj=>if i<j then E i j*X j k else 0) (λ_=>0) (P i*D) 0
   have h5:sumQ t (λj=>if i<j then (P i*E i j)*(D*X j k)else 0)=P i*D*sumQ t (λj=>if i<j then E i j*X j k else 0)+0*sumQ t (λ_=>0):=by
    rw[<- this];refine Zx λj _=>?_;by_cases hij:i<j;rw[Gx hij,Gx hij];grind;rw[Gw hij,Gw hij];grind
   rw[h5];grind
  rw[e]
  have b5:BndQ (t*(Zbd B n*Zbd B n)) (sumQ t (λj=>if i<j then (P i*E i j)*(D*X j k)else 0)):=Zqg λj hj=>by
   by_cases hij:i<j;rw[Gx hij];exact(a8 i j hi).mul (b9 j k Gk);rw[Gw hij];exact BndQ.zero
  refine(((a8 i k hi).mul a7).sub b5).mono ?_;rw[Nat.add_mul,Nat.one_mul,Nat.add_comm];exact Nat.add_le_add_right (Qe ht (Qb _)) _
 have c4:∀ i,i<n->BndQ (Zbd B n*Zbd B n*S) (P i*D):=λi hi=>by
  refine((b7 i hi).mul a7).mono ?_;rw[Nat.mul_right_comm];exact Qb _
 have c3:∀ i k t,SmN 400 400 (upS E X i k t):=λi k t=>by
  by_cases hi:i<n
  ·rcases Nat.le_total t n with ht|ht
   ·have:=Zfr (b1 i k t hi ht) (c4 i hi) (λh0=>by
      rcases Rat.mul_eq_zero.1 h0 with h|h;exact a3 i hi h;exact O h)
    exact⟨Qa this.1 g1,Qa this.2 g2⟩
   rw[Zoy (λj hj=>u j k hj) ht]
   have:=Zfr (b1 i k n hi (Qb _)) (c4 i hi) (λh0=>by
    rcases Rat.mul_eq_zero.1 h0 with h|h;exact a3 i hi h;exact O h)
   exact⟨Qa this.1 g1,Qa this.2 g2⟩
  have:upS E X i k t=0:=by
    unfold upS
    rw[C i k Gk,Zd4 (λj _=>by
     by_cases hij:i<j;rw[Gx hij,C i j Gk];grind;rw[Gw hij])]
    grind
  exact IW
 have c0:∀ i k,SmN 300 300 (X i k):=λi k=>⟨Qa (b2 i k).1 (Qa a5 g3),Qa (b2 i k).2 (Qa a5 g3)⟩
 have c8:∀ i j,SmN 300 300 (E i j):=λi j=>by
  by_cases hi:i<n
  ·have:=Zfr (a8 i j hi) (b7 i hi) (a3 i hi)
   exact⟨Qa this.1 (Qa a5 g3),Qa this.2 g3⟩
  rw[C i j Gk];exact IG
 have a6:∀ i j,i<n->(Zag (Zaw n 0 0 (Zab R) false 1).1 i j:Rat)=P i*E i j:=λi j hi=>by
  rw[o6.ent i j hi,show min i n=i by omega,o,hP];grind
 have U:∀ i j,n<=i->(Zag (Zaw n 0 0 (Zab R) false 1).1 i j:Rat)=0:=λi j hi=>by
  unfold Zag;rw[Qf (l:=(Zaw n 0 0 (Zab R) false 1).1) (by rw[o6.len];exact hi)];rfl
 refine⟨?_,X,?_,?_,?_,b2⟩
 ·intro h0
  rw[hD]at I;rw[h0]at I;have hq:=c9 (Za9 n 0 0 R false).2.2;apply O;have:sgB (Za9 n 0 0 R false).2.2*(sgB (Za9 n 0 0 R false).2.2*D)=0:=by rw[I];grind
  grind
 ·rw[o]
  exact⟨a4,λi k hi _ _=>hX i k hi,c8,c0,c3⟩
 ·have b8:∀ i k t,i<n->upS (λi j=>(Zag (Zaw n 0 0 (Zab R) false 1).1 i j:Rat)) X i k t=P i*upS E X i k t:=λi k t hi=>Zt1 (E:=E) λj=>a6 i j hi
  refine⟨λi hi=>?_,λi k hi _ _=>?_,λi j=>?_,c0,λi k t=>?_⟩
  ·show (Zag (Zaw n 0 0 (Zab R) false 1).1 i i:Rat)≠0
   rw[a6 i i hi];intro h0;rcases Rat.mul_eq_zero.1 h0 with h|h;exact a3 i hi h;exact a4 i hi h
  ·show X i k=upS (λi j=>(Zag (Zaw n 0 0 (Zab R) false 1).1 i j:Rat)) X i k n/(Zag (Zaw n 0 0 (Zab R) false 1).1 i i:Rat)
   rw[b8 i k n hi,a6 i i hi,hX i k hi];have a1:=a3 i hi;have a2:=a4 i hi
   grind
  ·by_cases hi:i<n
   ·obtain⟨z,d3,c5⟩:=a8 i j hi
    show SmN 300 300 (Zag (Zaw n 0 0 (Zab R) false 1).1 i j:Rat);rw[a6 i j hi,d3];exact(SmN.int (i:=300) (Qa c5 (Qa a5 g3))).mono Gi Gi
   show SmN 300 300 (Zag (Zaw n 0 0 (Zab R) false 1).1 i j:Rat);rw[U i j Gk];exact IG
  have key:∀ t,i<n->t<=n->SmN 400 400 (P i*upS E X i k t):=λt hi ht=>by
    have h5:=b1 i k t hi ht;have e:P i*D*upS E X i k t=D*(P i*upS E X i k t):=by grind
    rw[e]at h5;have:=Zfr h5 a7 O;have c6:Zbd B n<=Zbd B n*Zbd B n*S:=Nat.le_trans (Qd _ b3) (Qd _ hS);exact⟨Qa this.1 g1,Qa this.2 (Qa c6 g2)⟩
  by_cases hi:i<n
  ·rw[b8 i k t hi]
   rcases Nat.le_total t n with ht|ht;exact key t hi ht;rw[Zoy (λj hj=>u j k hj) ht];exact key n hi (Qb _)
  have:upS (λi j=>(Zag (Zaw n 0 0 (Zab R) false 1).1 i j:Rat)) X i k t=0:=by
    unfold upS;have hz:∀ j,(Zag (Zaw n 0 0 (Zab R) false 1).1 i j:Rat)=0:=λj=>U i j Gk;simp only[hz]
    rw[Zd4 (λj _=>by
     by_cases hij:i<j;rw[Gx hij];grind;rw[Gw hij])]
    grind
  exact IW
 intro i k hi hk d0
 have hv:∀ (F:Nat->Rat),sumQ m (λj=>F j*(if j<n then X j k else if j=k then -1 else 0))=sumQ n (λj=>F j*X j k)-F k:=λF=>by
  have h1:=Zr8 (n:=n) (m:=m) (f:=λj=>F j*(if j<n then X j k else if j=k then -1 else 0)) (k:=k) hk d0 (λj h1 h2=>by
   show F j*(if j<n then X j k else if j=k then -1 else 0)=0;rw[Gw (show ¬ j<n by omega),Gw h2];grind)
  have h2:sumQ n (λj=>F j*(if j<n then X j k else if j=k then -1 else 0))=sumQ n (λj=>F j*X j k):=Zx λj hj=>by
   show F j*(if j<n then X j k else if j=k then -1 else 0)=F j*X j k;rw[Gx hj]
  have h3:F k*(if k<n then X k k else if k=k then -1 else 0)=- F k:=by
   rw[Gw (show ¬ k<n by omega),Gx rfl];grind
  rw[h1,h2,h3];grind
 have a9:=Zi9 (n:=n) (m:=m) (λj=>if j<n then X j k else if j=k then -1 else 0) n 0 0 R false hl hrow (Nat.zero_le _) (λ_ j _ _ hj=>by omega) (λi hi=>by
  unfold Zma;have h1:=hv (λj=>E i j);rw[o];rw[b4 i k hi]at h1;rw[h1];grind) i hi
 unfold Zma at a9;have h1:=hv (λj=>Zv R i j);rw[a9]at h1
 grind
end
theorem Zl2{C C' m:Nat}(hC:C<=C'):∀ (f c r:Nat) (Z:List (List Int)) (la:Int),okZ C m f c r Z la->okZ C' m f c r Z la
 | 0,_,_,_,_,h=>⟨⟨h.1.1,λi j=>Qc (h.1.2 i j) hC⟩,h.2.1,Qc h.2.2 hC⟩
 | f+1,_,_,_,_,h=>⟨⟨h.1.1,λi j=>Qc (h.1.2 i j) hC⟩,⟨h.2.1.1,Qc h.2.1.2 hC⟩,h.2.2.imp id (λ⟨h1,h2⟩=>⟨λe=>Zl2 hC f _ _ _ _ (h1 e),λe=>Zl2 hC f _ _ _ _ (h2 e)⟩)⟩
theorem le_pw1{n:Nat}(h:n<=900):n<=pw 1:=by rw[Zbh,Zd6];omega
theorem Zol{b:Nat}:∀ n,n<=900->Zbd (pw b) n<=pw ((b+1)*n)
 | 0,_=>Qb _
 | n+1,h=>by
  have h1:=Zol (b:=b) n Gk;have h2:(n+1)*(pw b*Zbd (pw b) n)<=pw 1*(pw b*pw ((b+1)*n)):=Qe (le_pw1 h) (Qe (Qb _) h1);rw[<- Zja,<- Zja]at h2;rw[show (b+1)*(n+1)=1+(b+(b+1)*n) by rw[Nat.mul_succ];omega];exact h2
section
variable{k n m:Nat}{Q:List (List Rat)}
end
section
variable{w:World}{A:Option Addr}{n c:Nat}{rs:List RX}
end
section
variable{w:World}{A:Option Addr}{n c:Nat}{rs:List RX}
end
theorem Zan(a:Bool)(A:Option Addr)(n c:Nat)(b:Bool)(B:Option Addr)(m d:Nat):NoLimb #[.bool a,.slice A n c,.bool b,.slice B m d]:=λi x=>by
 match i with
 | 0=>simp
 | 1=>simp
 | 2=>simp
 | 3=>simp
 | i+4=>simp
