/- The reference of linear: Check, square. Solving by -/
import Derived.Test.YthappeninglakaaGreatZe11
set_option maxRecDepth 100000
set_option maxHeartbeats 2000000
set_option linter.unusedSimpArgs false
set_option linter.unusedVariables false
namespace Go.Proofs.YthappeninglakaaGreat
open Go.RowKit
open Nat renaming lt_of_le_of_lt→Qa,le_refl→Qc,le_mul_of_pos_right→Qe,lt_of_lt_of_le→Qg,mul_le_mul→Qh,zero_le→Qq
open List renaming getElem?_map→Qb,getElem?_eq_getElem→Qd,getElem?_eq_none→Qf,ext_getElem?→Qi,getElem?_set→Qj,mem_of_getElem?→Qk,set_append_left→Ql,getElem_of_mem→Qm,getElem?_range→Qn,map_set→Qp,all_eq_true→Qr,length_map→Qt
open Int renaming natAbs_natCast→Qo
open Option renaming getD_some→Qs,map_some→Qu
attribute [local go_sem] Zg
def upS(E X:Nat->Nat->Rat)(i k t:Nat):Rat:=E i k-Zw t (λj=>if i<j then E i j*X j k else 0)
theorem Ztf(E X:Nat->Nat->Rat)(i k t:Nat)(h:t<=i+1):upS E X i k t=E i k:=by
 unfold upS
 have:Zw t (λj=>if i<j then E i j*X j k else 0)=0:=by
  induction t with
  | zero=>rfl
  | succ t ih=>simp only[Zw];rw[ih Gk,Gw Gk];grind
 rw[this];grind
theorem Zrj(E X:Nat->Nat->Rat){i k t:Nat}(h:i<t):upS E X i k (t+1)=upS E X i k t-E i t*X t k:=by
 unfold upS;simp only[Zw];rw[Gx h];grind
def Zhc(E X:Nat->Nat->Rat)(n m:Nat):Prop:=
 (∀ i,i<n->E i i≠0)/\(∀ i k,i<n->n<=k->k<m->X i k=upS E X i k n/E i i)/\(∀ i j,SmN 300 300 (E i j))/\(∀ i k,SmN 300 300 (X i k))/\∀ i k t,SmN 400 400 (upS E X i k t)
def Zjx(X:Nat->Nat->Rat)(n m:Nat):List (List Rat):=(List.range n).map λi=>(List.range (m-n)).map λc=>X i (n+c)
theorem Zxx{E X X':Nat->Nat->Rat}{i k t:Nat}(h:∀ j,i<j->j<t->X j k=X' j k):upS E X i k t=upS E X' i k t:=by
 unfold upS;congr 1;refine Zq λj hj=>?_;by_cases hij:i<j;rw[Gx hij,Gx hij,h j hij hj];rw[Gw hij,Gw hij]
theorem Zyc{E E' X:Nat->Nat->Rat}{i k t:Nat}{c:Rat}(h:∀ j,E' i j=c*E i j):upS E' X i k t=c*upS E X i k t:=by
 unfold upS
 have:Zw t (λj=>if i<j then E' i j*X j k else 0)=c*Zw t (λj=>if i<j then E i j*X j k else 0):=by
  have h1:=Zeo (n:=t) (λj=>if i<j then E i j*X j k else 0) (λ_=>0) c 0;rw[show c*Zw t (λj=>if i<j then E i j*X j k else 0)=c*Zw t (λj=>if i<j then E i j*X j k else 0)+0*Zw t (λ_=>0) by grind,<- h1];refine Zq λj _=>?_;by_cases hij:i<j;rw[Gx hij,Gx hij,h];grind;rw[Gw hij,Gw hij];grind
 rw[this,h];grind
theorem Zrk{E X:Nat->Nat->Rat}{n i k t:Nat}(hX:∀ j,n<=j->X j k=0)(h:n<=t):upS E X i k t=upS E X i k n:=by
 unfold upS;congr 1
 induction t with
 | zero=>obtain rfl:n=0:=by omega
         rfl
 | succ t ih =>
  by_cases hn:n=t+1;rw[hn];simp only[Zw];rw[ih Gk];by_cases hit:i<t;rw[Gx hit,hX t Gk];grind;rw[Gw hit];grind
theorem Zn4{n:Nat}(E:Nat->Nat->Rat):∀ t,t<=n->∃ X:Nat->Nat->Rat,(∀ i k,n-t<=i->i<n->X i k=upS E X i k n/E i i)/\∀ i k,n<=i->X i k=0
 | 0,_=>⟨λ_ _=>0,λi k h1 h2=>by omega,λ_ _ _=>rfl⟩
 | t+1,ht=>by
  obtain⟨X,h1,h2⟩:=Zn4 (n:=n) E t Gk;refine⟨λi k=>if i=n-(t+1)then upS E X i k n/E i i else X i k,λi k hi hn=>?_,λi k hi=>?_⟩
  ·have hc:upS E (λi k=>if i=n-(t+1)then upS E X i k n/E i i else X i k) i k n=upS E X i k n:=Zxx λj hj hjn=>by
     rw[Gw Gk]
   rw[hc];show (if i=n-(t+1)then upS E X i k n/E i i else X i k)=_;by_cases hit:i=n-(t+1);rw[Gx hit];rw[Gw hit];exact h1 i k Gk hn
  show (if i=n-(t+1)then _ else _)=_;rw[Gw Gk];exact h2 i k hi
theorem Zui{n:Nat}{E X:Nat->Nat->Rat}{i k:Nat}(hi:i<n)(hlow:∀ j,j<i->E i j=0)(hd:E i i≠0)(hX:X i k=upS E X i k n/E i i):Zw n (λj=>E i j*X j k)=E i k:=by
 have h1:E i i*X i k=upS E X i k n:=by rw[hX];grind
 unfold upS at h1
 have h2:Zw n (λj=>E i j*X j k)=Zw n (λj=>if j=i then E i i*X i k else 0)+Zw n (λj=>if i<j then E i j*X j k else 0):=by
  have:=Zeo (n:=n) (λj=>if j=i then E i i*X i k else 0) (λj=>if i<j then E i j*X j k else 0) 1 1;rw[show ∀ a b:Rat,a+b=1*a+1*b by intro a b;grind,<- this];refine Zq λj _=>?_;rcases Nat.lt_trichotomy j i with h|h|h;rw[hlow j h,Gw Gk,Gw Gk];grind;subst h;rw[Gx rfl,Gw (Nat.lt_irrefl _)];grind;rw[Gw Gk,Gx h];grind
 rw[h2,Zfj i hi (λj _ hj=>Gw hj),Gx rfl,h1];grind
def Zoi(R:List (List Rat))(m:Nat)(x:Nat->Rat)(i:Nat):Rat:=Zw m (λj=>Zh R i j*x j)
theorem Zkz{n m:Nat}(x:Nat->Rat):∀ (f col r:Nat) (R:List (List Rat)) (neg:Bool),R.length=n->(∀ i,i<n->(R[i]?.getD []).length=m)->r<=n->(∀ i j,r<=i->i<n->j<col->Zh R i j=0) ->
    (∀ i,i<n->Zoi (Zbf f col r R neg).1 m x i=0)->∀ i,i<n->Zoi R m x i=0
 | 0,col,r,R,neg,_,_,_,_,h=>h
 | f+1,col,r,R,neg,hl,hrow,hr,hlow,h=>by
  unfold Zbf at h;rw[hl]at h;by_cases hrn:r=n;simp only[Gx hrn]at h;exact h;simp only[Gw hrn]at h;obtain⟨q,hq⟩:∃ q,Zbo (λi=>Zh R i col == 0) n n r=q:=⟨_,rfl⟩;obtain⟨p1,p2,p3,p4⟩:=Zfe (z:=λi=>Zh R i col == 0) (n:=n) (f:=n) (k:=r) Gk Gk;rw[hq]at p1 p2 p3 p4;rw[hq]at h;by_cases hqn:q=n
  ·simp only[Gx hqn]at h
   refine Zkz x f (col+1) r R neg hl hrow hr (λi j h1 h2 h3=>?_) h;by_cases hj:j=col;rw[hj];simpa using p3 i h1 Gk;exact hlow i j h1 h2 Gk
  simp only[Gw hqn]at h;have u:q<n:=Gk;have U:Zh R q col≠0:=by simpa using p4 u
  have O:(Zag R q r).length=n:=by rw[Zeb,hl]
  have y:∀ i,i<(Zag R q r).length->((Zag R q r)[i]?.getD []).length=m:=λi hi=>by
   rw[O]at hi;rw[Zdv Gk Gk];exact hrow _ (Zhx u Gk hi)
  have I:∀ i j,Zh (Zag R q r) i j=Zh R (swI q r i) j:=λi j=>Zie Gk Gk i j
  have o:∀ i j,r<=i->i<n->j<col->Zh (Zag R q r) i j=0:=λi j h1 h2 h3=>by
   rw[I];exact hlow _ j (Zq9 p1 h1) (Zhx u Gk h2) h3
  have V:swI q r r=q:=by unfold swI;split
                         rename_i e;exact e;rw[Gx rfl]
  have Y:Zh (Zag R q r) r col≠0:=by rw[I,V];exact U
  have C:∀ i j,i<n->Zh (Zbq (Zag R q r) r col) i j=if i<=r then Zh (Zag R q r) i j else Zh (Zag R q r) i j-Zh (Zag R q r) i col/Zh (Zag R q r) r col*Zh (Zag R q r) r j:=
   λi j hi=>Zgx (m:=m) y (λj hj=>o r j (Qc _) Gk hj) i j Gk Gk
  have ih:=Zkz x f (col+1) (r+1) (Zbq (Zag R q r) r col) _ (by rw[Ze7,O]) (λi hi=>by rw[Znh i Gk];exact y i Gk) Gk (λi j h1 h2 h3=>by
   rw[C i j h2,Gw Gk];by_cases hj:j=col;rw[hj];grind;rw[o i j Gk h2 Gk,o r j (Qc _) Gk Gk];grind) h
  have J:Zoi (Zag R q r) m x r=0:=by
   have:=ih r Gk;unfold Zoi at this ⊢;rw[<- this];refine Zq λj _=>by rw[C r j Gk,Gx (Qc _)]
  have T:∀ i,i<n->Zoi (Zag R q r) m x i=0:=λi hi=>by
   have h1:=ih i hi;by_cases hir:i<=r
   ·unfold Zoi at h1 ⊢
    rw[<- h1];exact Zq λj _=>by rw[C i j hi,Gx hir]
   unfold Zoi at h1 J ⊢;have h2:=Zeo (n:=m) (λj=>Zh (Zag R q r) i j*x j) (λj=>Zh (Zag R q r) r j*x j) 1 (-(Zh (Zag R q r) i col/Zh (Zag R q r) r col));rw[J]at h2
   have h3:Zw m (λj=>Zh (Zbq (Zag R q r) r col) i j*x j)=Zw m (λj=>1*(Zh (Zag R q r) i j*x j)+-(Zh (Zag R q r) i col/Zh (Zag R q r) r col)*(Zh (Zag R q r) r j*x j)):=
    Zq λj _=>by rw[C i j hi,Gw hir];grind
   rw[h3,h2]at h1
   grind
  intro i hi;have:=T (swI q r i) (Zhx u Gk hi);unfold Zoi at this ⊢;rw[<- this];exact Zq λj _=>by rw[I,Zqu]
theorem BndQ.sub{B C:Nat}{p q:Rat}(h:BndQ B p)(k:BndQ C q):BndQ (B+C) (p-q):=by
 obtain⟨a,rfl,ha⟩:=h;obtain⟨b,rfl,hb⟩:=k;exact⟨a-b,by rw[Rat.intCast_sub],by omega⟩
theorem BndQ.zero{B:Nat}:BndQ B 0:=⟨0,rfl,by simp⟩
def SolQ(Q X:Nat->Nat->Rat)(n m:Nat):Prop:=∀ i k,i<n->n<=k->k<m->Zw n (λj=>Q i j*X j k)=Q i k
theorem Zof{n m:Nat}{f:Nat->Rat}{k:Nat}(hk:n<=k)(hm:k<m)(h:∀ j,n<=j->j≠k->f j=0):Zw m f=Zw n f+f k:=by
 induction m with
 | zero=>omega
 | succ m ih =>
  simp only[Zw];by_cases hkm:k=m
  ·subst hkm
   congr 1
   have:∀ t,n+t<=k->Zw (n+t) f=Zw n f:=by
    intro t
    induction t with
    | zero=>intro _;rfl
    | succ t iht=>intro ht;rw[<- Nat.add_assoc];simp only[Zw];rw[iht Gk,h (n+t) Gk Gk];grind
   have h1:=this (k-n) Gk;rw[show n+(k-n)=k by omega]at h1;exact h1
  rw[ih Gk,h m Gk Gk];grind
section
variable{B S n m:Nat}
theorem Ck{G:Prop}(h:G:=by
 exact⟨Zb1 _,by show 1<pw 300;exact Nat.lt_of_lt_of_le Zed (Zb6 Gj)⟩):G:=h
theorem Cx{G:Prop}(h:G:=by
 rw[this];exact⟨Zb1 _,by show 1<pw 400;exact Nat.lt_of_lt_of_le Zed (Zb6 Gj)⟩):G:=h
theorem Zvu(hB:1<=B)(hS:1<=S)(R:List (List Rat))(hl:R.length=n)(hrow:∀ i,i<n->(R[i]?.getD []).length=m)(hs:∀ i,i<n->denAt R i<=S)(hBd:∀ i j,i<n->(Zaf (Z7 R) i j).natAbs<=B)(hnm:n<=m)
    (g1:(n+1)*(Zbn B n*Zbn B n)<pw 400) (g2:Zbn B n*Zbn B n*S<pw 400) (g3:Zbn B n*S<pw 300) :
    okZ (Zbn B n+1) m n 0 0 (Z7 R) 1/\okR (Zbn B n+1) (Zbn B n*S+1) m n 0 0 R /\
    (Zap n 0 0 (Z7 R) false 1).2.1=(Zbf n 0 0 R false).2.1/\(Zbf n 0 0 R false).2.1<=n /\
    ((Zbf n 0 0 R false).2.1<n->Zat n (Zh R)=0) /\
    ((Zbf n 0 0 R false).2.1=n->Zat n (Zh R)≠0/\∃ X:Nat->Nat->Rat,Zhc (Zh (Zbf n 0 0 R false).1) X n m/\Zhc (λi j=>(Zaf (Zap n 0 0 (Z7 R) false 1).1 i j:Rat)) X n m/\SolQ (Zh R) X n m/\∀ i k,(X i k).num.natAbs<=Zbn B n/\(X i k).den<=Zbn B n):=by
 obtain⟨h1,h2⟩:=Znv R hl hrow hs hBd;obtain⟨o1,o2,o3,o4,a7,U,G',s',o5,o6,o7,o8,o9⟩:=Zk5 hB hS n 0 0 R _ _ _ _ false 1 h1 h2 Gk
 have c9:((byZ R n:Nat):Rat)≠0:=by
  intro h;have:byZ R n=0:=by exact_mod_cast h
  have:=byZ_pos R n;omega
 have C:=o9 (λb=>b);rw[Zua (λa b=>Zh R a b) (λa=>((denAt R a:Nat):Rat)),<- Z05]at C;have c4:sgB false=1:=rfl;rw[c4]at C;have c6:∀ b,sgB b*sgB b=1:=by intro b;cases b <;> simp[sgB] <;> grind
 refine⟨o1,o2,o3,o5.rn,λhr=>?_,λhr=>?_⟩
 ·have hE:=o5.det n (λb=>b) (λa=>a) (λa ha=>ha) (λa _=>rfl) (λa ha=>ha)
  have d3:a7=n:=Gk
  have h0:Zat n (λa b=>s' a*Zh (Zbf n 0 0 R false).1 a b)=0:=by
   rw[Zkb]
   ·refine Zva (k:=n-1) Gk ?_
    rw[o5.low (n-1) (n-1) Gk Gk Gk];grind
   intro a b ha hb;by_cases har:a<(Zbf n 0 0 R false).2.1
   ·have:∀ l,l<(Zbf n 0 0 R false).2.1->l<=U l:=by
      intro l
      induction l with
      | zero=>intro _;omega
      | succ l ih=>intro hl;have:=ih Gk;have:=o5.inc l (l+1) Gk hl;omega
    have:=this a har;rw[o5.bef a b har Gk];grind
   rw[o5.low a b Gk ha Gk];grind
  rw[hE]at h0;rw[h0]at C;have:((byZ R n:Nat):Rat)*Zat n (Zh R)=0:=by grind
  rcases Rat.mul_eq_zero.1 this with h|h;exact absurd h c9;exact h
 rw[hr]at o5 o6;have b3:a7<=n:=Gk;have I:∀ l,l<n->U l=l:=λl hl=>o5.diag b3 hl;obtain⟨E,o⟩:=Gz (Zh (Zbf n 0 0 R false).1);have T:∀ i j,i<n->j<i->E i j=0:=λi j hi hj=>by rw[<- o];exact o5.bef i j hi (by rw[I i hi];exact hj)
 have Y:∀ i,i<n->E i i≠0:=λi hi=>by have:=o5.piv i hi;rw[I i hi]at this;rw[<- o];exact this
 have y:∀ i j,n<=i->E i j=0:=λi j hi=>by rw[<- o];unfold Zh;rw[Qf (l:=(Zbf n 0 0 R false).1) (by rw[o5.len];exact hi)];rfl
 have d0:∀ i j,i<n->m<=j->E i j=0:=λi j hi hj=>by rw[<- o];exact Zsg o5.row hi hj
 have b9:∀ i,i<n->s' i≠0:=λi hi=>(o5.sB i hi).2
 -- the determinant
 obtain⟨D,hD⟩:∃ D,Zat n (λa b=>G' a b)=D:=⟨_,rfl⟩
 have b8:Zat n (λa b=>s' a*E a b)=D:=by
  have:=o5.det n (λb=>b) (λa=>a) (λa ha=>ha) (λa _=>rfl) (λa ha=>ha);rw[<- hD,<- this,o]
 have J:D≠0:=by
  rw[<- b8,Zkb (λa b ha hb=>by rw[T a b ha hb];grind)];intro h0
  have hp:∀ t,t<=n->Za8 t (λi=>s' i*E i i)≠0:=by
   intro t
   induction t with
   | zero=>intro _ h;simp only[Za8]at h;revert h;decide
   | succ t ih =>
    intro ht h;simp only[Za8]at h;rcases Rat.mul_eq_zero.1 h with h|h;exact ih Gk h;rcases Rat.mul_eq_zero.1 h with h|h;exact b9 t Gk h;exact Y t Gk h
  exact hp n (Qc _) h0
 have a4:BndQ (Zbn B n) D:=by rw[<- hD];exact Zhn λa b ha hb=>o5.gB a b ha
 obtain⟨X,hX,u⟩:=Zn4 (n:=n) E n (Qc _);replace hX:∀ i k,i<n->X i k=upS E X i k n/E i i:=λi k hi=>hX i k Gk hi;have b1:∀ i k,i<n->Zw n (λj=>E i j*X j k)=E i k:=λi k hi=>Zui hi (λj hj=>T i j hi hj) (Y i hi) (hX i k hi)
 have b6:∀ i k,i<n->BndQ (Zbn B n) (D*X i k):=λi k hi=>by
  have hc:=Z00 (λa b=>s' a*E a b) (λj=>X j k) (λa=>s' a*E a k) (λa ha=>by
   have:=Zeo (n:=n) (λj=>E a j*X j k) (λ_=>0) (s' a) 0;rw[b1 a k ha]at this;rw[show s' a*E a k=s' a*E a k+0*Zw n (λ_=>0) by grind,<- this];exact Zq λj _=>by grind) hi
  rw[b8]at hc;rw[hc];have:=o5.det n (λb=>if b=i then k else b) (λa=>a) (λa ha=>ha) (λa _=>rfl) (λa ha=>ha);rw[o]at this
  rw[<- Za6 (M:=λa b=>s' a*E a (if b=i then k else b)) (λa b _ _=>by
   by_cases hb:b=i;rw[Gx hb,Gx hb];rw[Gw hb,Gw hb]),this]
  exact Zhn λa b ha hb=>o5.gB a _ ha
 have a9:∀ i k,(X i k).num.natAbs<=Zbn B n/\(X i k).den<=Zbn B n:=λi k=>by
  have b0:1<=Zbn B n:=Zc4 (m:=0) hB Gk;by_cases hi:i<n;exact Zfn (b6 i k hi) a4 J;rw[u i k Gk];exact⟨Qq _,b0⟩
 have b0:1<=Zbn B n:=Zc4 (m:=0) hB Gk;have a0:Zbn B n<=Zbn B n*S:=Qe _ hS;obtain⟨P,hP⟩:∃ P:Nat->Rat,P=λi=>Zes (Zbf n 0 0 R false).1 U s' i*s' i:=⟨_,rfl⟩
 have V:∀ i,i<n->P i≠0:=λi hi h0=>by
  rw[hP]at h0;rcases Rat.mul_eq_zero.1 h0 with h|h;exact o5.piv_ne (l:=i) Gk h;exact b9 i hi h
 have b4:∀ i,i<n->BndQ (Zbn B n*S) (P i):=λi hi=>by
  rw[hP];have h5:=o5.pivL_bnd (l:=i) Gk;have h6:=Zc4 hB (show i<=n by omega);exact(h5.mul (o5.sB i hi).1).mono (Qh h6 (Qc _))
 have a5:∀ i j,i<n->BndQ (Zbn B n) (P i*E i j):=λi j hi=>by
  have h5:=o5.minor hi j;rw[show min i n=i by omega,o]at h5;rw[hP];have:Zes (Zbf n 0 0 R false).1 U s' i*s' i*E i j=Zes (Zbf n 0 0 R false).1 U s' i*(s' i*E i j):=by grind
  rw[this];exact h5.mono (Zc4 hB Gk)
 have a8:∀ i k t,i<n->t<=n->BndQ ((n+1)*(Zbn B n*Zbn B n)) (P i*D*upS E X i k t):=λi k t hi ht=>by
  have e:P i*D*upS E X i k t=P i*E i k*D-Zw t (λj=>if i<j then (P i*E i j)*(D*X j k)else 0):=by
   unfold upS;have:=Zeo (n:=t) (λj=>if i<j then E i j*X j k else 0) (λ_=>0) (P i*D) 0
   have h5:Zw t (λj=>if i<j then (P i*E i j)*(D*X j k)else 0)=P i*D*Zw t (λj=>if i<j then E i j*X j k else 0)+0*Zw t (λ_=>0):=by
    rw[<- this];refine Zq λj _=>?_;by_cases hij:i<j;rw[Gx hij,Gx hij];grind;rw[Gw hij,Gw hij];grind
   rw[h5];grind
  rw[e]
  have b2:BndQ (t*(Zbn B n*Zbn B n)) (Zw t (λj=>if i<j then (P i*E i j)*(D*X j k)else 0)):=Ztn λj hj=>by
   by_cases hij:i<j;rw[Gx hij];exact(a5 i j hi).mul (b6 j k Gk);rw[Gw hij];exact BndQ.zero
  refine(((a5 i k hi).mul a4).sub b2).mono ?_;rw[Nat.add_mul,Nat.one_mul,Nat.add_comm];exact Nat.add_le_add_right (Qh ht (Qc _)) _
 have c1:∀ i,i<n->BndQ (Zbn B n*Zbn B n*S) (P i*D):=λi hi=>by
  refine((b4 i hi).mul a4).mono ?_;rw[Nat.mul_right_comm];exact Qc _
 have c0:∀ i k t,SmN 400 400 (upS E X i k t):=λi k t=>by
  by_cases hi:i<n
  ·rcases Nat.le_total t n with ht|ht
   ·have:=Zfn (a8 i k t hi ht) (c1 i hi) (λh0=>by
      rcases Rat.mul_eq_zero.1 h0 with h|h;exact V i hi h;exact J h)
    exact⟨Qa this.1 g1,Qa this.2 g2⟩
   rw[Zrk (λj hj=>u j k hj) ht]
   have:=Zfn (a8 i k n hi (Qc _)) (c1 i hi) (λh0=>by
    rcases Rat.mul_eq_zero.1 h0 with h|h;exact V i hi h;exact J h)
   exact⟨Qa this.1 g1,Qa this.2 g2⟩
  have:upS E X i k t=0:=by
    unfold upS
    rw[y i k Gk,Zgi (λj _=>by
     by_cases hij:i<j;rw[Gx hij,y i j Gk];grind;rw[Gw hij])]
    grind
  exact Cx
 have b7:∀ i k,SmN 300 300 (X i k):=λi k=>⟨Qa (a9 i k).1 (Qa a0 g3),Qa (a9 i k).2 (Qa a0 g3)⟩
 have c5:∀ i j,SmN 300 300 (E i j):=λi j=>by
  by_cases hi:i<n
  ·have:=Zfn (a5 i j hi) (b4 i hi) (V i hi)
   exact⟨Qa this.1 (Qa a0 g3),Qa this.2 g3⟩
  rw[y i j Gk];exact Ck
 have a3:∀ i j,i<n->(Zaf (Zap n 0 0 (Z7 R) false 1).1 i j:Rat)=P i*E i j:=λi j hi=>by
  rw[o6.ent i j hi,show min i n=i by omega,o,hP];grind
 have O:∀ i j,n<=i->(Zaf (Zap n 0 0 (Z7 R) false 1).1 i j:Rat)=0:=λi j hi=>by
  unfold Zaf;rw[Qf (l:=(Zap n 0 0 (Z7 R) false 1).1) (by rw[o6.len];exact hi)];rfl
 refine⟨?_,X,?_,?_,?_,a9⟩
 ·intro h0
  rw[hD]at C;rw[h0]at C;have hq:=c6 (Zbf n 0 0 R false).2.2;apply J;have:sgB (Zbf n 0 0 R false).2.2*(sgB (Zbf n 0 0 R false).2.2*D)=0:=by rw[C];grind
  grind
 ·rw[o]
  exact⟨Y,λi k hi _ _=>hX i k hi,c5,b7,c0⟩
 ·have b5:∀ i k t,i<n->upS (λi j=>(Zaf (Zap n 0 0 (Z7 R) false 1).1 i j:Rat)) X i k t=P i*upS E X i k t:=λi k t hi=>Zyc (E:=E) λj=>a3 i j hi
  refine⟨λi hi=>?_,λi k hi _ _=>?_,λi j=>?_,b7,λi k t=>?_⟩
  ·show (Zaf (Zap n 0 0 (Z7 R) false 1).1 i i:Rat)≠0
   rw[a3 i i hi];intro h0;rcases Rat.mul_eq_zero.1 h0 with h|h;exact V i hi h;exact Y i hi h
  ·show X i k=upS (λi j=>(Zaf (Zap n 0 0 (Z7 R) false 1).1 i j:Rat)) X i k n/(Zaf (Zap n 0 0 (Z7 R) false 1).1 i i:Rat)
   rw[b5 i k n hi,a3 i i hi,hX i k hi];have a1:=V i hi;have a2:=Y i hi
   grind
  ·by_cases hi:i<n
   ·obtain⟨z,c8,c2⟩:=a5 i j hi
    show SmN 300 300 (Zaf (Zap n 0 0 (Z7 R) false 1).1 i j:Rat);rw[a3 i j hi,c8];exact(SmN.int (i:=300) (Qa c2 (Qa a0 g3))).mono Gj Gj
   show SmN 300 300 (Zaf (Zap n 0 0 (Z7 R) false 1).1 i j:Rat);rw[O i j Gk];exact Ck
  have key:∀ t,i<n->t<=n->SmN 400 400 (P i*upS E X i k t):=λt hi ht=>by
    have h5:=a8 i k t hi ht;have e:P i*D*upS E X i k t=D*(P i*upS E X i k t):=by grind
    rw[e]at h5;have:=Zfn h5 a4 J;have c3:Zbn B n<=Zbn B n*Zbn B n*S:=Nat.le_trans (Qe _ b0) (Qe _ hS);exact⟨Qa this.1 g1,Qa this.2 (Qa c3 g2)⟩
  by_cases hi:i<n
  ·rw[b5 i k t hi]
   rcases Nat.le_total t n with ht|ht;exact key t hi ht;rw[Zrk (λj hj=>u j k hj) ht];exact key n hi (Qc _)
  have:upS (λi j=>(Zaf (Zap n 0 0 (Z7 R) false 1).1 i j:Rat)) X i k t=0:=by
    unfold upS;have hz:∀ j,(Zaf (Zap n 0 0 (Z7 R) false 1).1 i j:Rat)=0:=λj=>O i j Gk;simp only[hz]
    rw[Zgi (λj _=>by
     by_cases hij:i<j;rw[Gx hij];grind;rw[Gw hij])]
    grind
  exact Cx
 intro i k hi hk c7
 have hv:∀ (F:Nat->Rat),Zw m (λj=>F j*(if j<n then X j k else if j=k then -1 else 0))=Zw n (λj=>F j*X j k)-F k:=λF=>by
  have h1:=Zof (n:=n) (m:=m) (f:=λj=>F j*(if j<n then X j k else if j=k then -1 else 0)) (k:=k) hk c7 (λj h1 h2=>by
   show F j*(if j<n then X j k else if j=k then -1 else 0)=0;rw[Gw (show ¬ j<n by omega),Gw h2];grind)
  have h2:Zw n (λj=>F j*(if j<n then X j k else if j=k then -1 else 0))=Zw n (λj=>F j*X j k):=Zq λj hj=>by
   show F j*(if j<n then X j k else if j=k then -1 else 0)=F j*X j k;rw[Gx hj]
  have h3:F k*(if k<n then X k k else if k=k then -1 else 0)=- F k:=by
   rw[Gw (show ¬ k<n by omega),Gx rfl];grind
  rw[h1,h2,h3];grind
 have a6:=Zkz (n:=n) (m:=m) (λj=>if j<n then X j k else if j=k then -1 else 0) n 0 0 R false hl hrow (Qq _) (λ_ j _ _ hj=>by omega) (λi hi=>by
  unfold Zoi;have h1:=hv (λj=>E i j);rw[o];rw[b1 i k hi]at h1;rw[h1];grind) i hi
 unfold Zoi at a6;have h1:=hv (λj=>Zh R i j);rw[a6]at h1
 grind
end
theorem Zob{C C' m:Nat}(hC:C<=C'):∀ (f c r:Nat) (Z:List (List Int)) (la:Int),okZ C m f c r Z la->okZ C' m f c r Z la
 | 0,_,_,_,_,h=>⟨⟨h.1.1,λi j=>Qg (h.1.2 i j) hC⟩,h.2.1,Qg h.2.2 hC⟩
 | f+1,_,_,_,_,h=>⟨⟨h.1.1,λi j=>Qg (h.1.2 i j) hC⟩,⟨h.2.1.1,Qg h.2.1.2 hC⟩,h.2.2.imp id (λ⟨h1,h2⟩=>⟨λe=>Zob hC f _ _ _ _ (h1 e),λe=>Zob hC f _ _ _ _ (h2 e)⟩)⟩
theorem pw_pow(k n:Nat):pw k^n=pw (k*n):=by
 induction n with
 | zero=>rfl
 | succ n ih=>rw[Nat.pow_succ,ih,Nat.mul_succ,Zcx]
theorem le_pw1{n:Nat}(h:n<=900):n<=pw 1:=by rw[Za7,Zd1];omega
theorem Zkh{b:Nat}:∀ n,n<=900->Zbn (pw b) n<=pw ((b+1)*n)
 | 0,_=>Qc _
 | n+1,h=>by
  have h1:=Zkh (b:=b) n Gk;have h2:(n+1)*(pw b*Zbn (pw b) n)<=pw 1*(pw b*pw ((b+1)*n)):=Qh (le_pw1 h) (Qh (Qc _) h1);rw[<- Zcx,<- Zcx]at h2;rw[show (b+1)*(n+1)=1+(b+(b+1)*n) by rw[Nat.mul_succ];omega];exact h2
def SmE(k:Nat)(Q:List (List Rat)):Prop:=∀ i j,(Zh Q i j).num.natAbs<=pw k/\(Zh Q i j).den<=pw k
section
variable{k n m:Nat}{Q:List (List Rat)}
theorem SmE.denTo(h:SmE k Q)(i t:Nat):denTo (Q[i]?.getD []) t<=pw (k*t):=by
 rw[<- pw_pow];exact Zrr _ (λj=>(h i j).2) t
theorem SmE.denAt(h:SmE k Q){i:Nat}(hr:(Q[i]?.getD []).length=m):denAt Q i<=pw (k*m):=by
 have:=h.denTo i m;unfold Go.Proofs.YthappeninglakaaGreat.denAt;rw[hr];exact this
theorem Zq6{z:Int}{d:Nat}{q:Rat}(h:(z:Rat)=(d:Nat)*q):z.natAbs<=d*q.num.natAbs:=by
 have h1:(z:Rat)*((q.den:Nat):Rat)=((d:Nat):Rat)*((q.num:Int):Rat):=by
  have e0:((q.num:Int):Rat)/((q.den:Nat):Rat)=q:=by have:=Rat.num_divInt_den q;rw[Rat.divInt_eq_div,Rat.intCast_natCast]at this;exact this
  have e1:((q.den:Nat):Rat)≠0:=by
   intro h;have:q.den=0:=by exact_mod_cast h
   have:=q.den_pos;omega
  have e2:((q.num:Int):Rat)=q*((q.den:Nat):Rat):=by
   have:((q.num:Int):Rat)/((q.den:Nat):Rat)*((q.den:Nat):Rat)=((q.num:Int):Rat):=by grind
   rw[e0]at this;exact this.symm
  rw[h,e2];grind
 have h2:z*(q.den:Int)=(d:Int)*q.num:=by exact_mod_cast h1
 have h3:=congrArg Int.natAbs h2;rw[Int.natAbs_mul,Int.natAbs_mul,Qo,Qo]at h3;rw[<- h3];exact Qe _ q.den_pos
theorem SmE.whole(h:SmE k Q){i:Nat}(hr:(Q[i]?.getD []).length=m)(j:Nat):(Zaf (Z7 Q) i j).natAbs<=pw (k*m+k):=by
 refine Nat.le_trans (Zq6 (Zgv Q i j)) ?_;rw[Zcx];exact Qh (h.denAt hr) (h i j).1
end
def qM(rs:List RX):List (List Rat):=rs.map λr=>r.es.map FX.q
section
variable{w:World}{A:Option Addr}{n c:Nat}{rs:List RX}
theorem Zvt(h:MXL w A n c rs):(qM rs).length=n:=by unfold qM;rw[Qt];exact h.1
end
section
variable{tF:TypeId}{w w':World}{base:Nat}{part:List Rat}{cs:Array Value}
theorem OwnF.ownBlk{v:Value}(h:OwnF tF w base v part):∀ k,v.ownBlock=some k->∃ cs,Blk w k tF cs/\NoLimb cs/\base<=k:=λk hk=>by
 obtain⟨es,h1,h2,h3⟩:=h;rcases h1 with ⟨rfl,_⟩|⟨g',sp,rfl,h4,h5,h6⟩;cases hk;have:g'=k:=by simpa [Value.ownBlock]using hk
 subst this;exact⟨_,h6,Zca _,h4⟩
theorem OwnF.keptG{v:Value}(h:OwnF tF w base v part){g':Nat}{t':TypeId}(hb:Blk w g' t' cs)(hn:NoLimb cs)(hne:v.ownBlock≠some g')(hk:Kept (λk=>k=g') w w'):OwnF tF w' base v part:=by
 have hG:∀ k,k=g'->∃ t cs,Blk w k t cs/\NoLimb cs:=λk hk=>⟨t',cs,hk▸hb,hn⟩;obtain⟨es,h1,h2,h3⟩:=h;refine⟨es,?_,λe he=>⟨hk.wd (h2 e he).1 hG,hk.wd (h2 e he).2 hG⟩,h3⟩;rcases h1 with h|⟨g2,sp,rfl,h4,h5,h6⟩;exact .inl h;exact .inr ⟨g2,sp,rfl,h4,h5,hk.blk h6 (λe=>hne (by rw[<- e];rfl))⟩
end
theorem RowS.mfl{tS:TypeId}{w:World}{base:Nat}{v:Value}{rs:List RS}{Q:List (List Rat)}(h:RowS tS w base v rs)(hl:rs.length=Q.length)(hF:∀ (i:Nat) (r:RS),rs[i]?=some r->FL w r.A r.n r.c (Q[i]?.getD [])):∃ A c,v=.slice A rs.length c/\MFL w A rs.length c Q:=by
 rcases h with ⟨rfl,rfl⟩|⟨g,sp,rfl,h2,h3,h4⟩;exact⟨none,0,rfl,hl.symm,Qc _,Qq _,λh=>absurd h Gh⟩;refine⟨_,_,rfl,hl.symm,by omega,h3,λ_=>⟨g,0,rfl,λk q hq=>?_⟩⟩;have hk:k<rs.length:=by rw[hl];exact(List.getElem?_eq_some_iff.1 hq).1
 have he:=Qd hk;refine⟨rs[k].A,rs[k].n,rs[k].c,?_,?_⟩
 ·rw[Nat.zero_add,h4.cell]
  exact Zb4 (e:=rs[k]) (by rw[List.getElem?_append_left hk];exact he)
 have:=hF k _ he;rw[hq]at this;exact this
theorem Fr.pos_iff{w:World}{na:Bool}{A:Option Addr}{n c:Nat}{nb:Bool}{B:Option Addr}{m d:Nat}{r:Rat}(h:Fr w na A n c nb B m d r):(na=false/\n≠0) ↔ 0<r:=by
 have h1:=h.1.1;have h2:=h.zero_iff;constructor
 ·rintro⟨h3,h4⟩
  rw[h3]at h1;have h5:¬ r.num<0:=by simpa using h1.symm
  have h6:r.num≠0:=λe=>h4 (h2.2 (Rat.num_eq_zero.1 e));have h7:0<=r.num:=Gk;have h8:0<=r:=Rat.num_nonneg.1 h7;have h9:(0:Rat)≠r:=λe=>h6 (by rw[<- e];rfl);exact Rat.lt_of_le_of_ne h8 h9
 intro h3;have h5:=Rat.num_nonneg.2 (Rat.le_of_lt h3);refine⟨by rw[h1];exact Gu Gk,λe=>?_⟩;have:=h2.1 e;rw[this]at h3;exact absurd h3 Gj
theorem Zjc{rs:List RX}(h:Zg4 rs=0):0<rs.length/\rs.length<=12/\0<n0R rs/\n0R rs<=12/\∀ r ∈ rs,r.n=n0R rs/\Zex r.es=true:=by
 unfold Zg4 at h
 split at h
 exact absurd h Gj;rename_i h1
 split at h
 exact absurd h Gj;rename_i h2
 split at h
 ·rename_i h3
  rw[Qr]at h3
  have hf:∀ r ∈ rs,r.n=n0R rs/\Zex r.es=true:=λr hr=>by
   have:=h3 r hr;unfold Zhf at this;simpa using this
  unfold Zhy at h1;simp only[Bool.or_eq_true,decide_eq_true_eq,not_or,Nat.not_lt,Bool.not_eq_true,List.any_eq_false]at h1;have f:rs ≠ []:=λe=>h2 (by rw[e];rfl);obtain⟨r,hr⟩:=List.exists_mem_of_ne_nil rs f;have h4:¬ 12<r.n:=by have:=h1.2 r hr;unfold RX.long at this;simpa using this
  have h5:=hf r hr;exact⟨List.length_pos_iff.2 f,h1.1,by omega,by omega,hf⟩
 exact absurd h Gj
theorem Zze{es:List FX}(h:Zex es=true):∀ e ∈ es,e.ok=true:=λe he=>by
 unfold Zex at h;rw[Qr]at h;have:=h e he;unfold FX.fine at this;rw[Bool.and_eq_true]at this;exact this.2
section
variable{w:World}{A:Option Addr}{n c:Nat}{rs:List RX}
theorem MXL.good(h:MXL w A n c rs)(hE:Zg4 rs=0):MFL w A n c (qM rs):=h.mfl λr hr=>Zze ((Zjc hE).2.2.2.2 r hr).2
theorem qM_row(h:MXL w A n c rs)(hE:Zg4 rs=0)(i:Nat)(hi:i<n):((qM rs)[i]?.getD []).length=n0R rs:=by
 unfold qM;have he:=Qd (l:=rs) (i:=i) (by rw[h.1];exact hi);rw[Qb,he];simp only[Qu,Qs,Qt];have hm:=List.getElem_mem (l:=rs) (n:=i) (by rw[h.1];exact hi);rw[(h.2.2.2.1 _ hm).1,((Zjc hE).2.2.2.2 _ hm).1]
end
theorem Zx7{rs:List RX}(h:sqE rs=0):Zg4 rs=0/\rs.length=n0R rs:=by
 unfold sqE at h
 split at h
 ·rename_i h1
  split at h
  exact⟨h1,by assumption⟩;exact absurd h Gj
 rename_i h1;exact absurd h h1
structure RZ where
 g:Nat
 q:List Int
def RZ.rs(r:RZ):RS:=⟨some ⟨r.g,0,none⟩,r.q.length,r.q.length⟩
def MatZ(tS tF:TypeId)(w:World)(go:Nat)(L:List RZ):Prop:=
 (∃ zs,Blk w go tS (Z6 (L.map RZ.rs++zs)))/\(∀ r ∈ L,POwn tF w r.g r.q/\r.q.length<=maxLen)/\(go::L.map RZ.g).Nodup
section
variable{tS tF:TypeId}{w w':World}{go:Nat}{L:List RZ}
theorem MatZ.below(h:MatZ tS tF w go L)(hb:Below w.heap.size w w'):MatZ tS tF w' go L:=by
 exact IZ
theorem MatZ.cell(h:MatZ tS tF w go L){i:Nat}{r:RZ}(hr:L[i]?=some r):w.cell? ⟨go,i,none⟩=some (.slice (some ⟨r.g,0,none⟩) r.q.length r.q.length)/\w.frozen? ⟨go,i,none⟩=false:=by
 exact FV
theorem MatZ.row(h:MatZ tS tF w go L){i:Nat}{r:RZ}(hr:L[i]?=some r):POwn tF w r.g r.q/\r.q.length<=maxLen:=h.2.1 r (Qk hr)
theorem MatZ.ne(h:MatZ tS tF w go L){i:Nat}{r:RZ}(hr:L[i]?=some r):go≠r.g:=λe=>by
 exact IP
theorem MatZ.ne2(h:MatZ tS tF w go L){i j:Nat}{r s:RZ}(hr:L[i]?=some r)(hs:L[j]?=some s)(aM:i≠j):r.g≠s.g:=λe=>by
 have hn:=(List.nodup_cons.1 h.2.2).2;have h1:(L.map RZ.g)[i]?=some r.g:=by rw[Qb,hr];rfl
 have h2:(L.map RZ.g)[j]?=some r.g:=by rw[Qb,hs,e];rfl
 exact Ie
theorem MatZ.boxes(h:MatZ tS tF w go L):∀ k,(k=go \/ k ∈ L.map RZ.g)->∃ t cs,Blk w k t cs/\NoLimb cs:=by
 exact FB
theorem MatZ.set_(h:MatZ tS tF w go L){i:Nat}{r:RZ}(hr:L[i]?=some r){k:Nat}(hk:k<r.q.length){na:Bool}{A:Option Addr}{n c:Nat}{x:Int}(hf:Wd w na A n c x) :
    MatZ tS tF ((w.setCell ⟨r.g,k*2,none⟩ (.bool na)).setCell ⟨r.g,k*2+1,none⟩ (.slice A n c)) go (L.set i ⟨r.g,r.q.set k x⟩):=by
 have u:=h.ne hr;have y:=λ{j:Nat} {s:RZ} (hs:L[j]?=some s) (aM:j≠i)=>h.ne2 hs hr aM;have o:=h.row hr;have hi:=(List.getElem?_eq_some_iff.1 hr).1;obtain⟨⟨zs,h1⟩,h2,h3⟩:=h;refine⟨⟨zs,?_⟩,λs hs=>?_,?_⟩
 ·have e:(L.set i ⟨r.g,r.q.set k x⟩).map RZ.rs=L.map RZ.rs:=by
    rw[Qp];apply Qi;intro j;rw[Qj];by_cases aM:i=j
    ·subst aM
     rw[Gx rfl,Gx (by simpa using hi),Qb,hr];simp[RZ.rs]
    rw[Gw aM]
  rw[e];exact(h1.far u _).far u _
 ·obtain⟨j,hj,C⟩:=Qm hs
  have f:(L.set i ⟨r.g,r.q.set k x⟩)[j]?=some s:=by rw[Qd hj,C]
  rw[Qj]at f;by_cases aM:i=j
  ·subst aM
   rw[Gx rfl,Gx hi]at f;cases f;exact⟨o.1.set_ hk hf,by simpa using o.2⟩
  rw[Gw aM]at f;have:=h2 s (Qk f);exact⟨this.1.other o.1 (y f (Ne.symm aM)) _ _ _ _ _,this.2⟩
 have e:(L.set i ⟨r.g,r.q.set k x⟩).map RZ.g=L.map RZ.g:=by
   exact FM
 rw[e];exact h3
theorem MatZ.swap(h:MatZ tS tF w go L){i j:Nat}{r s:RZ}(hr:L[i]?=some r)(hs:L[j]?=some s) :
    MatZ tS tF ((w.setCell ⟨go,i,none⟩ (.slice (some ⟨s.g,0,none⟩) s.q.length s.q.length)).setCell ⟨go,j,none⟩ (.slice (some ⟨r.g,0,none⟩) r.q.length r.q.length)) go (Zag L i j):=by
 have hi:=(List.getElem?_eq_some_iff.1 hr).1;have hj:=(List.getElem?_eq_some_iff.1 hs).1;have y:=λ{j:Nat} {s:RZ} (hs:L[j]?=some s)=>h.ne hs;obtain⟨⟨zs,h1⟩,h2,h3⟩:=h;have o:=h1.set_ i (.slice (some ⟨s.g,0,none⟩) s.q.length s.q.length);have J:NoLimb ((Z6 (L.map RZ.rs++zs)).setIfInBounds i (.slice (some ⟨s.g,0,none⟩) s.q.length s.q.length)):=Zgn (Za9 _) i (λx=>by simp);have O:=o.set_ j (.slice (some ⟨r.g,0,none⟩) r.q.length r.q.length)
 have hk:∀ (A:Option Addr) (n c:Nat) (l:List Nat),Lim w A n c l->Lim ((w.setCell ⟨go,i,none⟩ (.slice (some ⟨s.g,0,none⟩) s.q.length s.q.length)).setCell ⟨go,j,none⟩ (.slice (some ⟨r.g,0,none⟩) r.q.length r.q.length)) A n c l:=
  λA n c l hl=>(hl.set_box h1 (Za9 _) _ _).set_box o J _ _
 refine⟨⟨zs,?_⟩,λx hx=>?_,?_⟩
 ·have e:Z6 ((Zag L i j).map RZ.rs++zs)=((Z6 (L.map RZ.rs++zs)).setIfInBounds i (.slice (some ⟨s.g,0,none⟩) s.q.length s.q.length)).setIfInBounds j (.slice (some ⟨r.g,0,none⟩) r.q.length r.q.length):=by
    have e1:=Zds (es:=L.map RZ.rs++zs) (i:=i) s.rs;have e2:=Zds (es:=(L.map RZ.rs++zs).set i s.rs) (i:=j) r.rs;simp only[RZ.rs]at e1 e2;rw[e1,e2,Z0j hr hs];congr 1;rw[Qp,Qp,Ql _ _ (by simpa using hi),Ql _ _ (by simpa using hj)];rfl
  rw[e];exact O
 ·have f:=Zi8 L i j x hx
  obtain⟨es,q1,q2,q3⟩:=(h2 x f).1;obtain⟨k,I,C⟩:=Qm f;have u:x.g≠go:=Ne.symm (y (j:=k) (s:=x) (by rw[Qd I,C]));exact⟨⟨es,(q1.far u _).far u _,λe he=>⟨hk _ _ _ _ (q2 e he).1,(q2 e he).2⟩,q3⟩,(h2 x f).2⟩
 rw[List.nodup_cons]at h3 ⊢;rw[Zlb];refine⟨λhm=>h3.1 (Zi8 _ _ _ _ hm),Ztt h3.2 (by simpa using hi) (by simpa using hj)⟩
theorem MatZ.keptG{G:Nat->Prop}(h:MatZ tS tF w go L)(hk:Kept G w w')(hg:¬ G go)(hgs:∀ r ∈ L,¬ G r.g)(hG:∀ k,G k->∃ t cs,Blk w k t cs/\NoLimb cs):MatZ tS tF w' go L:=by
 obtain⟨⟨zs,h1⟩,h2,h3⟩:=h;refine⟨⟨zs,hk.blk h1 hg⟩,λr hr=>⟨?_,(h2 r hr).2⟩,h3⟩;obtain⟨es,q1,q2,q3⟩:=(h2 r hr).1;exact⟨es,hk.blk q1 (hgs r hr),λe he=>⟨hk.lim (q2 e he).1 hG,(q2 e he).2⟩,q3⟩
end
def Zaw(L:List RZ)(i:Nat):List Int:=(L[i]?.map RZ.q).getD []
theorem Zht{L:List RZ}{i:Nat}{r:RZ}(h:L[i]?=some r):Zaw L i=r.q:=by unfold Zaw;rw[h];rfl
theorem Zkm(L:List RZ)(i j:Nat):Zaf (L.map RZ.q) i j=(Zaw L i)[j]?.getD 0:=by unfold Zaf Zaw;rw[Qb]
theorem Zkx(L:List RZ)(i:Nat):Zaw L i=(L.map RZ.q)[i]?.getD []:=by unfold Zaw;rw[Qb]
theorem Zxa{L:List RZ}{i j:Nat}{r:RZ}(hi:i<L.length):Zaw (L.set i r) j=if j=i then r.q else Zaw L j:=by
 unfold Zaw;exact Ih
theorem Z0k{L:List RZ}{R:List (List Int)}(hl:L.length=R.length)(h:∀ i,i<R.length->Zaw L i=R[i]?.getD []):L.map RZ.q=R:=by
 apply Qi;intro i;rw[Qb];by_cases hi:i<R.length
 ·have:=h i hi
  unfold Zaw at this;exact FD
 rw[Qf Gk,Qf Gk];rfl
theorem Zt1{R:List (List Int)}{r col i:Nat}{last:Int}(hi:i<R.length):(Zdr R r col last)[i]?.getD []=if i<=r then R[i]?.getD []else Zry (R[r]?.getD []) (R[i]?.getD []) col (Zaf R r col) last:=by
 unfold Zdr;rw[Qb,Qn hi];rfl
theorem rowZ_eq{p row q:List Int}{col:Nat}{piv last:Int}(hl:q.length=row.length)(h:∀ t,q[t]?.getD 0=if t<row.length then Int.fdiv (row[t]?.getD 0*piv-row[col]?.getD 0*p[t]?.getD 0) last else row[t]?.getD 0):q=Zry p row col piv last:=by
 apply Qi;intro t;unfold Zry;rw[Qb];have:=h t;by_cases ht:t<row.length
 ·rw[Qn ht]
  rw[Qd (show t<q.length by omega)]at this ⊢;simp only[Qu,Qs]at this ⊢;rw[this,Gx ht]
 exact IM
theorem Zy7{row q:List Int}{k:Nat}{x:Int}{f:Nat->Int}(hl:q.length=row.length)(hkl:k<row.length)(hx:x=f k)(h:∀ t,q[t]?.getD 0=if t<k then f t else row[t]?.getD 0) :
    ∀ t,(q.set k x)[t]?.getD 0=if t<k+1 then f t else row[t]?.getD 0:=by
 intro t;rw[Qj];by_cases ht:k=t
 ·subst ht
  rw[Gx rfl,Gx Gk,Gx Gk,hx];rfl
 rw[Gw ht,h t];by_cases h1:t<k;rw[Gx h1,Gx Gk];rw[Gw h1,Gw Gk]
theorem IB{G:Prop}(h:G:=by
 exact⟨cC,_,_,_,_,rfl,st.1 _ _ _ _ _ eG.out⟩):G:=h
theorem Zii(na nb:Bool)(A B:Option Addr)(n c m d:Nat)(a b:Int)(w:World)(ha:Wd w na A n c a)(hb:Wd w nb B m d b)(hs:(a*b).natAbs<pw 4096) :
    Calls Tryz.prog 139 #[.agg #[.bool na,.slice A n c],.agg #[.bool nb,.slice B m d]] w (NumW w (a*b)):=by
 obtain⟨W0,u,f,⟨q0,q1,q2⟩,s0⟩:=Zcd w 39 #[.bool na,.slice A n c] 39 #[.bool nb,.slice B m d] 39 #[.bool false,.slice none 0 0];have hA:=ha.below f;have hD:=hb.below f;have hC:=Zb (Zjd na nb A B n c m d a b W0 hA hD);clear ha hb hA hD;obtain⟨a0,a1,-⟩:=q0.two;obtain⟨b0,b1,-⟩:=q1.two;replace q2:=Zb q2;replace hs:=Zb hs;clear q0 q1;go_in;go_wp2_with fail;refine hC.out.mono ?_;rintro e w1 ⟨h,n2,A2,k2,c2,code,rfl,hR⟩;have hN:=hR.small hs.out;have o:=Gs f h;have s1:=h.size;have q3:=Zc h q2.out;clear h a0 a1 b0 b1 u hR hC q2;obtain⟨V,hV,y,qv,kW,kB,sV⟩:=Zs 39 #[.bool n2,.slice A2 k2 c2] o o.size;have q4:=kB _ _ _ q3;have eG:=Zb (kW _ _ _ _ _ hN);clear kW kB hN;obtain⟨v0,v1,v2,v3⟩:=qv.two;obtain⟨r0,r1,r2,r3⟩:=q4.two;go_wp2_with fail;obtain⟨X,hX,cC,q5,st⟩:=Zau n2 A2 k2 c2 y Gk q4;(try rw[hX]);obtain⟨y0,y1,-⟩:=q5.two;refine bodyPost_ret (v:=.agg #[.bool n2,.slice A2 k2 c2]) (by simp[results,Tryz.results139,go_sem,y0,y1]) rfl ?_;exact IB
theorem lsub_ok(na nb:Bool)(A B:Option Addr)(n c m d:Nat)(a b:Int)(w:World)(ha:Wd w na A n c a)(hb:Wd w nb B m d b)(hs:(a-b).natAbs<pw 4096) :
    Calls Tryz.prog 176 #[.agg #[.bool na,.slice A n c],.agg #[.bool nb,.slice B m d]] w (NumW w (a-b)):=by
 obtain⟨W0,u,f,⟨q0,q1,q2⟩,s0⟩:=Zcd w 39 #[.bool na,.slice A n c] 39 #[.bool nb,.slice B m d] 39 #[.bool false,.slice none 0 0];have hA:=ha.below f;have hD:=hb.below f;have hC:=Zb (Zup na nb A B n c m d a b W0 hA hD);clear ha hb hA hD;obtain⟨a0,a1,-⟩:=q0.two;obtain⟨b0,b1,-⟩:=q1.two;replace q2:=Zb q2;replace hs:=Zb hs;clear q0 q1;go_in;go_wp2_with fail;refine hC.out.mono ?_;rintro e w1 ⟨h,n2,A2,k2,c2,code,rfl,hR⟩;have hN:=hR.small hs.out;have o:=Gs f h;have s1:=h.size;have q3:=Zc h q2.out;clear h a0 a1 b0 b1 u hR hC q2;obtain⟨V,hV,y,qv,kW,kB,sV⟩:=Zs 39 #[.bool n2,.slice A2 k2 c2] o o.size;have q4:=kB _ _ _ q3;have eG:=Zb (kW _ _ _ _ _ hN);clear kW kB hN;obtain⟨v0,v1,v2,v3⟩:=qv.two;obtain⟨r0,r1,r2,r3⟩:=q4.two;go_wp2_with fail;obtain⟨X,hX,cC,q5,st⟩:=Zau n2 A2 k2 c2 y Gk q4;(try rw[hX]);obtain⟨y0,y1,-⟩:=q5.two;refine bodyPost_ret (v:=.agg #[.bool n2,.slice A2 k2 c2]) (by simp[results,Tryz.results176,go_sem,y0,y1]) rfl ?_;exact IB
theorem Zp8(na nb:Bool)(A B:Option Addr)(n c m d:Nat)(a b:Int)(w:World)(ha:Wd w na A n c a)(hb:Wd w nb B m d b)(h0:b≠0) :
    Calls Tryz.prog 173 #[.agg #[.bool na,.slice A n c],.agg #[.bool nb,.slice B m d]] w (NumW w (Int.fdiv a b)):=by
 obtain⟨W0,C,h,⟨q0,q1,q2⟩,s0⟩:=Zcd w 39 #[.bool na,.slice A n c] 39 #[.bool nb,.slice B m d] 39 #[.bool false,.slice none 0 0];have hA:=ha.below h;have hD:=hb.below h;have hC:=Zb (Zga na nb A B n c m d a b W0 hA hD h0);clear ha hb hA hD;obtain⟨a0,a1,-⟩:=q0.two;obtain⟨b0,b1,-⟩:=q1.two;replace q2:=Zb q2;replace h0:=Zb h0;clear q0 q1;go_in;go_wp2_with fail;refine hC.out.mono ?_;rintro e w1 ⟨o,n2,A2,k2,c2,n3,A3,k3,c3,rfl,hN,-⟩;have u:=Gs h o;have s1:=o.size;have q3:=Zc o q2.out;clear o a0 a1 b0 b1 C hC q2;obtain⟨V,hV,I,qv,kW,kB,sV⟩:=Zs 39 #[.bool n2,.slice A2 k2 c2] u u.size;have q4:=kB _ _ _ q3;have eG:=kW _ _ _ _ _ hN;clear kW kB hN;obtain⟨V2,f,y,J,kW,kB,O⟩:=Zs 39 #[.bool n3,.slice A3 k3 c3] I Gk;replace q4:=kB _ _ _ q4;replace qv:=kB _ _ _ qv;replace eG:=Zb (kW _ _ _ _ _ eG);clear kW kB;obtain⟨v0,v1,v2,v3⟩:=qv.two;obtain⟨r0,r1,r2,r3⟩:=q4.two;rw[<- hV]at f;rw[<- f]at v0 v1 v2 v3 r0 r1 r2 r3;replace f:=Zb f;clear hV;go_wp2_with fail;(try rw[f.out]);obtain⟨X,hX,cC,q5,st⟩:=Zau n2 A2 k2 c2 y Gk q4;(try rw[hX]);obtain⟨y0,y1,-⟩:=q5.two;refine bodyPost_ret (v:=.agg #[.bool n2,.slice A2 k2 c2]) (by simp[results,Tryz.results173,go_sem,y0,y1]) rfl ?_;exact IB
theorem Zxo(neg:Bool)(A:Option Addr)(n c:Nat)(w:World)(hn:n<=1000000000)(b:Bool)(hb:((n:Int) == 0)=b) :
    Calls Tryz.prog 174 #[.agg #[.bool neg,.slice A n c]] w λe w'=>e=.returned (.bool b)/\Below w.heap.size w w':=by
 go_in;go_wp2_with fail;go_ret;exact⟨rfl,by go_grown⟩
