/- The reference of linear: Check, square. Solving by -/
import Derived.Test.YthappeninglakaaGreatZg11
set_option linter.unusedSimpArgs false
set_option linter.unusedVariables false
namespace Go.Proofs.YthappeninglakaaGreat
open Go.RowKit
open Nat renaming lt_of_le_of_lt→Qa,lt_of_lt_of_le→Qb,le_refl→Qc,le_mul_of_pos_right→Qd,mul_le_mul→Qe,mul_succ→Qg
open List renaming getElem?_eq_none→Qf,all_eq_true→Qi,length_map→Qj
open Int renaming natAbs_natCast→Qh
attribute [local go_sem] Zg
def upS(E X:Nat->Nat->Rat)(i k t:Nat):Rat:=E i k-Zax t (λj=>if i<j then E i j*X j k else 0)
theorem Z0s(E X:Nat->Nat->Rat)(i k t:Nat)(h:t<=i+1):upS E X i k t=E i k:=by
 unfold upS
 have:Zax t (λj=>if i<j then E i j*X j k else 0)=0:=by
  induction t with
  | zero=>rfl
  | succ t ih=>simp only[Zax];rw[ih (by omega),Gw (by omega)];grind
 rw[this];grind
theorem Zyj(E X:Nat->Nat->Rat){i k t:Nat}(h:i<t):upS E X i k (t+1)=upS E X i k t-E i t*X t k:=by
 unfold upS;simp only[Zax];rw[Gx h];grind
def Zg6(E X:Nat->Nat->Rat)(n m:Nat):Prop:=
 (∀ i,i<n->E i i≠0)/\(∀ i k,i<n->n<=k->k<m->X i k=upS E X i k n/E i i)/\(∀ i j,SmN 300 300 (E i j))/\(∀ i k,SmN 300 300 (X i k))/\∀ i k t,SmN 400 400 (upS E X i k t)
def Zjm(X:Nat->Nat->Rat)(n m:Nat):List (List Rat):=(List.range n).map λi=>(List.range (m-n)).map λc=>X i (n+c)
theorem Zw2{E X X':Nat->Nat->Rat}{i k t:Nat}(h:∀ j,i<j->j<t->X j k=X' j k):upS E X i k t=upS E X' i k t:=by
 unfold upS;congr 1;refine Zan λj hj=>?_;by_cases hij:i<j;rw[Gx hij,Gx hij,h j hij hj];rw[Gw hij,Gw hij]
theorem Zxg{E E' X:Nat->Nat->Rat}{i k t:Nat}{c:Rat}(h:∀ j,E' i j=c*E i j):upS E' X i k t=c*upS E X i k t:=by
 unfold upS
 have:Zax t (λj=>if i<j then E' i j*X j k else 0)=c*Zax t (λj=>if i<j then E i j*X j k else 0):=by
  have h1:=Ze8 (n:=t) (λj=>if i<j then E i j*X j k else 0) (λ_=>0) c 0;rw[show c*Zax t (λj=>if i<j then E i j*X j k else 0)=c*Zax t (λj=>if i<j then E i j*X j k else 0)+0*Zax t (λ_=>0) by grind,<- h1];refine Zan λj _=>?_;by_cases hij:i<j;rw[Gx hij,Gx hij,h];grind;rw[Gw hij,Gw hij];grind
 rw[this,h];grind
theorem Zqr{E X:Nat->Nat->Rat}{n i k t:Nat}(hX:∀ j,n<=j->X j k=0)(h:n<=t):upS E X i k t=upS E X i k n:=by
 unfold upS;congr 1
 induction t with
 | zero=>obtain rfl:n=0:=by omega
         rfl
 | succ t ih =>
  by_cases hn:n=t+1;rw[hn]
  ·simp only[Zax]
   rw[ih (by omega)];by_cases hit:i<t;rw[Gx hit,hX t (by omega)];grind;rw[Gw hit];grind
theorem Zni{n:Nat}(E:Nat->Nat->Rat):∀ t,t<=n->∃ X:Nat->Nat->Rat,(∀ i k,n-t<=i->i<n->X i k=upS E X i k n/E i i)/\∀ i k,n<=i->X i k=0
 | 0,_=>⟨λ_ _=>0,λi k h1 h2=>by omega,λ_ _ _=>rfl⟩
 | t+1,ht=>by
  obtain⟨X,h1,h2⟩:=Zni (n:=n) E t (by omega);refine⟨λi k=>if i=n-(t+1)then upS E X i k n/E i i else X i k,λi k hi hn=>?_,λi k hi=>?_⟩
  ·have hc:upS E (λi k=>if i=n-(t+1)then upS E X i k n/E i i else X i k) i k n=upS E X i k n:=Zw2 λj hj hjn=>by
     rw[Gw (by omega)]
   rw[hc];show (if i=n-(t+1)then upS E X i k n/E i i else X i k)=_;by_cases hit:i=n-(t+1);rw[Gx hit];rw[Gw hit];exact h1 i k (by omega) hn
  ·show (if i=n-(t+1)then _ else _)=_
   rw[Gw (by omega)];exact h2 i k hi
theorem Ztj{n:Nat}{E X:Nat->Nat->Rat}{i k:Nat}(hi:i<n)(hlow:∀ j,j<i->E i j=0)(hd:E i i≠0)(hX:X i k=upS E X i k n/E i i):Zax n (λj=>E i j*X j k)=E i k:=by
 have h1:E i i*X i k=upS E X i k n:=by rw[hX];grind
 unfold upS at h1
 have h2:Zax n (λj=>E i j*X j k)=Zax n (λj=>if j=i then E i i*X i k else 0)+Zax n (λj=>if i<j then E i j*X j k else 0):=by
  have:=Ze8 (n:=n) (λj=>if j=i then E i i*X i k else 0) (λj=>if i<j then E i j*X j k else 0) 1 1;rw[show ∀ a b:Rat,a+b=1*a+1*b by intro a b;grind,<- this];refine Zan λj _=>?_;rcases Nat.lt_trichotomy j i with h|h|h;rw[hlow j h,Gw (by omega),Gw (by omega)];grind;subst h;rw[Gx rfl,Gw (Nat.lt_irrefl _)];grind;rw[Gw (by omega),Gx h];grind
 rw[h2,Zhu i hi (λj _ hj=>Gw hj),Gx rfl,h1];grind
def Znu(R:List (List Rat))(m:Nat)(x:Nat->Rat)(i:Nat):Rat:=Zax m (λj=>Zh R i j*x j)
theorem Zkk{n m:Nat}(x:Nat->Rat):∀ (f col r:Nat) (R:List (List Rat)) (neg:Bool),R.length=n->(∀ i,i<n->(R[i]?.getD []).length=m)->r<=n->(∀ i j,r<=i->i<n->j<col->Zh R i j=0) ->
    (∀ i,i<n->Znu (Zbd f col r R neg).1 m x i=0)->∀ i,i<n->Znu R m x i=0
 | 0,col,r,R,neg,_,_,_,_,h=>h
 | f+1,col,r,R,neg,hl,hrow,hr,hlow,h=>by
  unfold Zbd at h;rw[hl]at h;by_cases hrn:r=n;simp only[Gx hrn]at h;exact h
  ·simp only[Gw hrn]at h
   obtain⟨q,hq⟩:∃ q,Zbo (λi=>Zh R i col == 0) n n r=q:=⟨_,rfl⟩;obtain⟨p1,p2,p3,p4⟩:=Zfc (z:=λi=>Zh R i col == 0) (n:=n) (f:=n) (k:=r) (by omega) (by omega);rw[hq]at p1 p2 p3 p4;rw[hq]at h;by_cases hqn:q=n
   ·simp only[Gx hqn]at h
    refine Zkk x f (col+1) r R neg hl hrow hr (λi j h1 h2 h3=>?_) h;by_cases hj:j=col;rw[hj];simpa using p3 i h1 (by omega);exact hlow i j h1 h2 (by omega)
   ·simp only[Gw hqn]at h
    have u:q<n:=by omega
    have U:Zh R q col≠0:=by simpa using p4 u
    have O:(Zai R q r).length=n:=by rw[Zec,hl]
    have y:∀ i,i<(Zai R q r).length->((Zai R q r)[i]?.getD []).length=m:=λi hi=>by
     rw[O]at hi;rw[Zds (by omega) (by omega)];exact hrow _ (Zhr u (by omega) hi)
    have I:∀ i j,Zh (Zai R q r) i j=Zh R (swI q r i) j:=λi j=>Zh9 (by omega) (by omega) i j
    have o:∀ i j,r<=i->i<n->j<col->Zh (Zai R q r) i j=0:=λi j h1 h2 h3=>by
     rw[I];exact hlow _ j (Zqh p1 h1) (Zhr u (by omega) h2) h3
    have V:swI q r r=q:=by unfold swI;split
                           rename_i e;exact e;rw[Gx rfl]
    have Y:Zh (Zai R q r) r col≠0:=by rw[I,V];exact U
    have C:∀ i j,i<n->Zh (Zcv (Zai R q r) r col) i j=if i<=r then Zh (Zai R q r) i j else Zh (Zai R q r) i j-Zh (Zai R q r) i col/Zh (Zai R q r) r col*Zh (Zai R q r) r j:=
     λi j hi=>Zgq (m:=m) y (λj hj=>o r j (Qc _) (by omega) hj) i j (by omega) (by omega)
    have ih:=Zkk x f (col+1) (r+1) (Zcv (Zai R q r) r col) _ (by rw[Zma,O]) (λi hi=>by rw[Zmx i (by omega)];exact y i (by omega)) (by omega) (λi j h1 h2 h3=>by
     rw[C i j h2,Gw (by omega)];by_cases hj:j=col;rw[hj];grind
     ·rw[o i j (by omega) h2 (by omega),o r j (Qc _) (by omega) (by omega)];grind) h
    have J:Znu (Zai R q r) m x r=0:=by
     have:=ih r (by omega);unfold Znu at this ⊢;rw[<- this];refine Zan λj _=>by rw[C r j (by omega),Gx (Qc _)]
    have T:∀ i,i<n->Znu (Zai R q r) m x i=0:=λi hi=>by
     have h1:=ih i hi;by_cases hir:i<=r
     ·unfold Znu at h1 ⊢
      rw[<- h1];exact Zan λj _=>by rw[C i j hi,Gx hir]
     ·unfold Znu at h1 J ⊢
      have h2:=Ze8 (n:=m) (λj=>Zh (Zai R q r) i j*x j) (λj=>Zh (Zai R q r) r j*x j) 1 (-(Zh (Zai R q r) i col/Zh (Zai R q r) r col));rw[J]at h2
      have h3:Zax m (λj=>Zh (Zcv (Zai R q r) r col) i j*x j)=Zax m (λj=>1*(Zh (Zai R q r) i j*x j)+-(Zh (Zai R q r) i col/Zh (Zai R q r) r col)*(Zh (Zai R q r) r j*x j)):=
       Zan λj _=>by rw[C i j hi,Gw hir];grind
      rw[h3,h2]at h1
      grind
    intro i hi;have:=T (swI q r i) (Zhr u (by omega) hi);unfold Znu at this ⊢;rw[<- this];exact Zan λj _=>by rw[I,Zp8]
theorem BndQ.sub{B C:Nat}{p q:Rat}(h:BndQ B p)(k:BndQ C q):BndQ (B+C) (p-q):=by
 obtain⟨a,rfl,ha⟩:=h;obtain⟨b,rfl,hb⟩:=k;exact⟨a-b,by rw[Rat.intCast_sub],by omega⟩
theorem BndQ.zero{B:Nat}:BndQ B 0:=⟨0,rfl,by simp⟩
def SolQ(Q X:Nat->Nat->Rat)(n m:Nat):Prop:=∀ i k,i<n->n<=k->k<m->Zax n (λj=>Q i j*X j k)=Q i k
theorem Zux{n m:Nat}{f:Nat->Rat}{k:Nat}(hk:n<=k)(hm:k<m)(h:∀ j,n<=j->j≠k->f j=0):Zax m f=Zax n f+f k:=by
 induction m with
 | zero=>omega
 | succ m ih =>
  simp only[Zax];by_cases hkm:k=m
  ·subst hkm
   congr 1
   have:∀ t,n+t<=k->Zax (n+t) f=Zax n f:=by
    intro t
    induction t with
    | zero=>intro _;rfl
    | succ t iht=>intro ht;rw[<- Nat.add_assoc];simp only[Zax];rw[iht (by omega),h (n+t) (by omega) (by omega)];grind
   have h1:=this (k-n) (by omega);rw[show n+(k-n)=k by omega]at h1;exact h1
  rw[ih (by omega),h m (by omega) (by omega)];grind
section
variable{B S n m:Nat}
theorem Zut(hB:1<=B)(hS:1<=S)(R:List (List Rat))(hl:R.length=n)(hrow:∀ i,i<n->(R[i]?.getD []).length=m)(hs:∀ i,i<n->denAt R i<=S)(hBd:∀ i j,i<n->(Zah (Z8 R) i j).natAbs<=B)(hnm:n<=m)
    (g1:(n+1)*(Zbn B n*Zbn B n)<pw 400) (g2:Zbn B n*Zbn B n*S<pw 400) (g3:Zbn B n*S<pw 300) :
    okZ (Zbn B n+1) m n 0 0 (Z8 R) 1/\okR (Zbn B n+1) (Zbn B n*S+1) m n 0 0 R /\
    (Zar n 0 0 (Z8 R) false 1).2.1=(Zbd n 0 0 R false).2.1/\(Zbd n 0 0 R false).2.1<=n /\
    ((Zbd n 0 0 R false).2.1<n->Zau n (Zh R)=0) /\
    ((Zbd n 0 0 R false).2.1=n->Zau n (Zh R)≠0/\∃ X:Nat->Nat->Rat,Zg6 (Zh (Zbd n 0 0 R false).1) X n m/\Zg6 (λi j=>(Zah (Zar n 0 0 (Z8 R) false 1).1 i j:Rat)) X n m/\SolQ (Zh R) X n m/\∀ i k,(X i k).num.natAbs<=Zbn B n/\(X i k).den<=Zbn B n):=by
 obtain⟨h1,h2⟩:=Zm9 R hl hrow hs hBd;obtain⟨o1,o2,o3,o4,a6,T,G',s',o5,o6,o7,o8,o9⟩:=Zkq hB hS n 0 0 R _ _ _ _ false 1 h1 h2 (by omega)
 have c5:((byZ R n:Nat):Rat)≠0:=by
  intro h;have:byZ R n=0:=by exact_mod_cast h
  have:=Zvf R n;omega
 have C:=o9 (λb=>b);rw[Ztc (λa b=>Zh R a b) (λa=>((denAt R a:Nat):Rat)),<- Z0a]at C;have c4:sgB false=1:=rfl;rw[c4]at C;have c6:∀ b,sgB b*sgB b=1:=by intro b;cases b <;> simp[sgB] <;> grind
 refine⟨o1,o2,o3,o5.rn,λhr=>?_,λhr=>?_⟩
 ·have hE:=o5.det n (λb=>b) (λa=>a) (λa ha=>ha) (λa _=>rfl) (λa ha=>ha)
  have d3:a6=n:=by omega
  have h0:Zau n (λa b=>s' a*Zh (Zbd n 0 0 R false).1 a b)=0:=by
   rw[Zjy]
   ·refine Zub (k:=n-1) (by omega) ?_
    rw[o5.low (n-1) (n-1) (by omega) (by omega) (by omega)];grind
   ·intro a b ha hb
    by_cases har:a<(Zbd n 0 0 R false).2.1
    ·have:∀ l,l<(Zbd n 0 0 R false).2.1->l<=T l:=by
       intro l
       induction l with
       | zero=>intro _;omega
       | succ l ih=>intro hl;have:=ih (by omega);have:=o5.inc l (l+1) (by omega) hl;omega
     have:=this a har;rw[o5.bef a b har (by omega)];grind
    rw[o5.low a b (by omega) ha (by omega)];grind
  rw[hE]at h0;rw[h0]at C;have:((byZ R n:Nat):Rat)*Zau n (Zh R)=0:=by grind
  rcases Rat.mul_eq_zero.1 this with h|h
  ·exact absurd h c5
  exact h
 ·rw[hr]at o5 o6
  have b2:a6<=n:=by omega
  have V:∀ l,l<n->T l=l:=λl hl=>o5.diag b2 hl;obtain⟨E,o⟩:=Gz (Zh (Zbd n 0 0 R false).1);have Y:∀ i j,i<n->j<i->E i j=0:=λi j hi hj=>by rw[<- o];exact o5.bef i j hi (by rw[V i hi];exact hj)
  have I:∀ i,i<n->E i i≠0:=λi hi=>by have:=o5.piv i hi;rw[V i hi]at this;rw[<- o];exact this
  have y:∀ i j,n<=i->E i j=0:=λi j hi=>by rw[<- o];unfold Zh;rw[Qf (l:=(Zbd n 0 0 R false).1) (by rw[o5.len];exact hi)];rfl
  have c3:∀ i j,i<n->m<=j->E i j=0:=λi j hi hj=>by rw[<- o];exact Zrj o5.row hi hj
  have b1:∀ i,i<n->s' i≠0:=λi hi=>(o5.sB i hi).2
  -- the determinant
  obtain⟨D,hD⟩:∃ D,Zau n (λa b=>G' a b)=D:=⟨_,rfl⟩
  have b6:Zau n (λa b=>s' a*E a b)=D:=by
   have:=o5.det n (λb=>b) (λa=>a) (λa ha=>ha) (λa _=>rfl) (λa ha=>ha);rw[<- hD,<- this,o]
  have U:D≠0:=by
   rw[<- b6,Zjy (λa b ha hb=>by rw[Y a b ha hb];grind)];intro h0
   have hp:∀ t,t<=n->Za7 t (λi=>s' i*E i i)≠0:=by
    intro t
    induction t with
    | zero=>intro _ h;simp only[Za7]at h;revert h;decide
    | succ t ih =>
     intro ht h;simp only[Za7]at h;rcases Rat.mul_eq_zero.1 h with h|h;exact ih (by omega) h
     ·rcases Rat.mul_eq_zero.1 h with h|h
      exact b1 t (by omega) h;exact I t (by omega) h
   exact hp n (Qc _) h0
  have a4:BndQ (Zbn B n) D:=by rw[<- hD];exact Zhj λa b ha hb=>o5.gB a b ha
  obtain⟨X,hX,u⟩:=Zni (n:=n) E n (Qc _);replace hX:∀ i k,i<n->X i k=upS E X i k n/E i i:=λi k hi=>hX i k (by omega) hi;have c1:∀ i k,i<n->Zax n (λj=>E i j*X j k)=E i k:=λi k hi=>Ztj hi (λj hj=>Y i j hi hj) (I i hi) (hX i k hi)
  have c0:∀ i k,i<n->BndQ (Zbn B n) (D*X i k):=λi k hi=>by
   have hc:=Zz5 (λa b=>s' a*E a b) (λj=>X j k) (λa=>s' a*E a k) (λa ha=>by
    have:=Ze8 (n:=n) (λj=>E a j*X j k) (λ_=>0) (s' a) 0;rw[c1 a k ha]at this;rw[show s' a*E a k=s' a*E a k+0*Zax n (λ_=>0) by grind,<- this];exact Zan λj _=>by grind) hi
   rw[b6]at hc;rw[hc];have:=o5.det n (λb=>if b=i then k else b) (λa=>a) (λa ha=>ha) (λa _=>rfl) (λa ha=>ha);rw[o]at this
   rw[<- Za4 (M:=λa b=>s' a*E a (if b=i then k else b)) (λa b _ _=>by
    by_cases hb:b=i;rw[Gx hb,Gx hb]
    ·rw[Gw hb,Gw hb]),this]
   exact Zhj λa b ha hb=>o5.gB a _ ha
  have a8:∀ i k,(X i k).num.natAbs<=Zbn B n/\(X i k).den<=Zbn B n:=λi k=>by
   have a9:1<=Zbn B n:=Zcz (m:=0) hB (by omega);by_cases hi:i<n;exact Ze0 (c0 i k hi) a4 U;rw[u i k (by omega)];exact⟨Nat.zero_le _,a9⟩
  have a9:1<=Zbn B n:=Zcz (m:=0) hB (by omega);have a5:Zbn B n<=Zbn B n*S:=Qd _ hS;obtain⟨P,hP⟩:∃ P:Nat->Rat,P=λi=>Zeu (Zbd n 0 0 R false).1 T s' i*s' i:=⟨_,rfl⟩
  have J:∀ i,i<n->P i≠0:=λi hi h0=>by
   rw[hP]at h0;rcases Rat.mul_eq_zero.1 h0 with h|h;exact o5.piv_ne (l:=i) (by omega) h;exact b1 i hi h
  have b9:∀ i,i<n->BndQ (Zbn B n*S) (P i):=λi hi=>by
   rw[hP];have h5:=o5.pivL_bnd (l:=i) (by omega);have h6:=Zcz hB (show i<=n by omega);exact(h5.mul (o5.sB i hi).1).mono (Qe h6 (Qc _))
  have a3:∀ i j,i<n->BndQ (Zbn B n) (P i*E i j):=λi j hi=>by
   have h5:=o5.minor hi j;rw[show min i n=i by omega,o]at h5;rw[hP];have:Zeu (Zbd n 0 0 R false).1 T s' i*s' i*E i j=Zeu (Zbd n 0 0 R false).1 T s' i*(s' i*E i j):=by grind
   rw[this];exact h5.mono (Zcz hB (by omega))
  have b0:∀ i k t,i<n->t<=n->BndQ ((n+1)*(Zbn B n*Zbn B n)) (P i*D*upS E X i k t):=λi k t hi ht=>by
   have e:P i*D*upS E X i k t=P i*E i k*D-Zax t (λj=>if i<j then (P i*E i j)*(D*X j k)else 0):=by
    unfold upS;have:=Ze8 (n:=t) (λj=>if i<j then E i j*X j k else 0) (λ_=>0) (P i*D) 0
    have h5:Zax t (λj=>if i<j then (P i*E i j)*(D*X j k)else 0)=P i*D*Zax t (λj=>if i<j then E i j*X j k else 0)+0*Zax t (λ_=>0):=by
     rw[<- this];refine Zan λj _=>?_;by_cases hij:i<j;rw[Gx hij,Gx hij];grind;rw[Gw hij,Gw hij];grind
    rw[h5];grind
   rw[e]
   have b7:BndQ (t*(Zbn B n*Zbn B n)) (Zax t (λj=>if i<j then (P i*E i j)*(D*X j k)else 0)):=Zsn λj hj=>by
    by_cases hij:i<j;rw[Gx hij];exact(a3 i j hi).mul (c0 j k (by omega));rw[Gw hij];exact BndQ.zero
   refine(((a3 i k hi).mul a4).sub b7).mono ?_;rw[Nat.add_mul,Nat.one_mul,Nat.add_comm];exact Nat.add_le_add_right (Qe ht (Qc _)) _
  have b5:∀ i,i<n->BndQ (Zbn B n*Zbn B n*S) (P i*D):=λi hi=>by
   refine((b9 i hi).mul a4).mono ?_;rw[Nat.mul_right_comm];exact Qc _
  have b8:∀ i k t,SmN 400 400 (upS E X i k t):=λi k t=>by
   by_cases hi:i<n
   ·rcases Nat.le_total t n with ht|ht
    ·have:=Ze0 (b0 i k t hi ht) (b5 i hi) (λh0=>by
       rcases Rat.mul_eq_zero.1 h0 with h|h;exact J i hi h
       ·exact U h)
     exact⟨Qa this.1 g1,Qa this.2 g2⟩
    ·rw[Zqr (λj hj=>u j k hj) ht]
     have:=Ze0 (b0 i k n hi (Qc _)) (b5 i hi) (λh0=>by
      rcases Rat.mul_eq_zero.1 h0 with h|h;exact J i hi h
      ·exact U h)
     exact⟨Qa this.1 g1,Qa this.2 g2⟩
   ·have:upS E X i k t=0:=by
      unfold upS
      rw[y i k (by omega),Zku (λj _=>by
       by_cases hij:i<j;rw[Gx hij,y i j (by omega)];grind
       ·rw[Gw hij])]
      grind
    rw[this];exact⟨Zb2 _,by show 1<pw 400;exact Qb Zef (Zb4 (by decide))⟩
  have b4:∀ i k,SmN 300 300 (X i k):=λi k=>⟨Qa (a8 i k).1 (Qa a5 g3),Qa (a8 i k).2 (Qa a5 g3)⟩
  have c9:∀ i j,SmN 300 300 (E i j):=λi j=>by
   by_cases hi:i<n
   ·have:=Ze0 (a3 i j hi) (b9 i hi) (J i hi)
    exact⟨Qa this.1 (Qa a5 g3),Qa this.2 g3⟩
   rw[y i j (by omega)];exact⟨Zb2 _,by show 1<pw 300;exact Qb Zef (Zb4 (by decide))⟩
  have a0:∀ i j,i<n->(Zah (Zar n 0 0 (Z8 R) false 1).1 i j:Rat)=P i*E i j:=λi j hi=>by
   rw[o6.ent i j hi,show min i n=i by omega,o,hP];grind
  have O:∀ i j,n<=i->(Zah (Zar n 0 0 (Z8 R) false 1).1 i j:Rat)=0:=λi j hi=>by
   unfold Zah;rw[Qf (l:=(Zar n 0 0 (Z8 R) false 1).1) (by rw[o6.len];exact hi)];rfl
  refine⟨?_,X,?_,?_,?_,a8⟩
  ·intro h0
   rw[hD]at C;rw[h0]at C;have hq:=c6 (Zbd n 0 0 R false).2.2;apply U;have:sgB (Zbd n 0 0 R false).2.2*(sgB (Zbd n 0 0 R false).2.2*D)=0:=by rw[C];grind
   grind
  ·rw[o]
   exact⟨I,λi k hi _ _=>hX i k hi,c9,b4,b8⟩
  ·have b3:∀ i k t,i<n->upS (λi j=>(Zah (Zar n 0 0 (Z8 R) false 1).1 i j:Rat)) X i k t=P i*upS E X i k t:=λi k t hi=>Zxg (E:=E) λj=>a0 i j hi
   refine⟨λi hi=>?_,λi k hi _ _=>?_,λi j=>?_,b4,λi k t=>?_⟩
   ·show (Zah (Zar n 0 0 (Z8 R) false 1).1 i i:Rat)≠0
    rw[a0 i i hi];intro h0;rcases Rat.mul_eq_zero.1 h0 with h|h;exact J i hi h;exact I i hi h
   ·show X i k=upS (λi j=>(Zah (Zar n 0 0 (Z8 R) false 1).1 i j:Rat)) X i k n/(Zah (Zar n 0 0 (Z8 R) false 1).1 i i:Rat)
    rw[b3 i k n hi,a0 i i hi,hX i k hi];have a1:=J i hi;have a2:=I i hi
    grind
   ·by_cases hi:i<n
    ·obtain⟨z,c7,c2⟩:=a3 i j hi
     show SmN 300 300 (Zah (Zar n 0 0 (Z8 R) false 1).1 i j:Rat);rw[a0 i j hi,c7];exact(SmN.int (i:=300) (Qa c2 (Qa a5 g3))).mono (by decide) (by decide)
    ·show SmN 300 300 (Zah (Zar n 0 0 (Z8 R) false 1).1 i j:Rat)
     rw[O i j (by omega)];exact⟨Zb2 _,by show 1<pw 300;exact Qb Zef (Zb4 (by decide))⟩
   ·have key:∀ t,i<n->t<=n->SmN 400 400 (P i*upS E X i k t):=λt hi ht=>by
      have h5:=b0 i k t hi ht;have e:P i*D*upS E X i k t=D*(P i*upS E X i k t):=by grind
      rw[e]at h5;have:=Ze0 h5 a4 U;have d0:Zbn B n<=Zbn B n*Zbn B n*S:=Nat.le_trans (Qd _ a9) (Qd _ hS);exact⟨Qa this.1 g1,Qa this.2 (Qa d0 g2)⟩
    by_cases hi:i<n
    ·rw[b3 i k t hi]
     rcases Nat.le_total t n with ht|ht;exact key t hi ht;rw[Zqr (λj hj=>u j k hj) ht];exact key n hi (Qc _)
    ·have:upS (λi j=>(Zah (Zar n 0 0 (Z8 R) false 1).1 i j:Rat)) X i k t=0:=by
       unfold upS;have hz:∀ j,(Zah (Zar n 0 0 (Z8 R) false 1).1 i j:Rat)=0:=λj=>O i j (by omega);simp only[hz]
       rw[Zku (λj _=>by
        by_cases hij:i<j;rw[Gx hij];grind
        ·rw[Gw hij])]
       grind
     rw[this];exact⟨Zb2 _,by show 1<pw 400;exact Qb Zef (Zb4 (by decide))⟩
  ·intro i k hi hk c8
   have hv:∀ (F:Nat->Rat),Zax m (λj=>F j*(if j<n then X j k else if j=k then -1 else 0))=Zax n (λj=>F j*X j k)-F k:=λF=>by
    have h1:=Zux (n:=n) (m:=m) (f:=λj=>F j*(if j<n then X j k else if j=k then -1 else 0)) (k:=k) hk c8 (λj h1 h2=>by
     show F j*(if j<n then X j k else if j=k then -1 else 0)=0;rw[Gw (show ¬ j<n by omega),Gw h2];grind)
    have h2:Zax n (λj=>F j*(if j<n then X j k else if j=k then -1 else 0))=Zax n (λj=>F j*X j k):=Zan λj hj=>by
     show F j*(if j<n then X j k else if j=k then -1 else 0)=F j*X j k;rw[Gx hj]
    have h3:F k*(if k<n then X k k else if k=k then -1 else 0)=- F k:=by
     rw[Gw (show ¬ k<n by omega),Gx rfl];grind
    rw[h1,h2,h3];grind
   have a7:=Zkk (n:=n) (m:=m) (λj=>if j<n then X j k else if j=k then -1 else 0) n 0 0 R false hl hrow (Nat.zero_le _) (λ_ j _ _ hj=>by omega) (λi hi=>by
    unfold Znu;have h1:=hv (λj=>E i j);rw[o];rw[c1 i k hi]at h1;rw[h1];grind) i hi
   unfold Znu at a7;have h1:=hv (λj=>Zh R i j);rw[a7]at h1
   grind
end
theorem Zno{C C' m:Nat}(hC:C<=C'):∀ (f c r:Nat) (Z:List (List Int)) (la:Int),okZ C m f c r Z la->okZ C' m f c r Z la
 | 0,_,_,_,_,h=>⟨⟨h.1.1,λi j=>Qb (h.1.2 i j) hC⟩,h.2.1,Qb h.2.2 hC⟩
 | f+1,_,_,_,_,h=>⟨⟨h.1.1,λi j=>Qb (h.1.2 i j) hC⟩,⟨h.2.1.1,Qb h.2.1.2 hC⟩,h.2.2.imp id (λ⟨h1,h2⟩=>⟨λe=>Zno hC f _ _ _ _ (h1 e),λe=>Zno hC f _ _ _ _ (h2 e)⟩)⟩
theorem pw_pow(k n:Nat):pw k^n=pw (k*n):=by
 induction n with
 | zero=>rfl
 | succ n ih=>rw[Nat.pow_succ,ih,Qg,Zcs]
theorem le_pw1{n:Nat}(h:n<=900):n<=pw 1:=by rw[Za3,Zem];omega
theorem Zj4{b:Nat}:∀ n,n<=900->Zbn (pw b) n<=pw ((b+1)*n)
 | 0,_=>Qc _
 | n+1,h=>by
  have h1:=Zj4 (b:=b) n (by omega);have h2:(n+1)*(pw b*Zbn (pw b) n)<=pw 1*(pw b*pw ((b+1)*n)):=Qe (le_pw1 h) (Qe (Qc _) h1);rw[<- Zcs,<- Zcs]at h2;rw[show (b+1)*(n+1)=1+(b+(b+1)*n) by rw[Qg];omega];exact h2
def SmE(k:Nat)(Q:List (List Rat)):Prop:=∀ i j,(Zh Q i j).num.natAbs<=pw k/\(Zh Q i j).den<=pw k
section
variable{k n m:Nat}{Q:List (List Rat)}
theorem SmE.denTo(h:SmE k Q)(i t:Nat):denTo (Q[i]?.getD []) t<=pw (k*t):=by
 rw[<- pw_pow];exact Zqy _ (λj=>(h i j).2) t
theorem SmE.denAt(h:SmE k Q){i:Nat}(hr:(Q[i]?.getD []).length=m):denAt Q i<=pw (k*m):=by
 have:=h.denTo i m;unfold Go.Proofs.YthappeninglakaaGreat.denAt;rw[hr];exact this
theorem Zqg{z:Int}{d:Nat}{q:Rat}(h:(z:Rat)=(d:Nat)*q):z.natAbs<=d*q.num.natAbs:=by
 have h1:(z:Rat)*((q.den:Nat):Rat)=((d:Nat):Rat)*((q.num:Int):Rat):=by
  have e0:((q.num:Int):Rat)/((q.den:Nat):Rat)=q:=by have:=Rat.num_divInt_den q;rw[Rat.divInt_eq_div,Rat.intCast_natCast]at this;exact this
  have e1:((q.den:Nat):Rat)≠0:=by
   intro h;have:q.den=0:=by exact_mod_cast h
   have:=q.den_pos;omega
  have e2:((q.num:Int):Rat)=q*((q.den:Nat):Rat):=by
   have:((q.num:Int):Rat)/((q.den:Nat):Rat)*((q.den:Nat):Rat)=((q.num:Int):Rat):=by grind
   rw[e0]at this;exact this.symm
  rw[h,e2];grind
 have h2:z*(q.den:Int)=(d:Int)*q.num:=by exact_mod_cast h1
 have h3:=congrArg Int.natAbs h2;rw[Int.natAbs_mul,Int.natAbs_mul,Qh,Qh]at h3;rw[<- h3];exact Qd _ q.den_pos
theorem SmE.whole(h:SmE k Q){i:Nat}(hr:(Q[i]?.getD []).length=m)(j:Nat):(Zah (Z8 Q) i j).natAbs<=pw (k*m+k):=by
 refine Nat.le_trans (Zqg (Zgo Q i j)) ?_;rw[Zcs];exact Qe (h.denAt hr) (h i j).1
theorem SmE.byZ(h:SmE k Q)(hrow:∀ i,i<n->(Q[i]?.getD []).length=m):∀ t,t<=n->byZ Q t<=pw (k*m*t)
 | 0,_=>Qc _
 | t+1,ht=>by
  have h1:=SmE.byZ h hrow t (by omega);have h2:=h.denAt (hrow t (by omega));rw[Qg,Zcs];exact Qe h1 h2
end
def qM(rs:List RX):List (List Rat):=rs.map λr=>r.es.map FX.q
section
variable{w:World}{A:Option Addr}{n c:Nat}{rs:List RX}
theorem Zus(h:MXL w A n c rs):(qM rs).length=n:=by unfold qM;rw[Qj];exact h.1
end
theorem Zi2{rs:List RX}(h:Zgv rs=0):0<rs.length/\rs.length<=12/\0<n0R rs/\n0R rs<=12/\∀ r ∈ rs,r.n=n0R rs/\Zex r.es=true:=by
 unfold Zgv at h
 split at h
 exact absurd h (by decide)
 ·rename_i h1
  split at h
  exact absurd h (by decide)
  ·rename_i h2
   split at h
   ·rename_i h3
    rw[Qi]at h3
    have hf:∀ r ∈ rs,r.n=n0R rs/\Zex r.es=true:=λr hr=>by
     have:=h3 r hr;unfold Zha at this;simpa using this
    unfold Zhs at h1;simp only[Bool.or_eq_true,decide_eq_true_eq,not_or,Nat.not_lt,Bool.not_eq_true,List.any_eq_false]at h1;have f:rs ≠ []:=λe=>h2 (by rw[e];rfl);obtain⟨r,hr⟩:=List.exists_mem_of_ne_nil rs f;have h4:¬ 12<r.n:=by have:=h1.2 r hr;unfold RX.long at this;simpa using this
    have h5:=hf r hr;exact⟨List.length_pos_iff.2 f,h1.1,by omega,by omega,hf⟩
   exact absurd h (by decide)
theorem Zyg{es:List FX}(h:Zex es=true):∀ e ∈ es,e.ok=true:=λe he=>by
 unfold Zex at h;rw[Qi]at h;have:=h e he;unfold FX.fine at this;rw[Bool.and_eq_true]at this;exact this.2
section
variable{w:World}{A:Option Addr}{n c:Nat}{rs:List RX}
theorem MXL.good(h:MXL w A n c rs)(hE:Zgv rs=0):MFL w A n c (qM rs):=h.mfl λr hr=>Zyg ((Zi2 hE).2.2.2.2 r hr).2
theorem qM_row(h:MXL w A n c rs)(hE:Zgv rs=0)(i:Nat)(hi:i<n):((qM rs)[i]?.getD []).length=n0R rs:=by
 unfold qM;have he:=List.getElem?_eq_getElem (l:=rs) (i:=i) (by rw[h.1];exact hi);rw[List.getElem?_map,he];simp only[Option.map_some,Option.getD_some,Qj];have hm:=List.getElem_mem (l:=rs) (n:=i) (by rw[h.1];exact hi);rw[(h.2.2.2.1 _ hm).1,((Zi2 hE).2.2.2.2 _ hm).1]
end
theorem Zfq(a:Bool)(A:Option Addr)(n c:Nat)(b:Bool)(B:Option Addr)(m d:Nat):NoLimb #[.bool a,.slice A n c,.bool b,.slice B m d]:=λi x=>by
 match i with
 | 0=>simp
 | 1=>simp
 | 2=>simp
 | 3=>simp
 | i+4=>simp
