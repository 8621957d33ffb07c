/- The reference of linear: Check, square. Solving by -/
import Derived.Test.YthappeninglakaaGreatZd11
set_option linter.unusedSimpArgs false
set_option linter.unusedVariables false
namespace Go.Proofs.YthappeninglakaaGreat
open Go.RowKit
open Nat renaming lt_of_le_of_lt→Qa,lt_of_lt_of_le→Qb,le_refl→Qc,le_mul_of_pos_right→Qd,mul_le_mul→Qe
open List renaming getElem?_eq_none→Qf,all_eq_true→Qg,length_map→Qh
attribute [local go_sem] Zh
def upS(E X:Nat->Nat->Rat)(i k t:Nat):Rat:=E i k-Za9 t (λj=>if i<j then E i j*X j k else 0)
theorem Zmx(E X:Nat->Nat->Rat)(i k t:Nat)(h:t<=i+1):upS E X i k t=E i k:=by
 unfold upS
 have:Za9 t (λj=>if i<j then E i j*X j k else 0)=0:=by
  induction t with
  | zero=>rfl
  | succ t ih=>simp only[Za9];rw[ih (by omega),if_neg (by omega)];grind
 rw[this];grind
theorem Zlh(E X:Nat->Nat->Rat){i k t:Nat}(h:i<t):upS E X i k (t+1)=upS E X i k t-E i t*X t k:=by
 unfold upS;simp only[Za9];rw[if_pos h];grind
def Ze1(E X:Nat->Nat->Rat)(n m:Nat):Prop:=
 (∀ i,i<n->E i i≠0)/\(∀ i k,i<n->n<=k->k<m->X i k=upS E X i k n/E i i)/\(∀ i j,SmN 300 300 (E i j))/\(∀ i k,SmN 300 300 (X i k))/\∀ i k t,SmN 400 400 (upS E X i k t)
def Zdz(X:Nat->Nat->Rat)(n m:Nat):List (List Rat):=(List.range n).map λi=>(List.range (m-n)).map λc=>X i (n+c)
theorem Zve{E X X':Nat->Nat->Rat}{i k t:Nat}(h:∀ j,i<j->j<t->X j k=X' j k):upS E X i k t=upS E X' i k t:=by
 unfold upS;congr 1;refine Zar λj hj=>?_;by_cases hij:i<j;rw[if_pos hij,if_pos hij,h j hij hj];rw[if_neg hij,if_neg hij]
theorem Zvp{E E' X:Nat->Nat->Rat}{i k t:Nat}{c:Rat}(h:∀ j,E' i j=c*E i j):upS E' X i k t=c*upS E X i k t:=by
 unfold upS
 have:Za9 t (λj=>if i<j then E' i j*X j k else 0)=c*Za9 t (λj=>if i<j then E i j*X j k else 0):=by
  have h1:=Ze3 (n:=t) (λj=>if i<j then E i j*X j k else 0) (λ_=>0) c 0;rw[show c*Za9 t (λj=>if i<j then E i j*X j k else 0)=c*Za9 t (λj=>if i<j then E i j*X j k else 0)+0*Za9 t (λ_=>0) by grind,<- h1];refine Zar λj _=>?_;by_cases hij:i<j;rw[if_pos hij,if_pos hij,h];grind;rw[if_neg hij,if_neg hij];grind
 rw[this,h];grind
theorem Zps{E X:Nat->Nat->Rat}{n i k t:Nat}(hX:∀ j,n<=j->X j k=0)(h:n<=t):upS E X i k t=upS E X i k n:=by
 unfold upS;congr 1
 induction t with
 | zero=>obtain rfl:n=0:=by omega
         rfl
 | succ t ih =>
  by_cases hn:n=t+1;rw[hn]
  ·simp only[Za9]
   rw[ih (by omega)];by_cases hit:i<t;rw[if_pos hit,hX t (by omega)];grind;rw[if_neg hit];grind
theorem Zm0{n:Nat}(E:Nat->Nat->Rat):∀ t,t<=n->∃ X:Nat->Nat->Rat,(∀ i k,n-t<=i->i<n->X i k=upS E X i k n/E i i)/\∀ i k,n<=i->X i k=0
 | 0,_=>⟨λ_ _=>0,λi k h1 h2=>by omega,λ_ _ _=>rfl⟩
 | t+1,ht=>by
  obtain⟨X,h1,h2⟩:=Zm0 (n:=n) E t (by omega);refine⟨λi k=>if i=n-(t+1)then upS E X i k n/E i i else X i k,λi k hi hn=>?_,λi k hi=>?_⟩
  ·have hc:upS E (λi k=>if i=n-(t+1)then upS E X i k n/E i i else X i k) i k n=upS E X i k n:=Zve λj hj hjn=>by
     rw[if_neg (by omega)]
   rw[hc];show (if i=n-(t+1)then upS E X i k n/E i i else X i k)=_;by_cases hit:i=n-(t+1);rw[if_pos hit];rw[if_neg hit];exact h1 i k (by omega) hn
  ·show (if i=n-(t+1)then _ else _)=_
   rw[if_neg (by omega)];exact h2 i k hi
theorem Zsa{n:Nat}{E X:Nat->Nat->Rat}{i k:Nat}(hi:i<n)(hlow:∀ j,j<i->E i j=0)(hd:E i i≠0)(hX:X i k=upS E X i k n/E i i):Za9 n (λj=>E i j*X j k)=E i k:=by
 have h1:E i i*X i k=upS E X i k n:=by rw[hX];grind
 unfold upS at h1
 have h2:Za9 n (λj=>E i j*X j k)=Za9 n (λj=>if j=i then E i i*X i k else 0)+Za9 n (λj=>if i<j then E i j*X j k else 0):=by
  have:=Ze3 (n:=n) (λj=>if j=i then E i i*X i k else 0) (λj=>if i<j then E i j*X j k else 0) 1 1;rw[show ∀ a b:Rat,a+b=1*a+1*b by intro a b;grind,<- this];refine Zar λj _=>?_;rcases Nat.lt_trichotomy j i with h|h|h;rw[hlow j h,if_neg (by omega),if_neg (by omega)];grind;subst h;rw[if_pos rfl,if_neg (Nat.lt_irrefl _)];grind;rw[if_neg (by omega),if_pos h];grind
 rw[h2,Zhp i hi (λj _ hj=>if_neg hj),if_pos rfl,h1];grind
def Znb(R:List (List Rat))(m:Nat)(x:Nat->Rat)(i:Nat):Rat:=Za9 m (λj=>Zl R i j*x j)
theorem Zj4{n m:Nat}(x:Nat->Rat):∀ (f col r:Nat) (R:List (List Rat)) (neg:Bool),R.length=n->(∀ i,i<n->(R[i]?.getD []).length=m)->r<=n->(∀ i j,r<=i->i<n->j<col->Zl R i j=0) ->
    (∀ i,i<n->Znb (Z7 f col r R neg).1 m x i=0)->∀ i,i<n->Znb R m x i=0
 | 0,col,r,R,neg,_,_,_,_,h=>h
 | f+1,col,r,R,neg,hl,hrow,hr,hlow,h=>by
  unfold Z7 at h;rw[hl]at h;by_cases hrn:r=n;simp only[if_pos hrn]at h;exact h
  ·simp only[if_neg hrn]at h
   obtain⟨q,hq⟩:∃ q,Za0 (λi=>Zl R i col == 0) n n r=q:=⟨_,rfl⟩;obtain⟨p1,p2,p3,p4⟩:=Zfb (z:=λi=>Zl R i col == 0) (n:=n) (f:=n) (k:=r) (by omega) (by omega);rw[hq]at p1 p2 p3 p4;rw[hq]at h;by_cases hqn:q=n
   ·simp only[if_pos hqn]at h
    refine Zj4 x f (col+1) r R neg hl hrow hr (λi j h1 h2 h3=>?_) h;by_cases hj:j=col;rw[hj];simpa using p3 i h1 (by omega);exact hlow i j h1 h2 (by omega)
   ·simp only[if_neg hqn]at h
    have u:q<n:=by omega
    have U:Zl R q col≠0:=by simpa using p4 u
    have O:(Zy R q r).length=n:=by rw[Zdm,hl]
    have y:∀ i,i<(Zy R q r).length->((Zy R q r)[i]?.getD []).length=m:=λi hi=>by
     rw[O]at hi;rw[Zdo (by omega) (by omega)];exact hrow _ (Zhl u (by omega) hi)
    have I:∀ i j,Zl (Zy R q r) i j=Zl R (swI q r i) j:=λi j=>Zew (by omega) (by omega) i j
    have o:∀ i j,r<=i->i<n->j<col->Zl (Zy R q r) i j=0:=λi j h1 h2 h3=>by
     rw[I];exact hlow _ j (Zpo p1 h1) (Zhl u (by omega) h2) h3
    have T:swI q r r=q:=by unfold swI;split
                           rename_i e;exact e;rw[if_pos rfl]
    have Y:Zl (Zy R q r) r col≠0:=by rw[I,T];exact U
    have C:∀ i j,i<n->Zl (Za3 (Zy R q r) r col) i j=if i<=r then Zl (Zy R q r) i j else Zl (Zy R q r) i j-Zl (Zy R q r) i col/Zl (Zy R q r) r col*Zl (Zy R q r) r j:=
     λi j hi=>Zgl (m:=m) y (λj hj=>o r j (Qc _) (by omega) hj) i j (by omega) (by omega)
    have ih:=Zj4 x f (col+1) (r+1) (Za3 (Zy R q r) r col) _ (by rw[Ze6,O]) (λi hi=>by rw[Zme i (by omega)];exact y i (by omega)) (by omega) (λi j h1 h2 h3=>by
     rw[C i j h2,if_neg (by omega)];by_cases hj:j=col;rw[hj];grind
     ·rw[o i j (by omega) h2 (by omega),o r j (Qc _) (by omega) (by omega)];grind) h
    have J:Znb (Zy R q r) m x r=0:=by
     have:=ih r (by omega);unfold Znb at this ⊢;rw[<- this];refine Zar λj _=>by rw[C r j (by omega),if_pos (Qc _)]
    have V:∀ i,i<n->Znb (Zy R q r) m x i=0:=λi hi=>by
     have h1:=ih i hi;by_cases hir:i<=r
     ·unfold Znb at h1 ⊢
      rw[<- h1];exact Zar λj _=>by rw[C i j hi,if_pos hir]
     ·unfold Znb at h1 J ⊢
      have h2:=Ze3 (n:=m) (λj=>Zl (Zy R q r) i j*x j) (λj=>Zl (Zy R q r) r j*x j) 1 (-(Zl (Zy R q r) i col/Zl (Zy R q r) r col));rw[J]at h2
      have h3:Za9 m (λj=>Zl (Za3 (Zy R q r) r col) i j*x j)=Za9 m (λj=>1*(Zl (Zy R q r) i j*x j)+-(Zl (Zy R q r) i col/Zl (Zy R q r) r col)*(Zl (Zy R q r) r j*x j)):=
       Zar λj _=>by rw[C i j hi,if_neg hir];grind
      rw[h3,h2]at h1
      grind
    intro i hi;have:=V (swI q r i) (Zhl u (by omega) hi);unfold Znb at this ⊢;rw[<- this];exact Zar λj _=>by rw[I,Zpe]
theorem BndQ.sub{B C:Nat}{p q:Rat}(h:BndQ B p)(k:BndQ C q):BndQ (B+C) (p-q):=by
 obtain⟨a,rfl,ha⟩:=h;obtain⟨b,rfl,hb⟩:=k;exact⟨a-b,by rw[Rat.intCast_sub],by omega⟩
theorem BndQ.zero{B:Nat}:BndQ B 0:=⟨0,rfl,by simp⟩
def SolQ(Q X:Nat->Nat->Rat)(n m:Nat):Prop:=∀ i k,i<n->n<=k->k<m->Za9 n (λj=>Q i j*X j k)=Q i k
theorem Ztt{n m:Nat}{f:Nat->Rat}{k:Nat}(hk:n<=k)(hm:k<m)(h:∀ j,n<=j->j≠k->f j=0):Za9 m f=Za9 n f+f k:=by
 induction m with
 | zero=>omega
 | succ m ih =>
  simp only[Za9];by_cases hkm:k=m
  ·subst hkm
   congr 1
   have:∀ t,n+t<=k->Za9 (n+t) f=Za9 n f:=by
    intro t
    induction t with
    | zero=>intro _;rfl
    | succ t iht=>intro ht;rw[<- Nat.add_assoc];simp only[Za9];rw[iht (by omega),h (n+t) (by omega) (by omega)];grind
   have h1:=this (k-n) (by omega);rw[show n+(k-n)=k by omega]at h1;exact h1
  rw[ih (by omega),h m (by omega) (by omega)];grind
section
variable{B S n m:Nat}
theorem Zth(hB:1<=B)(hS:1<=S)(R:List (List Rat))(hl:R.length=n)(hrow:∀ i,i<n->(R[i]?.getD []).length=m)(hs:∀ i,i<n->Zc8 R i<=S)(hBd:∀ i j,i<n->(Zae (Z6 R) i j).natAbs<=B)(hnm:n<=m)
    (g1:(n+1)*(Zbf B n*Zbf B n)<pw 400) (g2:Zbf B n*Zbf B n*S<pw 400) (g3:Zbf B n*S<pw 300) :
    okZ (Zbf B n+1) m n 0 0 (Z6 R) 1/\okR (Zbf B n+1) (Zbf B n*S+1) m n 0 0 R /\
    (Zan n 0 0 (Z6 R) false 1).2.1=(Z7 n 0 0 R false).2.1/\(Z7 n 0 0 R false).2.1<=n /\
    ((Z7 n 0 0 R false).2.1<n->Zao n (Zl R)=0) /\
    ((Z7 n 0 0 R false).2.1=n->Zao n (Zl R)≠0/\∃ X:Nat->Nat->Rat,Ze1 (Zl (Z7 n 0 0 R false).1) X n m/\Ze1 (λi j=>(Zae (Zan n 0 0 (Z6 R) false 1).1 i j:Rat)) X n m/\SolQ (Zl R) X n m/\∀ i k,(X i k).num.natAbs<=Zbf B n/\(X i k).den<=Zbf B n):=by
 obtain⟨h1,h2⟩:=Zs7 R hl hrow hs hBd;obtain⟨o1,o2,o3,o4,a6,O,G',s',o5,o6,o7,o8,o9⟩:=Zkb hB hS n 0 0 R _ _ _ _ false 1 h1 h2 (by omega)
 have c7:((byZ R n:Nat):Rat)≠0:=by
  intro h;have:byZ R n=0:=by exact_mod_cast h
  have:=byZ_pos R n;omega
 have C:=o9 (λb=>b);rw[Zr2 (λa b=>Zl R a b) (λa=>((Zc8 R a:Nat):Rat)),<- Zx8]at C;have c6:sgB false=1:=rfl;rw[c6]at C;have c8:∀ b,sgB b*sgB b=1:=by intro b;cases b <;> simp[sgB] <;> grind
 refine⟨o1,o2,o3,o5.rn,λhr=>?_,λhr=>?_⟩
 ·have hE:=o5.det n (λb=>b) (λa=>a) (λa ha=>ha) (λa _=>rfl) (λa ha=>ha)
  have d3:a6=n:=by omega
  have h0:Zao n (λa b=>s' a*Zl (Z7 n 0 0 R false).1 a b)=0:=by
   rw[Zjh]
   ·refine Zs3 (k:=n-1) (by omega) ?_
    rw[o5.low (n-1) (n-1) (by omega) (by omega) (by omega)];grind
   ·intro a b ha hb
    by_cases har:a<(Z7 n 0 0 R false).2.1
    ·have:∀ l,l<(Z7 n 0 0 R false).2.1->l<=O l:=by
       intro l
       induction l with
       | zero=>intro _;omega
       | succ l ih=>intro hl;have:=ih (by omega);have:=o5.inc l (l+1) (by omega) hl;omega
     have:=this a har;rw[o5.bef a b har (by omega)];grind
    rw[o5.low a b (by omega) ha (by omega)];grind
  rw[hE]at h0;rw[h0]at C;have:((byZ R n:Nat):Rat)*Zao n (Zl R)=0:=by grind
  rcases Rat.mul_eq_zero.1 this with h|h
  ·exact absurd h c7
  exact h
 ·rw[hr]at o5 o6
  have b9:a6<=n:=by omega
  have U:∀ l,l<n->O l=l:=λl hl=>o5.diag b9 hl;obtain⟨E,o⟩:∃ E,Zl (Z7 n 0 0 R false).1=E:=⟨_,rfl⟩;have I:∀ i j,i<n->j<i->E i j=0:=λi j hi hj=>by rw[<- o];exact o5.bef i j hi (by rw[U i hi];exact hj)
  have T:∀ i,i<n->E i i≠0:=λi hi=>by have:=o5.piv i hi;rw[U i hi]at this;rw[<- o];exact this
  have u:∀ i j,n<=i->E i j=0:=λi j hi=>by rw[<- o];unfold Zl;rw[Qf (l:=(Z7 n 0 0 R false).1) (by rw[o5.len];exact hi)];rfl
  have c3:∀ i j,i<n->m<=j->E i j=0:=λi j hi hj=>by rw[<- o];exact Zqj o5.row hi hj
  have c1:∀ i,i<n->s' i≠0:=λi hi=>(o5.sB i hi).2
  -- the determinant
  obtain⟨D,hD⟩:∃ D,Zao n (λa b=>G' a b)=D:=⟨_,rfl⟩
  have b2:Zao n (λa b=>s' a*E a b)=D:=by
   have:=o5.det n (λb=>b) (λa=>a) (λa ha=>ha) (λa _=>rfl) (λa ha=>ha);rw[<- hD,<- this,o]
  have Y:D≠0:=by
   rw[<- b2,Zjh (λa b ha hb=>by rw[I a b ha hb];grind)];intro h0
   have hp:∀ t,t<=n->Za2 t (λi=>s' i*E i i)≠0:=by
    intro t
    induction t with
    | zero=>intro _ h;simp only[Za2]at h;revert h;decide
    | succ t ih =>
     intro ht h;simp only[Za2]at h;rcases Rat.mul_eq_zero.1 h with h|h;exact ih (by omega) h
     ·rcases Rat.mul_eq_zero.1 h with h|h
      exact c1 t (by omega) h;exact T t (by omega) h
   exact hp n (Qc _) h0
  have a5:BndQ (Zbf B n) D:=by rw[<- hD];exact Zg9 λa b ha hb=>o5.gB a b ha
  obtain⟨X,hX,y⟩:=Zm0 (n:=n) E n (Qc _);replace hX:∀ i k,i<n->X i k=upS E X i k n/E i i:=λi k hi=>hX i k (by omega) hi;have b3:∀ i k,i<n->Za9 n (λj=>E i j*X j k)=E i k:=λi k hi=>Zsa hi (λj hj=>I i j hi hj) (T i hi) (hX i k hi)
  have b4:∀ i k,i<n->BndQ (Zbf B n) (D*X i k):=λi k hi=>by
   have hc:=Zx6 (λa b=>s' a*E a b) (λj=>X j k) (λa=>s' a*E a k) (λa ha=>by
    have:=Ze3 (n:=n) (λj=>E a j*X j k) (λ_=>0) (s' a) 0;rw[b3 a k ha]at this;rw[show s' a*E a k=s' a*E a k+0*Za9 n (λ_=>0) by grind,<- this];exact Zar λj _=>by grind) hi
   rw[b2]at hc;rw[hc];have:=o5.det n (λb=>if b=i then k else b) (λa=>a) (λa ha=>ha) (λa _=>rfl) (λa ha=>ha);rw[o]at this
   rw[<- Za7 (M:=λa b=>s' a*E a (if b=i then k else b)) (λa b _ _=>by
    by_cases hb:b=i;rw[if_pos hb,if_pos hb]
    ·rw[if_neg hb,if_neg hb]),this]
   exact Zg9 λa b ha hb=>o5.gB a _ ha
  have a8:∀ i k,(X i k).num.natAbs<=Zbf B n/\(X i k).den<=Zbf B n:=λi k=>by
   have a9:1<=Zbf B n:=Zcs (m:=0) hB (by omega);by_cases hi:i<n;exact Zfn (b4 i k hi) a5 Y;rw[y i k (by omega)];exact⟨Nat.zero_le _,a9⟩
  have a9:1<=Zbf B n:=Zcs (m:=0) hB (by omega);have a0:Zbf B n<=Zbf B n*S:=Qd _ hS;obtain⟨P,hP⟩:∃ P:Nat->Rat,P=λi=>Zei (Z7 n 0 0 R false).1 O s' i*s' i:=⟨_,rfl⟩
  have V:∀ i,i<n->P i≠0:=λi hi h0=>by
   rw[hP]at h0;rcases Rat.mul_eq_zero.1 h0 with h|h;exact o5.piv_ne (l:=i) (by omega) h;exact c1 i hi h
  have b7:∀ i,i<n->BndQ (Zbf B n*S) (P i):=λi hi=>by
   rw[hP];have h5:=o5.pivL_bnd (l:=i) (by omega);have h6:=Zcs hB (show i<=n by omega);exact(h5.mul (o5.sB i hi).1).mono (Qe h6 (Qc _))
  have a4:∀ i j,i<n->BndQ (Zbf B n) (P i*E i j):=λi j hi=>by
   have h5:=o5.minor hi j;rw[show min i n=i by omega,o]at h5;rw[hP];have:Zei (Z7 n 0 0 R false).1 O s' i*s' i*E i j=Zei (Z7 n 0 0 R false).1 O s' i*(s' i*E i j):=by grind
   rw[this];exact h5.mono (Zcs hB (by omega))
  have b0:∀ i k t,i<n->t<=n->BndQ ((n+1)*(Zbf B n*Zbf B n)) (P i*D*upS E X i k t):=λi k t hi ht=>by
   have e:P i*D*upS E X i k t=P i*E i k*D-Za9 t (λj=>if i<j then (P i*E i j)*(D*X j k)else 0):=by
    unfold upS;have:=Ze3 (n:=t) (λj=>if i<j then E i j*X j k else 0) (λ_=>0) (P i*D) 0
    have h5:Za9 t (λj=>if i<j then (P i*E i j)*(D*X j k)else 0)=P i*D*Za9 t (λj=>if i<j then E i j*X j k else 0)+0*Za9 t (λ_=>0):=by
     rw[<- this];refine Zar λj _=>?_;by_cases hij:i<j;rw[if_pos hij,if_pos hij];grind;rw[if_neg hij,if_neg hij];grind
    rw[h5];grind
   rw[e]
   have b5:BndQ (t*(Zbf B n*Zbf B n)) (Za9 t (λj=>if i<j then (P i*E i j)*(D*X j k)else 0)):=Zrm λj hj=>by
    by_cases hij:i<j;rw[if_pos hij];exact(a4 i j hi).mul (b4 j k (by omega));rw[if_neg hij];exact BndQ.zero
   refine(((a4 i k hi).mul a5).sub b5).mono ?_;rw[Nat.add_mul,Nat.one_mul,Nat.add_comm];exact Nat.add_le_add_right (Qe ht (Qc _)) _
  have c0:∀ i,i<n->BndQ (Zbf B n*Zbf B n*S) (P i*D):=λi hi=>by
   refine((b7 i hi).mul a5).mono ?_;rw[Nat.mul_right_comm];exact Qc _
  have b1:∀ i k t,SmN 400 400 (upS E X i k t):=λi k t=>by
   by_cases hi:i<n
   ·rcases Nat.le_total t n with ht|ht
    ·have:=Zfn (b0 i k t hi ht) (c0 i hi) (λh0=>by
       rcases Rat.mul_eq_zero.1 h0 with h|h;exact V i hi h
       ·exact Y h)
     exact⟨Qa this.1 g1,Qa this.2 g2⟩
    ·rw[Zps (λj hj=>y j k hj) ht]
     have:=Zfn (b0 i k n hi (Qc _)) (c0 i hi) (λh0=>by
      rcases Rat.mul_eq_zero.1 h0 with h|h;exact V i hi h
      ·exact Y h)
     exact⟨Qa this.1 g1,Qa this.2 g2⟩
   ·have:upS E X i k t=0:=by
      unfold upS
      rw[u i k (by omega),Zkg (λj _=>by
       by_cases hij:i<j;rw[if_pos hij,u i j (by omega)];grind
       ·rw[if_neg hij])]
      grind
    rw[this];exact⟨Zc2 _,by show 1<pw 400;exact Qb Zd7 (Zcn (by decide))⟩
  have b8:∀ i k,SmN 300 300 (X i k):=λi k=>⟨Qa (a8 i k).1 (Qa a0 g3),Qa (a8 i k).2 (Qa a0 g3)⟩
  have c9:∀ i j,SmN 300 300 (E i j):=λi j=>by
   by_cases hi:i<n
   ·have:=Zfn (a4 i j hi) (b7 i hi) (V i hi)
    exact⟨Qa this.1 (Qa a0 g3),Qa this.2 g3⟩
   rw[u i j (by omega)];exact⟨Zc2 _,by show 1<pw 300;exact Qb Zd7 (Zcn (by decide))⟩
  have a3:∀ i j,i<n->(Zae (Zan n 0 0 (Z6 R) false 1).1 i j:Rat)=P i*E i j:=λi j hi=>by
   rw[o6.ent i j hi,show min i n=i by omega,o,hP];grind
  have J:∀ i j,n<=i->(Zae (Zan n 0 0 (Z6 R) false 1).1 i j:Rat)=0:=λi j hi=>by
   unfold Zae;rw[Qf (l:=(Zan n 0 0 (Z6 R) false 1).1) (by rw[o6.len];exact hi)];rfl
  refine⟨?_,X,?_,?_,?_,a8⟩
  ·intro h0
   rw[hD]at C;rw[h0]at C;have hq:=c8 (Z7 n 0 0 R false).2.2;apply Y;have:sgB (Z7 n 0 0 R false).2.2*(sgB (Z7 n 0 0 R false).2.2*D)=0:=by rw[C];grind
   grind
  ·rw[o]
   exact⟨T,λi k hi _ _=>hX i k hi,c9,b8,b1⟩
  ·have b6:∀ i k t,i<n->upS (λi j=>(Zae (Zan n 0 0 (Z6 R) false 1).1 i j:Rat)) X i k t=P i*upS E X i k t:=λi k t hi=>Zvp (E:=E) λj=>a3 i j hi
   refine⟨λi hi=>?_,λi k hi _ _=>?_,λi j=>?_,b8,λi k t=>?_⟩
   ·show (Zae (Zan n 0 0 (Z6 R) false 1).1 i i:Rat)≠0
    rw[a3 i i hi];intro h0;rcases Rat.mul_eq_zero.1 h0 with h|h;exact V i hi h;exact T i hi h
   ·show X i k=upS (λi j=>(Zae (Zan n 0 0 (Z6 R) false 1).1 i j:Rat)) X i k n/(Zae (Zan n 0 0 (Z6 R) false 1).1 i i:Rat)
    rw[b6 i k n hi,a3 i i hi,hX i k hi];have a1:=V i hi;have a2:=T i hi
    grind
   ·by_cases hi:i<n
    ·obtain⟨z,c5,c2⟩:=a4 i j hi
     show SmN 300 300 (Zae (Zan n 0 0 (Z6 R) false 1).1 i j:Rat);rw[a3 i j hi,c5];exact(SmN.int (i:=300) (Qa c2 (Qa a0 g3))).mono (by decide) (by decide)
    ·show SmN 300 300 (Zae (Zan n 0 0 (Z6 R) false 1).1 i j:Rat)
     rw[J i j (by omega)];exact⟨Zc2 _,by show 1<pw 300;exact Qb Zd7 (Zcn (by decide))⟩
   ·have key:∀ t,i<n->t<=n->SmN 400 400 (P i*upS E X i k t):=λt hi ht=>by
      have h5:=b0 i k t hi ht;have e:P i*D*upS E X i k t=D*(P i*upS E X i k t):=by grind
      rw[e]at h5;have:=Zfn h5 a5 Y;have d0:Zbf B n<=Zbf B n*Zbf B n*S:=Nat.le_trans (Qd _ a9) (Qd _ hS);exact⟨Qa this.1 g1,Qa this.2 (Qa d0 g2)⟩
    by_cases hi:i<n
    ·rw[b6 i k t hi]
     rcases Nat.le_total t n with ht|ht;exact key t hi ht;rw[Zps (λj hj=>y j k hj) ht];exact key n hi (Qc _)
    ·have:upS (λi j=>(Zae (Zan n 0 0 (Z6 R) false 1).1 i j:Rat)) X i k t=0:=by
       unfold upS;have hz:∀ j,(Zae (Zan n 0 0 (Z6 R) false 1).1 i j:Rat)=0:=λj=>J i j (by omega);simp only[hz]
       rw[Zkg (λj _=>by
        by_cases hij:i<j;rw[if_pos hij];grind
        ·rw[if_neg hij])]
       grind
     rw[this];exact⟨Zc2 _,by show 1<pw 400;exact Qb Zd7 (Zcn (by decide))⟩
  ·intro i k hi hk c4
   have hv:∀ (F:Nat->Rat),Za9 m (λj=>F j*(if j<n then X j k else if j=k then -1 else 0))=Za9 n (λj=>F j*X j k)-F k:=λF=>by
    have h1:=Ztt (n:=n) (m:=m) (f:=λj=>F j*(if j<n then X j k else if j=k then -1 else 0)) (k:=k) hk c4 (λj h1 h2=>by
     show F j*(if j<n then X j k else if j=k then -1 else 0)=0;rw[if_neg (show ¬ j<n by omega),if_neg h2];grind)
    have h2:Za9 n (λj=>F j*(if j<n then X j k else if j=k then -1 else 0))=Za9 n (λj=>F j*X j k):=Zar λj hj=>by
     show F j*(if j<n then X j k else if j=k then -1 else 0)=F j*X j k;rw[if_pos hj]
    have h3:F k*(if k<n then X k k else if k=k then -1 else 0)=- F k:=by
     rw[if_neg (show ¬ k<n by omega),if_pos rfl];grind
    rw[h1,h2,h3];grind
   have a7:=Zj4 (n:=n) (m:=m) (λj=>if j<n then X j k else if j=k then -1 else 0) n 0 0 R false hl hrow (Nat.zero_le _) (λ_ j _ _ hj=>by omega) (λi hi=>by
    unfold Znb;have h1:=hv (λj=>E i j);rw[o];rw[b3 i k hi]at h1;rw[h1];grind) i hi
   unfold Znb at a7;have h1:=hv (λj=>Zl R i j);rw[a7]at h1
   grind
end
theorem Zm5{C C' m:Nat}(hC:C<=C'):∀ (f c r:Nat) (Z:List (List Int)) (la:Int),okZ C m f c r Z la->okZ C' m f c r Z la
 | 0,_,_,_,_,h=>⟨⟨h.1.1,λi j=>Qb (h.1.2 i j) hC⟩,h.2.1,Qb h.2.2 hC⟩
 | f+1,_,_,_,_,h=>⟨⟨h.1.1,λi j=>Qb (h.1.2 i j) hC⟩,⟨h.2.1.1,Qb h.2.1.2 hC⟩,h.2.2.imp id (λ⟨h1,h2⟩=>⟨λe=>Zm5 hC f _ _ _ _ (h1 e),λe=>Zm5 hC f _ _ _ _ (h2 e)⟩)⟩
theorem le_pw1{n:Nat}(h:n<=900):n<=pw 1:=by rw[Zbh,Zeb];omega
theorem Zla{b:Nat}:∀ n,n<=900->Zbf (pw b) n<=pw ((b+1)*n)
 | 0,_=>Qc _
 | n+1,h=>by
  have h1:=Zla (b:=b) n (by omega);have h2:(n+1)*(pw b*Zbf (pw b) n)<=pw 1*(pw b*pw ((b+1)*n)):=Qe (le_pw1 h) (Qe (Qc _) h1);rw[<- Zhd,<- Zhd]at h2;rw[show (b+1)*(n+1)=1+(b+(b+1)*n) by rw[Nat.mul_succ];omega];exact h2
def SmE(k:Nat)(Q:List (List Rat)):Prop:=∀ i j,(Zl Q i j).num.natAbs<=pw k/\(Zl Q i j).den<=pw k
section
variable{k n m:Nat}{Q:List (List Rat)}
end
def qM(rs:List RX):List (List Rat):=rs.map λr=>r.es.map FX.q
section
variable{w:World}{A:Option Addr}{n c:Nat}{rs:List RX}
theorem qM_len(h:MXL w A n c rs):(qM rs).length=n:=by unfold qM;rw[Qh];exact h.1
end
theorem Zio{rs:List RX}(h:Zgq rs=0):0<rs.length/\rs.length<=12/\0<n0R rs/\n0R rs<=12/\∀ r ∈ rs,r.n=n0R rs/\Zeo r.es=true:=by
 unfold Zgq at h
 split at h
 exact absurd h (by decide)
 ·rename_i h1
  split at h
  exact absurd h (by decide)
  ·rename_i h2
   split at h
   ·rename_i h3
    rw[Qg]at h3
    have hf:∀ r ∈ rs,r.n=n0R rs/\Zeo r.es=true:=λr hr=>by
     have:=h3 r hr;unfold Zg1 at this;simpa using this
    unfold Zhm at h1;simp only[Bool.or_eq_true,decide_eq_true_eq,not_or,Nat.not_lt,Bool.not_eq_true,List.any_eq_false]at h1;have f:rs ≠ []:=λe=>h2 (by rw[e];rfl);obtain⟨r,hr⟩:=List.exists_mem_of_ne_nil rs f;have h4:¬ 12<r.n:=by have:=h1.2 r hr;unfold RX.long at this;simpa using this
    have h5:=hf r hr;exact⟨List.length_pos_iff.2 f,h1.1,by omega,by omega,hf⟩
   exact absurd h (by decide)
theorem Zwo{es:List FX}(h:Zeo es=true):∀ e ∈ es,e.ok=true:=λe he=>by
 unfold Zeo at h;rw[Qg]at h;have:=h e he;unfold FX.fine at this;rw[Bool.and_eq_true]at this;exact this.2
section
variable{w:World}{A:Option Addr}{n c:Nat}{rs:List RX}
theorem MXL.good(h:MXL w A n c rs)(hE:Zgq rs=0):MFL w A n c (qM rs):=h.mfl λr hr=>Zwo ((Zio hE).2.2.2.2 r hr).2
theorem qM_row(h:MXL w A n c rs)(hE:Zgq rs=0)(i:Nat)(hi:i<n):((qM rs)[i]?.getD []).length=n0R rs:=by
 unfold qM;have he:=List.getElem?_eq_getElem (l:=rs) (i:=i) (by rw[h.1];exact hi);rw[List.getElem?_map,he];simp only[Option.map_some,Option.getD_some,Qh];have hm:=List.getElem_mem (l:=rs) (n:=i) (by rw[h.1];exact hi);rw[(h.2.2.2.1 _ hm).1,((Zio hE).2.2.2.2 _ hm).1]
end
