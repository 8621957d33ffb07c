/- The rank and the determinant by either elimination. The -/
import Derived.Deep.LoopGhost
import Derived.Test.YthappeninglakaaGreatZg09
set_option maxRecDepth 100000
set_option maxHeartbeats 8000000
set_option linter.unusedSimpArgs false
set_option linter.unusedVariables false
namespace Go.Proofs.YthappeninglakaaGreat
open Go.RowKit
open List renaming getElem?_map→Qa,getElem?_eq_getElem→Qb,getElem?_set→Qc,mem_of_getElem?→Qg,map_cons→Qj,getElem?_append_left→Ql,map_nil→Qm,ext_getElem?→Qn,getElem?_eq_none→Qo,map_set→Qp,length_append→Qq,replicate→Qs,not_mem_nil→Qw,set_append_left→Qx,getElem_of_mem→Qz,mem_cons→QB,getElem?_inj→QC,mem_or_eq_of_mem_set→QE,getElem?_range→QK,append_assoc→QO,map_toArray→QP,nil_append→QV,length_set→QW
open Nat renaming lt_of_le_of_lt→Qd,le_refl→Qe,lt_of_lt_of_le→Qk,add_sub_cancel'→Qt,le_trans→QF,zero_le→QJ,not_lt_zero→QQ,div_le_self→QS
open Below renaming refl→Qf
open Int renaming natAbs_mul→Qh,natAbs_natCast→Qu
open Act renaming put→Qi
open Ne renaming symm→Qr
open Builtin renaming zeroCells→Qv,append_→QI
open Rat renaming intCast_natCast→Qy,divInt→QD,num_divInt_den→QL,divInt_eq_div→QN,intCast_mul→QR,den_intCast→QT
open _root_.Array renaming toList_append→QA
open Option renaming getD_some→QG,map_some→QU
open World renaming size_alloc→QH
open Or renaming inl→QM
open Blk renaming new→QX
def byZ(R:List (List Rat)):Nat->Nat
 | 0=>1
 | k+1=>byZ R k*denAt R k
theorem Z0a(R:List (List Rat))(k:Nat):((byZ R k:Nat):Rat)=Za7 k (λi=>((denAt R i:Nat):Rat)):=by
 induction k with
 | zero=>rfl
 | succ k ih=>simp only[byZ,Za7];rw[Rat.natCast_mul,ih]
theorem Zvf(R:List (List Rat))(k:Nat):0<byZ R k:=by
 induction k with
 | zero=>exact Nat.one_pos
 | succ k ih=>exact Nat.mul_pos ih (Zed _ _)
theorem Zub{n:Nat}{f:Nat->Rat}{k:Nat}(hk:k<n)(h:f k=0):Za7 n f=0:=by
 induction n with
 | zero=>omega
 | succ n ih =>
  simp only[Za7];by_cases hkn:k=n;rw[<- hkn,h];grind;rw[ih (by omega)];grind
theorem Ztc{n:Nat}(M:Nat->Nat->Rat)(s:Nat->Rat):Zau n (λa b=>s a*M a b)=Za7 n s*Zau n M:=by
 have key:∀ m,m<=n->Zau n (λa b=>if a<m then s a*M a b else M a b)=Za7 m s*Zau n M:=by
  intro m
  induction m with
  | zero=>intro _;simp only[Za7];rw[Za4 (N:=M) (λa b _ _=>Gw (QQ a))];grind
  | succ m ih =>
   intro hm;have h0:=ih (by omega);have h1:=Zhc (n:=n) (λa b=>if a<m then s a*M a b else M a b) (k:=m) (by omega) (M m) (M m) (s m) 0
   have e1:Zak (λa b=>if a<m then s a*M a b else M a b) m (λb=>s m*M m b+0*M m b)=λa b=>if a<m+1 then s a*M a b else M a b:=by
    funext a b
    unfold Zak;by_cases ha:a=m;subst ha;rw[Gx rfl,Gx (by omega)];grind
    ·rw[Gw ha]
     by_cases h2:a<m;rw[Gx (by omega)];simp only[Gx h2];rw[Gw (by omega)];simp only[Gw h2]
   have e2:Zak (λa b=>if a<m then s a*M a b else M a b) m (M m)=λa b=>if a<m then s a*M a b else M a b:=by
    funext a b
    unfold Zak;by_cases ha:a=m;subst ha;rw[Gx rfl,Gw (by omega)];rw[Gw ha]
   rw[e1,e2,h0]at h1;rw[h1];simp only[Za7];grind
 rw[<- key n (Qe _)];exact Za4 λa b ha _=>by rw[Gx ha]
section
variable{B S n m:Nat}
theorem EIR.diag{col:Nat}{R:List (List Rat)}{pc:Nat->Nat}{G:Nat->Nat->Rat}{s:Nat->Rat}(h:EIR B S n m col n R pc G s)(hc:col<=n){l:Nat}(hl:l<n):pc l=l:=by
 have h1:∀ l,l<n->l<=pc l:=by
  intro l
  induction l with
  | zero=>intro _;omega
  | succ l ih=>intro hl;have:=ih (by omega);have:=h.inc l (l+1) (by omega) hl;omega
 have h2:∀ d l,l+d+1=n->pc l+d<n:=by
  intro d
  induction d with
  | zero=>intro l hl;have:=h.pcl l (by omega);omega
  | succ d ih=>intro l hl;have:=ih (l+1) (by omega);have:=h.inc l (l+1) (by omega) (by omega);omega
 have:=h1 l hl;have:=h2 (n-l-1) l (by omega);omega
end
structure AltF (n:Nat) (F:(Nat->Nat->Rat)->Rat):Prop where
 congr:∀ {M N:Nat->Nat->Rat},(∀ a b,a<n->b<n->M a b=N a b)->F M=F N
 lin:∀ (M:Nat->Nat->Rat) (k:Nat),k<n->∀ (r s:Nat->Rat) (x y:Rat),F (Zak M k (λb=>x*r b+y*s b))=x*F (Zak M k r)+y*F (Zak M k s)
 two:∀ (M:Nat->Nat->Rat) (k l:Nat),k<n->l<n->k≠l->(∀ b,M k b=M l b)->F M=0
theorem AltF.det(n:Nat):AltF n (Zau n):=⟨Za4,λM _ hk r s x y=>Zhc M hk r s x y,λ_ _ _ hk hl hne h=>Zj6 hk hl hne h⟩
section
variable{n:Nat}{F:(Nat->Nat->Rat)->Rat}
theorem AltF.add(h:AltF n F)(M:Nat->Nat->Rat){k:Nat}(hk:k<n)(r s:Nat->Rat):F (Zak M k (λb=>r b+s b))=F (Zak M k r)+F (Zak M k s):=by
 have:=h.lin M k hk r s 1 1;rw[show (λb=>r b+s b)=(λb=>1*r b+1*s b) by funext b;grind,this];grind
theorem AltF.swap(h:AltF n F){k l:Nat}(hk:k<n)(hl:l<n)(hne:k≠l)(M:Nat->Nat->Rat):F (Zak (Zak M k (M l)) l (M k))=- F M:=by
 obtain⟨r,hr⟩:=Gz (M l);obtain⟨s,hs⟩:=Gz (M k);have h0:=h.two (Zak (Zak M k (λb=>r b+s b)) l (λb=>r b+s b)) k l hk hl hne (λb=>by simp[Zak,hne]);have h1:=h.two (Zak (Zak M k r) l r) k l hk hl hne (λb=>by simp[Zak,hne]);have h2:=h.two (Zak (Zak M k s) l s) k l hk hl hne (λb=>by simp[Zak,hne]);rw[h.add _ hl,Zca _ hne,Zca _ hne,h.add _ hk,h.add _ hk,<- Zca _ hne,<- Zca _ hne,<- Zca _ hne,<- Zca _ hne,h1,h2]at h0;rw[hr,hs];have e:Zak (Zak M k s) l r=M:=by rw[<- hs,Zd9,<- hr,Zd9]
 rw[e]at h0
 grind
theorem AltF.addrow(h:AltF n F)(M:Nat->Nat->Rat){k l:Nat}(hk:k<n)(hl:l<n)(hne:k≠l)(c:Rat):F (Zak M k (λb=>M k b+c*M l b))=F M:=by
 have h1:=h.lin M k hk (M k) (M l) 1 c
 rw[show (λb=>M k b+c*M l b)=(λb=>1*M k b+c*M l b) by funext b;grind,h1,Zd9,
  h.two (Zak M k (M l)) k l hk hl hne (λb=>by simp[Zak,Qr hne])]
 grind
theorem AltF.clear(h:AltF n F)(M:Nat->Nat->Rat){l:Nat}(hl:l<n)(c:Nat->Rat):F (λa b=>if a=l then M a b else M a b+c a*M l b)=F M:=by
 have key:∀ m,m<=n->F (λa b=>if a=l then M a b else if a<m then M a b+c a*M l b else M a b)=F M:=by
  intro m
  induction m with
  | zero=>intro _;exact h.congr λa b _ _=>by split <;> rfl
  | succ m ih =>
   intro hm;have h0:=ih (by omega);by_cases hml:m=l
   ·rw[<- h0];refine h.congr λa b _ _=>?_
    by_cases ha:a=l;simp[ha]
    ·rw[Gw ha,Gw ha]
     by_cases h1:a<m;rw[Gx h1,Gx (by omega)];rw[Gw h1,Gw (by omega)]
   ·have h1:=h.addrow (λa b=>if a=l then M a b else if a<m then M a b+c a*M l b else M a b) (k:=m) (l:=l) (by omega) hl hml (c m)
    rw[h0]at h1;rw[<- h1];refine h.congr λa b _ _=>?_;unfold Zak;by_cases ha:a=m;subst ha;simp[hml]
    ·rw[Gw ha]
     by_cases hal:a=l;simp[hal]
     ·rw[Gw hal]
      by_cases h1:a<m;rw[Gx (by omega)];simp[hal,h1];rw[Gw (by omega)];simp[hal,h1]
 rw[<- key n (Qe _)];exact h.congr λa b ha hb=>by rw[Gx ha]
end
theorem Zy7(n:Nat)(A:Nat->Nat->Rat):∀ c,c<=n->∃ (U:Nat->Nat->Rat) (e:Rat),(∀ i j,i<n->j<c->j<i->U i j=0)/\∀ F,AltF n F->F A=e*F U:=by
 intro c
 induction c with
 | zero=>intro _;exact⟨A,1,λi j _ h=>by omega,λF _=>by grind⟩
 | succ c ih =>
  intro hc;obtain⟨U,e,h1,h2⟩:=ih (by omega)
  have clr:∀ V:Nat->Nat->Rat,(∀ i j,i<n->j<c->j<i->V i j=0)->V c c≠0->∃ (U:Nat->Nat->Rat),(∀ i j,i<n->j<c+1->j<i->U i j=0)/\∀ F,AltF n F->F V=F U:=by
   intro V hV hp;refine⟨λa b=>if a=c then V a b else V a b+(if a<c then 0 else -(V a c/V c c))*V c b,λi j hi hj hji=>?_,λF hF=>(hF.clear V (by omega) _).symm⟩;by_cases hic:i=c;subst hic;simp only[if_true];exact hV i j hi (by omega) hji
   ·simp only[Gw hic]
    by_cases hlt:i<c;rw[Gx hlt,hV i j hi (by omega) hji];grind
    ·rw[Gw hlt]
     by_cases hjc:j=c;subst hjc;grind;rw[hV i j hi (by omega) hji,hV c j (by omega) (by omega) (by omega)];grind
  by_cases hz:∀ i,c<i->i<n->U i c=0
  ·refine⟨U,e,λi j hi hj hji=>?_,h2⟩
   by_cases hjc:j=c;subst hjc;exact hz i hji hi;exact h1 i j hi (by omega) hji
  ·by_cases hp:U c c=0
   ·obtain⟨k,C,u,y⟩:∃ k,c<k/\k<n/\U k c≠0:=by
      refine Classical.byContradiction λhn=>hz λi h1 h2=>Classical.byContradiction λh3=>hn ⟨i,h1,h2,h3⟩
    obtain⟨V,o,f⟩:=clr (Zak (Zak U c (U k)) k (U c)) (λi j hi hj hji=>by
     unfold Zak;by_cases hik:i=k;rw[Gx hik];exact h1 c j (by omega) hj (by omega)
     ·rw[Gw hik]
      by_cases hic:i=c;rw[Gx hic];exact h1 k j u hj (by omega)
      ·rw[Gw hic];exact h1 i j hi hj hji) (by
     unfold Zak;rw[Gw (by omega),Gx rfl];exact y)
    refine⟨V,-e,o,λF hF=>?_⟩;rw[h2 F hF,<- f F hF,hF.swap (by omega) u (by omega)];grind
   ·obtain⟨V,o,f⟩:=clr U h1 hp
    exact⟨V,e,o,λF hF=>by rw[h2 F hF,f F hF]⟩
def Zbp(a b:Nat):Rat:=if a=b then 1 else 0
theorem AltF.tri{n:Nat}{F:(Nat->Nat->Rat)->Rat}(h:AltF n F):∀ t,t<=n->∀ U:Nat->Nat->Rat,(∀ i j,i<n->j<i->U i j=0)->(∀ i j,t<=i->i<n->U i j=Zbp i j)->F U=Za7 t (λi=>U i i)*F Zbp
 | 0,_,U,_,h2=>by
  rw[h.congr (N:=Zbp) (λa b ha hb=>h2 a b (QJ _) ha)];simp only[Za7];grind
 | t+1,ht,U,h1,h2=>by
  -- row t is cleared by the rows behind it
  have key:∀ c,c<=n->F (Zak U t (λb=>if t<b/\b<c then 0 else U t b))=F U:=by
   intro c
   induction c with
   | zero=>intro _;refine h.congr λa b _ _=>?_
           unfold Zak;by_cases ha:a=t;rw[Gx ha,ha];simp only[QQ,and_false,if_false];rw[Gw ha]
   | succ c ih =>
    intro hc;have h0:=ih (by omega);by_cases htc:t<c
    ·have h3:=h.addrow (Zak U t (λb=>if t<b/\b<c then 0 else U t b)) (k:=t) (l:=c) (by omega) (by omega) (by omega) (-(U t c))
     rw[h0]at h3;rw[<- h3];refine h.congr λa b _ hb=>?_;unfold Zak;by_cases ha:a=t
     ·subst ha
      simp only[if_true];rw[Gw (by omega:¬ c=a),h2 c b (by omega) (by omega)];unfold Zbp;by_cases hbc:c=b;subst hbc;rw[Gx (by omega),Gw (by omega),Gx rfl];grind
      ·rw[Gw hbc]
       by_cases hb2:a<b/\b<c;rw[Gx (by omega),Gx hb2];grind;rw[Gw (by omega),Gw hb2];grind
     rw[Gw ha,Gw ha,Gw ha]
    ·rw[<- h0]
     refine h.congr λa b _ _=>?_;unfold Zak;by_cases ha:a=t
     ·rw[Gx ha,Gx ha]
      simp only[Gw (show ¬ (t<b/\b<c+1) by omega),Gw (show ¬ (t<b/\b<c) by omega)]
     rw[Gw ha,Gw ha]
  have hk:=key n (Qe _);have hs:=h.lin U t (by omega) (Zbp t) (Zbp t) (U t t) 0
  have e1:F (Zak U t (λb=>if t<b/\b<n then 0 else U t b))=F (Zak U t (λb=>U t t*Zbp t b+0*Zbp t b)):=by
   refine h.congr λa b _ hb=>?_;unfold Zak;by_cases ha:a=t
   ·rw[Gx ha,Gx ha]
    unfold Zbp;simp only;by_cases hb1:t=b;subst hb1;rw[Gw (by omega),Gx rfl];grind
    ·rw[Gw hb1]
     by_cases hb2:t<b;rw[Gx ⟨hb2,hb⟩];grind;rw[Gw (by omega),h1 t b (by omega) (by omega)];grind
   rw[Gw ha,Gw ha]
  have ih:=h.tri t (by omega) (Zak U t (Zbp t)) (λi j hi hji=>by
   unfold Zak Zbp;split;rw[Gw (by omega)]
   ·exact h1 i j hi hji) (λi j hti hi=>by
   unfold Zak;split;rename_i h;rw[h]
   ·exact h2 i j (by omega) hi)
  rw[<- hk,e1,hs,ih];rw[Za7,Zc3 (f:=λi=>Zak U t (Zbp t) i i) (g:=λi=>U i i) (λi hi=>by unfold Zak;rw[Gw (by omega)])]
  grind
theorem Zr6(n:Nat):Zau n Zbp=1:=by
 rw[Zjy (λa b _ h=>by unfold Zbp;rw[Gw (by omega)])]
 have:∀ m,Za7 m (λi=>Zbp i i)=1:=by
  intro m
  induction m with
  | zero=>rfl
  | succ m ih=>simp only[Za7];rw[ih];unfold Zbp;rw[Gx rfl];grind
 exact this n
theorem AltF.eq{n:Nat}{F:(Nat->Nat->Rat)->Rat}(h:AltF n F)(A:Nat->Nat->Rat):F A=Zau n A*F Zbp:=by
 obtain⟨U,e,h1,h2⟩:=Zy7 n A n (Qe _);have h3:=h.tri n (Qe _) U (λi j hi hj=>h1 i j hi (by omega) hj) (λi j h1 h2=>by omega);have h4:=(AltF.det n).tri n (Qe _) U (λi j hi hj=>h1 i j hi (by omega) hj) (λi j h1 h2=>by omega);rw[h2 F h,h2 _ (AltF.det n),h3,h4,Zr6];grind
def Zsf(k:Nat)(A B:Nat->Nat->Rat):Nat->Nat->Rat:=λi j=>Zax k (λl=>A i l*B l j)
theorem det_mul(n:Nat)(A B:Nat->Nat->Rat):Zau n (Zsf n A B)=Zau n A*Zau n B:=by
 have hF:AltF n (λM=>Zau n (Zsf n M B)):=by
  refine⟨λ{M N} h=>Za4 λa b ha hb=>Zan λl hl=>by rw[h a l ha hl],λM k hk r s x y=>?_,λM k l hk hl hne h=>Zj6 hk hl hne (λb=>Zan λi hi=>by rw[h i])⟩
  have e:∀ q:Nat->Rat,Zsf n (Zak M k q) B=Zak (Zsf n M B) k (λb=>Zax n (λl=>q l*B l b)):=by
   intro q
   funext a b
   unfold Zsf Zak;by_cases ha:a=k
   ·rw[Gx ha];refine Zan λl _=>by rw[Gx ha]
   ·rw[Gw ha];refine Zan λl _=>by rw[Gw ha]
  rw[e,e,e,<- Zhc (Zsf n M B) hk];congr 2
  funext b
  rw[<- Ze8];exact Zan λl _=>by grind
 have:=hF.eq A;rw[this];congr 1;refine Za4 λa b ha hb=>?_;unfold Zsf;rw[Zhu a ha (λi _ hi=>by unfold Zbp;rw[Gw (Qr hi)];grind)];unfold Zbp;rw[Gx rfl];grind
theorem Zz5{n:Nat}(A:Nat->Nat->Rat)(x y:Nat->Rat)(h:∀ i,i<n->Zax n (λj=>A i j*x j)=y i){k:Nat}(hk:k<n):Zau n A*x k=Zau n (λa b=>if b=k then y a else A a b):=by
 have hT:Zau n (λa b=>if b=k then x a else Zbp a b)=x k:=by
  -- rows a: unit a+x a at column k;row k: x k at column k
  have h1:=(AltF.det n).lin (λa b=>if b=k then x a else Zbp a b) k hk (Zbp k) (Zbp k) (x k) 0
  have e1:Zak (λa b=>if b=k then x a else Zbp a b) k (λb=>x k*Zbp k b+0*Zbp k b)=(λa b=>if b=k then x a else Zbp a b):=by
   funext a b
   unfold Zak;by_cases ha:a=k
   ·subst ha;rw[Gx rfl];unfold Zbp
    by_cases hb:b=a;subst hb;simp only[if_true];grind;rw[Gw hb,Gw (Qr hb)];grind
   rw[Gw ha]
  rw[e1]at h1;have h2:=Znd (n:=n) (λa b=>Zbp a b) hk x
  have e2:Zau n (Zak (λa b=>if b=k then x a else Zbp a b) k (Zbp k))=Zau n (λa b=>if a=k then Zbp a b else Zbp a b+x a*Zbp k b):=by
   refine Za4 λa b _ _=>?_;unfold Zak;by_cases ha:a=k;rw[Gx ha,Gx ha,ha]
   ·rw[Gw ha,Gw ha]
    unfold Zbp;simp only;by_cases hb:b=k;subst hb;rw[Gx rfl,Gw ha,Gx rfl];grind;rw[Gw hb,Gw (Qr hb)];grind
  rw[e2,h2,Zr6]at h1;rw[h1];grind
 have h3:=det_mul n A (λa b=>if b=k then x a else Zbp a b);rw[hT]at h3;rw[<- h3];refine Za4 λa b ha hb=>?_;unfold Zsf;by_cases hbk:b=k
 ·rw[Gx hbk,<- h a ha]
  exact Zan λl _=>by simp only;rw[Gx hbk]
 ·rw[Gw hbk,Zhu b hb (λi _ hi=>by simp only;rw[Gw hbk];unfold Zbp;rw[Gw hi];grind)]
  simp only;rw[Gw hbk];unfold Zbp;rw[Gx rfl];grind
open Go.RowKit
attribute [local go_sem] Zg
theorem Zk9(a b:Rat)(h:b≠0):QD (a.num*b.den) ((a.den:Int)*b.num)=a/b:=by
 rw[QN,QR,QR,Qy,Qy]
 have e0:∀ x:Rat,((x.num:Int):Rat)=x*((x.den:Nat):Rat):=λx=>by
  have h1:((x.num:Int):Rat)/((x.den:Nat):Rat)=x:=by have:=QL x;rw[QN,Qy]at this;exact this
  have h2:((x.den:Nat):Rat)≠0:=by intro h;have:x.den=0:=by exact_mod_cast h
                                  have:=x.den_pos;omega
  rw[<- h1];grind
 have d:∀ x:Rat,((x.den:Nat):Rat)≠0:=λx h=>by
  have:x.den=0:=by exact_mod_cast h
  have:=x.den_pos;omega
 rw[e0 a,e0 b];have da:=d a;have db:=d b
 grind
theorem Zmu(a b:Rat)(h:b≠0):((a.den:Int)*b.num)≠0:=by
 have h1:=a.den_pos;have h2:b.num≠0:=λe=>h (Rat.num_eq_zero.1 e);exact Int.mul_ne_zero (by omega) h2
theorem Zuj(a b:Int)(h:b≠0):(QD a b).num.natAbs<=a.natAbs:=by
 rw[Rat.num_divInt];rw[Int.natAbs_ediv_of_dvd]
 ·refine QF (QS _ _) ?_
  rw[Qh];rcases Int.lt_or_gt_of_ne h with g|g;rw[Int.sign_eq_neg_one_of_neg g];simp;rw[Int.sign_eq_one_of_pos g];simp
 exact Int.dvd_trans (Int.gcd_dvd_right _ _) (Int.dvd_mul_left _ _)
theorem Zsy(a b:Int)(h:b≠0):(QD a b).den<=b.natAbs:=by
 rw[Rat.den_divInt,Gw h];exact QS _ _
theorem Zef:1<pw 1:=by rw[Za3,Zem];decide
def SmN(i j:Nat)(r:Rat):Prop:=r.num.natAbs<pw i/\r.den<pw j
theorem SmN.sm{i j:Nat}{r:Rat}(h:SmN i j r)(hi:i<=1000)(hj:j<=1000):Sm r:=⟨Qk h.1 (Zb4 hi),Qk h.2 (Zb4 hj)⟩
theorem SmN.mono{i j i' j':Nat}{r:Rat}(h:SmN i j r)(hi:i<=i')(hj:j<=j'):SmN i' j' r:=⟨Qk h.1 (Zb4 hi),Qk h.2 (Zb4 hj)⟩
theorem SmN.div{i j:Nat}{n s:Int}(h0:0<s)(hn:n.natAbs<pw i)(hs:s.natAbs<pw j):SmN i j (QD n s):=
 ⟨Qd (Zuj n s (by omega)) hn,Qd (Zsy n s (by omega)) hs⟩
theorem SmN.int{i:Nat}{n:Int}(hn:n.natAbs<pw i):SmN i 1 (n:Rat):=⟨by simpa using hn,by simp only[QT];exact Zef⟩
theorem Zo2{x y z v:Int}{i j i' j':Nat}(hx:x.natAbs<pw i)(hy:y.natAbs<pw j)(hz:z.natAbs<pw i')(hv:v.natAbs<pw j'):(x*y).natAbs+(z*v).natAbs<pw (max (i+j) (i'+j')+1):=by
 have h1:(x*y).natAbs<pw (max (i+j) (i'+j')):=by
  rw[Qh];exact Qk (Zcw hx hy) (Zb4 (by omega))
 have h2:(z*v).natAbs<pw (max (i+j) (i'+j')):=by
  rw[Qh];exact Qk (Zcw hz hv) (Zb4 (by omega))
 have h3:=Zpu (max (i+j) (i'+j'));omega
theorem SmN.dn{i j:Nat}{r:Rat}(h:SmN i j r):((r.den:Nat):Int).natAbs<pw j:=by simpa using h.2
theorem SmN.sub{i j i' j':Nat}{a b:Rat}(ha:SmN i j a)(hb:SmN i' j' b):SmN (max (i+j') (i'+j)+1) (j+j') (a-b):=by
 rw[<- Zvx];refine SmN.div (Zdt a b) ?_ ?_;have:=Zo2 ha.1 hb.dn hb.1 ha.dn;omega;rw[Qh];exact Zcw ha.dn hb.dn
theorem SmN.add{i j i' j':Nat}{a b:Rat}(ha:SmN i j a)(hb:SmN i' j' b):SmN (max (i+j') (i'+j)+1) (j+j') (a+b):=by
 rw[<- rat_add];refine SmN.div (Zdt a b) ?_ ?_;have:=Zo2 ha.1 hb.dn hb.1 ha.dn;omega;rw[Qh];exact Zcw ha.dn hb.dn
structure RF where
 g:Nat
 c:Nat
 q:List Rat
def RF.rs(r:RF):RS:=⟨some ⟨r.g,0,none⟩,r.q.length,r.c⟩
def MatB(tS tF:TypeId)(w:World)(go:Nat)(L:List RF):Prop:=
 (∃ zs,Blk w go tS (Z0 (L.map RF.rs++zs)))/\(∀ r ∈ L,FOwn tF w r.g r.q/\r.q.length<=r.c/\r.c<=maxLen)/\(go::L.map RF.g).Nodup
section
variable{tS tF:TypeId}{w w':World}{go:Nat}{L:List RF}
theorem MatB.below(h:MatB tS tF w go L)(hb:Below w.heap.size w w'):MatB tS tF w' go L:=by
 obtain⟨⟨zs,h1⟩,h2,h3⟩:=h;exact⟨⟨zs,Zc hb h1⟩,λr hr=>⟨(h2 r hr).1.below hb,(h2 r hr).2⟩,h3⟩
theorem MatB.cell(h:MatB tS tF w go L){i:Nat}{r:RF}(hr:L[i]?=some r):w.cell? ⟨go,i,none⟩=some (.slice (some ⟨r.g,0,none⟩) r.q.length r.c)/\w.frozen? ⟨go,i,none⟩=false:=by
 obtain⟨⟨zs,h1⟩,-,-⟩:=h;refine⟨?_,h1.frozen i⟩;rw[h1.cell];refine Zbs (e:=r.rs) ?_;have hi:=(List.getElem?_eq_some_iff.1 hr).1;rw[Ql (by simpa using hi),Qa,hr];rfl
theorem MatB.row(h:MatB tS tF w go L){i:Nat}{r:RF}(hr:L[i]?=some r):FOwn tF w r.g r.q/\r.q.length<=r.c/\r.c<=maxLen:=h.2.1 r (Qg hr)
theorem MatB.ne(h:MatB tS tF w go L){i:Nat}{r:RF}(hr:L[i]?=some r):go≠r.g:=λe=>by
 have:=(List.nodup_cons.1 h.2.2).1;exact this (List.mem_map.2 ⟨r,Qg hr,e.symm⟩)
theorem MatB.ne2(h:MatB tS tF w go L){i j:Nat}{r s:RF}(hr:L[i]?=some r)(hs:L[j]?=some s)(hij:i≠j):r.g≠s.g:=λe=>by
 have hn:=(List.nodup_cons.1 h.2.2).2;have h1:(L.map RF.g)[i]?=some r.g:=by rw[Qa,hr];rfl
 have h2:(L.map RF.g)[j]?=some r.g:=by rw[Qa,hs,e];rfl
 exact hij ((QC (by have:=(List.getElem?_eq_some_iff.1 h1).1;exact this) hn).1 (h1.trans h2.symm))
theorem MatB.set_(h:MatB tS tF w go L){i:Nat}{r:RF}(hr:L[i]?=some r){k:Nat}(hk:k<r.q.length){na:Bool}{A:Option Addr}{n c:Nat}{nb:Bool}{B:Option Addr}{m d:Nat}{x:Rat}(hf:Fr w na A n c nb B m d x) :
    MatB tS tF (Zj3 w r.g k na A n c nb B m d) go (L.set i ⟨r.g,r.c,r.q.set k x⟩):=by
 have C:=h.ne hr;have u:=λ{j:Nat} {s:RF} (hs:L[j]?=some s) (hij:j≠i)=>h.ne2 hs hr hij;have f:=h.row hr;have hi:=(List.getElem?_eq_some_iff.1 hr).1;obtain⟨⟨zs,h1⟩,h2,h3⟩:=h;refine⟨⟨zs,?_⟩,λs hs=>?_,?_⟩
 ·have e:(L.set i ⟨r.g,r.c,r.q.set k x⟩).map RF.rs=L.map RF.rs:=by
    rw[Qp];apply Qn;intro j;rw[Qc];by_cases hij:i=j
    ·subst hij
     rw[Gx rfl,Gx (by simpa using hi),Qa,hr];simp[RF.rs]
    rw[Gw hij]
  rw[e];exact Zju h1 C
 ·obtain⟨j,hj,y⟩:=Qz hs
  have o:(L.set i ⟨r.g,r.c,r.q.set k x⟩)[j]?=some s:=by rw[Qb hj,y]
  rw[Qc]at o;by_cases hij:i=j
  ·subst hij
   rw[Gx rfl,Gx hi]at o;cases o;exact⟨f.1.set_ hk hf,by simpa using f.2.1,f.2.2⟩
  ·rw[Gw hij]at o
   have:=h2 s (Qg o);exact⟨this.1.other (u o (Qr hij)) f.1.box,this.2⟩
 ·have e:(L.set i ⟨r.g,r.c,r.q.set k x⟩).map RF.g=L.map RF.g:=by
    rw[Qp];apply Qn;intro j;rw[Qc];by_cases hij:i=j
    ·subst hij
     rw[Gx rfl,Gx (by simpa using hi),Qa,hr];rfl
    rw[Gw hij]
  rw[e];exact h3
theorem Zzn{α:Type}{l:List α}{i j:Nat}{x y:α}(hx:l[i]?=some x)(hy:l[j]?=some y):Zai l i j=(l.set i y).set j x:=by unfold Zai;rw[hx,hy]
theorem Zkv{α β:Type}(f:α->β)(l:List α)(i j:Nat):(Zai l i j).map f=Zai (l.map f) i j:=by
 unfold Zai;rw[Qa,Qa];cases l[i]? with
 | none=>rfl
 | some x=>cases l[j]? with
  | none=>rfl
  | some y=>simp[Qp]
theorem Ziz{α:Type}(l:List α)(i j:Nat):∀ x,x ∈ Zai l i j->x ∈ l:=by
 intro x hx;unfold Zai at hx
 split at hx
 ·rename_i a b ha hb
  rcases QE hx with hx|rfl
  ·rcases QE hx with hx|rfl
   exact hx;exact Qg hb
  exact Qg ha
 exact hx
theorem Zsv{l:List Nat}(h:l.Nodup){i j:Nat}(hi:i<l.length)(hj:j<l.length):(Zai l i j).Nodup:=by
 unfold List.Nodup;rw[List.pairwise_iff_getElem];intro a b ha hb o e;rw[Zec]at ha hb;have h1:(Zai l i j)[a]?=(Zai l i j)[b]?:=by rw[Qb (by rw[Zec];exact ha),Qb (by rw[Zec];exact hb),e]
 rw[Zds hi hj,Zds hi hj]at h1;have f:swI i j a<l.length:=Zhr hi hj ha;have:=(QC f h).1 h1;have h2:swI i j (swI i j a)=swI i j (swI i j b):=by rw[this]
 rw[Zp8,Zp8]at h2;omega
end
def rowQ(L:List RF)(i:Nat):List Rat:=(L[i]?.map RF.q).getD []
theorem Zu2{L:List RF}{i:Nat}{r:RF}(h:L[i]?=some r):rowQ L i=r.q:=by unfold rowQ;rw[h];rfl
section
variable{a b:Rat}{i j k l:Nat}
theorem SmN.mulN(h:SmN i j a)(g:SmN k l b):SmN (i+k) (j+l) (a*b):=by
 rw[<- Zvp a b];have hd:((a.den:Int)*(b.den:Nat))≠0:=Int.ne_of_gt (Zdt a b);refine⟨Qd (Zuj _ _ hd) ?_,Qd (Zsy _ _ hd) ?_⟩;rw[Qh];exact Zcw h.1 g.1;rw[Qh,Qu,Qu];exact Zcw h.2 g.2
theorem SmN.divN(h:SmN i j a)(g:SmN k l b)(h0:b≠0):SmN (i+l) (j+k) (a/b):=by
 rw[<- Zk9 a b h0];have hd:=Zmu a b h0;refine⟨Qd (Zuj _ _ hd) ?_,Qd (Zsy _ _ hd) ?_⟩;rw[Qh,Qu];exact Zcw h.1 g.2;rw[Qh,Qu];exact Zcw h.2 g.1
end
theorem Znk(L:List RF)(i j:Nat):Zh (L.map RF.q) i j=(rowQ L i)[j]?.getD 0:=by unfold Zh rowQ;rw[Qa]
theorem Zcr{α:Type}{L:List α}{i:Nat}(h:i<L.length):∃ r,L[i]?=some r:=⟨_,Qb h⟩
theorem Z0j{α β:Type}{f:α->β}{L M:List α}(h:L.map f=M.map f){i:Nat}{r s:α}(hr:L[i]?=some r)(hs:M[i]?=some s):f r=f s:=by
 have h1:(L.map f)[i]?=some (f r):=by rw[Qa,hr];rfl
 have h2:(M.map f)[i]?=some (f s):=by rw[Qa,hs];rfl
 rw[h,h2]at h1;exact(Option.some.inj h1).symm
theorem Zjz{α β:Type}{f:α->β}{L:List α}{i:Nat}{r s:α}(hr:L[i]?=some r)(h:f s=f r):(L.set i s).map f=L.map f:=by
 rw[Qp];apply Qn;intro j;rw[Qc]
 split
 ·rename_i hij
  subst hij;have hi:=(List.getElem?_eq_some_iff.1 hr).1;rw[Gx (by simpa using hi),Qa,hr,h];rfl
 rfl
theorem Zz7{L:List RF}{i j:Nat}{r:RF}(hi:i<L.length):rowQ (L.set i r) j=if j=i then r.q else rowQ L j:=by
 unfold rowQ;rw[Qc];by_cases h:i=j;subst h;rw[Gx rfl,Gx hi,Gx rfl];rfl;rw[Gw h,Gw (Qr h)]
section
variable{P:Program}(w:World)
theorem Za0{o:Oper}{a:Act}{K:Act->World->Prop}{Q:Exit->Act->World->Prop}(s x:Operand)(t:TypeId)
    (ho:o.op=.call { callee:=.builtin .append,args:=#[s,x],argTypes:=#[t,t] })
    (base:Nat) (e:TypeId) (i:TypeInfo) (ht:P.underlying t=some (.slice e)) (hi:P.info? e=some i) (hz:i.zero=some (.slice none 0 0)) (hsi:i.size=1) (hby:i.bytes=24)
    (v:Value) (rs:List RS) (hs:a.eval s=v) (hown:RowS e w base v rs)
    (B:Nat) (A:Option Addr) (m c:Nat) (fs:List RS) (hx:a.eval x=.slice A m c) (hr:Reads w B 1 A m (Zav fs)) (hm:fs.length=m)
    (h63:rs.length+m<=1000) (hbase:base<=w.heap.size)
    (h:∀ v' w',RowS e w' base v' (rs++fs)->w.grownBy w' v.ownBlock->(∀ (A:Option Addr) (n c:Nat) (l:List Nat),Lim w A n c l->Lim w' A n c l)->K (a.put o.dst v') w'):o.wp P a w K Q:=by
 obtain⟨v',w',f,h3,h4⟩:=Zms (P:=P) w base t o.type e i ht hi hz hsi hby v rs hown B A m c fs hr hm h63 hbase;unfold Oper.wp execOp;simp only[ho,resolve,invoke,builtin,Sem.run_bind,Sem.run_pure,Result.andThen_ok,QP,Qj,Qm,hs,hx,f];exact h v' w' h3 h4 (λ_ _ _ _ hL=>hown.keep h4 hL)
theorem Zfr{ops:Array Oper}{rest:List Oper}{o:Oper}{a:Act}{Q:Exit->Act->World->Prop}(hgd:o.guard=none)(s x:Operand)(t:TypeId)
    (ho:o.op=.call { callee:=.builtin .append,args:=#[s,x],argTypes:=#[t,t] })
    (base:Nat) (e:TypeId) (i:TypeInfo) (ht:P.underlying t=some (.slice e)) (hi:P.info? e=some i) (hz:i.zero=some (.slice none 0 0)) (hsi:i.size=1) (hby:i.bytes=24)
    (v:Value) (rs:List RS) (hs:a.eval s=v) (hown:RowS e w base v rs)
    (B:Nat) (A:Option Addr) (m c:Nat) (fs:List RS) (hx:a.eval x=.slice A m c) (hr:Reads w B 1 A m (Zav fs)) (hm:fs.length=m)
    (h63:rs.length+m<=1000) (hbase:base<=w.heap.size)
    (h:∀ v' w',RowS e w' base v' (rs++fs)->w.grownBy w' v.ownBlock->(∀ (A:Option Addr) (n c:Nat) (l:List Nat),Lim w A n c l->Lim w' A n c l)->wpList P ops Q rest (a.put o.dst v') w'):wpList P ops Q (o::rest) a w:=
 wpList_plain hgd λ_ hK=>Za0 w s x t ho base e i ht hi hz hsi hby v rs hs hown B A m c fs hx hr hm h63 hbase λv' w' h2 h3 h4=>hK _ _ (h v' w' h2 h3 h4)
end
theorem Zfm:(Tryz.prog.info? 41).map (λi=>(i.zero,i.size,i.bytes))=some (some (.agg #[.bool false,.slice none 0 0,.bool false,.slice none 0 0]),4,64):=by kernel_rfl
theorem Zgz:(Tryz.prog.info? 35).map (λi=>(i.zero,i.size,i.bytes))=some (some (.slice none 0 0),1,24):=by kernel_rfl
theorem Blk.type{w:World}{g:Nat}{t t':TypeId}{cs cs':Array Value}(h:Blk w g t cs)(h':Blk w g t' cs'):t=t':=by
 unfold Blk at h h';rw[h]at h';cases h';rfl
section
variable{tS tF:TypeId}{w w':World}{base:Nat}{v v':Value}{L:List RF}
theorem RowS.ownType{rs:List RS}(h:RowS tS w base v rs){g:Nat}{cs:Array Value}(hb:Blk w g tF cs)(hne:tS≠tF):v.ownBlock≠some g:=by
 rintro e;rcases h with ⟨rfl,_⟩|⟨g',sp,rfl,_,_,h4⟩;cases e
 ·have:g'=g:=by simpa [Value.ownBlock]using e
  subst this;exact hne (h4.type hb)
theorem FOwn.grown{g:Nat}{qs:List Rat}(h:FOwn tF w g qs)(hg:w.grownBy w' v.ownBlock)(hne:v.ownBlock≠some g)(hk:∀ (A:Option Addr) (n c:Nat) (l:List Nat),Lim w A n c l->Lim w' A n c l):FOwn tF w' g qs:=by
 obtain⟨es,zs,h1,h2,h3⟩:=h;exact⟨es,zs,(hg.block g h1.lt (λe=>hne (by first|exact e|exact e.symm))).trans h1,λe he=>(h2 e he).of_keep hk,h3⟩
end
structure RZ where
 g:Nat
 q:List Int
def RZ.rs(r:RZ):RS:=⟨some ⟨r.g,0,none⟩,r.q.length,r.q.length⟩
def MatZ(tS tF:TypeId)(w:World)(go:Nat)(L:List RZ):Prop:=
 (∃ zs,Blk w go tS (Z0 (L.map RZ.rs++zs)))/\(∀ r ∈ L,POwn tF w r.g r.q/\r.q.length<=maxLen)/\(go::L.map RZ.g).Nodup
section
variable{tS tF:TypeId}{w w':World}{go:Nat}{L:List RZ}
theorem MatZ.below(h:MatZ tS tF w go L)(hb:Below w.heap.size w w'):MatZ tS tF w' go L:=by
 obtain⟨⟨zs,h1⟩,h2,h3⟩:=h;exact⟨⟨zs,Zc hb h1⟩,λr hr=>⟨(h2 r hr).1.below hb,(h2 r hr).2⟩,h3⟩
theorem MatZ.cell(h:MatZ tS tF w go L){i:Nat}{r:RZ}(hr:L[i]?=some r):w.cell? ⟨go,i,none⟩=some (.slice (some ⟨r.g,0,none⟩) r.q.length r.q.length)/\w.frozen? ⟨go,i,none⟩=false:=by
 obtain⟨⟨zs,h1⟩,-,-⟩:=h;refine⟨?_,h1.frozen i⟩;rw[h1.cell];refine Zbs (e:=r.rs) ?_;have hi:=(List.getElem?_eq_some_iff.1 hr).1;rw[Ql (by simpa using hi),Qa,hr];rfl
theorem MatZ.row(h:MatZ tS tF w go L){i:Nat}{r:RZ}(hr:L[i]?=some r):POwn tF w r.g r.q/\r.q.length<=maxLen:=h.2.1 r (Qg hr)
theorem MatZ.ne(h:MatZ tS tF w go L){i:Nat}{r:RZ}(hr:L[i]?=some r):go≠r.g:=λe=>by
 have:=(List.nodup_cons.1 h.2.2).1;exact this (List.mem_map.2 ⟨r,Qg hr,e.symm⟩)
theorem MatZ.ne2(h:MatZ tS tF w go L){i j:Nat}{r s:RZ}(hr:L[i]?=some r)(hs:L[j]?=some s)(hij:i≠j):r.g≠s.g:=λe=>by
 have hn:=(List.nodup_cons.1 h.2.2).2;have h1:(L.map RZ.g)[i]?=some r.g:=by rw[Qa,hr];rfl
 have h2:(L.map RZ.g)[j]?=some r.g:=by rw[Qa,hs,e];rfl
 exact hij ((QC (by have:=(List.getElem?_eq_some_iff.1 h1).1;exact this) hn).1 (h1.trans h2.symm))
theorem MatZ.boxes(h:MatZ tS tF w go L):∀ k,(k=go \/ k ∈ L.map RZ.g)->∃ t cs,Blk w k t cs/\NoLimb cs:=by
 intro k hk;obtain⟨⟨zs,h1⟩,h2,-⟩:=h;rcases hk with rfl|hk;exact⟨tS,_,h1,Zbj _⟩
 ·obtain⟨r,hr,rfl⟩:=List.mem_map.1 hk
  exact(h2 r hr).1.box
theorem MatZ.set_(h:MatZ tS tF w go L){i:Nat}{r:RZ}(hr:L[i]?=some r){k:Nat}(hk:k<r.q.length){na:Bool}{A:Option Addr}{n c:Nat}{x:Int}(hf:Wd w na A n c x) :
    MatZ tS tF ((w.setCell ⟨r.g,k*2,none⟩ (.bool na)).setCell ⟨r.g,k*2+1,none⟩ (.slice A n c)) go (L.set i ⟨r.g,r.q.set k x⟩):=by
 have u:=h.ne hr;have y:=λ{j:Nat} {s:RZ} (hs:L[j]?=some s) (hij:j≠i)=>h.ne2 hs hr hij;have o:=h.row hr;have hi:=(List.getElem?_eq_some_iff.1 hr).1;obtain⟨⟨zs,h1⟩,h2,h3⟩:=h;refine⟨⟨zs,?_⟩,λs hs=>?_,?_⟩
 ·have e:(L.set i ⟨r.g,r.q.set k x⟩).map RZ.rs=L.map RZ.rs:=by
    rw[Qp];apply Qn;intro j;rw[Qc];by_cases hij:i=j
    ·subst hij
     rw[Gx rfl,Gx (by simpa using hi),Qa,hr];simp[RZ.rs]
    rw[Gw hij]
  rw[e];exact(h1.far u _).far u _
 ·obtain⟨j,hj,C⟩:=Qz hs
  have f:(L.set i ⟨r.g,r.q.set k x⟩)[j]?=some s:=by rw[Qb hj,C]
  rw[Qc]at f;by_cases hij:i=j
  ·subst hij
   rw[Gx rfl,Gx hi]at f;cases f;exact⟨o.1.set_ hk hf,by simpa using o.2⟩
  ·rw[Gw hij]at f
   have:=h2 s (Qg f);exact⟨this.1.other o.1 (y f (Qr hij)) _ _ _ _ _,this.2⟩
 ·have e:(L.set i ⟨r.g,r.q.set k x⟩).map RZ.g=L.map RZ.g:=by
    rw[Qp];apply Qn;intro j;rw[Qc];by_cases hij:i=j
    ·subst hij
     rw[Gx rfl,Gx (by simpa using hi),Qa,hr];rfl
    rw[Gw hij]
  rw[e];exact h3
theorem MatZ.swap(h:MatZ tS tF w go L){i j:Nat}{r s:RZ}(hr:L[i]?=some r)(hs:L[j]?=some s) :
    MatZ tS tF ((w.setCell ⟨go,i,none⟩ (.slice (some ⟨s.g,0,none⟩) s.q.length s.q.length)).setCell ⟨go,j,none⟩ (.slice (some ⟨r.g,0,none⟩) r.q.length r.q.length)) go (Zai L i j):=by
 have hi:=(List.getElem?_eq_some_iff.1 hr).1;have hj:=(List.getElem?_eq_some_iff.1 hs).1;have J:=λ{j:Nat} {s:RZ} (hs:L[j]?=some s)=>h.ne hs;obtain⟨⟨zs,h1⟩,h2,h3⟩:=h;have o:=h1.set_ i (.slice (some ⟨s.g,0,none⟩) s.q.length s.q.length);have O:NoLimb ((Z0 (L.map RZ.rs++zs)).setIfInBounds i (.slice (some ⟨s.g,0,none⟩) s.q.length s.q.length)):=Zgj (Zbj _) i (λx=>by simp);have C:=o.set_ j (.slice (some ⟨r.g,0,none⟩) r.q.length r.q.length)
 have hk:∀ (A:Option Addr) (n c:Nat) (l:List Nat),Lim w A n c l->Lim ((w.setCell ⟨go,i,none⟩ (.slice (some ⟨s.g,0,none⟩) s.q.length s.q.length)).setCell ⟨go,j,none⟩ (.slice (some ⟨r.g,0,none⟩) r.q.length r.q.length)) A n c l:=
  λA n c l hl=>(hl.set_box h1 (Zbj _) _ _).set_box o O _ _
 refine⟨⟨zs,?_⟩,λx hx=>?_,?_⟩
 ·have e:Z0 ((Zai L i j).map RZ.rs++zs)=((Z0 (L.map RZ.rs++zs)).setIfInBounds i (.slice (some ⟨s.g,0,none⟩) s.q.length s.q.length)).setIfInBounds j (.slice (some ⟨r.g,0,none⟩) r.q.length r.q.length):=by
    have e1:=Zdr (es:=L.map RZ.rs++zs) (i:=i) s.rs;have e2:=Zdr (es:=(L.map RZ.rs++zs).set i s.rs) (i:=j) r.rs;simp only[RZ.rs]at e1 e2;rw[e1,e2,Zzn hr hs];congr 1;rw[Qp,Qp,Qx _ _ (by simpa using hi),Qx _ _ (by simpa using hj)];rfl
  rw[e];exact C
 ·have f:=Ziz L i j x hx
  obtain⟨es,q1,q2,q3⟩:=(h2 x f).1;obtain⟨k,I,y⟩:=Qz f;have u:x.g≠go:=Qr (J (j:=k) (s:=x) (by rw[Qb I,y]));exact⟨⟨es,(q1.far u _).far u _,λe he=>⟨hk _ _ _ _ (q2 e he).1,(q2 e he).2⟩,q3⟩,(h2 x f).2⟩
 ·rw[List.nodup_cons]at h3 ⊢
  rw[Zkv];refine⟨λhm=>h3.1 (Ziz _ _ _ _ hm),Zsv h3.2 (by simpa using hi) (by simpa using hj)⟩
theorem MatZ.keptG{G:Nat->Prop}(h:MatZ tS tF w go L)(hk:Kept G w w')(hg:¬ G go)(hgs:∀ r ∈ L,¬ G r.g)(hG:∀ k,G k->∃ t cs,Blk w k t cs/\NoLimb cs):MatZ tS tF w' go L:=by
 obtain⟨⟨zs,h1⟩,h2,h3⟩:=h;refine⟨⟨zs,hk.blk h1 hg⟩,λr hr=>⟨?_,(h2 r hr).2⟩,h3⟩;obtain⟨es,q1,q2,q3⟩:=(h2 r hr).1;exact⟨es,hk.blk q1 (hgs r hr),λe he=>⟨hk.lim (q2 e he).1 hG,(q2 e he).2⟩,q3⟩
end
def Zaz(L:List RZ)(i:Nat):List Int:=(L[i]?.map RZ.q).getD []
theorem Zhn{L:List RZ}{i:Nat}{r:RZ}(h:L[i]?=some r):Zaz L i=r.q:=by unfold Zaz;rw[h];rfl
theorem Zj9(L:List RZ)(i j:Nat):Zah (L.map RZ.q) i j=(Zaz L i)[j]?.getD 0:=by unfold Zah Zaz;rw[Qa]
theorem Zki(L:List RZ)(i:Nat):Zaz L i=(L.map RZ.q)[i]?.getD []:=by unfold Zaz;rw[Qa]
theorem Zwa{L:List RZ}{i j:Nat}{r:RZ}(hi:i<L.length):Zaz (L.set i r) j=if j=i then r.q else Zaz L j:=by
 unfold Zaz;rw[Qc];by_cases h:i=j;subst h;rw[Gx rfl,Gx hi,Gx rfl];rfl;rw[Gw h,Gw (Qr h)]
theorem Zzp{L:List RZ}{R:List (List Int)}(hl:L.length=R.length)(h:∀ i,i<R.length->Zaz L i=R[i]?.getD []):L.map RZ.q=R:=by
 apply Qn;intro i;rw[Qa];by_cases hi:i<R.length
 ·have:=h i hi
  unfold Zaz at this;rw[Qb (show i<L.length by omega),Qb hi]at this ⊢;simp only[QU,QG]at this ⊢;rw[this]
 rw[Qo (by omega),Qo (by omega)];rfl
theorem Zs2{R:List (List Int)}{r col i:Nat}{last:Int}(hi:i<R.length):(Zdp R r col last)[i]?.getD []=if i<=r then R[i]?.getD []else Zq4 (R[r]?.getD []) (R[i]?.getD []) col (Zah R r col) last:=by
 unfold Zdp;rw[Qa,QK hi];rfl
theorem rowZ_eq{p row q:List Int}{col:Nat}{piv last:Int}(hl:q.length=row.length)(h:∀ t,q[t]?.getD 0=if t<row.length then Int.fdiv (row[t]?.getD 0*piv-row[col]?.getD 0*p[t]?.getD 0) last else row[t]?.getD 0):q=Zq4 p row col piv last:=by
 apply Qn;intro t;unfold Zq4;rw[Qa];have:=h t;by_cases ht:t<row.length
 ·rw[QK ht]
  rw[Qb (show t<q.length by omega)]at this ⊢;simp only[QU,QG]at this ⊢;rw[this,Gx ht]
 rw[Qo (by omega),Qo (l:=List.range _) (by simpa using ht)];rfl
theorem Zya{row q:List Int}{k:Nat}{x:Int}{f:Nat->Int}(hl:q.length=row.length)(hkl:k<row.length)(hx:x=f k)(h:∀ t,q[t]?.getD 0=if t<k then f t else row[t]?.getD 0) :
    ∀ t,(q.set k x)[t]?.getD 0=if t<k+1 then f t else row[t]?.getD 0:=by
 intro t;rw[Qc];by_cases ht:k=t
 ·subst ht
  rw[Gx rfl,Gx (by omega),Gx (by omega),hx];rfl
 ·rw[Gw ht,h t]
  by_cases h1:t<k;rw[Gx h1,Gx (by omega)];rw[Gw h1,Gw (by omega)]
theorem Zfo(na nb:Bool)(A B:Option Addr)(n c m d:Nat)(a b:Int)(w:World)(ha:Wd w na A n c a)(hb:Wd w nb B m d b)(hs:(a*b).natAbs<pw 4096) :
    Calls Tryz.prog 139 #[.agg #[.bool na,.slice A n c],.agg #[.bool nb,.slice B m d]] w (NumW w (a*b)):=by
 obtain⟨W0,y,h,⟨q0,q1,q2⟩,s0⟩:=Zd0 w 39 #[.bool na,.slice A n c] 39 #[.bool nb,.slice B m d] 39 #[.bool false,.slice none 0 0];have hA:=ha.below h;have hD:=hb.below h;have hC:=Za (Zi3 na nb A B n c m d a b W0 hA hD);clear ha hb hA hD;obtain⟨a0,a1,-⟩:=q0.two;obtain⟨b0,b1,-⟩:=q1.two;replace q2:=Za q2;replace hs:=Za hs;clear q0 q1;go_enter Tryz.func139,Tryz.ntmps139;go_wp2_with fail;refine hC.out.mono ?_;rintro e w1 ⟨f,n2,A2,k2,c2,code,rfl,hR⟩;have hN:=hR.small hs.out;have o:=h.trans (f.mono h.size);have s1:=f.size;have q3:=Zc f q2.out;clear f a0 a1 b0 b1 y hR hC q2;obtain⟨V,hV,u,qv,kW,kB,sV⟩:=Zr 39 #[.bool n2,.slice A2 k2 c2] o o.size;have q4:=kB _ _ _ q3;have C:=Za (kW _ _ _ _ _ hN);clear kW kB hN;obtain⟨v0,v1,v2,v3⟩:=qv.two;obtain⟨r0,r1,r2,r3⟩:=q4.two;go_wp2_with fail;obtain⟨X,hX,I,q5,st⟩:=Zas n2 A2 k2 c2 u (by omega) q4;(try rw[hX]);obtain⟨y0,y1,-⟩:=q5.two;refine bodyPost_ret (v:=.agg #[.bool n2,.slice A2 k2 c2]) (by simp[results,Tryz.results139,go_sem,y0,y1]) rfl ?_;exact⟨I,_,_,_,_,rfl,st.1 _ _ _ _ _ C.out⟩
theorem lsub_ok(na nb:Bool)(A B:Option Addr)(n c m d:Nat)(a b:Int)(w:World)(ha:Wd w na A n c a)(hb:Wd w nb B m d b)(hs:(a-b).natAbs<pw 4096) :
    Calls Tryz.prog 176 #[.agg #[.bool na,.slice A n c],.agg #[.bool nb,.slice B m d]] w (NumW w (a-b)):=by
 obtain⟨W0,y,h,⟨q0,q1,q2⟩,s0⟩:=Zd0 w 39 #[.bool na,.slice A n c] 39 #[.bool nb,.slice B m d] 39 #[.bool false,.slice none 0 0];have hA:=ha.below h;have hD:=hb.below h;have hC:=Za (Ztp na nb A B n c m d a b W0 hA hD);clear ha hb hA hD;obtain⟨a0,a1,-⟩:=q0.two;obtain⟨b0,b1,-⟩:=q1.two;replace q2:=Za q2;replace hs:=Za hs;clear q0 q1;go_enter Tryz.func176,Tryz.ntmps176;go_wp2_with fail;refine hC.out.mono ?_;rintro e w1 ⟨f,n2,A2,k2,c2,code,rfl,hR⟩;have hN:=hR.small hs.out;have o:=h.trans (f.mono h.size);have s1:=f.size;have q3:=Zc f q2.out;clear f a0 a1 b0 b1 y hR hC q2;obtain⟨V,hV,u,qv,kW,kB,sV⟩:=Zr 39 #[.bool n2,.slice A2 k2 c2] o o.size;have q4:=kB _ _ _ q3;have C:=Za (kW _ _ _ _ _ hN);clear kW kB hN;obtain⟨v0,v1,v2,v3⟩:=qv.two;obtain⟨r0,r1,r2,r3⟩:=q4.two;go_wp2_with fail;obtain⟨X,hX,I,q5,st⟩:=Zas n2 A2 k2 c2 u (by omega) q4;(try rw[hX]);obtain⟨y0,y1,-⟩:=q5.two;refine bodyPost_ret (v:=.agg #[.bool n2,.slice A2 k2 c2]) (by simp[results,Tryz.results176,go_sem,y0,y1]) rfl ?_;exact⟨I,_,_,_,_,rfl,st.1 _ _ _ _ _ C.out⟩
theorem Zpm(na nb:Bool)(A B:Option Addr)(n c m d:Nat)(a b:Int)(w:World)(ha:Wd w na A n c a)(hb:Wd w nb B m d b)(h0:b≠0) :
    Calls Tryz.prog 173 #[.agg #[.bool na,.slice A n c],.agg #[.bool nb,.slice B m d]] w (NumW w (Int.fdiv a b)):=by
 obtain⟨W0,J,o,⟨q0,q1,q2⟩,s0⟩:=Zd0 w 39 #[.bool na,.slice A n c] 39 #[.bool nb,.slice B m d] 39 #[.bool false,.slice none 0 0];have hA:=ha.below o;have hD:=hb.below o;have hC:=Za (Zf8 na nb A B n c m d a b W0 hA hD h0);clear ha hb hA hD;obtain⟨a0,a1,-⟩:=q0.two;obtain⟨b0,b1,-⟩:=q1.two;replace q2:=Za q2;replace h0:=Za h0;clear q0 q1;go_enter Tryz.func173,Tryz.ntmps173;go_wp2_with fail;refine hC.out.mono ?_;rintro e w1 ⟨h,n2,A2,k2,c2,n3,A3,k3,c3,rfl,hN,-⟩;have y:=o.trans (h.mono o.size);have s1:=h.size;have q3:=Zc h q2.out;clear h a0 a1 b0 b1 J hC q2;obtain⟨V,hV,I,qv,kW,kB,sV⟩:=Zr 39 #[.bool n2,.slice A2 k2 c2] y y.size;have q4:=kB _ _ _ q3;have u:=kW _ _ _ _ _ hN;clear kW kB hN;obtain⟨V2,f,C,T,kW,kB,U⟩:=Zr 39 #[.bool n3,.slice A3 k3 c3] I (by omega);replace q4:=kB _ _ _ q4;replace qv:=kB _ _ _ qv;replace u:=Za (kW _ _ _ _ _ u);clear kW kB;obtain⟨v0,v1,v2,v3⟩:=qv.two;obtain⟨r0,r1,r2,r3⟩:=q4.two;rw[<- hV]at f;rw[<- f]at v0 v1 v2 v3 r0 r1 r2 r3;replace f:=Za f;clear hV;go_wp2_with fail;(try rw[f.out]);obtain⟨X,hX,O,q5,st⟩:=Zas n2 A2 k2 c2 C (by omega) q4;(try rw[hX]);obtain⟨y0,y1,-⟩:=q5.two;refine bodyPost_ret (v:=.agg #[.bool n2,.slice A2 k2 c2]) (by simp[results,Tryz.results173,go_sem,y0,y1]) rfl ?_;exact⟨O,_,_,_,_,rfl,st.1 _ _ _ _ _ u.out⟩
theorem Zwp(neg:Bool)(A:Option Addr)(n c:Nat)(w:World)(hn:n<=1000000000)(b:Bool)(hb:((n:Int) == 0)=b) :
    Calls Tryz.prog 174 #[.agg #[.bool neg,.slice A n c]] w λe w'=>e=.returned (.bool b)/\Below w.heap.size w w':=by
 go_enter Tryz.func174,Tryz.ntmps174;go_wp2_with fail;go_ret;exact⟨rfl,by go_grown⟩
theorem Zjf(na nb:Bool)(A B:Option Addr)(n c m d:Nat)(za zb:Int)(w:World)(ha:Wd w na A n c za)(hb:Wd w nb B m d zb) :
    Calls Tryz.prog 119 #[.agg #[.bool na,.slice A n c],.agg #[.bool nb,.slice B m d]] w (ResW w (za+zb)):=by
 have T:=ha.lim;have J:=hb.lim;have hn:=ha.2.1;have hm:=hb.2.1;have y:∀ X Y Z V:Obj,Below w.heap.size w ((((w.alloc X).alloc Y).alloc Z).alloc V):=λX Y Z V=>((((Qf w.heap.size w).alloc (Qe _) _).alloc (by simp) _).alloc (by simp;omega) _).alloc (by simp;omega) _
 have hW:∀ X Y Z t,WL ((((w.alloc X).alloc Y).alloc Z).alloc (.cells #[.bool na,.slice A n c,.bool nb,.slice B m d] t)) (some ⟨w.heap.size+1+1+1,0,none⟩) 2 2 [⟨na,A,n,c,digits za.natAbs⟩,⟨nb,B,m,d,digits zb.natAbs⟩]:=λX Y Z t=>by
  have:=WL.two (neg:=na) (neg':=nb) (((T.alloc X).alloc Y).alloc Z) (((J.alloc X).alloc Y).alloc Z) t;simp only[QH]at this;exact this
 have hW:=Za hW;have y:=Za y;have C:Hid (okW na (digits za.natAbs)=true/\okW nb (digits zb.natAbs)=true):=⟨ha.ok,hb.ok⟩;have a5:=Za ha.sgEq;have a2:=Za hb.sgEq;clear ha hb;go_enter Tryz.func119,Tryz.ntmps119;go_wp2_with fail;refine(Zdc (hW.out _ _ _ _) (by have:=C.out;simp[WE.ok,this])).mono ?_;rintro e w1 ⟨rfl,f⟩;obtain⟨h,a0⟩:=Zdh f;have a6:w.heap.size+1+1+1<w1.heap.size:=by have:=f.size;simp at this;omega
 have o:Below w.heap.size w w1:=(y.out _ _ _ _).trans (f.mono (by simp;omega));have g0:w1.cell? ⟨w.heap.size,0,none⟩=some (.bool na):=by simp[h,go_sem]
 have g1:w1.cell? ⟨w.heap.size,1,none⟩=some (.slice A n c):=by simp[h,go_sem]
 have g2:w1.cell? ⟨w.heap.size+1,0,none⟩=some (.bool nb):=by simp[h,go_sem]
 have g3:w1.cell? ⟨w.heap.size+1,1,none⟩=some (.slice B m d):=by simp[h,go_sem]
 have gf:w1.frozen? ⟨w.heap.size+1,0,none⟩=false:=by simp[a0,go_sem]
 have gB:Blk w1 (w.heap.size+1) 39 #[.bool nb,.slice B m d]:=by
  refine Zc f ((Blk.alloc (Blk.alloc ?_ _) _));have:=QX (w.alloc (.cells #[.bool na,.slice A n c] 39)) 39 #[.bool nb,.slice B m d];simp only[QH]at this;exact this
 have g7:Blk w1 (w.heap.size+1+1) 39 #[.bool false,.slice none 0 0]:=by
  refine Zc f (Blk.alloc ?_ _);have:=QX ((w.alloc (.cells #[.bool na,.slice A n c] 39)).alloc (.cells #[.bool nb,.slice B m d] 39)) 39 #[.bool false,.slice none 0 0];simp only[QH]at this;exact this
 have U:=T.below o;have I:=J.below o;have HB:=Za gB;clear gB h a0;go_wp2_with fail;refine(Zvw _ _ _ _ _ _ _ _ _ _ _ (by exact U) (by exact I) hn hm).mono ?_;rintro e w2 ⟨O,a1,A2,n2,c2,u,rfl,a3⟩;have a4:Below w.heap.size w w2:=o.trans (O.mono o.size);have m7:=Zc O g7;have m3:=m7.cell 0;have m4:=m7.cell 1;have m5:=m7.frozen 0;have m6:=m7.frozen 1;simp at m3 m4;have HM:=Za m7;clear m7;go_wp2_with fail
 have HZ:sg na za.natAbs+sg nb zb.natAbs=za+zb:=by
  have h1:=a5.out;have h2:=a2.out;rw[Zj]at h1 h2;rw[h1,h2]
 refine bodyPost_ret (v:=.tuple #[.agg #[.bool a1,.slice A2 n2 c2],.int .i64 u]) (by simp[results,Tryz.results119,go_sem,m3,m4]) rfl ?_;exact ResW.box (HZ▸a3) a4 (by omega) HM.out
attribute [local go_sem] Zg Oper.semAt_some
def Zb9(ws:List Int)(a b:Nat->Int):Nat->Int
 | 0=>0
 | i+1=>Zb9 ws a b i+(ws[i]?.getD 0)*(a i*b i)
def Zih(v:Value)(z:Int)(w:World):Prop:=∃ na A n c,v=.agg #[.bool na,.slice A n c]/\Wd w na A n c z
def numT(v:Value)(z:Int)(w:World):Prop:=∃ na A n c,v=.tuple #[.agg #[.bool na,.slice A n c],.int .i64 0]/\Wd w na A n c z
theorem Zdm{v:Value}{z:Int}{w w':World}(hb:Below w.heap.size w w')(h:Zih v z w):Zih v z w':=by
 obtain⟨na,A,n,c,e,hf⟩:=h;exact⟨na,A,n,c,e,hf.below hb⟩
theorem Zt9{v:Value}{z:Int}{w w':World}(hb:Below w.heap.size w w')(h:numT v z w):numT v z w':=by
 obtain⟨na,A,n,c,e,hf⟩:=h;exact⟨na,A,n,c,e,hf.below hb⟩
def Zde(x a b s:Int)(i:Nat)(v:Value)(w:World):Prop:=
 if i=2 then Zih v x w else if i=5 then v=.int .i64 a else if i=6 then Zih v a w else if i=9 then v=.int .i64 b else if i=10 then Zih v b w
 else if i=11 then Zih v (a*b) w else if i=12 then Zih v (x*(a*b)) w else if i=13 \/ i=14 then numT v (s+x*(a*b)) w else if i=15 then Zih v (s+x*(a*b)) w else if i=16 then v=.int .i64 0 else True
theorem Zl0{x a b s:Int}{i:Nat}{v:Value}{w w':World}(hb:Below w.heap.size w w')(h:Zde x a b s i v w):Zde x a b s i v w':=by
 unfold Zde at h ⊢
 split at h
 rename_i e;rw[Gx e];exact Zdm hb h;rename_i e;rw[Gw e];clear e
 split at h
 rename_i e;rw[Gx e];exact h;rename_i e;rw[Gw e];clear e
 split at h
 rename_i e;rw[Gx e];exact Zdm hb h;rename_i e;rw[Gw e];clear e
 split at h
 rename_i e;rw[Gx e];exact h;rename_i e;rw[Gw e];clear e
 split at h
 rename_i e;rw[Gx e];exact Zdm hb h;rename_i e;rw[Gw e];clear e
 split at h
 rename_i e;rw[Gx e];exact Zdm hb h;rename_i e;rw[Gw e];clear e
 split at h
 rename_i e;rw[Gx e];exact Zdm hb h;rename_i e;rw[Gw e];clear e
 split at h
 rename_i e;rw[Gx e];exact Zt9 hb h;rename_i e;rw[Gw e];clear e
 split at h
 rename_i e;rw[Gx e];exact Zdm hb h;rename_i e;rw[Gw e];clear e
 split at h
 rename_i e;rw[Gx e];exact h;rename_i e;rw[Gw e];trivial
def Zeq(B0:Nat)(q:Rat)(i:Nat)(v:Value)(w:World):Prop:=
 if i=1 then Zih v 1 w else Zaj B0 q 2 3 4 5 6 5 i v w
theorem Zm7{B0:Nat}{q:Rat}{i:Nat}{v:Value}{w w':World}(hb:Below w.heap.size w w')(h:Zeq B0 q i v w):Zeq B0 q i v w':=by
 unfold Zeq at h ⊢
 split at h
 rename_i e;rw[Gx e];exact Zdm hb h;rename_i e;rw[Gw e];exact Zhi hb h
theorem Zpw{z:Int}(h:I64 z):z.natAbs<=9223372036854775808:=by unfold I64 at h;omega
theorem big6:9223372036854775808*(9223372036854775808*9223372036854775808)*1000<pw 4096:=
 Qk (show _<pw 7 from by decide) (Zb4 (by decide))
theorem Zoe{a b:Int}(ha:I64 a)(hb:I64 b):(a*b).natAbs<=9223372036854775808*9223372036854775808:=by
 rw[Qh];exact Nat.mul_le_mul (Zpw ha) (Zpw hb)
theorem Zle{x a b:Int}(hx:I64 x)(ha:I64 a)(hb:I64 b):(x*(a*b)).natAbs<=9223372036854775808*(9223372036854775808*9223372036854775808):=by
 rw[Qh];exact Nat.mul_le_mul (Zpw hx) (Zoe ha hb)
theorem Zzs{a b:Int}(ha:I64 a)(hb:I64 b):(a*b).natAbs<pw 4096:=
 Qd (Zoe ha hb) (Nat.lt_trans (by decide) big6)
theorem Zsp{x a b:Int}(hx:I64 x)(ha:I64 a)(hb:I64 b):(x*(a*b)).natAbs<pw 4096:=
 Qd (Zle hx ha hb) (Nat.lt_trans (by decide) big6)
theorem Zif{l:List Int}(h:∀ x ∈ l,I64 x)(i:Nat):I64 (l[i]?.getD 0):=by
 rcases Nat.lt_or_ge i l.length with h1|h1;rw[Qb h1];exact h _ (List.getElem_mem _);rw[Qo h1];unfold I64;decide
theorem Zol{ws:List Int}{a b:Nat->Int}(hw:∀ x ∈ ws,I64 x):∀ (i:Nat),(∀ j,j<i->I64 (a j)/\I64 (b j))->(Zb9 ws a b i).natAbs<=9223372036854775808*(9223372036854775808*9223372036854775808)*i
 | 0,_=>by simp[Zb9]
 | i+1,h=>by
  have h1:=Zol hw i (λj hj=>h j (by omega));have h2:=Zle (Zif hw i) (h i (by omega)).1 (h i (by omega)).2;have h3:=Int.natAbs_add_le (Zb9 ws a b i) ((ws[i]?.getD 0)*(a i*b i));rw[Nat.mul_add,Nat.mul_one];show (Zb9 ws a b i+(ws[i]?.getD 0)*(a i*b i)).natAbs<=_;exact QF h3 (Nat.add_le_add h1 h2)
theorem Zu9{ws:List Int}{a b:Nat->Int}(hw:∀ x ∈ ws,I64 x){i:Nat}(hi:i<=1000)(h:∀ j,j<i->I64 (a j)/\I64 (b j)):(Zb9 ws a b i).natAbs<pw 4096:=
 Qd (Zol hw i h) (Qd (Nat.mul_le_mul_left _ hi) big6)
theorem Wd.same{w:World}{na:Bool}{A:Option Addr}{n c:Nat}{y z:Int}(h:Wd w na A n c y)(e:y=z):Wd w na A n c z:=e▸h
theorem Zg5(z:Int):QD z 1=(z:Rat):=by
 have h:=QL ((z:Int):Rat);rw[Rat.num_intCast,QT]at h;exact h
theorem dot2{x a b s:Int}{v:Value}{w:World}(h:Zde x a b s 2 v w):Zih v x w:=h
theorem dot5{x a b s:Int}{v:Value}{w:World}(h:Zde x a b s 5 v w):v=.int .i64 a:=h
theorem dot6{x a b s:Int}{v:Value}{w:World}(h:Zde x a b s 6 v w):Zih v a w:=h
theorem dot9{x a b s:Int}{v:Value}{w:World}(h:Zde x a b s 9 v w):v=.int .i64 b:=h
theorem Zvz{x a b s:Int}{v:Value}{w:World}(h:Zde x a b s 10 v w):Zih v b w:=h
theorem Zvi{x a b s:Int}{v:Value}{w:World}(h:Zde x a b s 11 v w):Zih v (a*b) w:=h
theorem Zvg{x a b s:Int}{v:Value}{w:World}(h:Zde x a b s 12 v w):Zih v (x*(a*b)) w:=h
theorem Zvn{x a b s:Int}{v:Value}{w:World}(h:Zde x a b s 13 v w):numT v (s+x*(a*b)) w:=h
theorem dot14{x a b s:Int}{v:Value}{w:World}(h:Zde x a b s 14 v w):numT v (s+x*(a*b)) w:=h
theorem dot15{x a b s:Int}{v:Value}{w:World}(h:Zde x a b s 15 v w):Zih v (s+x*(a*b)) w:=h
theorem dot16{x a b s:Int}{v:Value}{w:World}(h:Zde x a b s 16 v w):v=.int .i64 0:=h
theorem end1{B0:Nat}{q:Rat}{v:Value}{w:World}(h:Zeq B0 q 1 v w):Zih v 1 w:=h
theorem Z0b(Fa Fb:FuncId)(v0 v1 u0 u1:Value)(A:Option Addr)(n c:Nat)(ws:List Int)(a b:Nat->Int)(w:World)(h:LimI w A n c ws)(hn:n<=900)
    (ha:∀ i,i<n->I64 (a i)) (hb:∀ i,i<n->I64 (b i))
    (hca:∀ (x:Value) (W:World),(callFunc Fa #[x,v0,v1]).run Tryz.prog W=.ok (.enter Fa #[x,v0,v1]) W)
    (hcb:∀ (x:Value) (W:World),(callFunc Fb #[x,u0,u1]).run Tryz.prog W=.ok (.enter Fb #[x,u0,u1]) W)
    (hA:∀ (W:World) (i:Nat),Below w.heap.size w W->i<n->Calls Tryz.prog Fa #[.int .i64 i,v0,v1] W λe W'=>e=.returned (.int .i64 (a i))/\Below W.heap.size W W')
    (hB:∀ (W:World) (i:Nat),Below w.heap.size w W->i<n->Calls Tryz.prog Fb #[.int .i64 i,u0,u1] W λe W'=>e=.returned (.int .i64 (b i))/\Below W.heap.size W W') :
    Calls Tryz.prog 94 #[.slice A n c,.func (.func Fa) #[] #[v0,v1],.func (.func Fb) #[] #[u0,u1]] w (Zfj w ((Zb9 ws a b n:Int):Rat)):=by
 have hmx:=Gt
 have f8:=h.1;have g0:=h.2.1;have f6:=h.2.2.1;unfold maxLen at f6;have e7:=Za h.2.2.2.1;have hg:=Za h.2.2.2.2;replace hA:=Za hA;replace hB:=Za hB;have e4:=Za ha;have e8:=Za hb;clear h ha hb;obtain⟨W0,e3,e5,⟨q0,q1⟩,s0⟩:=Zdb w 41 #[.bool false,.slice none 0 0,.bool false,.slice none 0 0] 39 #[.bool false,.slice none 0 0];obtain⟨gr,a5⟩:=Gz w.heap.size;rw[a5]at q0 q1;obtain⟨gs,a6⟩:=Gz (gr+1);rw[a6]at q1;have e9:w.heap.size<=gr:=by omega
 have d8:w.heap.size<=gs:=by omega
 have d7:gr≠gs:=by omega
 have e2:Wd W0 false none 0 0 0:=Wd.zero _;go_enter Tryz.func94,Tryz.ntmps94;go_wp2_with fail;(try rw[e3]);(try rw[a5]);(try rw[a6]);replace a5:=Za a5;replace a6:=Za a6;clear e3 s0
 go_loopw [14] (λiv wr=>∃ (i:Nat) (sn:Bool) (sA:Option Addr) (sk sc:Nat),i<=n/\iv=.int .i64 i/\Wd wr sn sA sk sc (Zb9 ws a b i)/\Blk wr gs 39 #[.bool sn,.slice sA sk sc]/\Blk wr gr 41 #[.bool false,.slice none 0 0,.bool false,.slice none 0 0]/\Below w.heap.size w wr) (λiv _=>n-(intOf iv).toNat)
 case atStart=>exact⟨0,false,none,0,0,QJ _,rfl,e2,q1,q0,e5⟩
 case round =>
  clear q0 q1 e5 e2;obtain⟨i,sn,sA,sk,sc,f9,rfl,hs,qs,qr,O⟩:=hrel;obtain⟨s0,s1,s2,s3⟩:=qs.two;replace hs:=Za hs;replace qs:=Za qs;replace qr:=Za qr;by_cases hin:i<n
  case neg =>
   obtain rfl:n=i:=by omega
   have f0:decide ((n:Int)<(n:Int))=false:=by simp
   generalize Zb9 ws a b n=D at *;go_wp2_with fail;have T:Hid (∀ wx,Below wr.heap.size wr wx->wx.cell? ⟨gs,0,none⟩=some (.bool sn)/\wx.cell? ⟨gs,1,none⟩=some (.slice sA sk sc)):=Za (λwx f=>⟨Zb f s0,Zb f s1⟩);have J:Below wr.heap.size wr wr.drew:=Zf (Qf _ _) 1;refine wp_heldS [] hmx T J (λhxs2=>?_);refine Zjw 1 [0] rfl (by kernel_rfl) (T.out _ J) ?_
   (refine tkA ?_;try simp only[Qi,Zg4,Zgk,Zgx,Gr,Gq,Gp])
   refine tk0 ?_;refine Za2 [(1,39),(2,40),(3,37),(4,41),(6,10)] (λi=>match i with|3=>[5]|_=>[]) [(1,39),(2,40),(3,37),(5,42),(4,41),(6,10)] (Zeq wr.heap.size (D:Rat)) 2 (by kernel_rfl) (λ_ _ _ _ _ hb h=>Zm7 hb h) (λwx h=>T.out _ (J.trans (h.mono J.size))) ?hop2 ?hfin2
   case hop2 =>
    intro p hp;simp only[QB,Qw,or_false]at hp;simp only[Qj,Qm,Zap,Qi,Zg4,Zgk,Zgx];rcases hp with rfl|rfl|rfl|rfl|rfl
    ·intro ν wx hb hP
     refine Zl (i:=1) rfl (λK hK=>?_);go_simp;refine(Zbf 1 wx (by decide) (by decide)).mono ?_;rintro e w5 ⟨I,U,A5,k5,c5,rfl,y⟩;exact hK.out _ _ ⟨_,rfl,(by simp only[Zeq,Zaj];exact⟨_,_,_,_,rfl,y⟩),I,trivial⟩
    ·intro ν wx hb hP
     have f:=J.trans (hb.mono J.size);have h3:=end1 (hP (1,39) (by simp) (by kernel_rfl));obtain⟨a4,A3,k3,c3,hν3,Y⟩:=h3;rw[hν3];obtain rfl:a4=false:=Y.1;refine Zl (i:=2) rfl (λK hK=>?_);go_simp;refine(Zfi sn sA A3 sk sc k3 c3 D 1 wx (hs.out.below f) Y (by decide)).mono ?_;rintro e w5 ⟨I,U,A5,k5,c5,e1,B5,m5,d5,rfl,y⟩;rw[Zg5]at y;exact hK.out _ _ ⟨_,rfl,(by simp only[Zeq,Zaj];exact⟨_,_,_,_,_,_,_,_,rfl,y⟩),I,trivial⟩
    ·intro ν wx hb hP
     have h0:=hP (2,40) (by simp) (by kernel_rfl);simp only[Zeq,Zaj]at h0;obtain⟨U,A5,k5,c5,e1,B5,m5,d5,hν,y⟩:=h0;rw[hν];refine Zl (i:=3) rfl (λK hK=>?_);go_simp;refine hK.out _ _ ⟨_,rfl,(by simp only[Zeq,Zaj];exact⟨_,_,_,_,_,_,_,_,rfl,y⟩),Qf _ _,?_⟩;exact⟨_,.int .i64 0,rfl,QM ⟨by kernel_rfl,λW2 _=>by go_simp⟩,by simp[Zeq,Zaj],trivial⟩
    ·intro ν wx hb hP
     have h0:=hP (3,37) (by simp) (by kernel_rfl);simp only[Zeq,Zaj]at h0;obtain⟨U,A5,k5,c5,e1,B5,m5,d5,hν,y⟩:=h0;rw[hν];refine Zl (i:=4) rfl (λK hK=>?_);go_simp;exact hK.out _ _ ⟨_,rfl,(by simp only[Zeq,Zaj];exact⟨_,_,_,_,_,_,_,_,rfl,y⟩),Qf _ _,trivial⟩
    ·intro ν wx hb hP
     refine Zl (i:=6) rfl (λK hK=>?_);go_simp;exact hK.out _ _ ⟨_,rfl,(by simp only[Zeq,Zaj];exact⟨_,rfl,(J.trans (hb.mono J.size)).size,QX _ _ _⟩),(Qf _ _).alloc (Qe _) _,trivial⟩
   case hfin2 =>
    intro ν wx hb hP;have h0:=end1 (hP (1,39) (by simp));have h1:=hP (2,40) (by simp);have h2:=hP (3,37) (by simp);have h3:=hP (5,42) (by simp);have h4:=hP (4,41) (by simp);have h5:=hP (6,10) (by simp);simp only[Zeq,Zaj]at h1 h2 h4 h5;obtain⟨_,_,_,_,h0,-⟩:=h0;obtain⟨_,_,_,_,_,_,_,_,h1,-⟩:=h1;obtain⟨_,_,_,_,_,_,_,_,h2,-⟩:=h2;obtain⟨fn,fA,fk,fc,fm,fB,fj,fd,h4,e6⟩:=h4;obtain⟨gv,h5,kv,qv⟩:=h5;simp only[Qj,Qm,Zap,Qi,Zg4,Zgk,Zgx];rw[h0,h1,h2,(show ν 42=Value.int .i64 0 by simpa [Zeq,Zaj]using h3),h4,h5];clear h0 h1 h2 h3 h4 h5 hP ν;have f:=J.trans (hb.mono J.size);have a9:=Zc f qr.out;have e0:gr≠gv:=by have:=qr.out.lt;omega
    obtain⟨V,hV,f4,q6,kV⟩:=Zal (B:=gv) fn fA fk fc fm fB fj fd (Qf gv wx) (Qe _) qv
    have a7:Below w.heap.size w V:=by
     rw[<- hV];have b9:w.heap.size<=gv:=QF O.size kv;exact((((O.trans (f.mono O.size)).setCell (p:=⟨gv,0,none⟩) b9 _).setCell (p:=⟨gv,1,none⟩) b9 _).setCell (p:=⟨gv,2,none⟩) b9 _).setCell (p:=⟨gv,3,none⟩) b9 _
    have d0:Hid (Below wr.heap.size wr V):=Za (by rw[<- hV];exact(((f.setCell (p:=⟨gv,0,none⟩) kv _).setCell (p:=⟨gv,1,none⟩) kv _).setCell (p:=⟨gv,2,none⟩) kv _).setCell (p:=⟨gv,3,none⟩) kv _);have c7:=Za (Fr.keep e6 kV.1);have a3:=kV.2.1 gr _ _ e0 a9;obtain⟨y0,y1,y2,y3,y4,y5,y6,y7⟩:=qv.four;replace q6:=Za q6;replace a3:=Za a3;replace a7:=Za a7;clear e6 kV a9 f4 qv;refine wpAnyL_o 7 λK hK=>?_;go_simp;(try rw[hV]);refine hK.out _ _ (λ_=>T.out _ (d0.out)) ?_;clear hK K
    try simp only[Qi,Zg4,Zgk,Zgx]
    refine Zgl 1 [8] rfl (by kernel_rfl) (T.out _ d0.out) ?_
    (refine tkA ?_;try simp only[Qi,Zg4,Zgk,Zgx,Gr,Gq,Gp])
    refine tk0 ?_;refine wpAnyL_fin ?_;clear hV y0 y1 y2 y3 y4 y5 y6 y7 f hb J T hxs2 s0 s1 d0;obtain⟨z0,z1,z2,z3,-⟩:=q6.out.four;obtain⟨r0,r1,r2,r3,r4,r5,r6,r7⟩:=a3.out.four;go_wp2_with fail;obtain⟨X,hX,f5,q8,st⟩:=Zal fn fA fk fc fm fB fj fd a7.out e9 a3.out;(try rw[hX]);obtain⟨x0,x1,x2,x3,-⟩:=q8.four;refine bodyPost_ret (v:=.agg #[.bool fn,.slice fA fk fc,.bool fm,.slice fB fj fd]) (by simp[results,Tryz.results94,go_sem,x0,x1,x2,x3]) rfl ?_;exact⟨f5,_,_,_,_,_,_,_,_,rfl,Fr.keep c7.out st.1⟩
  have f0:decide ((i:Int)<(n:Int))=true:=Gv (by omega);obtain⟨g,o,rfl,d6⟩:=hg.out (by omega);have ci:=(O.cell (Zo (d6 i hin))).trans (d6 i hin);clear d6;have hx:=Zif e7.out i;have ha:=e4.out i hin;have b4:=e8.out i hin;have a2:(Zb9 ws a b i+(ws[i]?.getD 0)*(a i*b i)).natAbs<pw 4096:=Zu9 (i:=i+1) e7.out (by omega) (λj hj=>⟨e4.out j (by omega),e8.out j (by omega)⟩);have C:Zb9 ws a b (i+1)=Zb9 ws a b i+(ws[i]?.getD 0)*(a i*b i):=rfl;rw[<- C]at a2;replace C:=Za C;obtain⟨x,c2⟩:=Gz (ws[i]?.getD 0);obtain⟨a0,b1⟩:=Gz (a i);obtain⟨b0,a8⟩:=Gz (b i);obtain⟨s,c8⟩:=Gz (Zb9 ws a b i);replace C:=C.out;rw[c2,b1,a8,c8]at C;rw[C]at a2;rw[c2]at hx ci;rw[b1]at ha;rw[a8]at b4;rw[c8]at hs;replace a2:=Za a2;replace C:=Za C;replace b1:=Za b1;replace a8:=Za a8;clear c2 c8;go_wp2_with fail;have a1:Hid (∀ wx,Below wr.heap.size wr wx->wx.cell? ⟨g,o+i,none⟩=some (.int .i64 x)/\wx.cell? ⟨gs,0,none⟩=some (.bool sn)/\wx.cell? ⟨gs,1,none⟩=some (.slice sA sk sc)):=Za (λwx f=>⟨Zb f ci,Zb f s0,Zb f s1⟩);have u:Below wr.heap.size wr wr.drew:=Zf (Qf _ _) 1;refine wp_heldS [17] hmx a1 u (λhxs1=>?_);refine Zjw 1 [0] rfl (by kernel_rfl) (a1.out _ u) ?_
  (refine tkA ?_;try simp only[Qi,Zg4,Zgk,Zgx,Gr,Gq,Gp])
  refine tk0 ?_;refine Zgl 5 [1,3,4,7,8] rfl (by kernel_rfl) (a1.out _ u) ?_
  iterate 5 (refine tkA ?_;try simp only[Qi,Zg4,Zgk,Zgx,Gr,Gq,Gp])
  refine tk0 ?_;refine Za2 [(2,22),(5,25),(6,26),(9,29),(10,30),(11,31),(12,32),(13,33),(14,19)] (λi=>match i with|14=>[15,16]|_=>[]) [(2,22),(5,25),(6,26),(9,29),(10,30),(11,31),(12,32),(13,33),(14,19),(15,34),(16,35)] (Zde x a0 b0 s) 1 (by kernel_rfl) (λ_ _ _ _ _ hb h=>Zl0 hb h) (λwx h=>a1.out _ (u.trans (h.mono u.size))) ?hop1 ?hfin1
  case hop1 =>
   intro p hp;simp only[QB,Qw,or_false]at hp;simp only[Qj,Qm,Zap,Qi,Zg4,Zgk,Zgx];rcases hp with rfl|rfl|rfl|rfl|rfl|rfl|rfl|rfl|rfl
   ·intro ν wx hb hP
    have f:=u.trans (hb.mono u.size);refine Zl (i:=2) rfl (λK hK=>?_);go_simp;refine(Zbf x wx hx.1 hx.2).mono ?_;rintro e w5 ⟨I,U,A5,k5,c5,rfl,y⟩;exact hK.out _ _ ⟨_,rfl,(by simp only[Zde];exact⟨_,_,_,_,rfl,y⟩),I,trivial⟩
   ·intro ν wx hb hP
    have f:=u.trans (hb.mono u.size);refine Zl (i:=5) rfl (λK hK=>?_);go_simp;refine(hA.out wx i (O.trans (f.mono O.size)) hin).mono ?_;rintro e w5 ⟨rfl,I⟩;exact hK.out _ _ ⟨_,rfl,(show Value.int .i64 _=Value.int .i64 _ from by rw[b1.out]),I,trivial⟩
   ·intro ν wx hb hP
    have f:=u.trans (hb.mono u.size);have h3:=hP (5,25) (by simp) (by kernel_rfl);replace h3:=dot5 h3;rw[h3];refine Zl (i:=6) rfl (λK hK=>?_);go_simp;refine(Zbf a0 wx ha.1 ha.2).mono ?_;rintro e w5 ⟨I,U,A5,k5,c5,rfl,y⟩;exact hK.out _ _ ⟨_,rfl,(by simp only[Zde];exact⟨_,_,_,_,rfl,y⟩),I,trivial⟩
   ·intro ν wx hb hP
    have f:=u.trans (hb.mono u.size);refine Zl (i:=9) rfl (λK hK=>?_);go_simp;refine(hB.out wx i (O.trans (f.mono O.size)) hin).mono ?_;rintro e w5 ⟨rfl,I⟩;exact hK.out _ _ ⟨_,rfl,(show Value.int .i64 _=Value.int .i64 _ from by rw[a8.out]),I,trivial⟩
   ·intro ν wx hb hP
    have f:=u.trans (hb.mono u.size);have h3:=hP (9,29) (by simp) (by kernel_rfl);replace h3:=dot9 h3;rw[h3];refine Zl (i:=10) rfl (λK hK=>?_);go_simp;refine(Zbf b0 wx b4.1 b4.2).mono ?_;rintro e w5 ⟨I,U,A5,k5,c5,rfl,y⟩;exact hK.out _ _ ⟨_,rfl,(by simp only[Zde];exact⟨_,_,_,_,rfl,y⟩),I,trivial⟩
   ·intro ν wx hb hP
    have f:=u.trans (hb.mono u.size);have h3:=hP (6,26) (by simp) (by kernel_rfl);replace h3:=dot6 h3;obtain⟨a4,A3,k3,c3,hν3,Y⟩:=h3;rw[hν3];have h4:=hP (10,30) (by simp) (by kernel_rfl);replace h4:=Zvz h4;obtain⟨b2,A4,k4,c4,hν4,b3⟩:=h4;rw[hν4];refine Zl (i:=11) rfl (λK hK=>?_);go_simp;refine(Zfo a4 b2 A3 A4 k3 c3 k4 c4 _ _ wx Y b3 (Zzs ha b4)).mono ?_;rintro e w5 ⟨I,U,A5,k5,c5,rfl,y⟩;exact hK.out _ _ ⟨_,rfl,(by simp only[Zde];exact⟨_,_,_,_,rfl,y⟩),I,trivial⟩
   ·intro ν wx hb hP
    have f:=u.trans (hb.mono u.size);have h3:=hP (2,22) (by simp) (by kernel_rfl);replace h3:=dot2 h3;obtain⟨a4,A3,k3,c3,hν3,Y⟩:=h3;rw[hν3];have h4:=hP (11,31) (by simp) (by kernel_rfl);replace h4:=Zvi h4;obtain⟨b2,A4,k4,c4,hν4,b3⟩:=h4;rw[hν4];refine Zl (i:=12) rfl (λK hK=>?_);go_simp;refine(Zfo a4 b2 A3 A4 k3 c3 k4 c4 _ _ wx Y b3 (Zsp hx ha b4)).mono ?_;rintro e w5 ⟨I,U,A5,k5,c5,rfl,y⟩;exact hK.out _ _ ⟨_,rfl,(by simp only[Zde];exact⟨_,_,_,_,rfl,y⟩),I,trivial⟩
   ·intro ν wx hb hP
    have f:=u.trans (hb.mono u.size);have h4:=hP (12,32) (by simp) (by kernel_rfl);replace h4:=Zvg h4;obtain⟨b2,A4,k4,c4,hν4,b3⟩:=h4;rw[hν4];refine Zl (i:=13) rfl (λK hK=>?_);go_simp;refine(Zjf sn b2 sA A4 sk sc k4 c4 _ _ wx (hs.out.below f) b3).mono ?_;rintro e w5 ⟨I,U,A5,k5,c5,code,rfl,hR⟩;rcases hR with ⟨_,rfl,y⟩|⟨f3,_⟩;exact hK.out _ _ ⟨_,rfl,(by simp only[Zde];exact⟨_,_,_,_,rfl,y⟩),I,trivial⟩;exact absurd f3 (Nat.not_le.2 a2.out)
   ·intro ν wx hb hP
    have f:=u.trans (hb.mono u.size);have h3:=hP (13,33) (by simp) (by kernel_rfl);replace h3:=Zvn h3;obtain⟨a4,A3,k3,c3,hν3,Y⟩:=h3;rw[hν3];refine Zl (i:=14) rfl (λK hK=>?_);go_simp;refine hK.out _ _ ⟨_,rfl,(by simp only[Zde];exact⟨_,_,_,_,rfl,Y⟩),Qf _ _,?_⟩;refine⟨_,.agg #[.bool a4,.slice A3 k3 c3],rfl,QM ⟨by kernel_rfl,λW2 _=>by go_simp⟩,(by simp only[Zde];exact⟨_,_,_,_,rfl,Y⟩),?_⟩;exact⟨_,.int .i64 0,rfl,QM ⟨by kernel_rfl,λW2 _=>by go_simp⟩,rfl,trivial⟩
  case hfin1 =>
   intro ν wx hb hP;have h2:=dot2 (hP (2,22) (by simp));have h5:=dot5 (hP (5,25) (by simp));have h6:=dot6 (hP (6,26) (by simp));have h9:=dot9 (hP (9,29) (by simp));have b5:=Zvz (hP (10,30) (by simp));have b7:=Zvi (hP (11,31) (by simp));have b8:=Zvg (hP (12,32) (by simp));have b6:=Zvn (hP (13,33) (by simp));have c1:=dot14 (hP (14,19) (by simp));have c0:=dot15 (hP (15,34) (by simp));have d9:=dot16 (hP (16,35) (by simp));obtain⟨_,_,_,_,h2,-⟩:=h2;obtain⟨_,_,_,_,h6,-⟩:=h6;obtain⟨_,_,_,_,b5,-⟩:=b5;obtain⟨_,_,_,_,b7,-⟩:=b7;obtain⟨_,_,_,_,b8,-⟩:=b8;obtain⟨_,_,_,_,b6,-⟩:=b6;obtain⟨_,_,_,_,c1,-⟩:=c1;obtain⟨n5,A5,k5,c5,c0,y⟩:=c0;simp only[Qj,Qm,Zap,Qi,Zg4,Zgk,Zgx];rw[h2,h5,h6,h9,b5,b7,b8,b6,c1,c0,d9];clear h2 h5 h6 h9 b5 b7 b8 b6 c1 c0 d9 hP ν;have f:=u.trans (hb.mono u.size);have c9:=Zc f qs.out;have a9:=Zc f qr.out;obtain⟨W6,d3,f7,q6,d4⟩:=Zas (B:=gs) n5 A5 k5 c5 (Qf gs wx) (Qe _) c9
   have c6:Below w.heap.size w W6:=by
    rw[<- d3];exact((O.trans (f.mono O.size)).setCell (p:=⟨gs,0,none⟩) d8 _).setCell (p:=⟨gs,1,none⟩) d8 _
   have c7:=Za (d4.1 _ _ _ _ _ y);have a3:=d4.2.1 gr _ _ d7 a9;obtain⟨y0,y1,y2,y3⟩:=c9.two;replace q6:=Za q6;replace a3:=Za a3;replace c6:=Za c6;clear y d4 c9 a9 f7;refine Zm (i:=17) rfl (by kernel_rfl) (by kernel_rfl) (λK hK=>?_);go_simp;(try rw[d3]);refine hK.out _ _ ?_;clear hK K
   try simp only[Qi,Zg4,Zgk,Zgx]
   refine wpAnyL_fin ?_;clear d3 y0 y1 y2 y3 f hb u a1 hxs1 ci s0 s1;go_wp2_with fail
   go_roundw
   case rel=>exact⟨i+1,n5,A5,k5,c5,by omega,by go_num,c7.out.same C.out.symm,q6.out,a3.out,c6.out⟩
   case measure=>simp[intOf];omega
theorem Zzo(Fa Fb:FuncId)(v0 v1 u0:Value)(A:Option Addr)(n c:Nat)(ws:List Int)(a b:Nat->Int)(w:World)(h:LimI w A n c ws)(hn:n<=900)
    (ha:∀ i,i<n->I64 (a i)) (hb:∀ i,i<n->I64 (b i))
    (hca:∀ (x:Value) (W:World),(callFunc Fa #[x,v0,v1]).run Tryz.prog W=.ok (.enter Fa #[x,v0,v1]) W)
    (hcb:∀ (x:Value) (W:World),(callFunc Fb #[x,u0]).run Tryz.prog W=.ok (.enter Fb #[x,u0]) W)
    (hA:∀ (W:World) (i:Nat),Below w.heap.size w W->i<n->Calls Tryz.prog Fa #[.int .i64 i,v0,v1] W λe W'=>e=.returned (.int .i64 (a i))/\Below W.heap.size W W')
    (hB:∀ (W:World) (i:Nat),Below w.heap.size w W->i<n->Calls Tryz.prog Fb #[.int .i64 i,u0] W λe W'=>e=.returned (.int .i64 (b i))/\Below W.heap.size W W') :
    Calls Tryz.prog 94 #[.slice A n c,.func (.func Fa) #[] #[v0,v1],.func (.func Fb) #[] #[u0]] w (Zfj w ((Zb9 ws a b n:Int):Rat)):=by
 have hmx:=Gt
 have f8:=h.1;have g0:=h.2.1;have f6:=h.2.2.1;unfold maxLen at f6;have e7:=Za h.2.2.2.1;have hg:=Za h.2.2.2.2;replace hA:=Za hA;replace hB:=Za hB;have e4:=Za ha;have e8:=Za hb;clear h ha hb;obtain⟨W0,e3,e5,⟨q0,q1⟩,s0⟩:=Zdb w 41 #[.bool false,.slice none 0 0,.bool false,.slice none 0 0] 39 #[.bool false,.slice none 0 0];obtain⟨gr,a5⟩:=Gz w.heap.size;rw[a5]at q0 q1;obtain⟨gs,a6⟩:=Gz (gr+1);rw[a6]at q1;have e9:w.heap.size<=gr:=by omega
 have d8:w.heap.size<=gs:=by omega
 have d7:gr≠gs:=by omega
 have e2:Wd W0 false none 0 0 0:=Wd.zero _;go_enter Tryz.func94,Tryz.ntmps94;go_wp2_with fail;(try rw[e3]);(try rw[a5]);(try rw[a6]);replace a5:=Za a5;replace a6:=Za a6;clear e3 s0
 go_loopw [14] (λiv wr=>∃ (i:Nat) (sn:Bool) (sA:Option Addr) (sk sc:Nat),i<=n/\iv=.int .i64 i/\Wd wr sn sA sk sc (Zb9 ws a b i)/\Blk wr gs 39 #[.bool sn,.slice sA sk sc]/\Blk wr gr 41 #[.bool false,.slice none 0 0,.bool false,.slice none 0 0]/\Below w.heap.size w wr) (λiv _=>n-(intOf iv).toNat)
 case atStart=>exact⟨0,false,none,0,0,QJ _,rfl,e2,q1,q0,e5⟩
 case round =>
  clear q0 q1 e5 e2;obtain⟨i,sn,sA,sk,sc,f9,rfl,hs,qs,qr,O⟩:=hrel;obtain⟨s0,s1,s2,s3⟩:=qs.two;replace hs:=Za hs;replace qs:=Za qs;replace qr:=Za qr;by_cases hin:i<n
  case neg =>
   obtain rfl:n=i:=by omega
   have f0:decide ((n:Int)<(n:Int))=false:=by simp
   generalize Zb9 ws a b n=D at *;go_wp2_with fail;have T:Hid (∀ wx,Below wr.heap.size wr wx->wx.cell? ⟨gs,0,none⟩=some (.bool sn)/\wx.cell? ⟨gs,1,none⟩=some (.slice sA sk sc)):=Za (λwx f=>⟨Zb f s0,Zb f s1⟩);have J:Below wr.heap.size wr wr.drew:=Zf (Qf _ _) 1;refine wp_heldS [] hmx T J (λhxs2=>?_);refine Zjw 1 [0] rfl (by kernel_rfl) (T.out _ J) ?_
   (refine tkA ?_;try simp only[Qi,Zg4,Zgk,Zgx,Gr,Gq,Gp])
   refine tk0 ?_;refine Za2 [(1,39),(2,40),(3,37),(4,41),(6,10)] (λi=>match i with|3=>[5]|_=>[]) [(1,39),(2,40),(3,37),(5,42),(4,41),(6,10)] (Zeq wr.heap.size (D:Rat)) 2 (by kernel_rfl) (λ_ _ _ _ _ hb h=>Zm7 hb h) (λwx h=>T.out _ (J.trans (h.mono J.size))) ?hop2 ?hfin2
   case hop2 =>
    intro p hp;simp only[QB,Qw,or_false]at hp;simp only[Qj,Qm,Zap,Qi,Zg4,Zgk,Zgx];rcases hp with rfl|rfl|rfl|rfl|rfl
    ·intro ν wx hb hP
     refine Zl (i:=1) rfl (λK hK=>?_);go_simp;refine(Zbf 1 wx (by decide) (by decide)).mono ?_;rintro e w5 ⟨I,U,A5,k5,c5,rfl,y⟩;exact hK.out _ _ ⟨_,rfl,(by simp only[Zeq,Zaj];exact⟨_,_,_,_,rfl,y⟩),I,trivial⟩
    ·intro ν wx hb hP
     have f:=J.trans (hb.mono J.size);have h3:=end1 (hP (1,39) (by simp) (by kernel_rfl));obtain⟨a4,A3,k3,c3,hν3,Y⟩:=h3;rw[hν3];obtain rfl:a4=false:=Y.1;refine Zl (i:=2) rfl (λK hK=>?_);go_simp;refine(Zfi sn sA A3 sk sc k3 c3 D 1 wx (hs.out.below f) Y (by decide)).mono ?_;rintro e w5 ⟨I,U,A5,k5,c5,e1,B5,m5,d5,rfl,y⟩;rw[Zg5]at y;exact hK.out _ _ ⟨_,rfl,(by simp only[Zeq,Zaj];exact⟨_,_,_,_,_,_,_,_,rfl,y⟩),I,trivial⟩
    ·intro ν wx hb hP
     have h0:=hP (2,40) (by simp) (by kernel_rfl);simp only[Zeq,Zaj]at h0;obtain⟨U,A5,k5,c5,e1,B5,m5,d5,hν,y⟩:=h0;rw[hν];refine Zl (i:=3) rfl (λK hK=>?_);go_simp;refine hK.out _ _ ⟨_,rfl,(by simp only[Zeq,Zaj];exact⟨_,_,_,_,_,_,_,_,rfl,y⟩),Qf _ _,?_⟩;exact⟨_,.int .i64 0,rfl,QM ⟨by kernel_rfl,λW2 _=>by go_simp⟩,by simp[Zeq,Zaj],trivial⟩
    ·intro ν wx hb hP
     have h0:=hP (3,37) (by simp) (by kernel_rfl);simp only[Zeq,Zaj]at h0;obtain⟨U,A5,k5,c5,e1,B5,m5,d5,hν,y⟩:=h0;rw[hν];refine Zl (i:=4) rfl (λK hK=>?_);go_simp;exact hK.out _ _ ⟨_,rfl,(by simp only[Zeq,Zaj];exact⟨_,_,_,_,_,_,_,_,rfl,y⟩),Qf _ _,trivial⟩
    ·intro ν wx hb hP
     refine Zl (i:=6) rfl (λK hK=>?_);go_simp;exact hK.out _ _ ⟨_,rfl,(by simp only[Zeq,Zaj];exact⟨_,rfl,(J.trans (hb.mono J.size)).size,QX _ _ _⟩),(Qf _ _).alloc (Qe _) _,trivial⟩
   case hfin2 =>
    intro ν wx hb hP;have h0:=end1 (hP (1,39) (by simp));have h1:=hP (2,40) (by simp);have h2:=hP (3,37) (by simp);have h3:=hP (5,42) (by simp);have h4:=hP (4,41) (by simp);have h5:=hP (6,10) (by simp);simp only[Zeq,Zaj]at h1 h2 h4 h5;obtain⟨_,_,_,_,h0,-⟩:=h0;obtain⟨_,_,_,_,_,_,_,_,h1,-⟩:=h1;obtain⟨_,_,_,_,_,_,_,_,h2,-⟩:=h2;obtain⟨fn,fA,fk,fc,fm,fB,fj,fd,h4,e6⟩:=h4;obtain⟨gv,h5,kv,qv⟩:=h5;simp only[Qj,Qm,Zap,Qi,Zg4,Zgk,Zgx];rw[h0,h1,h2,(show ν 42=Value.int .i64 0 by simpa [Zeq,Zaj]using h3),h4,h5];clear h0 h1 h2 h3 h4 h5 hP ν;have f:=J.trans (hb.mono J.size);have a9:=Zc f qr.out;have e0:gr≠gv:=by have:=qr.out.lt;omega
    obtain⟨V,hV,f4,q6,kV⟩:=Zal (B:=gv) fn fA fk fc fm fB fj fd (Qf gv wx) (Qe _) qv
    have a7:Below w.heap.size w V:=by
     rw[<- hV];have b9:w.heap.size<=gv:=QF O.size kv;exact((((O.trans (f.mono O.size)).setCell (p:=⟨gv,0,none⟩) b9 _).setCell (p:=⟨gv,1,none⟩) b9 _).setCell (p:=⟨gv,2,none⟩) b9 _).setCell (p:=⟨gv,3,none⟩) b9 _
    have d0:Hid (Below wr.heap.size wr V):=Za (by rw[<- hV];exact(((f.setCell (p:=⟨gv,0,none⟩) kv _).setCell (p:=⟨gv,1,none⟩) kv _).setCell (p:=⟨gv,2,none⟩) kv _).setCell (p:=⟨gv,3,none⟩) kv _);have c7:=Za (Fr.keep e6 kV.1);have a3:=kV.2.1 gr _ _ e0 a9;obtain⟨y0,y1,y2,y3,y4,y5,y6,y7⟩:=qv.four;replace q6:=Za q6;replace a3:=Za a3;replace a7:=Za a7;clear e6 kV a9 f4 qv;refine wpAnyL_o 7 λK hK=>?_;go_simp;(try rw[hV]);refine hK.out _ _ (λ_=>T.out _ (d0.out)) ?_;clear hK K
    try simp only[Qi,Zg4,Zgk,Zgx]
    refine Zgl 1 [8] rfl (by kernel_rfl) (T.out _ d0.out) ?_
    (refine tkA ?_;try simp only[Qi,Zg4,Zgk,Zgx,Gr,Gq,Gp])
    refine tk0 ?_;refine wpAnyL_fin ?_;clear hV y0 y1 y2 y3 y4 y5 y6 y7 f hb J T hxs2 s0 s1 d0;obtain⟨z0,z1,z2,z3,-⟩:=q6.out.four;obtain⟨r0,r1,r2,r3,r4,r5,r6,r7⟩:=a3.out.four;go_wp2_with fail;obtain⟨X,hX,f5,q8,st⟩:=Zal fn fA fk fc fm fB fj fd a7.out e9 a3.out;(try rw[hX]);obtain⟨x0,x1,x2,x3,-⟩:=q8.four;refine bodyPost_ret (v:=.agg #[.bool fn,.slice fA fk fc,.bool fm,.slice fB fj fd]) (by simp[results,Tryz.results94,go_sem,x0,x1,x2,x3]) rfl ?_;exact⟨f5,_,_,_,_,_,_,_,_,rfl,Fr.keep c7.out st.1⟩
  have f0:decide ((i:Int)<(n:Int))=true:=Gv (by omega);obtain⟨g,o,rfl,d6⟩:=hg.out (by omega);have ci:=(O.cell (Zo (d6 i hin))).trans (d6 i hin);clear d6;have hx:=Zif e7.out i;have ha:=e4.out i hin;have b4:=e8.out i hin;have a2:(Zb9 ws a b i+(ws[i]?.getD 0)*(a i*b i)).natAbs<pw 4096:=Zu9 (i:=i+1) e7.out (by omega) (λj hj=>⟨e4.out j (by omega),e8.out j (by omega)⟩);have C:Zb9 ws a b (i+1)=Zb9 ws a b i+(ws[i]?.getD 0)*(a i*b i):=rfl;rw[<- C]at a2;replace C:=Za C;obtain⟨x,c2⟩:=Gz (ws[i]?.getD 0);obtain⟨a0,b1⟩:=Gz (a i);obtain⟨b0,a8⟩:=Gz (b i);obtain⟨s,c8⟩:=Gz (Zb9 ws a b i);replace C:=C.out;rw[c2,b1,a8,c8]at C;rw[C]at a2;rw[c2]at hx ci;rw[b1]at ha;rw[a8]at b4;rw[c8]at hs;replace a2:=Za a2;replace C:=Za C;replace b1:=Za b1;replace a8:=Za a8;clear c2 c8;go_wp2_with fail;have a1:Hid (∀ wx,Below wr.heap.size wr wx->wx.cell? ⟨g,o+i,none⟩=some (.int .i64 x)/\wx.cell? ⟨gs,0,none⟩=some (.bool sn)/\wx.cell? ⟨gs,1,none⟩=some (.slice sA sk sc)):=Za (λwx f=>⟨Zb f ci,Zb f s0,Zb f s1⟩);have u:Below wr.heap.size wr wr.drew:=Zf (Qf _ _) 1;refine wp_heldS [17] hmx a1 u (λhxs1=>?_);refine Zjw 1 [0] rfl (by kernel_rfl) (a1.out _ u) ?_
  (refine tkA ?_;try simp only[Qi,Zg4,Zgk,Zgx,Gr,Gq,Gp])
  refine tk0 ?_;refine Zgl 5 [1,3,4,7,8] rfl (by kernel_rfl) (a1.out _ u) ?_
  iterate 5 (refine tkA ?_;try simp only[Qi,Zg4,Zgk,Zgx,Gr,Gq,Gp])
  refine tk0 ?_;refine Za2 [(2,22),(5,25),(6,26),(9,29),(10,30),(11,31),(12,32),(13,33),(14,19)] (λi=>match i with|14=>[15,16]|_=>[]) [(2,22),(5,25),(6,26),(9,29),(10,30),(11,31),(12,32),(13,33),(14,19),(15,34),(16,35)] (Zde x a0 b0 s) 1 (by kernel_rfl) (λ_ _ _ _ _ hb h=>Zl0 hb h) (λwx h=>a1.out _ (u.trans (h.mono u.size))) ?hop1 ?hfin1
  case hop1 =>
   intro p hp;simp only[QB,Qw,or_false]at hp;simp only[Qj,Qm,Zap,Qi,Zg4,Zgk,Zgx];rcases hp with rfl|rfl|rfl|rfl|rfl|rfl|rfl|rfl|rfl
   ·intro ν wx hb hP
    have f:=u.trans (hb.mono u.size);refine Zl (i:=2) rfl (λK hK=>?_);go_simp;refine(Zbf x wx hx.1 hx.2).mono ?_;rintro e w5 ⟨I,U,A5,k5,c5,rfl,y⟩;exact hK.out _ _ ⟨_,rfl,(by simp only[Zde];exact⟨_,_,_,_,rfl,y⟩),I,trivial⟩
   ·intro ν wx hb hP
    have f:=u.trans (hb.mono u.size);refine Zl (i:=5) rfl (λK hK=>?_);go_simp;refine(hA.out wx i (O.trans (f.mono O.size)) hin).mono ?_;rintro e w5 ⟨rfl,I⟩;exact hK.out _ _ ⟨_,rfl,(show Value.int .i64 _=Value.int .i64 _ from by rw[b1.out]),I,trivial⟩
   ·intro ν wx hb hP
    have f:=u.trans (hb.mono u.size);have h3:=hP (5,25) (by simp) (by kernel_rfl);replace h3:=dot5 h3;rw[h3];refine Zl (i:=6) rfl (λK hK=>?_);go_simp;refine(Zbf a0 wx ha.1 ha.2).mono ?_;rintro e w5 ⟨I,U,A5,k5,c5,rfl,y⟩;exact hK.out _ _ ⟨_,rfl,(by simp only[Zde];exact⟨_,_,_,_,rfl,y⟩),I,trivial⟩
   ·intro ν wx hb hP
    have f:=u.trans (hb.mono u.size);refine Zl (i:=9) rfl (λK hK=>?_);go_simp;refine(hB.out wx i (O.trans (f.mono O.size)) hin).mono ?_;rintro e w5 ⟨rfl,I⟩;exact hK.out _ _ ⟨_,rfl,(show Value.int .i64 _=Value.int .i64 _ from by rw[a8.out]),I,trivial⟩
   ·intro ν wx hb hP
    have f:=u.trans (hb.mono u.size);have h3:=hP (9,29) (by simp) (by kernel_rfl);replace h3:=dot9 h3;rw[h3];refine Zl (i:=10) rfl (λK hK=>?_);go_simp;refine(Zbf b0 wx b4.1 b4.2).mono ?_;rintro e w5 ⟨I,U,A5,k5,c5,rfl,y⟩;exact hK.out _ _ ⟨_,rfl,(by simp only[Zde];exact⟨_,_,_,_,rfl,y⟩),I,trivial⟩
   ·intro ν wx hb hP
    have f:=u.trans (hb.mono u.size);have h3:=hP (6,26) (by simp) (by kernel_rfl);replace h3:=dot6 h3;obtain⟨a4,A3,k3,c3,hν3,Y⟩:=h3;rw[hν3];have h4:=hP (10,30) (by simp) (by kernel_rfl);replace h4:=Zvz h4;obtain⟨b2,A4,k4,c4,hν4,b3⟩:=h4;rw[hν4];refine Zl (i:=11) rfl (λK hK=>?_);go_simp;refine(Zfo a4 b2 A3 A4 k3 c3 k4 c4 _ _ wx Y b3 (Zzs ha b4)).mono ?_;rintro e w5 ⟨I,U,A5,k5,c5,rfl,y⟩;exact hK.out _ _ ⟨_,rfl,(by simp only[Zde];exact⟨_,_,_,_,rfl,y⟩),I,trivial⟩
   ·intro ν wx hb hP
    have f:=u.trans (hb.mono u.size);have h3:=hP (2,22) (by simp) (by kernel_rfl);replace h3:=dot2 h3;obtain⟨a4,A3,k3,c3,hν3,Y⟩:=h3;rw[hν3];have h4:=hP (11,31) (by simp) (by kernel_rfl);replace h4:=Zvi h4;obtain⟨b2,A4,k4,c4,hν4,b3⟩:=h4;rw[hν4];refine Zl (i:=12) rfl (λK hK=>?_);go_simp;refine(Zfo a4 b2 A3 A4 k3 c3 k4 c4 _ _ wx Y b3 (Zsp hx ha b4)).mono ?_;rintro e w5 ⟨I,U,A5,k5,c5,rfl,y⟩;exact hK.out _ _ ⟨_,rfl,(by simp only[Zde];exact⟨_,_,_,_,rfl,y⟩),I,trivial⟩
   ·intro ν wx hb hP
    have f:=u.trans (hb.mono u.size);have h4:=hP (12,32) (by simp) (by kernel_rfl);replace h4:=Zvg h4;obtain⟨b2,A4,k4,c4,hν4,b3⟩:=h4;rw[hν4];refine Zl (i:=13) rfl (λK hK=>?_);go_simp;refine(Zjf sn b2 sA A4 sk sc k4 c4 _ _ wx (hs.out.below f) b3).mono ?_;rintro e w5 ⟨I,U,A5,k5,c5,code,rfl,hR⟩;rcases hR with ⟨_,rfl,y⟩|⟨f3,_⟩;exact hK.out _ _ ⟨_,rfl,(by simp only[Zde];exact⟨_,_,_,_,rfl,y⟩),I,trivial⟩;exact absurd f3 (Nat.not_le.2 a2.out)
   ·intro ν wx hb hP
    have f:=u.trans (hb.mono u.size);have h3:=hP (13,33) (by simp) (by kernel_rfl);replace h3:=Zvn h3;obtain⟨a4,A3,k3,c3,hν3,Y⟩:=h3;rw[hν3];refine Zl (i:=14) rfl (λK hK=>?_);go_simp;refine hK.out _ _ ⟨_,rfl,(by simp only[Zde];exact⟨_,_,_,_,rfl,Y⟩),Qf _ _,?_⟩;refine⟨_,.agg #[.bool a4,.slice A3 k3 c3],rfl,QM ⟨by kernel_rfl,λW2 _=>by go_simp⟩,(by simp only[Zde];exact⟨_,_,_,_,rfl,Y⟩),?_⟩;exact⟨_,.int .i64 0,rfl,QM ⟨by kernel_rfl,λW2 _=>by go_simp⟩,rfl,trivial⟩
  case hfin1 =>
   intro ν wx hb hP;have h2:=dot2 (hP (2,22) (by simp));have h5:=dot5 (hP (5,25) (by simp));have h6:=dot6 (hP (6,26) (by simp));have h9:=dot9 (hP (9,29) (by simp));have b5:=Zvz (hP (10,30) (by simp));have b7:=Zvi (hP (11,31) (by simp));have b8:=Zvg (hP (12,32) (by simp));have b6:=Zvn (hP (13,33) (by simp));have c1:=dot14 (hP (14,19) (by simp));have c0:=dot15 (hP (15,34) (by simp));have d9:=dot16 (hP (16,35) (by simp));obtain⟨_,_,_,_,h2,-⟩:=h2;obtain⟨_,_,_,_,h6,-⟩:=h6;obtain⟨_,_,_,_,b5,-⟩:=b5;obtain⟨_,_,_,_,b7,-⟩:=b7;obtain⟨_,_,_,_,b8,-⟩:=b8;obtain⟨_,_,_,_,b6,-⟩:=b6;obtain⟨_,_,_,_,c1,-⟩:=c1;obtain⟨n5,A5,k5,c5,c0,y⟩:=c0;simp only[Qj,Qm,Zap,Qi,Zg4,Zgk,Zgx];rw[h2,h5,h6,h9,b5,b7,b8,b6,c1,c0,d9];clear h2 h5 h6 h9 b5 b7 b8 b6 c1 c0 d9 hP ν;have f:=u.trans (hb.mono u.size);have c9:=Zc f qs.out;have a9:=Zc f qr.out;obtain⟨W6,d3,f7,q6,d4⟩:=Zas (B:=gs) n5 A5 k5 c5 (Qf gs wx) (Qe _) c9
   have c6:Below w.heap.size w W6:=by
    rw[<- d3];exact((O.trans (f.mono O.size)).setCell (p:=⟨gs,0,none⟩) d8 _).setCell (p:=⟨gs,1,none⟩) d8 _
   have c7:=Za (d4.1 _ _ _ _ _ y);have a3:=d4.2.1 gr _ _ d7 a9;obtain⟨y0,y1,y2,y3⟩:=c9.two;replace q6:=Za q6;replace a3:=Za a3;replace c6:=Za c6;clear y d4 c9 a9 f7;refine Zm (i:=17) rfl (by kernel_rfl) (by kernel_rfl) (λK hK=>?_);go_simp;(try rw[d3]);refine hK.out _ _ ?_;clear hK K
   try simp only[Qi,Zg4,Zgk,Zgx]
   refine wpAnyL_fin ?_;clear d3 y0 y1 y2 y3 f hb u a1 hxs1 ci s0 s1;go_wp2_with fail
   go_roundw
   case rel=>exact⟨i+1,n5,A5,k5,c5,by omega,by go_num,c7.out.same C.out.symm,q6.out,a3.out,c6.out⟩
   case measure=>simp[intOf];omega
section
variable{tF:TypeId}{w w':World}{base:Nat}{part:List Rat}{cs:Array Value}
theorem OwnF.ownBlk{v:Value}(h:OwnF tF w base v part):∀ k,v.ownBlock=some k->∃ cs,Blk w k tF cs/\NoLimb cs/\base<=k:=λk hk=>by
 obtain⟨es,h1,h2,h3⟩:=h;rcases h1 with ⟨rfl,_⟩|⟨g',sp,rfl,h4,h5,h6⟩;cases hk
 ·have:g'=k:=by simpa [Value.ownBlock]using hk
  subst this;exact⟨_,h6,Zcl _,h4⟩
theorem OwnF.keptG{v:Value}(h:OwnF tF w base v part){g':Nat}{t':TypeId}(hb:Blk w g' t' cs)(hn:NoLimb cs)(hne:v.ownBlock≠some g')(hk:Kept (λk=>k=g') w w'):OwnF tF w' base v part:=by
 have hG:∀ k,k=g'->∃ t cs,Blk w k t cs/\NoLimb cs:=λk hk=>⟨t',cs,hk▸hb,hn⟩;obtain⟨es,h1,h2,h3⟩:=h;refine⟨es,?_,λe he=>⟨hk.wd (h2 e he).1 hG,hk.wd (h2 e he).2 hG⟩,h3⟩;rcases h1 with h|⟨g2,sp,rfl,h4,h5,h6⟩;exact .inl h;exact .inr ⟨g2,sp,rfl,h4,h5,hk.blk h6 (λe=>hne (by rw[<- e];rfl))⟩
end
theorem RowS.mfl{tS:TypeId}{w:World}{base:Nat}{v:Value}{rs:List RS}{Q:List (List Rat)}(h:RowS tS w base v rs)(hl:rs.length=Q.length)(hF:∀ (i:Nat) (r:RS),rs[i]?=some r->FL w r.A r.n r.c (Q[i]?.getD [])):∃ A c,v=.slice A rs.length c/\MFL w A rs.length c Q:=by
 rcases h with ⟨rfl,rfl⟩|⟨g,sp,rfl,h2,h3,h4⟩;exact⟨none,0,rfl,hl.symm,Qe _,QJ _,λh=>absurd h (by simp)⟩
 ·refine⟨_,_,rfl,hl.symm,by omega,h3,λ_=>⟨g,0,rfl,λk q hq=>?_⟩⟩
  have hk:k<rs.length:=by rw[hl];exact(List.getElem?_eq_some_iff.1 hq).1
  have he:=Qb hk;refine⟨rs[k].A,rs[k].n,rs[k].c,?_,?_⟩
  ·rw[Nat.zero_add,h4.cell]
   exact Zbs (e:=rs[k]) (by rw[Ql hk];exact he)
  ·have:=hF k _ he
   rw[hq]at this;exact this
section
variable{P:Program}(w:World)
theorem Zkw(base:Nat)(t ty e:TypeId)(i:TypeInfo)(ht:P.underlying t=some (.slice e))(hi:P.info? e=some i)(hz:i.zero=some (.agg #[.bool false,.slice none 0 0,.bool false,.slice none 0 0]))
    (hs:i.size=4) (hby:i.bytes=64) (v:Value) (es:List FE) (hown:RowF e w base v es)
    (B:Nat) (A:Option Addr) (m c:Nat) (fs:List FE) (hr:Reads w B 4 A m (Zp fs)) (hm:fs.length=m) (h63:es.length+m<=1000) (hbase:base<=w.heap.size) :
    ∃ v' w',(QI #[t,t] ty #[v,.slice A m c]).run P w=.ok v' w'/\RowF e w' base v' (es++fs)/\w.grownBy w' v.ownBlock/\(v'.ownBlock=v.ownBlock \/ ∀ k,v'.ownBlock=some k->w.heap.size<=k):=by
 rcases Nat.eq_zero_or_pos m with h0|h0
 ·subst h0
  obtain rfl:fs=[]:=List.eq_nil_of_length_eq_zero hm;rw[List.append_nil];rcases A with _|ad;exact⟨v,w,Zcg w base t ty e i 4 ht hi v _ _ hown.own c,hown,World.grownBy.refl w _,.inl rfl⟩
  ·have hf:=run_firstCells_some (P:=P) w i.size 0 ad 0 c [] (by simp) (by simp)
   rcases hown with ⟨rfl,rfl⟩|⟨g,sp,rfl,h2,h3,h4⟩
   ·refine⟨.slice none 0 0,w,?_,.inl ⟨rfl,rfl⟩,World.grownBy.refl w _,.inl rfl⟩
    simp[QI,run_underlying ht,sizeOf,typeInfo,hi,Builtin.lenOf,Builtin.firstCells,loadCells,loadCellsFrom]
   ·refine⟨_,w,?_,.inr ⟨g,sp,rfl,h2,h3,h4⟩,World.grownBy.refl w _,.inl rfl⟩
    simp[QI,run_underlying ht,sizeOf,typeInfo,hi,Builtin.lenOf,Builtin.firstCells,loadCells,loadCellsFrom,storeCells]
 ·obtain⟨ad,rfl,_,hc⟩:=hr.2 h0
  have hl:(Zp fs).length=m*i.size:=by rw[Zt,hm,hs]
  have o:es.length*i.size=(Zp es).length:=by rw[Zt,hs]
  rcases hown with ⟨rfl,rfl⟩|⟨g,sp,rfl,h2,h3,h4⟩
  ·have f:=run_append_nil (P:=P) w t ty e i _ ht hi hz ad m c (Zp fs) hl hc h0 (by omega) (by rw[hby];omega)
   have h:=grownCap_ge w m 0 e;have y:=grownCap_le_maxLen w m 0 e (by unfold maxLen;simp only[List.length_nil]at h63;omega);refine⟨_,_,f,.inr ⟨w.heap.size,grownCap w m 0 e-m,?_,hbase,?_,?_⟩,⟨rfl,rfl,rfl,by simp,λk hk _=>Below.heap_alloc w.drew _ k hk⟩,.inr (λk hk=>by first|(simp[Value.ownBlock]at hk;omega)|(cases hk;exact Qe _))⟩;rw[QV,hm,Qt h];rw[QV,hm,Qt h];exact y
   ·have:=heap_alloc_new w.drew (.cells ((Zp fs).toArray++Qv (Value.agg #[.bool false,.slice none 0 0,.bool false,.slice none 0 0]).cells (grownCap w m 0 e-m)) e)
    unfold Blk;refine this.trans ?_;congr 1
    have hx:(Zp fs).toArray++Qv (Value.agg #[.bool false,.slice none 0 0,.bool false,.slice none 0 0]).cells (grownCap w m 0 e-m)=Zz ([]++fs++Qs (grownCap w m 0 e-m) Zaw):=by
     apply Array.toList_inj.1;rw[QA,show (Value.agg #[.bool false,.slice none 0 0,.bool false,.slice none 0 0]).cells=#[.bool false,.slice none 0 0,.bool false,.slice none 0 0] from rfl,Zd4];simp[Zz,Zaq]
    rw[hx]
  ·by_cases hroom:m<=sp
   ·have f:=run_append_room (P:=P) w t ty e i ht hi g es.length (es.length+sp) _ h4 ad m c (Zp fs) hl hc (Zjd fs) (by omega) (by rw[o,Zt,Zt];simp[Zz,Zt];omega)
    refine⟨_,_,f,.inr ⟨g,sp-m,?_,h2,?_,?_⟩,⟨rfl,rfl,rfl,by simp[World.setRow],λk _ hk=>setRow_other w g k _ (λe'=>hk (by simp[Value.ownBlock,e']))⟩,.inl rfl⟩;rw[Qq,hm,show es.length+m+(sp-m)=es.length+sp by omega];rw[Qq,hm];omega
    ·refine(setRow_heap w g _ _ e _ h4).trans ?_
     congr 2;unfold Zz;congr 1;rw[o];have I:Qs sp Zaw=Qs m Zaw++Qs (sp-m) Zaw:=by rw[List.replicate_append_replicate];congr 1;omega
     have J:(Zp fs).length=(Zp (Qs m Zaw)).length:=by rw[Zt,Zt,hm,List.length_replicate]
     simp only[Zaq];rw[List.take_left,J,<- Qq,I,Zaq,<- QO (Zp es),List.drop_left,QO]
   ·have C:∀ j u,(Zp es)[j]?=some u->w.cell? ((⟨g,0,none⟩:Addr).add j)=some u:=λj u hu=>by
      rw[Zg,Nat.zero_add,h4.cell];simp only[Zz,List.getElem?_toArray,Zaq];rw[Ql (by rw[List.getElem?_eq_some_iff]at hu;exact hu.1)];exact hu
    have f:=run_append_grow (P:=P) w t ty e i _ ht hi hz ⟨g,0,none⟩ es.length (es.length+sp) (Zp es) o.symm C ad m c (Zp fs) hl hc (by omega) (by omega) (growslice_fits (by omega) (by rw[hby];omega));have h:=grownCap_ge w (es.length+m) (es.length+sp) e;have y:=grownCap_le_maxLen w (es.length+m) (es.length+sp) e (by unfold maxLen;omega);refine⟨_,_,f,.inr ⟨w.heap.size,grownCap w (es.length+m) (es.length+sp) e-(es.length+m),?_,hbase,?_,?_⟩,⟨rfl,rfl,rfl,by simp,λk hk _=>Below.heap_alloc w.drew _ k hk⟩,.inr (λk hk=>by first|(simp[Value.ownBlock]at hk;omega)|(cases hk;exact Qe _))⟩;rw[Qq,hm,Qt h];rw[Qq,hm,Qt h];exact y
    ·have:=heap_alloc_new w.drew (.cells ((Zp es).toArray++(Zp fs).toArray++Qv (Value.agg #[.bool false,.slice none 0 0,.bool false,.slice none 0 0]).cells (grownCap w (es.length+m) (es.length+sp) e-(es.length+m))) e)
     unfold Blk;refine this.trans ?_;congr 1
     have hx:(Zp es).toArray++(Zp fs).toArray++Qv (Value.agg #[.bool false,.slice none 0 0,.bool false,.slice none 0 0]).cells (grownCap w (es.length+m) (es.length+sp) e-(es.length+m))=Zz (es++fs++Qs (grownCap w (es.length+m) (es.length+sp) e-(es.length+m)) Zaw):=by
      apply Array.toList_inj.1;rw[QA,QA,show (Value.agg #[.bool false,.slice none 0 0,.bool false,.slice none 0 0]).cells=#[.bool false,.slice none 0 0,.bool false,.slice none 0 0] from rfl,Zd4];simp[Zz,Zaq]
     rw[hx]
theorem Za6{o:Oper}{a:Act}{K:Act->World->Prop}{Q:Exit->Act->World->Prop}(s x:Operand)(t:TypeId)
    (ho:o.op=.call { callee:=.builtin .append,args:=#[s,x],argTypes:=#[t,t] })
    (base:Nat) (e:TypeId) (i:TypeInfo) (ht:P.underlying t=some (.slice e)) (hi:P.info? e=some i) (hz:i.zero=some (.agg #[.bool false,.slice none 0 0,.bool false,.slice none 0 0])) (hsi:i.size=4) (hby:i.bytes=64)
    (v:Value) (qs:List Rat) (hs:a.eval s=v) (hown:OwnF e w base v qs)
    (B:Nat) (A:Option Addr) (m c:Nat) (fs:List FE) (hx:a.eval x=.slice A m c) (hr:Reads w B 4 A m (Zp fs)) (hm:fs.length=m) (hfs:∀ e ∈ fs,e.in_ w)
    (h63:qs.length+m<=1000) (hbase:base<=w.heap.size)
    (h:∀ v' w',OwnF e w' base v' (qs++fs.map FE.q)->w.grownBy w' v.ownBlock->(∀ (A:Option Addr) (n c:Nat) (l:List Nat),Lim w A n c l->Lim w' A n c l)->(v'.ownBlock=v.ownBlock \/ ∀ k,v'.ownBlock=some k->w.heap.size<=k)->K (a.put o.dst v') w'):o.wp P a w K Q:=by
 obtain⟨es,h1,h2,rfl⟩:=hown;rw[List.length_map]at h63;obtain⟨v',w',f,h3,h4,h5⟩:=Zkw (P:=P) w base t o.type e i ht hi hz hsi hby v es h1 B A m c fs hr hm h63 hbase;unfold Oper.wp execOp;simp only[ho,resolve,invoke,builtin,Sem.run_bind,Sem.run_pure,Result.andThen_ok,QP,Qj,Qm,hs,hx,f];have hk:∀ (A:Option Addr) (n c:Nat) (l:List Nat),Lim w A n c l->Lim w' A n c l:=λ_ _ _ _ hL=>h1.keep h4 hL;refine h v' w' ⟨es++fs,h3,λe he=>?_,by rw[List.map_append]⟩ h4 hk h5;rcases List.mem_append.1 he with he|he;exact(h2 e he).of_keep hk;exact(hfs e he).of_keep hk
end
def MatA(tS tF:TypeId)(w:World)(base go:Nat)(rs:List RS)(Q:List (List Rat)):Prop:=
 (∃ zs,Blk w go tS (Z0 (rs++zs)))/\base<=go/\rs.length=Q.length/\(∀ (i:Nat) (r:RS),rs[i]?=some r->OwnF tF w base r.val (Q[i]?.getD [])) /\
  ∀ (i j:Nat) (r s:RS) (k:Nat),rs[i]?=some r->rs[j]?=some s->i≠j->r.val.ownBlock=some k->s.val.ownBlock≠some k
section
variable{tS tF:TypeId}{w w':World}{base go:Nat}{rs:List RS}{Q:List (List Rat)}
theorem MatA.below(h:MatA tS tF w base go rs Q)(hb:Below w.heap.size w w'):MatA tS tF w' base go rs Q:=by
 obtain⟨⟨zs,h1⟩,h2,h3,h4,h5⟩:=h;exact⟨⟨zs,Zc hb h1⟩,h2,h3,λi r hr=>(h4 i r hr).kept hb,h5⟩
theorem MatA.cell(h:MatA tS tF w base go rs Q){i:Nat}{r:RS}(hr:rs[i]?=some r):w.cell? ⟨go,i,none⟩=some (.slice r.A r.n r.c)/\w.frozen? ⟨go,i,none⟩=false:=by
 obtain⟨⟨zs,h1⟩,-⟩:=h;refine⟨?_,h1.frozen i⟩;rw[h1.cell];exact Zbs (by rw[Ql (List.getElem?_eq_some_iff.1 hr).1];exact hr)
theorem OwnF.rsn{r:RS}{q:List Rat}(h:OwnF tF w base r.val q):r.n=q.length/\FL w r.A r.n r.c q:=by
 obtain⟨A,c,e,hf⟩:=h.fl;simp only[RS.val,Value.slice.injEq]at e;obtain⟨rfl,e2,rfl⟩:=e;refine⟨e2,?_⟩;rw[e2];exact hf
theorem MatA.app(h:MatA tS tF w base go rs Q)(hts:tS≠tF){i:Nat}{r r':RS}{q':List Rat}(hr:rs[i]?=some r)(hg:w.grownBy w' r.val.ownBlock)(ho:OwnF tF w' base r'.val q')(hk:∀ (A:Option Addr) (n c:Nat) (l:List Nat),Lim w A n c l->Lim w' A n c l)
    (hw:r'.val.ownBlock=r.val.ownBlock \/ ∀ k,r'.val.ownBlock=some k->w.heap.size<=k):MatA tS tF (w'.setCell ⟨go,i,none⟩ r'.val) base go (rs.set i r') (Q.set i q'):=by
 obtain⟨⟨zs,h1⟩,h2,h3,h4,h5⟩:=h;have hi:i<rs.length:=(List.getElem?_eq_some_iff.1 hr).1
 have f:∀ (v:Value) (q:List Rat),OwnF tF w base v q->v.ownBlock≠some go:=λv q hv e=>by
  obtain⟨cs,a,-,-⟩:=hv.ownBlk go e;exact hts (h1.type a)
 have b1:Blk w' go tS (Z0 (rs++zs)):=(hg.block go h1.lt (λe=>f _ _ (h4 i r hr) e.symm)).trans h1;have u:=Zbj (rs++zs);have kS:Kept (λk=>k=go) w' (w'.setCell ⟨go,i,none⟩ r'.val):=Kept.set_ (G:=λk=>k=go) (Kept.refl _ _) (p:=⟨go,i,none⟩) (.inl rfl) _
 have y:r'.val.ownBlock≠some go:=λe=>by
  obtain⟨cs,a,-,-⟩:=ho.ownBlk go e;exact hts (b1.type a)
 refine⟨⟨zs,?_⟩,h2,by rw[QW,QW];exact h3,λj s hs=>?_,λj l s t k hs ht hjl hsk=>?_⟩
 ·have:=b1.set_ i r'.val
  rw[show r'.val=.slice r'.A r'.n r'.c from rfl,Zdr r']at this;rw[Qx _ _ hi]at this;exact this
 ·rw[Qc]at hs
  by_cases hij:i=j
  ·subst hij
   rw[Gx rfl,Gx hi]at hs;cases hs;rw[List.getElem?_set_self (by omega),QG];exact ho.keptG b1 u y kS
  ·rw[Gw hij]at hs
   rw[List.getElem?_set_ne hij];have o:=h4 j s hs;have ne:∀ k,s.val.ownBlock=some k->r.val.ownBlock≠some k:=λk e=>h5 j i s r k hs hr (Qr hij) e
   have o2:OwnF tF w' base s.val (Q[j]?.getD []):=by
    obtain⟨es,e1,e2,e3⟩:=o;refine⟨es,?_,λe he=>⟨⟨(e2 e he).1.1,(e2 e he).1.2.1,hk _ _ _ _ (e2 e he).1.2.2⟩,⟨(e2 e he).2.1,(e2 e he).2.2.1,hk _ _ _ _ (e2 e he).2.2.2⟩⟩,e3⟩;rcases e1 with e1|⟨g2,sp,e4,e5,e6,e7⟩;exact .inl e1;exact .inr ⟨g2,sp,e4,e5,e6,(hg.block g2 e7.lt (λe=>ne g2 (by rw[e4];rfl) e.symm)).trans e7⟩
   exact o2.keptG b1 u (f _ _ o) kS
 ·have fresh:∀ (j:Nat) (s:RS) (k:Nat),j≠i->rs[j]?=some s->s.val.ownBlock=some k->r'.val.ownBlock≠some k:=λj s k hji hs hsk e=>by
    obtain⟨cs,a,-,-⟩:=(h4 j s hs).ownBlk k hsk;have:=a.lt;rcases hw with hw|hw;exact h5 j i s r k hs hr hji hsk (by rw[<- hw];exact e);have:=hw k e;omega
  rw[Qc]at hs ht;by_cases h6:i=j
  ·subst h6
   rw[Gx rfl,Gx hi]at hs;rw[Gw hjl]at ht;cases hs;intro e;exact fresh l t k (Qr hjl) ht e hsk
  ·rw[Gw h6]at hs
   by_cases h7:i=l
   ·subst h7
    rw[Gx rfl,Gx hi]at ht;cases ht;exact fresh j s k (Qr h6) hs hsk
   ·rw[Gw h7]at ht
    exact h5 j l s t k hs ht hjl hsk
end
