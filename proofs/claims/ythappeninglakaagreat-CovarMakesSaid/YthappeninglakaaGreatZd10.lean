/- The rank and the determinant by either elimination. The -/
import Derived.Deep.LoopGhost
import Derived.Test.YthappeninglakaaGreatZd09
set_option maxRecDepth 100000
set_option maxHeartbeats 8000000
set_option linter.unusedSimpArgs false
set_option linter.unusedVariables false
namespace Go.Proofs.YthappeninglakaaGreat
open Go.RowKit
open List renaming getElem?_eq_getElem→Qa,getElem?_map→Qb,getElem?_set→Qd,getElem?_eq_none→Qg,mem_of_getElem?→Qh,map_cons→Qi,ext_getElem?→Qj,map_nil→Qk,getElem?_append_left→Qo,map_set→Qp,set_append_left→Qr,not_mem_nil→Qv,getElem?_range→Qw,length_map→Qz,length_append→QA,replicate→QB,mem_cons→QE,getElem_of_mem→QG,length_set→QL,map_append→QM,getElem?_inj→QQ,mem_or_eq_of_mem_set→QR,nil_append→QT,mem_singleton→QW,append_assoc→QY,map_toArray→QZ,nodup_cons→Ye,range→Yf
open Nat renaming le_refl→Qc,lt_of_le_of_lt→Ql,le_trans→Qt,lt_of_lt_of_le→Qy,add_sub_cancel'→QH,zero_le→QP,zero_add→QS,not_lt_zero→Ya,div_le_self→Yc
open Below renaming refl→Qe
open Act renaming put→Qf
open Or renaming inl→Qm
open And renaming intro→Qn
open OnlyNormal renaming normal→Qq
open Int renaming natAbs_mul→Qs,natAbs_natCast→QJ
open Option renaming getD_some→Qu,map_some→QI
open Ne renaming symm→Qx
open Rat renaming divInt→QC,intCast_natCast→QN,num_divInt_den→QV,divInt_eq_div→QX,intCast_mul→Yb,den_intCast→Yd
open World renaming size_alloc→QD
open Blk renaming new→QF
open Builtin renaming zeroCells→QK,append_→QU
open _root_.Array renaming toList_append→QO
open Kept renaming refl→Yg
def byZ(R:List (List Rat)):Nat->Nat
 | 0=>1
 | k+1=>byZ R k*Zc8 R k
theorem Zx8(R:List (List Rat))(k:Nat):((byZ R k:Nat):Rat)=Za2 k (λi=>((Zc8 R i:Nat):Rat)):=by
 induction k with
 | zero=>rfl
 | succ k ih=>simp only[byZ,Za2];rw[Rat.natCast_mul,ih]
theorem byZ_pos(R:List (List Rat))(k:Nat):0<byZ R k:=by
 induction k with
 | zero=>exact Nat.one_pos
 | succ k ih=>exact Nat.mul_pos ih (Zd6 _ _)
theorem Zs3{n:Nat}{f:Nat->Rat}{k:Nat}(hk:k<n)(h:f k=0):Za2 n f=0:=by
 induction n with
 | zero=>omega
 | succ n ih =>
  simp only[Za2];by_cases hkn:k=n;rw[<- hkn,h];grind;rw[ih (by omega)];grind
theorem Zr2{n:Nat}(M:Nat->Nat->Rat)(s:Nat->Rat):Zao n (λa b=>s a*M a b)=Za2 n s*Zao n M:=by
 have key:∀ m,m<=n->Zao n (λa b=>if a<m then s a*M a b else M a b)=Za2 m s*Zao n M:=by
  intro m
  induction m with
  | zero=>intro _;simp only[Za2];rw[Za7 (N:=M) (λa b _ _=>if_neg (Ya a))];grind
  | succ m ih =>
   intro hm;have h0:=ih (by omega);have h1:=Zg3 (n:=n) (λa b=>if a<m then s a*M a b else M a b) (k:=m) (by omega) (M m) (M m) (s m) 0
   have e1:Zaf (λa b=>if a<m then s a*M a b else M a b) m (λb=>s m*M m b+0*M m b)=λa b=>if a<m+1 then s a*M a b else M a b:=by
    funext a b
    unfold Zaf;by_cases ha:a=m;subst ha;rw[if_pos rfl,if_pos (by omega)];grind
    ·rw[if_neg ha]
     by_cases h2:a<m;rw[if_pos (by omega)];simp only[if_pos h2];rw[if_neg (by omega)];simp only[if_neg h2]
   have e2:Zaf (λa b=>if a<m then s a*M a b else M a b) m (M m)=λa b=>if a<m then s a*M a b else M a b:=by
    funext a b
    unfold Zaf;by_cases ha:a=m;subst ha;rw[if_pos rfl,if_neg (by omega)];rw[if_neg ha]
   rw[e1,e2,h0]at h1;rw[h1];simp only[Za2];grind
 rw[<- key n (Qc _)];exact Za7 λa b ha _=>by rw[if_pos ha]
section
variable{B S n m:Nat}
theorem EIR.diag{col:Nat}{R:List (List Rat)}{pc:Nat->Nat}{G:Nat->Nat->Rat}{s:Nat->Rat}(h:EIR B S n m col n R pc G s)(hc:col<=n){l:Nat}(hl:l<n):pc l=l:=by
 have h1:∀ l,l<n->l<=pc l:=by
  intro l
  induction l with
  | zero=>intro _;omega
  | succ l ih=>intro hl;have:=ih (by omega);have:=h.inc l (l+1) (by omega) hl;omega
 have h2:∀ d l,l+d+1=n->pc l+d<n:=by
  intro d
  induction d with
  | zero=>intro l hl;have:=h.pcl l (by omega);omega
  | succ d ih=>intro l hl;have:=ih (l+1) (by omega);have:=h.inc l (l+1) (by omega) (by omega);omega
 have:=h1 l hl;have:=h2 (n-l-1) l (by omega);omega
end
structure AltF (n:Nat) (F:(Nat->Nat->Rat)->Rat):Prop where
 congr:∀ {M N:Nat->Nat->Rat},(∀ a b,a<n->b<n->M a b=N a b)->F M=F N
 lin:∀ (M:Nat->Nat->Rat) (k:Nat),k<n->∀ (r s:Nat->Rat) (x y:Rat),F (Zaf M k (λb=>x*r b+y*s b))=x*F (Zaf M k r)+y*F (Zaf M k s)
 two:∀ (M:Nat->Nat->Rat) (k l:Nat),k<n->l<n->k≠l->(∀ b,M k b=M l b)->F M=0
theorem AltF.det(n:Nat):AltF n (Zao n):=⟨Za7,λM _ hk r s x y=>Zg3 M hk r s x y,λ_ _ _ hk hl hne h=>Zjq hk hl hne h⟩
section
variable{n:Nat}{F:(Nat->Nat->Rat)->Rat}
theorem AltF.add(h:AltF n F)(M:Nat->Nat->Rat){k:Nat}(hk:k<n)(r s:Nat->Rat):F (Zaf M k (λb=>r b+s b))=F (Zaf M k r)+F (Zaf M k s):=by
 have:=h.lin M k hk r s 1 1;rw[show (λb=>r b+s b)=(λb=>1*r b+1*s b) by funext b;grind,this];grind
theorem AltF.swap(h:AltF n F){k l:Nat}(hk:k<n)(hl:l<n)(hne:k≠l)(M:Nat->Nat->Rat):F (Zaf (Zaf M k (M l)) l (M k))=- F M:=by
 obtain⟨r,hr⟩:∃ r,M l=r:=⟨_,rfl⟩;obtain⟨s,hs⟩:∃ s,M k=s:=⟨_,rfl⟩;have h0:=h.two (Zaf (Zaf M k (λb=>r b+s b)) l (λb=>r b+s b)) k l hk hl hne (λb=>by simp[Zaf,hne]);have h1:=h.two (Zaf (Zaf M k r) l r) k l hk hl hne (λb=>by simp[Zaf,hne]);have h2:=h.two (Zaf (Zaf M k s) l s) k l hk hl hne (λb=>by simp[Zaf,hne]);rw[h.add _ hl,Zb2 _ hne,Zb2 _ hne,h.add _ hk,h.add _ hk,<- Zb2 _ hne,<- Zb2 _ hne,<- Zb2 _ hne,<- Zb2 _ hne,h1,h2]at h0;rw[hr,hs];have e:Zaf (Zaf M k s) l r=M:=by rw[<- hs,Zd3,<- hr,Zd3]
 rw[e]at h0
 grind
theorem AltF.addrow(h:AltF n F)(M:Nat->Nat->Rat){k l:Nat}(hk:k<n)(hl:l<n)(hne:k≠l)(c:Rat):F (Zaf M k (λb=>M k b+c*M l b))=F M:=by
 have h1:=h.lin M k hk (M k) (M l) 1 c
 rw[show (λb=>M k b+c*M l b)=(λb=>1*M k b+c*M l b) by funext b;grind,h1,Zd3,
  h.two (Zaf M k (M l)) k l hk hl hne (λb=>by simp[Zaf,Qx hne])]
 grind
theorem AltF.clear(h:AltF n F)(M:Nat->Nat->Rat){l:Nat}(hl:l<n)(c:Nat->Rat):F (λa b=>if a=l then M a b else M a b+c a*M l b)=F M:=by
 have key:∀ m,m<=n->F (λa b=>if a=l then M a b else if a<m then M a b+c a*M l b else M a b)=F M:=by
  intro m
  induction m with
  | zero=>intro _;exact h.congr λa b _ _=>by split <;> rfl
  | succ m ih =>
   intro hm;have h0:=ih (by omega);by_cases hml:m=l
   ·rw[<- h0];refine h.congr λa b _ _=>?_
    by_cases ha:a=l;simp[ha]
    ·rw[if_neg ha,if_neg ha]
     by_cases h1:a<m;rw[if_pos h1,if_pos (by omega)];rw[if_neg h1,if_neg (by omega)]
   ·have h1:=h.addrow (λa b=>if a=l then M a b else if a<m then M a b+c a*M l b else M a b) (k:=m) (l:=l) (by omega) hl hml (c m)
    rw[h0]at h1;rw[<- h1];refine h.congr λa b _ _=>?_;unfold Zaf;by_cases ha:a=m;subst ha;simp[hml]
    ·rw[if_neg ha]
     by_cases hal:a=l;simp[hal]
     ·rw[if_neg hal]
      by_cases h1:a<m;rw[if_pos (by omega)];simp[hal,h1];rw[if_neg (by omega)];simp[hal,h1]
 rw[<- key n (Qc _)];exact h.congr λa b ha hb=>by rw[if_pos ha]
end
theorem Zw8(n:Nat)(A:Nat->Nat->Rat):∀ c,c<=n->∃ (U:Nat->Nat->Rat) (e:Rat),(∀ i j,i<n->j<c->j<i->U i j=0)/\∀ F,AltF n F->F A=e*F U:=by
 intro c
 induction c with
 | zero=>intro _;exact⟨A,1,λi j _ h=>by omega,λF _=>by grind⟩
 | succ c ih =>
  intro hc;obtain⟨U,e,h1,h2⟩:=ih (by omega)
  have clr:∀ V:Nat->Nat->Rat,(∀ i j,i<n->j<c->j<i->V i j=0)->V c c≠0->∃ (U:Nat->Nat->Rat),(∀ i j,i<n->j<c+1->j<i->U i j=0)/\∀ F,AltF n F->F V=F U:=by
   intro V hV hp;refine⟨λa b=>if a=c then V a b else V a b+(if a<c then 0 else -(V a c/V c c))*V c b,λi j hi hj hji=>?_,λF hF=>(hF.clear V (by omega) _).symm⟩;by_cases hic:i=c;subst hic;simp only[if_true];exact hV i j hi (by omega) hji
   ·simp only[if_neg hic]
    by_cases hlt:i<c;rw[if_pos hlt,hV i j hi (by omega) hji];grind
    ·rw[if_neg hlt]
     by_cases hjc:j=c;subst hjc;grind;rw[hV i j hi (by omega) hji,hV c j (by omega) (by omega) (by omega)];grind
  by_cases hz:∀ i,c<i->i<n->U i c=0
  ·refine⟨U,e,λi j hi hj hji=>?_,h2⟩
   by_cases hjc:j=c;subst hjc;exact hz i hji hi;exact h1 i j hi (by omega) hji
  ·by_cases hp:U c c=0
   ·obtain⟨k,C,u,y⟩:∃ k,c<k/\k<n/\U k c≠0:=by
      refine Classical.byContradiction λhn=>hz λi h1 h2=>Classical.byContradiction λh3=>hn ⟨i,h1,h2,h3⟩
    obtain⟨V,o,f⟩:=clr (Zaf (Zaf U c (U k)) k (U c)) (λi j hi hj hji=>by
     unfold Zaf;by_cases hik:i=k;rw[if_pos hik];exact h1 c j (by omega) hj (by omega)
     ·rw[if_neg hik]
      by_cases hic:i=c;rw[if_pos hic];exact h1 k j u hj (by omega)
      ·rw[if_neg hic];exact h1 i j hi hj hji) (by
     unfold Zaf;rw[if_neg (by omega),if_pos rfl];exact y)
    refine⟨V,-e,o,λF hF=>?_⟩;rw[h2 F hF,<- f F hF,hF.swap (by omega) u (by omega)];grind
   ·obtain⟨V,o,f⟩:=clr U h1 hp
    exact⟨V,e,o,λF hF=>by rw[h2 F hF,f F hF]⟩
def Zbg(a b:Nat):Rat:=if a=b then 1 else 0
theorem AltF.tri{n:Nat}{F:(Nat->Nat->Rat)->Rat}(h:AltF n F):∀ t,t<=n->∀ U:Nat->Nat->Rat,(∀ i j,i<n->j<i->U i j=0)->(∀ i j,t<=i->i<n->U i j=Zbg i j)->F U=Za2 t (λi=>U i i)*F Zbg
 | 0,_,U,_,h2=>by
  rw[h.congr (N:=Zbg) (λa b ha hb=>h2 a b (QP _) ha)];simp only[Za2];grind
 | t+1,ht,U,h1,h2=>by
  -- row t is cleared by the rows behind it
  have key:∀ c,c<=n->F (Zaf U t (λb=>if t<b/\b<c then 0 else U t b))=F U:=by
   intro c
   induction c with
   | zero=>intro _;refine h.congr λa b _ _=>?_
           unfold Zaf;by_cases ha:a=t;rw[if_pos ha,ha];simp only[Ya,and_false,if_false];rw[if_neg ha]
   | succ c ih =>
    intro hc;have h0:=ih (by omega);by_cases htc:t<c
    ·have h3:=h.addrow (Zaf U t (λb=>if t<b/\b<c then 0 else U t b)) (k:=t) (l:=c) (by omega) (by omega) (by omega) (-(U t c))
     rw[h0]at h3;rw[<- h3];refine h.congr λa b _ hb=>?_;unfold Zaf;by_cases ha:a=t
     ·subst ha
      simp only[if_true];rw[if_neg (by omega:¬ c=a),h2 c b (by omega) (by omega)];unfold Zbg;by_cases hbc:c=b;subst hbc;rw[if_pos (by omega),if_neg (by omega),if_pos rfl];grind
      ·rw[if_neg hbc]
       by_cases hb2:a<b/\b<c;rw[if_pos (by omega),if_pos hb2];grind;rw[if_neg (by omega),if_neg hb2];grind
     rw[if_neg ha,if_neg ha,if_neg ha]
    ·rw[<- h0]
     refine h.congr λa b _ _=>?_;unfold Zaf;by_cases ha:a=t
     ·rw[if_pos ha,if_pos ha]
      simp only[if_neg (show ¬ (t<b/\b<c+1) by omega),if_neg (show ¬ (t<b/\b<c) by omega)]
     rw[if_neg ha,if_neg ha]
  have hk:=key n (Qc _);have hs:=h.lin U t (by omega) (Zbg t) (Zbg t) (U t t) 0
  have e1:F (Zaf U t (λb=>if t<b/\b<n then 0 else U t b))=F (Zaf U t (λb=>U t t*Zbg t b+0*Zbg t b)):=by
   refine h.congr λa b _ hb=>?_;unfold Zaf;by_cases ha:a=t
   ·rw[if_pos ha,if_pos ha]
    unfold Zbg;simp only;by_cases hb1:t=b;subst hb1;rw[if_neg (by omega),if_pos rfl];grind
    ·rw[if_neg hb1]
     by_cases hb2:t<b;rw[if_pos ⟨hb2,hb⟩];grind;rw[if_neg (by omega),h1 t b (by omega) (by omega)];grind
   rw[if_neg ha,if_neg ha]
  have ih:=h.tri t (by omega) (Zaf U t (Zbg t)) (λi j hi hji=>by
   unfold Zaf Zbg;split;rw[if_neg (by omega)]
   ·exact h1 i j hi hji) (λi j hti hi=>by
   unfold Zaf;split;rename_i h;rw[h]
   ·exact h2 i j (by omega) hi)
  rw[<- hk,e1,hs,ih];rw[Za2,Zcy (f:=λi=>Zaf U t (Zbg t) i i) (g:=λi=>U i i) (λi hi=>by unfold Zaf;rw[if_neg (by omega)])]
  grind
theorem Zq8(n:Nat):Zao n Zbg=1:=by
 rw[Zjh (λa b _ h=>by unfold Zbg;rw[if_neg (by omega)])]
 have:∀ m,Za2 m (λi=>Zbg i i)=1:=by
  intro m
  induction m with
  | zero=>rfl
  | succ m ih=>simp only[Za2];rw[ih];unfold Zbg;rw[if_pos rfl];grind
 exact this n
theorem AltF.eq{n:Nat}{F:(Nat->Nat->Rat)->Rat}(h:AltF n F)(A:Nat->Nat->Rat):F A=Zao n A*F Zbg:=by
 obtain⟨U,e,h1,h2⟩:=Zw8 n A n (Qc _);have h3:=h.tri n (Qc _) U (λi j hi hj=>h1 i j hi (by omega) hj) (λi j h1 h2=>by omega);have h4:=(AltF.det n).tri n (Qc _) U (λi j hi hj=>h1 i j hi (by omega) hj) (λi j h1 h2=>by omega);rw[h2 F h,h2 _ (AltF.det n),h3,h4,Zq8];grind
def Zrh(k:Nat)(A B:Nat->Nat->Rat):Nat->Nat->Rat:=λi j=>Za9 k (λl=>A i l*B l j)
theorem det_mul(n:Nat)(A B:Nat->Nat->Rat):Zao n (Zrh n A B)=Zao n A*Zao n B:=by
 have hF:AltF n (λM=>Zao n (Zrh n M B)):=by
  refine⟨λ{M N} h=>Za7 λa b ha hb=>Zar λl hl=>by rw[h a l ha hl],λM k hk r s x y=>?_,λM k l hk hl hne h=>Zjq hk hl hne (λb=>Zar λi hi=>by rw[h i])⟩
  have e:∀ q:Nat->Rat,Zrh n (Zaf M k q) B=Zaf (Zrh n M B) k (λb=>Za9 n (λl=>q l*B l b)):=by
   intro q
   funext a b
   unfold Zrh Zaf;by_cases ha:a=k
   ·rw[if_pos ha];refine Zar λl _=>by rw[if_pos ha]
   ·rw[if_neg ha];refine Zar λl _=>by rw[if_neg ha]
  rw[e,e,e,<- Zg3 (Zrh n M B) hk];congr 2
  funext b
  rw[<- Ze3];exact Zar λl _=>by grind
 have:=hF.eq A;rw[this];congr 1;refine Za7 λa b ha hb=>?_;unfold Zrh;rw[Zhp a ha (λi _ hi=>by unfold Zbg;rw[if_neg (Qx hi)];grind)];unfold Zbg;rw[if_pos rfl];grind
theorem Zx6{n:Nat}(A:Nat->Nat->Rat)(x y:Nat->Rat)(h:∀ i,i<n->Za9 n (λj=>A i j*x j)=y i){k:Nat}(hk:k<n):Zao n A*x k=Zao n (λa b=>if b=k then y a else A a b):=by
 have hT:Zao n (λa b=>if b=k then x a else Zbg a b)=x k:=by
  -- rows a: unit a+x a at column k;row k: x k at column k
  have h1:=(AltF.det n).lin (λa b=>if b=k then x a else Zbg a b) k hk (Zbg k) (Zbg k) (x k) 0
  have e1:Zaf (λa b=>if b=k then x a else Zbg a b) k (λb=>x k*Zbg k b+0*Zbg k b)=(λa b=>if b=k then x a else Zbg a b):=by
   funext a b
   unfold Zaf;by_cases ha:a=k
   ·subst ha;rw[if_pos rfl];unfold Zbg
    by_cases hb:b=a;subst hb;simp only[if_true];grind;rw[if_neg hb,if_neg (Qx hb)];grind
   rw[if_neg ha]
  rw[e1]at h1;have h2:=Zmu (n:=n) (λa b=>Zbg a b) hk x
  have e2:Zao n (Zaf (λa b=>if b=k then x a else Zbg a b) k (Zbg k))=Zao n (λa b=>if a=k then Zbg a b else Zbg a b+x a*Zbg k b):=by
   refine Za7 λa b _ _=>?_;unfold Zaf;by_cases ha:a=k;rw[if_pos ha,if_pos ha,ha]
   ·rw[if_neg ha,if_neg ha]
    unfold Zbg;simp only;by_cases hb:b=k;subst hb;rw[if_pos rfl,if_neg ha,if_pos rfl];grind;rw[if_neg hb,if_neg (Qx hb)];grind
  rw[e2,h2,Zq8]at h1;rw[h1];grind
 have h3:=det_mul n A (λa b=>if b=k then x a else Zbg a b);rw[hT]at h3;rw[<- h3];refine Za7 λa b ha hb=>?_;unfold Zrh;by_cases hbk:b=k
 ·rw[if_pos hbk,<- h a ha]
  exact Zar λl _=>by simp only;rw[if_pos hbk]
 ·rw[if_neg hbk,Zhp b hb (λi _ hi=>by simp only;rw[if_neg hbk];unfold Zbg;rw[if_neg hi];grind)]
  simp only;rw[if_neg hbk];unfold Zbg;rw[if_pos rfl];grind
open Go.RowKit
attribute [local go_sem] Zh
theorem Zpa(na:Bool)(A B:Option Addr)(n c m d:Nat)(za zb:Int)(w:World)(ha:Wd w na A n c za)(hb:Wd w true B m d zb)(h0:zb<0) :
    Calls Tryz.prog 33 #[.agg #[.bool na,.slice A n c],.agg #[.bool true,.slice B m d]] w (Zd0 w (QC za zb)):=by
 have f8:=Zdn ha.small hb.small;have hx:=Za (Zjm (a:=za) (b:=zb) (by omega));have hy:=Za (Zi5 (a:=za) (b:=zb) (by omega));have a4:=Za (Zk6 (a:=za) (b:=zb) (by omega));have d8:Zf6 za zb=-((Nat.gcd za.natAbs zb.natAbs:Nat):Int):=by unfold Zf6;rw[if_pos (by omega)]
 rw[d8]at hx hy a4;have HA:=Za ha;have HB:=Za hb;obtain⟨G,hG⟩:∃ G,Nat.gcd za.natAbs zb.natAbs=G:=⟨_,rfl⟩;rw[hG]at hx hy a4 f8
 have HGc:Hid (∀ W:World,Wd W na A n c za->Wd W true B m d zb->Calls Tryz.prog 59 #[.agg #[.bool na,.slice A n c],.agg #[.bool true,.slice B m d]] W (ResW W (G:Int))):=λW h1 h2=>by
  have:=Zk9 na true A B n c m d za zb W h1 h2;rw[hG]at this;exact this
 generalize QC za zb=R at *;clear ha hb hG d8;have b6:∀ X Y Z:Obj,Below w.heap.size w (((w.alloc X).alloc Y).alloc Z):=λX Y Z=>(((Qe w.heap.size w).alloc (Qc _) _).alloc (by simp) _).alloc (by simp;omega) _;have b6:=Za b6;go_enter Tryz.func33,Tryz.ntmps33;go_wp2_with fail;have q0:Blk (((w.alloc (.cells #[.bool na,.slice A n c] 39)).alloc (.cells #[.bool true,.slice B m d] 39)).alloc (.cells #[.bool false,.slice none 0 0,.bool false,.slice none 0 0] 41)) w.heap.size 39 #[.bool na,.slice A n c]:=((QF _ _ _).alloc _).alloc _
 have q1:Blk (((w.alloc (.cells #[.bool na,.slice A n c] 39)).alloc (.cells #[.bool true,.slice B m d] 39)).alloc (.cells #[.bool false,.slice none 0 0,.bool false,.slice none 0 0] 41)) (w.heap.size+1) 39 #[.bool true,.slice B m d]:=by
  have:=(QF (w.alloc (.cells #[.bool na,.slice A n c] 39)) 39 #[.bool true,.slice B m d]).alloc (.cells #[.bool false,.slice none 0 0,.bool false,.slice none 0 0] 41);simp only[QD]at this;exact this
 have q2:Blk (((w.alloc (.cells #[.bool na,.slice A n c] 39)).alloc (.cells #[.bool true,.slice B m d] 39)).alloc (.cells #[.bool false,.slice none 0 0,.bool false,.slice none 0 0] 41)) (w.heap.size+1+1) 41 #[.bool false,.slice none 0 0,.bool false,.slice none 0 0]:=by
  have:=QF ((w.alloc (.cells #[.bool na,.slice A n c] 39)).alloc (.cells #[.bool true,.slice B m d] 39)) 41 #[.bool false,.slice none 0 0,.bool false,.slice none 0 0];simp only[QD]at this;exact this
 refine(HGc.out _ (((HA.out.alloc _).alloc _).alloc _) (((HB.out.alloc _).alloc _).alloc _)).mono ?_;rintro e w1 ⟨u,ng,Ag,kg,cg,code,rfl,hR⟩;rcases hR with ⟨-,rfl,f5⟩|⟨I,-⟩
 case inr=>exact absurd I (by omega)
 have a5:Below w.heap.size w w1:=(b6.out _ _ _).trans (u.mono (by simp;omega));have e0:=Za (HA.out.below a5);have e4:=Za (HB.out.below a5);have s1:w.heap.size+1+1<w1.heap.size:=by have:=u.size;simp at this;omega
 replace q0:=Zd u q0;replace q1:=Zd u q1;replace q2:=Zd u q2;have e1:=Za f5;have s2:w.heap.size+1+1<w1.heap.size:=s1;clear u f5;obtain⟨W3,a3,c4,q3,kW,kB,s3⟩:=Zt 39 #[.bool ng,.slice Ag kg cg] a5 (by omega);replace q0:=kB _ _ _ q0;replace q1:=kB _ _ _ q1;replace q2:=kB _ _ _ q2;have a2:=Za (kW _ _ _ _ _ e0.out);have J:=Za (kW _ _ _ _ _ e4.out);have o:=Za (kW _ _ _ _ _ e1.out);have s4:w.heap.size+1+1<w1.heap.size:=s2;clear kW kB e0 e4 e1 a5;have c0:=Za q0.two;have c1:=Za q1.two;have c3:=Za q3.two;rw[<- a3]at c0 c1 c3;obtain⟨b0,a7,-,-⟩:=c0.out;obtain⟨T,U,-,-⟩:=c1.out;obtain⟨O,a0,-,-⟩:=c3.out;have hq:=Za (Qn q0 (Qn q1 (Qn q2 q3)));clear q0 q1 q2 q3;replace a3:=Za a3;go_wp2_with fail;rw[a3.out];refine(rNeg_ok ng Ag kg cg (G:Int) _ o.out).mono ?_;rintro e wn ⟨f,n2,A2,k2,c2,code,rfl,hR⟩;have I:¬ pw 4096<=(-(G:Int)).natAbs:=by omega
 rcases hR with ⟨-,rfl,a6⟩|⟨a9,-⟩
 case inr=>exact absurd a9 I
 have c7:Below w.heap.size w wn:=c4.trans (f.mono (by omega));have HAn:=Za (a2.out.below f);have HBn:=Za (J.out.below f);replace a6:=Za a6;have sn:w1.heap.size+1<=wn.heap.size:=by have:=f.size;omega
 have q0:=Zd f hq.out.1;have q1:=Zd f hq.out.2.1;have q2:=Zd f hq.out.2.2.1;have q3:=Zd f hq.out.2.2.2;clear f c0 c1 c3 b0 a7 T U O a0 a3 a2 J o c4 hq;have d3:=Za q3.two;obtain⟨f7,g0,f9,f6⟩:=d3.out;have d7:w.heap.size≠w1.heap.size:=by omega
 have c9:w.heap.size+1≠w1.heap.size:=by omega
 have e5:w.heap.size+1+1≠w1.heap.size:=by omega
 obtain⟨V,hV,e2,b1,kV,-,sV⟩:=Zbe n2 A2 k2 c2 c7 (by omega) q3;replace q0:Blk V w.heap.size 39 #[.bool na,.slice A n c]:=by rw[<- hV];exact(q0.far d7 _).far d7 _
 replace q1:Blk V (w.heap.size+1) 39 #[.bool true,.slice B m d]:=by rw[<- hV];exact(q1.far c9 _).far c9 _
 replace q2:Blk V (w.heap.size+1+1) 41 #[.bool false,.slice none 0 0,.bool false,.slice none 0 0]:=by rw[<- hV];exact(q2.far e5 _).far e5 _
 have a2:=Za (kV _ _ _ _ _ HAn.out);have J:=Za (kV _ _ _ _ _ HBn.out);have o:=Za (kV _ _ _ _ _ a6.out);clear kV HAn HBn a6 c7;have c0:=Za q0.two;have c1:=Za q1.two;have c3:=Za b1.two;rw[<- hV]at c0 c1 c3;obtain⟨b0,a7,-,-⟩:=c0.out;obtain⟨T,U,-,-⟩:=c1.out;obtain⟨O,a0,-,-⟩:=c3.out;have hq:=Za (Qn q0 (Qn q1 (Qn q2 b1)));clear q0 q1 q2 q3 b1 d3;replace hV:=Za hV;go_wp2_with fail;rw[hV.out];have s3:w1.heap.size+1<=V.heap.size:=by omega
 refine(Zgj na n2 A A2 n c k2 c2 za (-(G:Int)) _ a2.out o.out a4.out).mono ?_;rintro e w4 ⟨h,nx,Ax,kx,cx,nr,Ar,kr,cr,rfl,b4,-⟩;rw[hx.out]at b4;have d0:Below w.heap.size w w4:=e2.trans (h.mono (by omega));have c6:=Za (J.out.below h);have b8:=Za (o.out.below h);have s5:w1.heap.size+1<=w4.heap.size:=by have:=h.size;omega
 have q1:=Zd h hq.out.2.1;have q2:=Zd h hq.out.2.2.1;have q3:=Zd h hq.out.2.2.2;clear h c0 c1 c3 b0 a7 T U O a0 f7 g0 f9 f6 hV a2 J o e2 hq;obtain⟨W5,b3,e7,q5,kW,kB,s6⟩:=Zt 39 #[.bool nx,.slice Ax kx cx] d0 (by omega);replace q1:=kB _ _ _ q1;replace q2:=kB _ _ _ q2;replace q3:=kB _ _ _ q3;have f3:=Za (kW _ _ _ _ _ c6.out);have d4:=Za (kW _ _ _ _ _ b8.out);have e9:=Za (kW _ _ _ _ _ b4);clear kW kB c6 b8 b4 d0;obtain⟨W6,y,f0,-,kW,kB,s7⟩:=Zt 39 #[.bool nr,.slice Ar kr cr] e7 (by omega);replace q1:=kB _ _ _ q1;replace q2:=kB _ _ _ q2;replace q3:=kB _ _ _ q3;replace q5:=kB _ _ _ q5;have e3:=Za (kW _ _ _ _ _ f3.out);have b7:=Za (kW _ _ _ _ _ d4.out);have e6:=Za (kW _ _ _ _ _ e9.out);clear kW kB f3 d4 e9 e7;have c1:=Za q1.two;have c3:=Za q3.two;rw[<- y,<- b3]at c1 c3;obtain⟨T,U,-,-⟩:=c1.out;obtain⟨O,a0,-,-⟩:=c3.out;have hq:=Za (Qn q2 q5);clear q1 q2 q3 q5;rw[<- b3]at y;replace y:=Za y;clear b3;go_wp2_with fail;rw[y.out];refine(Zgj true n2 B A2 m d k2 c2 zb (-(G:Int)) _ e3.out b7.out a4.out).mono ?_;rintro e w7 ⟨C,ny,Ay,ky,cy,ns,As,ks,cs,rfl,a8,-⟩;rw[hy.out]at a8;have f4:Below w.heap.size w w7:=f0.trans (C.mono (by omega));have d6:=Za (e6.out.below C);have s8:w4.heap.size+2<=w7.heap.size:=by have:=C.size;omega
 have q2:=Zd C hq.out.1;have q5:=Zd C hq.out.2;clear C c1 c3 T U O a0 y e3 b7 e6 f0 hq;obtain⟨W8,b5,d9,q8,kW,kB,s9⟩:=Zt 39 #[.bool ny,.slice Ay ky cy] f4 (by omega);replace q2:=kB _ _ _ q2;replace q5:=kB _ _ _ q5;have d5:=Za (kW _ _ _ _ _ d6.out);have b9:=Za (kW _ _ _ _ _ a8);clear kW kB d6 a8 f4;obtain⟨W9,a1,b2,-,kW,kB,g5⟩:=Zt 39 #[.bool ns,.slice As ks cs] d9 (by omega);replace q2:=kB _ _ _ q2;replace q5:=kB _ _ _ q5;replace q8:=kB _ _ _ q8;have g2:=Za (kW _ _ _ _ _ d5.out);have g1:=Za (kW _ _ _ _ _ b9.out);clear kW kB d5 b9 d9;have c5:=Za q5.two;have c8:=Za q8.two;have c2:=Za q2.four;have hq:=Za q2;rw[<- a1,<- b5]at c5 c8 c2;rw[<- b5]at a1;clear b5 q2 q5 q8;obtain⟨g7,h4,-,-⟩:=c5.out;obtain⟨h6,g9,-,-⟩:=c8.out;obtain⟨h5,g4,h9,h7,h3,g6,h8,g8⟩:=c2.out;replace a1:=Za a1;replace b2:=Za b2;go_wp2_with fail;rw[a1.out];obtain⟨W,hW,hB,e8,kW,-⟩:=Zaa nx Ax kx cx ny Ay ky cy b2.out (by omega) hq.out;rw[hW];obtain⟨r0,r1,r2,r3,-⟩:=e8.four;refine bodyPost_ret (v:=.agg #[.bool nx,.slice Ax kx cx,.bool ny,.slice Ay ky cy]) (by simp[results,Tryz.results33,go_sem,r0,r1,r2,r3]) rfl ?_;exact⟨hB,_,_,_,_,_,_,_,_,rfl,kW _ _ _ _ _ g2.out,kW _ _ _ _ _ g1.out⟩
theorem Zpk(na nb:Bool)(A B:Option Addr)(n c m d:Nat)(za zb:Int)(w:World)(ha:Wd w na A n c za)(hb:Wd w nb B m d zb)(h0:zb≠0) :
    Calls Tryz.prog 33 #[.agg #[.bool na,.slice A n c],.agg #[.bool nb,.slice B m d]] w (Zd0 w (QC za zb)):=by
 have hn:=hb.1;by_cases hz:zb<0
 ·rw[decide_eq_true hz]at hn
  subst hn;exact Zpa na A B n c m d za zb w ha hb hz
 ·rw[decide_eq_false hz]at hn
  subst hn;exact Zjn na A B n c m d za zb w ha hb (by omega)
theorem Zi9(na nb nc nd:Bool)(A B C D:Option Addr)(n c m d n' c' m' d':Nat)(x y u v:Int)(w:World)(ha:Wd w na A n c x)(hb:Wd w nb B m d y)(hc:Wd w nc C n' c' u)(hd:Wd w nd D m' d' v)
    (hs:(x*y).natAbs<pw 4096) (ht:(u*v).natAbs<pw 4096) (h0:u*v≠0) :
    Calls Tryz.prog 101 #[.agg #[.bool na,.slice A n c],.agg #[.bool nb,.slice B m d],.agg #[.bool nc,.slice C n' c'],.agg #[.bool nd,.slice D m' d']] w (Zgz w (QC (x*y) (u*v))):=by
 obtain⟨W0,Y,o,⟨q0,q1,q2,q3,q4⟩,s0⟩:=alloc5 w 39 #[.bool na,.slice A n c] 39 #[.bool nb,.slice B m d] 39 #[.bool nc,.slice C n' c'] 39 #[.bool nd,.slice D m' d'] 41 #[.bool false,.slice none 0 0,.bool false,.slice none 0 0];have hA:=Za (Qn (ha.below o) (hb.below o));have hC:=Za (Qn (hc.below o) (hd.below o));replace hs:=Za hs;replace ht:=Za ht;replace h0:=Za h0;clear ha hb hc hd;obtain⟨a0,a1,-⟩:=q0.two;obtain⟨b0,b1,-⟩:=q1.two;have hq:=Za (Qn q2 (Qn q3 q4));clear q0 q1 q2 q3 q4;go_enter Tryz.func101,Tryz.ntmps101;go_wp2_with fail;refine(Zgm na nb A B n c m d x y W0 hA.out.1 hA.out.2).mono ?_;rintro e w1 ⟨f,np,P,k,q,code,rfl,hR⟩;have hP:=Za (hR.small hs.out);have h:=hR.code0 hs.out;subst h;have V:Below w.heap.size w w1:=o.trans (f.mono o.size);have s1:W0.heap.size<=w1.heap.size:=f.size;replace hC:=Za (Qn (hC.out.1.below f) (hC.out.2.below f));obtain⟨q2,q3,q4⟩:=hq.out;replace q2:=Zd f q2;replace q3:=Zd f q3;replace q4:=Zd f q4;clear Y f a0 a1 b0 b1 hq hR hs o hA;obtain⟨W2,a2,U,q5,kW,kB,s2⟩:=Zt 39 #[.bool np,.slice P k q] V V.size;replace hC:=Za (Qn (kW _ _ _ _ _ hC.out.1) (kW _ _ _ _ _ hC.out.2));replace hP:=Za (kW _ _ _ _ _ hP.out);replace q2:=kB _ _ _ q2;replace q3:=kB _ _ _ q3;replace q4:=kB _ _ _ q4;clear kW kB V;obtain⟨a0,a1,-⟩:=q2.two;obtain⟨b0,b1,-⟩:=q3.two;have hq:=Za (Qn q4 q5);clear q2 q3 q4 q5;go_wp2_with fail
 refine(Zgm nc nd C D n' c' m' d' u v W2 hC.out.1 hC.out.2).mono ?_;rintro e w3 ⟨I,nr,R,k2,r,code,rfl,hR⟩;have hQ:=Za (hR.small ht.out);have h:=hR.code0 ht.out;subst h;have O:Below w.heap.size w w3:=U.trans (I.mono U.size);have s3:W2.heap.size<=w3.heap.size:=I.size;obtain⟨q4,q5⟩:=hq.out;replace q4:=Zd I q4;replace q5:=Zd I q5;replace hP:=Za (hP.out.below I);clear a2 I a0 a1 b0 b1 hq hR ht U hC;obtain⟨W4,a4,T,q6,kW,kB,s4⟩:=Zt 39 #[.bool nr,.slice R k2 r] O O.size;replace hQ:=Za (kW _ _ _ _ _ hQ.out);replace hP:=Za (kW _ _ _ _ _ hP.out);replace q4:=kB _ _ _ q4;replace q5:=kB _ _ _ q5;clear kW kB O;obtain⟨a0,a1,-⟩:=q5.two;obtain⟨b0,b1,-⟩:=q6.two;have hq:=Za q4;clear q4 q5 q6;go_wp2_with fail;refine(Zpk np nr P R k q k2 r _ _ W4 hP.out hQ.out h0.out).mono ?_;rintro e w5 ⟨J,nx,Ax,kx,cx,ny,Ay,ky,cy,rfl,hF⟩;have a5:Below w.heap.size w w5:=T.trans (J.mono T.size);have s5:W4.heap.size<=w5.heap.size:=J.size;replace hq:=Za (Zd J hq.out);replace hF:=Za hF;clear a0 a1 b0 b1 a4 J T hP hQ;obtain⟨b3,a7,b6,b4,b2,a8,b5,a9⟩:=hq.out.four;go_wp2_with fail;obtain⟨W6,a3,a6,q2,kW,-,s6⟩:=Zaa nx Ax kx cx ny Ay ky cy a5 (by omega) hq.out;rw[a3];obtain⟨r0,r1,r2,r3,-⟩:=q2.four;refine bodyPost_ret (v:=.tuple #[.agg #[.bool nx,.slice Ax kx cx,.bool ny,.slice Ay ky cy],.int .i64 0]) (by simp[results,Tryz.results101,go_sem,r0,r1,r2,r3]) rfl ?_;exact⟨a6,_,_,_,_,_,_,_,_,rfl,kW _ _ _ _ _ hF.out.1,kW _ _ _ _ _ hF.out.2⟩
theorem Zhj(a b:Rat)(h:b≠0):QC (a.num*b.den) ((a.den:Int)*b.num)=a/b:=by
 rw[QX,Yb,Yb,QN,QN]
 have e0:∀ x:Rat,((x.num:Int):Rat)=x*((x.den:Nat):Rat):=λx=>by
  have h1:((x.num:Int):Rat)/((x.den:Nat):Rat)=x:=by have:=QV x;rw[QX,QN]at this;exact this
  have h2:((x.den:Nat):Rat)≠0:=by intro h;have:x.den=0:=by exact_mod_cast h
                                  have:=x.den_pos;omega
  rw[<- h1];grind
 have d:∀ x:Rat,((x.den:Nat):Rat)≠0:=λx h=>by
  have:x.den=0:=by exact_mod_cast h
  have:=x.den_pos;omega
 rw[e0 a,e0 b];have da:=d a;have db:=d b
 grind
theorem Zir(a b:Rat)(h:b≠0):((a.den:Int)*b.num)≠0:=by
 have h1:=a.den_pos;have h2:b.num≠0:=λe=>h (Rat.num_eq_zero.1 e);exact Int.mul_ne_zero (by omega) h2
theorem Zmh(na nb na' nb':Bool)(A B A' B':Option Addr)(n c m d n' c' m' d':Nat)(a b:Rat)(w:World)(ha:Fr w na A n c nb B m d a)(hb:Fr w na' A' n' c' nb' B' m' d' b)(sa:Sm a)(sb:Sm b)(h0:b≠0) :
    Calls Tryz.prog 137 #[.agg #[.bool na,.slice A n c,.bool nb,.slice B m d],.agg #[.bool na',.slice A' n' c',.bool nb',.slice B' m' d']] w (Zgz w (a/b)):=by
 obtain⟨W0,I,h,⟨q0,q1,q2⟩,s0⟩:=Zcu w 41 #[.bool na,.slice A n c,.bool nb,.slice B m d] 41 #[.bool na',.slice A' n' c',.bool nb',.slice B' m' d'] 41 #[.bool false,.slice none 0 0,.bool false,.slice none 0 0];have hA:=ha.below h;have hD:=hb.below h;clear ha hb;have hG:=Zi9 na nb' nb na' A B' B A' n c m' d' m d n' c' a.num b.den a.den b.num W0 hA.1 hD.2 hA.2 hD.1 (Zcd sa.1 sb.dn) (Zcd sa.dn sb.1) (Zir a b h0);rw[Zhj a b h0]at hG;replace hG:=Za hG;clear sa sb hA hD;obtain⟨a0,a1,a2,a3,-⟩:=q0.four;obtain⟨b0,b1,b2,b3,-⟩:=q1.four;replace q2:=Za q2;clear q0 q1;go_enter Tryz.func137,Tryz.ntmps137;go_wp2_with fail;refine hG.out.mono ?_;clear hG;rintro e w2 ⟨f,nx,Ax,kx,cx,ny,Ay,ky,cy,rfl,hF⟩;have o:Below w.heap.size w w2:=h.trans (f.mono h.size);have s2:W0.heap.size<=w2.heap.size:=f.size;replace q2:=Za (Zd f q2.out);replace hF:=Za hF;clear a0 a1 a2 a3 b0 b1 b2 b3 f;obtain⟨T,C,a4,Y,J,O,U,V⟩:=q2.out.four;go_wp2_with fail;obtain⟨W7,u,y,q3,kW,-,s7⟩:=Zaa nx Ax kx cx ny Ay ky cy o (by omega) q2.out;rw[u];obtain⟨r0,r1,r2,r3,-⟩:=q3.four;refine bodyPost_ret (v:=.tuple #[.agg #[.bool nx,.slice Ax kx cx,.bool ny,.slice Ay ky cy],.int .i64 0]) (by simp[results,Tryz.results137,go_sem,r0,r1,r2,r3]) rfl ?_;exact⟨y,_,_,_,_,_,_,_,_,rfl,kW _ _ _ _ _ hF.out.1,kW _ _ _ _ _ hF.out.2⟩
theorem Zjx(na nb na' nb':Bool)(A B A' B':Option Addr)(n c m d n' c' m' d':Nat)(a b:Rat)(w:World)(ha:Fr w na A n c nb B m d a)(hb:Fr w na' A' n' c' nb' B' m' d' b)(sa:Sm a)(sb:Sm b) :
    Calls Tryz.prog 62 #[.agg #[.bool na,.slice A n c,.bool nb,.slice B m d],.agg #[.bool na',.slice A' n' c',.bool nb',.slice B' m' d']] w (Zgz w (a*b)):=by
 obtain⟨W0,I,h,⟨q0,q1,q2⟩,s0⟩:=Zcu w 41 #[.bool na,.slice A n c,.bool nb,.slice B m d] 41 #[.bool na',.slice A' n' c',.bool nb',.slice B' m' d'] 41 #[.bool false,.slice none 0 0,.bool false,.slice none 0 0];have hA:=ha.below h;have hD:=hb.below h;clear ha hb;have hG:=Zi9 na na' nb nb' A A' B B' n c n' c' m d m' d' a.num b.num a.den b.den W0 hA.1 hD.1 hA.2 hD.2 (Zcd sa.1 sb.1) (Zcd sa.dn sb.dn) (Int.ne_of_gt (Zek a b));rw[Zo5]at hG;replace hG:=Za hG;clear sa sb hA hD;obtain⟨a0,a1,a2,a3,-⟩:=q0.four;obtain⟨b0,b1,b2,b3,-⟩:=q1.four;replace q2:=Za q2;clear q0 q1;go_enter Tryz.func62,Tryz.ntmps62;go_wp2_with fail;refine hG.out.mono ?_;clear hG;rintro e w2 ⟨f,nx,Ax,kx,cx,ny,Ay,ky,cy,rfl,hF⟩;have o:Below w.heap.size w w2:=h.trans (f.mono h.size);have s2:W0.heap.size<=w2.heap.size:=f.size;replace q2:=Za (Zd f q2.out);replace hF:=Za hF;clear a0 a1 a2 a3 b0 b1 b2 b3 f;obtain⟨T,C,a4,Y,J,O,U,V⟩:=q2.out.four;go_wp2_with fail;obtain⟨W7,u,y,q3,kW,-,s7⟩:=Zaa nx Ax kx cx ny Ay ky cy o (by omega) q2.out;rw[u];obtain⟨r0,r1,r2,r3,-⟩:=q3.four;refine bodyPost_ret (v:=.tuple #[.agg #[.bool nx,.slice Ax kx cx,.bool ny,.slice Ay ky cy],.int .i64 0]) (by simp[results,Tryz.results62,go_sem,r0,r1,r2,r3]) rfl ?_;exact⟨y,_,_,_,_,_,_,_,_,rfl,kW _ _ _ _ _ hF.out.1,kW _ _ _ _ _ hF.out.2⟩
theorem Zj9(na nb na' nb':Bool)(A B A' B':Option Addr)(n c m d n' c' m' d':Nat)(a b:Rat)(w:World)(ha:Fr w na A n c nb B m d a)(hb:Fr w na' A' n' c' nb' B' m' d' b)(sa:Sm a)(sb:Sm b) :
    Calls Tryz.prog 136 #[.agg #[.bool na,.slice A n c,.bool nb,.slice B m d],.agg #[.bool na',.slice A' n' c',.bool nb',.slice B' m' d']] w (Zgz w (a-b)):=by
 obtain⟨W0,I,h,⟨q0,q1,q2⟩,s0⟩:=Zcu w 41 #[.bool na,.slice A n c,.bool nb,.slice B m d] 41 #[.bool na',.slice A' n' c',.bool nb',.slice B' m' d'] 41 #[.bool false,.slice none 0 0,.bool false,.slice none 0 0];have hA:=ha.below h;have hD:=hb.below h;clear ha hb;have hG:=Ztn na nb na' nb' A B A' B' n c m d n' c' m' d' a b W0 hA hD sa sb;replace hG:=Za hG;clear sa sb hA hD;obtain⟨a0,a1,a2,a3,-⟩:=q0.four;obtain⟨b0,b1,b2,b3,-⟩:=q1.four;replace q2:=Za q2;clear q0 q1;go_enter Tryz.func136,Tryz.ntmps136;go_wp2_with fail;refine hG.out.mono ?_;clear hG;rintro e w2 ⟨f,nx,Ax,kx,cx,ny,Ay,ky,cy,rfl,hF⟩;have o:Below w.heap.size w w2:=h.trans (f.mono h.size);have s2:W0.heap.size<=w2.heap.size:=f.size;replace q2:=Za (Zd f q2.out);replace hF:=Za hF;clear a0 a1 a2 a3 b0 b1 b2 b3 f;obtain⟨T,C,a4,Y,J,O,U,V⟩:=q2.out.four;go_wp2_with fail;obtain⟨W7,u,y,q3,kW,-,s7⟩:=Zaa nx Ax kx cx ny Ay ky cy o (by omega) q2.out;rw[u];obtain⟨r0,r1,r2,r3,-⟩:=q3.four;refine bodyPost_ret (v:=.tuple #[.agg #[.bool nx,.slice Ax kx cx,.bool ny,.slice Ay ky cy],.int .i64 0]) (by simp[results,Tryz.results136,go_sem,r0,r1,r2,r3]) rfl ?_;exact⟨y,_,_,_,_,_,_,_,_,rfl,kW _ _ _ _ _ hF.out.1,kW _ _ _ _ _ hF.out.2⟩
theorem Zyi(a b:Int)(h:b≠0):(QC a b).num.natAbs<=a.natAbs:=by
 rw[Rat.num_divInt];rw[Int.natAbs_ediv_of_dvd]
 ·refine Qt (Yc _ _) ?_
  rw[Qs];rcases Int.lt_or_gt_of_ne h with g|g;rw[Int.sign_eq_neg_one_of_neg g];simp;rw[Int.sign_eq_one_of_pos g];simp
 exact Int.dvd_trans (Int.gcd_dvd_right _ _) (Int.dvd_mul_left _ _)
theorem Zwm(a b:Int)(h:b≠0):(QC a b).den<=b.natAbs:=by
 rw[Rat.den_divInt,if_neg h];exact Yc _ _
theorem Zd7:1<pw 1:=by rw[Zbh,Zeb];decide
def SmN(i j:Nat)(r:Rat):Prop:=r.num.natAbs<pw i/\r.den<pw j
theorem SmN.sm{i j:Nat}{r:Rat}(h:SmN i j r)(hi:i<=1000)(hj:j<=1000):Sm r:=⟨Qy h.1 (Zcn hi),Qy h.2 (Zcn hj)⟩
theorem SmN.mono{i j i' j':Nat}{r:Rat}(h:SmN i j r)(hi:i<=i')(hj:j<=j'):SmN i' j' r:=⟨Qy h.1 (Zcn hi),Qy h.2 (Zcn hj)⟩
theorem SmN.int{i:Nat}{n:Int}(hn:n.natAbs<pw i):SmN i 1 (n:Rat):=⟨by simpa using hn,by simp only[Yd];exact Zd7⟩
structure RF where
 g:Nat
 c:Nat
 q:List Rat
def RF.rs(r:RF):RS:=⟨some ⟨r.g,0,none⟩,r.q.length,r.c⟩
def MatB(tS tF:TypeId)(w:World)(go:Nat)(L:List RF):Prop:=
 (∃ zs,Blk w go tS (Zx (L.map RF.rs++zs)))/\(∀ r ∈ L,FOwn tF w r.g r.q/\r.q.length<=r.c/\r.c<=maxLen)/\(go::L.map RF.g).Nodup
section
variable{tS tF:TypeId}{w w':World}{go:Nat}{L:List RF}
theorem MatB.below(h:MatB tS tF w go L)(hb:Below w.heap.size w w'):MatB tS tF w' go L:=by
 obtain⟨⟨zs,h1⟩,h2,h3⟩:=h;exact⟨⟨zs,Zd hb h1⟩,λr hr=>⟨(h2 r hr).1.below hb,(h2 r hr).2⟩,h3⟩
theorem MatB.cell(h:MatB tS tF w go L){i:Nat}{r:RF}(hr:L[i]?=some r):w.cell? ⟨go,i,none⟩=some (.slice (some ⟨r.g,0,none⟩) r.q.length r.c)/\w.frozen? ⟨go,i,none⟩=false:=by
 obtain⟨⟨zs,h1⟩,-,-⟩:=h;refine⟨?_,h1.frozen i⟩;rw[h1.cell];refine Zbv (e:=r.rs) ?_;have hi:=(List.getElem?_eq_some_iff.1 hr).1;rw[Qo (by simpa using hi),Qb,hr];rfl
theorem MatB.row(h:MatB tS tF w go L){i:Nat}{r:RF}(hr:L[i]?=some r):FOwn tF w r.g r.q/\r.q.length<=r.c/\r.c<=maxLen:=h.2.1 r (Qh hr)
theorem MatB.ne(h:MatB tS tF w go L){i:Nat}{r:RF}(hr:L[i]?=some r):go≠r.g:=λe=>by
 have:=(List.nodup_cons.1 h.2.2).1;exact this (List.mem_map.2 ⟨r,Qh hr,e.symm⟩)
theorem MatB.ne2(h:MatB tS tF w go L){i j:Nat}{r s:RF}(hr:L[i]?=some r)(hs:L[j]?=some s)(hij:i≠j):r.g≠s.g:=λe=>by
 have hn:=(List.nodup_cons.1 h.2.2).2;have h1:(L.map RF.g)[i]?=some r.g:=by rw[Qb,hr];rfl
 have h2:(L.map RF.g)[j]?=some r.g:=by rw[Qb,hs,e];rfl
 exact hij ((QQ (by have:=(List.getElem?_eq_some_iff.1 h1).1;exact this) hn).1 (h1.trans h2.symm))
theorem MatB.boxes(h:MatB tS tF w go L):∀ k,(k=go \/ k ∈ L.map RF.g)->∃ t cs,Blk w k t cs/\NoLimb cs:=by
 intro k hk;obtain⟨⟨zs,h1⟩,h2,-⟩:=h;rcases hk with rfl|hk;exact⟨tS,_,h1,Zas _⟩
 ·obtain⟨r,hr,rfl⟩:=List.mem_map.1 hk
  exact(h2 r hr).1.box
theorem MatB.set_(h:MatB tS tF w go L){i:Nat}{r:RF}(hr:L[i]?=some r){k:Nat}(hk:k<r.q.length){na:Bool}{A:Option Addr}{n c:Nat}{nb:Bool}{B:Option Addr}{m d:Nat}{x:Rat}(hf:Fr w na A n c nb B m d x) :
    MatB tS tF (Zel w r.g k na A n c nb B m d) go (L.set i ⟨r.g,r.c,r.q.set k x⟩):=by
 have y:=h.ne hr;have u:=λ{j:Nat} {s:RF} (hs:L[j]?=some s) (hij:j≠i)=>h.ne2 hs hr hij;have f:=h.row hr;have hi:=(List.getElem?_eq_some_iff.1 hr).1;obtain⟨⟨zs,h1⟩,h2,h3⟩:=h;refine⟨⟨zs,?_⟩,λs hs=>?_,?_⟩
 ·have e:(L.set i ⟨r.g,r.c,r.q.set k x⟩).map RF.rs=L.map RF.rs:=by
    rw[Qp];apply Qj;intro j;rw[Qd];by_cases hij:i=j
    ·subst hij
     rw[if_pos rfl,if_pos (by simpa using hi),Qb,hr];simp[RF.rs]
    rw[if_neg hij]
  rw[e];exact Zjd h1 y
 ·obtain⟨j,hj,C⟩:=QG hs
  have o:(L.set i ⟨r.g,r.c,r.q.set k x⟩)[j]?=some s:=by rw[Qa hj,C]
  rw[Qd]at o;by_cases hij:i=j
  ·subst hij
   rw[if_pos rfl,if_pos hi]at o;cases o;exact⟨f.1.set_ hk hf,by simpa using f.2.1,f.2.2⟩
  ·rw[if_neg hij]at o
   have:=h2 s (Qh o);exact⟨this.1.other (u o (Qx hij)) f.1.box,this.2⟩
 ·have e:(L.set i ⟨r.g,r.c,r.q.set k x⟩).map RF.g=L.map RF.g:=by
    rw[Qp];apply Qj;intro j;rw[Qd];by_cases hij:i=j
    ·subst hij
     rw[if_pos rfl,if_pos (by simpa using hi),Qb,hr];rfl
    rw[if_neg hij]
  rw[e];exact h3
theorem Zqk{α:Type}{l:List α}{i j:Nat}{x y:α}(hx:l[i]?=some x)(hy:l[j]?=some y):Zy l i j=(l.set i y).set j x:=by unfold Zy;rw[hx,hy]
theorem Ze0{α β:Type}(f:α->β)(l:List α)(i j:Nat):(Zy l i j).map f=Zy (l.map f) i j:=by
 unfold Zy;rw[Qb,Qb];cases l[i]? with
 | none=>rfl
 | some x=>cases l[j]? with
  | none=>rfl
  | some y=>simp[Qp]
theorem Zdi{α:Type}(l:List α)(i j:Nat):∀ x,x ∈ Zy l i j->x ∈ l:=by
 intro x hx;unfold Zy at hx
 split at hx
 ·rename_i a b ha hb
  rcases QR hx with hx|rfl
  ·rcases QR hx with hx|rfl
   exact hx;exact Qh hb
  exact Qh ha
 exact hx
theorem Zk1{l:List Nat}(h:l.Nodup){i j:Nat}(hi:i<l.length)(hj:j<l.length):(Zy l i j).Nodup:=by
 unfold List.Nodup;rw[List.pairwise_iff_getElem];intro a b ha hb o e;rw[Zdm]at ha hb;have h1:(Zy l i j)[a]?=(Zy l i j)[b]?:=by rw[Qa (by rw[Zdm];exact ha),Qa (by rw[Zdm];exact hb),e]
 rw[Zdo hi hj,Zdo hi hj]at h1;have f:swI i j a<l.length:=Zhl hi hj ha;have:=(QQ f h).1 h1;have h2:swI i j (swI i j a)=swI i j (swI i j b):=by rw[this]
 rw[Zpe,Zpe]at h2;omega
theorem MatB.swap(h:MatB tS tF w go L){i j:Nat}{r s:RF}(hr:L[i]?=some r)(hs:L[j]?=some s) :
    MatB tS tF ((w.setCell ⟨go,i,none⟩ (.slice (some ⟨s.g,0,none⟩) s.q.length s.c)).setCell ⟨go,j,none⟩ (.slice (some ⟨r.g,0,none⟩) r.q.length r.c)) go (Zy L i j):=by
 have hi:=(List.getElem?_eq_some_iff.1 hr).1;have hj:=(List.getElem?_eq_some_iff.1 hs).1;have C:=λ{j:Nat} {s:RF} (hs:L[j]?=some s)=>h.ne hs;obtain⟨⟨zs,h1⟩,h2,h3⟩:=h;have o:=h1.set_ i (.slice (some ⟨s.g,0,none⟩) s.q.length s.c);have J:NoLimb ((Zx (L.map RF.rs++zs)).setIfInBounds i (.slice (some ⟨s.g,0,none⟩) s.q.length s.c)):=Ze4 (Zas _) i (λx=>by simp);have I:=o.set_ j (.slice (some ⟨r.g,0,none⟩) r.q.length r.c)
 have hk:∀ (A:Option Addr) (n c:Nat) (l:List Nat),Lim w A n c l->Lim ((w.setCell ⟨go,i,none⟩ (.slice (some ⟨s.g,0,none⟩) s.q.length s.c)).setCell ⟨go,j,none⟩ (.slice (some ⟨r.g,0,none⟩) r.q.length r.c)) A n c l:=
  λA n c l hl=>(hl.set_box h1 (Zas _) _ _).set_box o J _ _
 refine⟨⟨zs,?_⟩,λx hx=>?_,?_⟩
 ·have e:Zx ((Zy L i j).map RF.rs++zs)=((Zx (L.map RF.rs++zs)).setIfInBounds i (.slice (some ⟨s.g,0,none⟩) s.q.length s.c)).setIfInBounds j (.slice (some ⟨r.g,0,none⟩) r.q.length r.c):=by
    have e1:=Zch (es:=L.map RF.rs++zs) (i:=i) s.rs;have e2:=Zch (es:=(L.map RF.rs++zs).set i s.rs) (i:=j) r.rs;simp only[RF.rs]at e1 e2;rw[e1,e2,Zqk hr hs];congr 1;rw[Qp,Qp,Qr _ _ (by simpa using hi),Qr _ _ (by simpa using hj)];rfl
  rw[e];exact I
 ·have f:=Zdi L i j x hx
  obtain⟨es,fs,q1,q2,q3⟩:=(h2 x f).1;obtain⟨k,O,y⟩:=QG f;have u:x.g≠go:=Qx (C (j:=k) (s:=x) (by rw[Qa O,y]));exact⟨⟨es,fs,(q1.far u _).far u _,λe he=>(q2 e he).of_keep hk,q3⟩,(h2 x f).2⟩
 ·rw[Ye]at h3 ⊢
  rw[Ze0];refine⟨λhm=>h3.1 (Zdi _ _ _ _ hm),Zk1 h3.2 (by simpa using hi) (by simpa using hj)⟩
theorem MatB.keptG{G:Nat->Prop}(h:MatB tS tF w go L)(hk:Kept G w w')(hg:¬ G go)(hgs:∀ r ∈ L,¬ G r.g)(hG:∀ k,G k->∃ t cs,Blk w k t cs/\NoLimb cs):MatB tS tF w' go L:=by
 obtain⟨⟨zs,h1⟩,h2,h3⟩:=h;refine⟨⟨zs,hk.blk h1 hg⟩,λr hr=>⟨?_,(h2 r hr).2⟩,h3⟩;obtain⟨es,fs,q1,q2,q3⟩:=(h2 r hr).1;exact⟨es,fs,hk.blk q1 (hgs r hr),λe he=>⟨hk.wd (q2 e he).1 hG,hk.wd (q2 e he).2 hG⟩,q3⟩
end
def Zbi(L:List RF)(i:Nat):List Rat:=(L[i]?.map RF.q).getD []
theorem Zcl{L:List RF}{i:Nat}{r:RF}(h:L[i]?=some r):Zbi L i=r.q:=by unfold Zbi;rw[h];rfl
theorem Zyf{L:List RF}{R:List (List Rat)}(hl:L.length=R.length)(h:∀ i,i<R.length->Zbi L i=R[i]?.getD []):L.map RF.q=R:=by
 apply Qj;intro i;rw[Qb];by_cases hi:i<R.length
 ·have:=h i hi
  unfold Zbi at this;rw[Qa (show i<L.length by omega),Qa hi]at this ⊢;simp only[QI,Qu]at this ⊢;rw[this]
 rw[Qg (by omega),Qg (by omega)];rfl
theorem Zmz(L:List RF)(i:Nat):Zbi L i=(L.map RF.q)[i]?.getD []:=by unfold Zbi;rw[Qb]
theorem Ziu{R:List (List Rat)}{r col i:Nat}(hi:i<R.length):(Za3 R r col)[i]?.getD []=if i<=r then R[i]?.getD []else Zk5 (R[r]?.getD []) (R[i]?.getD []) col:=by
 unfold Za3;rw[Qb,Qw hi];rfl
theorem Zum{p row:List Rat}{col:Nat}(h:row[col]?.getD 0=0):Zk5 p row col=row:=by
 unfold Zk5;apply Qj;intro k;rw[Qb];by_cases hk:k<row.length
 ·rw[Qw hk,h]
  have e:row[k]?=some (row[k]?.getD 0):=by rw[Qa hk];rfl
  rw[e];simp only[QI,Qu]
  split
  rfl;congr 1;grind
 rw[Qg (l:=Yf _) (by simpa using hk),Qg (l:=row) (i:=k) (by omega)];rfl
theorem Zuf{p row q:List Rat}{col:Nat}(hl:q.length=row.length)(h:∀ t,q[t]?.getD 0=if col<=t/\t<row.length then row[t]?.getD 0-row[col]?.getD 0/p[col]?.getD 0*p[t]?.getD 0 else row[t]?.getD 0):q=Zk5 p row col:=by
 apply Qj;intro t;unfold Zk5;rw[Qb];have:=h t;by_cases ht:t<row.length
 ·rw[Qw ht]
  rw[Qa (show t<q.length by omega)]at this ⊢;simp only[QI,Qu]at this ⊢;rw[this];by_cases hc:t<col;rw[if_pos hc,if_neg (by omega)];rw[if_neg hc,if_pos (by omega)]
 rw[Qg (by omega),Qg (l:=Yf _) (by simpa using ht)];rfl
theorem Zqf{row q:List Rat}{col k:Nat}{x:Rat}{f:Nat->Rat}(hl:q.length=row.length)(hk:col<=k)(hkl:k<row.length)(hx:x=f k)(h:∀ t,q[t]?.getD 0=if col<=t/\t<k then f t else row[t]?.getD 0) :
    ∀ t,(q.set k x)[t]?.getD 0=if col<=t/\t<k+1 then f t else row[t]?.getD 0:=by
 intro t;rw[Qd];by_cases ht:k=t
 ·subst ht
  rw[if_pos rfl,if_pos (by omega),if_pos (by omega),hx];rfl
 ·rw[if_neg ht,h t]
  by_cases h1:col<=t/\t<k;rw[if_pos h1,if_pos (by omega)];rw[if_neg h1,if_neg (by omega)]
section
variable{a b:Rat}{i j k l:Nat}
theorem SmN.mulN(h:SmN i j a)(g:SmN k l b):SmN (i+k) (j+l) (a*b):=by
 rw[<- Zo5 a b];have hd:((a.den:Int)*(b.den:Nat))≠0:=Int.ne_of_gt (Zek a b);refine⟨Ql (Zyi _ _ hd) ?_,Ql (Zwm _ _ hd) ?_⟩;rw[Qs];exact Zev h.1 g.1;rw[Qs,QJ,QJ];exact Zev h.2 g.2
theorem SmN.divN(h:SmN i j a)(g:SmN k l b)(h0:b≠0):SmN (i+l) (j+k) (a/b):=by
 rw[<- Zhj a b h0];have hd:=Zir a b h0;refine⟨Ql (Zyi _ _ hd) ?_,Ql (Zwm _ _ hd) ?_⟩;rw[Qs,QJ];exact Zev h.1 g.2;rw[Qs,QJ];exact Zev h.2 g.1
end
theorem Zdf(L:List RF)(i j:Nat):Zl (L.map RF.q) i j=(Zbi L i)[j]?.getD 0:=by unfold Zl Zbi;rw[Qb]
theorem Zal{α:Type}{L:List α}{i:Nat}(h:i<L.length):∃ r,L[i]?=some r:=⟨_,Qa h⟩
theorem Zs5{α β:Type}{f:α->β}{L M:List α}(h:L.map f=M.map f){i:Nat}{r s:α}(hr:L[i]?=some r)(hs:M[i]?=some s):f r=f s:=by
 have h1:(L.map f)[i]?=some (f r):=by rw[Qb,hr];rfl
 have h2:(M.map f)[i]?=some (f s):=by rw[Qb,hs];rfl
 rw[h,h2]at h1;exact(Option.some.inj h1).symm
theorem Zcm{α β:Type}{f:α->β}{L:List α}{i:Nat}{r s:α}(hr:L[i]?=some r)(h:f s=f r):(L.set i s).map f=L.map f:=by
 rw[Qp];apply Qj;intro j;rw[Qd]
 split
 ·rename_i hij
  subst hij;have hi:=(List.getElem?_eq_some_iff.1 hr).1;rw[if_pos (by simpa using hi),Qb,hr,h];rfl
 rfl
theorem Zq1{L:List RF}{i j:Nat}{r:RF}(hi:i<L.length):Zbi (L.set i r) j=if j=i then r.q else Zbi L j:=by
 unfold Zbi;rw[Qd];by_cases h:i=j;subst h;rw[if_pos rfl,if_pos hi,if_pos rfl];rfl;rw[if_neg h,if_neg (Qx h)]
def ClrTo(L L2:List RF)(r col i:Nat):Prop:=∀ j,j<L.length->Zbi L2 j=if j<=r \/ i<=j then Zbi L j else Zk5 (Zbi L r) (Zbi L j) col
theorem ClrTo.step{L L2:List RF}{r col i:Nat}{x:RF}(h:ClrTo L L2 r col i)(hl:L2.length=L.length)(hi:i<L.length)(hri:r<i)(hx:x.q=Zk5 (Zbi L r) (Zbi L i) col):ClrTo L (L2.set i x) r col (i+1):=by
 intro j hj;rw[Zq1 (by omega),h j hj];by_cases hji:j=i;subst hji;rw[if_pos rfl,hx,if_neg (by omega)]
 ·rw[if_neg hji]
  by_cases h1:j<=r \/ i<=j;rw[if_pos h1,if_pos (by omega)];rw[if_neg h1,if_neg (by omega)]
theorem ClrTo.skip{L L2:List RF}{r col i:Nat}(h:ClrTo L L2 r col i)(hri:r<i)(hx:(Zbi L i)[col]?.getD 0=0):ClrTo L L2 r col (i+1):=by
 intro j hj;rw[h j hj];by_cases hji:j=i;subst hji;rw[if_pos (by omega),if_neg (by omega),Zum hx]
 ·by_cases h1:j<=r \/ i<=j
  rw[if_pos h1,if_pos (by omega)];rw[if_neg h1,if_neg (by omega)]
theorem ClrTo.done{L L2:List RF}{r col:Nat}(h:ClrTo L L2 r col L.length)(hl:L2.length=L.length):L2.map RF.q=Za3 (L.map RF.q) r col:=by
 refine Zyf (by rw[Ze6];simpa using hl) (λi hi=>?_);rw[Ze6,Qz]at hi;rw[h i hi,Ziu (by simpa using hi),<- Zmz,<- Zmz];by_cases h1:i<=r;rw[if_pos (Qm h1),if_pos h1];rw[if_neg (by omega),if_neg h1]
theorem Zu7(go n cap:Nat)(L:List RF)(m r col:Nat)(w:World)(hM:MatB 35 41 w go L)(hn:L.length=n)(hn9:n<=1000)(hcap:n<=cap)(hcm:cap<=maxLen)(hm:∀ x ∈ L,x.q.length=m)(hm9:m<=1000)(hr:r<n)(hc:col<m)
    (hp:Zl (L.map RF.q) r col≠0) (hB:∀ i j,SmN 200 200 (Zl (L.map RF.q) i j)) :
    Calls Tryz.prog 180 #[.slice (some ⟨go,0,none⟩) n cap,.int .i64 r,.int .i64 col] w λe w'=>e=.returned (.tuple #[]) /\
     ∃ L2,L2.length=n/\L2.map RF.g=L.map RF.g/\L2.map RF.c=L.map RF.c/\L2.map RF.q=Za3 (L.map RF.q) r col/\MatB 35 41 w' go L2/\Kept (λg=>g ∈ L.map RF.g) w w':=by
 have hmx:Tryz.prog.follows .mixedOrders=true:=by kernel_rfl
 unfold maxLen at hcm;have o9:=Za (Zo (hM.cell (Zal (L:=L) (i:=0) (by omega)).choose_spec).1);have l9:Hid (∀ k,k ∈ L.map RF.g->∃ t cs,Blk w k t cs/\NoLimb cs):=Za (λk hk=>hM.boxes k (.inr hk));obtain⟨rr,o5⟩:=Zal (L:=L) (i:=r) (by omega);have o6:Hid (∀ i x,L[i]?=some x->x.q=Zbi L i):=Za (λi x hx=>(Zcl hx).symm)
 have b8:Hid (∀ i,i<n->(Zbi L i).length=m):=Za (λi hi=>by
  obtain⟨x,hx⟩:=Zal (L:=L) (i:=i) (by omega);rw[Zcl hx];exact hm x (Qh hx))
 have b2:Hid (∀ i j,SmN 200 200 ((Zbi L i)[j]?.getD 0)):=Za (λi j=>by rw[<- Zdf];exact hB i j);have j0:Hid ((Zbi L r)[col]?.getD 0≠0):=Za (by rw[<- Zdf];exact hp);have o0:Hid (go ∉ L.map RF.g):=Za (List.nodup_cons.1 hM.2.2).1;have U:IntKind.i64.wrap ((r:Int)+1)=((r+1:Nat):Int):=by rw[IntKind.wrap_i64];omega
 replace hn:=Za hn;clear hB hp hm;go_enter Tryz.func180,Tryz.ntmps180;go_wp2_with fail
 go_loopg [6] (n-(r+1)) (λk iv wr=>∃ (i:Nat) (L2:List RF),i+k=n/\iv=.int .i64 i/\r+1<=i/\MatB 35 41 wr go L2/\Hid (L2.length=n)/\Hid (L2.map RF.g=L.map RF.g)/\Hid (L2.map RF.c=L.map RF.c)/\Hid (ClrTo L L2 r col i)/\Kept (λg=>g ∈ L.map RF.g) w wr)
 case atStart=>exact⟨r+1,L,by omega,by go_num,Qc _,hM,hn,Za rfl,Za rfl,Za (λj hj=>by by_cases h1:j<=r \/ r+1<=j;rw[if_pos h1];exact absurd h1 (by omega)),Yg _ _⟩
 case round =>
  clear hM;obtain⟨i,L2,o1,rfl,o4,hM,O,b9,i1,c9,hK⟩:=hrel;cases gk with
  | zero =>
   obtain rfl:i=n:=by omega
   have t1:decide ((i:Int)<(i:Int))=false:=by simp
   have hfin:Hid (L2.map RF.q=Za3 (L.map RF.q) r col):=Za (ClrTo.done (by rw[hn.out];exact c9.out) (by rw[O.out,hn.out]));replace hM:=Za hM;replace hK:=Za hK;go_wp2_with fail;go_returns;exact⟨rfl,L2,O.out,b9.out,i1.out,hfin.out,hM.out,hK.out⟩
  | succ j =>
   obtain rfl:j=n-(i+1):=by omega
   have J:i<n:=by omega
   have t1:decide ((i:Int)<(n:Int))=true:=decide_eq_true (by omega);have bi:(i:Int)<(n:Int):=by omega
   have br:(r:Int)<(n:Int):=by omega
   obtain⟨ri,I⟩:=Zal (L:=L2) (i:=i) (by rw[O.out];exact J);obtain⟨r2,u⟩:=Zal (L:=L2) (i:=r) (by rw[O.out];exact hr)
   have c7:ri.q=Zbi L i:=by
    have:=c9.out i (by rw[hn.out];exact J);rw[Zcl I,if_pos (Or.inr (Qc i))]at this;exact this
   have f9:r2.q=Zbi L r:=by
    have:=c9.out r (by rw[hn.out];exact hr);rw[Zcl u,if_pos (Qm (Qc r))]at this;exact this
   have e5:ri.q.length=m:=by rw[c7];exact b8.out i J
   have e1:r2.q.length=m:=by rw[f9];exact b8.out r hr
   obtain⟨ci,zi⟩:=hM.cell I;obtain⟨cr,zr⟩:=hM.cell u;obtain⟨fi,k8,l4⟩:=hM.row I;obtain⟨fr,l0,k3⟩:=hM.row u;rw[e5]at ci k8;rw[e1]at cr l0;unfold maxLen at l4 k3;have n3:=hM.ne2 I u (by omega);have bc:(col:Int)<(m:Int):=by omega
   obtain⟨n1,A1,k1,c1,m1,B1,j1,d1,p0,p1,p2,p3,b4⟩:=fi.at_ (i:=col) (by rw[e5];exact hc);have p4:=b4.1.2.1;by_cases hz:k1=0
   case pos =>
    have t2:((k1:Int) == 0)=true:=by simp[hz]
    have j3:decide (k1=0)=true:=by simpa using hz
    have i5:(Zbi L i)[col]?.getD 0=0:=by rw[<- c7];exact b4.zero_iff.1 hz
    have j9:Hid (ClrTo L L2 r col (i+1)):=Za (c9.out.skip (by omega) i5);replace hM:=Za hM;replace hK:=Za hK;replace hz:=Za hz;clear i5 b4 fi fr cr zr zi p0 p2 p3 c7 f9 e5 e1 I u n3;go_wp2_with fail
    go_roundg (n-(i+1))
    case measure=>omega
    case rel=>exact⟨i+1,L2,by omega,by go_num,by omega,hM.out,O,b9,i1,j9,hK.out⟩
   have t2:((k1:Int) == 0)=false:=by simp;omega
   have j3:decide (k1=0)=false:=by simpa using hz
   have i7:(Zbi L i)[col]?.getD 0≠0:=by rw[<- c7];exact λe=>hz (b4.zero_iff.2 e)
   replace hz:=Za hz;obtain⟨n2,A2,k2,c2,m2,B2,j2,d2,q0,q1,q2,q3,h9⟩:=fr.at_ (i:=col) (by rw[e1];exact hc);rw[c7]at b4;rw[f9]at h9;obtain⟨by_,d3⟩:∃ q:Rat,(Zbi L i)[col]?.getD 0/(Zbi L r)[col]?.getD 0=q:=⟨_,rfl⟩;have g7:Hid (SmN 400 400 by_):=Za (by rw[<- d3];exact(b2.out i col).divN (b2.out r col) j0.out);have e0:=(b2.out i col).sm (by decide) (by decide);have d0:=(b2.out r col).sm (by decide) (by decide);replace d3:=Za d3;replace i7:=Za i7;have m7:=Za fi.box;have o3:=Za fi;have o8:=Za fr;clear fi fr;replace hM:=Za hM;replace hK:=Za hK;go_wp2_with fail;have Y:Hid (∀ wx,Below wr.heap.size wr wx->wx.cell? ⟨go,i,none⟩=some (.slice (some ⟨ri.g,0,none⟩) m ri.c)/\wx.cell? ⟨go,r,none⟩=some (.slice (some ⟨r2.g,0,none⟩) m r2.c)/\wx.cell? ⟨ri.g,col*4,none⟩=some (.bool n1)/\wx.cell? ⟨ri.g,col*4+1,none⟩=some (.slice A1 k1 c1)/\wx.cell? ⟨ri.g,col*4+2,none⟩=some (.bool m1)/\wx.cell? ⟨ri.g,col*4+3,none⟩=some (.slice B1 j1 d1)/\wx.cell? ⟨r2.g,col*4,none⟩=some (.bool n2)/\wx.cell? ⟨r2.g,col*4+1,none⟩=some (.slice A2 k2 c2)/\wx.cell? ⟨r2.g,col*4+2,none⟩=some (.bool m2)/\wx.cell? ⟨r2.g,col*4+3,none⟩=some (.slice B2 j2 d2)):=Za (λwx f=>⟨Zb f ci,Zb f cr,Zb f p0,Zb f p1,Zb f p2,Zb f p3,Zb f q0,Zb f q1,Zb f q2,Zb f q3⟩);have U:Below wr.heap.size wr wr.drew:=Zf (Qe _ _) 1;refine wp_heldS [] hmx Y U (λhxs1=>?_);refine Zje 14 [0,1,2,3,4,5,6,7,8,9,10,11,12,13] rfl (by kernel_rfl) (Y.out _ U) ?_
   iterate 14 (refine tk1 (v:=?_) rfl (Qm ⟨by kernel_rfl,?_⟩) ?_;rotate_left;(· intro W2 hSw;(try dsimp only at hSw);go_simp;try with_reducible rfl);try simp only[Qf,Zgy,Zge,Zgs,putG_a,putG_s,putG_z])
   refine tk0 ?_;refine Za1 [(14,46),(15,31),(16,47),(18,7)] (λi=>match i with|15=>[17]|_=>[]) [(14,46),(15,31),(17,48),(16,47),(18,7)] (Zu wr.heap.size ((Zbi L i)[col]?.getD 0/(Zbi L r)[col]?.getD 0) 14 15 16 17 18 17) 2 (by kernel_rfl) (λ_ _ _ _ _ hb h=>Zdl hb h) (λwx h=>Y.out _ (U.trans (h.mono U.size))) ?hop1 ?hfin1
   case hop1 =>
    intro p hp;simp only[QE,Qv,or_false]at hp;simp only[Qi,Qk,Zam,Qf,Zgy,Zge,Zgs];rcases hp with rfl|rfl|rfl|rfl
    ·intro ν wx hb hP
     have f:=U.trans (hb.mono U.size);refine Zn (i:=14) rfl (λK hK=>?_);go_simp;refine(Zmh n1 m1 n2 m2 A1 B1 A2 B2 k1 c1 j1 d1 k2 c2 j2 d2 _ _ wx (b4.below f) (h9.below f) e0 d0 j0.out).mono ?_;rintro e w5 ⟨b7,d7,A5,k5,c5,d8,B5,m5,d5,rfl,C⟩;exact hK.out _ _ ⟨_,rfl,(by simp only[Zu];exact⟨_,_,_,_,_,_,_,_,rfl,C⟩),b7,trivial⟩
    ·intro ν wx hb hP
     have h0:=hP (14,46) (by simp) (by kernel_rfl);simp only[Zu]at h0;obtain⟨d7,A5,k5,c5,d8,B5,m5,d5,hν,C⟩:=h0;rw[hν];refine Zn (i:=15) rfl (λK hK=>?_);go_simp;refine hK.out _ _ ⟨_,rfl,(by simp only[Zu];exact⟨_,_,_,_,_,_,_,_,rfl,C⟩),Qe _ _,?_⟩;exact⟨_,.int .i64 0,rfl,Qm ⟨by kernel_rfl,λW2 _=>by go_simp⟩,by simp[Zu],trivial⟩
    ·intro ν wx hb hP
     have h0:=hP (15,31) (by simp) (by kernel_rfl);simp only[Zu]at h0;obtain⟨d7,A5,k5,c5,d8,B5,m5,d5,hν,C⟩:=h0;rw[hν];refine Zn (i:=16) rfl (λK hK=>?_);go_simp;exact hK.out _ _ ⟨_,rfl,(by simp only[Zu];exact⟨_,_,_,_,_,_,_,_,rfl,C⟩),Qe _ _,trivial⟩
    ·intro ν wx hb hP
     refine Zn (i:=18) rfl (λK hK=>?_);go_simp;exact hK.out _ _ ⟨_,rfl,(by simp only[Zu];exact⟨_,rfl,hb.size,QF _ _ _⟩),(Qe _ _).alloc (Qc _) _,trivial⟩
   case hfin1 =>
    intro ν wx hb hP;have h0:=hP (14,46) (by simp);have h1:=hP (15,31) (by simp);have h2:=hP (16,47) (by simp);have h3:=hP (17,48) (by simp);have h4:=hP (18,7) (by simp);simp only[Zu]at h0 h1 h2 h4;obtain⟨a0,a1,a2,a3,a4,a5,a6,a7,h0,-⟩:=h0;obtain⟨m8,n7,l6,l2,l8,n9,l7,k9,h1,-⟩:=h1;obtain⟨bbn,e3,bbk,bbc,bbm,f8,bbj,bbd,h2,bbf⟩:=h2;obtain⟨gbb,h4,kv,qv⟩:=h4;simp only[Qi,Qk,Zam,Qf,Zgy,Zge,Zgs];rw[h0,h1,h2,(show ν 48=Value.int .i64 0 by simpa [Zu]using h3),h4];clear h0 h1 h2 h3 h4 hP ν;have f:=U.trans (hb.mono U.size);have o:=qv.four;have h6:wr.heap.size<=gbb:=kv;refine(Zaa bbn e3 bbk bbc bbm f8 bbj bbd f h6 qv).elim (λZbb hq=>?_);have c0:=o.1;have b5:=o.2.1;have i3:=o.2.2.1;have c3:=o.2.2.2.1;have f0:=o.2.2.2.2.1;have f1:=o.2.2.2.2.2.1;have f2:=o.2.2.2.2.2.2.1;have f3:=o.2.2.2.2.2.2.2;have hZ:=hq.1;refine Ze (i:=19) rfl (by kernel_rfl) (λK hK=>?_);go_simp;(try rw[hZ]);refine hK.out _ _ (λ_=>Y.out _ hq.2.1) ?_;clear hK K
    try simp only[Qf,Zgy,Zge,Zgs]
    refine Zgf 1 [20] rfl (by kernel_rfl) (Y.out _ hq.2.1) ?_
    (refine tk1 (v:=?_) rfl (Qm ⟨by kernel_rfl,?_⟩) ?_;rotate_left;(· intro W2 _;go_simp;try with_reducible rfl);try simp only[Qf,Zgy,Zge,Zgs,putG_a,putG_s,putG_z])
    refine tk0 ?_;refine Zj (by kernel_rfl) ?_ _;refine Qq ?_;have b6:=hq.2.1;have bbb:=Za hq.2.2.1;replace bbf:=Za (Fr.keep bbf hq.2.2.2.1);clear hq hZ c0 b5 i3 c3 f0 f1 f2 f3 o qv kv f hb U Y hxs1;rw[d3.out]at bbf;have h5:=hM.out.below b6;have g8:Kept (λg=>g ∈ L.map RF.g) w Zbb:=hK.out.below b6
    have l1:Hid (gbb ∉ L.map RF.g):=Za (λhmem=>by
     obtain⟨t,cs,hb,-⟩:=l9.out gbb hmem;have:=hb.lt;have:=hK.out.size;omega)
    have i9:Hid (∀ k,k ∈ L.map RF.g->∃ t cs,Blk Zbb k t cs/\NoLimb cs):=Za (λk hk=>h5.boxes k (.inr (by rw[b9.out];exact hk)));have l3:Hid (ri.g ∈ L.map RF.g):=Za (by rw[<- b9.out];exact List.mem_map.2 ⟨ri,Qh I,rfl⟩);have o2:Hid (r2.g ∈ L.map RF.g):=Za (by rw[<- b9.out];exact List.mem_map.2 ⟨r2,Qh u,rfl⟩);clear hK hM p0 p1 p2 p3 q0 q1 q2 q3 e0 d0 b4 h9 t1 t2 j3 ci cr zi zr b6;replace g8:=Za g8;go_wp2_with fail
    go_loopg [9] (m-col) (λk iv wr=>∃ (j:Nat) (q3:List Rat),j+k=m/\iv=.int .i64 j/\col<=j/\MatB 35 41 wr go (L2.set i ⟨ri.g,ri.c,q3⟩)/\Hid (q3.length=m)/\Hid (∀ t,q3[t]?.getD 0=if col<=t/\t<j then (Zbi L i)[t]?.getD 0-by_*(Zbi L r)[t]?.getD 0 else (Zbi L i)[t]?.getD 0)/\Kept (λg=>g ∈ L.map RF.g) Zbb wr)
    case atStart =>
     refine⟨col,ri.q,by omega,rfl,Qc _,?_,Za e5,Za (λt=>by rw[if_neg (by omega),c7]),Yg _ _⟩
     have e:L2.set i ⟨ri.g,ri.c,ri.q⟩=L2:=by
      apply Qj;intro t;rw[Qd]
      split
      rename_i h;subst h;rw[if_pos (by rw[O.out];exact J),I];rfl
     rw[e];exact h5
    case round =>
     clear h5;obtain⟨j,q3,o7,rfl,k7,T,c8,i0,a8⟩:=hrel;obtain⟨c0,z0⟩:=T.cell (i:=i) (r:=⟨ri.g,ri.c,q3⟩) (by rw[Qd,if_pos rfl,if_pos (by rw[O.out];exact J)]);simp only[c8.out]at c0;cases gk with
     | zero =>
      obtain rfl:j=m:=by omega
      have t3:decide ((j:Int)<(j:Int))=false:=by simp
      have a9:Hid ((L2.set i ⟨ri.g,ri.c,q3⟩).length=n/\(L2.set i ⟨ri.g,ri.c,q3⟩).map RF.g=L.map RF.g/\(L2.set i ⟨ri.g,ri.c,q3⟩).map RF.c=L.map RF.c/\ClrTo L (L2.set i ⟨ri.g,ri.c,q3⟩) r col (i+1)):=Za (by
       refine⟨by rw[QL];exact O.out,?_,?_,?_⟩;rw[Zcm (s:=⟨ri.g,ri.c,q3⟩) I rfl];exact b9.out;rw[Zcm (s:=⟨ri.g,ri.c,q3⟩) I rfl];exact i1.out
       ·refine c9.out.step (by rw[O.out,hn.out]) (by rw[hn.out];exact J) (by omega) ?_
        refine Zuf (by rw[c8.out,b8.out i J]) (λt=>?_);rw[i0.out t,d3.out,b8.out i J])
      have l5:Hid (Kept (λg=>g ∈ L.map RF.g) w wr):=Za (g8.out.trans a8);replace T:=Za T;clear a8;go_wp2_with fail
      go_roundg (n-(i+1))
      case measure=>omega
      case rel=>exact⟨i+1,_,by omega,by go_num,by omega,T.out,Za a9.out.1,Za a9.out.2.1,Za a9.out.2.2.1,Za a9.out.2.2.2,l5.out⟩
     | succ gk' =>
      obtain rfl:gk'=m-(j+1):=by omega
      have e6:j<m:=by omega
      have t3:decide ((j:Int)<(m:Int))=true:=decide_eq_true (by omega);have bj:(j:Int)<(m:Int):=by omega
      obtain⟨b5,z1⟩:=T.cell (i:=r) (r:=r2) (by rw[Qd,if_neg (by omega)];exact u);rw[e1]at b5;obtain⟨f3,-,-⟩:=T.row (i:=i) (r:=⟨ri.g,ri.c,q3⟩) (by rw[Qd,if_pos rfl,if_pos (by rw[O.out];exact J)]);obtain⟨f4,-,-⟩:=T.row (i:=r) (r:=r2) (by rw[Qd,if_neg (by omega)];exact u);obtain⟨n4,A4,k4,c4,m4,B4,j4,d4,q0,q1,q2,j7,i2⟩:=f4.at_ (i:=j) (by rw[e1];exact e6);rw[f9]at i2;have k0:=a8.blk bbb.out l1.out;obtain⟨x0,x1,x2,x3,-⟩:=k0.four;have i4:Fr wr bbn e3 bbk bbc bbm f8 bbj bbd by_:=⟨a8.wd bbf.out.1 i9.out,a8.wd bbf.out.2 i9.out⟩;have e0:=g7.out.sm (by decide) (by decide);have d0:=(b2.out r j).sm (by decide) (by decide);have n0:Hid (SmN 600 600 (by_*(Zbi L r)[j]?.getD 0)):=Za (g7.out.mulN (b2.out r j));replace T:=Za T;replace a8:=Za a8;replace f3:=Za f3;clear f4 k0;go_wp2_with fail
      have V:Hid (∀ wx,Below wr.heap.size wr wx->wx.cell? ⟨gbb,0,none⟩=some (.bool bbn)/\wx.cell? ⟨gbb,1,none⟩=some (.slice e3 bbk bbc)/\wx.cell? ⟨gbb,2,none⟩=some (.bool bbm)/\wx.cell? ⟨gbb,3,none⟩=some (.slice f8 bbj bbd)/\wx.cell? ⟨go,r,none⟩=some (.slice (some ⟨r2.g,0,none⟩) m r2.c)/\wx.cell? ⟨r2.g,j*4,none⟩=some (.bool n4)/\wx.cell? ⟨r2.g,j*4+1,none⟩=some (.slice A4 k4 c4)/\wx.cell? ⟨r2.g,j*4+2,none⟩=some (.bool m4)/\wx.cell? ⟨r2.g,j*4+3,none⟩=some (.slice B4 j4 d4)):=Za (λwx f=>⟨Zb f x0,Zb f x1,Zb f x2,Zb f x3,Zb f b5,Zb f q0,Zb f q1,Zb f q2,Zb f j7⟩);have u:Below wr.heap.size wr wr.drew:=Zf (Qe _ _) 1;refine wp_heldS [] hmx V u (λhxs2=>?_);refine Zje 8 [0,1,2,3,4,5,6,7] rfl (by kernel_rfl) (V.out _ u) ?_
      iterate 8 (refine tk1 (v:=?_) rfl (Qm ⟨by kernel_rfl,?_⟩) ?_;rotate_left;(· intro W2 hSw;(try dsimp only at hSw);go_simp;try with_reducible rfl);try simp only[Qf,Zgy,Zge,Zgs,putG_a,putG_s,putG_z])
      refine tk0 ?_;refine Za1 [(8,68),(9,59),(10,69),(12,10)] (λi=>match i with|9=>[11]|_=>[]) [(8,68),(9,59),(11,70),(10,69),(12,10)] (Zu wr.heap.size (by_*(Zbi L r)[j]?.getD 0) 8 9 10 11 12 11) 2 (by kernel_rfl) (λ_ _ _ _ _ hb h=>Zdl hb h) (λwx h=>V.out _ (u.trans (h.mono u.size))) ?hop2 ?hfin2
      case hop2 =>
       intro p hp;simp only[QE,Qv,or_false]at hp;simp only[Qi,Qk,Zam,Qf,Zgy,Zge,Zgs];rcases hp with rfl|rfl|rfl|rfl
       ·intro ν wx hb hP
        have f:=u.trans (hb.mono u.size);refine Zn (i:=8) rfl (λK hK=>?_);go_simp;refine(Zjx bbn bbm n4 m4 e3 f8 A4 B4 bbk bbc bbj bbd k4 c4 j4 d4 _ _ wx (i4.below f) (i2.below f) e0 d0).mono ?_;rintro e w5 ⟨b7,d7,A5,k5,c5,d8,B5,m5,d5,rfl,C⟩;exact hK.out _ _ ⟨_,rfl,(by simp only[Zu];exact⟨_,_,_,_,_,_,_,_,rfl,C⟩),b7,trivial⟩
       ·intro ν wx hb hP
        have h0:=hP (8,68) (by simp) (by kernel_rfl);simp only[Zu]at h0;obtain⟨d7,A5,k5,c5,d8,B5,m5,d5,hν,C⟩:=h0;rw[hν];refine Zn (i:=9) rfl (λK hK=>?_);go_simp;refine hK.out _ _ ⟨_,rfl,(by simp only[Zu];exact⟨_,_,_,_,_,_,_,_,rfl,C⟩),Qe _ _,?_⟩;exact⟨_,.int .i64 0,rfl,Qm ⟨by kernel_rfl,λW2 _=>by go_simp⟩,by simp[Zu],trivial⟩
       ·intro ν wx hb hP
        have h0:=hP (9,59) (by simp) (by kernel_rfl);simp only[Zu]at h0;obtain⟨d7,A5,k5,c5,d8,B5,m5,d5,hν,C⟩:=h0;rw[hν];refine Zn (i:=10) rfl (λK hK=>?_);go_simp;exact hK.out _ _ ⟨_,rfl,(by simp only[Zu];exact⟨_,_,_,_,_,_,_,_,rfl,C⟩),Qe _ _,trivial⟩
       ·intro ν wx hb hP
        refine Zn (i:=12) rfl (λK hK=>?_);go_simp;exact hK.out _ _ ⟨_,rfl,(by simp only[Zu];exact⟨_,rfl,hb.size,QF _ _ _⟩),(Qe _ _).alloc (Qc _) _,trivial⟩
      case hfin2 =>
       intro ν wx hb hP;have h0:=hP (8,68) (by simp);have h1:=hP (9,59) (by simp);have h2:=hP (10,69) (by simp);have h3:=hP (11,70) (by simp);have h4:=hP (12,10) (by simp);simp only[Zu]at h0 h1 h2 h4;obtain⟨a0,a1,a2,a3,a4,a5,a6,a7,h0,-⟩:=h0;obtain⟨m8,n7,l6,l2,l8,n9,l7,k9,h1,-⟩:=h1;obtain⟨wwn,h8,wwk,wwc,wwm,g9,wwj,wwd,h2,wwf⟩:=h2;obtain⟨gww,h4,kv,qv⟩:=h4;simp only[Qi,Qk,Zam,Qf,Zgy,Zge,Zgs];rw[h0,h1,h2,(show ν 70=Value.int .i64 0 by simpa [Zu]using h3),h4];clear h0 h1 h2 h3 h4 hP ν;have f:=u.trans (hb.mono u.size);have o:=qv.four;have h6:wr.heap.size<=gww:=kv;refine(Zaa wwn h8 wwk wwc wwm g9 wwj wwd f h6 qv).elim (λZww hq=>?_);have c0:=o.1;have b5:=o.2.1;have i3:=o.2.2.1;have c3:=o.2.2.2.1;have f0:=o.2.2.2.2.1;have f1:=o.2.2.2.2.2.1;have f2:=o.2.2.2.2.2.2.1;have f3:=o.2.2.2.2.2.2.2;have hZ:=hq.1;refine Ze (i:=13) rfl (by kernel_rfl) (λK hK=>?_);go_simp;(try rw[hZ]);refine hK.out _ _ (λ_=>V.out _ hq.2.1) ?_;clear hK K
       try simp only[Qf,Zgy,Zge,Zgs]
       refine Zgf 1 [14] rfl (by kernel_rfl) (V.out _ hq.2.1) ?_
       (refine tk1 (v:=?_) rfl (Qm ⟨by kernel_rfl,?_⟩) ?_;rotate_left;(· intro W2 _;go_simp;try with_reducible rfl);try simp only[Qf,Zgy,Zge,Zgs,putG_a,putG_s,putG_z])
       refine tk0 ?_;refine Zj (by kernel_rfl) ?_ _;refine Qq ?_;have h7:=hq.2.1;have wwb:=Za hq.2.2.1;replace wwf:=Za (Fr.keep wwf hq.2.2.2.1);clear hq hZ c0 b5 i3 c3 f0 f1 f2 f3 o qv kv f hb u V hxs2;have b1:=h7;have f7:=T.out.below b1;have e4:=a8.out.below b1;have f5:=f3.out.below b1;have g6:=c8.out;obtain⟨n5,A5,k5,c5,m5,B5,j5,d5,e8,e7,f6,e9,C⟩:=f5.at_ (i:=j) (by rw[g6];exact e6)
       have g5:q3[j]?.getD 0=(Zbi L i)[j]?.getD 0:=by
        have h1:=i0.out j;rw[if_neg (by omega)]at h1;exact h1
       simp only[g5]at C;have v0:=f5.frozen (j*4);have v1:=f5.frozen (j*4+1);have v2:=f5.frozen (j*4+2);have v3:=f5.frozen (j*4+3);have i6:=Zb b1 c0;obtain⟨y0,y1,y2,y3,-⟩:=wwb.out.four;have m9:=(b2.out i j).sm (by decide) (by decide);have m0:=n0.out.sm (by decide) (by decide);replace f7:=Za f7;replace e4:=Za e4;clear g5 g6 b1 q0 q1 q2 j7 x0 x1 x2 x3 i2 i4 e0 d0 T a8 f3 f5 c0 b5 z0 z1;go_wp2_with fail;have b0:Hid (∀ wx,Below Zww.heap.size Zww wx->wx.cell? ⟨go,i,none⟩=some (.slice (some ⟨ri.g,0,none⟩) m ri.c)/\wx.cell? ⟨ri.g,j*4,none⟩=some (.bool n5)/\wx.cell? ⟨ri.g,j*4+1,none⟩=some (.slice A5 k5 c5)/\wx.cell? ⟨ri.g,j*4+2,none⟩=some (.bool m5)/\wx.cell? ⟨ri.g,j*4+3,none⟩=some (.slice B5 j5 d5)/\wx.cell? ⟨gww,0,none⟩=some (.bool wwn)/\wx.cell? ⟨gww,1,none⟩=some (.slice h8 wwk wwc)/\wx.cell? ⟨gww,2,none⟩=some (.bool wwm)/\wx.cell? ⟨gww,3,none⟩=some (.slice g9 wwj wwd)):=Za (λwx f=>⟨Zb f i6,Zb f e8,Zb f e7,Zb f f6,Zb f e9,Zb f y0,Zb f y1,Zb f y2,Zb f y3⟩);have b3:Below Zww.heap.size Zww Zww.drew:=Zf (Qe _ _) 1;refine wp_heldS [18] hmx b0 b3 (λhxs9=>?_);refine Zje 13 [0,1,2,3,4,5,6,7,8,9,10,11,12] rfl (by kernel_rfl) (b0.out _ b3) ?_
       iterate 13 (refine tk1 (v:=?_) rfl (Qm ⟨by kernel_rfl,?_⟩) ?_;rotate_left;(· intro W2 hSw;(try dsimp only at hSw);go_simp;try with_reducible rfl);try simp only[Qf,Zgy,Zge,Zgs,putG_a,putG_s,putG_z])
       refine tk0 ?_;refine Ze (i:=13) rfl (by kernel_rfl) (λK hK=>?_);go_simp;refine(Zj9 n5 m5 wwn wwm A5 B5 h8 g9 k5 c5 j5 d5 wwk wwc wwj wwd _ _ Zww.drew (C.below b3) (wwf.out.below b3) m9 m0).mono ?_;rintro e w5 ⟨b7,n6,A6,k6,c6,m6,B6,j6,d6,rfl,j8⟩;have e2:=b3.trans (b7.mono b3.size);refine hK.out _ _ (λ_=>b0.out _ e2) ?_;clear hK K
       try simp only[Qf,Zgy,Zge,Zgs]
       refine Zgf 4 [14,15,16,17] rfl (by kernel_rfl) (b0.out _ e2) ?_
       iterate 4 (refine tk1 (v:=?_) rfl (Qm ⟨by kernel_rfl,?_⟩) ?_;rotate_left;(· intro W2 _;go_simp;try with_reducible rfl);try simp only[Qf,Zgy,Zge,Zgs,putG_a,putG_s,putG_z])
       refine tk0 ?_;have y:Below Zww.heap.size Zww w5:=Zr b7;have i8:=f7.out.below y;obtain⟨Z9,g4⟩:∃ W,Zel w5 ri.g j n6 A6 k6 c6 m6 B6 j6 d6=W:=⟨_,rfl⟩;have d9:=g4;unfold Zel at d9;have m3:Hid (Kept (λg=>g ∈ L.map RF.g) Zbb Z9):=Za (by rw[<- g4];exact Zh6 (e4.out.below y) (.inl l3.out))
       have n8:Hid (MatB 35 41 Z9 go (L2.set i ⟨ri.g,ri.c,q3.set j ((Zbi L i)[j]?.getD 0-by_*(Zbi L r)[j]?.getD 0)⟩)):=Za (by
        have h1:=i8.set_ (i:=i) (r:=⟨ri.g,ri.c,q3⟩) (by rw[Qd,if_pos rfl,if_pos (by rw[O.out];exact J)]) (k:=j) (by rw[show RF.q ⟨ri.g,ri.c,q3⟩=q3 from rfl,c8.out];exact e6) j8;rw[List.set_set]at h1;rw[<- g4];exact h1)
       have f0:=Zk y e8 v0;have f1:=Zk y e7 v1;have f2:=Zk y f6 v2;have f3:=Zk y e9 v3;have g0:=Zb y e8;have g1:=Zb y e7;have g2:=Zb y f6;have g3:=Zb y e9;clear i8 g4;refine Zm (i:=18) rfl (by kernel_rfl) (by kernel_rfl) (λK hK=>?_);go_simp;(try rw[d9]);refine hK.out _ _ ?_;clear hK K
       try simp only[Qf,Zgy,Zge,Zgs]
       refine Zj (by kernel_rfl) ?_ _;refine Qq ?_;clear d9 f0 f1 f2 f3 g0 g1 g2 g3 b7 y b3 e2 b0 hxs9 e8 e7 f6 e9 y0 y1 y2 y3 v0 v1 v2 v3 j8 C f7 e4 i6;go_wp2_with fail
       go_roundg (m-(j+1))
       case measure=>omega
       case rel=>exact⟨j+1,_,by omega,by go_num,by omega,n8.out,Za (by rw[QL];exact c8.out),Za (Zqf (by rw[c8.out,b8.out i J]) k7 (by rw[b8.out i J];exact e6) rfl i0.out),m3.out⟩
section
variable{P:Program}(w:World)
theorem Zag{o:Oper}{a:Act}{K:Act->World->Prop}{Q:Exit->Act->World->Prop}(s x:Operand)(t:TypeId)
    (ho:o.op=.call { callee:=.builtin .append,args:=#[s,x],argTypes:=#[t,t] })
    (base:Nat) (e:TypeId) (i:TypeInfo) (ht:P.underlying t=some (.slice e)) (hi:P.info? e=some i) (hz:i.zero=some (.slice none 0 0)) (hsi:i.size=1) (hby:i.bytes=24)
    (v:Value) (rs:List RS) (hs:a.eval s=v) (hown:RowS e w base v rs)
    (B:Nat) (A:Option Addr) (m c:Nat) (fs:List RS) (hx:a.eval x=.slice A m c) (hr:Reads w B 1 A m (Zak fs)) (hm:fs.length=m)
    (h63:rs.length+m<=1000) (hbase:base<=w.heap.size)
    (h:∀ v' w',RowS e w' base v' (rs++fs)->w.grownBy w' v.ownBlock->(∀ (A:Option Addr) (n c:Nat) (l:List Nat),Lim w A n c l->Lim w' A n c l)->K (a.put o.dst v') w'):o.wp P a w K Q:=by
 obtain⟨v',w',f,h3,h4⟩:=Zl8 (P:=P) w base t o.type e i ht hi hz hsi hby v rs hown B A m c fs hr hm h63 hbase;unfold Oper.wp execOp;simp only[ho,resolve,invoke,builtin,Sem.run_bind,Sem.run_pure,Result.andThen_ok,QZ,Qi,Qk,hs,hx,f];exact h v' w' h3 h4 (λ_ _ _ _ hL=>hown.keep h4 hL)
theorem Zcw{ops:Array Oper}{rest:List Oper}{o:Oper}{a:Act}{Q:Exit->Act->World->Prop}(hgd:o.guard=none)(s x:Operand)(t:TypeId)
    (ho:o.op=.call { callee:=.builtin .append,args:=#[s,x],argTypes:=#[t,t] })
    (base:Nat) (e:TypeId) (i:TypeInfo) (ht:P.underlying t=some (.slice e)) (hi:P.info? e=some i) (hz:i.zero=some (.slice none 0 0)) (hsi:i.size=1) (hby:i.bytes=24)
    (v:Value) (rs:List RS) (hs:a.eval s=v) (hown:RowS e w base v rs)
    (B:Nat) (A:Option Addr) (m c:Nat) (fs:List RS) (hx:a.eval x=.slice A m c) (hr:Reads w B 1 A m (Zak fs)) (hm:fs.length=m)
    (h63:rs.length+m<=1000) (hbase:base<=w.heap.size)
    (h:∀ v' w',RowS e w' base v' (rs++fs)->w.grownBy w' v.ownBlock->(∀ (A:Option Addr) (n c:Nat) (l:List Nat),Lim w A n c l->Lim w' A n c l)->wpList P ops Q rest (a.put o.dst v') w'):wpList P ops Q (o::rest) a w:=
 wpList_plain hgd λ_ hK=>Zag w s x t ho base e i ht hi hz hsi hby v rs hs hown B A m c fs hx hr hm h63 hbase λv' w' h2 h3 h4=>hK _ _ (h v' w' h2 h3 h4)
end
theorem Zh0(w:World)(A:Option Addr)(n c:Nat)(t:TypeId):Reads (w.alloc (.cells #[.slice A n c] t)) (w.heap.size+1) 1 (some ⟨w.heap.size,0,none⟩) 1 (Zak [⟨A,n,c⟩]):=
 ⟨rfl,λ_=>⟨_,rfl,Nat.lt_succ_self _,λj u hu=>by
  rw[Zh,QS,(QF w t #[.slice A n c]).cell];simpa [Zak]using hu⟩⟩
theorem FL.reads{w:World}{A:Option Addr}{n c:Nat}{qs:List Rat}(h:FL w A n c qs):∃ fs:List FE,Reads w w.heap.size 4 A n (Zp fs)/\fs.length=n/\(∀ e ∈ fs,e.in_ w)/\fs.map FE.q=qs:=by
 obtain⟨es,h1,h2,h3,h4,h5,h6⟩:=h;refine⟨es,⟨by rw[Zq,h1],λhn=>?_⟩,h1,h4,h5⟩;obtain⟨g,o,e1,hc⟩:=h6 hn;refine⟨⟨g,o,none⟩,e1,?_,λj u hu=>?_⟩
 ·have:=(hc 0 es[0] (Qa (by omega))).1
  exact Zo this
 ·rw[Zh]
  have hj:j<es.length*4:=by
   have:=(List.getElem?_eq_some_iff.1 hu).1
   rwa [Zq]at this
  have he:=Qa (show j/4<es.length by omega);have hg:=Zfh he;have hm:=hc (j/4) _ he;have h4:j%4=0 \/ j%4=1 \/ j%4=2 \/ j%4=3:=by omega
  rcases h4 with h2|h2|h2|h2;rw[show j/4*4=j by omega]at hg hm;rw[hg.1]at hu;cases hu;exact hm.1;rw[show j/4*4+1=j by omega]at hg hm;rw[hg.2.1]at hu;cases hu;exact hm.2.1;rw[show j/4*4+2=j by omega]at hg hm;rw[hg.2.2.1]at hu;cases hu;exact hm.2.2.1;rw[show j/4*4+3=j by omega]at hg hm;rw[hg.2.2.2]at hu;cases hu;exact hm.2.2.2
theorem Zdg:(Tryz.prog.info? 41).map (λi=>(i.zero,i.size,i.bytes))=some (some (.agg #[.bool false,.slice none 0 0,.bool false,.slice none 0 0]),4,64):=by kernel_rfl
theorem Zeu:(Tryz.prog.info? 35).map (λi=>(i.zero,i.size,i.bytes))=some (some (.slice none 0 0),1,24):=by kernel_rfl
def MatO(tS tF:TypeId)(w:World)(base:Nat)(v:Value)(L:List RF):Prop:=
 RowS tS w base v (L.map RF.rs)/\(∀ r ∈ L,(FOwn tF w r.g r.q/\r.q.length<=r.c/\r.c<=maxLen)/\base<=r.g)/\(L.map RF.g).Nodup
theorem Blk.type{w:World}{g:Nat}{t t':TypeId}{cs cs':Array Value}(h:Blk w g t cs)(h':Blk w g t' cs'):t=t':=by
 unfold Blk at h h';rw[h]at h';cases h';rfl
section
variable{tS tF:TypeId}{w w':World}{base:Nat}{v v':Value}{L:List RF}
theorem MatO.nil(tS tF:TypeId)(w:World)(base:Nat):MatO tS tF w base (.slice none 0 0) []:=⟨.inl ⟨rfl,rfl⟩,λr hr=>(by cases hr),List.nodup_nil⟩
theorem MatO.kept(h:MatO tS tF w base v L)(hb:Below w.heap.size w w'):MatO tS tF w' base v L:=⟨h.1.kept hb,λr hr=>⟨⟨(h.2.1 r hr).1.1.below hb,(h.2.1 r hr).1.2⟩,(h.2.1 r hr).2⟩,h.2.2⟩
theorem RowS.ownType{rs:List RS}(h:RowS tS w base v rs){g:Nat}{cs:Array Value}(hb:Blk w g tF cs)(hne:tS≠tF):v.ownBlock≠some g:=by
 rintro e;rcases h with ⟨rfl,_⟩|⟨g',sp,rfl,_,_,h4⟩;cases e
 ·have:g'=g:=by simpa [Value.ownBlock]using e
  subst this;exact hne (h4.type hb)
theorem FOwn.grown{g:Nat}{qs:List Rat}(h:FOwn tF w g qs)(hg:w.grownBy w' v.ownBlock)(hne:v.ownBlock≠some g)(hk:∀ (A:Option Addr) (n c:Nat) (l:List Nat),Lim w A n c l->Lim w' A n c l):FOwn tF w' g qs:=by
 obtain⟨es,zs,h1,h2,h3⟩:=h;exact⟨es,zs,(hg.block g h1.lt (λe=>hne (by first|exact e|exact e.symm))).trans h1,λe he=>(h2 e he).of_keep hk,h3⟩
theorem MatO.snoc(h:MatO tS tF w base v L)(hne:tS≠tF){r:RF}(hr:FOwn tF w r.g r.q/\r.q.length<=r.c/\r.c<=maxLen)(hbr:base<=r.g)(hnew:∀ s ∈ L,s.g≠r.g)(h1:RowS tS w' base v' (L.map RF.rs ++ [r.rs]))(hg:w.grownBy w' v.ownBlock)
    (hk:∀ (A:Option Addr) (n c:Nat) (l:List Nat),Lim w A n c l->Lim w' A n c l):MatO tS tF w' base v' (L ++ [r]):=by
 have ow:∀ {s:RF},FOwn tF w s.g s.q->v.ownBlock≠some s.g:=λhs=>by obtain⟨es,zs,q1,-,-⟩:=hs;exact h.1.ownType q1 hne
 refine⟨by rw[QM];exact h1,λs hs=>?_,?_⟩
 ·rcases List.mem_append.1 hs with hs|hs
  ·have:=h.2.1 s hs
   exact⟨⟨this.1.1.grown hg (ow this.1.1) hk,this.1.2⟩,this.2⟩
  ·rw[QW]at hs
   subst hs;exact⟨⟨hr.1.grown hg (ow hr.1) hk,hr.2⟩,hbr⟩
 ·rw[QM,List.nodup_append]
  refine⟨h.2.2,by simp,λa ha b hb=>?_⟩;obtain⟨s,hs,rfl⟩:=List.mem_map.1 ha;simp only[Qi,Qk,QW]at hb;rw[hb];exact hnew s hs
theorem MatO.mat(h:MatO tS tF w base v L)(hne:tS≠tF)(hl:L ≠ []):∃ go cap,v=.slice (some ⟨go,0,none⟩) L.length cap/\L.length<=cap/\cap<=maxLen/\base<=go/\MatB tS tF w go L/\∀ r ∈ L,base<=r.g:=by
 rcases h.1 with ⟨-,h2⟩|⟨go,sp,rfl,h2,h3,h4⟩;exact absurd (List.map_eq_nil_iff.1 h2) hl
 ·refine⟨go,_,by rw[Qz],by rw[Qz];omega,h3,h2,⟨⟨_,h4⟩,λr hr=>(h.2.1 r hr).1,?_⟩,λr hr=>(h.2.1 r hr).2⟩
  refine List.nodup_cons.2 ⟨λhm=>?_,h.2.2⟩;obtain⟨r,hr,e⟩:=List.mem_map.1 hm;obtain⟨es,zs,q1,-,-⟩:=(h.2.1 r hr).1.1;rw[e]at q1;exact hne (h4.type q1)
end
theorem Zlc(A:Option Addr)(n c m:Nat)(Q:List (List Rat))(w:World)(h:MFL w A n c Q)(hn9:n<=900)(hm:∀ i,i<n->(Q[i]?.getD []).length=m)(hm0:0<m)(hm9:m<=900) :
    Calls Tryz.prog 87 #[.slice A n c] w λe w'=>∃ v L,e=.returned v/\Below w.heap.size w w'/\MatO 35 41 w' w.heap.size v L/\L.map RF.q=Q:=by
 obtain⟨iF,hi,c7,c0,b4⟩:=info_parts Zdg;obtain⟨iS,ki,d4,c4,b9⟩:=info_parts Zeu;have hmx:Tryz.prog.follows .mixedOrders=true:=by kernel_rfl
 have hl:=Za h.1;have d8:=h.2.1;have b5:=h.2.2.1;unfold maxLen at b5;have c9:(35:TypeId)≠41:=by decide
 replace hm:=Za hm;replace h:=Za h;go_enter Tryz.func87,Tryz.ntmps87;go_wp2_with fail
 go_loopg [3,4] n (λk ov iv wr=>∃ (i:Nat) (L:List RF),i+k=n/\iv=.int .i64 i/\MatO 35 41 wr w.heap.size ov L/\Hid (L.map RF.q=Q.take i)/\Below w.heap.size w wr)
 case atStart=>exact⟨0,[],by omega,rfl,MatO.nil _ _ _ _,Za (by simp),Qe _ _⟩
 case round =>
  obtain⟨i,L,d7,rfl,hM,hQ,hB⟩:=hrel
  have d6:L.length=i:=by
   have h1:(L.map RF.q).length=(Q.take i).length:=by rw[hQ.out]
   rw[Qz,List.length_take,hl.out]at h1;omega
  cases gk with
  | zero =>
   obtain rfl:i=n:=by omega
   have t1:decide ((i:Int)<(i:Int))=false:=by simp
   replace hM:=Za hM;go_wp2_with fail;go_ret;exact⟨_,L,rfl,hB,hM.out,by rw[hQ.out];exact List.take_of_length_le (by rw[hl.out];exact Qc _)⟩
  | succ j =>
   obtain rfl:j=n-(i+1):=by omega
   have u:i<n:=by omega
   have t1:decide ((i:Int)<(n:Int))=true:=decide_eq_true (by omega);have bi:(i:Int)<(n:Int):=by omega
   obtain⟨g,o,A1,n1,c1,rfl,k0,hF⟩:=(h.out.below hB).at_ u;have c3:n1=m:=by rw[<- hF.len];exact hm.out i u
   subst c3;have a4:=hF.below ((Qe wr.heap.size wr).alloc (Qc _) (.cells #[] 41));have k1:=Zb ((Qe wr.heap.size wr).alloc (Qc _) (.cells #[] 41)) k0;have O:OwnF 41 (wr.alloc (.cells #[] 41)) wr.heap.size (.slice (some ⟨wr.heap.size,0,none⟩) 0 0) []:=⟨[],.inr ⟨wr.heap.size,0,rfl,Qc _,QP _,QF _ _ _⟩,λe he=>(by cases he),rfl⟩;obtain⟨fs,hR,b0,b2,a8⟩:=a4.reads;have a6:Below wr.heap.size wr (wr.alloc (.cells #[] 41)):=(Qe wr.heap.size wr).alloc (Qc _) _;have a1:∀ s ∈ L,s.g<wr.heap.size:=λs hs=>(hM.2.1 s hs).1.1.lt;replace a1:=Za a1;replace hM:=Za hM;clear hF a4
   go_wp2_with (first
    | (at_builtin;refine Zby _ rfl (.tmp 12) (.tmp 16) 35 rfl wr.heap.size 41 iF Tryz.underlying35 hi c7 c0 b4 _ [] rfl O _ _ _ _ fs rfl hR b0 b2 (by simp;omega) (by simp) ?_
       intro v2 w2 a0 a5 c8;have f:Below wr.heap.size wr w2:=a6.grown a5 a6.size (λk hk=>by cases hk;exact Qc _);rw[QT,a8]at a0;rcases a0.fown with ⟨-,T⟩|⟨g2,c2,rfl,a9,I,a7,U⟩
       ·exfalso
        have h1:=hm.out i u;rw[T]at h1;simp at h1;omega
       have b1:=hM.out.kept f;have Y:(Q[i]?.getD []).length=n1:=hm.out i u;rw[Y]at I ⊢;have y:Below w2.heap.size w2 (w2.alloc (.cells #[.slice (some ⟨g2,0,none⟩) n1 c2] 35)):=(Qe _ _).alloc (Qc _) _;have C:=b1.kept y;have b8:=hB.trans ((f.mono hB.size).trans (y.mono (Qt hB.size f.size)));have b7:=U.below y
       have d0:Hid (L.map RF.q ++ [Q[i]?.getD []]=Q.take (i+1)):=Za (by
        rw[hQ.out,List.take_add_one,Qa (by rw[hl.out];exact u)];rfl)
       have b6:=Zh0 w2 (some ⟨g2,0,none⟩) n1 c2 35;have J:=C.1;have c6:(L.map RF.rs).length+1<=1000:=by rw[Qz];omega
       have b3:w.heap.size<=(w2.alloc (.cells #[.slice (some ⟨g2,0,none⟩) n1 c2] 35)).heap.size:=Qt hB.size (Qt f.size y.size);replace C:=Za C;replace U:=Za U;clear c8 a5 O hR b2 a8 b0 b1 a0)
    | (at_builtin;refine Zcw _ rfl (.tmp 11) (.tmp 18) 25 rfl w.heap.size 35 iS Tryz.underlying25 ki d4 c4 b9 _ _ rfl J _ _ 1 1 [⟨some ⟨g2,0,none⟩,n1,c2⟩] rfl b6 rfl c6 b3 ?_;intro v5 w5 c5 a2 d5))
   have a3:∀ s ∈ L,s.g≠g2:=λs hs=>by have:=a1.out s hs;omega
   have V:=C.out.snoc c9 (r:=⟨g2,c2,Q[i]?.getD []⟩) ⟨b7,by rw[Y];exact I,a7⟩ (Qt hB.size a9) a3 (by simp only[RF.rs,Y];exact c5) a2 d5;have d3:=b8.grown a2 b3 (λk hk=>J.row_ge k hk);replace V:=Za V
   go_roundg (n-(i+1))
   case measure=>omega
   case rel=>exact⟨i+1,_,by omega,by go_num,V.out,Za (by rw[QM];exact d0.out),d3⟩
structure RZ where
 g:Nat
 q:List Int
def RZ.rs(r:RZ):RS:=⟨some ⟨r.g,0,none⟩,r.q.length,r.q.length⟩
def MatZ(tS tF:TypeId)(w:World)(go:Nat)(L:List RZ):Prop:=
 (∃ zs,Blk w go tS (Zx (L.map RZ.rs++zs)))/\(∀ r ∈ L,POwn tF w r.g r.q/\r.q.length<=maxLen)/\(go::L.map RZ.g).Nodup
section
variable{tS tF:TypeId}{w w':World}{go:Nat}{L:List RZ}
theorem MatZ.below(h:MatZ tS tF w go L)(hb:Below w.heap.size w w'):MatZ tS tF w' go L:=by
 obtain⟨⟨zs,h1⟩,h2,h3⟩:=h;exact⟨⟨zs,Zd hb h1⟩,λr hr=>⟨(h2 r hr).1.below hb,(h2 r hr).2⟩,h3⟩
theorem MatZ.cell(h:MatZ tS tF w go L){i:Nat}{r:RZ}(hr:L[i]?=some r):w.cell? ⟨go,i,none⟩=some (.slice (some ⟨r.g,0,none⟩) r.q.length r.q.length)/\w.frozen? ⟨go,i,none⟩=false:=by
 obtain⟨⟨zs,h1⟩,-,-⟩:=h;refine⟨?_,h1.frozen i⟩;rw[h1.cell];refine Zbv (e:=r.rs) ?_;have hi:=(List.getElem?_eq_some_iff.1 hr).1;rw[Qo (by simpa using hi),Qb,hr];rfl
theorem MatZ.row(h:MatZ tS tF w go L){i:Nat}{r:RZ}(hr:L[i]?=some r):POwn tF w r.g r.q/\r.q.length<=maxLen:=h.2.1 r (Qh hr)
theorem MatZ.ne(h:MatZ tS tF w go L){i:Nat}{r:RZ}(hr:L[i]?=some r):go≠r.g:=λe=>by
 have:=(List.nodup_cons.1 h.2.2).1;exact this (List.mem_map.2 ⟨r,Qh hr,e.symm⟩)
theorem MatZ.ne2(h:MatZ tS tF w go L){i j:Nat}{r s:RZ}(hr:L[i]?=some r)(hs:L[j]?=some s)(hij:i≠j):r.g≠s.g:=λe=>by
 have hn:=(List.nodup_cons.1 h.2.2).2;have h1:(L.map RZ.g)[i]?=some r.g:=by rw[Qb,hr];rfl
 have h2:(L.map RZ.g)[j]?=some r.g:=by rw[Qb,hs,e];rfl
 exact hij ((QQ (by have:=(List.getElem?_eq_some_iff.1 h1).1;exact this) hn).1 (h1.trans h2.symm))
theorem MatZ.boxes(h:MatZ tS tF w go L):∀ k,(k=go \/ k ∈ L.map RZ.g)->∃ t cs,Blk w k t cs/\NoLimb cs:=by
 intro k hk;obtain⟨⟨zs,h1⟩,h2,-⟩:=h;rcases hk with rfl|hk;exact⟨tS,_,h1,Zas _⟩
 ·obtain⟨r,hr,rfl⟩:=List.mem_map.1 hk
  exact(h2 r hr).1.box
theorem MatZ.set_(h:MatZ tS tF w go L){i:Nat}{r:RZ}(hr:L[i]?=some r){k:Nat}(hk:k<r.q.length){na:Bool}{A:Option Addr}{n c:Nat}{x:Int}(hf:Wd w na A n c x) :
    MatZ tS tF ((w.setCell ⟨r.g,k*2,none⟩ (.bool na)).setCell ⟨r.g,k*2+1,none⟩ (.slice A n c)) go (L.set i ⟨r.g,r.q.set k x⟩):=by
 have u:=h.ne hr;have y:=λ{j:Nat} {s:RZ} (hs:L[j]?=some s) (hij:j≠i)=>h.ne2 hs hr hij;have o:=h.row hr;have hi:=(List.getElem?_eq_some_iff.1 hr).1;obtain⟨⟨zs,h1⟩,h2,h3⟩:=h;refine⟨⟨zs,?_⟩,λs hs=>?_,?_⟩
 ·have e:(L.set i ⟨r.g,r.q.set k x⟩).map RZ.rs=L.map RZ.rs:=by
    rw[Qp];apply Qj;intro j;rw[Qd];by_cases hij:i=j
    ·subst hij
     rw[if_pos rfl,if_pos (by simpa using hi),Qb,hr];simp[RZ.rs]
    rw[if_neg hij]
  rw[e];exact(h1.far u _).far u _
 ·obtain⟨j,hj,C⟩:=QG hs
  have f:(L.set i ⟨r.g,r.q.set k x⟩)[j]?=some s:=by rw[Qa hj,C]
  rw[Qd]at f;by_cases hij:i=j
  ·subst hij
   rw[if_pos rfl,if_pos hi]at f;cases f;exact⟨o.1.set_ hk hf,by simpa using o.2⟩
  ·rw[if_neg hij]at f
   have:=h2 s (Qh f);exact⟨this.1.other o.1 (y f (Qx hij)) _ _ _ _ _,this.2⟩
 ·have e:(L.set i ⟨r.g,r.q.set k x⟩).map RZ.g=L.map RZ.g:=by
    rw[Qp];apply Qj;intro j;rw[Qd];by_cases hij:i=j
    ·subst hij
     rw[if_pos rfl,if_pos (by simpa using hi),Qb,hr];rfl
    rw[if_neg hij]
  rw[e];exact h3
theorem MatZ.swap(h:MatZ tS tF w go L){i j:Nat}{r s:RZ}(hr:L[i]?=some r)(hs:L[j]?=some s) :
    MatZ tS tF ((w.setCell ⟨go,i,none⟩ (.slice (some ⟨s.g,0,none⟩) s.q.length s.q.length)).setCell ⟨go,j,none⟩ (.slice (some ⟨r.g,0,none⟩) r.q.length r.q.length)) go (Zy L i j):=by
 have hi:=(List.getElem?_eq_some_iff.1 hr).1;have hj:=(List.getElem?_eq_some_iff.1 hs).1;have C:=λ{j:Nat} {s:RZ} (hs:L[j]?=some s)=>h.ne hs;obtain⟨⟨zs,h1⟩,h2,h3⟩:=h;have o:=h1.set_ i (.slice (some ⟨s.g,0,none⟩) s.q.length s.q.length);have J:NoLimb ((Zx (L.map RZ.rs++zs)).setIfInBounds i (.slice (some ⟨s.g,0,none⟩) s.q.length s.q.length)):=Ze4 (Zas _) i (λx=>by simp);have I:=o.set_ j (.slice (some ⟨r.g,0,none⟩) r.q.length r.q.length)
 have hk:∀ (A:Option Addr) (n c:Nat) (l:List Nat),Lim w A n c l->Lim ((w.setCell ⟨go,i,none⟩ (.slice (some ⟨s.g,0,none⟩) s.q.length s.q.length)).setCell ⟨go,j,none⟩ (.slice (some ⟨r.g,0,none⟩) r.q.length r.q.length)) A n c l:=
  λA n c l hl=>(hl.set_box h1 (Zas _) _ _).set_box o J _ _
 refine⟨⟨zs,?_⟩,λx hx=>?_,?_⟩
 ·have e:Zx ((Zy L i j).map RZ.rs++zs)=((Zx (L.map RZ.rs++zs)).setIfInBounds i (.slice (some ⟨s.g,0,none⟩) s.q.length s.q.length)).setIfInBounds j (.slice (some ⟨r.g,0,none⟩) r.q.length r.q.length):=by
    have e1:=Zch (es:=L.map RZ.rs++zs) (i:=i) s.rs;have e2:=Zch (es:=(L.map RZ.rs++zs).set i s.rs) (i:=j) r.rs;simp only[RZ.rs]at e1 e2;rw[e1,e2,Zqk hr hs];congr 1;rw[Qp,Qp,Qr _ _ (by simpa using hi),Qr _ _ (by simpa using hj)];rfl
  rw[e];exact I
 ·have f:=Zdi L i j x hx
  obtain⟨es,q1,q2,q3⟩:=(h2 x f).1;obtain⟨k,O,y⟩:=QG f;have u:x.g≠go:=Qx (C (j:=k) (s:=x) (by rw[Qa O,y]));exact⟨⟨es,(q1.far u _).far u _,λe he=>⟨hk _ _ _ _ (q2 e he).1,(q2 e he).2⟩,q3⟩,(h2 x f).2⟩
 ·rw[Ye]at h3 ⊢
  rw[Ze0];refine⟨λhm=>h3.1 (Zdi _ _ _ _ hm),Zk1 h3.2 (by simpa using hi) (by simpa using hj)⟩
theorem MatZ.keptG{G:Nat->Prop}(h:MatZ tS tF w go L)(hk:Kept G w w')(hg:¬ G go)(hgs:∀ r ∈ L,¬ G r.g)(hG:∀ k,G k->∃ t cs,Blk w k t cs/\NoLimb cs):MatZ tS tF w' go L:=by
 obtain⟨⟨zs,h1⟩,h2,h3⟩:=h;refine⟨⟨zs,hk.blk h1 hg⟩,λr hr=>⟨?_,(h2 r hr).2⟩,h3⟩;obtain⟨es,q1,q2,q3⟩:=(h2 r hr).1;exact⟨es,hk.blk q1 (hgs r hr),λe he=>⟨hk.lim (q2 e he).1 hG,(q2 e he).2⟩,q3⟩
end
def Zat(L:List RZ)(i:Nat):List Int:=(L[i]?.map RZ.q).getD []
theorem Zhf{L:List RZ}{i:Nat}{r:RZ}(h:L[i]?=some r):Zat L i=r.q:=by unfold Zat;rw[h];rfl
theorem Zjt(L:List RZ)(i j:Nat):Zae (L.map RZ.q) i j=(Zat L i)[j]?.getD 0:=by unfold Zae Zat;rw[Qb]
theorem Zj2(L:List RZ)(i:Nat):Zat L i=(L.map RZ.q)[i]?.getD []:=by unfold Zat;rw[Qb]
theorem Zut{L:List RZ}{i j:Nat}{r:RZ}(hi:i<L.length):Zat (L.set i r) j=if j=i then r.q else Zat L j:=by
 unfold Zat;rw[Qd];by_cases h:i=j;subst h;rw[if_pos rfl,if_pos hi,if_pos rfl];rfl;rw[if_neg h,if_neg (Qx h)]
theorem Zxp{L:List RZ}{R:List (List Int)}(hl:L.length=R.length)(h:∀ i,i<R.length->Zat L i=R[i]?.getD []):L.map RZ.q=R:=by
 apply Qj;intro i;rw[Qb];by_cases hi:i<R.length
 ·have:=h i hi
  unfold Zat at this;rw[Qa (show i<L.length by omega),Qa hi]at this ⊢;simp only[QI,Qu]at this ⊢;rw[this]
 rw[Qg (by omega),Qg (by omega)];rfl
theorem Zrw{R:List (List Int)}{r col i:Nat}{last:Int}(hi:i<R.length):(Zdk R r col last)[i]?.getD []=if i<=r then R[i]?.getD []else Zp3 (R[r]?.getD []) (R[i]?.getD []) col (Zae R r col) last:=by
 unfold Zdk;rw[Qb,Qw hi];rfl
theorem rowZ_eq{p row q:List Int}{col:Nat}{piv last:Int}(hl:q.length=row.length)(h:∀ t,q[t]?.getD 0=if t<row.length then Int.fdiv (row[t]?.getD 0*piv-row[col]?.getD 0*p[t]?.getD 0) last else row[t]?.getD 0):q=Zp3 p row col piv last:=by
 apply Qj;intro t;unfold Zp3;rw[Qb];have:=h t;by_cases ht:t<row.length
 ·rw[Qw ht]
  rw[Qa (show t<q.length by omega)]at this ⊢;simp only[QI,Qu]at this ⊢;rw[this,if_pos ht]
 rw[Qg (by omega),Qg (l:=Yf _) (by simpa using ht)];rfl
theorem Zwi{row q:List Int}{k:Nat}{x:Int}{f:Nat->Int}(hl:q.length=row.length)(hkl:k<row.length)(hx:x=f k)(h:∀ t,q[t]?.getD 0=if t<k then f t else row[t]?.getD 0) :
    ∀ t,(q.set k x)[t]?.getD 0=if t<k+1 then f t else row[t]?.getD 0:=by
 intro t;rw[Qd];by_cases ht:k=t
 ·subst ht
  rw[if_pos rfl,if_pos (by omega),if_pos (by omega),hx];rfl
 ·rw[if_neg ht,h t]
  by_cases h1:t<k;rw[if_pos h1,if_pos (by omega)];rw[if_neg h1,if_neg (by omega)]
theorem Zfo(na nb:Bool)(A B:Option Addr)(n c m d:Nat)(a b:Int)(w:World)(ha:Wd w na A n c a)(hb:Wd w nb B m d b)(hs:(a*b).natAbs<pw 4096) :
    Calls Tryz.prog 139 #[.agg #[.bool na,.slice A n c],.agg #[.bool nb,.slice B m d]] w (NumW w (a*b)):=by
 obtain⟨W0,u,h,⟨q0,q1,q2⟩,s0⟩:=Zcu w 39 #[.bool na,.slice A n c] 39 #[.bool nb,.slice B m d] 39 #[.bool false,.slice none 0 0];have hA:=ha.below h;have hD:=hb.below h;have hC:=Za (Zj5 na nb A B n c m d a b W0 hA hD);clear ha hb hA hD;obtain⟨a0,a1,-⟩:=q0.two;obtain⟨b0,b1,-⟩:=q1.two;replace q2:=Za q2;replace hs:=Za hs;clear q0 q1;go_enter Tryz.func139,Tryz.ntmps139;go_wp2_with fail;refine hC.out.mono ?_;rintro e w1 ⟨f,n2,A2,k2,c2,code,rfl,hR⟩;have hN:=hR.small hs.out;have o:=h.trans (f.mono h.size);have s1:=f.size;have q3:=Zd f q2.out;clear f a0 a1 b0 b1 u hR hC q2;obtain⟨V,hV,C,qv,kW,kB,sV⟩:=Zt 39 #[.bool n2,.slice A2 k2 c2] o o.size;have q4:=kB _ _ _ q3;have y:=Za (kW _ _ _ _ _ hN);clear kW kB hN;obtain⟨v0,v1,v2,v3⟩:=qv.two;obtain⟨r0,r1,r2,r3⟩:=q4.two;go_wp2_with fail;obtain⟨X,hX,I,q5,st⟩:=Zbe n2 A2 k2 c2 C (by omega) q4;(try rw[hX]);obtain⟨y0,y1,-⟩:=q5.two;refine bodyPost_ret (v:=.agg #[.bool n2,.slice A2 k2 c2]) (by simp[results,Tryz.results139,go_sem,y0,y1]) rfl ?_;exact⟨I,_,_,_,_,rfl,st.1 _ _ _ _ _ y.out⟩
theorem lsub_ok(na nb:Bool)(A B:Option Addr)(n c m d:Nat)(a b:Int)(w:World)(ha:Wd w na A n c a)(hb:Wd w nb B m d b)(hs:(a-b).natAbs<pw 4096) :
    Calls Tryz.prog 176 #[.agg #[.bool na,.slice A n c],.agg #[.bool nb,.slice B m d]] w (NumW w (a-b)):=by
 obtain⟨W0,u,h,⟨q0,q1,q2⟩,s0⟩:=Zcu w 39 #[.bool na,.slice A n c] 39 #[.bool nb,.slice B m d] 39 #[.bool false,.slice none 0 0];have hA:=ha.below h;have hD:=hb.below h;have hC:=Za (Zxo na nb A B n c m d a b W0 hA hD);clear ha hb hA hD;obtain⟨a0,a1,-⟩:=q0.two;obtain⟨b0,b1,-⟩:=q1.two;replace q2:=Za q2;replace hs:=Za hs;clear q0 q1;go_enter Tryz.func176,Tryz.ntmps176;go_wp2_with fail;refine hC.out.mono ?_;rintro e w1 ⟨f,n2,A2,k2,c2,code,rfl,hR⟩;have hN:=hR.small hs.out;have o:=h.trans (f.mono h.size);have s1:=f.size;have q3:=Zd f q2.out;clear f a0 a1 b0 b1 u hR hC q2;obtain⟨V,hV,C,qv,kW,kB,sV⟩:=Zt 39 #[.bool n2,.slice A2 k2 c2] o o.size;have q4:=kB _ _ _ q3;have y:=Za (kW _ _ _ _ _ hN);clear kW kB hN;obtain⟨v0,v1,v2,v3⟩:=qv.two;obtain⟨r0,r1,r2,r3⟩:=q4.two;go_wp2_with fail;obtain⟨X,hX,I,q5,st⟩:=Zbe n2 A2 k2 c2 C (by omega) q4;(try rw[hX]);obtain⟨y0,y1,-⟩:=q5.two;refine bodyPost_ret (v:=.agg #[.bool n2,.slice A2 k2 c2]) (by simp[results,Tryz.results176,go_sem,y0,y1]) rfl ?_;exact⟨I,_,_,_,_,rfl,st.1 _ _ _ _ _ y.out⟩
theorem Zor(na nb:Bool)(A B:Option Addr)(n c m d:Nat)(a b:Int)(w:World)(ha:Wd w na A n c a)(hb:Wd w nb B m d b)(h0:b≠0) :
    Calls Tryz.prog 173 #[.agg #[.bool na,.slice A n c],.agg #[.bool nb,.slice B m d]] w (NumW w (Int.fdiv a b)):=by
 obtain⟨W0,I,o,⟨q0,q1,q2⟩,s0⟩:=Zcu w 39 #[.bool na,.slice A n c] 39 #[.bool nb,.slice B m d] 39 #[.bool false,.slice none 0 0];have hA:=ha.below o;have hD:=hb.below o;have hC:=Za (Zf1 na nb A B n c m d a b W0 hA hD h0);clear ha hb hA hD;obtain⟨a0,a1,-⟩:=q0.two;obtain⟨b0,b1,-⟩:=q1.two;replace q2:=Za q2;replace h0:=Za h0;clear q0 q1;go_enter Tryz.func173,Tryz.ntmps173;go_wp2_with fail;refine hC.out.mono ?_;rintro e w1 ⟨h,n2,A2,k2,c2,n3,A3,k3,c3,rfl,hN,-⟩;have C:=o.trans (h.mono o.size);have s1:=h.size;have q3:=Zd h q2.out;clear h a0 a1 b0 b1 I hC q2;obtain⟨V,hV,J,qv,kW,kB,sV⟩:=Zt 39 #[.bool n2,.slice A2 k2 c2] C C.size;have q4:=kB _ _ _ q3;have u:=kW _ _ _ _ _ hN;clear kW kB hN;obtain⟨V2,f,y,T,kW,kB,U⟩:=Zt 39 #[.bool n3,.slice A3 k3 c3] J (by omega);replace q4:=kB _ _ _ q4;replace qv:=kB _ _ _ qv;replace u:=Za (kW _ _ _ _ _ u);clear kW kB;obtain⟨v0,v1,v2,v3⟩:=qv.two;obtain⟨r0,r1,r2,r3⟩:=q4.two;rw[<- hV]at f;rw[<- f]at v0 v1 v2 v3 r0 r1 r2 r3;replace f:=Za f;clear hV;go_wp2_with fail;(try rw[f.out]);obtain⟨X,hX,O,q5,st⟩:=Zbe n2 A2 k2 c2 y (by omega) q4;(try rw[hX]);obtain⟨y0,y1,-⟩:=q5.two;refine bodyPost_ret (v:=.agg #[.bool n2,.slice A2 k2 c2]) (by simp[results,Tryz.results173,go_sem,y0,y1]) rfl ?_;exact⟨O,_,_,_,_,rfl,st.1 _ _ _ _ _ u.out⟩
theorem Zu5(neg:Bool)(A:Option Addr)(n c:Nat)(w:World)(hn:n<=1000000000)(b:Bool)(hb:((n:Int) == 0)=b) :
    Calls Tryz.prog 174 #[.agg #[.bool neg,.slice A n c]] w λe w'=>e=.returned (.bool b)/\Below w.heap.size w w':=by
 go_enter Tryz.func174,Tryz.ntmps174;go_wp2_with fail;go_ret;exact⟨rfl,by go_grown⟩
theorem Zye(na nb:Bool)(A B:Option Addr)(n c m d:Nat)(za zb:Int)(w:World)(ha:Wd w na A n c za)(hb:Wd w nb B m d zb) :
    Calls Tryz.prog 119 #[.agg #[.bool na,.slice A n c],.agg #[.bool nb,.slice B m d]] w (ResW w (za+zb)):=by
 have a0:=ha.lim;have O:=hb.lim;have hn:=ha.2.1;have hm:=hb.2.1;have C:∀ X Y Z V:Obj,Below w.heap.size w ((((w.alloc X).alloc Y).alloc Z).alloc V):=λX Y Z V=>((((Qe w.heap.size w).alloc (Qc _) _).alloc (by simp) _).alloc (by simp;omega) _).alloc (by simp;omega) _
 have hW:∀ X Y Z t,WL ((((w.alloc X).alloc Y).alloc Z).alloc (.cells #[.bool na,.slice A n c,.bool nb,.slice B m d] t)) (some ⟨w.heap.size+1+1+1,0,none⟩) 2 2 [⟨na,A,n,c,digits za.natAbs⟩,⟨nb,B,m,d,digits zb.natAbs⟩]:=λX Y Z t=>by
  have:=WL.two (neg:=na) (neg':=nb) (((a0.alloc X).alloc Y).alloc Z) (((O.alloc X).alloc Y).alloc Z) t;simp only[QD]at this;exact this
 have hW:=Za hW;have C:=Za C;have y:Hid (okW na (digits za.natAbs)=true/\okW nb (digits zb.natAbs)=true):=⟨ha.ok,hb.ok⟩;have a3:=Za ha.sgEq;have a2:=Za hb.sgEq;clear ha hb;go_enter Tryz.func119,Tryz.ntmps119;go_wp2_with fail;refine(Zdt (hW.out _ _ _ _) (by have:=y.out;simp[WE.ok,this])).mono ?_;rintro e w1 ⟨rfl,f⟩;obtain⟨h,a1⟩:=Zcp f;have a6:w.heap.size+1+1+1<w1.heap.size:=by have:=f.size;simp at this;omega
 have o:Below w.heap.size w w1:=(C.out _ _ _ _).trans (f.mono (by simp;omega));have g0:w1.cell? ⟨w.heap.size,0,none⟩=some (.bool na):=by simp[h,go_sem]
 have g1:w1.cell? ⟨w.heap.size,1,none⟩=some (.slice A n c):=by simp[h,go_sem]
 have g2:w1.cell? ⟨w.heap.size+1,0,none⟩=some (.bool nb):=by simp[h,go_sem]
 have g3:w1.cell? ⟨w.heap.size+1,1,none⟩=some (.slice B m d):=by simp[h,go_sem]
 have gf:w1.frozen? ⟨w.heap.size+1,0,none⟩=false:=by simp[a1,go_sem]
 have gB:Blk w1 (w.heap.size+1) 39 #[.bool nb,.slice B m d]:=by
  refine Zd f ((Blk.alloc (Blk.alloc ?_ _) _));have:=QF (w.alloc (.cells #[.bool na,.slice A n c] 39)) 39 #[.bool nb,.slice B m d];simp only[QD]at this;exact this
 have g7:Blk w1 (w.heap.size+1+1) 39 #[.bool false,.slice none 0 0]:=by
  refine Zd f (Blk.alloc ?_ _);have:=QF ((w.alloc (.cells #[.bool na,.slice A n c] 39)).alloc (.cells #[.bool nb,.slice B m d] 39)) 39 #[.bool false,.slice none 0 0];simp only[QD]at this;exact this
 have T:=a0.below o;have I:=O.below o;have HB:=Za gB;clear gB h a1;go_wp2_with fail;refine(Zue _ _ _ _ _ _ _ _ _ _ _ (by exact T) (by exact I) hn hm).mono ?_;rintro e w2 ⟨U,J,A2,n2,c2,u,rfl,a5⟩;have a4:Below w.heap.size w w2:=o.trans (U.mono o.size);have m7:=Zd U g7;have m3:=m7.cell 0;have m4:=m7.cell 1;have m5:=m7.frozen 0;have m6:=m7.frozen 1;simp at m3 m4;have HM:=Za m7;clear m7;go_wp2_with fail
 have HZ:sg na za.natAbs+sg nb zb.natAbs=za+zb:=by
  have h1:=a3.out;have h2:=a2.out;rw[Zi]at h1 h2;rw[h1,h2]
 refine bodyPost_ret (v:=.tuple #[.agg #[.bool J,.slice A2 n2 c2],.int .i64 u]) (by simp[results,Tryz.results119,go_sem,m3,m4]) rfl ?_;exact ResW.box (HZ▸a5) a4 (by omega) HM.out
attribute [local go_sem] Zh Oper.semAt_some
def Zbp(ws:List Int)(a b:Nat->Int):Nat->Int
 | 0=>0
 | i+1=>Zbp ws a b i+(ws[i]?.getD 0)*(a i*b i)
def Zh9(v:Value)(z:Int)(w:World):Prop:=∃ na A n c,v=.agg #[.bool na,.slice A n c]/\Wd w na A n c z
def numT(v:Value)(z:Int)(w:World):Prop:=∃ na A n c,v=.tuple #[.agg #[.bool na,.slice A n c],.int .i64 0]/\Wd w na A n c z
theorem Zdh{v:Value}{z:Int}{w w':World}(hb:Below w.heap.size w w')(h:Zh9 v z w):Zh9 v z w':=by
 obtain⟨na,A,n,c,e,hf⟩:=h;exact⟨na,A,n,c,e,hf.below hb⟩
theorem Zs2{v:Value}{z:Int}{w w':World}(hb:Below w.heap.size w w')(h:numT v z w):numT v z w':=by
 obtain⟨na,A,n,c,e,hf⟩:=h;exact⟨na,A,n,c,e,hf.below hb⟩
def Zdb(x a b s:Int)(i:Nat)(v:Value)(w:World):Prop:=
 if i=2 then Zh9 v x w else if i=5 then v=.int .i64 a else if i=6 then Zh9 v a w else if i=9 then v=.int .i64 b else if i=10 then Zh9 v b w
 else if i=11 then Zh9 v (a*b) w else if i=12 then Zh9 v (x*(a*b)) w else if i=13 \/ i=14 then numT v (s+x*(a*b)) w else if i=15 then Zh9 v (s+x*(a*b)) w else if i=16 then v=.int .i64 0 else True
theorem Zli{x a b s:Int}{i:Nat}{v:Value}{w w':World}(hb:Below w.heap.size w w')(h:Zdb x a b s i v w):Zdb x a b s i v w':=by
 unfold Zdb at h ⊢
 split at h
 rename_i e;rw[if_pos e];exact Zdh hb h;rename_i e;rw[if_neg e];clear e
 split at h
 rename_i e;rw[if_pos e];exact h;rename_i e;rw[if_neg e];clear e
 split at h
 rename_i e;rw[if_pos e];exact Zdh hb h;rename_i e;rw[if_neg e];clear e
 split at h
 rename_i e;rw[if_pos e];exact h;rename_i e;rw[if_neg e];clear e
 split at h
 rename_i e;rw[if_pos e];exact Zdh hb h;rename_i e;rw[if_neg e];clear e
 split at h
 rename_i e;rw[if_pos e];exact Zdh hb h;rename_i e;rw[if_neg e];clear e
 split at h
 rename_i e;rw[if_pos e];exact Zdh hb h;rename_i e;rw[if_neg e];clear e
 split at h
 rename_i e;rw[if_pos e];exact Zs2 hb h;rename_i e;rw[if_neg e];clear e
 split at h
 rename_i e;rw[if_pos e];exact Zdh hb h;rename_i e;rw[if_neg e];clear e
 split at h
 rename_i e;rw[if_pos e];exact h;rename_i e;rw[if_neg e];trivial
def Zee(B0:Nat)(q:Rat)(i:Nat)(v:Value)(w:World):Prop:=
 if i=1 then Zh9 v 1 w else Zu B0 q 2 3 4 5 6 5 i v w
theorem Zmp{B0:Nat}{q:Rat}{i:Nat}{v:Value}{w w':World}(hb:Below w.heap.size w w')(h:Zee B0 q i v w):Zee B0 q i v w':=by
 unfold Zee at h ⊢
 split at h
 rename_i e;rw[if_pos e];exact Zdh hb h;rename_i e;rw[if_neg e];exact Zdl hb h
theorem Zo3{z:Int}(h:I64 z):z.natAbs<=9223372036854775808:=by unfold I64 at h;omega
theorem big6:9223372036854775808*(9223372036854775808*9223372036854775808)*1000<pw 4096:=
 Qy (show _<pw 7 from by decide) (Zcn (by decide))
theorem Znx{a b:Int}(ha:I64 a)(hb:I64 b):(a*b).natAbs<=9223372036854775808*9223372036854775808:=by
 rw[Qs];exact Nat.mul_le_mul (Zo3 ha) (Zo3 hb)
theorem Zk0{x a b:Int}(hx:I64 x)(ha:I64 a)(hb:I64 b):(x*(a*b)).natAbs<=9223372036854775808*(9223372036854775808*9223372036854775808):=by
 rw[Qs];exact Nat.mul_le_mul (Zo3 hx) (Znx ha hb)
theorem Zsg{a b:Int}(ha:I64 a)(hb:I64 b):(a*b).natAbs<pw 4096:=
 Ql (Znx ha hb) (Nat.lt_trans (by decide) big6)
theorem Zm3{x a b:Int}(hx:I64 x)(ha:I64 a)(hb:I64 b):(x*(a*b)).natAbs<pw 4096:=
 Ql (Zk0 hx ha hb) (Nat.lt_trans (by decide) big6)
theorem Zh8{l:List Int}(h:∀ x ∈ l,I64 x)(i:Nat):I64 (l[i]?.getD 0):=by
 rcases Nat.lt_or_ge i l.length with h1|h1;rw[Qa h1];exact h _ (List.getElem_mem _);rw[Qg h1];unfold I64;decide
theorem Zn1{ws:List Int}{a b:Nat->Int}(hw:∀ x ∈ ws,I64 x):∀ (i:Nat),(∀ j,j<i->I64 (a j)/\I64 (b j))->(Zbp ws a b i).natAbs<=9223372036854775808*(9223372036854775808*9223372036854775808)*i
 | 0,_=>by simp[Zbp]
 | i+1,h=>by
  have h1:=Zn1 hw i (λj hj=>h j (by omega));have h2:=Zk0 (Zh8 hw i) (h i (by omega)).1 (h i (by omega)).2;have h3:=Int.natAbs_add_le (Zbp ws a b i) ((ws[i]?.getD 0)*(a i*b i));rw[Nat.mul_add,Nat.mul_one];show (Zbp ws a b i+(ws[i]?.getD 0)*(a i*b i)).natAbs<=_;exact Qt h3 (Nat.add_le_add h1 h2)
theorem Zou{ws:List Int}{a b:Nat->Int}(hw:∀ x ∈ ws,I64 x){i:Nat}(hi:i<=1000)(h:∀ j,j<i->I64 (a j)/\I64 (b j)):(Zbp ws a b i).natAbs<pw 4096:=
 Ql (Zn1 hw i h) (Ql (Nat.mul_le_mul_left _ hi) big6)
theorem Wd.same{w:World}{na:Bool}{A:Option Addr}{n c:Nat}{y z:Int}(h:Wd w na A n c y)(e:y=z):Wd w na A n c z:=e▸h
theorem Zjw(z:Int):QC z 1=(z:Rat):=by
 have h:=QV ((z:Int):Rat);rw[Rat.num_intCast,Yd]at h;exact h
theorem dot2{x a b s:Int}{v:Value}{w:World}(h:Zdb x a b s 2 v w):Zh9 v x w:=h
theorem dot5{x a b s:Int}{v:Value}{w:World}(h:Zdb x a b s 5 v w):v=.int .i64 a:=h
theorem dot6{x a b s:Int}{v:Value}{w:World}(h:Zdb x a b s 6 v w):Zh9 v a w:=h
theorem dot9{x a b s:Int}{v:Value}{w:World}(h:Zdb x a b s 9 v w):v=.int .i64 b:=h
theorem Zuj{x a b s:Int}{v:Value}{w:World}(h:Zdb x a b s 10 v w):Zh9 v b w:=h
theorem Zt6{x a b s:Int}{v:Value}{w:World}(h:Zdb x a b s 11 v w):Zh9 v (a*b) w:=h
theorem Zt3{x a b s:Int}{v:Value}{w:World}(h:Zdb x a b s 12 v w):Zh9 v (x*(a*b)) w:=h
theorem Zt9{x a b s:Int}{v:Value}{w:World}(h:Zdb x a b s 13 v w):numT v (s+x*(a*b)) w:=h
theorem dot14{x a b s:Int}{v:Value}{w:World}(h:Zdb x a b s 14 v w):numT v (s+x*(a*b)) w:=h
theorem dot15{x a b s:Int}{v:Value}{w:World}(h:Zdb x a b s 15 v w):Zh9 v (s+x*(a*b)) w:=h
theorem dot16{x a b s:Int}{v:Value}{w:World}(h:Zdb x a b s 16 v w):v=.int .i64 0:=h
theorem end1{B0:Nat}{q:Rat}{v:Value}{w:World}(h:Zee B0 q 1 v w):Zh9 v 1 w:=h
theorem Zx9(Fa Fb:FuncId)(v0 v1 u0 u1:Value)(A:Option Addr)(n c:Nat)(ws:List Int)(a b:Nat->Int)(w:World)(h:LimI w A n c ws)(hn:n<=900)
    (ha:∀ i,i<n->I64 (a i)) (hb:∀ i,i<n->I64 (b i))
    (hca:∀ (x:Value) (W:World),(callFunc Fa #[x,v0,v1]).run Tryz.prog W=.ok (.enter Fa #[x,v0,v1]) W)
    (hcb:∀ (x:Value) (W:World),(callFunc Fb #[x,u0,u1]).run Tryz.prog W=.ok (.enter Fb #[x,u0,u1]) W)
    (hA:∀ (W:World) (i:Nat),Below w.heap.size w W->i<n->Calls Tryz.prog Fa #[.int .i64 i,v0,v1] W λe W'=>e=.returned (.int .i64 (a i))/\Below W.heap.size W W')
    (hB:∀ (W:World) (i:Nat),Below w.heap.size w W->i<n->Calls Tryz.prog Fb #[.int .i64 i,u0,u1] W λe W'=>e=.returned (.int .i64 (b i))/\Below W.heap.size W W') :
    Calls Tryz.prog 94 #[.slice A n c,.func (.func Fa) #[] #[v0,v1],.func (.func Fb) #[] #[u0,u1]] w (Zd0 w ((Zbp ws a b n:Int):Rat)):=by
 have hmx:Tryz.prog.follows .mixedOrders=true:=by kernel_rfl
 have f8:=h.1;have g0:=h.2.1;have f0:=h.2.2.1;unfold maxLen at f0;have e5:=Za h.2.2.2.1;have hg:=Za h.2.2.2.2;replace hA:=Za hA;replace hB:=Za hB;have d7:=Za ha;have e6:=Za hb;clear h ha hb;obtain⟨W0,d8,e8,⟨q0,q1⟩,s0⟩:=Zfa w 41 #[.bool false,.slice none 0 0,.bool false,.slice none 0 0] 39 #[.bool false,.slice none 0 0];obtain⟨gr,a5⟩:∃ g,w.heap.size=g:=⟨_,rfl⟩;rw[a5]at q0 q1;obtain⟨gs,a6⟩:∃ g,gr+1=g:=⟨_,rfl⟩;rw[a6]at q1;have f4:w.heap.size<=gr:=by omega
 have d9:w.heap.size<=gs:=by omega
 have e4:gr≠gs:=by omega
 have e2:Wd W0 false none 0 0 0:=Wd.zero _;go_enter Tryz.func94,Tryz.ntmps94;go_wp2_with fail;(try rw[d8]);(try rw[a5]);(try rw[a6]);replace a5:=Za a5;replace a6:=Za a6;clear d8 s0
 go_loopw [14] (λiv wr=>∃ (i:Nat) (sn:Bool) (sA:Option Addr) (sk sc:Nat),i<=n/\iv=.int .i64 i/\Wd wr sn sA sk sc (Zbp ws a b i)/\Blk wr gs 39 #[.bool sn,.slice sA sk sc]/\Blk wr gr 41 #[.bool false,.slice none 0 0,.bool false,.slice none 0 0]/\Below w.heap.size w wr) (λiv _=>n-(intOf iv).toNat)
 case atStart=>exact⟨0,false,none,0,0,QP _,rfl,e2,q1,q0,e8⟩
 case round =>
  clear q0 q1 e8 e2;obtain⟨i,sn,sA,sk,sc,f9,rfl,hs,qs,qr,O⟩:=hrel;obtain⟨s0,s1,s2,s3⟩:=qs.two;replace hs:=Za hs;replace qs:=Za qs;replace qr:=Za qr;by_cases hin:i<n
  case neg =>
   obtain rfl:n=i:=by omega
   have e9:decide ((n:Int)<(n:Int))=false:=by simp
   generalize Zbp ws a b n=D at *;go_wp2_with fail;have T:Hid (∀ wx,Below wr.heap.size wr wx->wx.cell? ⟨gs,0,none⟩=some (.bool sn)/\wx.cell? ⟨gs,1,none⟩=some (.slice sA sk sc)):=Za (λwx f=>⟨Zb f s0,Zb f s1⟩);have J:Below wr.heap.size wr wr.drew:=Zf (Qe _ _) 1;refine wp_heldS [] hmx T J (λhxs2=>?_);refine Zje 1 [0] rfl (by kernel_rfl) (T.out _ J) ?_
   (refine tk1 (v:=?_) rfl (Qm ⟨by kernel_rfl,?_⟩) ?_;rotate_left;(· intro W2 hSw;(try dsimp only at hSw);go_simp;try with_reducible rfl);try simp only[Qf,Zgy,Zge,Zgs,putG_a,putG_s,putG_z])
   refine tk0 ?_;refine Za1 [(1,39),(2,40),(3,37),(4,41),(6,10)] (λi=>match i with|3=>[5]|_=>[]) [(1,39),(2,40),(3,37),(5,42),(4,41),(6,10)] (Zee wr.heap.size (D:Rat)) 2 (by kernel_rfl) (λ_ _ _ _ _ hb h=>Zmp hb h) (λwx h=>T.out _ (J.trans (h.mono J.size))) ?hop2 ?hfin2
   case hop2 =>
    intro p hp;simp only[QE,Qv,or_false]at hp;simp only[Qi,Qk,Zam,Qf,Zgy,Zge,Zgs];rcases hp with rfl|rfl|rfl|rfl|rfl
    ·intro ν wx hb hP
     refine Zn (i:=1) rfl (λK hK=>?_);go_simp;refine(Zbq 1 wx (by decide) (by decide)).mono ?_;rintro e w5 ⟨I,Y,A5,k5,c5,rfl,y⟩;exact hK.out _ _ ⟨_,rfl,(by simp only[Zee,Zu];exact⟨_,_,_,_,rfl,y⟩),I,trivial⟩
    ·intro ν wx hb hP
     have f:=J.trans (hb.mono J.size);have h3:=end1 (hP (1,39) (by simp) (by kernel_rfl));obtain⟨a4,A3,k3,c3,hν3,U⟩:=h3;rw[hν3];obtain rfl:a4=false:=U.1;refine Zn (i:=2) rfl (λK hK=>?_);go_simp;refine(Zf9 sn sA A3 sk sc k3 c3 D 1 wx (hs.out.below f) U (by decide)).mono ?_;rintro e w5 ⟨I,Y,A5,k5,c5,e0,B5,m5,d5,rfl,y⟩;rw[Zjw]at y;exact hK.out _ _ ⟨_,rfl,(by simp only[Zee,Zu];exact⟨_,_,_,_,_,_,_,_,rfl,y⟩),I,trivial⟩
    ·intro ν wx hb hP
     have h0:=hP (2,40) (by simp) (by kernel_rfl);simp only[Zee,Zu]at h0;obtain⟨Y,A5,k5,c5,e0,B5,m5,d5,hν,y⟩:=h0;rw[hν];refine Zn (i:=3) rfl (λK hK=>?_);go_simp;refine hK.out _ _ ⟨_,rfl,(by simp only[Zee,Zu];exact⟨_,_,_,_,_,_,_,_,rfl,y⟩),Qe _ _,?_⟩;exact⟨_,.int .i64 0,rfl,Qm ⟨by kernel_rfl,λW2 _=>by go_simp⟩,by simp[Zee,Zu],trivial⟩
    ·intro ν wx hb hP
     have h0:=hP (3,37) (by simp) (by kernel_rfl);simp only[Zee,Zu]at h0;obtain⟨Y,A5,k5,c5,e0,B5,m5,d5,hν,y⟩:=h0;rw[hν];refine Zn (i:=4) rfl (λK hK=>?_);go_simp;exact hK.out _ _ ⟨_,rfl,(by simp only[Zee,Zu];exact⟨_,_,_,_,_,_,_,_,rfl,y⟩),Qe _ _,trivial⟩
    ·intro ν wx hb hP
     refine Zn (i:=6) rfl (λK hK=>?_);go_simp;exact hK.out _ _ ⟨_,rfl,(by simp only[Zee,Zu];exact⟨_,rfl,(J.trans (hb.mono J.size)).size,QF _ _ _⟩),(Qe _ _).alloc (Qc _) _,trivial⟩
   case hfin2 =>
    intro ν wx hb hP;have h0:=end1 (hP (1,39) (by simp));have h1:=hP (2,40) (by simp);have h2:=hP (3,37) (by simp);have h3:=hP (5,42) (by simp);have h4:=hP (4,41) (by simp);have h5:=hP (6,10) (by simp);simp only[Zee,Zu]at h1 h2 h4 h5;obtain⟨_,_,_,_,h0,-⟩:=h0;obtain⟨_,_,_,_,_,_,_,_,h1,-⟩:=h1;obtain⟨_,_,_,_,_,_,_,_,h2,-⟩:=h2;obtain⟨fn,fA,fk,fc,fm,fB,fj,fd,h4,e3⟩:=h4;obtain⟨gv,h5,kv,qv⟩:=h5;simp only[Qi,Qk,Zam,Qf,Zgy,Zge,Zgs];rw[h0,h1,h2,(show ν 42=Value.int .i64 0 by simpa [Zee,Zu]using h3),h4,h5];clear h0 h1 h2 h3 h4 h5 hP ν;have f:=J.trans (hb.mono J.size);have b2:=Zd f qr.out;have e7:gr≠gv:=by have:=qr.out.lt;omega
    obtain⟨V,hV,f5,q6,kV⟩:=Zaa (B:=gv) fn fA fk fc fm fB fj fd (Qe gv wx) (Qc _) qv
    have a9:Below w.heap.size w V:=by
     rw[<- hV];have c0:w.heap.size<=gv:=Qt O.size kv;exact((((O.trans (f.mono O.size)).setCell (p:=⟨gv,0,none⟩) c0 _).setCell (p:=⟨gv,1,none⟩) c0 _).setCell (p:=⟨gv,2,none⟩) c0 _).setCell (p:=⟨gv,3,none⟩) c0 _
    have c2:Hid (Below wr.heap.size wr V):=Za (by rw[<- hV];exact(((f.setCell (p:=⟨gv,0,none⟩) kv _).setCell (p:=⟨gv,1,none⟩) kv _).setCell (p:=⟨gv,2,none⟩) kv _).setCell (p:=⟨gv,3,none⟩) kv _);have c6:=Za (Fr.keep e3 kV.1);have a3:=kV.2.1 gr _ _ e7 b2;obtain⟨y0,y1,y2,y3,y4,y5,y6,y7⟩:=qv.four;replace q6:=Za q6;replace a3:=Za a3;replace a9:=Za a9;clear e3 kV b2 f5 qv;refine Ze (i:=7) rfl (by kernel_rfl) (λK hK=>?_);go_simp;(try rw[hV]);refine hK.out _ _ (λ_=>T.out _ (c2.out)) ?_;clear hK K
    try simp only[Qf,Zgy,Zge,Zgs]
    refine Zgf 1 [8] rfl (by kernel_rfl) (T.out _ c2.out) ?_
    (refine tk1 (v:=?_) rfl (Qm ⟨by kernel_rfl,?_⟩) ?_;rotate_left;(· intro W2 _;go_simp;try with_reducible rfl);try simp only[Qf,Zgy,Zge,Zgs,putG_a,putG_s,putG_z])
    refine tk0 ?_;refine Zj (by kernel_rfl) ?_ _;refine Qq ?_;clear hV y0 y1 y2 y3 y4 y5 y6 y7 f hb J T hxs2 s0 s1 c2;obtain⟨z0,z1,z2,z3,-⟩:=q6.out.four;obtain⟨r0,r1,r2,r3,r4,r5,r6,r7⟩:=a3.out.four;go_wp2_with fail;obtain⟨X,hX,f3,q8,st⟩:=Zaa fn fA fk fc fm fB fj fd a9.out f4 a3.out;(try rw[hX]);obtain⟨x0,x1,x2,x3,-⟩:=q8.four;refine bodyPost_ret (v:=.agg #[.bool fn,.slice fA fk fc,.bool fm,.slice fB fj fd]) (by simp[results,Tryz.results94,go_sem,x0,x1,x2,x3]) rfl ?_;exact⟨f3,_,_,_,_,_,_,_,_,rfl,Fr.keep c6.out st.1⟩
  have e9:decide ((i:Int)<(n:Int))=true:=decide_eq_true (by omega);obtain⟨g,o,rfl,d0⟩:=hg.out (by omega);have ci:=(O.cell (Zo (d0 i hin))).trans (d0 i hin);clear d0;have hx:=Zh8 e5.out i;have ha:=d7.out i hin;have b3:=e6.out i hin;have a1:(Zbp ws a b i+(ws[i]?.getD 0)*(a i*b i)).natAbs<pw 4096:=Zou (i:=i+1) e5.out (by omega) (λj hj=>⟨d7.out j (by omega),e6.out j (by omega)⟩);have C:Zbp ws a b (i+1)=Zbp ws a b i+(ws[i]?.getD 0)*(a i*b i):=rfl;rw[<- C]at a1;replace C:=Za C;obtain⟨x,d3⟩:∃ x,ws[i]?.getD 0=x:=⟨_,rfl⟩;obtain⟨a0,a7⟩:∃ x,a i=x:=⟨_,rfl⟩;obtain⟨b0,b1⟩:∃ x,b i=x:=⟨_,rfl⟩;obtain⟨s,d6⟩:∃ x,Zbp ws a b i=x:=⟨_,rfl⟩;replace C:=C.out;rw[d3,a7,b1,d6]at C;rw[C]at a1;rw[d3]at hx ci;rw[a7]at ha;rw[b1]at b3;rw[d6]at hs;replace a1:=Za a1;replace C:=Za C;replace a7:=Za a7;replace b1:=Za b1;clear d3 d6;go_wp2_with fail;have a2:Hid (∀ wx,Below wr.heap.size wr wx->wx.cell? ⟨g,o+i,none⟩=some (.int .i64 x)/\wx.cell? ⟨gs,0,none⟩=some (.bool sn)/\wx.cell? ⟨gs,1,none⟩=some (.slice sA sk sc)):=Za (λwx f=>⟨Zb f ci,Zb f s0,Zb f s1⟩);have u:Below wr.heap.size wr wr.drew:=Zf (Qe _ _) 1;refine wp_heldS [17] hmx a2 u (λhxs1=>?_);refine Zje 1 [0] rfl (by kernel_rfl) (a2.out _ u) ?_
  (refine tk1 (v:=?_) rfl (Qm ⟨by kernel_rfl,?_⟩) ?_;rotate_left;(· intro W2 hSw;(try dsimp only at hSw);go_simp;try with_reducible rfl);try simp only[Qf,Zgy,Zge,Zgs,putG_a,putG_s,putG_z])
  refine tk0 ?_;refine Zgf 5 [1,3,4,7,8] rfl (by kernel_rfl) (a2.out _ u) ?_
  iterate 5 (refine tk1 (v:=?_) rfl (Qm ⟨by kernel_rfl,?_⟩) ?_;rotate_left;(· intro W2 _;go_simp;try with_reducible rfl);try simp only[Qf,Zgy,Zge,Zgs,putG_a,putG_s,putG_z])
  refine tk0 ?_;refine Za1 [(2,22),(5,25),(6,26),(9,29),(10,30),(11,31),(12,32),(13,33),(14,19)] (λi=>match i with|14=>[15,16]|_=>[]) [(2,22),(5,25),(6,26),(9,29),(10,30),(11,31),(12,32),(13,33),(14,19),(15,34),(16,35)] (Zdb x a0 b0 s) 1 (by kernel_rfl) (λ_ _ _ _ _ hb h=>Zli hb h) (λwx h=>a2.out _ (u.trans (h.mono u.size))) ?hop1 ?hfin1
  case hop1 =>
   intro p hp;simp only[QE,Qv,or_false]at hp;simp only[Qi,Qk,Zam,Qf,Zgy,Zge,Zgs];rcases hp with rfl|rfl|rfl|rfl|rfl|rfl|rfl|rfl|rfl
   ·intro ν wx hb hP
    have f:=u.trans (hb.mono u.size);refine Zn (i:=2) rfl (λK hK=>?_);go_simp;refine(Zbq x wx hx.1 hx.2).mono ?_;rintro e w5 ⟨I,Y,A5,k5,c5,rfl,y⟩;exact hK.out _ _ ⟨_,rfl,(by simp only[Zdb];exact⟨_,_,_,_,rfl,y⟩),I,trivial⟩
   ·intro ν wx hb hP
    have f:=u.trans (hb.mono u.size);refine Zn (i:=5) rfl (λK hK=>?_);go_simp;refine(hA.out wx i (O.trans (f.mono O.size)) hin).mono ?_;rintro e w5 ⟨rfl,I⟩;exact hK.out _ _ ⟨_,rfl,(show Value.int .i64 _=Value.int .i64 _ from by rw[a7.out]),I,trivial⟩
   ·intro ν wx hb hP
    have f:=u.trans (hb.mono u.size);have h3:=hP (5,25) (by simp) (by kernel_rfl);replace h3:=dot5 h3;rw[h3];refine Zn (i:=6) rfl (λK hK=>?_);go_simp;refine(Zbq a0 wx ha.1 ha.2).mono ?_;rintro e w5 ⟨I,Y,A5,k5,c5,rfl,y⟩;exact hK.out _ _ ⟨_,rfl,(by simp only[Zdb];exact⟨_,_,_,_,rfl,y⟩),I,trivial⟩
   ·intro ν wx hb hP
    have f:=u.trans (hb.mono u.size);refine Zn (i:=9) rfl (λK hK=>?_);go_simp;refine(hB.out wx i (O.trans (f.mono O.size)) hin).mono ?_;rintro e w5 ⟨rfl,I⟩;exact hK.out _ _ ⟨_,rfl,(show Value.int .i64 _=Value.int .i64 _ from by rw[b1.out]),I,trivial⟩
   ·intro ν wx hb hP
    have f:=u.trans (hb.mono u.size);have h3:=hP (9,29) (by simp) (by kernel_rfl);replace h3:=dot9 h3;rw[h3];refine Zn (i:=10) rfl (λK hK=>?_);go_simp;refine(Zbq b0 wx b3.1 b3.2).mono ?_;rintro e w5 ⟨I,Y,A5,k5,c5,rfl,y⟩;exact hK.out _ _ ⟨_,rfl,(by simp only[Zdb];exact⟨_,_,_,_,rfl,y⟩),I,trivial⟩
   ·intro ν wx hb hP
    have f:=u.trans (hb.mono u.size);have h3:=hP (6,26) (by simp) (by kernel_rfl);replace h3:=dot6 h3;obtain⟨a4,A3,k3,c3,hν3,U⟩:=h3;rw[hν3];have h4:=hP (10,30) (by simp) (by kernel_rfl);replace h4:=Zuj h4;obtain⟨a8,A4,k4,c4,hν4,b4⟩:=h4;rw[hν4];refine Zn (i:=11) rfl (λK hK=>?_);go_simp;refine(Zfo a4 a8 A3 A4 k3 c3 k4 c4 _ _ wx U b4 (Zsg ha b3)).mono ?_;rintro e w5 ⟨I,Y,A5,k5,c5,rfl,y⟩;exact hK.out _ _ ⟨_,rfl,(by simp only[Zdb];exact⟨_,_,_,_,rfl,y⟩),I,trivial⟩
   ·intro ν wx hb hP
    have f:=u.trans (hb.mono u.size);have h3:=hP (2,22) (by simp) (by kernel_rfl);replace h3:=dot2 h3;obtain⟨a4,A3,k3,c3,hν3,U⟩:=h3;rw[hν3];have h4:=hP (11,31) (by simp) (by kernel_rfl);replace h4:=Zt6 h4;obtain⟨a8,A4,k4,c4,hν4,b4⟩:=h4;rw[hν4];refine Zn (i:=12) rfl (λK hK=>?_);go_simp;refine(Zfo a4 a8 A3 A4 k3 c3 k4 c4 _ _ wx U b4 (Zm3 hx ha b3)).mono ?_;rintro e w5 ⟨I,Y,A5,k5,c5,rfl,y⟩;exact hK.out _ _ ⟨_,rfl,(by simp only[Zdb];exact⟨_,_,_,_,rfl,y⟩),I,trivial⟩
   ·intro ν wx hb hP
    have f:=u.trans (hb.mono u.size);have h4:=hP (12,32) (by simp) (by kernel_rfl);replace h4:=Zt3 h4;obtain⟨a8,A4,k4,c4,hν4,b4⟩:=h4;rw[hν4];refine Zn (i:=13) rfl (λK hK=>?_);go_simp;refine(Zye sn a8 sA A4 sk sc k4 c4 _ _ wx (hs.out.below f) b4).mono ?_;rintro e w5 ⟨I,Y,A5,k5,c5,code,rfl,hR⟩;rcases hR with ⟨_,rfl,y⟩|⟨f7,_⟩;exact hK.out _ _ ⟨_,rfl,(by simp only[Zdb];exact⟨_,_,_,_,rfl,y⟩),I,trivial⟩;exact absurd f7 (Nat.not_le.2 a1.out)
   ·intro ν wx hb hP
    have f:=u.trans (hb.mono u.size);have h3:=hP (13,33) (by simp) (by kernel_rfl);replace h3:=Zt9 h3;obtain⟨a4,A3,k3,c3,hν3,U⟩:=h3;rw[hν3];refine Zn (i:=14) rfl (λK hK=>?_);go_simp;refine hK.out _ _ ⟨_,rfl,(by simp only[Zdb];exact⟨_,_,_,_,rfl,U⟩),Qe _ _,?_⟩;refine⟨_,.agg #[.bool a4,.slice A3 k3 c3],rfl,Qm ⟨by kernel_rfl,λW2 _=>by go_simp⟩,(by simp only[Zdb];exact⟨_,_,_,_,rfl,U⟩),?_⟩;exact⟨_,.int .i64 0,rfl,Qm ⟨by kernel_rfl,λW2 _=>by go_simp⟩,rfl,trivial⟩
  case hfin1 =>
   intro ν wx hb hP;have h2:=dot2 (hP (2,22) (by simp));have h5:=dot5 (hP (5,25) (by simp));have h6:=dot6 (hP (6,26) (by simp));have h9:=dot9 (hP (9,29) (by simp));have b8:=Zuj (hP (10,30) (by simp));have b6:=Zt6 (hP (11,31) (by simp));have b7:=Zt3 (hP (12,32) (by simp));have b5:=Zt9 (hP (13,33) (by simp));have b9:=dot14 (hP (14,19) (by simp));have c1:=dot15 (hP (15,34) (by simp));have e1:=dot16 (hP (16,35) (by simp));obtain⟨_,_,_,_,h2,-⟩:=h2;obtain⟨_,_,_,_,h6,-⟩:=h6;obtain⟨_,_,_,_,b8,-⟩:=b8;obtain⟨_,_,_,_,b6,-⟩:=b6;obtain⟨_,_,_,_,b7,-⟩:=b7;obtain⟨_,_,_,_,b5,-⟩:=b5;obtain⟨_,_,_,_,b9,-⟩:=b9;obtain⟨n5,A5,k5,c5,c1,y⟩:=c1;simp only[Qi,Qk,Zam,Qf,Zgy,Zge,Zgs];rw[h2,h5,h6,h9,b8,b6,b7,b5,b9,c1,e1];clear h2 h5 h6 h9 b8 b6 b7 b5 b9 c1 e1 hP ν;have f:=u.trans (hb.mono u.size);have c9:=Zd f qs.out;have b2:=Zd f qr.out;obtain⟨W6,c8,f6,q6,c7⟩:=Zbe (B:=gs) n5 A5 k5 c5 (Qe gs wx) (Qc _) c9
   have d4:Below w.heap.size w W6:=by
    rw[<- c8];exact((O.trans (f.mono O.size)).setCell (p:=⟨gs,0,none⟩) d9 _).setCell (p:=⟨gs,1,none⟩) d9 _
   have c6:=Za (c7.1 _ _ _ _ _ y);have a3:=c7.2.1 gr _ _ e4 b2;obtain⟨y0,y1,y2,y3⟩:=c9.two;replace q6:=Za q6;replace a3:=Za a3;replace d4:=Za d4;clear y c7 c9 b2 f6;refine Zm (i:=17) rfl (by kernel_rfl) (by kernel_rfl) (λK hK=>?_);go_simp;(try rw[c8]);refine hK.out _ _ ?_;clear hK K
   try simp only[Qf,Zgy,Zge,Zgs]
   refine Zj (by kernel_rfl) ?_ _;refine Qq ?_;clear c8 y0 y1 y2 y3 f hb u a2 hxs1 ci s0 s1;go_wp2_with fail
   go_roundw
   case rel=>exact⟨i+1,n5,A5,k5,c5,by omega,by go_num,c6.out.same C.out.symm,q6.out,a3.out,d4.out⟩
   case measure=>simp[intOf];omega
theorem Zxm(Fa Fb:FuncId)(v0 v1 u0:Value)(A:Option Addr)(n c:Nat)(ws:List Int)(a b:Nat->Int)(w:World)(h:LimI w A n c ws)(hn:n<=900)
    (ha:∀ i,i<n->I64 (a i)) (hb:∀ i,i<n->I64 (b i))
    (hca:∀ (x:Value) (W:World),(callFunc Fa #[x,v0,v1]).run Tryz.prog W=.ok (.enter Fa #[x,v0,v1]) W)
    (hcb:∀ (x:Value) (W:World),(callFunc Fb #[x,u0]).run Tryz.prog W=.ok (.enter Fb #[x,u0]) W)
    (hA:∀ (W:World) (i:Nat),Below w.heap.size w W->i<n->Calls Tryz.prog Fa #[.int .i64 i,v0,v1] W λe W'=>e=.returned (.int .i64 (a i))/\Below W.heap.size W W')
    (hB:∀ (W:World) (i:Nat),Below w.heap.size w W->i<n->Calls Tryz.prog Fb #[.int .i64 i,u0] W λe W'=>e=.returned (.int .i64 (b i))/\Below W.heap.size W W') :
    Calls Tryz.prog 94 #[.slice A n c,.func (.func Fa) #[] #[v0,v1],.func (.func Fb) #[] #[u0]] w (Zd0 w ((Zbp ws a b n:Int):Rat)):=by
 have hmx:Tryz.prog.follows .mixedOrders=true:=by kernel_rfl
 have f8:=h.1;have g0:=h.2.1;have f0:=h.2.2.1;unfold maxLen at f0;have e5:=Za h.2.2.2.1;have hg:=Za h.2.2.2.2;replace hA:=Za hA;replace hB:=Za hB;have d7:=Za ha;have e6:=Za hb;clear h ha hb;obtain⟨W0,d8,e8,⟨q0,q1⟩,s0⟩:=Zfa w 41 #[.bool false,.slice none 0 0,.bool false,.slice none 0 0] 39 #[.bool false,.slice none 0 0];obtain⟨gr,a5⟩:∃ g,w.heap.size=g:=⟨_,rfl⟩;rw[a5]at q0 q1;obtain⟨gs,a6⟩:∃ g,gr+1=g:=⟨_,rfl⟩;rw[a6]at q1;have f4:w.heap.size<=gr:=by omega
 have d9:w.heap.size<=gs:=by omega
 have e4:gr≠gs:=by omega
 have e2:Wd W0 false none 0 0 0:=Wd.zero _;go_enter Tryz.func94,Tryz.ntmps94;go_wp2_with fail;(try rw[d8]);(try rw[a5]);(try rw[a6]);replace a5:=Za a5;replace a6:=Za a6;clear d8 s0
 go_loopw [14] (λiv wr=>∃ (i:Nat) (sn:Bool) (sA:Option Addr) (sk sc:Nat),i<=n/\iv=.int .i64 i/\Wd wr sn sA sk sc (Zbp ws a b i)/\Blk wr gs 39 #[.bool sn,.slice sA sk sc]/\Blk wr gr 41 #[.bool false,.slice none 0 0,.bool false,.slice none 0 0]/\Below w.heap.size w wr) (λiv _=>n-(intOf iv).toNat)
 case atStart=>exact⟨0,false,none,0,0,QP _,rfl,e2,q1,q0,e8⟩
 case round =>
  clear q0 q1 e8 e2;obtain⟨i,sn,sA,sk,sc,f9,rfl,hs,qs,qr,O⟩:=hrel;obtain⟨s0,s1,s2,s3⟩:=qs.two;replace hs:=Za hs;replace qs:=Za qs;replace qr:=Za qr;by_cases hin:i<n
  case neg =>
   obtain rfl:n=i:=by omega
   have e9:decide ((n:Int)<(n:Int))=false:=by simp
   generalize Zbp ws a b n=D at *;go_wp2_with fail;have T:Hid (∀ wx,Below wr.heap.size wr wx->wx.cell? ⟨gs,0,none⟩=some (.bool sn)/\wx.cell? ⟨gs,1,none⟩=some (.slice sA sk sc)):=Za (λwx f=>⟨Zb f s0,Zb f s1⟩);have J:Below wr.heap.size wr wr.drew:=Zf (Qe _ _) 1;refine wp_heldS [] hmx T J (λhxs2=>?_);refine Zje 1 [0] rfl (by kernel_rfl) (T.out _ J) ?_
   (refine tk1 (v:=?_) rfl (Qm ⟨by kernel_rfl,?_⟩) ?_;rotate_left;(· intro W2 hSw;(try dsimp only at hSw);go_simp;try with_reducible rfl);try simp only[Qf,Zgy,Zge,Zgs,putG_a,putG_s,putG_z])
   refine tk0 ?_;refine Za1 [(1,39),(2,40),(3,37),(4,41),(6,10)] (λi=>match i with|3=>[5]|_=>[]) [(1,39),(2,40),(3,37),(5,42),(4,41),(6,10)] (Zee wr.heap.size (D:Rat)) 2 (by kernel_rfl) (λ_ _ _ _ _ hb h=>Zmp hb h) (λwx h=>T.out _ (J.trans (h.mono J.size))) ?hop2 ?hfin2
   case hop2 =>
    intro p hp;simp only[QE,Qv,or_false]at hp;simp only[Qi,Qk,Zam,Qf,Zgy,Zge,Zgs];rcases hp with rfl|rfl|rfl|rfl|rfl
    ·intro ν wx hb hP
     refine Zn (i:=1) rfl (λK hK=>?_);go_simp;refine(Zbq 1 wx (by decide) (by decide)).mono ?_;rintro e w5 ⟨I,Y,A5,k5,c5,rfl,y⟩;exact hK.out _ _ ⟨_,rfl,(by simp only[Zee,Zu];exact⟨_,_,_,_,rfl,y⟩),I,trivial⟩
    ·intro ν wx hb hP
     have f:=J.trans (hb.mono J.size);have h3:=end1 (hP (1,39) (by simp) (by kernel_rfl));obtain⟨a4,A3,k3,c3,hν3,U⟩:=h3;rw[hν3];obtain rfl:a4=false:=U.1;refine Zn (i:=2) rfl (λK hK=>?_);go_simp;refine(Zf9 sn sA A3 sk sc k3 c3 D 1 wx (hs.out.below f) U (by decide)).mono ?_;rintro e w5 ⟨I,Y,A5,k5,c5,e0,B5,m5,d5,rfl,y⟩;rw[Zjw]at y;exact hK.out _ _ ⟨_,rfl,(by simp only[Zee,Zu];exact⟨_,_,_,_,_,_,_,_,rfl,y⟩),I,trivial⟩
    ·intro ν wx hb hP
     have h0:=hP (2,40) (by simp) (by kernel_rfl);simp only[Zee,Zu]at h0;obtain⟨Y,A5,k5,c5,e0,B5,m5,d5,hν,y⟩:=h0;rw[hν];refine Zn (i:=3) rfl (λK hK=>?_);go_simp;refine hK.out _ _ ⟨_,rfl,(by simp only[Zee,Zu];exact⟨_,_,_,_,_,_,_,_,rfl,y⟩),Qe _ _,?_⟩;exact⟨_,.int .i64 0,rfl,Qm ⟨by kernel_rfl,λW2 _=>by go_simp⟩,by simp[Zee,Zu],trivial⟩
    ·intro ν wx hb hP
     have h0:=hP (3,37) (by simp) (by kernel_rfl);simp only[Zee,Zu]at h0;obtain⟨Y,A5,k5,c5,e0,B5,m5,d5,hν,y⟩:=h0;rw[hν];refine Zn (i:=4) rfl (λK hK=>?_);go_simp;exact hK.out _ _ ⟨_,rfl,(by simp only[Zee,Zu];exact⟨_,_,_,_,_,_,_,_,rfl,y⟩),Qe _ _,trivial⟩
    ·intro ν wx hb hP
     refine Zn (i:=6) rfl (λK hK=>?_);go_simp;exact hK.out _ _ ⟨_,rfl,(by simp only[Zee,Zu];exact⟨_,rfl,(J.trans (hb.mono J.size)).size,QF _ _ _⟩),(Qe _ _).alloc (Qc _) _,trivial⟩
   case hfin2 =>
    intro ν wx hb hP;have h0:=end1 (hP (1,39) (by simp));have h1:=hP (2,40) (by simp);have h2:=hP (3,37) (by simp);have h3:=hP (5,42) (by simp);have h4:=hP (4,41) (by simp);have h5:=hP (6,10) (by simp);simp only[Zee,Zu]at h1 h2 h4 h5;obtain⟨_,_,_,_,h0,-⟩:=h0;obtain⟨_,_,_,_,_,_,_,_,h1,-⟩:=h1;obtain⟨_,_,_,_,_,_,_,_,h2,-⟩:=h2;obtain⟨fn,fA,fk,fc,fm,fB,fj,fd,h4,e3⟩:=h4;obtain⟨gv,h5,kv,qv⟩:=h5;simp only[Qi,Qk,Zam,Qf,Zgy,Zge,Zgs];rw[h0,h1,h2,(show ν 42=Value.int .i64 0 by simpa [Zee,Zu]using h3),h4,h5];clear h0 h1 h2 h3 h4 h5 hP ν;have f:=J.trans (hb.mono J.size);have b2:=Zd f qr.out;have e7:gr≠gv:=by have:=qr.out.lt;omega
    obtain⟨V,hV,f5,q6,kV⟩:=Zaa (B:=gv) fn fA fk fc fm fB fj fd (Qe gv wx) (Qc _) qv
    have a9:Below w.heap.size w V:=by
     rw[<- hV];have c0:w.heap.size<=gv:=Qt O.size kv;exact((((O.trans (f.mono O.size)).setCell (p:=⟨gv,0,none⟩) c0 _).setCell (p:=⟨gv,1,none⟩) c0 _).setCell (p:=⟨gv,2,none⟩) c0 _).setCell (p:=⟨gv,3,none⟩) c0 _
    have c2:Hid (Below wr.heap.size wr V):=Za (by rw[<- hV];exact(((f.setCell (p:=⟨gv,0,none⟩) kv _).setCell (p:=⟨gv,1,none⟩) kv _).setCell (p:=⟨gv,2,none⟩) kv _).setCell (p:=⟨gv,3,none⟩) kv _);have c6:=Za (Fr.keep e3 kV.1);have a3:=kV.2.1 gr _ _ e7 b2;obtain⟨y0,y1,y2,y3,y4,y5,y6,y7⟩:=qv.four;replace q6:=Za q6;replace a3:=Za a3;replace a9:=Za a9;clear e3 kV b2 f5 qv;refine Ze (i:=7) rfl (by kernel_rfl) (λK hK=>?_);go_simp;(try rw[hV]);refine hK.out _ _ (λ_=>T.out _ (c2.out)) ?_;clear hK K
    try simp only[Qf,Zgy,Zge,Zgs]
    refine Zgf 1 [8] rfl (by kernel_rfl) (T.out _ c2.out) ?_
    (refine tk1 (v:=?_) rfl (Qm ⟨by kernel_rfl,?_⟩) ?_;rotate_left;(· intro W2 _;go_simp;try with_reducible rfl);try simp only[Qf,Zgy,Zge,Zgs,putG_a,putG_s,putG_z])
    refine tk0 ?_;refine Zj (by kernel_rfl) ?_ _;refine Qq ?_;clear hV y0 y1 y2 y3 y4 y5 y6 y7 f hb J T hxs2 s0 s1 c2;obtain⟨z0,z1,z2,z3,-⟩:=q6.out.four;obtain⟨r0,r1,r2,r3,r4,r5,r6,r7⟩:=a3.out.four;go_wp2_with fail;obtain⟨X,hX,f3,q8,st⟩:=Zaa fn fA fk fc fm fB fj fd a9.out f4 a3.out;(try rw[hX]);obtain⟨x0,x1,x2,x3,-⟩:=q8.four;refine bodyPost_ret (v:=.agg #[.bool fn,.slice fA fk fc,.bool fm,.slice fB fj fd]) (by simp[results,Tryz.results94,go_sem,x0,x1,x2,x3]) rfl ?_;exact⟨f3,_,_,_,_,_,_,_,_,rfl,Fr.keep c6.out st.1⟩
  have e9:decide ((i:Int)<(n:Int))=true:=decide_eq_true (by omega);obtain⟨g,o,rfl,d0⟩:=hg.out (by omega);have ci:=(O.cell (Zo (d0 i hin))).trans (d0 i hin);clear d0;have hx:=Zh8 e5.out i;have ha:=d7.out i hin;have b3:=e6.out i hin;have a1:(Zbp ws a b i+(ws[i]?.getD 0)*(a i*b i)).natAbs<pw 4096:=Zou (i:=i+1) e5.out (by omega) (λj hj=>⟨d7.out j (by omega),e6.out j (by omega)⟩);have C:Zbp ws a b (i+1)=Zbp ws a b i+(ws[i]?.getD 0)*(a i*b i):=rfl;rw[<- C]at a1;replace C:=Za C;obtain⟨x,d3⟩:∃ x,ws[i]?.getD 0=x:=⟨_,rfl⟩;obtain⟨a0,a7⟩:∃ x,a i=x:=⟨_,rfl⟩;obtain⟨b0,b1⟩:∃ x,b i=x:=⟨_,rfl⟩;obtain⟨s,d6⟩:∃ x,Zbp ws a b i=x:=⟨_,rfl⟩;replace C:=C.out;rw[d3,a7,b1,d6]at C;rw[C]at a1;rw[d3]at hx ci;rw[a7]at ha;rw[b1]at b3;rw[d6]at hs;replace a1:=Za a1;replace C:=Za C;replace a7:=Za a7;replace b1:=Za b1;clear d3 d6;go_wp2_with fail;have a2:Hid (∀ wx,Below wr.heap.size wr wx->wx.cell? ⟨g,o+i,none⟩=some (.int .i64 x)/\wx.cell? ⟨gs,0,none⟩=some (.bool sn)/\wx.cell? ⟨gs,1,none⟩=some (.slice sA sk sc)):=Za (λwx f=>⟨Zb f ci,Zb f s0,Zb f s1⟩);have u:Below wr.heap.size wr wr.drew:=Zf (Qe _ _) 1;refine wp_heldS [17] hmx a2 u (λhxs1=>?_);refine Zje 1 [0] rfl (by kernel_rfl) (a2.out _ u) ?_
  (refine tk1 (v:=?_) rfl (Qm ⟨by kernel_rfl,?_⟩) ?_;rotate_left;(· intro W2 hSw;(try dsimp only at hSw);go_simp;try with_reducible rfl);try simp only[Qf,Zgy,Zge,Zgs,putG_a,putG_s,putG_z])
  refine tk0 ?_;refine Zgf 5 [1,3,4,7,8] rfl (by kernel_rfl) (a2.out _ u) ?_
  iterate 5 (refine tk1 (v:=?_) rfl (Qm ⟨by kernel_rfl,?_⟩) ?_;rotate_left;(· intro W2 _;go_simp;try with_reducible rfl);try simp only[Qf,Zgy,Zge,Zgs,putG_a,putG_s,putG_z])
  refine tk0 ?_;refine Za1 [(2,22),(5,25),(6,26),(9,29),(10,30),(11,31),(12,32),(13,33),(14,19)] (λi=>match i with|14=>[15,16]|_=>[]) [(2,22),(5,25),(6,26),(9,29),(10,30),(11,31),(12,32),(13,33),(14,19),(15,34),(16,35)] (Zdb x a0 b0 s) 1 (by kernel_rfl) (λ_ _ _ _ _ hb h=>Zli hb h) (λwx h=>a2.out _ (u.trans (h.mono u.size))) ?hop1 ?hfin1
  case hop1 =>
   intro p hp;simp only[QE,Qv,or_false]at hp;simp only[Qi,Qk,Zam,Qf,Zgy,Zge,Zgs];rcases hp with rfl|rfl|rfl|rfl|rfl|rfl|rfl|rfl|rfl
   ·intro ν wx hb hP
    have f:=u.trans (hb.mono u.size);refine Zn (i:=2) rfl (λK hK=>?_);go_simp;refine(Zbq x wx hx.1 hx.2).mono ?_;rintro e w5 ⟨I,Y,A5,k5,c5,rfl,y⟩;exact hK.out _ _ ⟨_,rfl,(by simp only[Zdb];exact⟨_,_,_,_,rfl,y⟩),I,trivial⟩
   ·intro ν wx hb hP
    have f:=u.trans (hb.mono u.size);refine Zn (i:=5) rfl (λK hK=>?_);go_simp;refine(hA.out wx i (O.trans (f.mono O.size)) hin).mono ?_;rintro e w5 ⟨rfl,I⟩;exact hK.out _ _ ⟨_,rfl,(show Value.int .i64 _=Value.int .i64 _ from by rw[a7.out]),I,trivial⟩
   ·intro ν wx hb hP
    have f:=u.trans (hb.mono u.size);have h3:=hP (5,25) (by simp) (by kernel_rfl);replace h3:=dot5 h3;rw[h3];refine Zn (i:=6) rfl (λK hK=>?_);go_simp;refine(Zbq a0 wx ha.1 ha.2).mono ?_;rintro e w5 ⟨I,Y,A5,k5,c5,rfl,y⟩;exact hK.out _ _ ⟨_,rfl,(by simp only[Zdb];exact⟨_,_,_,_,rfl,y⟩),I,trivial⟩
   ·intro ν wx hb hP
    have f:=u.trans (hb.mono u.size);refine Zn (i:=9) rfl (λK hK=>?_);go_simp;refine(hB.out wx i (O.trans (f.mono O.size)) hin).mono ?_;rintro e w5 ⟨rfl,I⟩;exact hK.out _ _ ⟨_,rfl,(show Value.int .i64 _=Value.int .i64 _ from by rw[b1.out]),I,trivial⟩
   ·intro ν wx hb hP
    have f:=u.trans (hb.mono u.size);have h3:=hP (9,29) (by simp) (by kernel_rfl);replace h3:=dot9 h3;rw[h3];refine Zn (i:=10) rfl (λK hK=>?_);go_simp;refine(Zbq b0 wx b3.1 b3.2).mono ?_;rintro e w5 ⟨I,Y,A5,k5,c5,rfl,y⟩;exact hK.out _ _ ⟨_,rfl,(by simp only[Zdb];exact⟨_,_,_,_,rfl,y⟩),I,trivial⟩
   ·intro ν wx hb hP
    have f:=u.trans (hb.mono u.size);have h3:=hP (6,26) (by simp) (by kernel_rfl);replace h3:=dot6 h3;obtain⟨a4,A3,k3,c3,hν3,U⟩:=h3;rw[hν3];have h4:=hP (10,30) (by simp) (by kernel_rfl);replace h4:=Zuj h4;obtain⟨a8,A4,k4,c4,hν4,b4⟩:=h4;rw[hν4];refine Zn (i:=11) rfl (λK hK=>?_);go_simp;refine(Zfo a4 a8 A3 A4 k3 c3 k4 c4 _ _ wx U b4 (Zsg ha b3)).mono ?_;rintro e w5 ⟨I,Y,A5,k5,c5,rfl,y⟩;exact hK.out _ _ ⟨_,rfl,(by simp only[Zdb];exact⟨_,_,_,_,rfl,y⟩),I,trivial⟩
   ·intro ν wx hb hP
    have f:=u.trans (hb.mono u.size);have h3:=hP (2,22) (by simp) (by kernel_rfl);replace h3:=dot2 h3;obtain⟨a4,A3,k3,c3,hν3,U⟩:=h3;rw[hν3];have h4:=hP (11,31) (by simp) (by kernel_rfl);replace h4:=Zt6 h4;obtain⟨a8,A4,k4,c4,hν4,b4⟩:=h4;rw[hν4];refine Zn (i:=12) rfl (λK hK=>?_);go_simp;refine(Zfo a4 a8 A3 A4 k3 c3 k4 c4 _ _ wx U b4 (Zm3 hx ha b3)).mono ?_;rintro e w5 ⟨I,Y,A5,k5,c5,rfl,y⟩;exact hK.out _ _ ⟨_,rfl,(by simp only[Zdb];exact⟨_,_,_,_,rfl,y⟩),I,trivial⟩
   ·intro ν wx hb hP
    have f:=u.trans (hb.mono u.size);have h4:=hP (12,32) (by simp) (by kernel_rfl);replace h4:=Zt3 h4;obtain⟨a8,A4,k4,c4,hν4,b4⟩:=h4;rw[hν4];refine Zn (i:=13) rfl (λK hK=>?_);go_simp;refine(Zye sn a8 sA A4 sk sc k4 c4 _ _ wx (hs.out.below f) b4).mono ?_;rintro e w5 ⟨I,Y,A5,k5,c5,code,rfl,hR⟩;rcases hR with ⟨_,rfl,y⟩|⟨f7,_⟩;exact hK.out _ _ ⟨_,rfl,(by simp only[Zdb];exact⟨_,_,_,_,rfl,y⟩),I,trivial⟩;exact absurd f7 (Nat.not_le.2 a1.out)
   ·intro ν wx hb hP
    have f:=u.trans (hb.mono u.size);have h3:=hP (13,33) (by simp) (by kernel_rfl);replace h3:=Zt9 h3;obtain⟨a4,A3,k3,c3,hν3,U⟩:=h3;rw[hν3];refine Zn (i:=14) rfl (λK hK=>?_);go_simp;refine hK.out _ _ ⟨_,rfl,(by simp only[Zdb];exact⟨_,_,_,_,rfl,U⟩),Qe _ _,?_⟩;refine⟨_,.agg #[.bool a4,.slice A3 k3 c3],rfl,Qm ⟨by kernel_rfl,λW2 _=>by go_simp⟩,(by simp only[Zdb];exact⟨_,_,_,_,rfl,U⟩),?_⟩;exact⟨_,.int .i64 0,rfl,Qm ⟨by kernel_rfl,λW2 _=>by go_simp⟩,rfl,trivial⟩
  case hfin1 =>
   intro ν wx hb hP;have h2:=dot2 (hP (2,22) (by simp));have h5:=dot5 (hP (5,25) (by simp));have h6:=dot6 (hP (6,26) (by simp));have h9:=dot9 (hP (9,29) (by simp));have b8:=Zuj (hP (10,30) (by simp));have b6:=Zt6 (hP (11,31) (by simp));have b7:=Zt3 (hP (12,32) (by simp));have b5:=Zt9 (hP (13,33) (by simp));have b9:=dot14 (hP (14,19) (by simp));have c1:=dot15 (hP (15,34) (by simp));have e1:=dot16 (hP (16,35) (by simp));obtain⟨_,_,_,_,h2,-⟩:=h2;obtain⟨_,_,_,_,h6,-⟩:=h6;obtain⟨_,_,_,_,b8,-⟩:=b8;obtain⟨_,_,_,_,b6,-⟩:=b6;obtain⟨_,_,_,_,b7,-⟩:=b7;obtain⟨_,_,_,_,b5,-⟩:=b5;obtain⟨_,_,_,_,b9,-⟩:=b9;obtain⟨n5,A5,k5,c5,c1,y⟩:=c1;simp only[Qi,Qk,Zam,Qf,Zgy,Zge,Zgs];rw[h2,h5,h6,h9,b8,b6,b7,b5,b9,c1,e1];clear h2 h5 h6 h9 b8 b6 b7 b5 b9 c1 e1 hP ν;have f:=u.trans (hb.mono u.size);have c9:=Zd f qs.out;have b2:=Zd f qr.out;obtain⟨W6,c8,f6,q6,c7⟩:=Zbe (B:=gs) n5 A5 k5 c5 (Qe gs wx) (Qc _) c9
   have d4:Below w.heap.size w W6:=by
    rw[<- c8];exact((O.trans (f.mono O.size)).setCell (p:=⟨gs,0,none⟩) d9 _).setCell (p:=⟨gs,1,none⟩) d9 _
   have c6:=Za (c7.1 _ _ _ _ _ y);have a3:=c7.2.1 gr _ _ e4 b2;obtain⟨y0,y1,y2,y3⟩:=c9.two;replace q6:=Za q6;replace a3:=Za a3;replace d4:=Za d4;clear y c7 c9 b2 f6;refine Zm (i:=17) rfl (by kernel_rfl) (by kernel_rfl) (λK hK=>?_);go_simp;(try rw[c8]);refine hK.out _ _ ?_;clear hK K
   try simp only[Qf,Zgy,Zge,Zgs]
   refine Zj (by kernel_rfl) ?_ _;refine Qq ?_;clear c8 y0 y1 y2 y3 f hb u a2 hxs1 ci s0 s1;go_wp2_with fail
   go_roundw
   case rel=>exact⟨i+1,n5,A5,k5,c5,by omega,by go_num,c6.out.same C.out.symm,q6.out,a3.out,d4.out⟩
   case measure=>simp[intOf];omega
section
variable{tF:TypeId}{w w':World}{base:Nat}{part:List Rat}{cs:Array Value}
theorem OwnF.ownBlk{v:Value}(h:OwnF tF w base v part):∀ k,v.ownBlock=some k->∃ cs,Blk w k tF cs/\NoLimb cs/\base<=k:=λk hk=>by
 obtain⟨es,h1,h2,h3⟩:=h;rcases h1 with ⟨rfl,_⟩|⟨g',sp,rfl,h4,h5,h6⟩;cases hk
 ·have:g'=k:=by simpa [Value.ownBlock]using hk
  subst this;exact⟨_,h6,Zb0 _,h4⟩
theorem OwnF.keptG{v:Value}(h:OwnF tF w base v part){g':Nat}{t':TypeId}(hb:Blk w g' t' cs)(hn:NoLimb cs)(hne:v.ownBlock≠some g')(hk:Kept (λk=>k=g') w w'):OwnF tF w' base v part:=by
 have hG:∀ k,k=g'->∃ t cs,Blk w k t cs/\NoLimb cs:=λk hk=>⟨t',cs,hk▸hb,hn⟩;obtain⟨es,h1,h2,h3⟩:=h;refine⟨es,?_,λe he=>⟨hk.wd (h2 e he).1 hG,hk.wd (h2 e he).2 hG⟩,h3⟩;rcases h1 with h|⟨g2,sp,rfl,h4,h5,h6⟩;exact .inl h;exact .inr ⟨g2,sp,rfl,h4,h5,hk.blk h6 (λe=>hne (by rw[<- e];rfl))⟩
end
theorem RowS.mfl{tS:TypeId}{w:World}{base:Nat}{v:Value}{rs:List RS}{Q:List (List Rat)}(h:RowS tS w base v rs)(hl:rs.length=Q.length)(hF:∀ (i:Nat) (r:RS),rs[i]?=some r->FL w r.A r.n r.c (Q[i]?.getD [])):∃ A c,v=.slice A rs.length c/\MFL w A rs.length c Q:=by
 rcases h with ⟨rfl,rfl⟩|⟨g,sp,rfl,h2,h3,h4⟩;exact⟨none,0,rfl,hl.symm,Qc _,QP _,λh=>absurd h (by simp)⟩
 ·refine⟨_,_,rfl,hl.symm,by omega,h3,λ_=>⟨g,0,rfl,λk q hq=>?_⟩⟩
  have hk:k<rs.length:=by rw[hl];exact(List.getElem?_eq_some_iff.1 hq).1
  have he:=Qa hk;refine⟨rs[k].A,rs[k].n,rs[k].c,?_,?_⟩
  ·rw[QS,h4.cell]
   exact Zbv (e:=rs[k]) (by rw[Qo hk];exact he)
  ·have:=hF k _ he
   rw[hq]at this;exact this
theorem Fr.pos_iff{w:World}{na:Bool}{A:Option Addr}{n c:Nat}{nb:Bool}{B:Option Addr}{m d:Nat}{r:Rat}(h:Fr w na A n c nb B m d r):(na=false/\n≠0) ↔ 0<r:=by
 have h1:=h.1.1;have h2:=h.zero_iff;constructor
 ·rintro⟨h3,h4⟩
  rw[h3]at h1;have h5:¬ r.num<0:=by simpa using h1.symm
  have h6:r.num≠0:=λe=>h4 (h2.2 (Rat.num_eq_zero.1 e));have h7:0<=r.num:=by omega
  have h8:0<=r:=Rat.num_nonneg.1 h7;have h9:(0:Rat)≠r:=λe=>h6 (by rw[<- e];rfl);exact Rat.lt_of_le_of_ne h8 h9
 ·intro h3
  have h5:=Rat.num_nonneg.2 (Rat.le_of_lt h3);refine⟨by rw[h1];exact decide_eq_false (by omega),λe=>?_⟩;have:=h2.1 e;rw[this]at h3;exact absurd h3 (by decide)
section
variable{P:Program}(w:World)
theorem Zkh(base:Nat)(t ty e:TypeId)(i:TypeInfo)(ht:P.underlying t=some (.slice e))(hi:P.info? e=some i)(hz:i.zero=some (.agg #[.bool false,.slice none 0 0,.bool false,.slice none 0 0]))
    (hs:i.size=4) (hby:i.bytes=64) (v:Value) (es:List FE) (hown:RowF e w base v es)
    (B:Nat) (A:Option Addr) (m c:Nat) (fs:List FE) (hr:Reads w B 4 A m (Zp fs)) (hm:fs.length=m) (h63:es.length+m<=1000) (hbase:base<=w.heap.size) :
    ∃ v' w',(QU #[t,t] ty #[v,.slice A m c]).run P w=.ok v' w'/\RowF e w' base v' (es++fs)/\w.grownBy w' v.ownBlock/\(v'.ownBlock=v.ownBlock \/ ∀ k,v'.ownBlock=some k->w.heap.size<=k):=by
 rcases Nat.eq_zero_or_pos m with h0|h0
 ·subst h0
  obtain rfl:fs=[]:=List.eq_nil_of_length_eq_zero hm;rw[List.append_nil];rcases A with _|ad;exact⟨v,w,Zb6 w base t ty e i 4 ht hi v _ _ hown.own c,hown,World.grownBy.refl w _,.inl rfl⟩
  ·have hf:=run_firstCells_some (P:=P) w i.size 0 ad 0 c [] (by simp) (by simp)
   rcases hown with ⟨rfl,rfl⟩|⟨g,sp,rfl,h2,h3,h4⟩
   ·refine⟨.slice none 0 0,w,?_,.inl ⟨rfl,rfl⟩,World.grownBy.refl w _,.inl rfl⟩
    simp[QU,run_underlying ht,sizeOf,typeInfo,hi,Builtin.lenOf,Builtin.firstCells,loadCells,loadCellsFrom]
   ·refine⟨_,w,?_,.inr ⟨g,sp,rfl,h2,h3,h4⟩,World.grownBy.refl w _,.inl rfl⟩
    simp[QU,run_underlying ht,sizeOf,typeInfo,hi,Builtin.lenOf,Builtin.firstCells,loadCells,loadCellsFrom,storeCells]
 ·obtain⟨ad,rfl,_,hc⟩:=hr.2 h0
  have hl:(Zp fs).length=m*i.size:=by rw[Zq,hm,hs]
  have C:es.length*i.size=(Zp es).length:=by rw[Zq,hs]
  rcases hown with ⟨rfl,rfl⟩|⟨g,sp,rfl,h2,h3,h4⟩
  ·have f:=run_append_nil (P:=P) w t ty e i _ ht hi hz ad m c (Zp fs) hl hc h0 (by omega) (by rw[hby];omega)
   have h:=grownCap_ge w m 0 e;have o:=grownCap_le_maxLen w m 0 e (by unfold maxLen;simp only[List.length_nil]at h63;omega);refine⟨_,_,f,.inr ⟨w.heap.size,grownCap w m 0 e-m,?_,hbase,?_,?_⟩,⟨rfl,rfl,rfl,by simp,λk hk _=>Below.heap_alloc w.drew _ k hk⟩,.inr (λk hk=>by first|(simp[Value.ownBlock]at hk;omega)|(cases hk;exact Qc _))⟩;rw[QT,hm,QH h];rw[QT,hm,QH h];exact o
   ·have:=heap_alloc_new w.drew (.cells ((Zp fs).toArray++QK (Value.agg #[.bool false,.slice none 0 0,.bool false,.slice none 0 0]).cells (grownCap w m 0 e-m)) e)
    unfold Blk;refine this.trans ?_;congr 1
    have hx:(Zp fs).toArray++QK (Value.agg #[.bool false,.slice none 0 0,.bool false,.slice none 0 0]).cells (grownCap w m 0 e-m)=Zz ([]++fs++QB (grownCap w m 0 e-m) Zau):=by
     apply Array.toList_inj.1;rw[QO,show (Value.agg #[.bool false,.slice none 0 0,.bool false,.slice none 0 0]).cells=#[.bool false,.slice none 0 0,.bool false,.slice none 0 0] from rfl,Zdy];simp[Zz,Zaj]
    rw[hx]
  ·by_cases hroom:m<=sp
   ·have f:=run_append_room (P:=P) w t ty e i ht hi g es.length (es.length+sp) _ h4 ad m c (Zp fs) hl hc (Zix fs) (by omega) (by rw[C,Zq,Zq];simp[Zz,Zq];omega)
    refine⟨_,_,f,.inr ⟨g,sp-m,?_,h2,?_,?_⟩,⟨rfl,rfl,rfl,by simp[World.setRow],λk _ hk=>setRow_other w g k _ (λe'=>hk (by simp[Value.ownBlock,e']))⟩,.inl rfl⟩;rw[QA,hm,show es.length+m+(sp-m)=es.length+sp by omega];rw[QA,hm];omega
    ·refine(setRow_heap w g _ _ e _ h4).trans ?_
     congr 2;unfold Zz;congr 1;rw[C];have I:QB sp Zau=QB m Zau++QB (sp-m) Zau:=by rw[List.replicate_append_replicate];congr 1;omega
     have J:(Zp fs).length=(Zp (QB m Zau)).length:=by rw[Zq,Zq,hm,List.length_replicate]
     simp only[Zaj];rw[List.take_left,J,<- QA,I,Zaj,<- QY (Zp es),List.drop_left,QY]
   ·have y:∀ j u,(Zp es)[j]?=some u->w.cell? ((⟨g,0,none⟩:Addr).add j)=some u:=λj u hu=>by
      rw[Zh,QS,h4.cell];simp only[Zz,List.getElem?_toArray,Zaj];rw[Qo (by rw[List.getElem?_eq_some_iff]at hu;exact hu.1)];exact hu
    have f:=run_append_grow (P:=P) w t ty e i _ ht hi hz ⟨g,0,none⟩ es.length (es.length+sp) (Zp es) C.symm y ad m c (Zp fs) hl hc (by omega) (by omega) (growslice_fits (by omega) (by rw[hby];omega));have h:=grownCap_ge w (es.length+m) (es.length+sp) e;have o:=grownCap_le_maxLen w (es.length+m) (es.length+sp) e (by unfold maxLen;omega);refine⟨_,_,f,.inr ⟨w.heap.size,grownCap w (es.length+m) (es.length+sp) e-(es.length+m),?_,hbase,?_,?_⟩,⟨rfl,rfl,rfl,by simp,λk hk _=>Below.heap_alloc w.drew _ k hk⟩,.inr (λk hk=>by first|(simp[Value.ownBlock]at hk;omega)|(cases hk;exact Qc _))⟩;rw[QA,hm,QH h];rw[QA,hm,QH h];exact o
    ·have:=heap_alloc_new w.drew (.cells ((Zp es).toArray++(Zp fs).toArray++QK (Value.agg #[.bool false,.slice none 0 0,.bool false,.slice none 0 0]).cells (grownCap w (es.length+m) (es.length+sp) e-(es.length+m))) e)
     unfold Blk;refine this.trans ?_;congr 1
     have hx:(Zp es).toArray++(Zp fs).toArray++QK (Value.agg #[.bool false,.slice none 0 0,.bool false,.slice none 0 0]).cells (grownCap w (es.length+m) (es.length+sp) e-(es.length+m))=Zz (es++fs++QB (grownCap w (es.length+m) (es.length+sp) e-(es.length+m)) Zau):=by
      apply Array.toList_inj.1;rw[QO,QO,show (Value.agg #[.bool false,.slice none 0 0,.bool false,.slice none 0 0]).cells=#[.bool false,.slice none 0 0,.bool false,.slice none 0 0] from rfl,Zdy];simp[Zz,Zaj]
     rw[hx]
theorem Z3{o:Oper}{a:Act}{K:Act->World->Prop}{Q:Exit->Act->World->Prop}(s x:Operand)(t:TypeId)
    (ho:o.op=.call { callee:=.builtin .append,args:=#[s,x],argTypes:=#[t,t] })
    (base:Nat) (e:TypeId) (i:TypeInfo) (ht:P.underlying t=some (.slice e)) (hi:P.info? e=some i) (hz:i.zero=some (.agg #[.bool false,.slice none 0 0,.bool false,.slice none 0 0])) (hsi:i.size=4) (hby:i.bytes=64)
    (v:Value) (qs:List Rat) (hs:a.eval s=v) (hown:OwnF e w base v qs)
    (B:Nat) (A:Option Addr) (m c:Nat) (fs:List FE) (hx:a.eval x=.slice A m c) (hr:Reads w B 4 A m (Zp fs)) (hm:fs.length=m) (hfs:∀ e ∈ fs,e.in_ w)
    (h63:qs.length+m<=1000) (hbase:base<=w.heap.size)
    (h:∀ v' w',OwnF e w' base v' (qs++fs.map FE.q)->w.grownBy w' v.ownBlock->(∀ (A:Option Addr) (n c:Nat) (l:List Nat),Lim w A n c l->Lim w' A n c l)->(v'.ownBlock=v.ownBlock \/ ∀ k,v'.ownBlock=some k->w.heap.size<=k)->K (a.put o.dst v') w'):o.wp P a w K Q:=by
 obtain⟨es,h1,h2,rfl⟩:=hown;rw[Qz]at h63;obtain⟨v',w',f,h3,h4,h5⟩:=Zkh (P:=P) w base t o.type e i ht hi hz hsi hby v es h1 B A m c fs hr hm h63 hbase;unfold Oper.wp execOp;simp only[ho,resolve,invoke,builtin,Sem.run_bind,Sem.run_pure,Result.andThen_ok,QZ,Qi,Qk,hs,hx,f];have hk:∀ (A:Option Addr) (n c:Nat) (l:List Nat),Lim w A n c l->Lim w' A n c l:=λ_ _ _ _ hL=>h1.keep h4 hL;refine h v' w' ⟨es++fs,h3,λe he=>?_,by rw[QM]⟩ h4 hk h5;rcases List.mem_append.1 he with he|he;exact(h2 e he).of_keep hk;exact(hfs e he).of_keep hk
end
def MatA(tS tF:TypeId)(w:World)(base go:Nat)(rs:List RS)(Q:List (List Rat)):Prop:=
 (∃ zs,Blk w go tS (Zx (rs++zs)))/\base<=go/\rs.length=Q.length/\(∀ (i:Nat) (r:RS),rs[i]?=some r->OwnF tF w base r.val (Q[i]?.getD [])) /\
  ∀ (i j:Nat) (r s:RS) (k:Nat),rs[i]?=some r->rs[j]?=some s->i≠j->r.val.ownBlock=some k->s.val.ownBlock≠some k
section
variable{tS tF:TypeId}{w w':World}{base go:Nat}{rs:List RS}{Q:List (List Rat)}
theorem MatA.below(h:MatA tS tF w base go rs Q)(hb:Below w.heap.size w w'):MatA tS tF w' base go rs Q:=by
 obtain⟨⟨zs,h1⟩,h2,h3,h4,h5⟩:=h;exact⟨⟨zs,Zd hb h1⟩,h2,h3,λi r hr=>(h4 i r hr).kept hb,h5⟩
theorem MatA.cell(h:MatA tS tF w base go rs Q){i:Nat}{r:RS}(hr:rs[i]?=some r):w.cell? ⟨go,i,none⟩=some (.slice r.A r.n r.c)/\w.frozen? ⟨go,i,none⟩=false:=by
 obtain⟨⟨zs,h1⟩,-⟩:=h;refine⟨?_,h1.frozen i⟩;rw[h1.cell];exact Zbv (by rw[Qo (List.getElem?_eq_some_iff.1 hr).1];exact hr)
theorem OwnF.rsn{r:RS}{q:List Rat}(h:OwnF tF w base r.val q):r.n=q.length/\FL w r.A r.n r.c q:=by
 obtain⟨A,c,e,hf⟩:=h.fl;simp only[RS.val,Value.slice.injEq]at e;obtain⟨rfl,e2,rfl⟩:=e;refine⟨e2,?_⟩;rw[e2];exact hf
theorem MatA.mfl(h:MatA tS tF w base go rs Q){c:Nat}(hc:rs.length<=c)(hm:c<=maxLen):MFL w (some ⟨go,0,none⟩) rs.length c Q:=by
 refine⟨h.2.2.1.symm,hc,hm,λ_=>⟨go,0,rfl,λk q hq=>?_⟩⟩;have hk:k<rs.length:=by rw[h.2.2.1];exact(List.getElem?_eq_some_iff.1 hq).1
 have hr:=Qa hk;have h1:=(h.cell hr).1;have h2:=(h.2.2.2.1 k _ hr).rsn.2;rw[hq]at h2;exact⟨_,_,_,by rw[QS];exact h1,h2⟩
theorem MatA.app(h:MatA tS tF w base go rs Q)(hts:tS≠tF){i:Nat}{r r':RS}{q':List Rat}(hr:rs[i]?=some r)(hg:w.grownBy w' r.val.ownBlock)(ho:OwnF tF w' base r'.val q')(hk:∀ (A:Option Addr) (n c:Nat) (l:List Nat),Lim w A n c l->Lim w' A n c l)
    (hw:r'.val.ownBlock=r.val.ownBlock \/ ∀ k,r'.val.ownBlock=some k->w.heap.size<=k):MatA tS tF (w'.setCell ⟨go,i,none⟩ r'.val) base go (rs.set i r') (Q.set i q'):=by
 obtain⟨⟨zs,h1⟩,h2,h3,h4,h5⟩:=h;have hi:i<rs.length:=(List.getElem?_eq_some_iff.1 hr).1
 have u:∀ (v:Value) (q:List Rat),OwnF tF w base v q->v.ownBlock≠some go:=λv q hv e=>by
  obtain⟨cs,a,-,-⟩:=hv.ownBlk go e;exact hts (h1.type a)
 have b1:Blk w' go tS (Zx (rs++zs)):=(hg.block go h1.lt (λe=>u _ _ (h4 i r hr) e.symm)).trans h1;have f:=Zas (rs++zs);have kS:Kept (λk=>k=go) w' (w'.setCell ⟨go,i,none⟩ r'.val):=Kept.set_ (G:=λk=>k=go) (Yg _ _) (p:=⟨go,i,none⟩) (.inl rfl) _
 have y:r'.val.ownBlock≠some go:=λe=>by
  obtain⟨cs,a,-,-⟩:=ho.ownBlk go e;exact hts (b1.type a)
 refine⟨⟨zs,?_⟩,h2,by rw[QL,QL];exact h3,λj s hs=>?_,λj l s t k hs ht hjl hsk=>?_⟩
 ·have:=b1.set_ i r'.val
  rw[show r'.val=.slice r'.A r'.n r'.c from rfl,Zch r']at this;rw[Qr _ _ hi]at this;exact this
 ·rw[Qd]at hs
  by_cases hij:i=j
  ·subst hij
   rw[if_pos rfl,if_pos hi]at hs;cases hs;rw[List.getElem?_set_self (by omega),Qu];exact ho.keptG b1 f y kS
  ·rw[if_neg hij]at hs
   rw[List.getElem?_set_ne hij];have o:=h4 j s hs;have ne:∀ k,s.val.ownBlock=some k->r.val.ownBlock≠some k:=λk e=>h5 j i s r k hs hr (Qx hij) e
   have o2:OwnF tF w' base s.val (Q[j]?.getD []):=by
    obtain⟨es,e1,e2,e3⟩:=o;refine⟨es,?_,λe he=>⟨⟨(e2 e he).1.1,(e2 e he).1.2.1,hk _ _ _ _ (e2 e he).1.2.2⟩,⟨(e2 e he).2.1,(e2 e he).2.2.1,hk _ _ _ _ (e2 e he).2.2.2⟩⟩,e3⟩;rcases e1 with e1|⟨g2,sp,e4,e5,e6,e7⟩;exact .inl e1;exact .inr ⟨g2,sp,e4,e5,e6,(hg.block g2 e7.lt (λe=>ne g2 (by rw[e4];rfl) e.symm)).trans e7⟩
   exact o2.keptG b1 f (u _ _ o) kS
 ·have fresh:∀ (j:Nat) (s:RS) (k:Nat),j≠i->rs[j]?=some s->s.val.ownBlock=some k->r'.val.ownBlock≠some k:=λj s k hji hs hsk e=>by
    obtain⟨cs,a,-,-⟩:=(h4 j s hs).ownBlk k hsk;have:=a.lt;rcases hw with hw|hw;exact h5 j i s r k hs hr hji hsk (by rw[<- hw];exact e);have:=hw k e;omega
  rw[Qd]at hs ht;by_cases h6:i=j
  ·subst h6
   rw[if_pos rfl,if_pos hi]at hs;rw[if_neg hjl]at ht;cases hs;intro e;exact fresh l t k (Qx hjl) ht e hsk
  ·rw[if_neg h6]at hs
   by_cases h7:i=l
   ·subst h7
    rw[if_pos rfl,if_pos hi]at ht;cases ht;exact fresh j s k (Qx h6) hs hsk
   ·rw[if_neg h7]at ht
    exact h5 j l s t k hs ht hjl hsk
end
