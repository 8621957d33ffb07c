/- The rank and the determinant by either elimination. The -/
import Derived.Deep.LoopGhost
import Derived.RangeFuncNested
import Derived.Test.YthappeninglakaaGreatZt09
set_option maxRecDepth 100000
set_option maxHeartbeats 8000000
set_option linter.unusedSimpArgs false
set_option linter.unusedVariables false
namespace Go.Proofs.YthappeninglakaaGreat
open Go.RowKit
open List renaming getElem?_map→Qa,getElem?_eq_getElem→Qb,getElem?_append_left→Qe,mem_of_getElem?→Qf,getElem?_set→Qg,ext_getElem?→Qk,length_append→Qm,getElem?_eq_none→Qn,getElem?_append_right→Qo,map_cons→Qq,getElem?_range→Qr,map_set→Qt,map_nil→Qv,length_map→Qz,set_append_left→QA,getElem_of_mem→QC,mem_or_eq_of_mem_set→QD,nil_append→QF,length_singleton→QH,map_toArray→QK,not_mem_nil→QL,length_nil→QP,length_set→QQ
open Nat renaming le_refl→Qc,lt_of_le_of_lt→Qd,lt_of_lt_of_le→Qi,add_sub_cancel'→Qs,sub_self→QE,zero_le→QG,le_trans→QI,not_lt_zero→QM
open And renaming intro→Qh
open Below renaming refl→Qj
open Int renaming natAbs_mul→Ql,natAbs_natCast→Qu
open Rat renaming divInt→Qp,intCast_natCast→QB,divInt_eq_div→QJ,intCast_mul→QN
open Ne renaming symm→Qw
open Act renaming put→Qx
open Option renaming getD_some→Qy,map_some→QO
def byZ(R:List (List Rat)):Nat->Nat
 | 0=>1
 | k+1=>byZ R k*denAt R k
theorem Z02(R:List (List Rat))(k:Nat):((byZ R k:Nat):Rat)=Za6 k (λi=>((denAt R i:Nat):Rat)):=by
 induction k with
 | zero=>rfl
 | succ k ih=>simp only[byZ,Za6];rw[Rat.natCast_mul,ih]
theorem byZ_pos(R:List (List Rat))(k:Nat):0<byZ R k:=by
 induction k with
 | zero=>exact Nat.one_pos
 | succ k ih=>exact Nat.mul_pos ih (Zed _ _)
theorem Zvc{n:Nat}{f:Nat->Rat}{k:Nat}(hk:k<n)(h:f k=0):Za6 n f=0:=by
 induction n with
 | zero=>omega
 | succ n ih =>
  simp only[Za6];by_cases hkn:k=n;rw[<- hkn,h];grind;rw[ih Gk];grind
theorem Zt6{n:Nat}(M:Nat->Nat->Rat)(s:Nat->Rat):Zap n (λa b=>s a*M a b)=Za6 n s*Zap n M:=by
 have key:∀ m,m<=n->Zap n (λa b=>if a<m then s a*M a b else M a b)=Za6 m s*Zap n M:=by
  intro m
  induction m with
  | zero=>intro _;simp only[Za6];rw[Za4 (N:=M) (λa b _ _=>Gw (QM a))];grind
  | succ m ih =>
   intro hm;have h0:=ih Gk;have h1:=Zhe (n:=n) (λa b=>if a<m then s a*M a b else M a b) (k:=m) Gk (M m) (M m) (s m) 0
   have e1:Zah (λa b=>if a<m then s a*M a b else M a b) m (λb=>s m*M m b+0*M m b)=λa b=>if a<m+1 then s a*M a b else M a b:=by
    funext a b
    unfold Zah;by_cases ha:a=m;subst ha;rw[Gx rfl,Gx Gk];grind;rw[Gw ha];by_cases h2:a<m;rw[Gx Gk];simp only[Gx h2];rw[Gw Gk];simp only[Gw h2]
   have e2:Zah (λa b=>if a<m then s a*M a b else M a b) m (M m)=λa b=>if a<m then s a*M a b else M a b:=by
    funext a b
    unfold Zah;by_cases ha:a=m;subst ha;rw[Gx rfl,Gw Gk];rw[Gw ha]
   rw[e1,e2,h0]at h1;rw[h1];simp only[Za6];grind
 rw[<- key n (Qc _)];exact Za4 λa b ha _=>by rw[Gx ha]
section
variable{B S n m:Nat}
theorem EIR.diag{col:Nat}{R:List (List Rat)}{pc:Nat->Nat}{G:Nat->Nat->Rat}{s:Nat->Rat}(h:EIR B S n m col n R pc G s)(hc:col<=n){l:Nat}(hl:l<n):pc l=l:=by
 have h1:∀ l,l<n->l<=pc l:=by
  intro l
  induction l with
  | zero=>intro _;omega
  | succ l ih=>intro hl;have:=ih Gk;have:=h.inc l (l+1) Gk hl;omega
 have h2:∀ d l,l+d+1=n->pc l+d<n:=by
  intro d
  induction d with
  | zero=>intro l hl;have:=h.pcl l Gk;omega
  | succ d ih=>intro l hl;have:=ih (l+1) Gk;have:=h.inc l (l+1) Gk Gk;omega
 have:=h1 l hl;have:=h2 (n-l-1) l Gk;omega
end
structure AltF (n:Nat) (F:(Nat->Nat->Rat)->Rat):Prop where
 congr:∀ {M N:Nat->Nat->Rat},(∀ a b,a<n->b<n->M a b=N a b)->F M=F N
 lin:∀ (M:Nat->Nat->Rat) (k:Nat),k<n->∀ (r s:Nat->Rat) (x y:Rat),F (Zah M k (λb=>x*r b+y*s b))=x*F (Zah M k r)+y*F (Zah M k s)
 two:∀ (M:Nat->Nat->Rat) (k l:Nat),k<n->l<n->k≠l->(∀ b,M k b=M l b)->F M=0
theorem AltF.det(n:Nat):AltF n (Zap n):=⟨Za4,λM _ hk r s x y=>Zhe M hk r s x y,λ_ _ _ hk hl hne h=>Zkf hk hl hne h⟩
section
variable{n:Nat}{F:(Nat->Nat->Rat)->Rat}
theorem AltF.add(h:AltF n F)(M:Nat->Nat->Rat){k:Nat}(hk:k<n)(r s:Nat->Rat):F (Zah M k (λb=>r b+s b))=F (Zah M k r)+F (Zah M k s):=by
 have:=h.lin M k hk r s 1 1;rw[show (λb=>r b+s b)=(λb=>1*r b+1*s b) by funext b;grind,this];grind
theorem AltF.swap(h:AltF n F){k l:Nat}(hk:k<n)(hl:l<n)(hne:k≠l)(M:Nat->Nat->Rat):F (Zah (Zah M k (M l)) l (M k))=- F M:=by
 obtain⟨r,hr⟩:=Gz (M l);obtain⟨s,hs⟩:=Gz (M k);have h0:=h.two (Zah (Zah M k (λb=>r b+s b)) l (λb=>r b+s b)) k l hk hl hne (λb=>by simp[Zah,hne]);have h1:=h.two (Zah (Zah M k r) l r) k l hk hl hne (λb=>by simp[Zah,hne]);have h2:=h.two (Zah (Zah M k s) l s) k l hk hl hne (λb=>by simp[Zah,hne]);rw[h.add _ hl,Zcf _ hne,Zcf _ hne,h.add _ hk,h.add _ hk,<- Zcf _ hne,<- Zcf _ hne,<- Zcf _ hne,<- Zcf _ hne,h1,h2]at h0;rw[hr,hs];have e:Zah (Zah M k s) l r=M:=by rw[<- hs,Zeb,<- hr,Zeb]
 rw[e]at h0
 grind
theorem AltF.addrow(h:AltF n F)(M:Nat->Nat->Rat){k l:Nat}(hk:k<n)(hl:l<n)(hne:k≠l)(c:Rat):F (Zah M k (λb=>M k b+c*M l b))=F M:=by
 have h1:=h.lin M k hk (M k) (M l) 1 c
 rw[show (λb=>M k b+c*M l b)=(λb=>1*M k b+c*M l b) by funext b;grind,h1,Zeb,
  h.two (Zah M k (M l)) k l hk hl hne (λb=>by simp[Zah,Qw hne])]
 grind
theorem AltF.clear(h:AltF n F)(M:Nat->Nat->Rat){l:Nat}(hl:l<n)(c:Nat->Rat):F (λa b=>if a=l then M a b else M a b+c a*M l b)=F M:=by
 have key:∀ m,m<=n->F (λa b=>if a=l then M a b else if a<m then M a b+c a*M l b else M a b)=F M:=by
  intro m
  induction m with
  | zero=>intro _;exact h.congr λa b _ _=>by split <;> rfl
  | succ m ih =>
   intro hm;have h0:=ih Gk;by_cases hml:m=l
   ·rw[<- h0];refine h.congr λa b _ _=>?_
    exact Im
   have h1:=h.addrow (λa b=>if a=l then M a b else if a<m then M a b+c a*M l b else M a b) (k:=m) (l:=l) Gk hl hml (c m);rw[h0]at h1;rw[<- h1];refine h.congr λa b _ _=>?_;exact FS
 rw[<- key n (Qc _)];exact h.congr λa b ha hb=>by rw[Gx ha]
end
theorem Zz2(n:Nat)(A:Nat->Nat->Rat):∀ c,c<=n->∃ (U:Nat->Nat->Rat) (e:Rat),(∀ i j,i<n->j<c->j<i->U i j=0)/\∀ F,AltF n F->F A=e*F U:=by
 intro c
 induction c with
 | zero=>intro _;exact⟨A,1,λi j _ h=>by omega,λF _=>by grind⟩
 | succ c ih =>
  intro hc;obtain⟨U,e,h1,h2⟩:=ih Gk
  have clr:∀ V:Nat->Nat->Rat,(∀ i j,i<n->j<c->j<i->V i j=0)->V c c≠0->∃ (U:Nat->Nat->Rat),(∀ i j,i<n->j<c+1->j<i->U i j=0)/\∀ F,AltF n F->F V=F U:=by
   intro V hV hp;refine⟨λa b=>if a=c then V a b else V a b+(if a<c then 0 else -(V a c/V c c))*V c b,λi j hi hj hji=>?_,λF hF=>(hF.clear V Gk _).symm⟩;by_cases hic:i=c;subst hic;simp only[if_true];exact hV i j hi Gk hji;simp only[Gw hic];by_cases hlt:i<c;rw[Gx hlt,hV i j hi Gk hji];grind;rw[Gw hlt];by_cases hjc:j=c;subst hjc;grind;rw[hV i j hi Gk hji,hV c j Gk Gk Gk];grind
  by_cases hz:∀ i,c<i->i<n->U i c=0
  ·refine⟨U,e,λi j hi hj hji=>?_,h2⟩
   by_cases hjc:j=c;subst hjc;exact hz i hji hi;exact h1 i j hi Gk hji
  by_cases hp:U c c=0
  ·obtain⟨k,C,u,y⟩:∃ k,c<k/\k<n/\U k c≠0:=by
     refine Classical.byContradiction λhn=>hz λi h1 h2=>Classical.byContradiction λh3=>hn ⟨i,h1,h2,h3⟩
   obtain⟨V,f,o⟩:=clr (Zah (Zah U c (U k)) k (U c)) (λi j hi hj hji=>by
    unfold Zah;by_cases hik:i=k;rw[Gx hik];exact h1 c j Gk hj Gk
    ·rw[Gw hik]
     by_cases hic:i=c;rw[Gx hic];exact h1 k j u hj Gk;rw[Gw hic];exact h1 i j hi hj hji) (by
    unfold Zah;rw[Gw Gk,Gx rfl];exact y)
   refine⟨V,-e,f,λF hF=>?_⟩;rw[h2 F hF,<- o F hF,hF.swap Gk u Gk];grind
  obtain⟨V,f,o⟩:=clr U h1 hp;exact⟨V,e,f,λF hF=>by rw[h2 F hF,o F hF]⟩
def Zbs(a b:Nat):Rat:=if a=b then 1 else 0
theorem AltF.tri{n:Nat}{F:(Nat->Nat->Rat)->Rat}(h:AltF n F):∀ t,t<=n->∀ U:Nat->Nat->Rat,(∀ i j,i<n->j<i->U i j=0)->(∀ i j,t<=i->i<n->U i j=Zbs i j)->F U=Za6 t (λi=>U i i)*F Zbs
 | 0,_,U,_,h2=>by
  rw[h.congr (N:=Zbs) (λa b ha hb=>h2 a b (QG _) ha)];simp only[Za6];grind
 | t+1,ht,U,h1,h2=>by
  -- row t is cleared by the rows behind it
  have key:∀ c,c<=n->F (Zah U t (λb=>if t<b/\b<c then 0 else U t b))=F U:=by
   intro c
   induction c with
   | zero=>intro _;refine h.congr λa b _ _=>?_
           unfold Zah;by_cases ha:a=t;rw[Gx ha,ha];simp only[QM,and_false,if_false];rw[Gw ha]
   | succ c ih =>
    intro hc;have h0:=ih Gk;by_cases htc:t<c
    ·have h3:=h.addrow (Zah U t (λb=>if t<b/\b<c then 0 else U t b)) (k:=t) (l:=c) Gk Gk Gk (-(U t c))
     rw[h0]at h3;rw[<- h3];refine h.congr λa b _ hb=>?_;unfold Zah;by_cases ha:a=t
     ·subst ha
      simp only[if_true];rw[Gw (by omega:¬ c=a),h2 c b Gk Gk];unfold Zbs;by_cases hbc:c=b;subst hbc;rw[Gx Gk,Gw Gk,Gx rfl];grind;rw[Gw hbc];by_cases hb2:a<b/\b<c;rw[Gx Gk,Gx hb2];grind;rw[Gw Gk,Gw hb2];grind
     rw[Gw ha,Gw ha,Gw ha]
    rw[<- h0];refine h.congr λa b _ _=>?_;unfold Zah;by_cases ha:a=t
    ·rw[Gx ha,Gx ha]
     simp only[Gw (show ¬ (t<b/\b<c+1) by omega),Gw (show ¬ (t<b/\b<c) by omega)]
    rw[Gw ha,Gw ha]
  have hk:=key n (Qc _);have hs:=h.lin U t Gk (Zbs t) (Zbs t) (U t t) 0
  have e1:F (Zah U t (λb=>if t<b/\b<n then 0 else U t b))=F (Zah U t (λb=>U t t*Zbs t b+0*Zbs t b)):=by
   refine h.congr λa b _ hb=>?_;unfold Zah;by_cases ha:a=t
   ·rw[Gx ha,Gx ha]
    unfold Zbs;simp only;by_cases hb1:t=b;subst hb1;rw[Gw Gk,Gx rfl];grind;rw[Gw hb1];by_cases hb2:t<b;rw[Gx ⟨hb2,hb⟩];grind;rw[Gw Gk,h1 t b Gk Gk];grind
   rw[Gw ha,Gw ha]
  have ih:=h.tri t Gk (Zah U t (Zbs t)) (λi j hi hji=>by
   unfold Zah Zbs;split;rw[Gw Gk]
   ·exact h1 i j hi hji) (λi j hti hi=>by
   unfold Zah;split;rename_i h;rw[h];exact h2 i j Gk hi)
  rw[<- hk,e1,hs,ih];rw[Za6,Zdb (f:=λi=>Zah U t (Zbs t) i i) (g:=λi=>U i i) (λi hi=>by unfold Zah;rw[Gw Gk])]
  grind
theorem Zs0(n:Nat):Zap n Zbs=1:=by
 rw[Zj7 (λa b _ h=>by unfold Zbs;rw[Gw Gk])]
 have:∀ m,Za6 m (λi=>Zbs i i)=1:=by
  intro m
  induction m with
  | zero=>rfl
  | succ m ih=>simp only[Za6];rw[ih];unfold Zbs;rw[Gx rfl];grind
 exact this n
theorem AltF.eq{n:Nat}{F:(Nat->Nat->Rat)->Rat}(h:AltF n F)(A:Nat->Nat->Rat):F A=Zap n A*F Zbs:=by
 obtain⟨U,e,h1,h2⟩:=Zz2 n A n (Qc _);have h3:=h.tri n (Qc _) U (λi j hi hj=>h1 i j hi Gk hj) (λi j h1 h2=>by omega);have h4:=(AltF.det n).tri n (Qc _) U (λi j hi hj=>h1 i j hi Gk hj) (λi j h1 h2=>by omega);rw[h2 F h,h2 _ (AltF.det n),h3,h4,Zs0];grind
def Ztd(k:Nat)(A B:Nat->Nat->Rat):Nat->Nat->Rat:=λi j=>Zu k (λl=>A i l*B l j)
theorem det_mul(n:Nat)(A B:Nat->Nat->Rat):Zap n (Ztd n A B)=Zap n A*Zap n B:=by
 have hF:AltF n (λM=>Zap n (Ztd n M B)):=by
  refine⟨λ{M N} h=>Za4 λa b ha hb=>Zy λl hl=>by rw[h a l ha hl],λM k hk r s x y=>?_,λM k l hk hl hne h=>Zkf hk hl hne (λb=>Zy λi hi=>by rw[h i])⟩
  have e:∀ q:Nat->Rat,Ztd n (Zah M k q) B=Zah (Ztd n M B) k (λb=>Zu n (λl=>q l*B l b)):=by
   intro q
   funext a b
   unfold Ztd Zah;by_cases ha:a=k
   ·rw[Gx ha];refine Zy λl _=>by rw[Gx ha]
   rw[Gw ha];refine Zy λl _=>by rw[Gw ha]
  rw[e,e,e,<- Zhe (Ztd n M B) hk];congr 2
  funext b
  rw[<- Ze2];exact Zy λl _=>by grind
 have:=hF.eq A;rw[this];congr 1;refine Za4 λa b ha hb=>?_;unfold Ztd;rw[Zge a ha (λi _ hi=>by unfold Zbs;rw[Gw (Qw hi)];grind)];unfold Zbs;rw[Gx rfl];grind
theorem Z0y{n:Nat}(A:Nat->Nat->Rat)(x y:Nat->Rat)(h:∀ i,i<n->Zu n (λj=>A i j*x j)=y i){k:Nat}(hk:k<n):Zap n A*x k=Zap n (λa b=>if b=k then y a else A a b):=by
 have hT:Zap n (λa b=>if b=k then x a else Zbs a b)=x k:=by
  -- rows a: unit a+x a at column k;row k: x k at column k
  have h1:=(AltF.det n).lin (λa b=>if b=k then x a else Zbs a b) k hk (Zbs k) (Zbs k) (x k) 0
  have e1:Zah (λa b=>if b=k then x a else Zbs a b) k (λb=>x k*Zbs k b+0*Zbs k b)=(λa b=>if b=k then x a else Zbs a b):=by
   funext a b
   unfold Zah;by_cases ha:a=k
   ·subst ha;rw[Gx rfl];unfold Zbs
    by_cases hb:b=a;subst hb;simp only[if_true];grind;rw[Gw hb,Gw (Qw hb)];grind
   rw[Gw ha]
  rw[e1]at h1;have h2:=Znj (n:=n) (λa b=>Zbs a b) hk x
  have e2:Zap n (Zah (λa b=>if b=k then x a else Zbs a b) k (Zbs k))=Zap n (λa b=>if a=k then Zbs a b else Zbs a b+x a*Zbs k b):=by
   refine Za4 λa b _ _=>?_;unfold Zah;by_cases ha:a=k;rw[Gx ha,Gx ha,ha];rw[Gw ha,Gw ha];unfold Zbs;simp only;by_cases hb:b=k;subst hb;rw[Gx rfl,Gw ha,Gx rfl];grind;rw[Gw hb,Gw (Qw hb)];grind
  rw[e2,h2,Zs0]at h1;rw[h1];grind
 have h3:=det_mul n A (λa b=>if b=k then x a else Zbs a b);rw[hT]at h3;rw[<- h3];refine Za4 λa b ha hb=>?_;unfold Ztd;by_cases hbk:b=k
 ·rw[Gx hbk,<- h a ha]
  exact Zy λl _=>by simp only;rw[Gx hbk]
 rw[Gw hbk,Zge b hb (λi _ hi=>by simp only;rw[Gw hbk];unfold Zbs;rw[Gw hi];grind)];simp only;rw[Gw hbk];unfold Zbs;rw[Gx rfl];grind
open Go.RowKit
attribute [local go_sem] Zg
theorem CS{G:Prop}(h:G:=by
 have:=Blk.new ((w.alloc (.cells #[.bool na,.slice A n c] 39)).alloc (.cells #[.bool true,.slice B m d] 39)) 41 #[.bool false,.slice none 0 0,.bool false,.slice none 0 0];exact Eu):G:=h
theorem CT{G:Prop}(h:G:=by
 have:=(Blk.new (w.alloc (.cells #[.bool na,.slice A n c] 39)) 39 #[.bool true,.slice B m d]).alloc (.cells #[.bool false,.slice none 0 0,.bool false,.slice none 0 0] 41);exact Eu):G:=h
theorem Zqi(na:Bool)(A B:Option Addr)(n c m d:Nat)(za zb:Int)(w:World)(ha:Wd w na A n c za)(hb:Wd w true B m d zb)(h0:zb<0) :
    Calls Tryz.prog 33 #[.agg #[.bool na,.slice A n c],.agg #[.bool true,.slice B m d]] w (Zdn w (Qp za zb)):=by
 have d6:=Zdx ha.small hb.small;have hx:=Za (Zj9 (a:=za) (b:=zb) Gk);have hy:=Za (Zjt (a:=za) (b:=zb) Gk);have U:=Za (Zlu (a:=za) (b:=zb) Gk);have b2:Zgd za zb=-((Nat.gcd za.natAbs zb.natAbs:Nat):Int):=by unfold Zgd;rw[Gx Gk]
 rw[b2]at hx hy U;have HA:=Za ha;have HB:=Za hb;obtain⟨G,hG⟩:=Gz (Nat.gcd za.natAbs zb.natAbs);rw[hG]at hx hy U d6
 have HGc:Hid (∀ W:World,Wd W na A n c za->Wd W true B m d zb->Calls Tryz.prog 59 #[.agg #[.bool na,.slice A n c],.agg #[.bool true,.slice B m d]] W (ResW W (G:Int))):=λW h1 h2=>by
  have:=Zlz na true A B n c m d za zb W h1 h2;rw[hG]at this;exact this
 generalize Qp za zb=R at *;clear ha hb hG b2;have a6:∀ X Y Z:Obj,Below w.heap.size w (((w.alloc X).alloc Y).alloc Z):=λX Y Z=>(((Qj w.heap.size w).alloc (Qc _) _).alloc Gh _).alloc Gg _;have a6:=Za a6;go_in;go_wp2_with fail;have q0:Blk (((w.alloc (.cells #[.bool na,.slice A n c] 39)).alloc (.cells #[.bool true,.slice B m d] 39)).alloc (.cells #[.bool false,.slice none 0 0,.bool false,.slice none 0 0] 41)) w.heap.size 39 #[.bool na,.slice A n c]:=((Blk.new _ _ _).alloc _).alloc _
 have q1:Blk (((w.alloc (.cells #[.bool na,.slice A n c] 39)).alloc (.cells #[.bool true,.slice B m d] 39)).alloc (.cells #[.bool false,.slice none 0 0,.bool false,.slice none 0 0] 41)) (w.heap.size+1) 39 #[.bool true,.slice B m d]:=by
  exact CT
 have q2:Blk (((w.alloc (.cells #[.bool na,.slice A n c] 39)).alloc (.cells #[.bool true,.slice B m d] 39)).alloc (.cells #[.bool false,.slice none 0 0,.bool false,.slice none 0 0] 41)) (w.heap.size+1+1) 41 #[.bool false,.slice none 0 0,.bool false,.slice none 0 0]:=by
  exact CS
 refine(HGc.out _ (((HA.out.alloc _).alloc _).alloc _) (((HB.out.alloc _).alloc _).alloc _)).mono ?_;rintro e w1 ⟨u,ng,Ag,kg,cg,code,rfl,hR⟩;rcases hR with ⟨-,rfl,a8⟩|⟨J,-⟩
 case inr=>exact absurd J Gk
 have O:Below w.heap.size w w1:=(a6.out _ _ _).trans (u.mono Gg);have a9:=Za (HA.out.below O);have c4:=Za (HB.out.below O);have s1:w.heap.size+1+1<w1.heap.size:=by have:=u.size;simp at this;omega
 replace q0:=Zc u q0;replace q1:=Zc u q1;replace q2:=Zc u q2;have b8:=Za a8;have s2:w.heap.size+1+1<w1.heap.size:=s1;clear u a8;obtain⟨W3,I,b4,q3,kW,kB,s3⟩:=Zp 39 #[.bool ng,.slice Ag kg cg] O Gk;replace q0:=kB _ _ _ q0;replace q1:=kB _ _ _ q1;replace q2:=kB _ _ _ q2;have y:=Za (kW _ _ _ _ _ a9.out);have C:=Za (kW _ _ _ _ _ c4.out);have o:=Za (kW _ _ _ _ _ b8.out);have s4:w.heap.size+1+1<w1.heap.size:=s2;clear kW kB a9 c4 b8 O;have c0:=Za q0.two;have c1:=Za q1.two;have c3:=Za q3.two;rw[<- I]at c0 c1 c3;obtain⟨a1,a2,-,-⟩:=c0.out;obtain⟨aQ,aR,-,-⟩:=c1.out;obtain⟨aX,aY,-,-⟩:=c3.out;have hq:=Za (Qh q0 (Qh q1 (Qh q2 q3)));clear q0 q1 q2 q3;replace I:=Za I;go_wp2_with fail;rw[I.out];refine(rNeg_ok ng Ag kg cg (G:Int) _ o.out).mono ?_;rintro e wn ⟨f,n2,A2,k2,c2,code,rfl,hR⟩;have J:¬ pw 4096<=(-(G:Int)).natAbs:=Gk;rcases hR with ⟨-,rfl,T⟩|⟨a3,-⟩
 case inr=>exact absurd a3 J
 have b1:Below w.heap.size w wn:=b4.trans (f.mono Gk);have HAn:=Za (y.out.below f);have HBn:=Za (C.out.below f);replace T:=Za T;have sn:w1.heap.size+1<=wn.heap.size:=by have:=f.size;omega
 have q0:=Zc f hq.out.1;have q1:=Zc f hq.out.2.1;have q2:=Zc f hq.out.2.2.1;have q3:=Zc f hq.out.2.2.2;clear f c0 c1 c3 a1 a2 aQ aR aX aY I y C o b4 hq;have d3:=Za q3.two;obtain⟨d5,d7,d4,d8⟩:=d3.out;have d0:w.heap.size≠w1.heap.size:=Gk;have b3:w.heap.size+1≠w1.heap.size:=Gk;have b0:w.heap.size+1+1≠w1.heap.size:=Gk;obtain⟨V,hV,c9,a0,kV,-,sV⟩:=Zar n2 A2 k2 c2 b1 Gk q3;replace q0:Blk V w.heap.size 39 #[.bool na,.slice A n c]:=by rw[<- hV];exact(q0.far d0 _).far d0 _
 replace q1:Blk V (w.heap.size+1) 39 #[.bool true,.slice B m d]:=by rw[<- hV];exact(q1.far b3 _).far b3 _
 replace q2:Blk V (w.heap.size+1+1) 41 #[.bool false,.slice none 0 0,.bool false,.slice none 0 0]:=by rw[<- hV];exact(q2.far b0 _).far b0 _
 have y:=Za (kV _ _ _ _ _ HAn.out);have C:=Za (kV _ _ _ _ _ HBn.out);have o:=Za (kV _ _ _ _ _ T.out);clear kV HAn HBn T b1;have c0:=Za q0.two;have c1:=Za q1.two;have c3:=Za a0.two;rw[<- hV]at c0 c1 c3;obtain⟨a1,a2,-,-⟩:=c0.out;obtain⟨aQ,aR,-,-⟩:=c1.out;obtain⟨aX,aY,-,-⟩:=c3.out;have hq:=Za (Qh q0 (Qh q1 (Qh q2 a0)));clear q0 q1 q2 q3 a0 d3;replace hV:=Za hV;go_wp2_with fail;rw[hV.out];have s3:w1.heap.size+1<=V.heap.size:=Gk;refine(Zgr na n2 A A2 n c k2 c2 za (-(G:Int)) _ y.out o.out U.out).mono ?_;rintro e w4 ⟨h,nx,Ax,kx,cx,nr,Ar,kr,cr,rfl,a4,-⟩;rw[hx.out]at a4;have b5:Below w.heap.size w w4:=c9.trans (h.mono Gk);have c6:=Za (C.out.below h);have b7:=Za (o.out.below h);have s5:w1.heap.size+1<=w4.heap.size:=by have:=h.size;omega
 have q1:=Zc h hq.out.2.1;have q2:=Zc h hq.out.2.2.1;have q3:=Zc h hq.out.2.2.2;clear h c0 c1 c3 a1 a2 aQ aR aX aY d5 d7 d4 d8 hV y C o c9 hq;obtain⟨W5,a5,b9,q5,kW,kB,s6⟩:=Zp 39 #[.bool nx,.slice Ax kx cx] b5 Gk;replace q1:=kB _ _ _ q1;replace q2:=kB _ _ _ q2;replace q3:=kB _ _ _ q3;have c7:=Za (kW _ _ _ _ _ c6.out);have a7:=Za (kW _ _ _ _ _ b7.out);have b6:=Za (kW _ _ _ _ _ a4);clear kW kB c6 b7 a4 b5;obtain⟨W6,aJ,aS,-,kW,kB,s7⟩:=Zp 39 #[.bool nr,.slice Ar kr cr] b9 Gk;replace q1:=kB _ _ _ q1;replace q2:=kB _ _ _ q2;replace q3:=kB _ _ _ q3;replace q5:=kB _ _ _ q5;have cP:=Za (kW _ _ _ _ _ c7.out);have cQ:=Za (kW _ _ _ _ _ a7.out);have cb:=Za (kW _ _ _ _ _ b6.out);clear kW kB c7 a7 b6 b9;have c1:=Za q1.two;have c3:=Za q3.two;rw[<- aJ,<- a5]at c1 c3;obtain⟨aQ,aR,-,-⟩:=c1.out;obtain⟨aX,aY,-,-⟩:=c3.out;have hq:=Za (Qh q2 q5);clear q1 q2 q3 q5;rw[<- a5]at aJ;replace aJ:=Za aJ;clear a5;go_wp2_with fail;rw[aJ.out];refine(Zgr true n2 B A2 m d k2 c2 zb (-(G:Int)) _ cP.out cQ.out U.out).mono ?_;exact Es
theorem Zqu(na nb:Bool)(A B:Option Addr)(n c m d:Nat)(za zb:Int)(w:World)(ha:Wd w na A n c za)(hb:Wd w nb B m d zb)(h0:zb≠0) :
    Calls Tryz.prog 33 #[.agg #[.bool na,.slice A n c],.agg #[.bool nb,.slice B m d]] w (Zdn w (Qp za zb)):=by
 have hn:=hb.1;by_cases hz:zb<0
 ·rw[Gv hz]at hn
  subst hn;exact Zqi na A B n c m d za zb w ha hb hz
 rw[Gu hz]at hn;subst hn;exact Zey na A B n c m d za zb w ha hb Gk
theorem Zjz(na nb nc nd:Bool)(A B C D:Option Addr)(n c m d n' c' m' d':Nat)(x y u v:Int)(w:World)(ha:Wd w na A n c x)(hb:Wd w nb B m d y)(hc:Wd w nc C n' c' u)(hd:Wd w nd D m' d' v)
    (hs:(x*y).natAbs<pw 4096) (ht:(u*v).natAbs<pw 4096) (h0:u*v≠0) :
    Calls Tryz.prog 101 #[.agg #[.bool na,.slice A n c],.agg #[.bool nb,.slice B m d],.agg #[.bool nc,.slice C n' c'],.agg #[.bool nd,.slice D m' d']] w (Zep w (Qp (x*y) (u*v))):=by
 obtain⟨W0,a3,h,⟨q0,q1,q2,q3,q4⟩,s0⟩:=alloc5 w 39 #[.bool na,.slice A n c] 39 #[.bool nb,.slice B m d] 39 #[.bool nc,.slice C n' c'] 39 #[.bool nd,.slice D m' d'] 41 #[.bool false,.slice none 0 0,.bool false,.slice none 0 0];have hA:=Za (Qh (ha.below h) (hb.below h));have hC:=Za (Qh (hc.below h) (hd.below h));replace hs:=Za hs;replace ht:=Za ht;replace h0:=Za h0;clear ha hb hc hd;obtain⟨a0,a1,-⟩:=q0.two;obtain⟨b0,b1,-⟩:=q1.two;have hq:=Za (Qh q2 (Qh q3 q4));clear q0 q1 q2 q3 q4;go_in;go_wp2_with fail;refine(Zej na nb A B n c m d x y W0 hA.out.1 hA.out.2).mono ?_;rintro e w1 ⟨f,np,P,k,q,code,rfl,hR⟩;have hP:=Za (hR.small hs.out);have o:=hR.code0 hs.out;subst o;have O:Below w.heap.size w w1:=Gs h f;have s1:W0.heap.size<=w1.heap.size:=f.size;replace hC:=Za (Qh (hC.out.1.below f) (hC.out.2.below f));obtain⟨q2,q3,q4⟩:=hq.out;replace q2:=Zc f q2;replace q3:=Zc f q3;replace q4:=Zc f q4;clear a3 f a0 a1 b0 b1 hq hR hs h hA;obtain⟨W2,a2,V,q5,kW,kB,s2⟩:=Zp 39 #[.bool np,.slice P k q] O O.size;replace hC:=Za (Qh (kW _ _ _ _ _ hC.out.1) (kW _ _ _ _ _ hC.out.2));replace hP:=Za (kW _ _ _ _ _ hP.out);replace q2:=kB _ _ _ q2;replace q3:=kB _ _ _ q3;replace q4:=kB _ _ _ q4;clear kW kB O;obtain⟨a0,a1,-⟩:=q2.two;obtain⟨b0,b1,-⟩:=q3.two;have hq:=Za (Qh q4 q5);clear q2 q3 q4 q5;go_wp2_with fail
 refine(Zej nc nd C D n' c' m' d' u v W2 hC.out.1 hC.out.2).mono ?_;rintro e w3 ⟨I,nr,R,k2,r,code,rfl,hR⟩;have hQ:=Za (hR.small ht.out);have o:=hR.code0 ht.out;subst o;have T:Below w.heap.size w w3:=Gs V I;have s3:W2.heap.size<=w3.heap.size:=I.size;obtain⟨q4,q5⟩:=hq.out;replace q4:=Zc I q4;replace q5:=Zc I q5;replace hP:=Za (hP.out.below I);clear a2 I a0 a1 b0 b1 hq hR ht V hC;obtain⟨W4,a5,U,q6,kW,kB,s4⟩:=Zp 39 #[.bool nr,.slice R k2 r] T T.size;replace hQ:=Za (kW _ _ _ _ _ hQ.out);replace hP:=Za (kW _ _ _ _ _ hP.out);replace q4:=kB _ _ _ q4;replace q5:=kB _ _ _ q5;clear kW kB T;obtain⟨a0,a1,-⟩:=q5.two;obtain⟨b0,b1,-⟩:=q6.two;have hq:=Za q4;clear q4 q5 q6;go_wp2_with fail;refine(Zqu np nr P R k q k2 r _ _ W4 hP.out hQ.out h0.out).mono ?_;rintro e w5 ⟨J,nx,Ax,kx,cx,ny,Ay,ky,cy,rfl,hF⟩;have a4:Below w.heap.size w w5:=Gs U J;have s5:W4.heap.size<=w5.heap.size:=J.size;replace hq:=Gm J hq;replace hF:=Za hF;clear a0 a1 b0 b1 a5 J U hP hQ;obtain⟨b3,b6,b2,b5,b4,a7,a8,a9⟩:=hq.out.four;go_wp2_with fail;obtain⟨W6,Y,a6,q2,kW,-,s6⟩:=Z7 nx Ax kx cx ny Ay ky cy a4 Gk hq.out;rw[Y];obtain⟨r0,r1,r2,r3,-⟩:=q2.four;refine bodyPost_ret (v:=.tuple #[.agg #[.bool nx,.slice Ax kx cx,.bool ny,.slice Ay ky cy],.int .i64 0]) (by simp[results,Tryz.results101,go_sem,r0,r1,r2,r3]) rfl ?_;exact⟨a6,_,_,_,_,_,_,_,_,rfl,kW _ _ _ _ _ hF.out.1,kW _ _ _ _ _ hF.out.2⟩
theorem Zht(a b:Rat)(h:b≠0):Qp (a.num*b.den) ((a.den:Int)*b.num)=a/b:=by
 rw[QJ,QN,QN,QB,QB]
 have e0:∀ x:Rat,((x.num:Int):Rat)=x*((x.den:Nat):Rat):=λx=>by
  have h1:((x.num:Int):Rat)/((x.den:Nat):Rat)=x:=by have:=Rat.num_divInt_den x;rw[QJ,QB]at this;exact this
  have h2:((x.den:Nat):Rat)≠0:=by intro h;have:x.den=0:=by exact_mod_cast h
                                  have:=x.den_pos;omega
  rw[<- h1];grind
 have d:∀ x:Rat,((x.den:Nat):Rat)≠0:=λx h=>by
  have:x.den=0:=by exact_mod_cast h
  have:=x.den_pos;omega
 rw[e0 a,e0 b];have da:=d a;have db:=d b
 grind
theorem Zje(a b:Rat)(h:b≠0):((a.den:Int)*b.num)≠0:=by
 have h1:=a.den_pos;have h2:b.num≠0:=λe=>h (Rat.num_eq_zero.1 e);exact Int.mul_ne_zero Gk h2
theorem Z00(na nb na' nb':Bool)(A B A' B':Option Addr)(n c m d n' c' m' d':Nat)(a b:Rat)(w:World)(ha:Fr w na A n c nb B m d a)(hb:Fr w na' A' n' c' nb' B' m' d' b)(sa:Sm a)(sb:Sm b)(h0:b≠0) :
    Calls Tryz.prog 137 #[.agg #[.bool na,.slice A n c,.bool nb,.slice B m d],.agg #[.bool na',.slice A' n' c',.bool nb',.slice B' m' d']] w (Zep w (a/b)):=by
 obtain⟨W0,J,f,⟨q0,q1,q2⟩,s0⟩:=Zb1 w 41 #[.bool na,.slice A n c,.bool nb,.slice B m d] 41 #[.bool na',.slice A' n' c',.bool nb',.slice B' m' d'] 41 #[.bool false,.slice none 0 0,.bool false,.slice none 0 0];have hA:=ha.below f;have hD:=hb.below f;clear ha hb;have hG:=Zjz na nb' nb na' A B' B A' n c m' d' m d n' c' a.num b.den a.den b.num W0 hA.1 hD.2 hA.2 hD.1 (Zbh sa.1 sb.dn) (Zbh sa.dn sb.1) (Zje a b h0);rw[Zht a b h0]at hG;replace hG:=Za hG;clear sa sb hA hD;obtain⟨a0,a1,a2,a3,-⟩:=q0.four;obtain⟨b0,b1,b2,b3,-⟩:=q1.four;replace q2:=Za q2;clear q0 q1;go_in;go_wp2_with fail;refine hG.out.mono ?_;clear hG;rintro e w2 ⟨h,nx,Ax,kx,cx,ny,Ay,ky,cy,rfl,hF⟩;have o:Below w.heap.size w w2:=Gs f h;have s2:W0.heap.size<=w2.heap.size:=h.size;replace q2:=Gm h q2;replace hF:=Za hF;clear a0 a1 a2 a3 b0 b1 b2 b3 h;obtain⟨Y,U,V,T,O,y,I,C⟩:=q2.out.four;go_wp2_with fail;obtain⟨W7,u,aU,q3,kW,-,s7⟩:=Z7 nx Ax kx cx ny Ay ky cy o Gk q2.out;rw[u];obtain⟨r0,r1,r2,r3,-⟩:=q3.four;refine bodyPost_ret (v:=.tuple #[.agg #[.bool nx,.slice Ax kx cx,.bool ny,.slice Ay ky cy],.int .i64 0]) (by simp[results,Tryz.results137,go_sem,r0,r1,r2,r3]) rfl ?_;exact Cd
theorem Zom(na nb na' nb':Bool)(A B A' B':Option Addr)(n c m d n' c' m' d':Nat)(a b:Rat)(w:World)(ha:Fr w na A n c nb B m d a)(hb:Fr w na' A' n' c' nb' B' m' d' b)(sa:Sm a)(sb:Sm b) :
    Calls Tryz.prog 62 #[.agg #[.bool na,.slice A n c,.bool nb,.slice B m d],.agg #[.bool na',.slice A' n' c',.bool nb',.slice B' m' d']] w (Zep w (a*b)):=by
 obtain⟨W0,J,f,⟨q0,q1,q2⟩,s0⟩:=Zb1 w 41 #[.bool na,.slice A n c,.bool nb,.slice B m d] 41 #[.bool na',.slice A' n' c',.bool nb',.slice B' m' d'] 41 #[.bool false,.slice none 0 0,.bool false,.slice none 0 0];have hA:=ha.below f;have hD:=hb.below f;clear ha hb;have hG:=Zjz na na' nb nb' A A' B B' n c n' c' m d m' d' a.num b.num a.den b.den W0 hA.1 hD.1 hA.2 hD.2 (Zbh sa.1 sb.1) (Zbh sa.dn sb.dn) (Int.ne_of_gt (Zci a b));rw[Zqb]at hG;replace hG:=Za hG;clear sa sb hA hD;obtain⟨a0,a1,a2,a3,-⟩:=q0.four;obtain⟨b0,b1,b2,b3,-⟩:=q1.four;replace q2:=Za q2;clear q0 q1;go_in;go_wp2_with fail;refine hG.out.mono ?_;clear hG;rintro e w2 ⟨h,nx,Ax,kx,cx,ny,Ay,ky,cy,rfl,hF⟩;have o:Below w.heap.size w w2:=Gs f h;have s2:W0.heap.size<=w2.heap.size:=h.size;replace q2:=Gm h q2;replace hF:=Za hF;clear a0 a1 a2 a3 b0 b1 b2 b3 h;obtain⟨Y,U,V,T,O,y,I,C⟩:=q2.out.four;go_wp2_with fail;obtain⟨W7,u,aU,q3,kW,-,s7⟩:=Z7 nx Ax kx cx ny Ay ky cy o Gk q2.out;rw[u];obtain⟨r0,r1,r2,r3,-⟩:=q3.four;refine bodyPost_ret (v:=.tuple #[.agg #[.bool nx,.slice Ax kx cx,.bool ny,.slice Ay ky cy],.int .i64 0]) (by simp[results,Tryz.results62,go_sem,r0,r1,r2,r3]) rfl ?_;exact Cd
theorem Zyb(na nb na' nb':Bool)(A B A' B':Option Addr)(n c m d n' c' m' d':Nat)(a b:Rat)(w:World)(ha:Fr w na A n c nb B m d a)(hb:Fr w na' A' n' c' nb' B' m' d' b)(sa:Sm a)(sb:Sm b) :
    Calls Tryz.prog 136 #[.agg #[.bool na,.slice A n c,.bool nb,.slice B m d],.agg #[.bool na',.slice A' n' c',.bool nb',.slice B' m' d']] w (Zep w (a-b)):=by
 obtain⟨W0,J,f,⟨q0,q1,q2⟩,s0⟩:=Zb1 w 41 #[.bool na,.slice A n c,.bool nb,.slice B m d] 41 #[.bool na',.slice A' n' c',.bool nb',.slice B' m' d'] 41 #[.bool false,.slice none 0 0,.bool false,.slice none 0 0];have hA:=ha.below f;have hD:=hb.below f;clear ha hb;have hG:=Zvw na nb na' nb' A B A' B' n c m d n' c' m' d' a b W0 hA hD sa sb;replace hG:=Za hG;clear sa sb hA hD;obtain⟨a0,a1,a2,a3,-⟩:=q0.four;obtain⟨b0,b1,b2,b3,-⟩:=q1.four;replace q2:=Za q2;clear q0 q1;go_in;go_wp2_with fail;refine hG.out.mono ?_;clear hG;rintro e w2 ⟨h,nx,Ax,kx,cx,ny,Ay,ky,cy,rfl,hF⟩;have o:Below w.heap.size w w2:=Gs f h;have s2:W0.heap.size<=w2.heap.size:=h.size;replace q2:=Gm h q2;replace hF:=Za hF;clear a0 a1 a2 a3 b0 b1 b2 b3 h;obtain⟨Y,U,V,T,O,y,I,C⟩:=q2.out.four;go_wp2_with fail;obtain⟨W7,u,aU,q3,kW,-,s7⟩:=Z7 nx Ax kx cx ny Ay ky cy o Gk q2.out;rw[u];obtain⟨r0,r1,r2,r3,-⟩:=q3.four;refine bodyPost_ret (v:=.tuple #[.agg #[.bool nx,.slice Ax kx cx,.bool ny,.slice Ay ky cy],.int .i64 0]) (by simp[results,Tryz.results136,go_sem,r0,r1,r2,r3]) rfl ?_;exact Cd
theorem Zzn(na nb na' nb':Bool)(A B A' B':Option Addr)(n c m d n' c' m' d':Nat)(a b:Rat)(w:World)(ha:Fr w na A n c nb B m d a)(hb:Fr w na' A' n' c' nb' B' m' d' b)(sa:Sm a)(sb:Sm b) :
    Calls Tryz.prog 61 #[.agg #[.bool na,.slice A n c,.bool nb,.slice B m d],.agg #[.bool na',.slice A' n' c',.bool nb',.slice B' m' d']] w (Zep w (a+b)):=by
 obtain⟨W0,J,f,⟨q0,q1,q2⟩,s0⟩:=Zb1 w 41 #[.bool na,.slice A n c,.bool nb,.slice B m d] 41 #[.bool na',.slice A' n' c',.bool nb',.slice B' m' d'] 41 #[.bool false,.slice none 0 0,.bool false,.slice none 0 0];have hA:=ha.below f;have hD:=hb.below f;clear ha hb;have hG:=Zu3 na nb na' nb' A B A' B' n c m d n' c' m' d' a b W0 hA hD sa sb;replace hG:=Za hG;clear sa sb hA hD;obtain⟨a0,a1,a2,a3,-⟩:=q0.four;obtain⟨b0,b1,b2,b3,-⟩:=q1.four;replace q2:=Za q2;clear q0 q1;go_in;go_wp2_with fail;refine hG.out.mono ?_;clear hG;rintro e w2 ⟨h,nx,Ax,kx,cx,ny,Ay,ky,cy,rfl,hF⟩;have o:Below w.heap.size w w2:=Gs f h;have s2:W0.heap.size<=w2.heap.size:=h.size;replace q2:=Gm h q2;replace hF:=Za hF;clear a0 a1 a2 a3 b0 b1 b2 b3 h;obtain⟨Y,U,V,T,O,y,I,C⟩:=q2.out.four;go_wp2_with fail;obtain⟨W7,u,aU,q3,kW,-,s7⟩:=Z7 nx Ax kx cx ny Ay ky cy o Gk q2.out;rw[u];obtain⟨r0,r1,r2,r3,-⟩:=q3.four;refine bodyPost_ret (v:=.tuple #[.agg #[.bool nx,.slice Ax kx cx,.bool ny,.slice Ay ky cy],.int .i64 0]) (by simp[results,Tryz.results61,go_sem,r0,r1,r2,r3]) rfl ?_;exact Cd
theorem Zvj(a b:Int)(h:b≠0):(Qp a b).num.natAbs<=a.natAbs:=by
 rw[Rat.num_divInt];rw[Int.natAbs_ediv_of_dvd];exact FI;exact Int.dvd_trans (Int.gcd_dvd_right _ _) (Int.dvd_mul_left _ _)
theorem Zts(a b:Int)(h:b≠0):(Qp a b).den<=b.natAbs:=by
 rw[Rat.den_divInt,Gw h];exact Nat.div_le_self _ _
theorem Zee:1<pw 1:=by rw[Za2,Zd4];decide
def SmN(i j:Nat)(r:Rat):Prop:=r.num.natAbs<pw i/\r.den<pw j
theorem SmN.sm{i j:Nat}{r:Rat}(h:SmN i j r)(hi:i<=1000)(hj:j<=1000):Sm r:=⟨Qi h.1 (Zbm hi),Qi h.2 (Zbm hj)⟩
theorem SmN.mono{i j i' j':Nat}{r:Rat}(h:SmN i j r)(hi:i<=i')(hj:j<=j'):SmN i' j' r:=⟨Qi h.1 (Zbm hi),Qi h.2 (Zbm hj)⟩
theorem SmN.div{i j:Nat}{n s:Int}(h0:0<s)(hn:n.natAbs<pw i)(hs:s.natAbs<pw j):SmN i j (Qp n s):=
 ⟨Qd (Zvj n s Gk) hn,Qd (Zts n s Gk) hs⟩
theorem SmN.int{i:Nat}{n:Int}(hn:n.natAbs<pw i):SmN i 1 (n:Rat):=⟨by simpa using hn,by simp only[Rat.den_intCast];exact Zee⟩
theorem Zph{x y z v:Int}{i j i' j':Nat}(hx:x.natAbs<pw i)(hy:y.natAbs<pw j)(hz:z.natAbs<pw i')(hv:v.natAbs<pw j'):(x*y).natAbs+(z*v).natAbs<pw (max (i+j) (i'+j')+1):=by
 have h1:(x*y).natAbs<pw (max (i+j) (i'+j')):=by
  rw[Ql];exact Qi (Zc1 hx hy) (Zbm Gk)
 have h2:(z*v).natAbs<pw (max (i+j) (i'+j')):=by
  rw[Ql];exact Qi (Zc1 hz hv) (Zbm Gk)
 have h3:=Zp7 (max (i+j) (i'+j'));omega
theorem SmN.dn{i j:Nat}{r:Rat}(h:SmN i j r):((r.den:Nat):Int).natAbs<pw j:=by simpa using h.2
theorem IU{G:Prop}(h:G:=by
 refine SmN.div (Zci a b) ?_ ?_;have:=Zph ha.1 hb.dn hb.1 ha.dn;omega;rw[Int.natAbs_mul];exact Zc1 ha.dn hb.dn):G:=h
theorem SmN.sub{i j i' j':Nat}{a b:Rat}(ha:SmN i j a)(hb:SmN i' j' b):SmN (max (i+j') (i'+j)+1) (j+j') (a-b):=by
 rw[<- Zqz];exact IU
theorem SmN.add{i j i' j':Nat}{a b:Rat}(ha:SmN i j a)(hb:SmN i' j' b):SmN (max (i+j') (i'+j)+1) (j+j') (a+b):=by
 rw[<- Zwd];exact IU
structure RF where
 g:Nat
 c:Nat
 q:List Rat
def RF.rs(r:RF):RS:=⟨some ⟨r.g,0,none⟩,r.q.length,r.c⟩
def MatB(tS tF:TypeId)(w:World)(go:Nat)(L:List RF):Prop:=
 (∃ zs,Blk w go tS (Z5 (L.map RF.rs++zs)))/\(∀ r ∈ L,FOwn tF w r.g r.q/\r.q.length<=r.c/\r.c<=maxLen)/\(go::L.map RF.g).Nodup
section
variable{tS tF:TypeId}{w w':World}{go:Nat}{L:List RF}
theorem Ia{G:Prop}(h:G:=by
 obtain⟨⟨zs,h1⟩,h2,h3⟩:=h;exact⟨⟨zs,Zc hb h1⟩,λr hr=>⟨(h2 r hr).1.below hb,(h2 r hr).2⟩,h3⟩):G:=h
theorem MatB.below(h:MatB tS tF w go L)(hb:Below w.heap.size w w'):MatB tS tF w' go L:=by
 exact Ia
theorem FW{G:Prop}(h:G:=by
 obtain⟨⟨zs,h1⟩,-,-⟩:=h;refine⟨?_,h1.frozen i⟩;rw[h1.cell];refine Zb7 (e:=r.rs) ?_;have hi:=(List.getElem?_eq_some_iff.1 hr).1;rw[List.getElem?_append_left (by simpa using hi),List.getElem?_map,hr];rfl):G:=h
theorem MatB.cell(h:MatB tS tF w go L){i:Nat}{r:RF}(hr:L[i]?=some r):w.cell? ⟨go,i,none⟩=some (.slice (some ⟨r.g,0,none⟩) r.q.length r.c)/\w.frozen? ⟨go,i,none⟩=false:=by
 exact FW
theorem MatB.row(h:MatB tS tF w go L){i:Nat}{r:RF}(hr:L[i]?=some r):FOwn tF w r.g r.q/\r.q.length<=r.c/\r.c<=maxLen:=h.2.1 r (Qf hr)
theorem IP{G:Prop}(h:G:=by
 have:=(List.nodup_cons.1 h.2.2).1;exact this (List.mem_map.2 ⟨r,List.mem_of_getElem? hr,e.symm⟩)):G:=h
theorem MatB.ne(h:MatB tS tF w go L){i:Nat}{r:RF}(hr:L[i]?=some r):go≠r.g:=λe=>by
 exact IP
theorem Ig{G:Prop}(h:G:=by
 exact aO ((List.getElem?_inj (by have:=(List.getElem?_eq_some_iff.1 h1).1;exact this) hn).1 (h1.trans h2.symm))):G:=h
theorem MatB.ne2(h:MatB tS tF w go L){i j:Nat}{r s:RF}(hr:L[i]?=some r)(hs:L[j]?=some s)(aO:i≠j):r.g≠s.g:=λe=>by
 have hn:=(List.nodup_cons.1 h.2.2).2;have h1:(L.map RF.g)[i]?=some r.g:=by rw[Qa,hr];rfl
 have h2:(L.map RF.g)[j]?=some r.g:=by rw[Qa,hs,e];rfl
 exact Ig
theorem FB{G:Prop}(h:G:=by
 intro k hk;obtain⟨⟨zs,h1⟩,h2,-⟩:=h;rcases hk with rfl|hk;exact⟨tS,_,h1,Za7 _⟩;obtain⟨r,hr,rfl⟩:=List.mem_map.1 hk;exact(h2 r hr).1.box):G:=h
theorem MatB.boxes(h:MatB tS tF w go L):∀ k,(k=go \/ k ∈ L.map RF.g)->∃ t cs,Blk w k t cs/\NoLimb cs:=by
 exact FB
theorem FN{G:Prop}(h:G:=by
 rw[List.map_set];apply List.ext_getElem?;intro j;rw[List.getElem?_set];by_cases aO:i=j
 ·subst aO
  rw[Gx rfl,Gx (by simpa using hi),List.getElem?_map,hr];rfl
 rw[Gw aO]):G:=h
theorem MatB.set_(h:MatB tS tF w go L){i:Nat}{r:RF}(hr:L[i]?=some r){k:Nat}(hk:k<r.q.length){na:Bool}{A:Option Addr}{n c:Nat}{nb:Bool}{B:Option Addr}{m d:Nat}{x:Rat}(hf:Fr w na A n c nb B m d x) :
    MatB tS tF (Zgb w r.g k na A n c nb B m d) go (L.set i ⟨r.g,r.c,r.q.set k x⟩):=by
 have y:=h.ne hr;have u:=λ{j:Nat} {s:RF} (hs:L[j]?=some s) (aO:j≠i)=>h.ne2 hs hr aO;have f:=h.row hr;have hi:=(List.getElem?_eq_some_iff.1 hr).1;obtain⟨⟨zs,h1⟩,h2,h3⟩:=h;refine⟨⟨zs,?_⟩,λs hs=>?_,?_⟩
 ·have e:(L.set i ⟨r.g,r.c,r.q.set k x⟩).map RF.rs=L.map RF.rs:=by
    rw[Qt];apply Qk;intro j;rw[Qg];by_cases aO:i=j
    ·subst aO
     rw[Gx rfl,Gx (by simpa using hi),Qa,hr];simp[RF.rs]
    rw[Gw aO]
  rw[e];exact Zj4 h1 y
 ·obtain⟨j,hj,C⟩:=QC hs
  have o:(L.set i ⟨r.g,r.c,r.q.set k x⟩)[j]?=some s:=by rw[Qb hj,C]
  rw[Qg]at o;by_cases aO:i=j
  ·subst aO
   rw[Gx rfl,Gx hi]at o;cases o;exact⟨f.1.set_ hk hf,by simpa using f.2.1,f.2.2⟩
  rw[Gw aO]at o;have:=h2 s (Qf o);exact⟨this.1.other (u o (Qw aO)) f.1.box,this.2⟩
 have e:(L.set i ⟨r.g,r.c,r.q.set k x⟩).map RF.g=L.map RF.g:=by
   exact FN
 rw[e];exact h3
theorem Z0i{α:Type}{l:List α}{i j:Nat}{x y:α}(hx:l[i]?=some x)(hy:l[j]?=some y):Zag l i j=(l.set i y).set j x:=by unfold Zag;rw[hx,hy]
theorem Zk5{α β:Type}(f:α->β)(l:List α)(i j:Nat):(Zag l i j).map f=Zag (l.map f) i j:=by
 unfold Zag;rw[Qa,Qa];cases l[i]? with
 | none=>rfl
 | some x=>cases l[j]? with
  | none=>rfl
  | some y=>simp[Qt]
theorem Zi6{α:Type}(l:List α)(i j:Nat):∀ x,x ∈ Zag l i j->x ∈ l:=by
 intro x hx;unfold Zag at hx
 split at hx
 ·rename_i a b ha hb
  rcases QD hx with hx|rfl
  ·rcases QD hx with hx|rfl
   exact hx;exact Qf hb
  exact Qf ha
 exact hx
theorem Ztp{l:List Nat}(h:l.Nodup){i j:Nat}(hi:i<l.length)(hj:j<l.length):(Zag l i j).Nodup:=by
 unfold List.Nodup;rw[List.pairwise_iff_getElem];intro a b ha hb o e;rw[Zec]at ha hb;have h1:(Zag l i j)[a]?=(Zag l i j)[b]?:=by rw[Qb (by rw[Zec];exact ha),Qb (by rw[Zec];exact hb),e]
 rw[Zdy hi hj,Zdy hi hj]at h1;have f:swI i j a<l.length:=Zhv hi hj ha;have:=(List.getElem?_inj f h).1 h1;have h2:swI i j (swI i j a)=swI i j (swI i j b):=by rw[this]
 rw[Zqo,Zqo]at h2;omega
theorem MatB.keptG{G:Nat->Prop}(h:MatB tS tF w go L)(hk:Kept G w w')(hg:¬ G go)(hgs:∀ r ∈ L,¬ G r.g)(hG:∀ k,G k->∃ t cs,Blk w k t cs/\NoLimb cs):MatB tS tF w' go L:=by
 obtain⟨⟨zs,h1⟩,h2,h3⟩:=h;refine⟨⟨zs,hk.blk h1 hg⟩,λr hr=>⟨?_,(h2 r hr).2⟩,h3⟩;obtain⟨es,fs,q1,q2,q3⟩:=(h2 r hr).1;exact⟨es,fs,hk.blk q1 (hgs r hr),λe he=>⟨hk.wd (q2 e he).1 hG,hk.wd (q2 e he).2 hG⟩,q3⟩
end
def Zdf(L:List RF)(i:Nat):List Rat:=(L[i]?.map RF.q).getD []
theorem Zgi{L:List RF}{i:Nat}{r:RF}(h:L[i]?=some r):Zdf L i=r.q:=by unfold Zdf;rw[h];rfl
theorem FF{G:Prop}(h:G:=by
 rw[List.getElem?_eq_getElem (show i<L.length by omega),List.getElem?_eq_getElem hi]at this ⊢;simp only[Option.map_some,Option.getD_some]at this ⊢;rw[this]):G:=h
theorem Z1a{L:List RF}{R:List (List Rat)}(hl:L.length=R.length)(h:∀ i,i<R.length->Zdf L i=R[i]?.getD []):L.map RF.q=R:=by
 apply Qk;intro i;rw[Qa];by_cases hi:i<R.length
 ·have:=h i hi
  unfold Zdf at this;exact FF
 rw[Qn Gk,Qn Gk];rfl
theorem Znm(L:List RF)(i:Nat):Zdf L i=(L.map RF.q)[i]?.getD []:=by unfold Zdf;rw[Qa]
theorem Zjf{R:List (List Rat)}{r col i:Nat}(hi:i<R.length):(Zbt R r col)[i]?.getD []=if i<=r then R[i]?.getD []else Zn5 (R[r]?.getD []) (R[i]?.getD []) col:=by
 unfold Zbt;rw[Qa,Qr hi];rfl
theorem IM{G:Prop}(h:G:=by
 rw[List.getElem?_eq_none Gk,List.getElem?_eq_none (l:=List.range _) (by simpa using ht)];rfl):G:=h
theorem rowR_eq{p row q:List Rat}{col:Nat}(hl:q.length=row.length)(h:∀ t,q[t]?.getD 0=if col<=t/\t<row.length then row[t]?.getD 0-row[col]?.getD 0/p[col]?.getD 0*p[t]?.getD 0 else row[t]?.getD 0):q=Zn5 p row col:=by
 apply Qk;intro t;unfold Zn5;rw[Qa];have:=h t;by_cases ht:t<row.length
 ·rw[Qr ht]
  rw[Qb (show t<q.length by omega)]at this ⊢;simp only[QO,Qy]at this ⊢;rw[this];by_cases hc:t<col;rw[Gx hc,Gw Gk];rw[Gw hc,Gx Gk]
 exact IM
theorem Zz9{row q:List Rat}{col k:Nat}{x:Rat}{f:Nat->Rat}(hl:q.length=row.length)(hk:col<=k)(hkl:k<row.length)(hx:x=f k)(h:∀ t,q[t]?.getD 0=if col<=t/\t<k then f t else row[t]?.getD 0) :
    ∀ t,(q.set k x)[t]?.getD 0=if col<=t/\t<k+1 then f t else row[t]?.getD 0:=by
 intro t;rw[Qg];by_cases ht:k=t
 ·subst ht
  rw[Gx rfl,Gx Gk,Gx Gk,hx];rfl
 rw[Gw ht,h t];by_cases h1:col<=t/\t<k;rw[Gx h1,Gx Gk];rw[Gw h1,Gw Gk]
section
variable{a b:Rat}{i j k l:Nat}
theorem SmN.mulN(h:SmN i j a)(g:SmN k l b):SmN (i+k) (j+l) (a*b):=by
 rw[<- Zqb a b];have hd:((a.den:Int)*(b.den:Nat))≠0:=Int.ne_of_gt (Zci a b);refine⟨Qd (Zvj _ _ hd) ?_,Qd (Zts _ _ hd) ?_⟩;rw[Ql];exact Zc1 h.1 g.1;rw[Ql,Qu,Qu];exact Zc1 h.2 g.2
theorem SmN.divN(h:SmN i j a)(g:SmN k l b)(h0:b≠0):SmN (i+l) (j+k) (a/b):=by
 rw[<- Zht a b h0];have hd:=Zje a b h0;refine⟨Qd (Zvj _ _ hd) ?_,Qd (Zts _ _ hd) ?_⟩;rw[Ql,Qu];exact Zc1 h.1 g.2;rw[Ql,Qu];exact Zc1 h.2 g.1
end
theorem Zkj(L:List RF)(i j:Nat):Zi (L.map RF.q) i j=(Zdf L i)[j]?.getD 0:=by unfold Zi Zdf;rw[Qa]
theorem Zb3{α:Type}{L:List α}{i:Nat}(h:i<L.length):∃ r,L[i]?=some r:=⟨_,Qb h⟩
theorem Z09{α β:Type}{f:α->β}{L M:List α}(h:L.map f=M.map f){i:Nat}{r s:α}(hr:L[i]?=some r)(hs:M[i]?=some s):f r=f s:=by
 have h1:(L.map f)[i]?=some (f r):=by rw[Qa,hr];rfl
 have h2:(M.map f)[i]?=some (f s):=by rw[Qa,hs];rfl
 rw[h,h2]at h1;exact(Option.some.inj h1).symm
theorem Zew{α β:Type}{f:α->β}{L:List α}{i:Nat}{r s:α}(hr:L[i]?=some r)(h:f s=f r):(L.set i s).map f=L.map f:=by
 rw[Qt];apply Qk;intro j;rw[Qg]
 split
 ·rename_i hij
  subst hij;have hi:=(List.getElem?_eq_some_iff.1 hr).1;rw[Gx (by simpa using hi),Qa,hr,h];rfl
 rfl
theorem Ii{G:Prop}(h:G:=by
 rw[List.getElem?_set];by_cases h:i=j;subst h;rw[Gx rfl,Gx hi,Gx rfl];rfl;rw[Gw h,Gw (Ne.symm h)]):G:=h
theorem Zst{L:List RF}{i j:Nat}{r:RF}(hi:i<L.length):Zdf (L.set i r) j=if j=i then r.q else Zdf L j:=by
 unfold Zdf;exact Ii
def ClrTo(L L2:List RF)(r col i:Nat):Prop:=∀ j,j<L.length->Zdf L2 j=if j<=r \/ i<=j then Zdf L j else Zn5 (Zdf L r) (Zdf L j) col
theorem FH{G:Prop}(h:G:=by
 by_cases h1:j<=r \/ i<=j;rw[Gx h1,Gx Gk];rw[Gw h1,Gw Gk]):G:=h
theorem CC{G:Prop}(h:G:=by
 by_cases ic:j=i;subst ic;rw[Gx rfl,hx,Gw Gk];rw[Gw ic];exact FH):G:=h
theorem ClrTo.step{L L2:List RF}{r col i:Nat}{x:RF}(h:ClrTo L L2 r col i)(hl:L2.length=L.length)(hi:i<L.length)(hri:r<i)(hx:x.q=Zn5 (Zdf L r) (Zdf L i) col):ClrTo L (L2.set i x) r col (i+1):=by
 intro j hj;rw[Zst Gk,h j hj];exact CC
theorem Cj{G:Prop}(h:G:=by
 by_cases h1:i<=r;rw[Gx (Or.inl h1),Gx h1];rw[Gw Gk,Gw h1]):G:=h
theorem ClrTo.done{L L2:List RF}{r col:Nat}(h:ClrTo L L2 r col L.length)(hl:L2.length=L.length):L2.map RF.q=Zbt (L.map RF.q) r col:=by
 refine Z1a (by rw[Ze5];simpa using hl) (λi hi=>?_);rw[Ze5,Qz]at hi;rw[h i hi,Zjf (by simpa using hi),<- Znm,<- Znm];exact Cj
section
variable{P:Program}(w:World)
theorem Zax{o:Oper}{a:Act}{K:Act->World->Prop}{Q:Exit->Act->World->Prop}(s x:Operand)(t:TypeId)
    (ho:o.op=.call { callee:=.builtin .append,args:=#[s,x],argTypes:=#[t,t] })
    (base:Nat) (e:TypeId) (i:TypeInfo) (ht:P.underlying t=some (.slice e)) (hi:P.info? e=some i) (hz:i.zero=some (.slice none 0 0)) (hsi:i.size=1) (hby:i.bytes=24)
    (v:Value) (rs:List RS) (hs:a.eval s=v) (hown:RowS e w base v rs)
    (B:Nat) (A:Option Addr) (m c:Nat) (fs:List RS) (hx:a.eval x=.slice A m c) (hr:Reads w B 1 A m (Zan fs)) (hm:fs.length=m)
    (h63:rs.length+m<=1000) (hbase:base<=w.heap.size)
    (h:∀ v' w',RowS e w' base v' (rs++fs)->w.grownBy w' v.ownBlock->(∀ (A:Option Addr) (n c:Nat) (l:List Nat),Lim w A n c l->Lim w' A n c l)->K (a.put o.dst v') w'):o.wp P a w K Q:=by
 obtain⟨v',w',f,h3,h4⟩:=Zm1 (P:=P) w base t o.type e i ht hi hz hsi hby v rs hown B A m c fs hr hm h63 hbase;unfold Oper.wp execOp;simp only[ho,resolve,invoke,builtin,Sem.run_bind,Sem.run_pure,Result.andThen_ok,QK,Qq,Qv,hs,hx,f];exact h v' w' h3 h4 (λ_ _ _ _ hL=>hown.keep h4 hL)
end
theorem FL.reads{w:World}{A:Option Addr}{n c:Nat}{qs:List Rat}(h:FL w A n c qs):∃ fs:List FE,Reads w w.heap.size 4 A n (Zo fs)/\fs.length=n/\(∀ e ∈ fs,e.in_ w)/\fs.map FE.q=qs:=by
 obtain⟨es,h1,h2,h3,h4,h5,h6⟩:=h;refine⟨es,⟨by rw[Zq,h1],λhn=>?_⟩,h1,h4,h5⟩;obtain⟨g,o,e1,hc⟩:=h6 hn;refine⟨⟨g,o,none⟩,e1,?_,λj u hu=>?_⟩
 ·have:=(hc 0 es[0] (Qb Gk)).1
  exact Zn this
 rw[Zg]
 have hj:j<es.length*4:=by
  have:=(List.getElem?_eq_some_iff.1 hu).1
  rwa [Zq]at this
 have he:=Qb (show j/4<es.length by omega);have hg:=Zfj he;have hm:=hc (j/4) _ he;have h4:j%4=0 \/ j%4=1 \/ j%4=2 \/ j%4=3:=Gk;rcases h4 with h2|h2|h2|h2;rw[show j/4*4=j by omega]at hg hm;rw[hg.1]at hu;cases hu;exact hm.1;rw[show j/4*4+1=j by omega]at hg hm;rw[hg.2.1]at hu;cases hu;exact hm.2.1;rw[show j/4*4+2=j by omega]at hg hm;rw[hg.2.2.1]at hu;cases hu;exact hm.2.2.1;rw[show j/4*4+3=j by omega]at hg hm;rw[hg.2.2.2]at hu;cases hu;exact hm.2.2.2
theorem Zfl:(Tryz.prog.info? 41).map (λi=>(i.zero,i.size,i.bytes))=some (some (.agg #[.bool false,.slice none 0 0,.bool false,.slice none 0 0]),4,64):=by kernel_rfl
theorem Zkk:(Tryz.prog.info? 35).map (λi=>(i.zero,i.size,i.bytes))=some (some (.slice none 0 0),1,24):=by kernel_rfl
def MatO(tS tF:TypeId)(w:World)(base:Nat)(v:Value)(L:List RF):Prop:=
 RowS tS w base v (L.map RF.rs)/\(∀ r ∈ L,(FOwn tF w r.g r.q/\r.q.length<=r.c/\r.c<=maxLen)/\base<=r.g)/\(L.map RF.g).Nodup
theorem Blk.type{w:World}{g:Nat}{t t':TypeId}{cs cs':Array Value}(h:Blk w g t cs)(h':Blk w g t' cs'):t=t':=by
 unfold Blk at h h';rw[h]at h';cases h';rfl
section
variable{tS tF:TypeId}{w w':World}{base:Nat}{v v':Value}{L:List RF}
theorem MatO.nil(tS tF:TypeId)(w:World)(base:Nat):MatO tS tF w base (.slice none 0 0) []:=⟨.inl ⟨rfl,rfl⟩,λr hr=>(by cases hr),List.nodup_nil⟩
theorem MatO.kept(h:MatO tS tF w base v L)(hb:Below w.heap.size w w'):MatO tS tF w' base v L:=⟨h.1.kept hb,λr hr=>⟨⟨(h.2.1 r hr).1.1.below hb,(h.2.1 r hr).1.2⟩,(h.2.1 r hr).2⟩,h.2.2⟩
theorem RowS.ownType{rs:List RS}(h:RowS tS w base v rs){g:Nat}{cs:Array Value}(hb:Blk w g tF cs)(hne:tS≠tF):v.ownBlock≠some g:=by
 rintro e;rcases h with ⟨rfl,_⟩|⟨g',sp,rfl,_,_,h4⟩;cases e;have:g'=g:=by simpa [Value.ownBlock]using e
 subst this;exact hne (h4.type hb)
theorem FOwn.grown{g:Nat}{qs:List Rat}(h:FOwn tF w g qs)(hg:w.grownBy w' v.ownBlock)(hne:v.ownBlock≠some g)(hk:∀ (A:Option Addr) (n c:Nat) (l:List Nat),Lim w A n c l->Lim w' A n c l):FOwn tF w' g qs:=by
 obtain⟨es,zs,h1,h2,h3⟩:=h;exact⟨es,zs,(hg.block g h1.lt (λe=>hne (by first|exact e|exact e.symm))).trans h1,λe he=>(h2 e he).of_keep hk,h3⟩
theorem EQ{G:Prop}(h:G:=by
 refine⟨by rw[List.map_append];exact h1,λs hs=>?_,?_⟩
 ·rcases List.mem_append.1 hs with hs|hs
  ·have:=h.2.1 s hs
   exact⟨⟨this.1.1.grown hg (ow this.1.1) hk,this.1.2⟩,this.2⟩
  rw[List.mem_singleton]at hs;subst hs;exact⟨⟨hr.1.grown hg (ow hr.1) hk,hr.2⟩,hbr⟩
 rw[List.map_append,List.nodup_append];refine⟨h.2.2,by simp,λa ha b hb=>?_⟩;obtain⟨s,hs,rfl⟩:=List.mem_map.1 ha;simp only[List.map_cons,List.map_nil,List.mem_singleton]at hb;rw[hb];exact eC s hs):G:=h
theorem MatO.snoc(h:MatO tS tF w base v L)(hne:tS≠tF){r:RF}(hr:FOwn tF w r.g r.q/\r.q.length<=r.c/\r.c<=maxLen)(hbr:base<=r.g)(eC:∀ s ∈ L,s.g≠r.g)(h1:RowS tS w' base v' (L.map RF.rs ++ [r.rs]))(hg:w.grownBy w' v.ownBlock)
    (hk:∀ (A:Option Addr) (n c:Nat) (l:List Nat),Lim w A n c l->Lim w' A n c l):MatO tS tF w' base v' (L ++ [r]):=by
 have ow:∀ {s:RF},FOwn tF w s.g s.q->v.ownBlock≠some s.g:=λhs=>by obtain⟨es,zs,q1,-,-⟩:=hs;exact h.1.ownType q1 hne
 exact EQ
theorem MatO.mat(h:MatO tS tF w base v L)(hne:tS≠tF)(hl:L ≠ []):∃ go cap,v=.slice (some ⟨go,0,none⟩) L.length cap/\L.length<=cap/\cap<=maxLen/\base<=go/\MatB tS tF w go L/\∀ r ∈ L,base<=r.g:=by
 rcases h.1 with ⟨-,h2⟩|⟨go,sp,rfl,h2,h3,h4⟩;exact absurd (List.map_eq_nil_iff.1 h2) hl;refine⟨go,_,by rw[Qz],by rw[Qz];omega,h3,h2,⟨⟨_,h4⟩,λr hr=>(h.2.1 r hr).1,?_⟩,λr hr=>(h.2.1 r hr).2⟩;refine List.nodup_cons.2 ⟨λhm=>?_,h.2.2⟩;obtain⟨r,hr,e⟩:=List.mem_map.1 hm;obtain⟨es,zs,q1,-,-⟩:=(h.2.1 r hr).1.1;rw[e]at q1;exact hne (h4.type q1)
end
structure RZ where
 g:Nat
 q:List Int
def RZ.rs(r:RZ):RS:=⟨some ⟨r.g,0,none⟩,r.q.length,r.q.length⟩
def MatZ(tS tF:TypeId)(w:World)(go:Nat)(L:List RZ):Prop:=
 (∃ zs,Blk w go tS (Z5 (L.map RZ.rs++zs)))/\(∀ r ∈ L,POwn tF w r.g r.q/\r.q.length<=maxLen)/\(go::L.map RZ.g).Nodup
section
variable{tS tF:TypeId}{w w':World}{go:Nat}{L:List RZ}
theorem MatZ.below(h:MatZ tS tF w go L)(hb:Below w.heap.size w w'):MatZ tS tF w' go L:=by
 exact Ia
theorem MatZ.cell(h:MatZ tS tF w go L){i:Nat}{r:RZ}(hr:L[i]?=some r):w.cell? ⟨go,i,none⟩=some (.slice (some ⟨r.g,0,none⟩) r.q.length r.q.length)/\w.frozen? ⟨go,i,none⟩=false:=by
 exact FW
theorem MatZ.row(h:MatZ tS tF w go L){i:Nat}{r:RZ}(hr:L[i]?=some r):POwn tF w r.g r.q/\r.q.length<=maxLen:=h.2.1 r (Qf hr)
theorem MatZ.ne(h:MatZ tS tF w go L){i:Nat}{r:RZ}(hr:L[i]?=some r):go≠r.g:=λe=>by
 exact IP
theorem MatZ.ne2(h:MatZ tS tF w go L){i j:Nat}{r s:RZ}(hr:L[i]?=some r)(hs:L[j]?=some s)(aO:i≠j):r.g≠s.g:=λe=>by
 have hn:=(List.nodup_cons.1 h.2.2).2;have h1:(L.map RZ.g)[i]?=some r.g:=by rw[Qa,hr];rfl
 have h2:(L.map RZ.g)[j]?=some r.g:=by rw[Qa,hs,e];rfl
 exact Ig
theorem MatZ.boxes(h:MatZ tS tF w go L):∀ k,(k=go \/ k ∈ L.map RZ.g)->∃ t cs,Blk w k t cs/\NoLimb cs:=by
 exact FB
theorem MatZ.set_(h:MatZ tS tF w go L){i:Nat}{r:RZ}(hr:L[i]?=some r){k:Nat}(hk:k<r.q.length){na:Bool}{A:Option Addr}{n c:Nat}{x:Int}(hf:Wd w na A n c x) :
    MatZ tS tF ((w.setCell ⟨r.g,k*2,none⟩ (.bool na)).setCell ⟨r.g,k*2+1,none⟩ (.slice A n c)) go (L.set i ⟨r.g,r.q.set k x⟩):=by
 have u:=h.ne hr;have y:=λ{j:Nat} {s:RZ} (hs:L[j]?=some s) (aO:j≠i)=>h.ne2 hs hr aO;have o:=h.row hr;have hi:=(List.getElem?_eq_some_iff.1 hr).1;obtain⟨⟨zs,h1⟩,h2,h3⟩:=h;refine⟨⟨zs,?_⟩,λs hs=>?_,?_⟩
 ·have e:(L.set i ⟨r.g,r.q.set k x⟩).map RZ.rs=L.map RZ.rs:=by
    rw[Qt];apply Qk;intro j;rw[Qg];by_cases aO:i=j
    ·subst aO
     rw[Gx rfl,Gx (by simpa using hi),Qa,hr];simp[RZ.rs]
    rw[Gw aO]
  rw[e];exact(h1.far u _).far u _
 ·obtain⟨j,hj,C⟩:=QC hs
  have f:(L.set i ⟨r.g,r.q.set k x⟩)[j]?=some s:=by rw[Qb hj,C]
  rw[Qg]at f;by_cases aO:i=j
  ·subst aO
   rw[Gx rfl,Gx hi]at f;cases f;exact⟨o.1.set_ hk hf,by simpa using o.2⟩
  rw[Gw aO]at f;have:=h2 s (Qf f);exact⟨this.1.other o.1 (y f (Qw aO)) _ _ _ _ _,this.2⟩
 have e:(L.set i ⟨r.g,r.q.set k x⟩).map RZ.g=L.map RZ.g:=by
   exact FN
 rw[e];exact h3
theorem MatZ.swap(h:MatZ tS tF w go L){i j:Nat}{r s:RZ}(hr:L[i]?=some r)(hs:L[j]?=some s) :
    MatZ tS tF ((w.setCell ⟨go,i,none⟩ (.slice (some ⟨s.g,0,none⟩) s.q.length s.q.length)).setCell ⟨go,j,none⟩ (.slice (some ⟨r.g,0,none⟩) r.q.length r.q.length)) go (Zag L i j):=by
 have hi:=(List.getElem?_eq_some_iff.1 hr).1;have hj:=(List.getElem?_eq_some_iff.1 hs).1;have y:=λ{j:Nat} {s:RZ} (hs:L[j]?=some s)=>h.ne hs;obtain⟨⟨zs,h1⟩,h2,h3⟩:=h;have o:=h1.set_ i (.slice (some ⟨s.g,0,none⟩) s.q.length s.q.length);have J:NoLimb ((Z5 (L.map RZ.rs++zs)).setIfInBounds i (.slice (some ⟨s.g,0,none⟩) s.q.length s.q.length)):=Zgk (Za7 _) i (λx=>by simp);have O:=o.set_ j (.slice (some ⟨r.g,0,none⟩) r.q.length r.q.length)
 have hk:∀ (A:Option Addr) (n c:Nat) (l:List Nat),Lim w A n c l->Lim ((w.setCell ⟨go,i,none⟩ (.slice (some ⟨s.g,0,none⟩) s.q.length s.q.length)).setCell ⟨go,j,none⟩ (.slice (some ⟨r.g,0,none⟩) r.q.length r.q.length)) A n c l:=
  λA n c l hl=>(hl.set_box h1 (Za7 _) _ _).set_box o J _ _
 refine⟨⟨zs,?_⟩,λx hx=>?_,?_⟩
 ·have e:Z5 ((Zag L i j).map RZ.rs++zs)=((Z5 (L.map RZ.rs++zs)).setIfInBounds i (.slice (some ⟨s.g,0,none⟩) s.q.length s.q.length)).setIfInBounds j (.slice (some ⟨r.g,0,none⟩) r.q.length r.q.length):=by
    have e1:=Zdw (es:=L.map RZ.rs++zs) (i:=i) s.rs;have e2:=Zdw (es:=(L.map RZ.rs++zs).set i s.rs) (i:=j) r.rs;simp only[RZ.rs]at e1 e2;rw[e1,e2,Z0i hr hs];congr 1;rw[Qt,Qt,QA _ _ (by simpa using hi),QA _ _ (by simpa using hj)];rfl
  rw[e];exact O
 ·have f:=Zi6 L i j x hx
  obtain⟨es,q1,q2,q3⟩:=(h2 x f).1;obtain⟨k,I,C⟩:=QC f;have u:x.g≠go:=Qw (y (j:=k) (s:=x) (by rw[Qb I,C]));exact⟨⟨es,(q1.far u _).far u _,λe he=>⟨hk _ _ _ _ (q2 e he).1,(q2 e he).2⟩,q3⟩,(h2 x f).2⟩
 rw[List.nodup_cons]at h3 ⊢;rw[Zk5];refine⟨λhm=>h3.1 (Zi6 _ _ _ _ hm),Ztp h3.2 (by simpa using hi) (by simpa using hj)⟩
theorem MatZ.keptG{G:Nat->Prop}(h:MatZ tS tF w go L)(hk:Kept G w w')(hg:¬ G go)(hgs:∀ r ∈ L,¬ G r.g)(hG:∀ k,G k->∃ t cs,Blk w k t cs/\NoLimb cs):MatZ tS tF w' go L:=by
 obtain⟨⟨zs,h1⟩,h2,h3⟩:=h;refine⟨⟨zs,hk.blk h1 hg⟩,λr hr=>⟨?_,(h2 r hr).2⟩,h3⟩;obtain⟨es,q1,q2,q3⟩:=(h2 r hr).1;exact⟨es,hk.blk q1 (hgs r hr),λe he=>⟨hk.lim (q2 e he).1 hG,(q2 e he).2⟩,q3⟩
end
def Zat(L:List RZ)(i:Nat):List Int:=(L[i]?.map RZ.q).getD []
theorem Zhq{L:List RZ}{i:Nat}{r:RZ}(h:L[i]?=some r):Zat L i=r.q:=by unfold Zat;rw[h];rfl
theorem Zki(L:List RZ)(i j:Nat):Zaf (L.map RZ.q) i j=(Zat L i)[j]?.getD 0:=by unfold Zaf Zat;rw[Qa]
theorem Zkt(L:List RZ)(i:Nat):Zat L i=(L.map RZ.q)[i]?.getD []:=by unfold Zat;rw[Qa]
theorem Zxa{L:List RZ}{i j:Nat}{r:RZ}(hi:i<L.length):Zat (L.set i r) j=if j=i then r.q else Zat L j:=by
 unfold Zat;exact Ii
theorem Z0k{L:List RZ}{R:List (List Int)}(hl:L.length=R.length)(h:∀ i,i<R.length->Zat L i=R[i]?.getD []):L.map RZ.q=R:=by
 apply Qk;intro i;rw[Qa];by_cases hi:i<R.length
 ·have:=h i hi
  unfold Zat at this;exact FF
 rw[Qn Gk,Qn Gk];rfl
theorem Ztx{R:List (List Int)}{r col i:Nat}{last:Int}(hi:i<R.length):(Zdv R r col last)[i]?.getD []=if i<=r then R[i]?.getD []else Zrn (R[r]?.getD []) (R[i]?.getD []) col (Zaf R r col) last:=by
 unfold Zdv;rw[Qa,Qr hi];rfl
theorem rowZ_eq{p row q:List Int}{col:Nat}{piv last:Int}(hl:q.length=row.length)(h:∀ t,q[t]?.getD 0=if t<row.length then Int.fdiv (row[t]?.getD 0*piv-row[col]?.getD 0*p[t]?.getD 0) last else row[t]?.getD 0):q=Zrn p row col piv last:=by
 apply Qk;intro t;unfold Zrn;rw[Qa];have:=h t;by_cases ht:t<row.length
 ·rw[Qr ht]
  rw[Qb (show t<q.length by omega)]at this ⊢;simp only[QO,Qy]at this ⊢;rw[this,Gx ht]
 exact IM
theorem Zy7{row q:List Int}{k:Nat}{x:Int}{f:Nat->Int}(hl:q.length=row.length)(hkl:k<row.length)(hx:x=f k)(h:∀ t,q[t]?.getD 0=if t<k then f t else row[t]?.getD 0) :
    ∀ t,(q.set k x)[t]?.getD 0=if t<k+1 then f t else row[t]?.getD 0:=by
 intro t;rw[Qg];by_cases ht:k=t
 ·subst ht
  rw[Gx rfl,Gx Gk,Gx Gk,hx];rfl
 rw[Gw ht,h t];by_cases h1:t<k;rw[Gx h1,Gx Gk];rw[Gw h1,Gw Gk]
theorem IB{G:Prop}(h:G:=by
 exact⟨cn,_,_,_,_,rfl,st.1 _ _ _ _ _ ev.out⟩):G:=h
theorem Zih(na nb:Bool)(A B:Option Addr)(n c m d:Nat)(a b:Int)(w:World)(ha:Wd w na A n c a)(hb:Wd w nb B m d b)(hs:(a*b).natAbs<pw 4096) :
    Calls Tryz.prog 139 #[.agg #[.bool na,.slice A n c],.agg #[.bool nb,.slice B m d]] w (NumW w (a*b)):=by
 obtain⟨W0,u,f,⟨q0,q1,q2⟩,s0⟩:=Zb1 w 39 #[.bool na,.slice A n c] 39 #[.bool nb,.slice B m d] 39 #[.bool false,.slice none 0 0];have hA:=ha.below f;have hD:=hb.below f;have hC:=Za (Zjb na nb A B n c m d a b W0 hA hD);clear ha hb hA hD;obtain⟨a0,a1,-⟩:=q0.two;obtain⟨b0,b1,-⟩:=q1.two;replace q2:=Za q2;replace hs:=Za hs;clear q0 q1;go_in;go_wp2_with fail;refine hC.out.mono ?_;rintro e w1 ⟨h,n2,A2,k2,c2,code,rfl,hR⟩;have hN:=hR.small hs.out;have o:=Gs f h;have s1:=h.size;have q3:=Zc h q2.out;clear h a0 a1 b0 b1 u hR hC q2;obtain⟨V,hV,y,qv,kW,kB,sV⟩:=Zp 39 #[.bool n2,.slice A2 k2 c2] o o.size;have q4:=kB _ _ _ q3;have ev:=Za (kW _ _ _ _ _ hN);clear kW kB hN;obtain⟨v0,v1,v2,v3⟩:=qv.two;obtain⟨r0,r1,r2,r3⟩:=q4.two;go_wp2_with fail;obtain⟨X,hX,cn,q5,st⟩:=Zar n2 A2 k2 c2 y Gk q4;(try rw[hX]);obtain⟨y0,y1,-⟩:=q5.two;refine bodyPost_ret (v:=.agg #[.bool n2,.slice A2 k2 c2]) (by simp[results,Tryz.results139,go_sem,y0,y1]) rfl ?_;exact IB
theorem lsub_ok(na nb:Bool)(A B:Option Addr)(n c m d:Nat)(a b:Int)(w:World)(ha:Wd w na A n c a)(hb:Wd w nb B m d b)(hs:(a-b).natAbs<pw 4096) :
    Calls Tryz.prog 176 #[.agg #[.bool na,.slice A n c],.agg #[.bool nb,.slice B m d]] w (NumW w (a-b)):=by
 obtain⟨W0,u,f,⟨q0,q1,q2⟩,s0⟩:=Zb1 w 39 #[.bool na,.slice A n c] 39 #[.bool nb,.slice B m d] 39 #[.bool false,.slice none 0 0];have hA:=ha.below f;have hD:=hb.below f;have hC:=Za (Zum na nb A B n c m d a b W0 hA hD);clear ha hb hA hD;obtain⟨a0,a1,-⟩:=q0.two;obtain⟨b0,b1,-⟩:=q1.two;replace q2:=Za q2;replace hs:=Za hs;clear q0 q1;go_in;go_wp2_with fail;refine hC.out.mono ?_;rintro e w1 ⟨h,n2,A2,k2,c2,code,rfl,hR⟩;have hN:=hR.small hs.out;have o:=Gs f h;have s1:=h.size;have q3:=Zc h q2.out;clear h a0 a1 b0 b1 u hR hC q2;obtain⟨V,hV,y,qv,kW,kB,sV⟩:=Zp 39 #[.bool n2,.slice A2 k2 c2] o o.size;have q4:=kB _ _ _ q3;have ev:=Za (kW _ _ _ _ _ hN);clear kW kB hN;obtain⟨v0,v1,v2,v3⟩:=qv.two;obtain⟨r0,r1,r2,r3⟩:=q4.two;go_wp2_with fail;obtain⟨X,hX,cn,q5,st⟩:=Zar n2 A2 k2 c2 y Gk q4;(try rw[hX]);obtain⟨y0,y1,-⟩:=q5.two;refine bodyPost_ret (v:=.agg #[.bool n2,.slice A2 k2 c2]) (by simp[results,Tryz.results176,go_sem,y0,y1]) rfl ?_;exact IB
theorem Zpz(na nb:Bool)(A B:Option Addr)(n c m d:Nat)(a b:Int)(w:World)(ha:Wd w na A n c a)(hb:Wd w nb B m d b)(h0:b≠0) :
    Calls Tryz.prog 173 #[.agg #[.bool na,.slice A n c],.agg #[.bool nb,.slice B m d]] w (NumW w (Int.fdiv a b)):=by
 obtain⟨W0,C,h,⟨q0,q1,q2⟩,s0⟩:=Zb1 w 39 #[.bool na,.slice A n c] 39 #[.bool nb,.slice B m d] 39 #[.bool false,.slice none 0 0];have hA:=ha.below h;have hD:=hb.below h;have hC:=Za (Zf6 na nb A B n c m d a b W0 hA hD h0);clear ha hb hA hD;obtain⟨a0,a1,-⟩:=q0.two;obtain⟨b0,b1,-⟩:=q1.two;replace q2:=Za q2;replace h0:=Za h0;clear q0 q1;go_in;go_wp2_with fail;refine hC.out.mono ?_;rintro e w1 ⟨o,n2,A2,k2,c2,n3,A3,k3,c3,rfl,hN,-⟩;have u:=Gs h o;have s1:=o.size;have q3:=Zc o q2.out;clear o a0 a1 b0 b1 C hC q2;obtain⟨V,hV,I,qv,kW,kB,sV⟩:=Zp 39 #[.bool n2,.slice A2 k2 c2] u u.size;have q4:=kB _ _ _ q3;have ev:=kW _ _ _ _ _ hN;clear kW kB hN;obtain⟨V2,f,y,J,kW,kB,O⟩:=Zp 39 #[.bool n3,.slice A3 k3 c3] I Gk;replace q4:=kB _ _ _ q4;replace qv:=kB _ _ _ qv;replace ev:=Za (kW _ _ _ _ _ ev);clear kW kB;obtain⟨v0,v1,v2,v3⟩:=qv.two;obtain⟨r0,r1,r2,r3⟩:=q4.two;rw[<- hV]at f;rw[<- f]at v0 v1 v2 v3 r0 r1 r2 r3;replace f:=Za f;clear hV;go_wp2_with fail;(try rw[f.out]);obtain⟨X,hX,cn,q5,st⟩:=Zar n2 A2 k2 c2 y Gk q4;(try rw[hX]);obtain⟨y0,y1,-⟩:=q5.two;refine bodyPost_ret (v:=.agg #[.bool n2,.slice A2 k2 c2]) (by simp[results,Tryz.results173,go_sem,y0,y1]) rfl ?_;exact IB
theorem Zxo(neg:Bool)(A:Option Addr)(n c:Nat)(w:World)(hn:n<=1000000000)(b:Bool)(hb:((n:Int) == 0)=b) :
    Calls Tryz.prog 174 #[.agg #[.bool neg,.slice A n c]] w λe w'=>e=.returned (.bool b)/\Below w.heap.size w w':=by
 go_in;go_wp2_with fail;go_ret;exact⟨rfl,by go_grown⟩
theorem Zk1(na nb:Bool)(A B:Option Addr)(n c m d:Nat)(za zb:Int)(w:World)(ha:Wd w na A n c za)(hb:Wd w nb B m d zb) :
    Calls Tryz.prog 119 #[.agg #[.bool na,.slice A n c],.agg #[.bool nb,.slice B m d]] w (ResW w (za+zb)):=by
 have aZ:=ha.lim;have aM:=hb.lim;have hn:=ha.2.1;have hm:=hb.2.1;have y:∀ X Y Z V:Obj,Below w.heap.size w ((((w.alloc X).alloc Y).alloc Z).alloc V):=λX Y Z V=>((((Qj w.heap.size w).alloc (Qc _) _).alloc Gh _).alloc Gg _).alloc Gg _
 have hW:∀ X Y Z t,WL ((((w.alloc X).alloc Y).alloc Z).alloc (.cells #[.bool na,.slice A n c,.bool nb,.slice B m d] t)) (some ⟨w.heap.size+1+1+1,0,none⟩) 2 2 [⟨na,A,n,c,digits za.natAbs⟩,⟨nb,B,m,d,digits zb.natAbs⟩]:=λX Y Z t=>by
  exact Cf
 have hW:=Za hW;have y:=Za y;have u:Hid (okW na (digits za.natAbs)=true/\okW nb (digits zb.natAbs)=true):=⟨ha.ok,hb.ok⟩;have U:=Za ha.sgEq;have a0:=Za hb.sgEq;clear ha hb;go_in;go_wp2_with fail;refine(Zdm (hW.out _ _ _ _) (by have:=u.out;simp[WE.ok,this])).mono ?_;rintro e w1 ⟨rfl,ae⟩;obtain⟨f,T⟩:=Zcz ae;have a1:w.heap.size+1+1+1<w1.heap.size:=by have:=ae.size;simp at this;omega
 have h:Below w.heap.size w w1:=(y.out _ _ _ _).trans (ae.mono Gg);have g0:w1.cell? ⟨w.heap.size,0,none⟩=some (.bool na):=by simp[f,go_sem]
 have g1:w1.cell? ⟨w.heap.size,1,none⟩=some (.slice A n c):=by simp[f,go_sem]
 have g2:w1.cell? ⟨w.heap.size+1,0,none⟩=some (.bool nb):=by simp[f,go_sem]
 have g3:w1.cell? ⟨w.heap.size+1,1,none⟩=some (.slice B m d):=by simp[f,go_sem]
 have gf:w1.frozen? ⟨w.heap.size+1,0,none⟩=false:=by simp[T,go_sem]
 have gB:Blk w1 (w.heap.size+1) 39 #[.bool nb,.slice B m d]:=by
  exact Cc
 have g7:Blk w1 (w.heap.size+1+1) 39 #[.bool false,.slice none 0 0]:=by
  refine Zc ae (Blk.alloc ?_ _);exact Ew
 have I:=aZ.below h;have C:=aM.below h;have HB:=Za gB;clear gB f T;go_wp2_with fail;refine(Zws _ _ _ _ _ _ _ _ _ _ _ (by exact I) (by exact C) hn hm).mono ?_;rintro e w2 ⟨O,J,A2,n2,c2,o,rfl,dG⟩;have aD:Below w.heap.size w w2:=Gs h O;have m7:=Zc O g7;have m3:=m7.cell 0;have m4:=m7.cell 1;have m5:=m7.frozen 0;have m6:=m7.frozen 1;simp at m3 m4;have HM:=Za m7;clear m7;go_wp2_with fail
 have HZ:sg na za.natAbs+sg nb zb.natAbs=za+zb:=by
  have h1:=U.out;have h2:=a0.out;rw[Zh]at h1 h2;rw[h1,h2]
 refine bodyPost_ret (v:=.tuple #[.agg #[.bool J,.slice A2 n2 c2],.int .i64 o]) (by simp[results,Tryz.results119,go_sem,m3,m4]) rfl ?_;exact Fg
attribute [local go_sem] Zg Oper.semAt_some
def Zce(ws:List Int)(a b:Nat->Int):Nat->Int
 | 0=>0
 | i+1=>Zce ws a b i+(ws[i]?.getD 0)*(a i*b i)
def Zip(v:Value)(z:Int)(w:World):Prop:=∃ na A n c,v=.agg #[.bool na,.slice A n c]/\Wd w na A n c z
def numT(v:Value)(z:Int)(w:World):Prop:=∃ na A n c,v=.tuple #[.agg #[.bool na,.slice A n c],.int .i64 0]/\Wd w na A n c z
theorem Zdt{v:Value}{z:Int}{w w':World}(hb:Below w.heap.size w w')(h:Zip v z w):Zip v z w':=by
 obtain⟨na,A,n,c,e,hf⟩:=h;exact⟨na,A,n,c,e,hf.below hb⟩
theorem Zvb{v:Value}{z:Int}{w w':World}(hb:Below w.heap.size w w')(h:numT v z w):numT v z w':=by
 obtain⟨na,A,n,c,e,hf⟩:=h;exact⟨na,A,n,c,e,hf.below hb⟩
def Ze3(x a b s:Int)(i:Nat)(v:Value)(w:World):Prop:=
 if i=2 then Zip v x w else if i=5 then v=.int .i64 a else if i=6 then Zip v a w else if i=9 then v=.int .i64 b else if i=10 then Zip v b w
 else if i=11 then Zip v (a*b) w else if i=12 then Zip v (x*(a*b)) w else if i=13 \/ i=14 then numT v (s+x*(a*b)) w else if i=15 then Zip v (s+x*(a*b)) w else if i=16 then v=.int .i64 0 else True
theorem Ztw{x a b s:Int}{i:Nat}{v:Value}{w w':World}(hb:Below w.heap.size w w')(h:Ze3 x a b s i v w):Ze3 x a b s i v w':=by
 unfold Ze3 at h ⊢
 split at h
 rename_i e;rw[Gx e];exact Zdt hb h;rename_i e;rw[Gw e];clear e
 split at h
 rename_i e;rw[Gx e];exact h;rename_i e;rw[Gw e];clear e
 split at h
 rename_i e;rw[Gx e];exact Zdt hb h;rename_i e;rw[Gw e];clear e
 split at h
 rename_i e;rw[Gx e];exact h;rename_i e;rw[Gw e];clear e
 split at h
 rename_i e;rw[Gx e];exact Zdt hb h;rename_i e;rw[Gw e];clear e
 split at h
 rename_i e;rw[Gx e];exact Zdt hb h;rename_i e;rw[Gw e];clear e
 split at h
 rename_i e;rw[Gx e];exact Zdt hb h;rename_i e;rw[Gw e];clear e
 split at h
 rename_i e;rw[Gx e];exact Zvb hb h;rename_i e;rw[Gw e];clear e
 split at h
 rename_i e;rw[Gx e];exact Zdt hb h;rename_i e;rw[Gw e];clear e
 split at h
 rename_i e;rw[Gx e];exact h;rename_i e;rw[Gw e];trivial
def Zi1(B0:Nat)(q:Rat)(i:Nat)(v:Value)(w:World):Prop:=
 if i=1 then Zip v 1 w else Zas B0 q 2 3 4 5 6 5 i v w
theorem Zve{B0:Nat}{q:Rat}{i:Nat}{v:Value}{w w':World}(hb:Below w.heap.size w w')(h:Zi1 B0 q i v w):Zi1 B0 q i v w':=by
 unfold Zi1 at h ⊢
 split at h
 rename_i e;rw[Gx e];exact Zdt hb h;rename_i e;rw[Gw e];exact Zhj hb h
theorem Zp9{z:Int}(h:I64 z):z.natAbs<=9223372036854775808:=by unfold I64 at h;omega
theorem big6:9223372036854775808*(9223372036854775808*9223372036854775808)*1000<pw 4096:=
 Qi (show _<pw 7 from by decide) (Zbm Gj)
theorem Zou{a b:Int}(ha:I64 a)(hb:I64 b):(a*b).natAbs<=9223372036854775808*9223372036854775808:=by
 rw[Ql];exact Nat.mul_le_mul (Zp9 ha) (Zp9 hb)
theorem Zlp{x a b:Int}(hx:I64 x)(ha:I64 a)(hb:I64 b):(x*(a*b)).natAbs<=9223372036854775808*(9223372036854775808*9223372036854775808):=by
 rw[Ql];exact Nat.mul_le_mul (Zp9 hx) (Zou ha hb)
theorem two_pw{a b:Int}(ha:I64 a)(hb:I64 b):(a*b).natAbs<pw 4096:=
 Qd (Zou ha hb) (Nat.lt_trans Gj big6)
theorem Z1t{x a b:Int}(hx:I64 x)(ha:I64 a)(hb:I64 b):(x*(a*b)).natAbs<pw 4096:=
 Qd (Zlp hx ha hb) (Nat.lt_trans Gj big6)
theorem Zkl{l:List Int}(h:∀ x ∈ l,I64 x)(i:Nat):I64 (l[i]?.getD 0):=by
 rcases Nat.lt_or_ge i l.length with h1|h1;rw[Qb h1];exact h _ (List.getElem_mem _);rw[Qn h1];unfold I64;decide
theorem Zo0{ws:List Int}{a b:Nat->Int}(hw:∀ x ∈ ws,I64 x):∀ (i:Nat),(∀ j,j<i->I64 (a j)/\I64 (b j))->(Zce ws a b i).natAbs<=9223372036854775808*(9223372036854775808*9223372036854775808)*i
 | 0,_=>by simp[Zce]
 | i+1,h=>by
  have h1:=Zo0 hw i (λj hj=>h j Gk);have h2:=Zlp (Zkl hw i) (h i Gk).1 (h i Gk).2;have h3:=Int.natAbs_add_le (Zce ws a b i) ((ws[i]?.getD 0)*(a i*b i));rw[Nat.mul_add,Nat.mul_one];show (Zce ws a b i+(ws[i]?.getD 0)*(a i*b i)).natAbs<=_;exact QI h3 (Nat.add_le_add h1 h2)
theorem dotZ_pw{ws:List Int}{a b:Nat->Int}(hw:∀ x ∈ ws,I64 x){i:Nat}(hi:i<=1000)(h:∀ j,j<i->I64 (a j)/\I64 (b j)):(Zce ws a b i).natAbs<pw 4096:=
 Qd (Zo0 hw i h) (Qd (Nat.mul_le_mul_left _ hi) big6)
theorem Wd.same{w:World}{na:Bool}{A:Option Addr}{n c:Nat}{y z:Int}(h:Wd w na A n c y)(e:y=z):Wd w na A n c z:=e▸h
theorem FG{G:Prop}(h:G:=by
 have h:=Rat.num_divInt_den ((z:Int):Rat);rw[Rat.num_intCast,Rat.den_intCast]at h;exact h):G:=h
theorem Zko(z:Int):Qp z 1=(z:Rat):=by
 exact FG
theorem dot2{x a b s:Int}{v:Value}{w:World}(h:Ze3 x a b s 2 v w):Zip v x w:=h
theorem dot5{x a b s:Int}{v:Value}{w:World}(h:Ze3 x a b s 5 v w):v=.int .i64 a:=h
theorem dot6{x a b s:Int}{v:Value}{w:World}(h:Ze3 x a b s 6 v w):Zip v a w:=h
theorem dot9{x a b s:Int}{v:Value}{w:World}(h:Ze3 x a b s 9 v w):v=.int .i64 b:=h
theorem dot10{x a b s:Int}{v:Value}{w:World}(h:Ze3 x a b s 10 v w):Zip v b w:=h
theorem dot11{x a b s:Int}{v:Value}{w:World}(h:Ze3 x a b s 11 v w):Zip v (a*b) w:=h
theorem dot12{x a b s:Int}{v:Value}{w:World}(h:Ze3 x a b s 12 v w):Zip v (x*(a*b)) w:=h
theorem dot13{x a b s:Int}{v:Value}{w:World}(h:Ze3 x a b s 13 v w):numT v (s+x*(a*b)) w:=h
theorem dot14{x a b s:Int}{v:Value}{w:World}(h:Ze3 x a b s 14 v w):numT v (s+x*(a*b)) w:=h
theorem dot15{x a b s:Int}{v:Value}{w:World}(h:Ze3 x a b s 15 v w):Zip v (s+x*(a*b)) w:=h
theorem dot16{x a b s:Int}{v:Value}{w:World}(h:Ze3 x a b s 16 v w):v=.int .i64 0:=h
theorem end1{B0:Nat}{q:Rat}{v:Value}{w:World}(h:Zi1 B0 q 1 v w):Zip v 1 w:=h
theorem ET{G:Prop}(h:G:=by
 rintro e w5 ⟨ar,bZ,A5,k5,c5,rfl,ay⟩;exact hK.out _ _ ⟨_,rfl,(by simp only[Ze3];exact⟨_,_,_,_,rfl,ay⟩),ar,trivial⟩):G:=h
theorem Zwv(Fa Fb:FuncId)(V U:Array Value)(A:Option Addr)(n c:Nat)(ws:List Int)(a b:Nat->Int)(w:World)(h:LimI w A n c ws)(hn:n<=900)
    (ha:∀ i,i<n->I64 (a i)) (hb:∀ i,i<n->I64 (b i))
    (hca:∀ (x:Value) (W:World),(callFunc Fa (#[x]++V)).run Tryz.prog W=.ok (.enter Fa (#[x]++V)) W)
    (hcb:∀ (x:Value) (W:World),(callFunc Fb (#[x]++U)).run Tryz.prog W=.ok (.enter Fb (#[x]++U)) W)
    (hA:∀ (W:World) (i:Nat),Below w.heap.size w W->i<n->Calls Tryz.prog Fa (#[.int .i64 i]++V) W λe W'=>e=.returned (.int .i64 (a i))/\Below W.heap.size W W')
    (hB:∀ (W:World) (i:Nat),Below w.heap.size w W->i<n->Calls Tryz.prog Fb (#[.int .i64 i]++U) W λe W'=>e=.returned (.int .i64 (b i))/\Below W.heap.size W W') :
    Calls Tryz.prog 94 #[.slice A n c,.func (.func Fa) #[] V,.func (.func Fb) #[] U] w (Zdn w ((Zce ws a b n:Int):Rat)):=by
 have hmx:=Gt;have f6:=h.1;have f7:=h.2.1;have f0:=h.2.2.1;unfold maxLen at f0;have e1:=Za h.2.2.2.1;have hg:=Za h.2.2.2.2;replace hA:=Za hA;replace hB:=Za hB;have e4:=Za ha;have d6:=Za hb;clear h ha hb;obtain⟨W0,e3,e5,⟨q0,q1⟩,s0⟩:=Zdl w 41 #[.bool false,.slice none 0 0,.bool false,.slice none 0 0] 39 #[.bool false,.slice none 0 0];obtain⟨gr,a3⟩:=Gz w.heap.size;rw[a3]at q0 q1;obtain⟨gs,a4⟩:=Gz (gr+1);rw[a4]at q1;have f5:w.heap.size<=gr:=Gk;have e0:w.heap.size<=gs:=Gk;have e2:gr≠gs:=Gk;have d7:Wd W0 false none 0 0 0:=Wd.zero _;go_in;go_wp2_with fail;(try rw[e3]);(try rw[a3]);(try rw[a4]);replace a3:=Za a3;replace a4:=Za a4;clear e3 s0
 go_loopw [14] (λiv wr=>∃ (i:Nat) (sn:Bool) (sA:Option Addr) (sk sc:Nat),i<=n/\iv=.int .i64 i/\Wd wr sn sA sk sc (Zce ws a b i)/\Blk wr gs 39 #[.bool sn,.slice sA sk sc]/\Blk wr gr 41 #[.bool false,.slice none 0 0,.bool false,.slice none 0 0]/\Below w.heap.size w wr) (λiv _=>n-(intOf iv).toNat)
 case atStart=>exact⟨0,false,none,0,0,QG _,rfl,d7,q1,q0,e5⟩
 case round =>
  clear q0 q1 e5 d7;obtain⟨i,sn,sA,sk,sc,f8,rfl,hs,qs,qr,I⟩:=hrel;obtain⟨s0,s1,s2,s3⟩:=qs.two;replace hs:=Za hs;replace qs:=Za qs;replace qr:=Za qr;by_cases hin:i<n
  case neg =>
   obtain rfl:n=i:=Gk;have f3:decide ((n:Int)<(n:Int))=false:=Gh;generalize Zce ws a b n=D at *;go_wp2_with fail;have J:Hid (∀ wx,Below wr.heap.size wr wx->wx.cell? ⟨gs,0,none⟩=some (.bool sn)/\wx.cell? ⟨gs,1,none⟩=some (.slice sA sk sc)):=Za (λwx f=>⟨Zb f s0,Zb f s1⟩);have C:Below wr.heap.size wr wr.drew:=Zf (Qj _ _) 1;refine wp_heldS [] hmx J C (λhxs2=>?_);refine Zj5 1 [0] rfl Gi (J.out _ C) ?_
   (refine tkA ?_;try simp only[Qx,Zg7,Zgl,Zg1,Gr,Gq,Gp])
   refine tk0 ?_;refine Za5 [(1,39),(2,40),(3,37),(4,41),(6,10)] (λi=>match i with|3=>[5]|_=>[]) [(1,39),(2,40),(3,37),(5,42),(4,41),(6,10)] (Zi1 wr.heap.size (D:Rat)) 2 Gi (λ_ _ _ _ _ hb h=>Zve hb h) (λwx h=>J.out _ (Gs C h)) ?hop2 ?hfin2
   case hop2 =>
    intro p hp;simp only[List.mem_cons,QL,or_false]at hp;simp only[Qq,Qv,Zal,Qx,Zg7,Zgl,Zg1];rcases hp with rfl|rfl|rfl|rfl|rfl
    ·intro ν wx hb hP
     refine Zm (i:=1) rfl (λK hK=>?_);go_simp;refine(Zb2 1 wx Gj Gj).mono ?_;rintro e w5 ⟨ar,bZ,A5,k5,c5,rfl,ay⟩;exact hK.out _ _ ⟨_,rfl,(by simp only[Zi1,Zas];exact⟨_,_,_,_,rfl,ay⟩),ar,trivial⟩
    ·intro ν wx hb hP
     have f:=Gs C hb;have h3:=end1 (hP (1,39) Gh Gi);obtain⟨a2,A3,k3,c3,hν3,O⟩:=h3;rw[hν3];obtain rfl:a2=false:=O.1;refine Zm (i:=2) rfl (λK hK=>?_);go_simp;refine(Zgg sn sA A3 sk sc k3 c3 D 1 wx (hs.out.below f) O Gj).mono ?_;rintro e w5 ⟨ar,bZ,A5,k5,c5,e6,B5,m5,d5,rfl,ay⟩;rw[Zko]at ay;exact hK.out _ _ ⟨_,rfl,(by simp only[Zi1,Zas];exact⟨_,_,_,_,_,_,_,_,rfl,ay⟩),ar,trivial⟩
    ·intro ν wx hb hP
     have h0:=hP (2,40) Gh Gi;simp only[Zi1,Zas]at h0;obtain⟨bZ,A5,k5,c5,e6,B5,m5,d5,hν,ay⟩:=h0;rw[hν];refine Zm (i:=3) rfl (λK hK=>?_);go_simp;refine hK.out _ _ ⟨_,rfl,(by simp only[Zi1,Zas];exact⟨_,_,_,_,_,_,_,_,rfl,ay⟩),Qj _ _,?_⟩;exact⟨_,.int .i64 0,rfl,Or.inl ⟨by kernel_rfl,λW2 _=>by go_simp⟩,by simp[Zi1,Zas],trivial⟩
    ·intro ν wx hb hP
     have h0:=hP (3,37) Gh Gi;simp only[Zi1,Zas]at h0;obtain⟨bZ,A5,k5,c5,e6,B5,m5,d5,hν,ay⟩:=h0;rw[hν];refine Zm (i:=4) rfl (λK hK=>?_);go_simp;exact hK.out _ _ ⟨_,rfl,(by simp only[Zi1,Zas];exact⟨_,_,_,_,_,_,_,_,rfl,ay⟩),Qj _ _,trivial⟩
    intro ν wx hb hP;refine Zm (i:=6) rfl (λK hK=>?_);go_simp;exact hK.out _ _ ⟨_,rfl,(by simp only[Zi1,Zas];exact⟨_,rfl,(Gs C hb).size,Blk.new _ _ _⟩),(Qj _ _).alloc (Qc _) _,trivial⟩
   case hfin2 =>
    intro ν wx hb hP;have h0:=end1 (hP (1,39) Gh);have h1:=hP (2,40) Gh;have h2:=hP (3,37) Gh;have h3:=hP (5,42) Gh;have h4:=hP (4,41) Gh;have h5:=hP (6,10) Gh;simp only[Zi1,Zas]at h1 h2 h4 h5;obtain⟨_,_,_,_,h0,-⟩:=h0;obtain⟨_,_,_,_,_,_,_,_,h1,-⟩:=h1;obtain⟨_,_,_,_,_,_,_,_,h2,-⟩:=h2;obtain⟨fn,fA,fk,fc,fm,fB,fj,fd,h4,d9⟩:=h4;obtain⟨gv,h5,kv,qv⟩:=h5;simp only[Qq,Qv,Zal,Qx,Zg7,Zgl,Zg1];rw[h0,h1,h2,(show ν 42=Value.int .i64 0 by simpa [Zi1,Zas]using h3),h4,h5];clear h0 h1 h2 h3 h4 h5 hP ν;have f:=Gs C hb;have a9:=Zc f qr.out;have d8:gr≠gv:=by have:=qr.out.lt;omega
    obtain⟨V,hV,f4,q6,kV⟩:=Z7 (B:=gv) fn fA fk fc fm fB fj fd (Qj gv wx) (Qc _) qv
    have a8:Below w.heap.size w V:=by
     rw[<- hV];have b8:w.heap.size<=gv:=QI I.size kv;exact((((Gs I f).setCell (p:=⟨gv,0,none⟩) b8 _).setCell (p:=⟨gv,1,none⟩) b8 _).setCell (p:=⟨gv,2,none⟩) b8 _).setCell (p:=⟨gv,3,none⟩) b8 _
    have c7:Hid (Below wr.heap.size wr V):=Za (by rw[<- hV];exact(((f.setCell (p:=⟨gv,0,none⟩) kv _).setCell (p:=⟨gv,1,none⟩) kv _).setCell (p:=⟨gv,2,none⟩) kv _).setCell (p:=⟨gv,3,none⟩) kv _);have c6:=Za (Fr.keep d9 kV.1);have Y:=kV.2.1 gr _ _ d8 a9;obtain⟨y0,y1,y2,y3,y4,y5,y6,y7⟩:=qv.four;replace q6:=Za q6;replace Y:=Za Y;replace a8:=Za a8;clear d9 kV a9 f4 qv;refine wpAnyL_o 7 λK hK=>?_;go_simp;(try rw[hV]);refine hK.out _ _ (λ_=>J.out _ (c7.out)) ?_;clear hK K
    try simp only[Qx,Zg7,Zgl,Zg1]
    refine Zgm 1 [8] rfl Gi (J.out _ c7.out) ?_
    (refine tkA ?_;try simp only[Qx,Zg7,Zgl,Zg1,Gr,Gq,Gp])
    refine tk0 ?_;refine wpAnyL_fin ?_;clear hV y0 y1 y2 y3 y4 y5 y6 y7 f hb C J hxs2 s0 s1 c7;obtain⟨z0,z1,z2,z3,-⟩:=q6.out.four;obtain⟨r0,r1,r2,r3,r4,r5,r6,r7⟩:=Y.out.four;go_wp2_with fail;obtain⟨X,hX,e8,q8,st⟩:=Z7 fn fA fk fc fm fB fj fd a8.out f5 Y.out;(try rw[hX]);obtain⟨x0,x1,x2,x3,-⟩:=q8.four;refine bodyPost_ret (v:=.agg #[.bool fn,.slice fA fk fc,.bool fm,.slice fB fj fd]) (by simp[results,Tryz.results94,go_sem,x0,x1,x2,x3]) rfl ?_;exact⟨e8,_,_,_,_,_,_,_,_,rfl,Fr.keep c6.out st.1⟩
  have f3:decide ((i:Int)<(n:Int))=true:=Gv Gk;obtain⟨g,o,rfl,d0⟩:=hg.out Gk;have ci:=(I.cell (Zn (d0 i hin))).trans (d0 i hin);clear d0;have hx:=Zkl e1.out i;have ha:=e4.out i hin;have a6:=d6.out i hin;have a1:(Zce ws a b i+(ws[i]?.getD 0)*(a i*b i)).natAbs<pw 4096:=dotZ_pw (i:=i+1) e1.out Gk (λj hj=>⟨e4.out j Gk,d6.out j Gk⟩);have y:Zce ws a b (i+1)=Zce ws a b i+(ws[i]?.getD 0)*(a i*b i):=rfl;rw[<- y]at a1;replace y:=Za y;obtain⟨x,c2⟩:=Gz (ws[i]?.getD 0);obtain⟨a0,b1⟩:=Gz (a i);obtain⟨b0,b2⟩:=Gz (b i);obtain⟨s,c9⟩:=Gz (Zce ws a b i);replace y:=y.out;rw[c2,b1,b2,c9]at y;rw[y]at a1;rw[c2]at hx ci;rw[b1]at ha;rw[b2]at a6;rw[c9]at hs;replace a1:=Za a1;replace y:=Za y;replace b1:=Za b1;replace b2:=Za b2;clear c2 c9;go_wp2_with fail;have T:Hid (∀ wx,Below wr.heap.size wr wx->wx.cell? ⟨g,o+i,none⟩=some (.int .i64 x)/\wx.cell? ⟨gs,0,none⟩=some (.bool sn)/\wx.cell? ⟨gs,1,none⟩=some (.slice sA sk sc)):=Za (λwx f=>⟨Zb f ci,Zb f s0,Zb f s1⟩);have u:Below wr.heap.size wr wr.drew:=Zf (Qj _ _) 1;refine wp_heldS [17] hmx T u (λhxs1=>?_);refine Zj5 1 [0] rfl Gi (T.out _ u) ?_
  (refine tkA ?_;try simp only[Qx,Zg7,Zgl,Zg1,Gr,Gq,Gp])
  refine tk0 ?_;refine Zgm 5 [1,3,4,7,8] rfl Gi (T.out _ u) ?_
  iterate 5 (refine tkA ?_;try simp only[Qx,Zg7,Zgl,Zg1,Gr,Gq,Gp])
  refine tk0 ?_;refine Za5 [(2,22),(5,25),(6,26),(9,29),(10,30),(11,31),(12,32),(13,33),(14,19)] (λi=>match i with|14=>[15,16]|_=>[]) [(2,22),(5,25),(6,26),(9,29),(10,30),(11,31),(12,32),(13,33),(14,19),(15,34),(16,35)] (Ze3 x a0 b0 s) 1 Gi (λ_ _ _ _ _ hb h=>Ztw hb h) (λwx h=>T.out _ (Gs u h)) ?hop1 ?hfin1
  case hop1 =>
   intro p hp;simp only[List.mem_cons,QL,or_false]at hp;simp only[Qq,Qv,Zal,Qx,Zg7,Zgl,Zg1];rcases hp with rfl|rfl|rfl|rfl|rfl|rfl|rfl|rfl|rfl
   ·intro ν wx hb hP
    have f:=Gs u hb;refine Zm (i:=2) rfl (λK hK=>?_);go_simp;refine(Zb2 x wx hx.1 hx.2).mono ?_;exact ET
   ·intro ν wx hb hP
    have f:=Gs u hb;refine Zm (i:=5) rfl (λK hK=>?_);go_simp;refine(hA.out wx i (Gs I f) hin).mono ?_;rintro e w5 ⟨rfl,ar⟩;exact hK.out _ _ ⟨_,rfl,(show Value.int .i64 _=Value.int .i64 _ from by rw[b1.out]),ar,trivial⟩
   ·intro ν wx hb hP
    have f:=Gs u hb;have h3:=hP (5,25) Gh Gi;replace h3:=dot5 h3;rw[h3];refine Zm (i:=6) rfl (λK hK=>?_);go_simp;refine(Zb2 a0 wx ha.1 ha.2).mono ?_;exact ET
   ·intro ν wx hb hP
    have f:=Gs u hb;refine Zm (i:=9) rfl (λK hK=>?_);go_simp;refine(hB.out wx i (Gs I f) hin).mono ?_;rintro e w5 ⟨rfl,ar⟩;exact hK.out _ _ ⟨_,rfl,(show Value.int .i64 _=Value.int .i64 _ from by rw[b2.out]),ar,trivial⟩
   ·intro ν wx hb hP
    have f:=Gs u hb;have h3:=hP (9,29) Gh Gi;replace h3:=dot9 h3;rw[h3];refine Zm (i:=10) rfl (λK hK=>?_);go_simp;refine(Zb2 b0 wx a6.1 a6.2).mono ?_;exact ET
   ·intro ν wx hb hP
    have f:=Gs u hb;have h3:=hP (6,26) Gh Gi;replace h3:=dot6 h3;obtain⟨a2,A3,k3,c3,hν3,O⟩:=h3;rw[hν3];have h4:=hP (10,30) Gh Gi;replace h4:=dot10 h4;obtain⟨a5,A4,k4,c4,hν4,a7⟩:=h4;rw[hν4];refine Zm (i:=11) rfl (λK hK=>?_);go_simp;refine(Zih a2 a5 A3 A4 k3 c3 k4 c4 _ _ wx O a7 (two_pw ha a6)).mono ?_;exact ET
   ·intro ν wx hb hP
    have f:=Gs u hb;have h3:=hP (2,22) Gh Gi;replace h3:=dot2 h3;obtain⟨a2,A3,k3,c3,hν3,O⟩:=h3;rw[hν3];have h4:=hP (11,31) Gh Gi;replace h4:=dot11 h4;obtain⟨a5,A4,k4,c4,hν4,a7⟩:=h4;rw[hν4];refine Zm (i:=12) rfl (λK hK=>?_);go_simp;refine(Zih a2 a5 A3 A4 k3 c3 k4 c4 _ _ wx O a7 (Z1t hx ha a6)).mono ?_;exact ET
   ·intro ν wx hb hP
    have f:=Gs u hb;have h4:=hP (12,32) Gh Gi;replace h4:=dot12 h4;obtain⟨a5,A4,k4,c4,hν4,a7⟩:=h4;rw[hν4];refine Zm (i:=13) rfl (λK hK=>?_);go_simp;refine(Zk1 sn a5 sA A4 sk sc k4 c4 _ _ wx (hs.out.below f) a7).mono ?_;rintro e w5 ⟨ar,bZ,A5,k5,c5,code,rfl,hR⟩;rcases hR with ⟨_,rfl,ay⟩|⟨e7,_⟩;exact hK.out _ _ ⟨_,rfl,(by simp only[Ze3];exact⟨_,_,_,_,rfl,ay⟩),ar,trivial⟩;exact absurd e7 (Nat.not_le.2 a1.out)
   intro ν wx hb hP;have f:=Gs u hb;have h3:=hP (13,33) Gh Gi;replace h3:=dot13 h3;obtain⟨a2,A3,k3,c3,hν3,O⟩:=h3;rw[hν3];refine Zm (i:=14) rfl (λK hK=>?_);go_simp;refine hK.out _ _ ⟨_,rfl,(by simp only[Ze3];exact⟨_,_,_,_,rfl,O⟩),Qj _ _,?_⟩;refine⟨_,.agg #[.bool a2,.slice A3 k3 c3],rfl,Or.inl ⟨by kernel_rfl,λW2 _=>by go_simp⟩,(by simp only[Ze3];exact⟨_,_,_,_,rfl,O⟩),?_⟩;exact⟨_,.int .i64 0,rfl,Or.inl ⟨by kernel_rfl,λW2 _=>by go_simp⟩,rfl,trivial⟩
  case hfin1 =>
   intro ν wx hb hP;have h2:=dot2 (hP (2,22) Gh);have h5:=dot5 (hP (5,25) Gh);have h6:=dot6 (hP (6,26) Gh);have h9:=dot9 (hP (9,29) Gh);have b6:=dot10 (hP (10,30) Gh);have b9:=dot11 (hP (11,31) Gh);have b7:=dot12 (hP (12,32) Gh);have b3:=dot13 (hP (13,33) Gh);have b4:=dot14 (hP (14,19) Gh);have b5:=dot15 (hP (15,34) Gh);have d4:=dot16 (hP (16,35) Gh);obtain⟨_,_,_,_,h2,-⟩:=h2;obtain⟨_,_,_,_,h6,-⟩:=h6;obtain⟨_,_,_,_,b6,-⟩:=b6;obtain⟨_,_,_,_,b9,-⟩:=b9;obtain⟨_,_,_,_,b7,-⟩:=b7;obtain⟨_,_,_,_,b3,-⟩:=b3;obtain⟨_,_,_,_,b4,-⟩:=b4;obtain⟨n5,A5,k5,c5,b5,ay⟩:=b5;simp only[Qq,Qv,Zal,Qx,Zg7,Zgl,Zg1];rw[h2,h5,h6,h9,b6,b9,b7,b3,b4,b5,d4];clear h2 h5 h6 h9 b6 b9 b7 b3 b4 b5 d4 hP ν;have f:=Gs u hb;have c8:=Zc f qs.out;have a9:=Zc f qr.out;obtain⟨W6,c0,e9,q6,c1⟩:=Zar (B:=gs) n5 A5 k5 c5 (Qj gs wx) (Qc _) c8
   have d3:Below w.heap.size w W6:=by
    rw[<- c0];exact((Gs I f).setCell (p:=⟨gs,0,none⟩) e0 _).setCell (p:=⟨gs,1,none⟩) e0 _
   have c6:=Za (c1.1 _ _ _ _ _ ay);have Y:=c1.2.1 gr _ _ e2 a9;obtain⟨y0,y1,y2,y3⟩:=c8.two;replace q6:=Za q6;replace Y:=Za Y;replace d3:=Za d3;clear ay c1 c8 a9 e9;refine Zv (i:=17) rfl Gi Gi (λK hK=>?_);go_simp;(try rw[c0]);refine hK.out _ _ ?_;clear hK K
   try simp only[Qx,Zg7,Zgl,Zg1]
   refine wpAnyL_fin ?_;clear c0 y0 y1 y2 y3 f hb u T hxs1 ci s0 s1;go_wp2_with fail
   go_roundw
   case rel=>exact⟨i+1,n5,A5,k5,c5,by omega,by go_num,c6.out.same y.out.symm,q6.out,Y.out,d3.out⟩
   case measure=>simp[intOf];omega
section
variable{tF:TypeId}{w w':World}{base:Nat}{part:List Rat}{cs:Array Value}
theorem OwnF.ownBlk{v:Value}(h:OwnF tF w base v part):∀ k,v.ownBlock=some k->∃ cs,Blk w k tF cs/\NoLimb cs/\base<=k:=λk hk=>by
 obtain⟨es,h1,h2,h3⟩:=h;rcases h1 with ⟨rfl,_⟩|⟨g',sp,rfl,h4,h5,h6⟩;cases hk;have:g'=k:=by simpa [Value.ownBlock]using hk
 subst this;exact⟨_,h6,Zcb _,h4⟩
theorem OwnF.keptG{v:Value}(h:OwnF tF w base v part){g':Nat}{t':TypeId}(hb:Blk w g' t' cs)(hn:NoLimb cs)(hne:v.ownBlock≠some g')(hk:Kept (λk=>k=g') w w'):OwnF tF w' base v part:=by
 have hG:∀ k,k=g'->∃ t cs,Blk w k t cs/\NoLimb cs:=λk hk=>⟨t',cs,hk▸hb,hn⟩;obtain⟨es,h1,h2,h3⟩:=h;refine⟨es,?_,λe he=>⟨hk.wd (h2 e he).1 hG,hk.wd (h2 e he).2 hG⟩,h3⟩;rcases h1 with h|⟨g2,sp,rfl,h4,h5,h6⟩;exact .inl h;exact .inr ⟨g2,sp,rfl,h4,h5,hk.blk h6 (λe=>hne (by rw[<- e];rfl))⟩
end
theorem RowS.mfl{tS:TypeId}{w:World}{base:Nat}{v:Value}{rs:List RS}{Q:List (List Rat)}(h:RowS tS w base v rs)(hl:rs.length=Q.length)(hF:∀ (i:Nat) (r:RS),rs[i]?=some r->FL w r.A r.n r.c (Q[i]?.getD [])):∃ A c,v=.slice A rs.length c/\MFL w A rs.length c Q:=by
 rcases h with ⟨rfl,rfl⟩|⟨g,sp,rfl,h2,h3,h4⟩;exact⟨none,0,rfl,hl.symm,Qc _,QG _,λh=>absurd h Gh⟩;refine⟨_,_,rfl,hl.symm,by omega,h3,λ_=>⟨g,0,rfl,λk q hq=>?_⟩⟩;have hk:k<rs.length:=by rw[hl];exact(List.getElem?_eq_some_iff.1 hq).1
 have he:=Qb hk;refine⟨rs[k].A,rs[k].n,rs[k].c,?_,?_⟩
 ·rw[Nat.zero_add,h4.cell]
  exact Zb7 (e:=rs[k]) (by rw[Qe hk];exact he)
 have:=hF k _ he;rw[hq]at this;exact this
theorem Fr.pos_iff{w:World}{na:Bool}{A:Option Addr}{n c:Nat}{nb:Bool}{B:Option Addr}{m d:Nat}{r:Rat}(h:Fr w na A n c nb B m d r):(na=false/\n≠0) ↔ 0<r:=by
 have h1:=h.1.1;have h2:=h.zero_iff;constructor
 ·rintro⟨h3,h4⟩
  rw[h3]at h1;have h5:¬ r.num<0:=by simpa using h1.symm
  have h6:r.num≠0:=λe=>h4 (h2.2 (Rat.num_eq_zero.1 e));have h7:0<=r.num:=Gk;have h8:0<=r:=Rat.num_nonneg.1 h7;have h9:(0:Rat)≠r:=λe=>h6 (by rw[<- e];rfl);exact Rat.lt_of_le_of_ne h8 h9
 intro h3;have h5:=Rat.num_nonneg.2 (Rat.le_of_lt h3);refine⟨by rw[h1];exact Gu Gk,λe=>?_⟩;have:=h2.1 e;rw[this]at h3;exact absurd h3 Gj
section
variable{P:Program}(w:World)
theorem EX{G:Prop}(h:G:=by
 have hf:=run_firstCells_some (P:=P) w i.size 0 ad 0 c [] Gh Gh;rcases aq with ⟨rfl,rfl⟩|⟨g,sp,rfl,h2,h3,h4⟩
 ·refine⟨.slice none 0 0,w,?_,.inl ⟨rfl,rfl⟩,World.grownBy.refl w _,.inl rfl⟩
  exact CI
 refine⟨_,w,?_,.inr ⟨g,sp,rfl,h2,h3,h4⟩,World.grownBy.refl w _,.inl rfl⟩;exact CK):G:=h
theorem Zk7(base:Nat)(t ty e:TypeId)(i:TypeInfo)(ht:P.underlying t=some (.slice e))(hi:P.info? e=some i)(hz:i.zero=some (.agg #[.bool false,.slice none 0 0,.bool false,.slice none 0 0]))
    (hs:i.size=4) (hby:i.bytes=64) (v:Value) (es:List FE) (aq:RowF e w base v es)
    (B:Nat) (A:Option Addr) (m c:Nat) (fs:List FE) (hr:Reads w B 4 A m (Zo fs)) (hm:fs.length=m) (h63:es.length+m<=1000) (hbase:base<=w.heap.size) :
    ∃ v' w',(Builtin.append_ #[t,t] ty #[v,.slice A m c]).run P w=.ok v' w'/\RowF e w' base v' (es++fs)/\w.grownBy w' v.ownBlock/\(v'.ownBlock=v.ownBlock \/ ∀ k,v'.ownBlock=some k->w.heap.size<=k):=by
 rcases Nat.eq_zero_or_pos m with h0|h0
 ·subst h0
  obtain rfl:fs=[]:=List.eq_nil_of_length_eq_zero hm;rw[List.append_nil];rcases A with _|ad;exact⟨v,w,Zch w base t ty e i 4 ht hi v _ _ aq.own c,aq,World.grownBy.refl w _,.inl rfl⟩;exact EX
 obtain⟨ad,rfl,_,hc⟩:=hr.2 h0;have hl:(Zo fs).length=m*i.size:=by rw[Zq,hm,hs]
 have dR:es.length*i.size=(Zo es).length:=by rw[Zq,hs]
 rcases aq with ⟨rfl,rfl⟩|⟨g,sp,rfl,h2,h3,h4⟩
 ·have f:=run_append_nil (P:=P) w t ty e i _ ht hi hz ad m c (Zo fs) hl hc h0 Gk (by rw[hby];omega)
  have h:=grownCap_ge w m 0 e;have o:=grownCap_le_maxLen w m 0 e (by unfold maxLen;simp only[QP]at h63;omega);refine⟨_,_,f,.inr ⟨w.heap.size,grownCap w m 0 e-m,?_,hbase,?_,?_⟩,⟨rfl,rfl,rfl,by simp,λk hk _=>Below.heap_alloc w.drew _ k hk⟩,.inr (λk hk=>by first|(simp[Value.ownBlock]at hk;omega)|(cases hk;exact Qc _))⟩;rw[QF,hm,Qs h];rw[QF,hm,Qs h];exact o;exact Eb
 by_cases hroom:m<=sp
 ·have f:=run_append_room (P:=P) w t ty e i ht hi g es.length (es.length+sp) _ h4 ad m c (Zo fs) hl hc (Zjk fs) Gk (by rw[dR,Zq,Zq];simp[Z0,Zq];omega)
  refine⟨_,_,f,.inr ⟨g,sp-m,?_,h2,?_,?_⟩,⟨rfl,rfl,rfl,by simp[World.setRow],λk _ hk=>setRow_other w g k _ (λe'=>hk (by simp[Value.ownBlock,e']))⟩,.inl rfl⟩;rw[Qm,hm,show es.length+m+(sp-m)=es.length+sp by omega];rw[Qm,hm];omega;exact EN
 have y:∀ j u,(Zo es)[j]?=some u->w.cell? ((⟨g,0,none⟩:Addr).add j)=some u:=λj u hu=>by
   rw[Zg,Nat.zero_add,h4.cell];simp only[Z0,List.getElem?_toArray,Zaj];exact Fi
 have f:=run_append_grow (P:=P) w t ty e i _ ht hi hz ⟨g,0,none⟩ es.length (es.length+sp) (Zo es) dR.symm y ad m c (Zo fs) hl hc Gk Gk (growslice_fits Gk (by rw[hby];omega));have h:=grownCap_ge w (es.length+m) (es.length+sp) e;have o:=grownCap_le_maxLen w (es.length+m) (es.length+sp) e (by unfold maxLen;omega);refine⟨_,_,f,.inr ⟨w.heap.size,grownCap w (es.length+m) (es.length+sp) e-(es.length+m),?_,hbase,?_,?_⟩,⟨rfl,rfl,rfl,by simp,λk hk _=>Below.heap_alloc w.drew _ k hk⟩,.inr (λk hk=>by first|(simp[Value.ownBlock]at hk;omega)|(cases hk;exact Qc _))⟩;rw[Qm,hm,Qs h];rw[Qm,hm,Qs h];exact o;exact Ej
theorem Zbq{o:Oper}{a:Act}{K:Act->World->Prop}{Q:Exit->Act->World->Prop}(s x:Operand)(t:TypeId)
    (ho:o.op=.call { callee:=.builtin .append,args:=#[s,x],argTypes:=#[t,t] })
    (base:Nat) (e:TypeId) (i:TypeInfo) (ht:P.underlying t=some (.slice e)) (hi:P.info? e=some i) (hz:i.zero=some (.agg #[.bool false,.slice none 0 0,.bool false,.slice none 0 0])) (hsi:i.size=4) (hby:i.bytes=64)
    (v:Value) (qs:List Rat) (hs:a.eval s=v) (hown:OwnF e w base v qs)
    (B:Nat) (A:Option Addr) (m c:Nat) (fs:List FE) (hx:a.eval x=.slice A m c) (hr:Reads w B 4 A m (Zo fs)) (hm:fs.length=m) (ib:∀ e ∈ fs,e.in_ w)
    (h63:qs.length+m<=1000) (hbase:base<=w.heap.size)
    (h:∀ v' w',OwnF e w' base v' (qs++fs.map FE.q)->w.grownBy w' v.ownBlock->(∀ (A:Option Addr) (n c:Nat) (l:List Nat),Lim w A n c l->Lim w' A n c l)->(v'.ownBlock=v.ownBlock \/ ∀ k,v'.ownBlock=some k->w.heap.size<=k)->K (a.put o.dst v') w'):o.wp P a w K Q:=by
 obtain⟨es,h1,h2,rfl⟩:=hown;rw[Qz]at h63;obtain⟨v',w',f,h3,h4,h5⟩:=Zk7 (P:=P) w base t o.type e i ht hi hz hsi hby v es h1 B A m c fs hr hm h63 hbase;unfold Oper.wp execOp;simp only[ho,resolve,invoke,builtin,Sem.run_bind,Sem.run_pure,Result.andThen_ok,QK,Qq,Qv,hs,hx,f];have hk:∀ (A:Option Addr) (n c:Nat) (l:List Nat),Lim w A n c l->Lim w' A n c l:=λ_ _ _ _ hL=>h1.keep h4 hL;refine h v' w' ⟨es++fs,h3,λe he=>?_,by rw[List.map_append]⟩ h4 hk h5;exact IE
end
def MatA(tS tF:TypeId)(w:World)(base go:Nat)(rs:List RS)(Q:List (List Rat)):Prop:=
 (∃ zs,Blk w go tS (Z5 (rs++zs)))/\base<=go/\rs.length=Q.length/\(∀ (i:Nat) (r:RS),rs[i]?=some r->OwnF tF w base r.val (Q[i]?.getD [])) /\
  ∀ (i j:Nat) (r s:RS) (k:Nat),rs[i]?=some r->rs[j]?=some s->i≠j->r.val.ownBlock=some k->s.val.ownBlock≠some k
section
variable{tS tF:TypeId}{w w':World}{base go:Nat}{rs:List RS}{Q:List (List Rat)}
theorem MatA.below(h:MatA tS tF w base go rs Q)(hb:Below w.heap.size w w'):MatA tS tF w' base go rs Q:=by
 obtain⟨⟨zs,h1⟩,h2,h3,h4,h5⟩:=h;exact⟨⟨zs,Zc hb h1⟩,h2,h3,λi r hr=>(h4 i r hr).kept hb,h5⟩
theorem MatA.cell(h:MatA tS tF w base go rs Q){i:Nat}{r:RS}(hr:rs[i]?=some r):w.cell? ⟨go,i,none⟩=some (.slice r.A r.n r.c)/\w.frozen? ⟨go,i,none⟩=false:=by
 obtain⟨⟨zs,h1⟩,-⟩:=h;refine⟨?_,h1.frozen i⟩;rw[h1.cell];exact Zb7 (by rw[Qe (List.getElem?_eq_some_iff.1 hr).1];exact hr)
theorem OwnF.rsn{r:RS}{q:List Rat}(h:OwnF tF w base r.val q):r.n=q.length/\FL w r.A r.n r.c q:=by
 obtain⟨A,c,e,hf⟩:=h.fl;simp only[RS.val,Value.slice.injEq]at e;obtain⟨rfl,e2,rfl⟩:=e;refine⟨e2,?_⟩;rw[e2];exact hf
theorem MatA.app(h:MatA tS tF w base go rs Q)(hts:tS≠tF){i:Nat}{r r':RS}{q':List Rat}(hr:rs[i]?=some r)(hg:w.grownBy w' r.val.ownBlock)(ho:OwnF tF w' base r'.val q')(hk:∀ (A:Option Addr) (n c:Nat) (l:List Nat),Lim w A n c l->Lim w' A n c l)
    (hw:r'.val.ownBlock=r.val.ownBlock \/ ∀ k,r'.val.ownBlock=some k->w.heap.size<=k):MatA tS tF (w'.setCell ⟨go,i,none⟩ r'.val) base go (rs.set i r') (Q.set i q'):=by
 obtain⟨⟨zs,h1⟩,h2,h3,h4,h5⟩:=h;have hi:i<rs.length:=(List.getElem?_eq_some_iff.1 hr).1
 have u:∀ (v:Value) (q:List Rat),OwnF tF w base v q->v.ownBlock≠some go:=λv q hv e=>by
  obtain⟨cs,a,-,-⟩:=hv.ownBlk go e;exact hts (h1.type a)
 have b1:Blk w' go tS (Z5 (rs++zs)):=(hg.block go h1.lt (λe=>u _ _ (h4 i r hr) e.symm)).trans h1;have f:=Za7 (rs++zs);have kS:Kept (λk=>k=go) w' (w'.setCell ⟨go,i,none⟩ r'.val):=Kept.set_ (G:=λk=>k=go) (Kept.refl _ _) (p:=⟨go,i,none⟩) (.inl rfl) _
 have y:r'.val.ownBlock≠some go:=λe=>by
  obtain⟨cs,a,-,-⟩:=ho.ownBlk go e;exact hts (b1.type a)
 refine⟨⟨zs,?_⟩,h2,by rw[QQ,QQ];exact h3,λj s hs=>?_,λj l s t k hs ht hjl hsk=>?_⟩
 ·have:=b1.set_ i r'.val
  rw[show r'.val=.slice r'.A r'.n r'.c from rfl,Zdw r']at this;rw[QA _ _ hi]at this;exact this
 ·rw[Qg]at hs
  by_cases hij:i=j
  ·subst hij
   rw[Gx rfl,Gx hi]at hs;cases hs;rw[List.getElem?_set_self Gk,Qy];exact ho.keptG b1 f y kS
  rw[Gw hij]at hs;rw[List.getElem?_set_ne hij];have o:=h4 j s hs;have ne:∀ k,s.val.ownBlock=some k->r.val.ownBlock≠some k:=λk e=>h5 j i s r k hs hr (Qw hij) e
  have o2:OwnF tF w' base s.val (Q[j]?.getD []):=by
   obtain⟨es,e1,e2,e3⟩:=o;refine⟨es,?_,λe he=>⟨⟨(e2 e he).1.1,(e2 e he).1.2.1,hk _ _ _ _ (e2 e he).1.2.2⟩,⟨(e2 e he).2.1,(e2 e he).2.2.1,hk _ _ _ _ (e2 e he).2.2.2⟩⟩,e3⟩;rcases e1 with e1|⟨g2,sp,e4,e5,e6,e7⟩;exact .inl e1;exact .inr ⟨g2,sp,e4,e5,e6,(hg.block g2 e7.lt (λe=>ne g2 (by rw[e4];rfl) e.symm)).trans e7⟩
  exact o2.keptG b1 f (u _ _ o) kS
 have fresh:∀ (j:Nat) (s:RS) (k:Nat),j≠i->rs[j]?=some s->s.val.ownBlock=some k->r'.val.ownBlock≠some k:=λj s k hji hs hsk e=>by
   obtain⟨cs,a,-,-⟩:=(h4 j s hs).ownBlk k hsk;have:=a.lt;rcases hw with hw|hw;exact h5 j i s r k hs hr hji hsk (by rw[<- hw];exact e);have:=hw k e;omega
 rw[Qg]at hs ht;by_cases h6:i=j
 ·subst h6
  rw[Gx rfl,Gx hi]at hs;rw[Gw hjl]at ht;cases hs;intro e;exact fresh l t k (Qw hjl) ht e hsk
 rw[Gw h6]at hs;by_cases h7:i=l
 ·subst h7
  rw[Gx rfl,Gx hi]at ht;cases ht;exact fresh j s k (Qw h6) hs hsk
 rw[Gw h7]at ht;exact h5 j l s t k hs ht hjl hsk
end
def MatOA(tS tF:TypeId)(w:World)(base:Nat)(v:Value)(rs:List RS)(Q:List (List Rat)):Prop:=
 RowS tS w base v rs/\rs.length=Q.length/\(∀ (i:Nat) (r:RS),rs[i]?=some r->OwnF tF w base r.val (Q[i]?.getD [])) /\
  ∀ (i j:Nat) (r s:RS) (k:Nat),rs[i]?=some r->rs[j]?=some s->i≠j->r.val.ownBlock=some k->s.val.ownBlock≠some k
section
variable{tS tF:TypeId}{w w':World}{base:Nat}{v v':Value}{rs:List RS}{Q:List (List Rat)}
theorem MatOA.nil(tS tF:TypeId)(w:World)(base:Nat):MatOA tS tF w base (.slice none 0 0) [] []:=⟨.inl ⟨rfl,rfl⟩,rfl,λi r hr=>(by cases hr),λi j r s k hr=>(by cases hr)⟩
theorem MatOA.kept(h:MatOA tS tF w base v rs Q)(hb:Below w.heap.size w w'):MatOA tS tF w' base v rs Q:=⟨h.1.kept hb,h.2.1,λi r hr=>(h.2.2.1 i r hr).kept hb,h.2.2.2⟩
theorem OwnF.grownT(hts:tS≠tF){q:List Rat}{b:Nat}{u:Value}(h:OwnF tF w b u q){rs:List RS}(hv:RowS tS w base v rs)(hg:w.grownBy w' v.ownBlock)(hk:∀ (A:Option Addr) (n c:Nat) (l:List Nat),Lim w A n c l->Lim w' A n c l):OwnF tF w' b u q:=by
 obtain⟨es,e1,e2,e3⟩:=h;refine⟨es,?_,λe he=>⟨⟨(e2 e he).1.1,(e2 e he).1.2.1,hk _ _ _ _ (e2 e he).1.2.2⟩,⟨(e2 e he).2.1,(e2 e he).2.2.1,hk _ _ _ _ (e2 e he).2.2.2⟩⟩,e3⟩;rcases e1 with e1|⟨g2,sp,e4,e5,e6,e7⟩;exact .inl e1;exact .inr ⟨g2,sp,e4,e5,e6,(hg.block g2 e7.lt (λe=>hv.ownType e7 hts e.symm)).trans e7⟩
theorem OwnF.lower{b b':Nat}{u:Value}{q:List Rat}(h:OwnF tF w b u q)(hb:b'<=b):OwnF tF w b' u q:=by
 obtain⟨es,e1,e2,e3⟩:=h;refine⟨es,?_,e2,e3⟩;rcases e1 with e1|⟨g2,sp,e4,e5,e6,e7⟩;exact .inl e1;exact .inr ⟨g2,sp,e4,QI hb e5,e6,e7⟩
theorem MatOA.snoc(h:MatOA tS tF w base v rs Q)(hts:tS≠tF){r:RS}{q:List Rat}{b:Nat}(ho:OwnF tF w b r.val q)(hb:base<=b)(hlt:∀ s ∈ rs,∀ k,s.val.ownBlock=some k->k<b)(h1:RowS tS w' base v' (rs ++ [r]))(hg:w.grownBy w' v.ownBlock)(hk:∀ (A:Option Addr) (n c:Nat) (l:List Nat),Lim w A n c l->Lim w' A n c l) :
    MatOA tS tF w' base v' (rs ++ [r]) (Q ++ [q]):=by
 obtain⟨a1,a2,a3,a4⟩:=h;refine⟨h1,by simp[a2],λi s hs=>?_,λi j s t k hs ht hij hsk=>?_⟩
 ·by_cases hi:i<rs.length
  ·rw[Qe hi]at hs
   rw[Qe Gk];exact(a3 i s hs).grownT hts a1 hg hk
  have hl:=(List.getElem?_eq_some_iff.1 hs).1;rw[Qm,QH]at hl;obtain rfl:i=rs.length:=Gk;rw[Qo (Qc _),QE]at hs;cases hs;rw[Qo Gk,a2,QE];exact(ho.lower hb).grownT hts a1 hg hk
 have new:∀ (x:RS) (k:Nat),x ∈ rs->x.val.ownBlock=some k->r.val.ownBlock≠some k:=λx k hx hxk e=>by
   have h2:=hlt x hx k hxk;obtain⟨cs,-,-,h3⟩:=ho.ownBlk k e;omega
 have o:=(List.getElem?_eq_some_iff.1 hs).1;have f:=(List.getElem?_eq_some_iff.1 ht).1;rw[Qm,QH]at o f;by_cases hi:i<rs.length
 ·rw[Qe hi]at hs
  by_cases hj:j<rs.length
  ·rw[Qe hj]at ht
   exact a4 i j s t k hs ht hij hsk
  obtain rfl:j=rs.length:=Gk;rw[Qo (Qc _),QE]at ht;cases ht;exact new s k (Qf hs) hsk
 obtain rfl:i=rs.length:=Gk;rw[Qo (Qc _),QE]at hs;cases hs;rw[Qe Gk]at ht;exact λe=>new t k (Qf ht) e hsk
end
open Go.RowKit Go.Shelf
attribute [local go_sem] Oper.semAt_some
def rsAt(es:List RS)(k:Nat):RS:=es[k]?.getD ⟨none,0,0⟩
def SL(w:World)(A:Option Addr)(n c:Nat)(es:List RS):Prop:=
 es.length=n/\n<=c/\c<=maxLen/\(0<n->∃ g o,A=some ⟨g,o,none⟩/\∀ (k:Nat) (e:RS),es[k]?=some e->w.cell? ⟨g,o+k,none⟩=some (.slice e.A e.n e.c))
theorem SL.below{w w':World}{A:Option Addr}{n c:Nat}{es:List RS}(h:SL w A n c es)(hb:Below w.heap.size w w'):SL w' A n c es:=
 ⟨h.1,h.2.1,h.2.2.1,λhn=>by
  obtain⟨b,o,e,hc⟩:=h.2.2.2 hn;exact⟨b,o,e,λk x hx=>Zb hb (hc k x hx)⟩⟩
theorem SL.at_{w:World}{A:Option Addr}{n c:Nat}{es:List RS}(h:SL w A n c es){k:Nat}(hk:k<n):∃ b o e,A=some ⟨b,o,none⟩/\es[k]?=some e/\w.cell? ⟨b,o+k,none⟩=some (.slice e.A e.n e.c):=by
 obtain⟨h1,-,-,h4⟩:=h;obtain⟨b,o,e,hc⟩:=h4 Gk;have he:=Qb (l:=es) (i:=k) Gk;exact⟨b,o,es[k],e,he,hc k _ he⟩
theorem sl_kept{W W':World}{row:Option Nat}{A:Option Addr}{n c:Nat}{es:List RS}(h:SL W A n c es)(hg:W.grownBy W' row)(hrow:∀ r,row=some r->∃ o:Obj,W.heap[r]?=some o/\o.isCells=false):SL W' A n c es:=
 ⟨h.1,h.2.1,h.2.2.1,λhn=>by
  obtain⟨b,o,e,hc⟩:=h.2.2.2 hn;exact⟨b,o,e,λk x hx=>cell_kept (hc k x hx) hg hrow⟩⟩
def KpR(Bs:Nat)(A:Option Addr)(n c:Nat)(es:List RS)(W W':World):Prop:=
 (W.cell? ⟨Bs,0,none⟩=some (.slice A n c)->W'.cell? ⟨Bs,0,none⟩=some (.slice A n c))/\(SL W A n c es->SL W' A n c es)
theorem KpR.trans{Bs n c:Nat}{A:Option Addr}{es:List RS}{W1 W2 W3:World}(h:KpR Bs A n c es W1 W2)(k:KpR Bs A n c es W2 W3):KpR Bs A n c es W1 W3:=⟨λx=>k.1 (h.1 x),λx=>k.2 (h.2 x)⟩
theorem KpR.put{Bs n c:Nat}{A:Option Addr}{es:List RS}(W:World)(lp:Nat)(o o':Obj)(ho:W.heap[lp]?=some o)(hc:o.isCells=false):KpR Bs A n c es W (W.putObj lp o'):=
 ⟨λh=>cell_kept h (grownBy_putObj' W lp o') (λr e=>by cases e;exact⟨o,ho,hc⟩),λh=>sl_kept h (grownBy_putObj' W lp o') (λr e=>by cases e;exact⟨o,ho,hc⟩)⟩
theorem Zyt(A:Option Addr)(n c:Nat)(w:World) :
    Calls Tryz.prog 129 #[.slice A n c] w λe w'=>e=.returned (.func (.func 177) #[] #[.pointer (some ⟨w.heap.size,0,none⟩)])/\w.alloc (.cells #[.slice A n c] 149)=w':=by
 go_in
 go_wp2
 go_ret;exact⟨rfl,rfl⟩
def Z1g(d:Nat)(P:Program)(gf:Nat)(lb:Array Value)(encs:Nat->Array Value)(Kp:World->World->Prop)(N:Nat)(w:World):Prop:=
 ∀ (l:Nat) (J:Nat->World->Prop) (W:World),Below w.heap.size w W->AbidesFrom W.heap.size J ->
  (∀ k V,k<N->J k V->YieldAt Fence.wide (d-1) P l (encs k) V λe V'=>e=.returned (.bool true)/\J (k+1) V'/\Kp V V') ->
  J 0 W->CallsIn Fence.wide d P gf (#[.func (.yield l) #[] #[]]++lb) W λe V'=>(∃ v,e=.returned v)/\J N V'
def goesOn(Kp:World->World->Prop)(J:World->Prop)(W:World):Exit->Act->World->Prop
 | .normal,_,W'=>KeepsOthers W W'/\Kp W W'/\J W'
 | .ret,_,_=>False
 | .exit _,_,_=>False
 | .goto _,_,_=>False
 | .panic _,_,_=>False
 | .outgrown,_,_=>False
theorem Znu{d:Nat}{P:Program}{g:Operand}{ps:Array Tmp}{assign body:Code}{Q:Exit->Act->World->Prop}{a:Act}{w:World}(h1:1<=d){gf:Nat}{lb:Array Value}
    (hg:a.eval g=.func (.func gf) #[] lb) (eg:∀ args w,(callFunc gf args).run P w=.ok (.enter gf args) w)
    {encs:Nat->Array Value} {Kp:World->World->Prop} {N:Nat} {w0:World} (hseq:Z1g (d-1) P gf lb encs Kp N w0)
    (hKt:∀ {A B C:World},Kp A B->Kp B C->Kp A C) (hKb:∀ (W:World) (l:Nat) (o o':Obj),w.heap.size<=l->W.heap[l]?=some o->o.isCells=false->o.isWalk=false->Kp W (W.putObj l o')) (hb0:Below w0.heap.size w0 w) (hps:∀ k,(encs k).size=ps.size)
    (I:Nat->World->Prop) (hI:OwnFrom w.heap.size I) (h0:I 0 w) (a₁:Nat->Act)
    (hassign:∀ (l k:Nat) (W:World) (K:Act->World->Prop),k<N->K (a₁ k) W ->
     assign.wpIn (Fence.wide.inRound l) (d-1-1) P (Exit.then K (λ_ _ _=>False)) { tmps:=(ps.zip (encs k)).foldl (λt (p,v)=>t.setIfInBounds p v) a.tmps,defers:=[] } W)
    (hbody:∀ (l k:Nat) (W:World),k<N->I k W->body.wpIn (Fence.wide.inRound l) (d-1-1) P (goesOn Kp (I (k+1)) W) (a₁ k) W)
    (hdone:∀ (D:Nat) (W:World),w.heap.size<=D->I N W->W.heap[D]?=some (.deferred (some []))->Q .normal { a with defers:={ target:=.collected D,args:=#[] } :: a.defers } W) :
    (Code.rangeFunc g ps assign body).wpIn Fence.wide d P Q a w:=by
 refine wpIn_rangeFunc λfn hfn=>?_;rw[show Fence.wide.round=none from rfl];obtain⟨B,hB⟩:=Gz w.heap.size;rw[hB]at hI hKb hdone;obtain⟨rec,f⟩:∃ rec:LoopState->Option Code->Loop,rec=λst pe=>{ state:=st,pending:=pe,fn,tmps:=a.tmps,params:=ps,assign,body,defers:=B }:=⟨_,rfl⟩;obtain⟨W1,y⟩:=Gz ((w.alloc (.deferred (some []))).alloc (.loop (rec .ready none)));have sz:W1.heap.size=B+1+1:=by rw[<- y,<- hB];simp
 have lp:W1.heap[B+1]?=some (.loop (rec .ready none)):=by
  have h:=World.alloc_heap_new (w.alloc (.deferred (some []))) (.loop (rec .ready none));rw[World.size_alloc,hB,y]at h;exact h
 have df:W1.heap[B]?=some (.deferred (some [])):=by
  rw[<- y,<- hB];exact(Below.heap_alloc _ _ _ Gh).trans (World.alloc_heap_new w _)
 have i1:I 0 W1:=by rw[<- y];exact hI.alloc _ (hI.alloc _ h0)
 have b1:Below w0.heap.size w0 W1:=by
  rw[<- y];exact hb0.trans (((Qj _ w).alloc (Qc _) _).trans ((Qj _ _).alloc Gh _) |>.mono hb0.size)
 obtain⟨J,hJ⟩:∃ J:Nat->World->Prop,J=λk W=>I k W/\W.heap[B+1]?=some (.loop (rec .ready none))/\W.heap[B]?=some (.deferred (some [])):=⟨_,rfl⟩
 have key:=hseq (B+1) J W1 b1 (λk X Y row hs hgr hr=>by
     rw[hJ]at hs ⊢;have U:∀ r,row=some r->∃ o:Obj,X.heap[r]?=some o/\o.isWalk=true:=λr e=>(hr r e).2;refine⟨hI k X Y row hs.1 hgr (λr e=>?_),(grownBy_keeps hgr U hs.2.1 rfl).trans hs.2.1,(grownBy_keeps hgr U hs.2.2 rfl).trans hs.2.2⟩;obtain⟨hl,o,ho,hw⟩:=hr r e;exact⟨by omega,o,ho,Obj.not_cells_of_walk hw⟩)
  (λk V hk hs=>by
   rw[hJ]at hs;obtain⟨hi,hl,hd⟩:=hs;have a1:B+1<V.heap.size:=(Array.getElem?_eq_some_iff.1 hl).1;have hy:=run_yield (P:=P) (args:=encs k) hl (by rw[f];exact hps k);rw[f]at hy;obtain⟨V2,T⟩:∃ X,V.putObj (B+1) (.loop { rec .ready none with state:=.busy })=X:=⟨_,rfl⟩;refine⟨fn,_,assign,body,hy,roundIn_of_wpIn hfn (hassign _ k V _ hk ⟨V2,by rw[<- T];exact run_beginRound hl (by rw[f]),?_⟩)⟩;have a2:V2.heap[B+1]?=some (.loop { rec .ready none with state:=.busy }):=by rw[<- T];exact World.putObj_heap_same a1
   have a0:V2.heap[B]?=some (.deferred (some [])):=by rw[<- T];exact(World.putObj_heap_other Gk).trans hd
   have a5:Kp V V2:=by rw[<- T];exact hKb _ _ _ _ Gk hl rfl rfl
   have a4:I k V2:=by rw[<- T];exact hI.putObj _ hi Gk hl rfl
   refine wpIn_mono (hbody _ k V2 hk a4) λe a3 V3 hq=>?_;cases e with
   | normal =>
    obtain⟨ko,kp,i3⟩:=hq;have O:=ko.same _ _ a2 rfl;have u:=run_endRound (P:=P) none O;rw[f]at u O;refine⟨_,_,u,rfl,?_,hKt (hKt a5 kp) (hKb _ _ _ _ Gk O rfl rfl)⟩;rw[hJ];refine⟨hI.putObj _ i3 Gk O rfl,?_,(World.putObj_heap_other Gk).trans (ko.same _ _ a0 rfl)⟩;rw[f];exact World.putObj_heap_same (Array.getElem?_eq_some_iff.1 O).1
   | ret=>exact hq.elim
   | exit id=>exact hq.elim
   | goto t=>exact hq.elim
   | panic ch=>exact hq.elim
   | outgrown=>exact hq.elim)
  (by rw[hJ];exact⟨i1,lp,df⟩)
 refine⟨B+1,[{ target:=.collected B,args:=#[] }],W1,{ target:=.fn (.func gf) lb,args:=#[.func (.yield (B+1)) #[] #[]] },W1,gf,#[.func (.yield (B+1)) #[] #[]]++lb,W1,?_,?_,λ_ _=>trivial,?_,λ_=>h1,?_⟩;rw[<- y,f,<- hB];exact run_enterLoop_outer _ _ _ _ _
 ·simp only[resolve,hg]
  simp[go_sem]
 ·simp[invoke,go_sem,eg]
 refine key.mono ?_;rintro e W2 ⟨⟨v,rfl⟩,hs⟩;rw[hJ]at hs;obtain⟨hi,hl,hd⟩:=hs;have u:=run_endLoop (P:=P) hl (by rw[f];simp);rw[f]at u;exact⟨none,_,u,hdone _ _ (Qc _) (hI.putObj _ hi Gk hl rfl) ((World.putObj_heap_other Gk).trans hd)⟩
def Zni(es:List RS)(n:Nat)(k:Nat):Array Value:=#[.int .i64 ((n-1-k:Nat):Int),RS.val (rsAt es (n-1-k))]
theorem Zy5(d:Nat)(hd:1<=d)(Bs n c:Nat)(A:Option Addr)(es:List RS)(w:World)(hc:w.cell? ⟨Bs,0,none⟩=some (.slice A n c))(hL0:SL w A n c es) :
    Z1g d Tryz.prog 177 #[.pointer (some ⟨Bs,0,none⟩)] (Zni es n) (KpR Bs A n c es) n w:=by
 intro lp J W hW _ hY h0;have T:W.cell? ⟨Bs,0,none⟩=some (.slice A n c):=(hW.cell (Zn hc)).trans hc;have hL:SL W A n c es:=hL0.below hW;clear hW hc hL0;have V:=hL.2.1;have I:=hL.2.2.1;unfold maxLen at I;refine callsIn_of_wp Tryz.func177 rfl trivial ?_ rfl;simp only[Tryz.ntmps177,List.size_toArray,List.length_cons,QP,Nat.reduceAdd,Nat.reduceSub,Array.replicate_succ,Array.replicate_zero,List.push_toArray,List.append_toArray,QF,List.cons_append]
 gi_wp2
 gi_loopw [3] (λi wr=>∃ k:Nat,k<=n/\i=.int .i64 ((n:Int)-1-k)/\J k wr/\Hid (wr.cell? ⟨Bs,0,none⟩=some (.slice A n c))/\SL wr A n c es)
  (λi _=>(intOf i+1).toNat)
 case atStart=>exact⟨0,QG _,by go_num,h0,T,hL⟩
 case round =>
  obtain⟨k,hk,rfl,h,f,u⟩:=hrel;have U:=f.out;by_cases hlt:k<n
  ·obtain⟨b,o,e,rfl,he,Y⟩:=u.at_ (k:=n-1-k) Gk
   obtain⟨fn,tmps,assign,body,hy,hR⟩:=hY k wr hlt h;dsimp only[Zni,RS.val,rsAt]at hy;rw[he,Qy]at hy;rw[show ((n-1-k:Nat):Int)=(n:Int)-1-k by omega]at hy
   gi_wp2
   refine hR.mono ?_;rintro e W3 ⟨rfl,O,y⟩;have C:=Za (y.1 f.out)
   gi_wp2
   go_roundw
   case rel=>exact⟨k+1,by omega,by go_num,O,C,y.2 u⟩
   case measure=>simp[intOf];omega
  obtain rfl:k=n:=Gk
  gi_wp2
  go_end0
  exact⟨⟨_,rfl⟩,h⟩
