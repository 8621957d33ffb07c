/- The rank and the determinant by either elimination. The -/
import Derived.Test.YthappeninglakaaGreatZe07
set_option maxRecDepth 100000
set_option maxHeartbeats 1000000
set_option linter.unusedSimpArgs false
set_option linter.unusedVariables false
namespace Go.Proofs.YthappeninglakaaGreat
open Go.RowKit
open And renaming intro→Qa
open Nat renaming le_refl→Qb,not_lt_zero→Qf
open Rat renaming intCast_natCast→Qc,divInt→Qd,divInt_eq_div→Qe,intCast_mul→Qg
open Ne renaming symm→Qh
def byZ(R:List (List Rat)):Nat->Nat
 | 0=>1
 | k+1=>byZ R k*denAt R k
theorem Z05(R:List (List Rat))(k:Nat):((byZ R k:Nat):Rat)=Za8 k (λi=>((denAt R i:Nat):Rat)):=by
 induction k with
 | zero=>rfl
 | succ k ih=>simp only[byZ,Za8];rw[Rat.natCast_mul,ih]
theorem byZ_pos(R:List (List Rat))(k:Nat):0<byZ R k:=by
 induction k with
 | zero=>exact Nat.one_pos
 | succ k ih=>exact Nat.mul_pos ih (Zec _ _)
theorem Zva{n:Nat}{f:Nat->Rat}{k:Nat}(hk:k<n)(h:f k=0):Za8 n f=0:=by
 induction n with
 | zero=>omega
 | succ n ih =>
  simp only[Za8];by_cases hkn:k=n;rw[<- hkn,h];grind;rw[ih Gk];grind
theorem Zua{n:Nat}(M:Nat->Nat->Rat)(s:Nat->Rat):Zat n (λa b=>s a*M a b)=Za8 n s*Zat n M:=by
 have key:∀ m,m<=n->Zat n (λa b=>if a<m then s a*M a b else M a b)=Za8 m s*Zat n M:=by
  intro m
  induction m with
  | zero=>intro _;simp only[Za8];rw[Za6 (N:=M) (λa b _ _=>Gw (Qf a))];grind
  | succ m ih =>
   intro hm;have h0:=ih Gk;have h1:=Zhh (n:=n) (λa b=>if a<m then s a*M a b else M a b) (k:=m) Gk (M m) (M m) (s m) 0
   have e1:Zah (λa b=>if a<m then s a*M a b else M a b) m (λb=>s m*M m b+0*M m b)=λa b=>if a<m+1 then s a*M a b else M a b:=by
    funext a b
    unfold Zah;by_cases ha:a=m;subst ha;rw[Gx rfl,Gx Gk];grind;rw[Gw ha];by_cases h2:a<m;rw[Gx Gk];simp only[Gx h2];rw[Gw Gk];simp only[Gw h2]
   have e2:Zah (λa b=>if a<m then s a*M a b else M a b) m (M m)=λa b=>if a<m then s a*M a b else M a b:=by
    funext a b
    unfold Zah;by_cases ha:a=m;subst ha;rw[Gx rfl,Gw Gk];rw[Gw ha]
   rw[e1,e2,h0]at h1;rw[h1];simp only[Za8];grind
 rw[<- key n (Qb _)];exact Za6 λa b ha _=>by rw[Gx ha]
section
variable{B S n m:Nat}
theorem EIR.diag{col:Nat}{R:List (List Rat)}{pc:Nat->Nat}{G:Nat->Nat->Rat}{s:Nat->Rat}(h:EIR B S n m col n R pc G s)(hc:col<=n){l:Nat}(hl:l<n):pc l=l:=by
 have h1:∀ l,l<n->l<=pc l:=by
  intro l
  induction l with
  | zero=>intro _;omega
  | succ l ih=>intro hl;have:=ih Gk;have:=h.inc l (l+1) Gk hl;omega
 have h2:∀ d l,l+d+1=n->pc l+d<n:=by
  intro d
  induction d with
  | zero=>intro l hl;have:=h.pcl l Gk;omega
  | succ d ih=>intro l hl;have:=ih (l+1) Gk;have:=h.inc l (l+1) Gk Gk;omega
 have:=h1 l hl;have:=h2 (n-l-1) l Gk;omega
end
structure AltF (n:Nat) (F:(Nat->Nat->Rat)->Rat):Prop where
 congr:∀ {M N:Nat->Nat->Rat},(∀ a b,a<n->b<n->M a b=N a b)->F M=F N
 lin:∀ (M:Nat->Nat->Rat) (k:Nat),k<n->∀ (r s:Nat->Rat) (x y:Rat),F (Zah M k (λb=>x*r b+y*s b))=x*F (Zah M k r)+y*F (Zah M k s)
 two:∀ (M:Nat->Nat->Rat) (k l:Nat),k<n->l<n->k≠l->(∀ b,M k b=M l b)->F M=0
theorem AltF.det(n:Nat):AltF n (Zat n):=⟨Za6,λM _ hk r s x y=>Zhh M hk r s x y,λ_ _ _ hk hl hne h=>Zkj hk hl hne h⟩
section
variable{n:Nat}{F:(Nat->Nat->Rat)->Rat}
theorem AltF.add(h:AltF n F)(M:Nat->Nat->Rat){k:Nat}(hk:k<n)(r s:Nat->Rat):F (Zah M k (λb=>r b+s b))=F (Zah M k r)+F (Zah M k s):=by
 have:=h.lin M k hk r s 1 1;rw[show (λb=>r b+s b)=(λb=>1*r b+1*s b) by funext b;grind,this];grind
theorem AltF.swap(h:AltF n F){k l:Nat}(hk:k<n)(hl:l<n)(hne:k≠l)(M:Nat->Nat->Rat):F (Zah (Zah M k (M l)) l (M k))=- F M:=by
 obtain⟨r,hr⟩:=Gz (M l);obtain⟨s,hs⟩:=Gz (M k);have h0:=h.two (Zah (Zah M k (λb=>r b+s b)) l (λb=>r b+s b)) k l hk hl hne (λb=>by simp[Zah,hne]);have h1:=h.two (Zah (Zah M k r) l r) k l hk hl hne (λb=>by simp[Zah,hne]);have h2:=h.two (Zah (Zah M k s) l s) k l hk hl hne (λb=>by simp[Zah,hne]);rw[h.add _ hl,Zce _ hne,Zce _ hne,h.add _ hk,h.add _ hk,<- Zce _ hne,<- Zce _ hne,<- Zce _ hne,<- Zce _ hne,h1,h2]at h0;rw[hr,hs];have e:Zah (Zah M k s) l r=M:=by rw[<- hs,Zd9,<- hr,Zd9]
 rw[e]at h0
 grind
theorem AltF.addrow(h:AltF n F)(M:Nat->Nat->Rat){k l:Nat}(hk:k<n)(hl:l<n)(hne:k≠l)(c:Rat):F (Zah M k (λb=>M k b+c*M l b))=F M:=by
 have h1:=h.lin M k hk (M k) (M l) 1 c
 rw[show (λb=>M k b+c*M l b)=(λb=>1*M k b+c*M l b) by funext b;grind,h1,Zd9,
  h.two (Zah M k (M l)) k l hk hl hne (λb=>by simp[Zah,Qh hne])]
 grind
theorem AltF.clear(h:AltF n F)(M:Nat->Nat->Rat){l:Nat}(hl:l<n)(c:Nat->Rat):F (λa b=>if a=l then M a b else M a b+c a*M l b)=F M:=by
 have key:∀ m,m<=n->F (λa b=>if a=l then M a b else if a<m then M a b+c a*M l b else M a b)=F M:=by
  intro m
  induction m with
  | zero=>intro _;exact h.congr λa b _ _=>by split <;> rfl
  | succ m ih =>
   intro hm;have h0:=ih Gk;by_cases hml:m=l
   ·rw[<- h0];refine h.congr λa b _ _=>?_
    exact Im
   have h1:=h.addrow (λa b=>if a=l then M a b else if a<m then M a b+c a*M l b else M a b) (k:=m) (l:=l) Gk hl hml (c m);rw[h0]at h1;rw[<- h1];refine h.congr λa b _ _=>?_;exact FR
 rw[<- key n (Qb _)];exact h.congr λa b ha hb=>by rw[Gx ha]
end
theorem Zz1(n:Nat)(A:Nat->Nat->Rat):∀ c,c<=n->∃ (U:Nat->Nat->Rat) (e:Rat),(∀ i j,i<n->j<c->j<i->U i j=0)/\∀ F,AltF n F->F A=e*F U:=by
 intro c
 induction c with
 | zero=>intro _;exact⟨A,1,λi j _ h=>by omega,λF _=>by grind⟩
 | succ c ih =>
  intro hc;obtain⟨U,e,h1,h2⟩:=ih Gk
  have clr:∀ V:Nat->Nat->Rat,(∀ i j,i<n->j<c->j<i->V i j=0)->V c c≠0->∃ (U:Nat->Nat->Rat),(∀ i j,i<n->j<c+1->j<i->U i j=0)/\∀ F,AltF n F->F V=F U:=by
   intro V hV hp;refine⟨λa b=>if a=c then V a b else V a b+(if a<c then 0 else -(V a c/V c c))*V c b,λi j hi hj hji=>?_,λF hF=>(hF.clear V Gk _).symm⟩;by_cases hic:i=c;subst hic;simp only[if_true];exact hV i j hi Gk hji;simp only[Gw hic];by_cases hlt:i<c;rw[Gx hlt,hV i j hi Gk hji];grind;rw[Gw hlt];by_cases hjc:j=c;subst hjc;grind;rw[hV i j hi Gk hji,hV c j Gk Gk Gk];grind
  by_cases hz:∀ i,c<i->i<n->U i c=0
  ·refine⟨U,e,λi j hi hj hji=>?_,h2⟩
   by_cases hjc:j=c;subst hjc;exact hz i hji hi;exact h1 i j hi Gk hji
  by_cases hp:U c c=0
  ·obtain⟨k,C,u,y⟩:∃ k,c<k/\k<n/\U k c≠0:=by
     refine Classical.byContradiction λhn=>hz λi h1 h2=>Classical.byContradiction λh3=>hn ⟨i,h1,h2,h3⟩
   obtain⟨V,f,o⟩:=clr (Zah (Zah U c (U k)) k (U c)) (λi j hi hj hji=>by
    unfold Zah;by_cases hik:i=k;rw[Gx hik];exact h1 c j Gk hj Gk
    ·rw[Gw hik]
     by_cases hic:i=c;rw[Gx hic];exact h1 k j u hj Gk;rw[Gw hic];exact h1 i j hi hj hji) (by
    unfold Zah;rw[Gw Gk,Gx rfl];exact y)
   refine⟨V,-e,f,λF hF=>?_⟩;rw[h2 F hF,<- o F hF,hF.swap Gk u Gk];grind
  obtain⟨V,f,o⟩:=clr U h1 hp;exact⟨V,e,f,λF hF=>by rw[h2 F hF,o F hF]⟩
def Zbp(a b:Nat):Rat:=if a=b then 1 else 0
theorem AltF.tri{n:Nat}{F:(Nat->Nat->Rat)->Rat}(h:AltF n F):∀ t,t<=n->∀ U:Nat->Nat->Rat,(∀ i j,i<n->j<i->U i j=0)->(∀ i j,t<=i->i<n->U i j=Zbp i j)->F U=Za8 t (λi=>U i i)*F Zbp
 | 0,_,U,_,h2=>by
  rw[h.congr (N:=Zbp) (λa b ha hb=>h2 a b (Nat.zero_le _) ha)];simp only[Za8];grind
 | t+1,ht,U,h1,h2=>by
  -- row t is cleared by the rows behind it
  have key:∀ c,c<=n->F (Zah U t (λb=>if t<b/\b<c then 0 else U t b))=F U:=by
   intro c
   induction c with
   | zero=>intro _;refine h.congr λa b _ _=>?_
           unfold Zah;by_cases ha:a=t;rw[Gx ha,ha];simp only[Qf,and_false,if_false];rw[Gw ha]
   | succ c ih =>
    intro hc;have h0:=ih Gk;by_cases htc:t<c
    ·have h3:=h.addrow (Zah U t (λb=>if t<b/\b<c then 0 else U t b)) (k:=t) (l:=c) Gk Gk Gk (-(U t c))
     rw[h0]at h3;rw[<- h3];refine h.congr λa b _ hb=>?_;unfold Zah;by_cases ha:a=t
     ·subst ha
      simp only[if_true];rw[Gw (by omega:¬ c=a),h2 c b Gk Gk];unfold Zbp;by_cases hbc:c=b;subst hbc;rw[Gx Gk,Gw Gk,Gx rfl];grind;rw[Gw hbc];by_cases hb2:a<b/\b<c;rw[Gx Gk,Gx hb2];grind;rw[Gw Gk,Gw hb2];grind
     rw[Gw ha,Gw ha,Gw ha]
    rw[<- h0];refine h.congr λa b _ _=>?_;unfold Zah;by_cases ha:a=t
    ·rw[Gx ha,Gx ha]
     simp only[Gw (show ¬ (t<b/\b<c+1) by omega),Gw (show ¬ (t<b/\b<c) by omega)]
    rw[Gw ha,Gw ha]
  have hk:=key n (Qb _);have hs:=h.lin U t Gk (Zbp t) (Zbp t) (U t t) 0
  have e1:F (Zah U t (λb=>if t<b/\b<n then 0 else U t b))=F (Zah U t (λb=>U t t*Zbp t b+0*Zbp t b)):=by
   refine h.congr λa b _ hb=>?_;unfold Zah;by_cases ha:a=t
   ·rw[Gx ha,Gx ha]
    unfold Zbp;simp only;by_cases hb1:t=b;subst hb1;rw[Gw Gk,Gx rfl];grind;rw[Gw hb1];by_cases hb2:t<b;rw[Gx ⟨hb2,hb⟩];grind;rw[Gw Gk,h1 t b Gk Gk];grind
   rw[Gw ha,Gw ha]
  have ih:=h.tri t Gk (Zah U t (Zbp t)) (λi j hi hji=>by
   unfold Zah Zbp;split;rw[Gw Gk]
   ·exact h1 i j hi hji) (λi j hti hi=>by
   unfold Zah;split;rename_i h;rw[h];exact h2 i j Gk hi)
  rw[<- hk,e1,hs,ih];rw[Za8,Zc9 (f:=λi=>Zah U t (Zbp t) i i) (g:=λi=>U i i) (λi hi=>by unfold Zah;rw[Gw Gk])]
  grind
theorem Zs4(n:Nat):Zat n Zbp=1:=by
 rw[Zkb (λa b _ h=>by unfold Zbp;rw[Gw Gk])]
 have:∀ m,Za8 m (λi=>Zbp i i)=1:=by
  intro m
  induction m with
  | zero=>rfl
  | succ m ih=>simp only[Za8];rw[ih];unfold Zbp;rw[Gx rfl];grind
 exact this n
theorem AltF.eq{n:Nat}{F:(Nat->Nat->Rat)->Rat}(h:AltF n F)(A:Nat->Nat->Rat):F A=Zat n A*F Zbp:=by
 obtain⟨U,e,h1,h2⟩:=Zz1 n A n (Qb _);have h3:=h.tri n (Qb _) U (λi j hi hj=>h1 i j hi Gk hj) (λi j h1 h2=>by omega);have h4:=(AltF.det n).tri n (Qb _) U (λi j hi hj=>h1 i j hi Gk hj) (λi j h1 h2=>by omega);rw[h2 F h,h2 _ (AltF.det n),h3,h4,Zs4];grind
def Ztg(k:Nat)(A B:Nat->Nat->Rat):Nat->Nat->Rat:=λi j=>Zw k (λl=>A i l*B l j)
theorem det_mul(n:Nat)(A B:Nat->Nat->Rat):Zat n (Ztg n A B)=Zat n A*Zat n B:=by
 have hF:AltF n (λM=>Zat n (Ztg n M B)):=by
  refine⟨λ{M N} h=>Za6 λa b ha hb=>Zq λl hl=>by rw[h a l ha hl],λM k hk r s x y=>?_,λM k l hk hl hne h=>Zkj hk hl hne (λb=>Zq λi hi=>by rw[h i])⟩
  have e:∀ q:Nat->Rat,Ztg n (Zah M k q) B=Zah (Ztg n M B) k (λb=>Zw n (λl=>q l*B l b)):=by
   intro q
   funext a b
   unfold Ztg Zah;by_cases ha:a=k
   ·rw[Gx ha];refine Zq λl _=>by rw[Gx ha]
   rw[Gw ha];refine Zq λl _=>by rw[Gw ha]
  rw[e,e,e,<- Zhh (Ztg n M B) hk];congr 2
  funext b
  rw[<- Zeo];exact Zq λl _=>by grind
 have:=hF.eq A;rw[this];congr 1;refine Za6 λa b ha hb=>?_;unfold Ztg;rw[Zfj a ha (λi _ hi=>by unfold Zbp;rw[Gw (Qh hi)];grind)];unfold Zbp;rw[Gx rfl];grind
theorem Z00{n:Nat}(A:Nat->Nat->Rat)(x y:Nat->Rat)(h:∀ i,i<n->Zw n (λj=>A i j*x j)=y i){k:Nat}(hk:k<n):Zat n A*x k=Zat n (λa b=>if b=k then y a else A a b):=by
 have hT:Zat n (λa b=>if b=k then x a else Zbp a b)=x k:=by
  -- rows a: unit a+x a at column k;row k: x k at column k
  have h1:=(AltF.det n).lin (λa b=>if b=k then x a else Zbp a b) k hk (Zbp k) (Zbp k) (x k) 0
  have e1:Zah (λa b=>if b=k then x a else Zbp a b) k (λb=>x k*Zbp k b+0*Zbp k b)=(λa b=>if b=k then x a else Zbp a b):=by
   funext a b
   unfold Zah;by_cases ha:a=k
   ·subst ha;rw[Gx rfl];unfold Zbp
    by_cases hb:b=a;subst hb;simp only[if_true];grind;rw[Gw hb,Gw (Qh hb)];grind
   rw[Gw ha]
  rw[e1]at h1;have h2:=Znz (n:=n) (λa b=>Zbp a b) hk x
  have e2:Zat n (Zah (λa b=>if b=k then x a else Zbp a b) k (Zbp k))=Zat n (λa b=>if a=k then Zbp a b else Zbp a b+x a*Zbp k b):=by
   refine Za6 λa b _ _=>?_;unfold Zah;by_cases ha:a=k;rw[Gx ha,Gx ha,ha];rw[Gw ha,Gw ha];unfold Zbp;simp only;by_cases hb:b=k;subst hb;rw[Gx rfl,Gw ha,Gx rfl];grind;rw[Gw hb,Gw (Qh hb)];grind
  rw[e2,h2,Zs4]at h1;rw[h1];grind
 have h3:=det_mul n A (λa b=>if b=k then x a else Zbp a b);rw[hT]at h3;rw[<- h3];refine Za6 λa b ha hb=>?_;unfold Ztg;by_cases hbk:b=k
 ·rw[Gx hbk,<- h a ha]
  exact Zq λl _=>by simp only;rw[Gx hbk]
 rw[Gw hbk,Zfj b hb (λi _ hi=>by simp only;rw[Gw hbk];unfold Zbp;rw[Gw hi];grind)];simp only;rw[Gw hbk];unfold Zbp;rw[Gx rfl];grind
open Go.RowKit
attribute [local go_sem] Zg
theorem CU{G:Prop}(h:G:=by
 have:=Blk.new ((w.alloc (.cells #[.bool na,.slice A n c] 39)).alloc (.cells #[.bool true,.slice B m d] 39)) 41 #[.bool false,.slice none 0 0,.bool false,.slice none 0 0];exact Et):G:=h
theorem CV{G:Prop}(h:G:=by
 have:=(Blk.new (w.alloc (.cells #[.bool na,.slice A n c] 39)) 39 #[.bool true,.slice B m d]).alloc (.cells #[.bool false,.slice none 0 0,.bool false,.slice none 0 0] 41);exact Et):G:=h
theorem Zqp(na:Bool)(A B:Option Addr)(n c m d:Nat)(za zb:Int)(w:World)(ha:Wd w na A n c za)(hb:Wd w true B m d zb)(h0:zb<0) :
    Calls Tryz.prog 33 #[.agg #[.bool na,.slice A n c],.agg #[.bool true,.slice B m d]] w (Zdt w (Qd za zb)):=by
 have d6:=Zdu ha.small hb.small;have hx:=Zb (Zke (a:=za) (b:=zb) Gk);have hy:=Zb (Zjw (a:=za) (b:=zb) Gk);have U:=Zb (Zl0 (a:=za) (b:=zb) Gk);have b2:Zgh za zb=-((Nat.gcd za.natAbs zb.natAbs:Nat):Int):=by unfold Zgh;rw[Gx Gk]
 rw[b2]at hx hy U;have HA:=Zb ha;have HB:=Zb hb;obtain⟨G,hG⟩:=Gz (Nat.gcd za.natAbs zb.natAbs);rw[hG]at hx hy U d6
 have HGc:Hid (∀ W:World,Wd W na A n c za->Wd W true B m d zb->Calls Tryz.prog 59 #[.agg #[.bool na,.slice A n c],.agg #[.bool true,.slice B m d]] W (ResW W (G:Int))):=λW h1 h2=>by
  have:=Zl6 na true A B n c m d za zb W h1 h2;rw[hG]at this;exact this
 generalize Qd za zb=R at *;clear ha hb hG b2;have a6:∀ X Y Z:Obj,Below w.heap.size w (((w.alloc X).alloc Y).alloc Z):=λX Y Z=>(((Below.refl w.heap.size w).alloc (Qb _) _).alloc Gh _).alloc Gg _;have a6:=Zb a6;go_in;go_wp2_with fail;have q0:Blk (((w.alloc (.cells #[.bool na,.slice A n c] 39)).alloc (.cells #[.bool true,.slice B m d] 39)).alloc (.cells #[.bool false,.slice none 0 0,.bool false,.slice none 0 0] 41)) w.heap.size 39 #[.bool na,.slice A n c]:=((Blk.new _ _ _).alloc _).alloc _
 have q1:Blk (((w.alloc (.cells #[.bool na,.slice A n c] 39)).alloc (.cells #[.bool true,.slice B m d] 39)).alloc (.cells #[.bool false,.slice none 0 0,.bool false,.slice none 0 0] 41)) (w.heap.size+1) 39 #[.bool true,.slice B m d]:=by
  exact CV
 have q2:Blk (((w.alloc (.cells #[.bool na,.slice A n c] 39)).alloc (.cells #[.bool true,.slice B m d] 39)).alloc (.cells #[.bool false,.slice none 0 0,.bool false,.slice none 0 0] 41)) (w.heap.size+1+1) 41 #[.bool false,.slice none 0 0,.bool false,.slice none 0 0]:=by
  exact CU
 refine(HGc.out _ (((HA.out.alloc _).alloc _).alloc _) (((HB.out.alloc _).alloc _).alloc _)).mono ?_;rintro e w1 ⟨u,ng,Ag,kg,cg,code,rfl,hR⟩;rcases hR with ⟨-,rfl,a8⟩|⟨J,-⟩
 case inr=>exact absurd J Gk
 have O:Below w.heap.size w w1:=(a6.out _ _ _).trans (u.mono Gg);have a9:=Zb (HA.out.below O);have c4:=Zb (HB.out.below O);have s1:w.heap.size+1+1<w1.heap.size:=by have:=u.size;simp at this;omega
 replace q0:=Zc u q0;replace q1:=Zc u q1;replace q2:=Zc u q2;have b8:=Zb a8;have s2:w.heap.size+1+1<w1.heap.size:=s1;clear u a8;obtain⟨W3,I,b4,q3,kW,kB,s3⟩:=Zs 39 #[.bool ng,.slice Ag kg cg] O Gk;replace q0:=kB _ _ _ q0;replace q1:=kB _ _ _ q1;replace q2:=kB _ _ _ q2;have y:=Zb (kW _ _ _ _ _ a9.out);have C:=Zb (kW _ _ _ _ _ c4.out);have o:=Zb (kW _ _ _ _ _ b8.out);have s4:w.heap.size+1+1<w1.heap.size:=s2;clear kW kB a9 c4 b8 O;have c0:=Zb q0.two;have c1:=Zb q1.two;have c3:=Zb q3.two;rw[<- I]at c0 c1 c3;obtain⟨a1,a2,-,-⟩:=c0.out;obtain⟨aP,aQ,-,-⟩:=c1.out;obtain⟨aW,aX,-,-⟩:=c3.out;have hq:=Zb (Qa q0 (Qa q1 (Qa q2 q3)));clear q0 q1 q2 q3;replace I:=Zb I;go_wp2_with fail;rw[I.out];refine(rNeg_ok ng Ag kg cg (G:Int) _ o.out).mono ?_;rintro e wn ⟨f,n2,A2,k2,c2,code,rfl,hR⟩;have J:¬ pw 4096<=(-(G:Int)).natAbs:=Gk;rcases hR with ⟨-,rfl,T⟩|⟨a3,-⟩
 case inr=>exact absurd a3 J
 have b1:Below w.heap.size w wn:=b4.trans (f.mono Gk);have HAn:=Zb (y.out.below f);have HBn:=Zb (C.out.below f);replace T:=Zb T;have sn:w1.heap.size+1<=wn.heap.size:=by have:=f.size;omega
 have q0:=Zc f hq.out.1;have q1:=Zc f hq.out.2.1;have q2:=Zc f hq.out.2.2.1;have q3:=Zc f hq.out.2.2.2;clear f c0 c1 c3 a1 a2 aP aQ aW aX I y C o b4 hq;have d3:=Zb q3.two;obtain⟨d5,d7,d4,d8⟩:=d3.out;have d0:w.heap.size≠w1.heap.size:=Gk;have b3:w.heap.size+1≠w1.heap.size:=Gk;have b0:w.heap.size+1+1≠w1.heap.size:=Gk;obtain⟨V,hV,c9,a0,kV,-,sV⟩:=Zau n2 A2 k2 c2 b1 Gk q3;replace q0:Blk V w.heap.size 39 #[.bool na,.slice A n c]:=by rw[<- hV];exact(q0.far d0 _).far d0 _
 replace q1:Blk V (w.heap.size+1) 39 #[.bool true,.slice B m d]:=by rw[<- hV];exact(q1.far b3 _).far b3 _
 replace q2:Blk V (w.heap.size+1+1) 41 #[.bool false,.slice none 0 0,.bool false,.slice none 0 0]:=by rw[<- hV];exact(q2.far b0 _).far b0 _
 have y:=Zb (kV _ _ _ _ _ HAn.out);have C:=Zb (kV _ _ _ _ _ HBn.out);have o:=Zb (kV _ _ _ _ _ T.out);clear kV HAn HBn T b1;have c0:=Zb q0.two;have c1:=Zb q1.two;have c3:=Zb a0.two;rw[<- hV]at c0 c1 c3;obtain⟨a1,a2,-,-⟩:=c0.out;obtain⟨aP,aQ,-,-⟩:=c1.out;obtain⟨aW,aX,-,-⟩:=c3.out;have hq:=Zb (Qa q0 (Qa q1 (Qa q2 a0)));clear q0 q1 q2 q3 a0 d3;replace hV:=Zb hV;go_wp2_with fail;rw[hV.out];have s3:w1.heap.size+1<=V.heap.size:=Gk;refine(Zgu na n2 A A2 n c k2 c2 za (-(G:Int)) _ y.out o.out U.out).mono ?_;rintro e w4 ⟨h,nx,Ax,kx,cx,nr,Ar,kr,cr,rfl,a4,-⟩;rw[hx.out]at a4;have b5:Below w.heap.size w w4:=c9.trans (h.mono Gk);have c6:=Zb (C.out.below h);have b7:=Zb (o.out.below h);have s5:w1.heap.size+1<=w4.heap.size:=by have:=h.size;omega
 have q1:=Zc h hq.out.2.1;have q2:=Zc h hq.out.2.2.1;have q3:=Zc h hq.out.2.2.2;clear h c0 c1 c3 a1 a2 aP aQ aW aX d5 d7 d4 d8 hV y C o c9 hq;obtain⟨W5,a5,b9,q5,kW,kB,s6⟩:=Zs 39 #[.bool nx,.slice Ax kx cx] b5 Gk;replace q1:=kB _ _ _ q1;replace q2:=kB _ _ _ q2;replace q3:=kB _ _ _ q3;have c7:=Zb (kW _ _ _ _ _ c6.out);have a7:=Zb (kW _ _ _ _ _ b7.out);have b6:=Zb (kW _ _ _ _ _ a4);clear kW kB c6 b7 a4 b5;obtain⟨W6,aI,aS,-,kW,kB,s7⟩:=Zs 39 #[.bool nr,.slice Ar kr cr] b9 Gk;replace q1:=kB _ _ _ q1;replace q2:=kB _ _ _ q2;replace q3:=kB _ _ _ q3;replace q5:=kB _ _ _ q5;have cY:=Zb (kW _ _ _ _ _ c7.out);have cZ:=Zb (kW _ _ _ _ _ a7.out);have cb:=Zb (kW _ _ _ _ _ b6.out);clear kW kB c7 a7 b6 b9;have c1:=Zb q1.two;have c3:=Zb q3.two;rw[<- aI,<- a5]at c1 c3;obtain⟨aP,aQ,-,-⟩:=c1.out;obtain⟨aW,aX,-,-⟩:=c3.out;have hq:=Zb (Qa q2 q5);clear q1 q2 q3 q5;rw[<- a5]at aI;replace aI:=Zb aI;clear a5;go_wp2_with fail;rw[aI.out];refine(Zgu true n2 B A2 m d k2 c2 zb (-(G:Int)) _ cY.out cZ.out U.out).mono ?_;exact Er
theorem Zq0(na nb:Bool)(A B:Option Addr)(n c m d:Nat)(za zb:Int)(w:World)(ha:Wd w na A n c za)(hb:Wd w nb B m d zb)(h0:zb≠0) :
    Calls Tryz.prog 33 #[.agg #[.bool na,.slice A n c],.agg #[.bool nb,.slice B m d]] w (Zdt w (Qd za zb)):=by
 have hn:=hb.1;by_cases hz:zb<0
 ·rw[Gv hz]at hn
  subst hn;exact Zqp na A B n c m d za zb w ha hb hz
 rw[Gu hz]at hn;subst hn;exact Zg0 na A B n c m d za zb w ha hb Gk
theorem Zj2(na nb nc nd:Bool)(A B C D:Option Addr)(n c m d n' c' m' d':Nat)(x y u v:Int)(w:World)(ha:Wd w na A n c x)(hb:Wd w nb B m d y)(hc:Wd w nc C n' c' u)(hd:Wd w nd D m' d' v)
    (hs:(x*y).natAbs<pw 4096) (ht:(u*v).natAbs<pw 4096) (h0:u*v≠0) :
    Calls Tryz.prog 101 #[.agg #[.bool na,.slice A n c],.agg #[.bool nb,.slice B m d],.agg #[.bool nc,.slice C n' c'],.agg #[.bool nd,.slice D m' d']] w (Zfi w (Qd (x*y) (u*v))):=by
 obtain⟨W0,a3,h,⟨q0,q1,q2,q3,q4⟩,s0⟩:=alloc5 w 39 #[.bool na,.slice A n c] 39 #[.bool nb,.slice B m d] 39 #[.bool nc,.slice C n' c'] 39 #[.bool nd,.slice D m' d'] 41 #[.bool false,.slice none 0 0,.bool false,.slice none 0 0];have hA:=Zb (Qa (ha.below h) (hb.below h));have hC:=Zb (Qa (hc.below h) (hd.below h));replace hs:=Zb hs;replace ht:=Zb ht;replace h0:=Zb h0;clear ha hb hc hd;obtain⟨a0,a1,-⟩:=q0.two;obtain⟨b0,b1,-⟩:=q1.two;have hq:=Zb (Qa q2 (Qa q3 q4));clear q0 q1 q2 q3 q4;go_in;go_wp2_with fail;refine(Zgy na nb A B n c m d x y W0 hA.out.1 hA.out.2).mono ?_;rintro e w1 ⟨f,np,P,k,q,code,rfl,hR⟩;have hP:=Zb (hR.small hs.out);have o:=hR.code0 hs.out;subst o;have O:Below w.heap.size w w1:=Gs h f;have s1:W0.heap.size<=w1.heap.size:=f.size;replace hC:=Zb (Qa (hC.out.1.below f) (hC.out.2.below f));obtain⟨q2,q3,q4⟩:=hq.out;replace q2:=Zc f q2;replace q3:=Zc f q3;replace q4:=Zc f q4;clear a3 f a0 a1 b0 b1 hq hR hs h hA;obtain⟨W2,a2,V,q5,kW,kB,s2⟩:=Zs 39 #[.bool np,.slice P k q] O O.size;replace hC:=Zb (Qa (kW _ _ _ _ _ hC.out.1) (kW _ _ _ _ _ hC.out.2));replace hP:=Zb (kW _ _ _ _ _ hP.out);replace q2:=kB _ _ _ q2;replace q3:=kB _ _ _ q3;replace q4:=kB _ _ _ q4;clear kW kB O;obtain⟨a0,a1,-⟩:=q2.two;obtain⟨b0,b1,-⟩:=q3.two;have hq:=Zb (Qa q4 q5);clear q2 q3 q4 q5;go_wp2_with fail
 refine(Zgy nc nd C D n' c' m' d' u v W2 hC.out.1 hC.out.2).mono ?_;rintro e w3 ⟨I,nr,R,k2,r,code,rfl,hR⟩;have hQ:=Zb (hR.small ht.out);have o:=hR.code0 ht.out;subst o;have T:Below w.heap.size w w3:=Gs V I;have s3:W2.heap.size<=w3.heap.size:=I.size;obtain⟨q4,q5⟩:=hq.out;replace q4:=Zc I q4;replace q5:=Zc I q5;replace hP:=Zb (hP.out.below I);clear a2 I a0 a1 b0 b1 hq hR ht V hC;obtain⟨W4,a5,U,q6,kW,kB,s4⟩:=Zs 39 #[.bool nr,.slice R k2 r] T T.size;replace hQ:=Zb (kW _ _ _ _ _ hQ.out);replace hP:=Zb (kW _ _ _ _ _ hP.out);replace q4:=kB _ _ _ q4;replace q5:=kB _ _ _ q5;clear kW kB T;obtain⟨a0,a1,-⟩:=q5.two;obtain⟨b0,b1,-⟩:=q6.two;have hq:=Zb q4;clear q4 q5 q6;go_wp2_with fail;refine(Zq0 np nr P R k q k2 r _ _ W4 hP.out hQ.out h0.out).mono ?_;rintro e w5 ⟨J,nx,Ax,kx,cx,ny,Ay,ky,cy,rfl,hF⟩;have a4:Below w.heap.size w w5:=Gs U J;have s5:W4.heap.size<=w5.heap.size:=J.size;replace hq:=Gm J hq;replace hF:=Zb hF;clear a0 a1 b0 b1 a5 J U hP hQ;obtain⟨b3,b6,b2,b5,b4,a7,a8,a9⟩:=hq.out.four;go_wp2_with fail;obtain⟨W6,Y,a6,q2,kW,-,s6⟩:=Zaa nx Ax kx cx ny Ay ky cy a4 Gk hq.out;rw[Y];obtain⟨r0,r1,r2,r3,-⟩:=q2.four;refine bodyPost_ret (v:=.tuple #[.agg #[.bool nx,.slice Ax kx cx,.bool ny,.slice Ay ky cy],.int .i64 0]) (by simp[results,Tryz.results101,go_sem,r0,r1,r2,r3]) rfl ?_;exact⟨a6,_,_,_,_,_,_,_,_,rfl,kW _ _ _ _ _ hF.out.1,kW _ _ _ _ _ hF.out.2⟩
theorem Zfo(a b:Rat)(h:b≠0):Qd (a.num*b.den) ((a.den:Int)*b.num)=a/b:=by
 rw[Qe,Qg,Qg,Qc,Qc]
 have e0:∀ x:Rat,((x.num:Int):Rat)=x*((x.den:Nat):Rat):=λx=>by
  have h1:((x.num:Int):Rat)/((x.den:Nat):Rat)=x:=by have:=Rat.num_divInt_den x;rw[Qe,Qc]at this;exact this
  have h2:((x.den:Nat):Rat)≠0:=by intro h;have:x.den=0:=by exact_mod_cast h
                                  have:=x.den_pos;omega
  rw[<- h1];grind
 have d:∀ x:Rat,((x.den:Nat):Rat)≠0:=λx h=>by
  have:x.den=0:=by exact_mod_cast h
  have:=x.den_pos;omega
 rw[e0 a,e0 b];have da:=d a;have db:=d b
 grind
theorem Zgt(a b:Rat)(h:b≠0):((a.den:Int)*b.num)≠0:=by
 have h1:=a.den_pos;have h2:b.num≠0:=λe=>h (Rat.num_eq_zero.1 e);exact Int.mul_ne_zero Gk h2
theorem Z02(na nb na' nb':Bool)(A B A' B':Option Addr)(n c m d n' c' m' d':Nat)(a b:Rat)(w:World)(ha:Fr w na A n c nb B m d a)(hb:Fr w na' A' n' c' nb' B' m' d' b)(sa:Sm a)(sb:Sm b)(h0:b≠0) :
    Calls Tryz.prog 137 #[.agg #[.bool na,.slice A n c,.bool nb,.slice B m d],.agg #[.bool na',.slice A' n' c',.bool nb',.slice B' m' d']] w (Zfi w (a/b)):=by
 obtain⟨W0,J,f,⟨q0,q1,q2⟩,s0⟩:=Zcd w 41 #[.bool na,.slice A n c,.bool nb,.slice B m d] 41 #[.bool na',.slice A' n' c',.bool nb',.slice B' m' d'] 41 #[.bool false,.slice none 0 0,.bool false,.slice none 0 0];have hA:=ha.below f;have hD:=hb.below f;clear ha hb;have hG:=Zj2 na nb' nb na' A B' B A' n c m' d' m d n' c' a.num b.den a.den b.num W0 hA.1 hD.2 hA.2 hD.1 (Zbr sa.1 sb.dn) (Zbr sa.dn sb.1) (Zgt a b h0);rw[Zfo a b h0]at hG;replace hG:=Zb hG;clear sa sb hA hD;obtain⟨a0,a1,a2,a3,-⟩:=q0.four;obtain⟨b0,b1,b2,b3,-⟩:=q1.four;replace q2:=Zb q2;clear q0 q1;go_in;go_wp2_with fail;refine hG.out.mono ?_;clear hG;rintro e w2 ⟨h,nx,Ax,kx,cx,ny,Ay,ky,cy,rfl,hF⟩;have o:Below w.heap.size w w2:=Gs f h;have s2:W0.heap.size<=w2.heap.size:=h.size;replace q2:=Gm h q2;replace hF:=Zb hF;clear a0 a1 a2 a3 b0 b1 b2 b3 h;obtain⟨Y,U,V,T,O,y,I,C⟩:=q2.out.four;go_wp2_with fail;obtain⟨W7,u,aO,q3,kW,-,s7⟩:=Zaa nx Ax kx cx ny Ay ky cy o Gk q2.out;rw[u];obtain⟨r0,r1,r2,r3,-⟩:=q3.four;refine bodyPost_ret (v:=.tuple #[.agg #[.bool nx,.slice Ax kx cx,.bool ny,.slice Ay ky cy],.int .i64 0]) (by simp[results,Tryz.results137,go_sem,r0,r1,r2,r3]) rfl ?_;exact FW
theorem Zo0(na nb na' nb':Bool)(A B A' B':Option Addr)(n c m d n' c' m' d':Nat)(a b:Rat)(w:World)(ha:Fr w na A n c nb B m d a)(hb:Fr w na' A' n' c' nb' B' m' d' b)(sa:Sm a)(sb:Sm b) :
    Calls Tryz.prog 62 #[.agg #[.bool na,.slice A n c,.bool nb,.slice B m d],.agg #[.bool na',.slice A' n' c',.bool nb',.slice B' m' d']] w (Zfi w (a*b)):=by
 obtain⟨W0,J,f,⟨q0,q1,q2⟩,s0⟩:=Zcd w 41 #[.bool na,.slice A n c,.bool nb,.slice B m d] 41 #[.bool na',.slice A' n' c',.bool nb',.slice B' m' d'] 41 #[.bool false,.slice none 0 0,.bool false,.slice none 0 0];have hA:=ha.below f;have hD:=hb.below f;clear ha hb;have hG:=Zj2 na na' nb nb' A A' B B' n c n' c' m d m' d' a.num b.num a.den b.den W0 hA.1 hD.1 hA.2 hD.2 (Zbr sa.1 sb.1) (Zbr sa.dn sb.dn) (Int.ne_of_gt (Zck a b));rw[Zl3]at hG;replace hG:=Zb hG;clear sa sb hA hD;obtain⟨a0,a1,a2,a3,-⟩:=q0.four;obtain⟨b0,b1,b2,b3,-⟩:=q1.four;replace q2:=Zb q2;clear q0 q1;go_in;go_wp2_with fail;refine hG.out.mono ?_;clear hG;rintro e w2 ⟨h,nx,Ax,kx,cx,ny,Ay,ky,cy,rfl,hF⟩;have o:Below w.heap.size w w2:=Gs f h;have s2:W0.heap.size<=w2.heap.size:=h.size;replace q2:=Gm h q2;replace hF:=Zb hF;clear a0 a1 a2 a3 b0 b1 b2 b3 h;obtain⟨Y,U,V,T,O,y,I,C⟩:=q2.out.four;go_wp2_with fail;obtain⟨W7,u,aO,q3,kW,-,s7⟩:=Zaa nx Ax kx cx ny Ay ky cy o Gk q2.out;rw[u];obtain⟨r0,r1,r2,r3,-⟩:=q3.four;refine bodyPost_ret (v:=.tuple #[.agg #[.bool nx,.slice Ax kx cx,.bool ny,.slice Ay ky cy],.int .i64 0]) (by simp[results,Tryz.results62,go_sem,r0,r1,r2,r3]) rfl ?_;exact FW
theorem Zyb(na nb na' nb':Bool)(A B A' B':Option Addr)(n c m d n' c' m' d':Nat)(a b:Rat)(w:World)(ha:Fr w na A n c nb B m d a)(hb:Fr w na' A' n' c' nb' B' m' d' b)(sa:Sm a)(sb:Sm b) :
    Calls Tryz.prog 136 #[.agg #[.bool na,.slice A n c,.bool nb,.slice B m d],.agg #[.bool na',.slice A' n' c',.bool nb',.slice B' m' d']] w (Zfi w (a-b)):=by
 obtain⟨W0,J,f,⟨q0,q1,q2⟩,s0⟩:=Zcd w 41 #[.bool na,.slice A n c,.bool nb,.slice B m d] 41 #[.bool na',.slice A' n' c',.bool nb',.slice B' m' d'] 41 #[.bool false,.slice none 0 0,.bool false,.slice none 0 0];have hA:=ha.below f;have hD:=hb.below f;clear ha hb;have hG:=Zvx na nb na' nb' A B A' B' n c m d n' c' m' d' a b W0 hA hD sa sb;replace hG:=Zb hG;clear sa sb hA hD;obtain⟨a0,a1,a2,a3,-⟩:=q0.four;obtain⟨b0,b1,b2,b3,-⟩:=q1.four;replace q2:=Zb q2;clear q0 q1;go_in;go_wp2_with fail;refine hG.out.mono ?_;clear hG;rintro e w2 ⟨h,nx,Ax,kx,cx,ny,Ay,ky,cy,rfl,hF⟩;have o:Below w.heap.size w w2:=Gs f h;have s2:W0.heap.size<=w2.heap.size:=h.size;replace q2:=Gm h q2;replace hF:=Zb hF;clear a0 a1 a2 a3 b0 b1 b2 b3 h;obtain⟨Y,U,V,T,O,y,I,C⟩:=q2.out.four;go_wp2_with fail;obtain⟨W7,u,aO,q3,kW,-,s7⟩:=Zaa nx Ax kx cx ny Ay ky cy o Gk q2.out;rw[u];obtain⟨r0,r1,r2,r3,-⟩:=q3.four;refine bodyPost_ret (v:=.tuple #[.agg #[.bool nx,.slice Ax kx cx,.bool ny,.slice Ay ky cy],.int .i64 0]) (by simp[results,Tryz.results136,go_sem,r0,r1,r2,r3]) rfl ?_;exact FW
