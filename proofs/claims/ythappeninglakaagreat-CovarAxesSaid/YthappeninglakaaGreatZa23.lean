/- The axes of two numbers, their sum and product (plain). -/
import Derived.Deep.LoopGhost
import Derived.Test.YthappeninglakaaGreatZa22
set_option maxRecDepth 100000
set_option maxHeartbeats 8000000
set_option linter.unusedSimpArgs false
set_option linter.unusedVariables false
namespace Go.Proofs.YthappeninglakaaGreat
open Go.RowKit
open Act renaming put→Qa
open List renaming not_mem_nil→Qb,map_cons→Qc,map_nil→Qd,mem_cons→Qe,mem_map_of_mem→Qg,length_cons→Qh,length_nil→Qi,getElem?_eq_getElem→Qj,mem_of_getElem?→Qo,length_map→Qt
open Below renaming refl→Qf
open Rat renaming mul_le_mul_of_nonneg_right→Qk,le_of_lt→Qp,le_total→Qq,divInt→Qs
open Nat renaming le_refl→Ql
open Option renaming getD_some→Qm
open Int renaming fdiv→Qn,le_refl→Qr
section
variable{a b d:Rat}
theorem Zuo:2*Zan a d=a+d:=by
 have h:=Zko;unfold Zan;have e:2*((a+d)*axH)=(a+d)*(2*axH):=by grind
 rw[e,h];grind
theorem Z01:axQ d b a=axQ a b d:=by unfold axQ axD;grind
theorem Z1h:axT d a=axT a d:=by unfold axT;grind
theorem ax_swap:axLong d b a=axLong a b d/\axShort d b a=axShort a b d:=by
 unfold axLong axShort axUp axR axS axN axM;rw[Z01,Z1h];exact⟨rfl,rfl⟩
theorem Ztg{x m:Int}(hm:0<m):Qn x m*m<=x/\x<(Qn x m+1)*m:=by
 refine⟨(Zmd hm).1 (Qr _),?_⟩;by_cases h:x<(Qn x m+1)*m;exact h;have:=(Zmd hm).2 (Int.not_lt.1 h);omega
theorem ax_sum:((axLong a b d:Int):Rat)+((axShort a b d:Int):Rat)<=a+d/\¬ ((axLong a b d:Int):Rat)+((axShort a b d:Int):Rat)+2<=a+d:=by
 have hm:=Zkk (a:=a) (b:=b) (d:=d);have hN:=Zu7 (a:=a) (b:=b) (d:=d);obtain⟨L1,L2⟩:=Ztg (x:=axN a b d+(axR a b d:Int)) (m:=axM a b d+axM a b d) Gk;obtain⟨S1,S2⟩:=Ztg (x:=axN a b d-axUp a b d) (m:=axM a b d+axM a b d) Gk;have hL:axLong a b d=Qn (axN a b d+(axR a b d:Int)) (axM a b d+axM a b d):=rfl;have hS:axShort a b d=Qn (axN a b d-axUp a b d) (axM a b d+axM a b d):=rfl;rw[<- hL]at L1 L2;rw[<- hS]at S1 S2
 have u:(axR a b d:Int)<=axUp a b d/\axUp a b d<=(axR a b d:Int)+1:=by
  unfold axUp
  split <;> omega
 obtain⟨M,hM⟩:=Gz (axM a b d);obtain⟨N,o⟩:=Gz (axN a b d);obtain⟨l,hl⟩:=Gz (axLong a b d);obtain⟨s,hs⟩:=Gz (axShort a b d);rw[hM]at hm L1 L2 S1 S2 hN;rw[o]at L1 L2 S1 S2 hN;rw[hl]at L1 L2 ⊢;rw[hs]at S1 S2 ⊢;rw[Zuo]at hN
 have z1:(l+s)*M<=N:=by
  have e:(l+s)*M*2=l*(M+M)+s*(M+M):=by grind
  omega
 have z2:N<(l+s+2)*M:=by
  have e:(l+s+2)*M*2=(l+1)*(M+M)+(s+1)*(M+M):=by grind
  omega
 have f:(0:Rat)<((M:Int):Rat):=by exact_mod_cast hm
 have q1:(((l+s)*M:Int):Rat)<=((N:Int):Rat):=by exact_mod_cast z1
 have q2:((N:Int):Rat)<(((l+s+2)*M:Int):Rat):=by exact_mod_cast z2
 rw[hN]at q1 q2;simp only[Rat.intCast_mul,Rat.intCast_add]at q1 q2;have e2:(((2:Int)):Rat)=2:=rfl;rw[e2]at q2;constructor;refine Rat.le_of_mul_le_mul_right (c:=((M:Int):Rat)) q1 f;intro h;have h3:=Qk h (Qp f);exact Rat.not_le.2 q2 h3
theorem Z0z{x u s:Rat}(hu:0<=u)(h1:x*x<=s)(h2:s<=u*u):x<=u:=by
 rcases Qq (a:=x) (b:=u)with h|h;exact h;rcases Qq (a:=u) (b:=x)with h3|h3
 ·have h4:0<=x-u:=by grind
  have h5:0<=x+u:=by grind
  have h6:=Rat.mul_nonneg h4 h5;have h7:x*x=u*u:=by grind
  have h8:(x-u)*(x+u)=0:=by grind
  rcases Rat.mul_eq_zero.1 h8 with h9|h9
  ·grind
  grind
 exact h3
theorem ax_prod(ha:0<a)(hd:0<d)(hp:0<a*d-b*b):((axLong a b d:Int):Rat)*((axShort a b d:Int):Rat)<=a*d-b*b/\axShort a b d<=axLong a b d:=by
 have hl:=ax_long.2 (Qr (axLong a b d));have hs:=ax_short.2 (Qr (axShort a b d));have h0:=Zlk ha hd hp;have y:=Zs7 (b:=b) ha hd;obtain⟨l,o⟩:=Gz (axLong a b d);obtain⟨s,f⟩:=Gz (axShort a b d)
 have J:s<=l:=by
  rw[<- o,<- f];refine ax_long.1 (.inl ?_);exact hs.1
 rw[o]at hl y ⊢;rw[f]at hs h0 ⊢;refine⟨?_,J⟩;obtain⟨O,e⟩:=hs;have hu:0<=Zan a d-(s:Rat):=by grind
 have C:((s:Rat)-Zan a d)*((s:Rat)-Zan a d)=(Zan a d-(s:Rat))*(Zan a d-(s:Rat)):=by grind
 rw[C]at e
 have hx:(l:Rat)-Zan a d<=Zan a d-(s:Rat):=by
  rcases hl with h|h;exact Rat.le_trans h hu;exact Z0z hu h e
 have I:(0:Rat)<=((s:Int):Rat):=by exact_mod_cast h0
 have u:(l:Rat)<=Zan a d+(Zan a d-(s:Rat)):=by grind
 have h1:=Qk u I;refine Rat.le_trans h1 ?_
 have e1:Zan a d*Zan a d-Zhr a b d=a*d-b*b:=by
  have h:=Zko;unfold Zan Zhr Zey;have e3:(a+d)*axH*((a+d)*axH)=(a-d)*axH*((a-d)*axH)+a*d*((2*axH)*(2*axH)):=by grind
  rw[e3,h];grind
 rw[<- e1]
 grind
end
theorem SmN.intA(x:Int)(k:Nat)(h:x.natAbs<=pw k):SmN (k+1) 1 (x:Rat):=by
 exact Iw
theorem fewQ_sm{k:Nat}{q:Rat}(h:SmN k k q):Zjh q<=k:=Nat.max_le.2 ⟨(Zs _ _).2 h.1,(Zs _ _).2 h.2⟩
theorem Z1i{rt:List RX}{Q:List (List Rat)}{k:Nat}(h:Zfw rt=Zfv Q)(hq:∀ r ∈ Q,∀ q ∈ r,Zjh q<=k):Zkm k rt:=λr hr e he=>by
 have h1:Zl4 r ∈ Zfv Q:=by rw[<- h];exact Qg hr
 unfold Zfv at h1;obtain⟨qs,o,e1⟩:=List.mem_map.1 h1;have h2:Zkr e ∈ (Zl4 r).2:=Qg he;rw[<- e1]at h2;obtain⟨q,f,e2⟩:=List.mem_map.1 h2;have h3:=hq qs o q f;unfold Zkr at e2;injection e2 with e2 e3
 exact .inl (by rw[<- e2];exact h3)
theorem Zs0{rt:List RX}{a b c d:Rat}(h:Zfw rt=Zfv [[a,b],[c,d]])(hbc:b=c)(ha:0<a)(hp:0<a*d-b*b)(fa:Zjh a<=64)(fb:Zjh b<=64)(fd:Zjh d<=64):Za9 rt=0/\rt.length=2:=by
 subst hbc;have hq:=Zl6 h
 have hl:rt.length=2:=by
  have h9:=congrArg List.length h;simpa [Zfw,Zfv]using h9
 refine⟨?_,hl⟩
 have hV:covV rt:=by
  refine⟨?_,by omega,?_⟩;rw[Zro,h];simp[Zfv];rw[Zsa,h,hl];simp[Zfv,fa,fb,fd]
 have f:a≠0:=λe=>by rw[e]at ha;exact absurd ha Gj
 refine hV.pos ?_ ?_
 ·rw[hq,symB_iff]
  intro i k hi hk;simp only[Qh,Qi]at hi hk;rcases(show i=0 \/ i=1 by omega)with rfl|rfl <;> rcases(show k=0 \/ k=1 by omega)with rfl|rfl <;> rfl
 rw[hq,hl];intro t ht;rcases(show t=0 \/ t=1 by omega)with rfl|rfl;exact ha;show 0<d-b/a*b
 have e:a*(d-b/a*b)=a*d-b*b:=by
  have h5:b/a*a=b:=by rw[Rat.div_def,Rat.mul_assoc,Rat.inv_mul_cancel _ f,Rat.mul_one]
  grind
 rcases Qq (a:=d-b/a*b) (b:=0)with h1|h1
 ·have h2:=Rat.mul_le_mul_of_nonneg_left h1 (Qp ha)
  rw[e,Rat.mul_zero]at h2;exact absurd hp (Rat.not_lt.2 h2)
 rcases Rat.le_iff_lt_or_eq.1 h1 with h2|h2;exact h2;rw[<- h2,Rat.mul_zero]at e;rw[<- e]at hp;exact absurd hp Rat.lt_irrefl
theorem Z1r{rs:List RX}(h0:Za9 rs=0)(h2:2<=rs.length):Zf9 rs [0,1]=0/\Zf9 rs [1,0]=0:=by
 have k2:∀ ls:List Int,(ls=[0,1] \/ ls=[1,0])->Zhe rs.length ls=true:=λls hls=>by
  refine Zrl (by rcases hls with rfl|rfl <;> decide) (by rcases hls with rfl|rfl <;> exact h2) λk hk=>?_
  have e:k=0 \/ k=1:=by
   rcases hls with rfl|rfl <;> (simp only[Qh,Qi]at hk;omega)
  refine⟨?_,λj hj=>?_⟩
  ·rcases hls with rfl|rfl <;> rcases e with rfl|rfl <;> simp <;> omega
  obtain rfl:k=1:=Gk;obtain rfl:j=0:=Gk;rcases hls with rfl|rfl <;> simp
 exact⟨Zn8 h0 (k2 _ (.inl rfl)),Zn8 h0 (k2 _ (.inr rfl))⟩
theorem Znq{w:World}{A:Option Addr}{n c:Nat}{rs rt:List RX}(h:MXL w A n c rs)(hf:Zkm 4 rs)(h0:Za9 rs=0)(h2:2<=n)(sw:Bool)(ht:Zfw rt=Zfv (if sw then [[Zj (qM rs) 1 1,Zj (qM rs) 1 0],[Zj (qM rs) 0 1,Zj (qM rs) 0 0]]else [[Zj (qM rs) 0 0,Zj (qM rs) 0 1],[Zj (qM rs) 1 0,Zj (qM rs) 1 1]])):Za9 rt=0/\rt.length=2/\Zkm 5 rt/\∀ a b,SmN 5 5 (Zj (qM rt) a b):=by
 have O:rs.length=n:=h.1;have hS:=Zv2 h hf h0;obtain⟨J,I,C⟩:=Zhp h0;have hl:(qM rs).length=n:=Zvw h;have hs:Zj (qM rs) 1 0=Zj (qM rs) 0 1:=symB_iff.1 I 1 0 Gk Gk;have k0:=Zf6 h0 (k:=0) Gk;have k1:=Zf6 h0 (k:=1) Gk
 have hp:0<Zj (qM rs) 0 0*Zj (qM rs) 1 1-Zj (qM rs) 0 1*Zj (qM rs) 0 1:=by
  have h1:=C 1 Gk;have e:dQ (Zj (qM rs)) 1=Zj (qM rs) 1 1-Zj (qM rs) 1 0/Zj (qM rs) 0 0*Zj (qM rs) 0 1:=rfl;rw[e,hs]at h1;have h3:=Rat.mul_pos k0 h1;have eF:Zj (qM rs) 0 0≠0:=λe=>by rw[e]at k0;exact absurd k0 Gj
  exact Ft
 have f:∀ a b,Zjh (Zj (qM rs) a b)<=5:=λa b=>fewQ_sm (hS a b);have hq:=Zl6 ht
 have u:∀ r ∈ qM rt,∀ q ∈ r,∃ a b,q=Zj (qM rs) a b:=λr hr q hqr=>by
  rw[hq]at hr;cases sw <;> simp only[Bool.false_eq_true,if_false,if_true,Qe,Qb,or_false]at hr <;> rcases hr with rfl|rfl <;> simp only[Qe,Qb,or_false]at hqr <;> rcases hqr with rfl|rfl <;> exact⟨_,_,rfl⟩
 have o:Za9 rt=0/\rt.length=2:=by
  cases sw with
  | false=>exact Zs0 (by simpa using ht) hs.symm k0 hp (by have:=f 0 0;omega) (by have:=f 0 1;omega) (by have:=f 1 1;omega)
  | true =>
   refine Zs0 (by simpa using ht) hs k1 ?_ (by have:=f 1 1;omega) (by have:=f 1 0;omega) (by have:=f 0 0;omega);rw[hs];have e:Zj (qM rs) 1 1*Zj (qM rs) 0 0-Zj (qM rs) 0 1*Zj (qM rs) 0 1=Zj (qM rs) 0 0*Zj (qM rs) 1 1-Zj (qM rs) 0 1*Zj (qM rs) 0 1:=by grind
   rw[e];exact hp
 refine⟨o.1,o.2,Z1i ht λr hr q hqr=>?_,λa b=>?_⟩
 ·rw[<- hq]at hr
  obtain⟨a,b,rfl⟩:=u r hr q hqr;exact f a b
 have hz:SmN 5 5 (0:Rat):=⟨Zby 5,Zdm (a:=0) Gj⟩;unfold Zj;cases e1:(qM rt)[a]? with
 | none=>simpa using hz
 | some r =>
  rw[Qm];cases e2:r[b]? with
  | none=>simpa using hz
  | some q =>
   rw[Qm];obtain⟨x,y,rfl⟩:=u r (Qo e1) q (Qo e2);exact hS x y
attribute [local go_sem] Zi
theorem Zj2(x y:Int)(w:World)(hx1:-9223372036854775808<=x)(hx2:x<=9223372036854775807)(h0:0<y)(hy:y<=9223372036854775807) :
    Calls Tryz.prog 18 #[.int .i64 x,.int .i64 y] w (Zdp w (Qs x y)):=by
 obtain⟨W0,U,C,q0,s0⟩:=Zao w 41 #[.bool false,.slice none 0 0,.bool false,.slice none 0 0];obtain⟨gR,f⟩:=Gz w.heap.size;rw[f]at q0;go_in;go_wp2_with fail;(try rw[U]);(try rw[f]);rw[f]at C s0;refine(rOf_pos x y W0 hx1 hx2 h0 hy).mono ?_;rintro e w1 ⟨J,pn,pA,pk,pc,pm,pB,pj,pd,rfl,hf⟩;obtain⟨g1,u⟩:=Gz w1.heap.size;obtain⟨V1,O,qv,I⟩:=Zaq (w:=w1) 41 #[.bool pn,.slice pA pk pc,.bool pm,.slice pB pj pd];rw[u]at qv;have h:=Gs J I;have q1:=Ze h q0;have T:=Zd (hf.below I);obtain⟨v0,v1,v2,v3,-⟩:=qv.four;obtain⟨c0,c1,c2,c3,z0,z1,z2,z3⟩:=q1.four;clear hf;replace f:=Zd f;go_wp2_with fail;(try rw[u]);(try rw[O]);obtain⟨W5,V,q5,o,s5⟩:=Zzy pn pA pk pc pm pB pj pd q1;go_wp2_with fail;(try rw[V]);obtain⟨r0,r1,r2,r3,-⟩:=q5.four;refine bodyPost_ret (v:=.agg #[.bool pn,.slice pA pk pc,.bool pm,.slice pB pj pd]) (by simp[results,Tryz.results18,go_sem,r0,r1,r2,r3]) rfl ?_;refine⟨?_,_,_,_,_,_,_,_,_,rfl,T.out.keptV o q1 (Zfp _ _ _ _ _ _ _ _)⟩;rw[f.out];exact C.trans ((h.mono Gk).trans (o.to_below (λk e=>by omega) (by have:=h.size;omega)))
theorem Zmm(A:Option Addr)(n c:Nat)(l:List Int)(w:World)(h:LimI w A n c l)(hn9:n<=900) :
    Calls Tryz.prog 36 #[.slice A n c] w λe w'=>∃ v,e=.returned v/\Below w.heap.size w w'/\OwnF 41 w' w.heap.size v (l.map λ(z:Int)=>(z:Rat)):=by
 obtain⟨iF,hi,a5,a7,a9⟩:=info_parts Ze1;have hl:=Zd h.1;have a4:=h.2.2.1;unfold maxLen at a4;have b4:=h.2.1;replace h:=Zd h;go_in;go_wp2_with fail
 go_loopg [3,4] n (λk ov iv wr=>∃ i:Nat,i+k=n/\iv=.int .i64 i/\Below w.heap.size w wr/\OwnF 41 wr w.heap.size ov ((l.map λ(z:Int)=>(z:Rat)).take i))
 case atStart=>exact⟨0,by omega,rfl,Qf _ _,OwnF.nil _ _ _⟩
 case round =>
  obtain⟨i,b3,rfl,hB,hO⟩:=hrel;cases gk with
  | zero =>
   obtain rfl:i=n:=Gk;have t1:decide ((i:Int)<(i:Int))=false:=Gh;replace hO:=Zd hO;go_wp2_with fail;go_ret;refine⟨_,rfl,hB,?_⟩;have h1:=hO.out;rw[List.take_of_length_le (by rw[Qt,hl.out];exact Ql _)]at h1;exact h1
  | succ k' =>
   obtain rfl:k'=n-(i+1):=Gk;have C:i<n:=Gk;have t1:decide ((i:Int)<(n:Int))=true:=Gv Gk;have bi:(i:Int)<(n:Int):=Gk;have hq:=h.out.below hB;have hz:=Zkt hq.2.2.2.1 i;obtain⟨g,o,rfl,hc⟩:=hq.2.2.2.2 Gk;have k0:=hc i C;have J:=hz;unfold I64 at J;obtain⟨z,f⟩:=Gz (l[i]?.getD 0);rw[f]at k0 J;replace hO:=Zd hO;clear hc hq;go_wp2_with fail;refine(Zj2 z 1 wr Gk Gk Gj Gj).mono ?_;rintro e w3 ⟨a2,na,B1,m1,d1,nb,B2,m2,d2,rfl,hf⟩;rw[Zie]at hf;have hs:=hB.size;have u:((l.map λ(z:Int)=>(z:Rat)).take i).length+1<=1000:=by rw[List.length_take,Qt];omega
   have b1:Hid ((l.map λ(z:Int)=>(z:Rat)).take i ++ [(z:Rat)]=(l.map λ(z:Int)=>(z:Rat)).take (i+1)):=Zd (by
    rw[List.take_add_one,List.getElem?_map,Qj (l:=l) (i:=i) (by rw[hl.out];exact C)];rw[Qj (l:=l) (i:=i) (by rw[hl.out];exact C)]at f;simp only[Qm]at f;rw[f];rfl)
   obtain⟨gy,O⟩:=Gz w3.heap.size;obtain⟨Y1,y⟩:=Gz (w3.alloc (.cells #[.bool na,.slice B1 m1 d1,.bool nb,.slice B2 m2 d2] 41));have a0:Below w3.heap.size w3 Y1:=by rw[<- y];exact(Qf _ _).alloc (Ql _) _
   have a3:Blk Y1 gy 41 #[.bool na,.slice B1 m1 d1,.bool nb,.slice B2 m2 d2]:=by rw[<- y,<- O];exact Blk.new _ _ _
   have a6:Fr Y1 na B1 m1 d1 nb B2 m2 d2 (z:Rat):=hf.below a0;have a1:=Gs a2 a0;have U:=hO.out.kept a1;have V:=hB.trans (a1.mono hs);have T:=V.size;replace u:=Zd u;clear hf f hz J;go_wp2_with ((try rw[y]);(try rw[O]);at_builtin;refine Zdt _ rfl (.tmp 11) (.tmp 17) 35 rfl w.heap.size 41 iF Tryz.underlying35 hi a5 a7 a9 _ _ rfl U _ (some ⟨gy,0,none⟩) 1 1 [⟨na,B1,m1,d1,nb,B2,m2,d2,(z:Rat)⟩] rfl (Zcn _ a3) rfl (by intro e he;rw[List.mem_singleton]at he;subst he;exact a6) u.out T ?_;intro v2 w5 I b0 b2);have a8:=V.grown b0 T (λk hk=>U.row_ge k hk);simp only[Qc,Qd]at I;rw[b1.out]at I
   go_roundg (n-(i+1))
   case measure=>omega
   case rel=>exact⟨i+1,by omega,by go_num,a8,I⟩
def exR(A B:Option Addr):List RI:=[⟨A,2,2,[1,0]⟩,⟨B,2,2,[0,2]⟩]
def exW:List Int:=[1000000000000,1000000000000]
def exQ:List (List Rat):=[[1000000,0],[0,250000]]
section
variable{A B:Option Addr}
theorem Z09:Zew (exR A B) exW 2 0 0=1000000000000/\Zew (exR A B) exW 2 0 1=0/\Zew (exR A B) exW 2 1 0=0/\Zew (exR A B) exW 2 1 1=4000000000000:=by
 have d1:Zc3 exW (Zcg (exR A B) 0) (Zcg (exR A B) 0) 2=1000000000000:=rfl;have d2:Zc3 exW (Zcg (exR A B) 0) (Zcg (exR A B) 1) 2=0:=rfl;have d3:Zc3 exW (Zcg (exR A B) 1) (Zcg (exR A B) 0) 2=0:=rfl;have d4:Zc3 exW (Zcg (exR A B) 1) (Zcg (exR A B) 1) 2=4000000000000:=rfl;unfold Zew;rw[d1,d2,d3,d4];exact⟨rfl,rfl,rfl,rfl⟩
theorem ex_n0:n0I (exR A B)=2:=rfl
theorem ex_long:(exR A B).any RI.long6=false:=rfl
theorem ex_sys:Zd8 (exR A B) (List.replicate (min (exR A B).length 200) 0) exW=0:=by
 show Zd8 (exR A B) [0,0] exW=0;rfl
theorem ex_det:Zay 2 (Zew (exR A B) exW 2)≠0:=by
 obtain⟨e1,e2,e3,e4⟩:=Z09 (A:=A) (B:=B)
 have e:Zay 2 (Zew (exR A B) exW 2)=Zay 2 (λi j=>if i=0 then (if j=0 then 1000000000000 else 0)else (if j=0 then 0 else 4000000000000)):=Zba λi j hi hj=>by
  rcases(show i=0 \/ i=1 by omega)with rfl|rfl <;> rcases(show j=0 \/ j=1 by omega)with rfl|rfl;exact e1;exact e2;exact e3;exact e4
 rw[e];decide +kernel
theorem ex_of:ofE (exR A B) exW=0:=Z06 ex_long ex_sys ex_det
theorem ex_mod{k:Nat}(hk:k<=300):ModI (exR A B) 2 0 k:=by
 refine⟨λj r _ _ hr=>?_,by omega,by omega,by omega,hk⟩;rcases j with _|_|j;cases hr;exact⟨.inl (show (2:Nat)<=4 from by decide),show (2:Nat)<=15 from by decide⟩;cases hr;exact⟨.inl (show (2:Nat)<=4 from by decide),show (2:Nat)<=15 from by decide⟩;cases hr
theorem ex_ofQ{X:Nat->Nat->Rat}(h:OfP (exR A B) exW 2 2 X):ofQ X 2=exQ:=by
 obtain⟨e1,e2,e3,e4⟩:=Z09 (A:=A) (B:=B);have u:=h.1 0 0 Gj Gj;have f:=h.1 0 1 Gj Gj;have o:=h.1 1 0 Gj Gj;have y:=h.1 1 1 Gj Gj;simp only[Za7,e1,e2,e3,e4]at u f o y
 have J:X 0 2*Zeb=1000000:=by
  have e:(1000000000000:Rat)*X 0 2=1:=by
   have h9:=u;simp at h9
   grind
  have e9:Zeb=1000000*1000000000000:=GY;rw[e9];grind
 have O:X 1 2*Zeb=0:=by
  have e:(4000000000000:Rat)*X 1 2=0:=by
   have h9:=f;simp at h9
   grind
  have e2:X 1 2=0:=by grind
  rw[e2];grind
 have C:X 0 3*Zeb=0:=by
  have e:(1000000000000:Rat)*X 0 3=0:=by
   have h9:=o;simp at h9
   grind
  have e2:X 0 3=0:=by grind
  rw[e2];grind
 have I:X 1 3*Zeb=250000:=by
  have e:(4000000000000:Rat)*X 1 3=1:=by
   have h9:=y;simp at h9
   grind
  have e9:Zeb=250000*4000000000000:=GY;rw[e9];grind
 show [[X 0 2*Zeb,X 0 3*Zeb],[X 1 2*Zeb,X 1 3*Zeb]]=exQ;rw[J,C,O,I];rfl
end
theorem Zrh{rs:List RX}(h:Zfw rs=Zfv exQ):Zkm 1 rs:=λr hr e he=>by
 have h1:Zl4 r ∈ Zfv exQ:=by rw[<- h];exact Qg hr
 have h2:Zkr e ∈ (Zl4 r).2:=Qg he;have h3:∀ x ∈ Zfv exQ,∀ y ∈ x.2,y.1<=1:=GY;exact .inl (h3 _ h1 _ h2)
theorem Zq1{rs:List RX}(h:Zfw rs=Zfv exQ):Za9 rs=0:=by
 have hq:=Zl6 h
 have hl:rs.length=2:=by
  have h9:=congrArg List.length h;simpa [Zfw,Zfv,exQ]using h9
 unfold Za9;rw[Zro,Zsa,h,hq,hl];decide +kernel
theorem ex_ent:Zj exQ 0 0=1000000/\Zj exQ 0 1=0/\Zj exQ 1 1=250000:=⟨rfl,rfl,rfl⟩
theorem Zwe:axR 1000000 0 250000=750000:=by
 unfold axR
 exact Zi1 (by
  have e:(axS 1000000 0 250000).natAbs=562500000000:=GY;rw[e];exact⟨by decide,by decide⟩)
theorem ex_axes:axLong 1000000 0 250000=1000000/\axShort 1000000 0 250000=250000:=by
 have e1:axN 1000000 0 250000=1250000:=GY;have e2:axM 1000000 0 250000=1:=GY;have e3:axS 1000000 0 250000=562500000000:=GY
 have e4:axUp 1000000 0 250000=750000:=by
  unfold axUp;rw[Zwe,e3];decide
 unfold axLong axShort;rw[Zwe,e1,e2,e4];decide
theorem ex_bil{x:Nat->Rat}(h0:x 0=1000)(h1:x 1=500):bil (Zj exQ) 2 x x=2:=by
 have e:bil (Zj exQ) 2 x x=bil (Zj exQ) 2 (λi=>if i=0 then 1000 else 500) (λi=>if i=0 then 1000 else 500):=by
  have hc:∀ i,i<2->x i=(λi=>if i=0 then (1000:Rat)else 500) i:=λi hi=>by
   rcases(show i=0 \/ i=1 by omega)with rfl|rfl;exact h0;exact h1
  rw[Zpk hc,Zzv,Zpk hc]
 rw[e];decide +kernel
theorem LimI.lit7{w:World}{g:Nat}{t:TypeId}{l:List Int}{cs:Array Value}(h:Blk w g t cs)(hc:cs=(l.map (λx=>Value.int .i64 x)).toArray)(hl:∀ x ∈ l,I64 x)(hn:l.length<=1000):LimI w (some ⟨g,0,none⟩) l.length l.length l:=by
 subst hc;refine⟨rfl,Ql _,by unfold maxLen;omega,hl,λ_=>⟨g,0,rfl,λk hk=>?_⟩⟩;rw[Nat.zero_add,h.cell];simp[Qj hk]
theorem MFL.two7{w:World}{g:Nat}{t:TypeId}{A B:Option Addr}{n c m d:Nat}{p q:List Rat}(h:Blk w g t #[.slice A n c,.slice B m d])(hp:FL w A n c p)(hq:FL w B m d q):MFL w (some ⟨g,0,none⟩) 2 2 [p,q]:=by
 refine⟨rfl,Ql _,by unfold maxLen;omega,λ_=>⟨g,0,rfl,λk r hr=>?_⟩⟩
 match k,hr with
 | 0,hr=>cases hr;exact⟨A,n,c,h.cell 0,hp⟩
 | 1,hr=>cases hr;exact⟨B,m,d,h.cell 1,hq⟩
 | k+2,hr=>simp at hr
theorem MIL.two7{w:World}{g:Nat}{t:TypeId}{a b:RI}(h:Blk w g t #[.slice a.A a.n a.c,.slice b.A b.n b.c])(ha:LimI w a.A a.n a.c a.l)(hb:LimI w b.A b.n b.c b.l):MIL w (some ⟨g,0,none⟩) 2 2 [a,b]:=by
 refine⟨rfl,Ql _,by unfold maxLen;omega,λr hr=>?_,λ_=>⟨g,0,rfl,λk r hr=>?_⟩⟩
 ·simp only[Qe,Qb,or_false]at hr
  rcases hr with rfl|rfl;exact ha;exact hb
 match k,hr with
 | 0,hr=>cases hr;exact h.cell 0
 | 1,hr=>cases hr;exact h.cell 1
 | k+2,hr=>simp at hr
theorem Zh2(w:World):Calls Tryz.prog 37 #[] w λe w'=>∃ A,e=.returned (.slice A 2 2)/\Below w.heap.size w w'/\MFL w' A 2 2 exQ:=by
 have a0:∀ l:List Int,(∀ x ∈ l,x.natAbs<=1000000)->∀ x ∈ l,I64 x:=λl h x hx=>by have:=h x hx;unfold I64;omega
 obtain⟨g1,O⟩:=Gz w.heap.size;obtain⟨V1,Y,qa,I⟩:=Zaq (w:=w) 2 #[.int .i64 1000000,.int .i64 0];have o:=LimI.lit7 (l:=[1000000,0]) qa rfl (a0 _ Gj) Gj;rw[O]at o;go_in;go_wp2_with fail;(try rw[O]);(try rw[Y]);clear Y qa;replace O:=Zd O;refine(Zmm (some ⟨g1,0,none⟩) 2 2 [1000000,0] V1 o Gj).mono ?_;rintro e w2 ⟨v2,rfl,a4,a3⟩;have U:=Gs I a4;obtain⟨A2,c2,rfl,f⟩:=a3.fl;replace f:FL w2 A2 2 c2 [1000000,0]:=f;replace f:=Zd f;clear a3 o a4 I;obtain⟨g2,T⟩:=Gz w2.heap.size;obtain⟨V2,a5,qa,J⟩:=Zaq (w:=w2) 2 #[.int .i64 0,.int .i64 250000];have o:=LimI.lit7 (l:=[0,250000]) qa rfl (a0 _ Gj) Gj;rw[T]at o;simp only[Qc,Qd,Qh,Qi];go_wp2_with fail;(try rw[T]);(try rw[a5]);clear a5 qa;replace T:=Zd T;refine(Zmm (some ⟨g2,0,none⟩) 2 2 [0,250000] V2 o Gj).mono ?_;rintro e w3 ⟨v3,rfl,a6,a2⟩;have C:=Gs J a6;have V:=Gs U C;obtain⟨A3,c3,rfl,y⟩:=a2.fl;replace y:FL w3 A3 2 c3 [0,250000]:=y;replace f:=Zd (f.out.below C);replace y:=Zd y;clear a2 o a6 J C U;obtain⟨g4,a1⟩:=Gz w3.heap.size;obtain⟨V4,a9,qa,u⟩:=Zaq (w:=w3) 35 #[.slice A2 2 c2,.slice A3 2 c3];rw[a1]at qa;have a7:=Zd (MFL.two7 qa (f.out.below u) (y.out.below u));have a8:=Zd (Gs V u);clear f y V u qa;simp only[Qc,Qd,Qh,Qi];go_wp2_with fail;(try rw[a1]);(try rw[a9]);go_ret;exact⟨_,rfl,a8.out,a7.out⟩
section
variable{a b d:Rat}
end
def pA(E:Int)(z:Int):Bool:=if E=0 then decide (z<0)else false
theorem Fr.df7{w:World}{na:Bool}{A:Option Addr}{n c:Nat}{nb:Bool}{B:Option Addr}{m d:Nat}{q:Rat}(h:Fr w na A n c nb B m d q):na=(dfQ q).na/\nb=(dfQ q).nb/\Lim w A n c (dfQ q).la/\Lim w B m d (dfQ q).lb:=by
 have h3:=h.2.2.2;rw[Int.natAbs_natCast]at h3;exact⟨h.1.1,h.neg,h.1.2.2,h3⟩
theorem ex_sigV{es:List FX}(h:es.map Zkr=([1000,500]:List Rat).map λq=>(Zjh q,true,q)):(∀ e ∈ es,e.few<=4 \/ 64<e.few)/\Zc2 es=true:=by
 have h3:∀ y ∈ (([1000,500]:List Rat).map λq=>(Zjh q,true,q)),y.1<=4/\y.2.1=true:=GY
 have h4:∀ e ∈ es,(Zkr e).1<=4/\(Zkr e).2.1=true:=λe he=>by
  have h2:Zkr e ∈ es.map Zkr:=Qg he;rw[h]at h2;exact h3 _ h2
 refine⟨λe he=>.inl (h4 e he).1,?_⟩;unfold Zc2;rw[List.all_eq_true];intro e he;have h1:=(h4 e he).1;have h2:=(h4 e he).2;unfold FX.fine64;simp only[Zkr]at h1 h2;rw[h2];simp;omega
theorem ex_dist{rs:List RX}{es:List FX}(h:qM rs=exQ)(hl:rs.length=2)(hq:es.map FX.q=[1000,500]):Zpf rs es=2:=by
 unfold Zpf;rw[h,hl];exact ex_bil (by unfold Zra;rw[hq];rfl) (by unfold Zra;rw[hq];rfl)
theorem ex_axE{rs:List RX}(h:Za9 rs=0)(hl:rs.length=2):axE rs=0:=by
 unfold axE;rw[Gw (by simp[h]),Gx hl]
theorem Zyj(w:World):Calls Tryz.prog 13 #[] w λe w'=>e=.returned (.bool true)/\Below w.heap.size w w':=by
 have hmx:=Gt;have g6:∀ l:List Int,(∀ x ∈ l,x.natAbs<=1000000000000)->∀ x ∈ l,I64 x:=λl h x hx=>by have:=h x hx;unfold I64;omega
 have i7:Hid (Below w.heap.size w w):=Zd (Qf _ _);go_in;obtain⟨g1,h3⟩:=Gz w.heap.size;obtain⟨V3,k5,q5,k2⟩:=Zaq (w:=w) 2 #[.int .i64 1,.int .i64 0];rw[h3]at q5;have i6:=Gn i7 k2;clear i7 k2;replace q5:=Zd q5;obtain⟨g8,h5⟩:=Gz V3.heap.size;obtain⟨k0,i0,b0,f9⟩:=Zaq (w:=V3) 2 #[.int .i64 0,.int .i64 2];rw[h5]at b0;replace q5:=Gm f9 q5;have e5:=Gn i6 f9;clear i6 f9;replace b0:=Zd b0;obtain⟨j2,c7⟩:=Gz k0.heap.size;obtain⟨l6,i2,c0,c2⟩:=Zaq (w:=k0) 23 #[.slice (some ⟨g1,0,none⟩) 2 2,.slice (some ⟨g8,0,none⟩) 2 2];rw[c7]at c0;replace q5:=Gm c2 q5;replace b0:=Gm c2 b0;have f7:=Gn e5 c2;clear e5 c2;replace c0:=Zd c0;obtain⟨l4,c5⟩:=Gz l6.heap.size;obtain⟨i8,h7,e0,b7⟩:=Zaq (w:=l6) 2 #[.int .i64 1000000000000,.int .i64 1000000000000];rw[c5]at e0;replace q5:=Gm b7 q5;replace b0:=Gm b7 b0;replace c0:=Gm b7 c0;have e8:=Gn f7 b7;clear f7 b7;replace e0:=Zd e0
 have b8:MIL i8 (some ⟨j2,0,none⟩) 2 2 (exR (some ⟨g1,0,none⟩) (some ⟨g8,0,none⟩)):=MIL.two7 (a:=⟨(some ⟨g1,0,none⟩),2,2,[1,0]⟩) (b:=⟨(some ⟨g8,0,none⟩),2,2,[0,2]⟩) c0.out (LimI.lit7 (l:=[1,0]) q5.out rfl (g6 _ Gj) Gj) (LimI.lit7 (l:=[0,2]) b0.out rfl (g6 _ Gj) Gj);have c9:LimI i8 (some ⟨l4,0,none⟩) 2 2 exW:=LimI.lit7 (l:=exW) e0.out rfl (g6 _ Gj) Gj;obtain⟨X,e6,-,h4⟩:=of_all (ws:=exW) b8 (ex_mod (k:=2) Gj);have d8:ofQ X 2=exQ:=ex_ofQ (e6 ex_of).1;clear q5 b0 c0 e0;replace b8:=Zd b8;replace c9:=Zd c9;replace e6:=Zd e6;replace h4:=Zd h4;replace d8:=Zd d8;go_wp2_with fail;(try rw[h3]);(try rw[k5]);(try rw[h5]);(try rw[i0]);(try rw[c7]);(try rw[i2]);(try rw[c5]);(try rw[h7]);clear k5;replace h3:=Zd h3;clear i0;replace h5:=Zd h5;clear i2;replace c7:=Zd c7;clear h7;replace c5:=Zd c5;refine(cOf_any (some ⟨j2,0,none⟩) (some ⟨l4,0,none⟩) 2 2 2 2 (exR (some ⟨g1,0,none⟩) (some ⟨g8,0,none⟩)) exW X i8 b8.out c9.out e6.out h4.out).mono ?_;rintro e m4 ⟨a1,hP⟩;replace b8:=Zd (b8.out.below a1);replace c9:=Zd (c9.out.below a1);have d5:=Gn e8 a1;clear e8 a1;rcases hP with ⟨-,rt,i4,⟨-,A1,c1,rfl,V⟩|⟨h9,-⟩⟩|⟨h9,-⟩
 case inr=>exact absurd ex_of h9
 case inl.inr =>
  rw[ex_n0,d8.out]at i4;exact absurd (Zq1 i4) h9
 rw[ex_n0,d8.out]at V;rw[ex_n0];clear i4 e6 h4 d8 b8 c9;replace V:=Zd V;go_wp2_with fail;refine(Zh2 m4).mono ?_;rintro e m3 ⟨Aa,rfl,i5,j1⟩;replace V:=Zd (V.out.below i5);have f3:=Gn d5 i5;clear d5 i5;obtain⟨rsa,b1,d4,g7⟩:=j1.mxs;have k7:=Zd (FacC.of b1 (Zrh g7) (λ_=>by decide));have j0:Hid (Zkm 4 rsa):=Zd (λr hr e he=>(Zrh g7 r hr e he).imp (λh=>Nat.le_trans h Gj) id);have k8:=Zd (Zq1 g7);have k9:Hid (rsa.length=2):=Zd b1.1;replace d4:=Zd d4;clear j1 g7;replace b1:=Zd b1;go_wp2_with fail;refine(Zlg Aa 2 2 rsa m3 b1.out k7.out (λh0=>Zv2 b1.out j0.out h0)).mono ?_;rintro e l0 ⟨a1,hP⟩;replace V:=Zd (V.out.below a1);replace b1:=Zd (b1.out.below a1);have d7:=Gn f3 a1;clear f3 a1;rcases hP with ⟨-,un,uA,uk,uc,vn,vA,vk,vc,rfl,hu,hv⟩|⟨h9,-⟩
 case inr=>exact absurd (ex_axE k8.out k9.out) h9
 rw[d4.out,ex_ent.1,ex_ent.2.1,ex_ent.2.2,ex_axes.1]at hu;rw[d4.out,ex_ent.1,ex_ent.2.1,ex_ent.2.2,ex_axes.2]at hv;obtain rfl:un=false:=hu.1;obtain rfl:vn=false:=hv.1;have ul:=hu.lim;have vl:=hv.lim;clear hu hv k7 j0 k8 k9 d4 b1;replace ul:=Zd ul;replace vl:=Zd vl;obtain⟨l7,h6,e4,⟨a3,a2⟩,s2⟩:=Zda l0 39 #[.bool false,.slice uA uk uc] 39 #[.bool false,.slice vA vk vc];obtain⟨b4,c4⟩:=Gz l0.heap.size;rw[c4]at a3 a2;clear s2;replace V:=Zd (V.out.below e4);replace ul:=Zd (ul.out.below e4);replace vl:=Zd (vl.out.below e4);have d9:=Gn d7 e4;clear d7 e4;replace a3:=Zd a3;replace a2:=Zd a2;go_wp2_with fail;(try rw[c4]);(try rw[h6]);clear h6;replace c4:=Zd c4;refine(Zh2 l7).mono ?_;rintro e l5 ⟨Ab,rfl,b9,j5⟩;replace V:=Zd (V.out.below b9);replace ul:=Zd (ul.out.below b9);replace vl:=Zd (vl.out.below b9);replace a3:=Gm b9 a3;replace a2:=Gm b9 a2;have g2:=Gn d9 b9;clear d9 b9;obtain⟨rsb,a6,h1,g9⟩:=j5.mxs;have k3:=Zd (FacC.of a6 (Zrh g9) (λ_=>by decide));have l3:Hid (Zkm 4 rsb):=Zd (λr hr e he=>(Zrh g9 r hr e he).imp (λh=>Nat.le_trans h Gj) id);have j4:=Zd (Zq1 g9);have i9:Hid (rsb.length=2):=Zd a6.1;replace h1:=Zd h1;clear j5 g9;replace a6:=Zd a6;obtain⟨k6,c3⟩:=Gz l5.heap.size
 obtain⟨k1,i1,e3,a7⟩:=Zaq (w:=l5) 2 #[.int .i64 1000,.int .i64 500];rw[c3]at e3;replace V:=Zd (V.out.below a7);replace ul:=Zd (ul.out.below a7);replace vl:=Zd (vl.out.below a7);replace a3:=Gm a7 a3;replace a2:=Gm a7 a2;replace a6:=Zd (a6.out.below a7);have f4:=Gn g2 a7;clear g2 a7;replace e3:=Zd e3;have hL:LimI k1 (some ⟨k6,0,none⟩) 2 2 [1000,500]:=LimI.lit7 (l:=[1000,500]) e3.out rfl (g6 _ Gj) Gj;clear e3;replace hL:=Zd hL;go_wp2_with fail;(try rw[c3]);(try rw[i1]);clear i1;replace c3:=Zd c3;refine(Zmm (some ⟨k6,0,none⟩) 2 2 [1000,500] k1 hL.out Gj).mono ?_;rintro e l2 ⟨n1,rfl,b2,j8⟩;replace V:=Zd (V.out.below b2);replace ul:=Zd (ul.out.below b2);replace vl:=Zd (vl.out.below b2);replace a3:=Gm b2 a3;replace a2:=Gm b2 a2;replace a6:=Zd (a6.out.below b2);replace hL:=Zd (hL.out.below b2);have f0:=Gn f4 b2;clear f4 b2;obtain⟨Al,cl,rfl,h2⟩:=j8.fl;replace h2:FL l2 Al 2 cl [1000,500]:=h2;obtain⟨es,b6,l1,j7⟩:=h2.fxs;obtain⟨g5,i3⟩:=ex_sigV j7;have k4:=Zd (Zrw j4.out ⟨b6.1.trans i9.out.symm,i3⟩);have j3:=Zd (ex_dist h1.out i9.out l1);replace g5:=Zd g5;clear j8 h2 j7 i3 l1;simp only[Qc,Qd,Qh,Qi];clear hL;replace b6:=Zd b6;go_wp2_with fail
 refine(Zoo Ab Al 2 2 2 cl rsb es l2 a6.out k3.out b6.out (λh0=>Z1w a6.out b6.out l3.out Gj g5.out h0)).mono ?_;rintro e j6 ⟨a1,hP⟩;replace V:=Zd (V.out.below a1);replace ul:=Zd (ul.out.below a1);replace vl:=Zd (vl.out.below a1);replace a3:=Gm a1 a3;replace a2:=Gm a1 a2;replace a6:=Zd (a6.out.below a1);replace b6:=Zd (b6.out.below a1);have d3:=Gn f0 a1;clear f0 a1;rcases hP with ⟨-,dn,dA,dk,dc,dm,dB,dj,dd,rfl,hF⟩|⟨h9,-⟩
 case inr=>exact absurd k4.out h9
 rw[j3.out]at hF;obtain⟨e1,e2,dl,Y⟩:=hF.df7;subst e1 e2;clear hF k3 l3 j4 i9 h1 k4 j3 g5 a6 b6;replace Y:=Zd Y;replace dl:=Zd dl;obtain⟨b5,c6⟩:=Gz j6.heap.size;obtain⟨a8,h8,b3,a5⟩:=Zaq (w:=j6) 41 #[.bool (dfQ 2).na,.slice dA dk dc,.bool (dfQ 2).nb,.slice dB dj dd];rw[c6]at b3;replace V:=Zd (V.out.below a5);replace ul:=Zd (ul.out.below a5);replace vl:=Zd (vl.out.below a5);replace a3:=Gm a5 a3;replace a2:=Gm a5 a2;replace dl:=Zd (dl.out.below a5);replace Y:=Zd (Y.out.below a5);have d6:=Gn d3 a5;clear d3 a5;replace b3:=Zd b3;go_wp2_with fail;(try rw[c6]);(try rw[h8]);clear h8;replace c6:=Zd c6;have I:a8.cell? ⟨b4,0,none⟩=some (.bool false):=a3.out.cell 0;have C:a8.cell? ⟨b4,1,none⟩=some (.slice uA uk uc):=a3.out.cell 1;have o:a8.cell? ⟨b4+1,0,none⟩=some (.bool false):=a2.out.cell 0;have J:a8.cell? ⟨b4+1,1,none⟩=some (.slice vA vk vc):=a2.out.cell 1;have T:a8.cell? ⟨b5,0,none⟩=some (.bool (dfQ 2).na):=b3.out.cell 0;have O:a8.cell? ⟨b5,1,none⟩=some (.slice dA dk dc):=b3.out.cell 1;have y:a8.cell? ⟨b5,2,none⟩=some (.bool (dfQ 2).nb):=b3.out.cell 2;have u:a8.cell? ⟨b5,3,none⟩=some (.slice dB dj dd):=b3.out.cell 3;clear a3 a2 b3;have a0:Below a8.heap.size a8 a8.drew:=Zh (Qf _ _) 1;replace V:=Zd (V.out.below a0)
 replace ul:=Zd (ul.out.below a0);replace vl:=Zd (vl.out.below a0);replace dl:=Zd (dl.out.below a0);replace Y:=Zd (Y.out.below a0);have g0:=Gn d6 a0;clear d6;replace I:=Zc a0 I;replace C:=Zc a0 C;replace o:=Zc a0 o;replace J:=Zc a0 J;replace T:=Zc a0 T;replace O:=Zc a0 O;replace y:=Zc a0 y;replace u:=Zc a0 u;clear a0;refine Zz [] (λwx=>(wx.cell? ⟨b4,0,none⟩=some (.bool false))/\(wx.cell? ⟨b4,1,none⟩=some (.slice uA uk uc))/\(wx.cell? ⟨b4+1,0,none⟩=some (.bool false))/\(wx.cell? ⟨b4+1,1,none⟩=some (.slice vA vk vc))/\(wx.cell? ⟨b5,0,none⟩=some (.bool (dfQ 2).na))/\(wx.cell? ⟨b5,1,none⟩=some (.slice dA dk dc))/\(wx.cell? ⟨b5,2,none⟩=some (.bool (dfQ 2).nb))/\(wx.cell? ⟨b5,3,none⟩=some (.slice dB dj dd))) hmx ⟨I,C,o,J,T,O,y,u⟩ (λ_=>?_);refine Zkb 4 [0,1,2,3] rfl Gi ⟨I,C,o,J,T,O,y,u⟩ ?_
 iterate 4 (refine tkA ?_;try simp only[Qa,Zg9,Zgn,Zg3,Gr,Gq,Gp])
 refine tk0 ?_;refine wpAnyL_o 4 λK hK=>?_
 (try rw[Gx Gi]);go_simp;refine(Zh2 a8.drew).mono ?_;rintro e n0 ⟨Ac,rfl,a4,c8⟩;replace V:=Zd (V.out.below a4);replace ul:=Zd (ul.out.below a4);replace vl:=Zd (vl.out.below a4);replace dl:=Zd (dl.out.below a4);replace Y:=Zd (Y.out.below a4);have f6:=Gn g0 a4;clear g0;replace I:=Zc a4 I;replace C:=Zc a4 C;replace o:=Zc a4 o;replace J:=Zc a4 J;replace T:=Zc a4 T;replace O:=Zc a4 O;replace y:=Zc a4 y;replace u:=Zc a4 u;clear a4;replace c8:=Zd c8;refine hK.out _ _ (λ_=>⟨I,C,o,J,T,O,y,u⟩) ?_;clear hK K
 try simp only[Qa,Zg9,Zgn,Zg3,Gr,Gq,Gp]
 refine wpAnyL_o 5 λK hK=>?_
 (try rw[Gx Gi]);go_simp;refine(Zw4 A1 Ac 2 c1 2 _ n0 V.out.xm c8.out.xm).mono ?_;rintro e m0 ⟨rfl,f⟩;replace V:=Zd (V.out.below f);replace ul:=Zd (ul.out.below f);replace vl:=Zd (vl.out.below f);replace dl:=Zd (dl.out.below f);replace Y:=Zd (Y.out.below f);replace c8:=Zd (c8.out.below f);have f5:=Gn f6 f;clear f6;replace I:=Zc f I;replace C:=Zc f C;replace o:=Zc f o;replace J:=Zc f J;replace T:=Zc f T;replace O:=Zc f O;replace y:=Zc f y;replace u:=Zc f u;clear f;refine hK.out _ _ (λ_=>⟨I,C,o,J,T,O,y,u⟩) ?_;clear hK K
 try simp only[Qa,Zg9,Zgn,Zg3,Gr,Gq,Gp]
 clear V c8;refine Zkb 7 [6,7,8,9,10,11,12] rfl Gi ⟨I,C,o,J,T,O,y,u⟩ ?_
 iterate 7 (refine tkA ?_;try simp only[Qa,Zg9,Zgn,Zg3,Gr,Gq,Gp])
 refine tk0 ?_;refine wpAnyL_o 13 λK hK=>?_
 (try rw[Gx Gi]);go_simp;refine(Zc6 1000000 m0 Gj Gj).mono ?_;rintro e m6 ⟨U,nn,l8,nuk,nuc,rfl,hn⟩;replace ul:=Zd (ul.out.below U);replace vl:=Zd (vl.out.below U);replace dl:=Zd (dl.out.below U);replace Y:=Zd (Y.out.below U);have d0:=Gn f5 U;clear f5;replace I:=Zc U I;replace C:=Zc U C;replace o:=Zc U o;replace J:=Zc U J;replace T:=Zc U T;replace O:=Zc U O;replace y:=Zc U y;replace u:=Zc U u;clear U;obtain rfl:nn=false:=hn.1;have nul:=Zd hn.lim;clear hn;refine hK.out _ _ (λ_=>⟨I,C,o,J,T,O,y,u⟩) ?_;clear hK K
 try simp only[Qa,Zg9,Zgn,Zg3,Gr,Gq,Gp]
 refine wpAnyL_o 14 λK hK=>?_
 (try rw[Gx Gi]);go_simp;refine(Zc8 false false uA l8 uk uc nuk nuc _ _ m6 ul.out nul.out).mono ?_;rintro e m7 ⟨he,f⟩;replace ul:=Zd (ul.out.below f);replace vl:=Zd (vl.out.below f);replace dl:=Zd (dl.out.below f);replace Y:=Zd (Y.out.below f);replace nul:=Zd (nul.out.below f);have f8:=Gn d0 f;clear d0;replace I:=Zc f I;replace C:=Zc f C;replace o:=Zc f o;replace J:=Zc f J;replace T:=Zc f T;replace O:=Zc f O;replace y:=Zc f y;replace u:=Zc f u;clear f;rw[Zee]at he;subst he;refine hK.out _ _ (λ_=>⟨I,C,o,J,T,O,y,u⟩) ?_;clear hK K
 try simp only[Qa,Zg9,Zgn,Zg3,Gr,Gq,Gp]
 clear nul ul;refine Zkb 3 [15,16,17] rfl Gi ⟨I,C,o,J,T,O,y,u⟩ ?_
 iterate 3 (refine tkA ?_;try simp only[Qa,Zg9,Zgn,Zg3,Gr,Gq,Gp])
 refine tk0 ?_;refine wpAnyL_o 18 λK hK=>?_
 (try rw[Gx Gi]);go_simp;refine(Zc6 250000 m7 Gj Gj).mono ?_;rintro e m5 ⟨U,nn,m9,nvk,nvc,rfl,hn⟩;replace vl:=Zd (vl.out.below U);replace dl:=Zd (dl.out.below U);replace Y:=Zd (Y.out.below U);have e9:=Gn f8 U;clear f8;replace I:=Zc U I;replace C:=Zc U C;replace o:=Zc U o;replace J:=Zc U J;replace T:=Zc U T;replace O:=Zc U O;replace y:=Zc U y;replace u:=Zc U u;clear U;obtain rfl:nn=false:=hn.1;have nvl:=Zd hn.lim;clear hn;refine hK.out _ _ (λ_=>⟨I,C,o,J,T,O,y,u⟩) ?_;clear hK K
 try simp only[Qa,Zg9,Zgn,Zg3,Gr,Gq,Gp]
 refine wpAnyL_o 19 λK hK=>?_
 (try rw[Gx Gi]);go_simp;refine(Zc8 false false vA m9 vk vc nvk nvc _ _ m5 vl.out nvl.out).mono ?_;rintro e l9 ⟨he,f⟩;replace vl:=Zd (vl.out.below f);replace dl:=Zd (dl.out.below f);replace Y:=Zd (Y.out.below f);replace nvl:=Zd (nvl.out.below f);have e7:=Gn e9 f;clear e9;replace I:=Zc f I;replace C:=Zc f C;replace o:=Zc f o;replace J:=Zc f J;replace T:=Zc f T;replace O:=Zc f O;replace y:=Zc f y;replace u:=Zc f u;clear f;rw[Zee]at he;subst he;refine hK.out _ _ (λ_=>⟨I,C,o,J,T,O,y,u⟩) ?_;clear hK K
 try simp only[Qa,Zg9,Zgn,Zg3,Gr,Gq,Gp]
 clear nvl vl;refine Zkb 7 [20,21,22,23,24,25,26] rfl Gi ⟨I,C,o,J,T,O,y,u⟩ ?_
 iterate 7 (refine tkA ?_;try simp only[Qa,Zg9,Zgn,Zg3,Gr,Gq,Gp])
 refine tk0 ?_;refine wpAnyL_o 27 λK hK=>?_
 (try rw[Gx Gi]);go_simp;refine(Zj2 2 1 l9 Gj Gj Gj Gj).mono ?_;rintro e m8 ⟨a9,pn,pA,pk,pc,pm,pB,pj,pd,rfl,hp⟩;replace dl:=Zd (dl.out.below a9);replace Y:=Zd (Y.out.below a9);have g4:=Gn e7 a9;clear e7;replace I:=Zc a9 I;replace C:=Zc a9 C;replace o:=Zc a9 o;replace J:=Zc a9 J;replace T:=Zc a9 T;replace O:=Zc a9 O;replace y:=Zc a9 y;replace u:=Zc a9 u;clear a9;rw[show Qs 2 1=2 by decide +kernel]at hp;obtain⟨e1,e2,m1,m2⟩:=hp.df7;subst e1 e2;clear hp;replace m1:=Zd m1;replace m2:=Zd m2;refine hK.out _ _ (λ_=>⟨I,C,o,J,T,O,y,u⟩) ?_;clear hK K
 try simp only[Qa,Zg9,Zgn,Zg3,Gr,Gq,Gp]
 refine wpAnyL_o 28 λK hK=>?_
 (try rw[Gx Gi]);go_simp;refine(Zmi (dfQ 2).na (dfQ 2).nb dA dB pA pB dk dc dj dd pk pc pj pd (dfQ 2).la (dfQ 2).lb m8 dl.out Y.out m1.out m2.out).mono ?_;rintro e n2 ⟨rfl,f⟩;replace dl:=Zd (dl.out.below f);replace Y:=Zd (Y.out.below f);replace m1:=Zd (m1.out.below f);replace m2:=Zd (m2.out.below f);have j9:=Gn g4 f;clear g4;replace I:=Zc f I;replace C:=Zc f C;replace o:=Zc f o;replace J:=Zc f J;replace T:=Zc f T;replace O:=Zc f O;replace y:=Zc f y;replace u:=Zc f u;clear f;refine hK.out _ _ (λ_=>⟨I,C,o,J,T,O,y,u⟩) ?_;clear hK K
 try simp only[Qa,Zg9,Zgn,Zg3,Gr,Gq,Gp]
 refine Zkb 1 [29] rfl Gi ⟨I,C,o,J,T,O,y,u⟩ ?_
 (refine tkA ?_;try simp only[Qa,Zg9,Zgn,Zg3,Gr,Gq,Gp])
 refine tk0 ?_;refine Zgo 1 [30] rfl Gi ⟨I,C,o,J,T,O,y,u⟩ ?_
 (refine tkA ?_;try simp only[Qa,Zg9,Zgn,Zg3,Gr,Gq,Gp])
 refine tk0 ?_;refine wpAnyL_fin ?_;clear I C o J T O y u;go_wp2_with fail;go_ret;exact⟨rfl,j9.out⟩
theorem Zi4(xn:Bool)(xA:Option Addr)(xk xc:Nat)(xm:Bool)(xB:Option Addr)(xj xd:Nat)(yn:Bool)(yA:Option Addr)(yk yc:Nat)(ym:Bool)(yB:Option Addr)(yj yd:Nat)(a b:Rat)(w:World)(ha:Fr w xn xA xk xc xm xB xj xd a)(hb:Fr w yn yA yk yc ym yB yj yd b)(sa:Sm a)(sb:Sm b) :
    Calls Tryz.prog 22 #[.agg #[.bool xn,.slice xA xk xc,.bool xm,.slice xB xj xd],.agg #[.bool yn,.slice yA yk yc,.bool ym,.slice yB yj yd]] w λe w'=>e=.returned (.bool (decide (a<=b)))/\Below w.heap.size w w':=by
 obtain⟨W0,u,f,⟨q0,q1⟩,s0⟩:=Zda w 41 #[.bool xn,.slice xA xk xc,.bool xm,.slice xB xj xd] 41 #[.bool yn,.slice yA yk yc,.bool ym,.slice yB yj yd];obtain⟨a0,a1,a2,a3,-⟩:=q0.four;obtain⟨b0,b1,b2,b3,-⟩:=q1.four;have hA:=ha.below f;have hD:=hb.below f;go_in;go_wp2_with fail;(try rw[u]);refine(Zz0 xn xm yn ym xA xB yA yB xk xc xj xd yk yc yj yd a b W0 hA hD sa sb).mono ?_;rintro e w1 ⟨rfl,C⟩;have o:=Gs f C
 have y:decide (Zou a b<=0)=decide (a<=b):=by
  unfold Zou;by_cases h1:a<b;rw[Gx h1,Gv (Qp h1)];rfl;rw[Gw h1];by_cases h2:b<a
  ·have h3:¬ a<=b:=λh=>absurd h2 (Rat.not_lt.2 h)
   rw[Gx h2,Gu h3];rfl
  rw[Gw h2,Gv (Rat.not_lt.1 h2)];rfl
 clear a0 a1 a2 a3 b0 b1 b2 b3 q0 q1 hA hD;go_wp2_with fail;go_ret;exact⟨by rw[<- y];rfl,o⟩
theorem Zg5(xn:Bool)(xA:Option Addr)(xk xc:Nat)(xm:Bool)(xB:Option Addr)(xj xd:Nat)(yn:Bool)(yA:Option Addr)(yk yc:Nat)(ym:Bool)(yB:Option Addr)(yj yd:Nat)(a b:Rat)(w:World)(ha:Fr w xn xA xk xc xm xB xj xd a)(hb:Fr w yn yA yk yc ym yB yj yd b)(sa:Sm a)(sb:Sm b) :
    Calls Tryz.prog 19 #[.agg #[.bool xn,.slice xA xk xc,.bool xm,.slice xB xj xd],.agg #[.bool yn,.slice yA yk yc,.bool ym,.slice yB yj yd]] w (Zdp w (a+b)):=by
 obtain⟨W0,J,h,⟨q0,q1,q2⟩,s0⟩:=Zb2 w 41 #[.bool xn,.slice xA xk xc,.bool xm,.slice xB xj xd] 41 #[.bool yn,.slice yA yk yc,.bool ym,.slice yB yj yd] 41 #[.bool false,.slice none 0 0,.bool false,.slice none 0 0];obtain⟨a0,a1,a2,a3,-⟩:=q0.four;obtain⟨b0,b1,b2,b3,-⟩:=q1.four;obtain⟨gR,y⟩:=Gz (w.heap.size+1+1);rw[y]at q2;have hA:=ha.below h;have hD:=hb.below h;go_in;go_wp2_with fail;(try rw[J]);refine(Zzo xn xm yn ym xA xB yA yB xk xc xj xd yk yc yj yd a b W0 hA hD sa sb).mono ?_;rintro e w1 ⟨ab,pn,pA,pk,pc,pm,pB,pj,pd,rfl,hf⟩;replace q2:=Ze ab q2;clear a0 a1 a2 a3 b0 b1 b2 b3 q0 q1 hA hD;obtain⟨V1,V,o,t0,tz⟩:=Zao w1 41 #[.bool false,.slice none 0 0,.bool false,.slice none 0 0];have Y:=Ze o q2;obtain⟨gn,u⟩:=Gz w1.heap.size
 have U:gR<gn:=by
  have h1:=ab.size;omega
 rw[u]at t0;obtain⟨υ0,υ1,υ2,υ3,v0,v1,v2,v3⟩:=t0.four;obtain⟨V2,T,p2,I,s2⟩:=Za2 pn pA pk pc pm pB pj pd t0;have av:Below w1.heap.size w1 V2:=o.trans (I.to_below (λk e=>by omega) o.size);have f:=Ze av q2;have C:=hf.below av;obtain⟨o0,o1,o2,o3,-⟩:=p2.four;obtain⟨c0,c1,c2,c3,z0,z1,z2,z3⟩:=f.four;obtain⟨W5,O,q5,aK,s5⟩:=Za2 pn pA pk pc pm pB pj pd f;have hr:=C.keptN aK f (Zbf _ _ _ _ _ _ _ _);have bQ:=h;replace av:=Zd av;replace hr:=Zd hr;clear hf C;go_wp2_with fail;(try rw[u]);(try rw[T]);(try rw[y]);go_wp2_with fail;(try rw[O]);obtain⟨r0,r1,r2,r3,-⟩:=q5.four;refine bodyPost_ret (v:=.agg #[.bool pn,.slice pA pk pc,.bool pm,.slice pB pj pd]) (by simp[results,Tryz.results19,go_sem,r0,r1,r2,r3]) rfl ?_;exact Ed
theorem Zfn(xn:Bool)(xA:Option Addr)(xk xc:Nat)(xm:Bool)(xB:Option Addr)(xj xd:Nat)(yn:Bool)(yA:Option Addr)(yk yc:Nat)(ym:Bool)(yB:Option Addr)(yj yd:Nat)(a b:Rat)(w:World)(ha:Fr w xn xA xk xc xm xB xj xd a)(hb:Fr w yn yA yk yc ym yB yj yd b)(sa:Sm a)(sb:Sm b) :
    Calls Tryz.prog 20 #[.agg #[.bool xn,.slice xA xk xc,.bool xm,.slice xB xj xd],.agg #[.bool yn,.slice yA yk yc,.bool ym,.slice yB yj yd]] w (Zdp w (a*b)):=by
 obtain⟨W0,J,h,⟨q0,q1,q2⟩,s0⟩:=Zb2 w 41 #[.bool xn,.slice xA xk xc,.bool xm,.slice xB xj xd] 41 #[.bool yn,.slice yA yk yc,.bool ym,.slice yB yj yd] 41 #[.bool false,.slice none 0 0,.bool false,.slice none 0 0];obtain⟨a0,a1,a2,a3,-⟩:=q0.four;obtain⟨b0,b1,b2,b3,-⟩:=q1.four;obtain⟨gR,y⟩:=Gz (w.heap.size+1+1);rw[y]at q2;have hA:=ha.below h;have hD:=hb.below h;go_in;go_wp2_with fail;(try rw[J]);refine(Zox xn xm yn ym xA xB yA yB xk xc xj xd yk yc yj yd a b W0 hA hD sa sb).mono ?_;rintro e w1 ⟨ab,pn,pA,pk,pc,pm,pB,pj,pd,rfl,hf⟩;replace q2:=Ze ab q2;clear a0 a1 a2 a3 b0 b1 b2 b3 q0 q1 hA hD;obtain⟨V1,V,o,t0,tz⟩:=Zao w1 41 #[.bool false,.slice none 0 0,.bool false,.slice none 0 0];have Y:=Ze o q2;obtain⟨gn,u⟩:=Gz w1.heap.size
 have U:gR<gn:=by
  have h1:=ab.size;omega
 rw[u]at t0;obtain⟨υ0,υ1,υ2,υ3,v0,v1,v2,v3⟩:=t0.four;obtain⟨V2,T,p2,I,s2⟩:=Za2 pn pA pk pc pm pB pj pd t0;have av:Below w1.heap.size w1 V2:=o.trans (I.to_below (λk e=>by omega) o.size);have f:=Ze av q2;have C:=hf.below av;obtain⟨o0,o1,o2,o3,-⟩:=p2.four;obtain⟨c0,c1,c2,c3,z0,z1,z2,z3⟩:=f.four;obtain⟨W5,O,q5,aK,s5⟩:=Za2 pn pA pk pc pm pB pj pd f;have hr:=C.keptN aK f (Zbf _ _ _ _ _ _ _ _);have bQ:=h;replace av:=Zd av;replace hr:=Zd hr;clear hf C;go_wp2_with fail;(try rw[u]);(try rw[T]);(try rw[y]);go_wp2_with fail;(try rw[O]);obtain⟨r0,r1,r2,r3,-⟩:=q5.four;refine bodyPost_ret (v:=.agg #[.bool pn,.slice pA pk pc,.bool pm,.slice pB pj pd]) (by simp[results,Tryz.results20,go_sem,r0,r1,r2,r3]) rfl ?_;exact Ed
theorem FF{G:Prop}(h:G:=by
 rintro e w5 ⟨ao,fn,fA,fk,fc,fm,fB,fj,fd,rfl,ar⟩;rw[Zie]at ar;exact hK.out _ _ ⟨_,rfl,⟨_,_,_,_,_,_,_,_,rfl,ar⟩,ao,trivial,λhm=>absurd hm Gj⟩):G:=h
theorem Fm{G:Prop}(h:G:=by
 go_simp
 exact hK.out _ _ ⟨_,rfl,⟨_,rfl,hb.size,Blk.new _ _ _⟩,(Below.refl _ _).alloc (Nat.le_refl _) _,trivial,λ_ q hq u hu e=>by
  simp only[List.mem_cons,List.not_mem_nil,or_false]at hq;rcases hq with rfl|rfl
  all_goals
   obtain⟨g,rfl,-,hB⟩:=hu;have h9:=hB.lt;simp at e⟩):G:=h
theorem Zt3(A:Option Addr)(n c:Nat)(rs:List RX)(w:World)(h:MXL w A n c rs) :
    Calls Tryz.prog 6 #[.slice A n c] w λe w'=>e=.returned (.bool true)/\Below w.heap.size w w':=by
 have hmx:=Gt;have J4:=h.2.2.1;have O1:=h.2.1;unfold maxLen at J4;have G1:=Zd h.1;obtain⟨E,hE⟩:=Gz (Za9 rs);replace hE:=Zd hE;have A4:Hid (Below w.heap.size w w):=Zd (Qf _ _);replace h:=Zd h;go_in;go_wp2_with fail;refine(Zyj w).mono ?_;rintro e w1 ⟨rfl,C⟩;replace h:=Zd (h.out.below C);have A0:=Gn A4 C;clear A4 C;go_wp2_with fail;refine(Zp8 A n c rs w1 h.out).mono ?_;rintro e w3 ⟨b,rfl,C,v7⟩;replace h:=Zd (h.out.below C);have w6:=Gn A0 C;clear A0 C;cases b with
 | true =>
  go_wp2_with fail;go_ret;exact⟨rfl,w6.out⟩
 | false =>
  have v5:=Zd (v7 rfl);clear v7;have hf:Hid (Zkm 4 rs):=Zd v5.out.2.2
  have z7:=Zd (FacC.of h.out hf.out (λh6=>by
   have h9:=v5.out.1;have h7:=G1.out;rcases(show n=0 \/ n=1 \/ n=2 \/ n=3 \/ n=4 by omega)with rfl|rfl|rfl|rfl|rfl <;> omega))
  clear v5;go_wp2_with fail;refine(Zgx A n c rs w3 h.out z7.out E hE.out).mono ?_;rintro e w5 ⟨rfl,C⟩;replace h:=Zd (h.out.below C);have r4:=Gn w6 C;clear w6 C;by_cases q9:E=0
  case neg =>
   have t1:(E != 0)=true:=by simpa using q9
   have O6:decide (E=0)=false:=Gu q9;replace q9:=Zd q9;go_wp2_with fail;go_ret;exact⟨rfl,r4.out⟩
  subst q9;by_cases h2:n<2
  case pos =>
   have t2:decide ((n:Int)<2)=true:=Gv Gk;have J1:decide (n<2)=true:=Gv h2;replace h2:=Zd h2;go_wp2_with fail;go_ret;exact⟨rfl,r4.out⟩
  have t2:decide ((n:Int)<2)=false:=Gu Gk;have J1:decide (n<2)=false:=Gu h2;have H9:2<=n:=Nat.le_of_not_lt h2;replace h2:=Zd h2;have O7:=G1.out;obtain⟨w2,w9⟩:=Z1r hE.out Gk;replace w2:=Zd w2;replace w9:=Zd w9;obtain⟨x,hx⟩:=Gz (Zj (qM rs) 0 0);obtain⟨y,hy⟩:=Gz (Zj (qM rs) 0 1);obtain⟨y',l7⟩:∃ q,Zj (qM rs) 1 0=q:=⟨_,rfl⟩;obtain⟨z,hz⟩:=Gz (Zj (qM rs) 1 1);replace hx:=Zd hx;replace hy:=Zd hy;replace l7:=Zd l7;replace hz:=Zd hz;obtain⟨g7,w8⟩:=Gz w5.heap.size;obtain⟨V9,y1,t3,t8⟩:=Zaq (w:=w5) 3 #[.int .i64 0,.int .i64 1];rw[w8]at t3;replace h:=Zd (h.out.below t8);have r6:=Gn r4 t8;clear r4 t8;replace t3:=Zd t3;have o8:LimI V9 (some ⟨g7,0,none⟩) 2 2 [0,1]:=LimI.lit7 (l:=[0,1]) t3.out rfl (λx hx=>by simp only[Qe,Qb,or_false]at hx;unfold I64;omega) Gj;clear t3;replace o8:=Zd o8;go_wp2_with fail;(try rw[w8]);(try rw[y1]);clear y1;replace w8:=Zd w8;refine(Zpd A n c rs (some ⟨g7,0,none⟩) 2 2 [0,1] V9 h.out o8.out z7.out Gj).mono ?_;rintro e A6 ⟨C,hP⟩;replace h:=Zd (h.out.below C);replace o8:=Zd (o8.out.below C);have t0:=Gn r6 C;clear r6 C o8;rcases hP with ⟨-,va,La,rfl,F4⟩|⟨h9,-⟩
  case inr=>exact absurd w2.out h9
  obtain⟨Aa,ka,rfl,v9⟩:=F4.mflA;replace v9:MFL A6 Aa 2 ka [[Zj (qM rs) 0 0,Zj (qM rs) 0 1],[Zj (qM rs) 1 0,Zj (qM rs) 1 1]]:=v9;obtain⟨rsa,f8,g2,B3⟩:=v9.mxs;obtain⟨ea,la,fa,sa⟩:=Znq h.out hf.out hE.out H9 false (by simpa using B3);have C9:=f8.2.2.1;unfold maxLen at C9;have K6:=f8.2.1;replace ea:=Zd ea;replace la:=Zd la;replace sa:=Zd sa;have z0:=Zd (FacC.of f8 fa (λ_=>by decide));replace g2:=Zd g2;clear F4 v9 B3 fa;(try rw[show (Zka (qM rs) [0,1]).length=2 from rfl]);replace f8:=Zd f8;go_wp2_with fail;obtain⟨H3,n5⟩:=Gz A6.heap.size;obtain⟨F1,x8,υ3,n9⟩:=Zaq (w:=A6) 3 #[.int .i64 1,.int .i64 0];rw[n5]at υ3;replace h:=Zd (h.out.below n9);replace f8:=Zd (f8.out.below n9);have υ6:=Gn t0 n9;clear t0 n9;replace υ3:=Zd υ3;have p3:LimI F1 (some ⟨H3,0,none⟩) 2 2 [1,0]:=LimI.lit7 (l:=[1,0]) υ3.out rfl (λx hx=>by simp only[Qe,Qb,or_false]at hx;unfold I64;omega) Gj;clear υ3;replace p3:=Zd p3;go_wp2_with fail;(try rw[n5]);(try rw[x8]);clear x8;replace n5:=Zd n5;refine(Zpd A n c rs (some ⟨H3,0,none⟩) 2 2 [1,0] F1 h.out p3.out z7.out Gj).mono ?_;rintro e C2 ⟨C,hP⟩;replace h:=Zd (h.out.below C);replace f8:=Zd (f8.out.below C);replace p3:=Zd (p3.out.below C);have t6:=Gn υ6 C;clear υ6 C p3;rcases hP with ⟨-,vb,Lb,rfl,H4⟩|⟨h9,-⟩
  case inr=>exact absurd w9.out h9
  obtain⟨Ab,kb,rfl,w4⟩:=H4.mflA;replace w4:MFL C2 Ab 2 kb [[Zj (qM rs) 1 1,Zj (qM rs) 1 0],[Zj (qM rs) 0 1,Zj (qM rs) 0 0]]:=w4;obtain⟨rsb,f7,g8,B4⟩:=w4.mxs;obtain⟨eb,lb,fb,sb⟩:=Znq h.out hf.out hE.out H9 true (by simpa using B4);have E0:=f7.2.2.1;unfold maxLen at E0;have N6:=f7.2.1;replace eb:=Zd eb;replace lb:=Zd lb;replace sb:=Zd sb;have A2:=Zd (FacC.of f7 fb (λ_=>by decide));replace g8:=Zd g8;clear H4 w4 B4 fb;(try rw[show (Zka (qM rs) [1,0]).length=2 from rfl]);replace f7:=Zd f7;go_wp2_with fail;refine(Zgx Aa 2 ka rsa C2 f8.out z0.out 0 ea.out).mono ?_;rintro e J3 ⟨rfl,C⟩;replace h:=Zd (h.out.below C);replace f8:=Zd (f8.out.below C);replace f7:=Zd (f7.out.below C);have υ1:=Gn t6 C;clear t6 C;go_wp2_with fail;refine(Zgx Ab 2 kb rsb J3 f7.out A2.out 0 eb.out).mono ?_;rintro e I5 ⟨rfl,C⟩;replace h:=Zd (h.out.below C);replace f8:=Zd (f8.out.below C);replace f7:=Zd (f7.out.below C);have t7:=Gn υ1 C;clear υ1 C;obtain⟨AL,p5⟩:=Gz (axLong x y z);obtain⟨AS,p8⟩:=Gz (axShort x y z)
  obtain⟨d0,d1,d2,d3⟩:0<x/\0<z/\0<x*z-y*y/\y'=y:=by
   have a1:=Zf6 hE.out (k:=0) Gk;have a2:=Zf6 hE.out (k:=1) Gk;have a3:=Zzh ea.out la.out;rw[g2.out]at a3;have a4:0<Zj (qM rs) 0 0*Zj (qM rs) 1 1-Zj (qM rs) 0 1*Zj (qM rs) 0 1:=a3.2.2.1;have a5:Zj (qM rs) 1 0=Zj (qM rs) 0 1:=a3.2.2.2;rw[hx.out]at a1;rw[hz.out]at a2;rw[hx.out,hz.out,hy.out]at a4;rw[l7.out,hy.out]at a5;exact⟨a1,a2,a4,a5⟩
  have I9:=d3.symm;subst I9;obtain⟨q1,q2⟩:=ax_sum (a:=x) (b:=y) (d:=z);obtain⟨q3,q4⟩:=ax_prod d0 d1 d2;have q5:=Zlk d0 d1 d2;have hS:=Zv2 h.out hf.out hE.out;have sx:SmN 5 5 x:=by rw[<- hx.out];exact hS 0 0
  have sy:SmN 5 5 y:=by rw[<- hy.out];exact hS 0 1
  have sz:SmN 5 5 z:=by rw[<- hz.out];exact hS 1 1
  have q6:=Zp6 sx sy sz;have q7:=Zmk sx sy sz;rw[p5,p8]at q1 q2 q3 q4;rw[p8]at q5 q7;rw[p5]at q6;replace q1:=Zd q1;replace q2:=Zd q2;replace q3:=Zd q3;replace q4:=Zd q4;replace q5:=Zd q5;replace q6:=Zd q6;replace q7:=Zd q7
  have H5:∀ rt:List RX,qM rt=[[x,y],[y,z]]->axLong (Zj (qM rt) 0 0) (Zj (qM rt) 0 1) (Zj (qM rt) 1 1)=AL/\axShort (Zj (qM rt) 0 0) (Zj (qM rt) 0 1) (Zj (qM rt) 1 1)=AS:=λrt e=>by
   rw[e];exact⟨p5,p8⟩
  have E3:∀ rt:List RX,qM rt=[[z,y],[y,x]]->axLong (Zj (qM rt) 0 0) (Zj (qM rt) 0 1) (Zj (qM rt) 1 1)=AL/\axShort (Zj (qM rt) 0 0) (Zj (qM rt) 0 1) (Zj (qM rt) 1 1)=AS:=λrt e=>by
   rw[e];exact⟨ax_swap.1.trans p5,ax_swap.2.trans p8⟩
  have z9:=Zd (H5 rsa (by rw[g2.out,hx.out,hy.out,l7.out,hz.out]));have z5:=Zd (E3 rsb (by rw[g8.out,hx.out,hy.out,l7.out,hz.out]));clear H5 E3 p5 p8 hS d0 d1 d2 g2 g8;replace sx:=Zd sx;replace sy:=Zd sy;replace sz:=Zd sz;go_wp2_with fail;refine(Zlg Aa 2 ka rsa I5 f8.out z0.out (λ_=>sa.out)).mono ?_;rintro e G9 ⟨C,hP⟩;replace h:=Zd (h.out.below C);replace f8:=Zd (f8.out.below C);replace f7:=Zd (f7.out.below C);have q8:=Gn t7 C;clear t7 C;rcases hP with ⟨-,pn,pA,pk,pc,qn,qA,qk,qc,rfl,hp,hq⟩|⟨h9,-⟩
  case inr=>exact absurd (Ztv ea.out la.out) h9
  rw[z9.out.1]at hp;rw[z9.out.2]at hq;obtain rfl:pn=false:=by rw[hp.1];have:=q4.out;have:=q5.out;exact Gu Gk
  obtain rfl:qn=false:=by rw[hq.1];have:=q5.out;exact Gu Gk
  clear z9 z0 sa ea la f8;replace hp:=Zd hp;replace hq:=Zd hq;obtain⟨I4,x6,g0,⟨d6,d7⟩,s2⟩:=Zda G9 39 #[.bool false,.slice pA pk pc] 39 #[.bool false,.slice qA qk qc];obtain⟨k9,n8⟩:=Gz G9.heap.size;rw[n8]at d6 d7;clear s2;replace h:=Zd (h.out.below g0);replace f7:=Zd (f7.out.below g0);replace hp:=Zd (hp.out.below g0);replace hq:=Zd (hq.out.below g0);have υ4:=Gn q8 g0;clear q8 g0;replace d6:=Zd d6;replace d7:=Zd d7;go_wp2_with fail;(try rw[n8]);(try rw[x6]);clear x6;replace n8:=Zd n8;refine(Zlg Ab 2 kb rsb I4 f7.out A2.out (λ_=>sb.out)).mono ?_;rintro e G8 ⟨C,hP⟩;replace h:=Zd (h.out.below C);replace f7:=Zd (f7.out.below C);replace hp:=Zd (hp.out.below C);replace hq:=Zd (hq.out.below C);replace d6:=Gm C d6;replace d7:=Gm C d7;have v0:=Gn υ4 C;clear υ4 C;rcases hP with ⟨-,rn,rA,rk,rc,sn,sA,sk,sc,rfl,hr,hs⟩|⟨h9,-⟩
  case inr=>exact absurd (Ztv eb.out lb.out) h9
  rw[z5.out.1]at hr;rw[z5.out.2]at hs;obtain rfl:rn=false:=by rw[hr.1];have:=q4.out;have:=q5.out;exact Gu Gk
  obtain rfl:sn=false:=by rw[hs.1];have:=q5.out;exact Gu Gk
  clear z5 A2 sb eb lb f7;replace hr:=Zd hr;replace hs:=Zd hs;obtain⟨O5,y2,g0,⟨e6,e8⟩,s2⟩:=Zda G8 39 #[.bool false,.slice rA rk rc] 39 #[.bool false,.slice sA sk sc];obtain⟨O0,n4⟩:=Gz G8.heap.size;rw[n4]at e6 e8;clear s2;replace h:=Zd (h.out.below g0);replace hp:=Zd (hp.out.below g0);replace hq:=Zd (hq.out.below g0);replace d6:=Gm g0 d6;replace d7:=Gm g0 d7;replace hr:=Zd (hr.out.below g0);replace hs:=Zd (hs.out.below g0);have v3:=Gn v0 g0;clear v0 g0;replace e6:=Zd e6;replace e8:=Zd e8;obtain⟨p0,p1,-⟩:=d6.out.two;obtain⟨q0,q1,-⟩:=d7.out.two;obtain⟨r0,r1,-⟩:=e6.out.two;obtain⟨s0,s1,-⟩:=e8.out.two;go_wp2_with fail;(try rw[n4]);(try rw[y2]);clear y2;replace n4:=Zd n4;clear p0 p1 q0 q1 r0 r1 s0 s1;refine(Zbs hp.out.lim hp.out.ok).mono ?_;rintro e O8 ⟨rfl,C⟩;replace h:=Zd (h.out.below C);replace hp:=Zd (hp.out.below C);replace hq:=Zd (hq.out.below C);replace d6:=Gm C d6;replace d7:=Gm C d7;replace hr:=Zd (hr.out.below C);replace hs:=Zd (hs.out.below C);replace e6:=Gm C e6;replace e8:=Gm C e8;have υ7:=Gn v3 C;clear v3 C;obtain⟨p0,p1,-⟩:=d6.out.two;obtain⟨q0,q1,-⟩:=d7.out.two;obtain⟨r0,r1,-⟩:=e6.out.two;obtain⟨s0,s1,-⟩:=e8.out.two;go_wp2_with fail;clear p0 p1 q0 q1 r0 r1 s0 s1;refine(Zbs hq.out.lim hq.out.ok).mono ?_
  rintro e J5 ⟨rfl,C⟩;replace h:=Zd (h.out.below C);replace hp:=Zd (hp.out.below C);replace hq:=Zd (hq.out.below C);replace d6:=Gm C d6;replace d7:=Gm C d7;replace hr:=Zd (hr.out.below C);replace hs:=Zd (hs.out.below C);replace e6:=Gm C e6;replace e8:=Gm C e8;have r9:=Gn υ7 C;clear υ7 C;obtain⟨p0,p1,-⟩:=d6.out.two;obtain⟨q0,q1,-⟩:=d7.out.two;obtain⟨r0,r1,-⟩:=e6.out.two;obtain⟨s0,s1,-⟩:=e8.out.two;go_wp2_with fail;clear p0 p1 q0 q1 r0 r1 s0 s1;refine(Zc8 false false pA rA pk pc rk rc _ _ J5 hp.out.lim hr.out.lim).mono ?_;rintro e K0 ⟨rfl,C⟩;replace h:=Zd (h.out.below C);replace hp:=Zd (hp.out.below C);replace hq:=Zd (hq.out.below C);replace d6:=Gm C d6;replace d7:=Gm C d7;replace hr:=Zd (hr.out.below C);replace hs:=Zd (hs.out.below C);replace e6:=Gm C e6;replace e8:=Gm C e8;have t9:=Gn r9 C;clear r9 C;rw[Zee];obtain⟨p0,p1,-⟩:=d6.out.two;obtain⟨q0,q1,-⟩:=d7.out.two;obtain⟨r0,r1,-⟩:=e6.out.two;obtain⟨s0,s1,-⟩:=e8.out.two;go_wp2_with fail;clear p0 p1 q0 q1 r0 r1 s0 s1;refine(Zc8 false false qA sA qk qc sk sc _ _ K0 hq.out.lim hs.out.lim).mono ?_;rintro e J8 ⟨rfl,C⟩;replace h:=Zd (h.out.below C);replace hp:=Zd (hp.out.below C);replace hq:=Zd (hq.out.below C);replace d6:=Gm C d6;replace d7:=Gm C d7
  replace hr:=Zd (hr.out.below C);replace hs:=Zd (hs.out.below C);replace e6:=Gm C e6;replace e8:=Gm C e8;have p7:=Gn t9 C;clear t9 C;rw[Zee];clear hr hs;obtain⟨p0,p1,-⟩:=d6.out.two;obtain⟨q0,q1,-⟩:=d7.out.two;obtain⟨r0,r1,-⟩:=e6.out.two;obtain⟨s0,s1,-⟩:=e8.out.two;go_wp2_with fail;clear p0 p1 q0 q1 r0 r1 s0 s1
  have J7:∃ o,Zco AL AS=o/\decide (o<0)=false:=⟨_,rfl,Gu (by
   have h1:=q4.out;unfold Zco
   repeat' split
   all_goals omega)⟩
  obtain⟨co,G5,J0⟩:=J7;refine(Zj7 false false pA qA pk pc qk qc AL AS J8 hp.out hq.out).mono ?_;rintro e J9 ⟨rfl,C⟩;replace h:=Zd (h.out.below C);replace hp:=Zd (hp.out.below C);replace hq:=Zd (hq.out.below C);replace d6:=Gm C d6;replace d7:=Gm C d7;replace e6:=Gm C e6;replace e8:=Gm C e8;have p6:=Gn p7 C;clear p7 C;rw[G5];clear G5;go_wp2_with fail;refine(Zc6 1 J9 Gj Gj).mono ?_;rintro e A9 ⟨C,on,oA,ok,oc,rfl,ho⟩;replace h:=Zd (h.out.below C);replace hp:=Zd (hp.out.below C);replace hq:=Zd (hq.out.below C);replace d6:=Gm C d6;replace d7:=Gm C d7;replace e6:=Gm C e6;replace e8:=Gm C e8;have v4:=Gn p6 C;clear p6 C;obtain rfl:on=false:=ho.1;replace ho:=Zd ho;obtain⟨w0,n7⟩:=Gz A9.heap.size;obtain⟨g6,y3,o5,g1⟩:=Zaq (w:=A9) 39 #[.bool false,.slice oA ok oc];rw[n7]at o5;replace h:=Zd (h.out.below g1);replace hp:=Zd (hp.out.below g1);replace hq:=Zd (hq.out.below g1);replace d6:=Gm g1 d6;replace d7:=Gm g1 d7;replace e6:=Gm g1 e6;replace e8:=Gm g1 e8;replace ho:=Zd (ho.out.below g1);have r3:=Gn v4 g1;clear v4 g1;replace o5:=Zd o5;go_wp2_with fail;(try rw[n7]);(try rw[y3]);clear y3
  replace n7:=Zd n7;clear J0;have x7:g6.cell? ⟨k9,0,none⟩=some (.bool false):=d6.out.cell 0;have y5:g6.cell? ⟨k9,1,none⟩=some (.slice pA pk pc):=d6.out.cell 1;have x0:g6.cell? ⟨(k9+1),0,none⟩=some (.bool false):=d7.out.cell 0;have x2:g6.cell? ⟨(k9+1),1,none⟩=some (.slice qA qk qc):=d7.out.cell 1;have x9:g6.cell? ⟨w0,0,none⟩=some (.bool false):=o5.out.cell 0;have x1:g6.cell? ⟨w0,1,none⟩=some (.slice oA ok oc):=o5.out.cell 1;have p2:Hid (∀ wx,Below g6.heap.size g6 wx->(wx.cell? ⟨k9,0,none⟩=some (.bool false))/\(wx.cell? ⟨k9,1,none⟩=some (.slice pA pk pc))/\(wx.cell? ⟨(k9+1),0,none⟩=some (.bool false))/\(wx.cell? ⟨(k9+1),1,none⟩=some (.slice qA qk qc))/\(wx.cell? ⟨w0,0,none⟩=some (.bool false))/\(wx.cell? ⟨w0,1,none⟩=some (.slice oA ok oc))):=Zd (λwx f=>⟨Zc f x7,Zc f y5,Zc f x0,Zc f x2,Zc f x9,Zc f x1⟩);have e7:Below g6.heap.size g6 g6.drew:=Zh (Qf _ _) 1;refine wp_heldS [] hmx p2 e7 (λhxs=>?_);refine Zkb 4 [0,1,3,4] rfl Gi (p2.out _ e7) ?_
  iterate 4 (refine tkA ?_;try simp only[Qa,Zg9,Zgn,Zg3,Gr,Gq,Gp])
  refine tk0 ?_
  refine Zlt [(6,15),(7,16)] [(2,129),(5,132),(6,15),(7,16)] (λ_=>[]) [(2,129),(5,132),(6,15),(7,16)] (λi v w=>match i with|2=>frV ((AL:Int):Rat) v w|5=>frV ((AS:Int):Rat) v w|_=>Zq4 g6.drew.heap.size 41 #[.bool false,.slice none 0 0,.bool false,.slice none 0 0] v w) 2 Gi (λp hp v wa wb hb h=>by
   simp only[Qe,Qb,or_false]at hp;rcases hp with rfl|rfl|rfl|rfl;exact Zbc _ _ _ hb h;exact Zbc _ _ _ hb h;exact Zcy _ _ _ hb h
   ·exact Zcy _ _ _ hb h) (λwx h=>p2.out _ (Gs e7 h)) ?hop13 ?hfin13
  case hop13 =>
   intro p hp;simp only[Qe,Qb,or_false]at hp;simp only[Qc,Qd,Zaj,Qa,Zg9,Zgn,Zg3];rcases hp with rfl|rfl|rfl|rfl
   ·intro ν wx hb hP
    have f:=Gs e7 hb;refine Zn (i:=2) rfl (λK hK=>?_);go_simp;refine(Zdl false pA oA pk pc ok oc AL 1 wx (hp.out.below f) (ho.out.below f) Gj).mono ?_;exact FF
   ·intro ν wx hb hP
    have f:=Gs e7 hb;refine Zn (i:=5) rfl (λK hK=>?_);go_simp;refine(Zdl false qA oA qk qc ok oc AS 1 wx (hq.out.below f) (ho.out.below f) Gj).mono ?_;exact FF
   ·intro ν wx hb hP
    refine Zn (i:=6) rfl (λK hK=>?_);exact Fm
   intro ν wx hb hP;refine Zn (i:=7) rfl (λK hK=>?_);exact Fm
  case hfin13 =>
   intro ν wx hb hP hD;obtain⟨an,aA,ak,ac,am,aB,aj,ad,e1,C6⟩:=hP (2,129) Gh;obtain⟨bn,bA,bk,bc,bm,bB,bj,bd,e2,E6⟩:=hP (5,132) Gh;obtain⟨ga,e3,ka,qa⟩:=hP (6,15) Gh;obtain⟨gb,e4,kb,qb⟩:=hP (7,16) Gh;have z8:ga≠gb:=λe=>hD (6,15) Gh (7,16) Gh Gj (by rw[e3,e4,e]);have I1:ν 129=_:=e1;have C1:ν 132=_:=e2;have E5:ν 15=_:=e3;have C4:ν 16=_:=e4;simp only[Qc,Qd,Zaj,Qa,Zg9,Zgn,Zg3];rw[I1,C1,E5,C4];clear e1 e2 e3 e4 I1 C1 E5 C4 hP hD ν;have f:=Gs e7 hb;have C7:g6.heap.size<=ga:=ka;have D2:g6.heap.size<=gb:=kb;refine(Z5 an aA ak ac am aB aj ad f C7 qa).elim (λZa g2=>?_);have A1:=g2.2.2.2.2.1 _ _ _ (λe=>z8 e.symm) qb;refine(Z5 bn bA bk bc bm bB bj bd g2.2.1 D2 A1).elim (λZb g8=>?_);obtain⟨i0,i1,i2,i3,j0,j1,j2,j3⟩:=qa.four;obtain⟨m0,m1,m2,m3,n0,n1,n2,n3⟩:=A1.four;have C3:=g2.1;have G6:=g8.1;refine wpAnyL_o 8 λK hK=>?_;go_simp;(try rw[C3]);refine hK.out _ _ (λ_=>p2.out _ g2.2.1) ?_;clear hK K
   try simp only[Qa,Zg9,Zgn,Zg3,Gr,Gq,Gp]
   refine wpAnyL_o 9 λK hK=>?_;go_simp;(try rw[G6]);refine hK.out _ _ (λ_=>p2.out _ g8.2.1) ?_;clear hK K
   try simp only[Qa,Zg9,Zgn,Zg3,Gr,Gq,Gp]
   refine wpAnyL_fin ?_;have y6:=g8.2.1;have d8:=g8.2.2.2.2.1 _ _ _ z8 g2.2.2.1;have d9:=g8.2.2.1;have e0:=Fr.keep (Fr.keep C6 g2.2.2.2.1) g8.2.2.2.1;have c7:=Fr.keep (Fr.keep E6 g2.2.2.2.1) g8.2.2.2.1;clear g2 g8 C3 G6 i0 i1 i2 i3 j0 j1 j2 j3 m0 m1 m2 m3 n0 n1 n2 n3 A1 qa qb ka kb C7 D2 C6 E6 f hb e7 p2 hxs z8 x7 y5 x0 x2 x9 x1 hp hq ho d6 d7 e6 e8 o5;replace h:=Zd (h.out.below y6);have r5:=Gn r3 y6;clear r3 y6;replace d8:=Zd d8;replace d9:=Zd d9;replace e0:=Zd e0;replace c7:=Zd c7;have z3:=Zzx h.out hE.out;have z4:∀ i,i<n->((qM rs)[i]?.getD []).length=n:=λi hi=>cov_row h.out hE.out i hi;obtain⟨gc,oc,r0,J2,-,-,-⟩:=h.out.at_ (k:=0) Gk;subst J2;obtain⟨gi,oi,ci,rI,L0,B1,A5⟩:=z3.ents z4 (I:=0) Gk;obtain⟨gk,d4,ck,rK,L4,F3,y7⟩:=z3.ents z4 (I:=1) Gk;unfold maxLen at B1 F3;obtain⟨xan,o6,xak,xac,xam,p4,xaj,xad,I6,xaf⟩:=A5 0 Gk;obtain⟨xbn,v6,xbk,xbc,xbm,υ9,xbj,xbd,I8,xbf⟩:=A5 1 Gk;obtain⟨xcn,υ2,xck,xcc,xcm,t4,xcj,xcd,J6,xcf⟩:=y7 0 Gk;obtain⟨xdn,o9,xdk,xdc,xdm,o7,xdj,xdd,I7,xdf⟩:=y7 1 Gk;rw[hx.out]at xaf;rw[hy.out]at xbf;rw[l7.out]at xcf;rw[hz.out]at xdf;obtain⟨j7,i8,j6,i4⟩:=I6;obtain⟨h3,j5,i6,j4⟩:=I8;obtain⟨i9,j8,i7,h4⟩:=J6;obtain⟨h0,h5,g9,i5⟩:=I7;have N9:(0:Int)<(n:Int):=Gk;have O2:0<n:=Gk;have O4:1<n:=Gk;have O3:(1:Int)<(n:Int):=Gk
   have sL:=SmN.intA AL 86 q6.out;have sS:=SmN.intA AS 86 q7.out;have s1:=Zd (sx.out.sm Gj Gj);have s2:=Zd (sy.out.sm Gj Gj);have s3:=Zd (sz.out.sm Gj Gj);have s4:=Zd ((sx.out.mulN sz.out).sm Gj Gj);have s5:=Zd ((sy.out.mulN sy.out).sm Gj Gj);have w7:SmN 1 1 (((-1:Int)):Rat):=⟨by decide +kernel,by decide +kernel⟩;have z6:SmN 1 1 (2:Rat):=⟨by decide +kernel,by decide +kernel⟩;have s6:=Zd (w7.sm Gj Gj);have s7:=Zd ((w7.mulN (sy.out.mulN sy.out)).sm Gj Gj);have s8:=Zd (((sx.out.mulN sz.out).add (w7.mulN (sy.out.mulN sy.out))).sm Gj Gj);have s9:=Zd ((sx.out.add sz.out).sm Gj Gj);have sa:=Zd (sL.sm Gj Gj);have sb:=Zd (sS.sm Gj Gj);have sc:=Zd ((sL.add sS).sm Gj Gj);have sd:=Zd (z6.sm Gj Gj);have se:=Zd (((sL.add sS).add z6).sm Gj Gj);have sf:=Zd ((sL.mulN sS).sm Gj Gj);have c1:Hid (decide (((AL:Int):Rat)+((AS:Int):Rat)<=x+z)=true):=Zd (Gv q1.out);have c2:Hid (decide (((AL:Int):Rat)+((AS:Int):Rat)+2<=x+z)=false):=Zd (Gu q2.out)
   have c3:Hid (decide (((AL:Int):Rat)*((AS:Int):Rat)<=x*z+((-1:Int):Rat)*(y*y))=true):=Zd (Gv (by
    have e:x*z+((-1:Int):Rat)*(y*y)=x*z-y*y:=by
     have e1:(((-1:Int)):Rat)=-1:=rfl;rw[e1];grind
    rw[e];exact q3.out))
   clear z3 z4 A5 y7 hx hy l7 hz w2 w9 sx sy sz sL sS w7 z6 q1 q2 q3 q4 q5 q6 q7;replace xaf:=Zd xaf;replace xbf:=Zd xbf;replace xcf:=Zd xcf;replace xdf:=Zd xdf;replace rI:Zb.cell? ⟨gc,oc,none⟩=some (.slice (some ⟨gi,oi,none⟩) n ci):=rI;replace rK:Zb.cell? ⟨gc,oc+1,none⟩=some (.slice (some ⟨gk,d4,none⟩) n ck):=rK;replace j7:Zb.cell? ⟨gi,oi,none⟩=some (.bool xan):=j7;replace i8:Zb.cell? ⟨gi,oi+1,none⟩=some (.slice o6 xak xac):=i8;replace j6:Zb.cell? ⟨gi,oi+2,none⟩=some (.bool xam):=j6;replace i4:Zb.cell? ⟨gi,oi+3,none⟩=some (.slice p4 xaj xad):=i4;replace h3:Zb.cell? ⟨gi,oi+4,none⟩=some (.bool xbn):=h3;replace j5:Zb.cell? ⟨gi,oi+4+1,none⟩=some (.slice v6 xbk xbc):=j5;replace i6:Zb.cell? ⟨gi,oi+4+2,none⟩=some (.bool xbm):=i6;replace j4:Zb.cell? ⟨gi,oi+4+3,none⟩=some (.slice υ9 xbj xbd):=j4;replace i9:Zb.cell? ⟨gk,d4,none⟩=some (.bool xcn):=i9;replace j8:Zb.cell? ⟨gk,d4+1,none⟩=some (.slice υ2 xck xcc):=j8;replace i7:Zb.cell? ⟨gk,d4+2,none⟩=some (.bool xcm):=i7;replace h4:Zb.cell? ⟨gk,d4+3,none⟩=some (.slice t4 xcj xcd):=h4;replace h0:Zb.cell? ⟨gk,d4+4,none⟩=some (.bool xdn):=h0;replace h5:Zb.cell? ⟨gk,d4+4+1,none⟩=some (.slice o9 xdk xdc):=h5;replace g9:Zb.cell? ⟨gk,d4+4+2,none⟩=some (.bool xdm):=g9;replace i5:Zb.cell? ⟨gk,d4+4+3,none⟩=some (.slice o7 xdj xdd):=i5
   have E7:Hid (∀ W9,Below Zb.heap.size Zb W9->(W9.cell? ⟨gc,oc,none⟩=some (.slice (some ⟨gi,oi,none⟩) n ci))/\(W9.cell? ⟨gc,oc+1,none⟩=some (.slice (some ⟨gk,d4,none⟩) n ck))/\(W9.cell? ⟨gi,oi,none⟩=some (.bool xan))/\(W9.cell? ⟨gi,oi+1,none⟩=some (.slice o6 xak xac))/\(W9.cell? ⟨gi,oi+2,none⟩=some (.bool xam))/\(W9.cell? ⟨gi,oi+3,none⟩=some (.slice p4 xaj xad))/\(W9.cell? ⟨gi,oi+4,none⟩=some (.bool xbn))/\(W9.cell? ⟨gi,oi+4+1,none⟩=some (.slice v6 xbk xbc))/\(W9.cell? ⟨gi,oi+4+2,none⟩=some (.bool xbm))/\(W9.cell? ⟨gi,oi+4+3,none⟩=some (.slice υ9 xbj xbd))/\(W9.cell? ⟨gk,d4,none⟩=some (.bool xcn))/\(W9.cell? ⟨gk,d4+1,none⟩=some (.slice υ2 xck xcc))/\(W9.cell? ⟨gk,d4+2,none⟩=some (.bool xcm))/\(W9.cell? ⟨gk,d4+3,none⟩=some (.slice t4 xcj xcd))/\(W9.cell? ⟨gk,d4+4,none⟩=some (.bool xdn))/\(W9.cell? ⟨gk,d4+4+1,none⟩=some (.slice o9 xdk xdc))/\(W9.cell? ⟨gk,d4+4+2,none⟩=some (.bool xdm))/\(W9.cell? ⟨gk,d4+4+3,none⟩=some (.slice o7 xdj xdd))):=Zd (λW9 h9=>⟨Zc h9 rI,Zc h9 rK,Zc h9 j7,Zc h9 i8,Zc h9 j6,Zc h9 i4,Zc h9 h3,Zc h9 j5,Zc h9 i6,Zc h9 j4,Zc h9 i9,Zc h9 j8,Zc h9 i7,Zc h9 h4,Zc h9 h0,Zc h9 h5,Zc h9 g9,Zc h9 i5⟩);have k6:Hid (Below Zb.heap.size Zb Zb):=Zd (Qf _ _);clear h;go_wp2_with fail
   have k3:Hid (∀ wx,Below Zb.heap.size Zb wx->(wx.cell? ⟨gc,oc,none⟩=some (.slice (some ⟨gi,oi,none⟩) n ci))/\(wx.cell? ⟨gc,oc+1,none⟩=some (.slice (some ⟨gk,d4,none⟩) n ck))/\(wx.cell? ⟨gi,oi,none⟩=some (.bool xan))/\(wx.cell? ⟨gi,oi+1,none⟩=some (.slice o6 xak xac))/\(wx.cell? ⟨gi,oi+2,none⟩=some (.bool xam))/\(wx.cell? ⟨gi,oi+3,none⟩=some (.slice p4 xaj xad))/\(wx.cell? ⟨gi,oi+4,none⟩=some (.bool xbn))/\(wx.cell? ⟨gi,oi+4+1,none⟩=some (.slice v6 xbk xbc))/\(wx.cell? ⟨gi,oi+4+2,none⟩=some (.bool xbm))/\(wx.cell? ⟨gi,oi+4+3,none⟩=some (.slice υ9 xbj xbd))/\(wx.cell? ⟨gk,d4,none⟩=some (.bool xcn))/\(wx.cell? ⟨gk,d4+1,none⟩=some (.slice υ2 xck xcc))/\(wx.cell? ⟨gk,d4+2,none⟩=some (.bool xcm))/\(wx.cell? ⟨gk,d4+3,none⟩=some (.slice t4 xcj xcd))/\(wx.cell? ⟨gk,d4+4,none⟩=some (.bool xdn))/\(wx.cell? ⟨gk,d4+4+1,none⟩=some (.slice o9 xdk xdc))/\(wx.cell? ⟨gk,d4+4+2,none⟩=some (.bool xdm))/\(wx.cell? ⟨gk,d4+4+3,none⟩=some (.slice o7 xdj xdd))):=Zd (λwx f=>⟨Zc f rI,Zc f rK,Zc f j7,Zc f i8,Zc f j6,Zc f i4,Zc f h3,Zc f j5,Zc f i6,Zc f j4,Zc f i9,Zc f j8,Zc f i7,Zc f h4,Zc f h0,Zc f h5,Zc f g9,Zc f i5⟩);have e7:Below Zb.heap.size Zb Zb.drew:=Zh (Qf _ _) 1;refine wp_heldS [] hmx k3 e7 (λhxs1=>?_);refine Zkb 10 [0,1,2,3,4,5,6,7,8,9] rfl Gi (k3.out _ e7) ?_
   iterate 10 (refine tkA ?_;try simp only[Qa,Zg9,Zgn,Zg3,Gr,Gq,Gp])
   refine tk0 ?_;refine Za5 [(10,143),(11,17)] (λ_=>[]) [(10,143),(11,17)] (Zah [(10,frV (x+z)),(11,Zq4 Zb.heap.size 41 #[.bool false,.slice none 0 0,.bool false,.slice none 0 0])]) 1 Gi (λp _=>Zdy (Zw Zbc (Zw Zcy Zej)) p.1) (λwx h=>k3.out _ (Gs e7 h)) ?hop1 ?hfin1
   case hop1 =>
    intro p hp;simp only[Qe,Qb,or_false]at hp;simp only[Qc,Qd,Zaj,Qa,Zg9,Zgn,Zg3];rcases hp with rfl|rfl
    ·intro ν wx hb hP
     have f:=Gs e7 hb;refine Zn (i:=10) rfl (λK hK=>?_);go_simp;refine(Zg5 xan o6 xak xac xam p4 xaj xad xdn o9 xdk xdc xdm o7 xdj xdd _ _ wx (xaf.out.below f) (xdf.out.below f) s1.out s3.out).mono ?_;exact Cc
    intro ν wx hb hP;have f:=Gs e7 hb;refine Zn (i:=11) rfl (λK hK=>?_);exact Ei
   case hfin1 =>
    intro ν wx hb hP;have l0:=hP (10,143) Gh;simp only[Zah]at l0;obtain⟨k0,l4,l1,k8,k5,l3,k2,l2,hν10,x5⟩:=l0;have k1:=hP (11,17) Gh;simp only[Zah]at k1;obtain⟨g4,hν11,y4,υ5⟩:=k1;simp only[Qc,Qd,Zaj,Qa,Zg9,Zgn,Zg3];rw[hν10,hν11];clear hν10 hν11 hP ν;have f:=Gs e7 hb;have f5:=υ5.four;have m6:Zb.heap.size<=g4:=y4;refine(Z5 k0 l4 l1 k8 k5 l3 k2 l2 f m6 υ5).elim (λZ1 hq=>?_);have c0:=f5.1;have A3:=f5.2.1;have y8:=f5.2.2.1;have c3:=f5.2.2.2.1;have f0:=f5.2.2.2.2.1;have f1:=f5.2.2.2.2.2.1;have f2:=f5.2.2.2.2.2.2.1;have f3:=f5.2.2.2.2.2.2.2;have hZ:=hq.1;refine wpAnyL_o 12 λK hK=>?_;go_simp;(try rw[hZ]);refine hK.out _ _ (λ_=>k3.out _ hq.2.1) ?_;clear hK K
    try simp only[Qa,Zg9,Zgn,Zg3,Gr,Gq,Gp]
    refine wpAnyL_fin ?_;have T:=hq.2.1;have c6:=hq.2.2.1;have c9:=Fr.keep x5 hq.2.2.2.1;have I2:=Zd m6;clear hq hZ c0 A3 y8 c3 f0 f1 f2 f3 f5 υ5 y4 m6 f hb e7 k3 hxs1 x5;replace k6:=Gn k6 T;replace d8:=Gm T d8;replace d9:=Gm T d9;replace e0:=Zd (e0.out.below T);replace c7:=Zd (c7.out.below T);replace xaf:=Zd (xaf.out.below T);replace xbf:=Zd (xbf.out.below T);replace xcf:=Zd (xcf.out.below T);replace xdf:=Zd (xdf.out.below T);have υ8:=Gn r5 T;clear r5;replace rI:=Zc T rI;replace rK:=Zc T rK;replace j7:=Zc T j7;replace i8:=Zc T i8;replace j6:=Zc T j6;replace i4:=Zc T i4;replace h3:=Zc T h3;replace j5:=Zc T j5;replace i6:=Zc T i6;replace j4:=Zc T j4;replace i9:=Zc T i9;replace j8:=Zc T j8;replace i7:=Zc T i7;replace h4:=Zc T h4;replace h0:=Zc T h0;replace h5:=Zc T h5;replace g9:=Zc T g9;replace i5:=Zc T i5;clear T rI rK j7 i8 j6 i4 h3 j5 i6 j4 i9 j8 i7 h4 h0 h5 g9 i5;replace c6:=Zd c6;replace c9:=Zd c9;obtain⟨rI,rK,j7,i8,j6,i4,h3,j5,i6,j4,i9,j8,i7,h4,h0,h5,g9,i5⟩:=E7.out _ k6.out;go_wp2_with fail
    have k7:Hid (∀ wx,Below Z1.heap.size Z1 wx->(wx.cell? ⟨gc,oc,none⟩=some (.slice (some ⟨gi,oi,none⟩) n ci))/\(wx.cell? ⟨gc,oc+1,none⟩=some (.slice (some ⟨gk,d4,none⟩) n ck))/\(wx.cell? ⟨gi,oi,none⟩=some (.bool xan))/\(wx.cell? ⟨gi,oi+1,none⟩=some (.slice o6 xak xac))/\(wx.cell? ⟨gi,oi+2,none⟩=some (.bool xam))/\(wx.cell? ⟨gi,oi+3,none⟩=some (.slice p4 xaj xad))/\(wx.cell? ⟨gi,oi+4,none⟩=some (.bool xbn))/\(wx.cell? ⟨gi,oi+4+1,none⟩=some (.slice v6 xbk xbc))/\(wx.cell? ⟨gi,oi+4+2,none⟩=some (.bool xbm))/\(wx.cell? ⟨gi,oi+4+3,none⟩=some (.slice υ9 xbj xbd))/\(wx.cell? ⟨gk,d4,none⟩=some (.bool xcn))/\(wx.cell? ⟨gk,d4+1,none⟩=some (.slice υ2 xck xcc))/\(wx.cell? ⟨gk,d4+2,none⟩=some (.bool xcm))/\(wx.cell? ⟨gk,d4+3,none⟩=some (.slice t4 xcj xcd))/\(wx.cell? ⟨gk,d4+4,none⟩=some (.bool xdn))/\(wx.cell? ⟨gk,d4+4+1,none⟩=some (.slice o9 xdk xdc))/\(wx.cell? ⟨gk,d4+4+2,none⟩=some (.bool xdm))/\(wx.cell? ⟨gk,d4+4+3,none⟩=some (.slice o7 xdj xdd))):=Zd (λwx f=>⟨Zc f rI,Zc f rK,Zc f j7,Zc f i8,Zc f j6,Zc f i4,Zc f h3,Zc f j5,Zc f i6,Zc f j4,Zc f i9,Zc f j8,Zc f i7,Zc f h4,Zc f h0,Zc f h5,Zc f g9,Zc f i5⟩);have f6:Below Z1.heap.size Z1 Z1.drew:=Zh (Qf _ _) 1;refine wp_heldS [] hmx k7 f6 (λhxs2=>?_);refine Zkb 20 [0,1,2,3,4,5,6,7,8,9,12,13,14,15,16,17,18,19,20,21] rfl Gi (k7.out _ f6) ?_
    iterate 20 (refine tkA ?_;try simp only[Qa,Zg9,Zgn,Zg3,Gr,Gq,Gp])
    refine tk0 ?_;refine Za5 [(10,154),(11,155),(22,166),(23,167),(24,168),(25,18)] (λ_=>[]) [(10,154),(11,155),(22,166),(23,167),(24,168),(25,18)] (Zah [(10,frV (x*z)),(11,frV ((-1:Int):Rat)),(22,frV (y*y)),(23,frV (((-1:Int):Rat)*(y*y))),(24,frV (x*z+((-1:Int):Rat)*(y*y))),(25,Zq4 Z1.heap.size 41 #[.bool false,.slice none 0 0,.bool false,.slice none 0 0])]) 1 Gi (λp _=>Zdy (Zw Zbc (Zw Zbc (Zw Zbc (Zw Zbc (Zw Zbc (Zw Zcy Zej)))))) p.1) (λwx h=>k7.out _ (Gs f6 h)) ?hop2 ?hfin2
    case hop2 =>
     intro p hp;simp only[Qe,Qb,or_false]at hp;simp only[Qc,Qd,Zaj,Qa,Zg9,Zgn,Zg3];rcases hp with rfl|rfl|rfl|rfl|rfl|rfl
     ·intro ν wx hb hP
      have f:=Gs f6 hb;refine Zn (i:=10) rfl (λK hK=>?_);go_simp;refine(Zfn xan o6 xak xac xam p4 xaj xad xdn o9 xdk xdc xdm o7 xdj xdd _ _ wx (xaf.out.below f) (xdf.out.below f) s1.out s3.out).mono ?_;exact Cc
     ·intro ν wx hb hP
      have f:=Gs f6 hb;refine Zn (i:=11) rfl (λK hK=>?_);go_simp;refine(Zj2 (-1) 1 wx Gj Gj Gj Gj).mono ?_;rintro e w5 ⟨ao,fn,fA,fk,fc,fm,fB,fj,fd,rfl,ar⟩;rw[Zie]at ar;exact Ep
     ·intro ν wx hb hP
      have f:=Gs f6 hb;refine Zn (i:=22) rfl (λK hK=>?_);go_simp;refine(Zfn xbn v6 xbk xbc xbm υ9 xbj xbd xcn υ2 xck xcc xcm t4 xcj xcd _ _ wx (xbf.out.below f) (xcf.out.below f) s2.out s2.out).mono ?_;exact Cc
     ·intro ν wx hb hP
      have f:=Gs f6 hb;have k1:=hP (11,155) Gh Gi;simp only[Zah]at k1;obtain⟨G0,G4,E8,B2,H2,G7,D0,F5,hν11,G2⟩:=k1;rw[hν11];have υ0:=hP (22,166) Gh Gi;simp only[Zah]at υ0;obtain⟨A7,F7,A8,H8,D6,F0,F9,D9,hν22,H0⟩:=υ0;rw[hν22];refine Zn (i:=23) rfl (λK hK=>?_);go_simp;refine(Zfn G0 G4 E8 B2 H2 G7 D0 F5 A7 F7 A8 H8 D6 F0 F9 D9 _ _ wx G2 H0 s6.out s5.out).mono ?_;exact Cc
     ·intro ν wx hb hP
      have f:=Gs f6 hb;have l0:=hP (10,154) Gh Gi;simp only[Zah]at l0;obtain⟨H1,C5,F2,H7,D7,D3,D1,D4,hν10,F8⟩:=l0;rw[hν10];have r8:=hP (23,167) Gh Gi;simp only[Zah]at r8;obtain⟨B5,D8,E4,I0,E2,B7,B9,E1,hν23,C0⟩:=r8;rw[hν23];refine Zn (i:=24) rfl (λK hK=>?_);go_simp;refine(Zg5 H1 C5 F2 H7 D7 D3 D1 D4 B5 D8 E4 I0 E2 B7 B9 E1 _ _ wx F8 C0 s4.out s7.out).mono ?_;exact Cc
     intro ν wx hb hP;have f:=Gs f6 hb;refine Zn (i:=25) rfl (λK hK=>?_);exact Ei
    case hfin2 =>
     intro ν wx hb hP;have l0:=hP (10,154) Gh;simp only[Zah]at l0;obtain⟨L7,L3,L9,N4,L1,K9,M9,M1,hν10,-⟩:=l0;have k1:=hP (11,155) Gh;simp only[Zah]at k1;obtain⟨N3,M6,N0,N5,M3,K5,M4,N8,hν11,-⟩:=k1;have υ0:=hP (22,166) Gh;simp only[Zah]at υ0;obtain⟨M7,N7,N2,K8,M2,L8,K1,N1,hν22,-⟩:=υ0;have r8:=hP (23,167) Gh;simp only[Zah]at r8;obtain⟨M5,L6,K2,M0,K4,L5,K7,M8,hν23,-⟩:=r8;have E9:=hP (24,168) Gh;simp only[Zah]at E9;obtain⟨o1,m8,o3,o0,m7,n6,o2,o4,hν24,x3⟩:=E9;have B6:=hP (25,18) Gh;simp only[Zah]at B6;obtain⟨g5,hν25,x4,r7⟩:=B6;simp only[Qc,Qd,Zaj,Qa,Zg9,Zgn,Zg3];rw[hν10,hν11,hν22,hν23,hν24,hν25];clear hν10 hν11 hν22 hν23 hν24 hν25 hP ν;have f:=Gs f6 hb;have f5:=r7.four;have m6:Z1.heap.size<=g5:=x4;refine(Z5 o1 m8 o3 o0 m7 n6 o2 o4 f m6 r7).elim (λZ2 hq=>?_);have c0:=f5.1;have A3:=f5.2.1;have y8:=f5.2.2.1;have c3:=f5.2.2.2.1;have f0:=f5.2.2.2.2.1;have f1:=f5.2.2.2.2.2.1;have f2:=f5.2.2.2.2.2.2.1;have f3:=f5.2.2.2.2.2.2.2;have hZ:=hq.1;refine wpAnyL_o 26 λK hK=>?_;go_simp;(try rw[hZ]);refine hK.out _ _ (λ_=>k7.out _ hq.2.1) ?_;clear hK K
     try simp only[Qa,Zg9,Zgn,Zg3,Gr,Gq,Gp]
     refine wpAnyL_fin ?_;have O:=hq.2.1;have c8:=hq.2.2.1;have d5:=Fr.keep x3 hq.2.2.2.1;have I3:=Zd m6;clear hq hZ c0 A3 y8 c3 f0 f1 f2 f3 f5 r7 x4 m6 f hb f6 k7 hxs2 x3;replace k6:=Gn k6 O;replace d8:=Gm O d8;replace d9:=Gm O d9;replace e0:=Zd (e0.out.below O);replace c7:=Zd (c7.out.below O);replace xaf:=Zd (xaf.out.below O);replace xbf:=Zd (xbf.out.below O);replace xcf:=Zd (xcf.out.below O);replace xdf:=Zd (xdf.out.below O);replace c6:=Gm O c6;replace c9:=Zd (c9.out.below O);have r2:=Gn υ8 O;clear υ8;replace rI:=Zc O rI;replace rK:=Zc O rK;replace j7:=Zc O j7;replace i8:=Zc O i8;replace j6:=Zc O j6;replace i4:=Zc O i4;replace h3:=Zc O h3;replace j5:=Zc O j5;replace i6:=Zc O i6;replace j4:=Zc O j4;replace i9:=Zc O i9;replace j8:=Zc O j8;replace i7:=Zc O i7;replace h4:=Zc O h4;replace h0:=Zc O h0;replace h5:=Zc O h5;replace g9:=Zc O g9;replace i5:=Zc O i5;clear O rI rK j7 i8 j6 i4 h3 j5 i6 j4 i9 j8 i7 h4 h0 h5 g9 i5;replace c8:=Zd c8;replace d5:=Zd d5;clear xaf xbf xcf xdf k6 E7;obtain⟨i0,i1,i2,i3,-⟩:=d8.out.four;obtain⟨j0,j1,j2,j3,-⟩:=d9.out.four;go_wp2_with fail;clear i0 i1 i2 i3 j0 j1 j2 j3
     refine(Zg5 an aA ak ac am aB aj ad bn bA bk bc bm bB bj bd _ _ Z2 e0.out c7.out sa.out sb.out).mono ?_;rintro e D5 ⟨C,mn,mA,mk,mc,mm,mB,mj,md,rfl,f4⟩;replace d8:=Gm C d8;replace d9:=Gm C d9;replace e0:=Zd (e0.out.below C);replace c7:=Zd (c7.out.below C);replace c6:=Gm C c6;replace c9:=Zd (c9.out.below C);replace c8:=Gm C c8;replace d5:=Zd (d5.out.below C);have p9:=Gn r2 C;clear r2 C;replace f4:=Zd f4;obtain⟨k4,m9⟩:=Gz D5.heap.size;obtain⟨e5,y0,e9,f9⟩:=Zaq (w:=D5) 41 #[.bool mn,.slice mA mk mc,.bool mm,.slice mB mj md];rw[m9]at e9;replace d8:=Gm f9 d8;replace d9:=Gm f9 d9;replace e0:=Zd (e0.out.below f9);replace c7:=Zd (c7.out.below f9);replace c6:=Gm f9 c6;replace c9:=Zd (c9.out.below f9);replace c8:=Gm f9 c8;replace d5:=Zd (d5.out.below f9);replace f4:=Zd (f4.out.below f9);have v8:=Gn p9 f9;clear p9 f9;replace e9:=Zd e9;go_wp2_with fail;(try rw[m9]);(try rw[y0]);clear y0;replace m9:=Zd m9;have b4:e5.cell? ⟨ga,0,none⟩=some (.bool an):=d8.out.cell 0;have a9:e5.cell? ⟨ga,1,none⟩=some (.slice aA ak ac):=d8.out.cell 1;have b2:e5.cell? ⟨ga,2,none⟩=some (.bool am):=d8.out.cell 2
     have b6:e5.cell? ⟨ga,3,none⟩=some (.slice aB aj ad):=d8.out.cell 3;have b9:e5.cell? ⟨gb,0,none⟩=some (.bool bn):=d9.out.cell 0;have a8:e5.cell? ⟨gb,1,none⟩=some (.slice bA bk bc):=d9.out.cell 1;have b3:e5.cell? ⟨gb,2,none⟩=some (.bool bm):=d9.out.cell 2;have b8:e5.cell? ⟨gb,3,none⟩=some (.slice bB bj bd):=d9.out.cell 3;have c5:e5.cell? ⟨k4,0,none⟩=some (.bool mn):=e9.out.cell 0;have c4:e5.cell? ⟨k4,1,none⟩=some (.slice mA mk mc):=e9.out.cell 1;have b1:e5.cell? ⟨k4,2,none⟩=some (.bool mm):=e9.out.cell 2;have b7:e5.cell? ⟨k4,3,none⟩=some (.slice mB mj md):=e9.out.cell 3;have b0:e5.cell? ⟨g4,0,none⟩=some (.bool k0):=c6.out.cell 0;have b5:e5.cell? ⟨g4,1,none⟩=some (.slice l4 l1 k8):=c6.out.cell 1;have a7:e5.cell? ⟨g4,2,none⟩=some (.bool k5):=c6.out.cell 2;have a6:e5.cell? ⟨g4,3,none⟩=some (.slice l3 k2 l2):=c6.out.cell 3;have Y:e5.cell? ⟨g5,0,none⟩=some (.bool o1):=c8.out.cell 0;have a0:e5.cell? ⟨g5,1,none⟩=some (.slice m8 o3 o0):=c8.out.cell 1;have V:e5.cell? ⟨g5,2,none⟩=some (.bool m7):=c8.out.cell 2;have U:e5.cell? ⟨g5,3,none⟩=some (.slice n6 o2 o4):=c8.out.cell 3;have J:Below e5.heap.size e5 e5.drew:=Zh (Qf _ _) 1;replace d8:=Gm J d8;replace d9:=Gm J d9;replace e0:=Zd (e0.out.below J)
     replace c7:=Zd (c7.out.below J);replace c6:=Gm J c6;replace c9:=Zd (c9.out.below J);replace c8:=Gm J c8;replace d5:=Zd (d5.out.below J);replace f4:=Zd (f4.out.below J);replace e9:=Gm J e9;have l5:=Gn v8 J;clear v8;replace b4:=Zc J b4;replace a9:=Zc J a9;replace b2:=Zc J b2;replace b6:=Zc J b6;replace b9:=Zc J b9;replace a8:=Zc J a8;replace b3:=Zc J b3;replace b8:=Zc J b8;replace c5:=Zc J c5;replace c4:=Zc J c4;replace b1:=Zc J b1;replace b7:=Zc J b7;replace b0:=Zc J b0;replace b5:=Zc J b5;replace a7:=Zc J a7;replace a6:=Zc J a6;replace Y:=Zc J Y;replace a0:=Zc J a0;replace V:=Zc J V;replace U:=Zc J U;clear J
     refine Zz [] (λwx=>(wx.cell? ⟨ga,0,none⟩=some (.bool an))/\(wx.cell? ⟨ga,1,none⟩=some (.slice aA ak ac))/\(wx.cell? ⟨ga,2,none⟩=some (.bool am))/\(wx.cell? ⟨ga,3,none⟩=some (.slice aB aj ad))/\(wx.cell? ⟨gb,0,none⟩=some (.bool bn))/\(wx.cell? ⟨gb,1,none⟩=some (.slice bA bk bc))/\(wx.cell? ⟨gb,2,none⟩=some (.bool bm))/\(wx.cell? ⟨gb,3,none⟩=some (.slice bB bj bd))/\(wx.cell? ⟨k4,0,none⟩=some (.bool mn))/\(wx.cell? ⟨k4,1,none⟩=some (.slice mA mk mc))/\(wx.cell? ⟨k4,2,none⟩=some (.bool mm))/\(wx.cell? ⟨k4,3,none⟩=some (.slice mB mj md))/\(wx.cell? ⟨g4,0,none⟩=some (.bool k0))/\(wx.cell? ⟨g4,1,none⟩=some (.slice l4 l1 k8))/\(wx.cell? ⟨g4,2,none⟩=some (.bool k5))/\(wx.cell? ⟨g4,3,none⟩=some (.slice l3 k2 l2))/\(wx.cell? ⟨g5,0,none⟩=some (.bool o1))/\(wx.cell? ⟨g5,1,none⟩=some (.slice m8 o3 o0))/\(wx.cell? ⟨g5,2,none⟩=some (.bool m7))/\(wx.cell? ⟨g5,3,none⟩=some (.slice n6 o2 o4))) hmx ⟨b4,a9,b2,b6,b9,a8,b3,b8,c5,c4,b1,b7,b0,b5,a7,a6,Y,a0,V,U⟩ (λ_=>?_);refine Zkb 4 [0,1,2,3] rfl Gi ⟨b4,a9,b2,b6,b9,a8,b3,b8,c5,c4,b1,b7,b0,b5,a7,a6,Y,a0,V,U⟩ ?_
     iterate 4 (refine tkA ?_;try simp only[Qa,Zg9,Zgn,Zg3,Gr,Gq,Gp])
     refine tk0 ?_;refine wpAnyL_o 4 λK hK=>?_
     (try rw[Gx Gi]);go_simp;refine(Zi4 mn mA mk mc mm mB mj md k0 l4 l1 k8 k5 l3 k2 l2 _ _ e5.drew f4.out c9.out sc.out s9.out).mono ?_;rintro e F6 ⟨rfl,f⟩;replace d8:=Gm f d8;replace d9:=Gm f d9;replace e0:=Zd (e0.out.below f);replace c7:=Zd (c7.out.below f);replace c6:=Gm f c6;replace c9:=Zd (c9.out.below f);replace c8:=Gm f c8;replace d5:=Zd (d5.out.below f);replace f4:=Zd (f4.out.below f);replace e9:=Gm f e9;have m5:=Gn l5 f;clear l5;replace b4:=Zc f b4;replace a9:=Zc f a9;replace b2:=Zc f b2;replace b6:=Zc f b6;replace b9:=Zc f b9;replace a8:=Zc f a8;replace b3:=Zc f b3;replace b8:=Zc f b8;replace c5:=Zc f c5;replace c4:=Zc f c4;replace b1:=Zc f b1;replace b7:=Zc f b7;replace b0:=Zc f b0;replace b5:=Zc f b5;replace a7:=Zc f a7;replace a6:=Zc f a6;replace Y:=Zc f Y;replace a0:=Zc f a0;replace V:=Zc f V;replace U:=Zc f U;clear f;rw[c1.out];refine hK.out _ _ (λ_=>⟨b4,a9,b2,b6,b9,a8,b3,b8,c5,c4,b1,b7,b0,b5,a7,a6,Y,a0,V,U⟩) ?_;clear hK K
     try simp only[Qa,Zg9,Zgn,Zg3,Gr,Gq,Gp]
     refine Zkb 4 [5,6,7,10] rfl Gi ⟨b4,a9,b2,b6,b9,a8,b3,b8,c5,c4,b1,b7,b0,b5,a7,a6,Y,a0,V,U⟩ ?_
     iterate 4 (refine tkA ?_;try simp only[Qa,Zg9,Zgn,Zg3,Gr,Gq,Gp])
     refine tk0 ?_;refine wpAnyL_o 8 λK hK=>?_
     (try rw[Gx Gi]);go_simp;refine(Zj2 2 1 F6 Gj Gj Gj Gj).mono ?_;rintro e C8 ⟨f,fn,fA,fk,fc,fm,fB,fj,fd,rfl,h8⟩;replace d8:=Gm f d8;replace d9:=Gm f d9;replace e0:=Zd (e0.out.below f);replace c7:=Zd (c7.out.below f);replace c6:=Gm f c6;replace c9:=Zd (c9.out.below f);replace c8:=Gm f c8;replace d5:=Zd (d5.out.below f);replace f4:=Zd (f4.out.below f);replace e9:=Gm f e9;have l9:=Gn m5 f;clear m5;replace b4:=Zc f b4;replace a9:=Zc f a9;replace b2:=Zc f b2;replace b6:=Zc f b6;replace b9:=Zc f b9;replace a8:=Zc f a8;replace b3:=Zc f b3;replace b8:=Zc f b8;replace c5:=Zc f c5;replace c4:=Zc f c4;replace b1:=Zc f b1;replace b7:=Zc f b7;replace b0:=Zc f b0;replace b5:=Zc f b5;replace a7:=Zc f a7;replace a6:=Zc f a6;replace Y:=Zc f Y;replace a0:=Zc f a0;replace V:=Zc f V;replace U:=Zc f U;clear f;rw[show Qs 2 1=2 by decide +kernel]at h8;replace h8:=Zd h8;refine hK.out _ _ (λ_=>⟨b4,a9,b2,b6,b9,a8,b3,b8,c5,c4,b1,b7,b0,b5,a7,a6,Y,a0,V,U⟩) ?_;clear hK K
     try simp only[Qa,Zg9,Zgn,Zg3,Gr,Gq,Gp]
     refine wpAnyL_o 9 λK hK=>?_
     (try rw[Gx Gi]);go_simp;refine(Zg5 mn mA mk mc mm mB mj md fn fA fk fc fm fB fj fd _ _ C8 f4.out h8.out sc.out sd.out).mono ?_;rintro e G3 ⟨f,vn,vA,vk,vc,vm,vB,vj,vd,rfl,j9⟩;replace d8:=Gm f d8;replace d9:=Gm f d9;replace e0:=Zd (e0.out.below f);replace c7:=Zd (c7.out.below f);replace c6:=Gm f c6;replace c9:=Zd (c9.out.below f);replace c8:=Gm f c8;replace d5:=Zd (d5.out.below f);replace f4:=Zd (f4.out.below f);replace e9:=Gm f e9;replace h8:=Zd (h8.out.below f);have l8:=Gn l9 f;clear l9;replace b4:=Zc f b4;replace a9:=Zc f a9;replace b2:=Zc f b2;replace b6:=Zc f b6;replace b9:=Zc f b9;replace a8:=Zc f a8;replace b3:=Zc f b3;replace b8:=Zc f b8;replace c5:=Zc f c5;replace c4:=Zc f c4;replace b1:=Zc f b1;replace b7:=Zc f b7;replace b0:=Zc f b0;replace b5:=Zc f b5;replace a7:=Zc f a7;replace a6:=Zc f a6;replace Y:=Zc f Y;replace a0:=Zc f a0;replace V:=Zc f V;replace U:=Zc f U;clear f;replace j9:=Zd j9;refine hK.out _ _ (λ_=>⟨b4,a9,b2,b6,b9,a8,b3,b8,c5,c4,b1,b7,b0,b5,a7,a6,Y,a0,V,U⟩) ?_;clear hK K
     try simp only[Qa,Zg9,Zgn,Zg3,Gr,Gq,Gp]
     refine wpAnyL_o 11 λK hK=>?_
     (try rw[Gx Gi]);go_simp;refine(Zi4 vn vA vk vc vm vB vj vd k0 l4 l1 k8 k5 l3 k2 l2 _ _ G3 j9.out c9.out se.out s9.out).mono ?_;rintro e B8 ⟨rfl,f⟩;replace d8:=Gm f d8;replace d9:=Gm f d9;replace e0:=Zd (e0.out.below f);replace c7:=Zd (c7.out.below f);replace c6:=Gm f c6;replace c9:=Zd (c9.out.below f);replace c8:=Gm f c8;replace d5:=Zd (d5.out.below f);replace f4:=Zd (f4.out.below f);replace e9:=Gm f e9;replace h8:=Zd (h8.out.below f);replace j9:=Zd (j9.out.below f);have l6:=Gn l8 f;clear l8;replace b4:=Zc f b4;replace a9:=Zc f a9;replace b2:=Zc f b2;replace b6:=Zc f b6;replace b9:=Zc f b9;replace a8:=Zc f a8;replace b3:=Zc f b3;replace b8:=Zc f b8;replace c5:=Zc f c5;replace c4:=Zc f c4;replace b1:=Zc f b1;replace b7:=Zc f b7;replace b0:=Zc f b0;replace b5:=Zc f b5;replace a7:=Zc f a7;replace a6:=Zc f a6;replace Y:=Zc f Y;replace a0:=Zc f a0;replace V:=Zc f V;replace U:=Zc f U;clear f;rw[c2.out];refine hK.out _ _ (λ_=>⟨b4,a9,b2,b6,b9,a8,b3,b8,c5,c4,b1,b7,b0,b5,a7,a6,Y,a0,V,U⟩) ?_;clear hK K
     try simp only[Qa,Zg9,Zgn,Zg3,Gr,Gq,Gp]
     refine Zkb 6 [12,13,14,15,16,18] rfl Gi ⟨b4,a9,b2,b6,b9,a8,b3,b8,c5,c4,b1,b7,b0,b5,a7,a6,Y,a0,V,U⟩ ?_
     iterate 6 (refine tkA ?_;try simp only[Qa,Zg9,Zgn,Zg3,Gr,Gq,Gp])
     refine tk0 ?_;refine wpAnyL_o 17 λK hK=>?_
     (try rw[Gx Gi]);go_simp;refine(Zfn an aA ak ac am aB aj ad bn bA bk bc bm bB bj bd _ _ B8 e0.out c7.out sa.out sb.out).mono ?_;rintro e H6 ⟨f,ln,lA,lk,lc,lm,lB,lj,ld,rfl,t5⟩;replace d8:=Gm f d8;replace d9:=Gm f d9;replace e0:=Zd (e0.out.below f);replace c7:=Zd (c7.out.below f);replace c6:=Gm f c6;replace c9:=Zd (c9.out.below f);replace c8:=Gm f c8;replace d5:=Zd (d5.out.below f);replace f4:=Zd (f4.out.below f);replace e9:=Gm f e9;replace h8:=Zd (h8.out.below f);replace j9:=Zd (j9.out.below f);have m4:=Gn l6 f;clear l6;replace b4:=Zc f b4;replace a9:=Zc f a9;replace b2:=Zc f b2;replace b6:=Zc f b6;replace b9:=Zc f b9;replace a8:=Zc f a8;replace b3:=Zc f b3;replace b8:=Zc f b8;replace c5:=Zc f c5;replace c4:=Zc f c4;replace b1:=Zc f b1;replace b7:=Zc f b7;replace b0:=Zc f b0;replace b5:=Zc f b5;replace a7:=Zc f a7;replace a6:=Zc f a6;replace Y:=Zc f Y;replace a0:=Zc f a0;replace V:=Zc f V;replace U:=Zc f U;clear f;replace t5:=Zd t5;refine hK.out _ _ (λ_=>⟨b4,a9,b2,b6,b9,a8,b3,b8,c5,c4,b1,b7,b0,b5,a7,a6,Y,a0,V,U⟩) ?_;clear hK K
     try simp only[Qa,Zg9,Zgn,Zg3,Gr,Gq,Gp]
     refine wpAnyL_o 19 λK hK=>?_
     (try rw[Gx Gi]);go_simp;refine(Zi4 ln lA lk lc lm lB lj ld o1 m8 o3 o0 m7 n6 o2 o4 _ _ H6 t5.out d5.out sf.out s8.out).mono ?_;rintro e K3 ⟨rfl,f⟩;replace d8:=Gm f d8;replace d9:=Gm f d9;replace e0:=Zd (e0.out.below f);replace c7:=Zd (c7.out.below f);replace c6:=Gm f c6;replace c9:=Zd (c9.out.below f);replace c8:=Gm f c8;replace d5:=Zd (d5.out.below f);replace f4:=Zd (f4.out.below f);replace e9:=Gm f e9;replace h8:=Zd (h8.out.below f);replace j9:=Zd (j9.out.below f);replace t5:=Zd (t5.out.below f);have y9:=Gn m4 f;clear m4;replace b4:=Zc f b4;replace a9:=Zc f a9;replace b2:=Zc f b2;replace b6:=Zc f b6;replace b9:=Zc f b9;replace a8:=Zc f a8;replace b3:=Zc f b3;replace b8:=Zc f b8;replace c5:=Zc f c5;replace c4:=Zc f c4;replace b1:=Zc f b1;replace b7:=Zc f b7;replace b0:=Zc f b0;replace b5:=Zc f b5;replace a7:=Zc f a7;replace a6:=Zc f a6;replace Y:=Zc f Y;replace a0:=Zc f a0;replace V:=Zc f V;replace U:=Zc f U;clear f;rw[c3.out];refine hK.out _ _ (λ_=>⟨b4,a9,b2,b6,b9,a8,b3,b8,c5,c4,b1,b7,b0,b5,a7,a6,Y,a0,V,U⟩) ?_;clear hK K
     try simp only[Qa,Zg9,Zgn,Zg3,Gr,Gq,Gp]
     refine Zkb 1 [20] rfl Gi ⟨b4,a9,b2,b6,b9,a8,b3,b8,c5,c4,b1,b7,b0,b5,a7,a6,Y,a0,V,U⟩ ?_
     (refine tkA ?_;try simp only[Qa,Zg9,Zgn,Zg3,Gr,Gq,Gp])
     refine tk0 ?_;refine Zgo 1 [21] rfl Gi ⟨b4,a9,b2,b6,b9,a8,b3,b8,c5,c4,b1,b7,b0,b5,a7,a6,Y,a0,V,U⟩ ?_
     (refine tkA ?_;try simp only[Qa,Zg9,Zgn,Zg3,Gr,Gq,Gp])
     refine tk0 ?_;refine wpAnyL_fin ?_;clear b4 a9 b2 b6 b9 a8 b3 b8 c5 c4 b1 b7 b0 b5 a7 a6 Y a0 V U;go_wp2_with fail;go_ret;exact⟨rfl,y9.out⟩
