/- Package frac: reduce with a negative denominator, both, -/
import Derived.Lib.SlBuf
import Derived.Test.YthappeninglakaaGreatZt10
set_option maxRecDepth 100000
set_option maxHeartbeats 8000000
set_option linter.unusedSimpArgs false
set_option linter.unusedVariables false
namespace Go.Proofs.YthappeninglakaaGreat
open Go.RowKit
open List renaming replicate→Qa,length_map→Qe,map_append→Qf,getElem?_eq_getElem→Qg,eq_nil_of_length_eq_zero→Qj,getElem?_replicate→Qm,getElem?_eq_none→Qn,take_append_drop→Qo,length_append→Qq,mem_singleton→Qr,ext_getElem?→Qs,getElem?_map→Qu,length_take→Qv,range→Qw,append_nil→Qx
open And renaming intro→Qb
open Below renaming refl→Qc
open Nat renaming le_refl→Qd,le_trans→Qh,min_eq_left→Qi,lt_of_lt_of_le→Qk,min→Qy
open Act renaming put→Ql
open Rat renaming divInt→Qp
open Int renaming toNat_natCast→Qt
attribute [local go_sem] Zg
theorem Zur(na:Bool)(A B:Option Addr)(n c m d:Nat)(za zb:Int)(w:World)(ha:Wd w na A n c za)(hb:Wd w true B m d zb)(h0:zb<0) :
    Calls Tryz.prog 157 #[.agg #[.bool na,.slice A n c],.agg #[.bool true,.slice B m d]] w (Zdn w (Qp za zb)):=by
 have e3:=Zdx ha.small hb.small;have hx:=Za (Zj9 (a:=za) (b:=zb) Gk);have hy:=Za (Zjt (a:=za) (b:=zb) Gk);have a2:=Za (Zlu (a:=za) (b:=zb) Gk);have b6:Zgd za zb=-((Nat.gcd za.natAbs zb.natAbs:Nat):Int):=by unfold Zgd;rw[Gx h0]
 rw[b6]at hx hy a2;have HA:=Za ha;have HB:=Za hb;obtain⟨G,hG⟩:=Gz (Nat.gcd za.natAbs zb.natAbs);rw[hG]at hx hy a2 e3
 have HGc:Hid (∀ W:World,Wd W na A n c za->Wd W true B m d zb->Calls Tryz.prog 151 #[.agg #[.bool na,.slice A n c],.agg #[.bool true,.slice B m d]] W (ResW W (G:Int))):=λW h1 h2=>by
  have:=Zku na true A B n c m d za zb W h1 h2;rw[hG]at this;exact this
 generalize Qp za zb=R at *;clear ha hb hG b6;have a9:∀ X Y Z:Obj,Below w.heap.size w (((w.alloc X).alloc Y).alloc Z):=λX Y Z=>(((Qc w.heap.size w).alloc (Qd _) _).alloc Gh _).alloc Gg _;have a9:=Za a9;go_in;go_wp2_with fail;have q0:Blk (((w.alloc (.cells #[.bool na,.slice A n c] 39)).alloc (.cells #[.bool true,.slice B m d] 39)).alloc (.cells #[.bool false,.slice none 0 0,.bool false,.slice none 0 0] 41)) w.heap.size 39 #[.bool na,.slice A n c]:=((Blk.new _ _ _).alloc _).alloc _
 have q1:Blk (((w.alloc (.cells #[.bool na,.slice A n c] 39)).alloc (.cells #[.bool true,.slice B m d] 39)).alloc (.cells #[.bool false,.slice none 0 0,.bool false,.slice none 0 0] 41)) (w.heap.size+1) 39 #[.bool true,.slice B m d]:=by
  exact CT
 have q2:Blk (((w.alloc (.cells #[.bool na,.slice A n c] 39)).alloc (.cells #[.bool true,.slice B m d] 39)).alloc (.cells #[.bool false,.slice none 0 0,.bool false,.slice none 0 0] 41)) (w.heap.size+1+1) 41 #[.bool false,.slice none 0 0,.bool false,.slice none 0 0]:=by
  exact CS
 refine(HGc.out _ (((HA.out.alloc _).alloc _).alloc _) (((HB.out.alloc _).alloc _).alloc _)).mono ?_;rintro e w1 ⟨y,ng,Ag,kg,cg,code,rfl,hR⟩;rcases hR with ⟨-,rfl,b2⟩|⟨e0,-⟩
 case inr=>exact absurd e0 Gk
 have C:Below w.heap.size w w1:=(a9.out _ _ _).trans (y.mono Gg);have b4:=Za (HA.out.below C);have d8:=Za (HB.out.below C);have s1:w.heap.size+1+1<w1.heap.size:=by have:=y.size;simp at this;omega
 replace q0:=Zc y q0;replace q1:=Zc y q1;replace q2:=Zc y q2;obtain⟨J,T,-,-⟩:=q0.two;obtain⟨aQ,aR,-,-⟩:=q1.two;have hq:=Za (Qb q0 (Qb q1 q2));clear q0 q1 q2 y;go_wp2_with fail;refine(Zd3 ng Ag kg cg _).mono ?_;rintro e w2 ⟨rfl,h⟩;have c4:Below w.heap.size w w2:=Gs C h;have c9:=Za (b4.out.below h);have c6:=Za (d8.out.below h);have d6:=Za (b2.below h);have s2:w.heap.size+1+1<w2.heap.size:=by have:=h.size;omega
 have q0:=Zc h hq.out.1;have q1:=Zc h hq.out.2.1;have q2:=Zc h hq.out.2.2;clear J T aQ aR C h b2 b4 d8 hq;obtain⟨W3,a0,b8,q3,kW,kB,s3⟩:=Zp 39 #[.bool ng,.slice Ag kg cg] c4 Gk;replace q0:=kB _ _ _ q0;replace q1:=kB _ _ _ q1;replace q2:=kB _ _ _ q2;have d4:=Za (kW _ _ _ _ _ c9.out);have d5:=Za (kW _ _ _ _ _ c6.out);have b0:=Za (kW _ _ _ _ _ d6.out);have s4:w.heap.size+1+1<w2.heap.size:=s2;clear kW kB c9 c6 d6 c4;have c0:=Za q0.two;have c1:=Za q1.two;have c3:=Za q3.two;rw[<- a0]at c0 c1 c3;obtain⟨J,T,-,-⟩:=c0.out;obtain⟨aQ,aR,-,-⟩:=c1.out;obtain⟨aX,aY,-,-⟩:=c3.out;have hq:=Za (Qb q0 (Qb q1 (Qb q2 q3)));clear q0 q1 q2 q3;replace a0:=Za a0;go_wp2_with fail;rw[a0.out];refine(Neg_ok ng Ag kg cg G W3 b0.out).mono ?_;rintro e w4 ⟨o,n5,A5,k5,c5,code,rfl,hR⟩;have a5:(-(G:Int)).natAbs<pw 4096:=by rw[Int.natAbs_neg];exact b0.out.small
 have b9:=Za (hR.small a5);have a6:=hR.code0 a5;subst a6;have I:Below w.heap.size w w4:=b8.trans (o.mono Gk);have b3:=Za (d4.out.below o);have V:=Za (d5.out.below o);have s5:w2.heap.size+1<=w4.heap.size:=by have:=o.size;omega
 have q0:=Zc o hq.out.1;have q1:=Zc o hq.out.2.1;have q2:=Zc o hq.out.2.2.1;have q3:=Zc o hq.out.2.2.2;clear o c0 c1 c3 J T aQ aR aX aY a0 d4 d5 b0 b8 hq hR a5;have hq:=Za (Qb q0 (Qb q1 (Qb q2 q3)));clear q0 q1 q2 q3;go_wp2_with fail;refine(Zd3 n5 A5 k5 c5 _).mono ?_;rintro e w5 ⟨rfl,f⟩;have U:Below w.heap.size w w5:=I.trans (f.mono Gk);have b5:=Za (b3.out.below f);have a1:=Za (V.out.below f);have b7:=Za (b9.out.below f);have s6:w4.heap.size<=w5.heap.size:=f.size;have q0:=Zc f hq.out.1;have q1:=Zc f hq.out.2.1;have q2:=Zc f hq.out.2.2.1;have q3:=Zc f hq.out.2.2.2;clear f b3 V b9 I hq;obtain⟨W7,O,aU,a3,kW,kB,s7⟩:=Zar n5 A5 k5 c5 U Gk q3;replace q0:=kB _ _ _ Gk q0;replace q1:=kB _ _ _ Gk q1;replace q2:=kB _ _ _ Gk q2;have d9:=Za (kW _ _ _ _ _ b5.out);have d7:=Za (kW _ _ _ _ _ a1.out);have a4:=Za (kW _ _ _ _ _ b7.out);obtain⟨e5,e4,e2,e1⟩:=q3.two;have c0:=Za q0.two;have c1:=Za q1.two;have c3:=Za a3.two;obtain⟨J,T,-,-⟩:=c0.out;obtain⟨aQ,aR,-,-⟩:=c1.out;obtain⟨aX,aY,-,-⟩:=c3.out;have hq:=Za (Qb q0 (Qb q1 (Qb q2 a3)));clear q0 q1 q2 q3 a3 kW kB b5 a1 b7 U;replace O:=Za O;have d0:=O.out;go_wp2_with fail;(try rw[O.out]);clear e5 e4 e2 e1 d0;refine(Zf6 na n5 A A5 n c k5 c5 za (-(G:Int)) _ d9.out a4.out a2.out).mono ?_;rintro e w9 ⟨u,nx,Ax,kx,cx,nr,Ar,kr,cr,rfl,a7,-⟩;rw[hx.out]at a7;have I:Below w.heap.size w w9:=aU.trans (u.mono Gk);have V:=Za (d7.out.below u);have d3:=Za (a4.out.below u);have s8:w2.heap.size+1<=w9.heap.size:=by have:=u.size;omega
 have q1:=Zc u hq.out.2.1;have q2:=Zc u hq.out.2.2.1;have q3:=Zc u hq.out.2.2.2;clear u c0 c1 c3 J T aQ aR aX aY O d9 d7 a4 aU hq;obtain⟨W5,a8,U,q5,kW,kB,s6⟩:=Zp 39 #[.bool nx,.slice Ax kx cx] I Gk;replace q1:=kB _ _ _ q1;replace q2:=kB _ _ _ q2;replace q3:=kB _ _ _ q3;have a1:=Za (kW _ _ _ _ _ V.out);have b1:=Za (kW _ _ _ _ _ d3.out);have c7:=Za (kW _ _ _ _ _ a7);clear kW kB V d3 a7 I;obtain⟨W6,aJ,aS,-,kW,kB,s7⟩:=Zp 39 #[.bool nr,.slice Ar kr cr] U Gk;replace q1:=kB _ _ _ q1;replace q2:=kB _ _ _ q2;replace q3:=kB _ _ _ q3;replace q5:=kB _ _ _ q5;have cP:=Za (kW _ _ _ _ _ a1.out);have cQ:=Za (kW _ _ _ _ _ b1.out);have cb:=Za (kW _ _ _ _ _ c7.out);clear kW kB a1 b1 c7 U;have c1:=Za q1.two;have c3:=Za q3.two;rw[<- aJ,<- a8]at c1 c3;obtain⟨aQ,aR,-,-⟩:=c1.out;obtain⟨aX,aY,-,-⟩:=c3.out;have hq:=Za (Qb q2 q5);clear q1 q2 q3 q5;rw[<- a8]at aJ;replace aJ:=Za aJ;clear a8;go_wp2_with fail;rw[aJ.out];refine(Zf6 true n5 B A5 m d k5 c5 zb (-(G:Int)) _ cP.out cQ.out a2.out).mono ?_;rintro e w7 ⟨aE,ny,Ay,ky,cy,ns,As,ks,cs,rfl,du,-⟩;rw[hy.out]at du;have aU:Below w.heap.size w w7:=aS.trans (aE.mono Gk);have dM:=Za (cb.out.below aE);have e6:w9.heap.size+2<=w7.heap.size:=by have:=aE.size;omega
 exact Ep
theorem Ztv(na nb:Bool)(A B:Option Addr)(n c m d:Nat)(za zb:Int)(w:World)(ha:Wd w na A n c za)(hb:Wd w nb B m d zb)(h0:zb≠0) :
    Calls Tryz.prog 157 #[.agg #[.bool na,.slice A n c],.agg #[.bool nb,.slice B m d]] w (Zdn w (Qp za zb)):=by
 by_cases hn:zb<0
 ·have:nb=true:=by rw[hb.1];exact Gv hn
  subst this;exact Zur na A B n c m d za zb w ha hb hn
 have:nb=false:=by rw[hb.1];exact Gu hn
 subst this;exact Zi8 na A B n c m d za zb w ha hb Gk
theorem Zz3(F:FuncId)(na nb na' nb':Bool)(A B A' B':Option Addr)(n c m d n' c' m' d':Nat)(a b:Rat)(X Y:Int)(w:World)(ha:Fr w na A n c nb B m d a)(hb:Fr w na' A' n' c' nb' B' m' d' b)(hY:Y≠0)(hcf:∀ (x y:Value) (W:World),(callFunc F #[x,y]).run Tryz.prog W=.ok (.enter F #[x,y]) W)
    (hF:∀ W:World,Fr W na A n c nb B m d a->Fr W na' A' n' c' nb' B' m' d' b->Calls Tryz.prog F #[.agg #[.bool na,.slice A n c,.bool nb,.slice B m d],.agg #[.bool na',.slice A' n' c',.bool nb',.slice B' m' d']] W (Zoy W X Y)) :
    Calls Tryz.prog 130 #[.agg #[.bool na,.slice A n c,.bool nb,.slice B m d],.agg #[.bool na',.slice A' n' c',.bool nb',.slice B' m' d'],.func (.func F) #[] #[]] w (Zep w (Qp X Y)):=by
 obtain⟨W0,O,C,⟨q0,q1,q2,q3⟩,s0⟩:=Zfr w 41 #[.bool na,.slice A n c,.bool nb,.slice B m d] 41 #[.bool na',.slice A' n' c',.bool nb',.slice B' m' d'] 41 #[.bool false,.slice none 0 0,.bool false,.slice none 0 0] 26 #[.int .i64 0];have hA:=Za (ha.below C);have hD:=Za (hb.below C);replace hF:=Za hF;clear ha hb;replace O:=Za O;obtain⟨a0,a1,a2,a3,-⟩:=q0.four;have hq:=Za (Qb q0 (Qb q1 (Qb q2 q3)));clear q0 q1 q2 q3
 go_enter_defers Tryz.func130,Tryz.ntmps130
 have a6:=O.out;go_wp2_with fail;clear O a6;refine(Zeg na nb A B n c m d a W0 hA.out).mono ?_;rintro e w1 ⟨rfl,o⟩;have T:Below w.heap.size w w1:=Gs C o;have s1:W0.heap.size<=w1.heap.size:=o.size;replace hA:=Za (hA.out.below o);replace hD:=Za (hD.out.below o);obtain⟨q0,q1,q2,q3⟩:=hq.out;replace q0:=Zc o q0;replace q1:=Zc o q1;replace q2:=Zc o q2;replace q3:=Zc o q3;clear hq o C a0 a1 a2 a3;obtain⟨b0,b1,b2,b3,-⟩:=q1.four;have hq:=Za (Qb q0 (Qb q1 (Qb q2 q3)));clear q0 q1 q2 q3;go_wp2_with fail;refine(Zfk w1).mono ?_;rintro e w1 ⟨rfl,rfl⟩;go_wp2_with fail;refine(Zeg na' nb' A' B' n' c' m' d' b w1 hD.out).mono ?_;rintro e w2 ⟨rfl,h⟩;have a4:Below w.heap.size w w2:=Gs T h;have s2:w1.heap.size<=w2.heap.size:=h.size;replace hA:=Za (hA.out.below h);replace hD:=Za (hD.out.below h);obtain⟨q0,q1,q2,q3⟩:=hq.out;replace q0:=Zc h q0;replace q1:=Zc h q1;replace q2:=Zc h q2;replace q3:=Zc h q3;clear hq h T b0 b1 b2 b3;obtain⟨a0,a1,a2,a3,-⟩:=q0.four;obtain⟨b0,b1,b2,b3,-⟩:=q1.four;have hq:=Za (Qb q2 q3);clear q0 q1 q2 q3;go_wp2_with fail;refine(Zfk w2).mono ?_;rintro e w2 ⟨rfl,rfl⟩;go_wp2_with fail;refine(hF.out w2 hA.out hD.out).mono ?_;rintro e w3 ⟨J,nu,U,k1,u,nv,V,k2,v,rfl,hU,hV⟩;have a5:Below w.heap.size w w3:=Gs a4 J;have s3:w2.heap.size<=w3.heap.size:=J.size;have q2:=Zc J hq.out.1;have q3:=Zc J hq.out.2
 clear hq J a4 a0 a1 a2 a3 b0 b1 b2 b3 hA hD hF;have hq:=Za (Qb q2 q3);replace hU:=Za hU;replace hV:=Za hV;clear q2 q3;go_wp2_with fail;refine(Ztv nu nv U V k1 u k2 v X Y w3 hU.out hV.out hY).mono ?_;exact CA
theorem Zud(x y:Value)(W:World):(callFunc 155 #[x,y]).run Tryz.prog W=.ok (.enter 155 #[x,y]) W:=by simp[go_sem]
theorem Div1_ok(na nb na' nb':Bool)(A B A' B':Option Addr)(n c m d n' c' m' d':Nat)(a b:Rat)(w:World)(ha:Fr w na A n c nb B m d a)(hb:Fr w na' A' n' c' nb' B' m' d' b)
    (hs:(a.num*b.den).natAbs<pw 4096) (ht:((a.den:Int)*b.num).natAbs<pw 4096) (h0:b≠0) :
    Calls Tryz.prog 155 #[.agg #[.bool na,.slice A n c,.bool nb,.slice B m d],.agg #[.bool na',.slice A' n' c',.bool nb',.slice B' m' d']] w (Zoy w (a.num*b.den) ((a.den:Int)*b.num)):=by
 obtain⟨W0,I,C,⟨q0,q1,q2,q3⟩,s0⟩:=Zfr w 41 #[.bool na,.slice A n c,.bool nb,.slice B m d] 41 #[.bool na',.slice A' n' c',.bool nb',.slice B' m' d'] 39 #[.bool false,.slice none 0 0] 39 #[.bool false,.slice none 0 0]
 have a5:((n':Int) == 0)=false:=by
  have:n'≠0:=λe=>h0 (hb.zero_iff.1 e);simp;omega
 have hmx:=Gt;have hA:=Za (ha.below C);have hD:=Za (hb.below C);replace hs:=Za hs;replace ht:=Za ht;have sz:=Za C.size;have hB:=Za C;clear ha hb C s0;replace q0:=Za q0;replace q1:=Za q1;replace q2:=Za q2;replace q3:=Za q3;obtain⟨a0,a1,a2,a3,-⟩:=q0.out.four;obtain⟨b0,b1,b2,b3,-⟩:=q1.out.four;replace I:=Za I;go_in;go_wp2_with fail;rw[I.out];refine(Zj6 na' A' n' c' W0 (Qh hD.out.1.2.1 Gj) false a5).mono ?_;rintro e wz ⟨rfl,u⟩;replace q0:=Gm u q0;replace q1:=Gm u q1;replace q2:=Gm u q2;replace q3:=Gm u q3;replace hA:=Za (hA.out.below u);replace hD:=Za (hD.out.below u);replace hB:=Za (hB.out.trans (u.mono sz.out));replace sz:=Za (Qh sz.out u.size);clear a0 a1 a2 a3 b0 b1 b2 b3 I u;obtain⟨a0,a1,a2,a3,-⟩:=q0.out.four;obtain⟨b0,b1,b2,b3,-⟩:=q1.out.four;go_wp2_with fail;refine Zx [12] (λW'=>W'.cell? ⟨w.heap.size,0,none⟩=some (.bool na)/\W'.cell? ⟨w.heap.size,1,none⟩=some (.slice A n c)/\W'.cell? ⟨w.heap.size,2,none⟩=some (.bool nb)/\W'.cell? ⟨w.heap.size,3,none⟩=some (.slice B m d)/\W'.cell? ⟨w.heap.size+1,0,none⟩=some (.bool na')/\W'.cell? ⟨w.heap.size+1,1,none⟩=some (.slice A' n' c')/\W'.cell? ⟨w.heap.size+1,2,none⟩=some (.bool nb')/\W'.cell? ⟨w.heap.size+1,3,none⟩=some (.slice B' m' d')) hmx ⟨a0,a1,a2,a3,b0,b1,b2,b3⟩ (λ_=>?_);refine Zj5 6 [0,1,3,4,5,6] rfl Gi ⟨a0,a1,a2,a3,b0,b1,b2,b3⟩ ?_
 iterate 6 (refine tkA ?_;try simp only[Ql,Zg7,Zgl,Zg1,Gr,Gq,Gp])
 refine tk0 ?_;refine wpAnyL_o 2 λK hK=>?_;go_simp;refine(Zfe na nb na' nb' A B A' B' n c m d n' c' m' d' a b wz.drew hA.out hD.out hs.out).mono ?_;rintro e w1 ⟨h,np,P,k,q,rfl,hP⟩;replace h:=Zs h;replace hP:=Za hP;clear hs;replace q0:=Gm h q0;replace q1:=Gm h q1;replace q2:=Gm h q2;replace q3:=Gm h q3;replace hA:=Za (hA.out.below h);replace hD:=Za (hD.out.below h);replace hB:=Za (hB.out.trans (h.mono sz.out));replace sz:=Za (Qh sz.out h.size);clear a0 a1 a2 a3 b0 b1 b2 b3;obtain⟨a0,a1,a2,a3,-⟩:=q0.out.four;obtain⟨b0,b1,b2,b3,-⟩:=q1.out.four;clear h;refine hK.out _ _ (λ_=>⟨a0,a1,a2,a3,b0,b1,b2,b3⟩) ?_;clear hK K
 try simp only[Ql,Zg7,Zgl,Zg1]
 refine wpAnyL_o 7 λK hK=>?_;go_simp;refine(Zjb nb na' B A' m d n' c' a.den b.num w1 hA.out.2 hD.out.1).mono ?_;rintro e w3 ⟨o,J,P',k',q',code,rfl,hR⟩;have y:=Za (hR.small ht.out);have T:=hR.code0 ht.out;subst T;clear ht hR;replace hP:=Za (hP.out.below o);replace q0:=Gm o q0;replace q1:=Gm o q1;replace q2:=Gm o q2;replace q3:=Gm o q3;replace hA:=Za (hA.out.below o);replace hD:=Za (hD.out.below o);replace hB:=Za (hB.out.trans (o.mono sz.out));replace sz:=Za (Qh sz.out o.size);clear a0 a1 a2 a3 b0 b1 b2 b3;obtain⟨a0,a1,a2,a3,-⟩:=q0.out.four;obtain⟨b0,b1,b2,b3,-⟩:=q1.out.four;clear o;refine hK.out _ _ (λ_=>⟨a0,a1,a2,a3,b0,b1,b2,b3⟩) ?_;clear hK K
 try simp only[Ql,Zg7,Zgl,Zg1]
 refine Zj5 2 [8,9] rfl Gi ⟨a0,a1,a2,a3,b0,b1,b2,b3⟩ ?_
 iterate 2 (refine tkA ?_;try simp only[Ql,Zg7,Zgl,Zg1,Gr,Gq,Gp])
 refine tk0 ?_;refine wpAnyL_o 10 λK hK=>?_;go_simp;refine(Zd3 J P' k' q' w3).mono ?_;rintro e w4 ⟨rfl,f⟩;replace hP:=Za (hP.out.below f);replace y:=Za (y.out.below f);replace q0:=Gm f q0;replace q1:=Gm f q1;replace q2:=Gm f q2;replace q3:=Gm f q3;replace hA:=Za (hA.out.below f);replace hD:=Za (hD.out.below f);replace hB:=Za (hB.out.trans (f.mono sz.out));replace sz:=Za (Qh sz.out f.size);clear a0 a1 a2 a3 b0 b1 b2 b3;obtain⟨a0,a1,a2,a3,-⟩:=q0.out.four;obtain⟨b0,b1,b2,b3,-⟩:=q1.out.four;clear f;obtain⟨x0,x1,f0,f1⟩:=q2.out.two;refine hK.out _ _ (λ_=>⟨a0,a1,a2,a3,b0,b1,b2,b3⟩) ?_;clear hK K
 try simp only[Ql,Zg7,Zgl,Zg1]
 refine wpAnyL_o 11 λK hK=>?_;go_simp;obtain⟨W5,V,Y,O,kW,kB,s5⟩:=Zar np P k q hB.out Gk q2.out;rw[V];clear V x0 x1 f0 f1 a0 a1 a2 a3 b0 b1 b2 b3 hA hD;replace q0:=kB _ _ _ Gk q0.out;replace q1:=kB _ _ _ Gk q1.out;obtain⟨a0,a1,a2,a3,-⟩:=q0.four;obtain⟨b0,b1,b2,b3,-⟩:=q1.four;replace q3:=Za (kB _ _ _ Gk q3.out);replace hP:=Za (kW _ _ _ _ _ hP.out);replace y:=Za (kW _ _ _ _ _ y.out);clear kW kB q2 hB q0 q1;obtain⟨y0,y1,g0,g1⟩:=q3.out.two;refine hK.out _ _ (λ_=>⟨a0,a1,a2,a3,b0,b1,b2,b3⟩) ?_;clear hK K
 try simp only[Ql,Zg7,Zgl,Zg1]
 refine Zv (i:=12) rfl Gi Gi (λK hK=>?_);go_simp;obtain⟨W6,U,a6,a4,kW,kB,s6⟩:=Zar J P' k' q' Y Gk q3.out;rw[U];clear U y0 y1 g0 g1 a0 a1 a2 a3 b0 b1 b2 b3;replace O:=kB _ _ _ Gk O;replace hP:=Za (kW _ _ _ _ _ hP.out);replace y:=Za (kW _ _ _ _ _ y.out);clear kW kB q3 Y;refine hK.out _ _ ?_;clear hK K
 try simp only[Ql,Zg7,Zgl,Zg1]
 refine wpAnyL_fin ?_;obtain⟨r0,r1,-⟩:=O.two;obtain⟨r2,r3,-⟩:=a4.two;go_wp2_with fail;refine bodyPost_ret (v:=.tuple #[.agg #[.bool np,.slice P k q],.agg #[.bool J,.slice P' k' q']]) (by simp[results,Tryz.results155,go_sem,r0,r1,r2,r3]) rfl ?_;exact⟨a6,_,_,_,_,_,_,_,_,rfl,hP.out,y.out⟩
theorem Zsa(na nb na' nb':Bool)(A B A' B':Option Addr)(n c m d n' c' m' d':Nat)(a b:Rat)(w:World)(ha:Fr w na A n c nb B m d a)(hb:Fr w na' A' n' c' nb' B' m' d' b)(sa:Sm a)(sb:Sm b)(h0:b≠0) :
    Calls Tryz.prog 111 #[.agg #[.bool na,.slice A n c,.bool nb,.slice B m d],.agg #[.bool na',.slice A' n' c',.bool nb',.slice B' m' d']] w (Zep w (a/b)):=by
 obtain⟨W0,u,f,⟨q0,q1,q2⟩,s0⟩:=Zb1 w 41 #[.bool na,.slice A n c,.bool nb,.slice B m d] 41 #[.bool na',.slice A' n' c',.bool nb',.slice B' m' d'] 41 #[.bool false,.slice none 0 0,.bool false,.slice none 0 0];have hA:=Za (ha.below f);have hD:=Za (hb.below f);have hF:=λ(W:World) (h1:Fr W na A n c nb B m d a) (h2:Fr W na' A' n' c' nb' B' m' d' b)=>Div1_ok na nb na' nb' A B A' B' n c m d n' c' m' d' a b W h1 h2 (Zbh sa.1 sb.dn) (Zbh sa.dn sb.1) h0;have hG:=Za (Zz3 155 na nb na' nb' A B A' B' n c m d n' c' m' d' a b _ _ W0 hA.out hD.out (Zje a b h0) Zud hF);rw[Zht a b h0]at hG;clear hF ha hb sa sb hA hD;obtain⟨a0,a1,a2,a3,-⟩:=q0.four;obtain⟨b0,b1,b2,b3,-⟩:=q1.four;replace q2:=Za q2;clear q0 q1;go_in;go_wp2_with fail;refine hG.out.mono ?_;rintro e w1 ⟨h,nx,Ax,kx,cx,ny,Ay,ky,cy,rfl,hX⟩;have o:Below w.heap.size w w1:=Gs f h;have s1:W0.heap.size<=w1.heap.size:=h.size;replace q2:=Gm h q2;replace hX:=Za hX;clear h a0 a1 a2 a3 b0 b1 b2 b3 f hG u;obtain⟨Y,U,V,T,O,C,J,I⟩:=q2.out.four;go_wp2_with fail;obtain⟨W5,y,aK,q2,kW,-,s5⟩:=Z7 nx Ax kx cx ny Ay ky cy o Gk q2.out;rw[y];obtain⟨r0,r1,r2,r3,-⟩:=q2.four;refine bodyPost_ret (v:=.tuple #[.agg #[.bool nx,.slice Ax kx cx,.bool ny,.slice Ay ky cy],.int .i64 0]) (by simp[results,Tryz.results111,go_sem,r0,r1,r2,r3]) rfl ?_;exact FY
theorem Ztf(k:Nat):Qa k (Value.slice none 0 0)=Zan (Qa k Za0):=by
 rw[Zcn,List.map_replicate];rfl
theorem Zma(k:Nat):madeCells (Value.agg #[.bool false,.slice none 0 0,.bool false,.slice none 0 0]).cells (k*4)=Z0 (Qa k Zau):=by
 apply Array.toList_inj.1;show (madeCells #[.bool false,.slice none 0 0,.bool false,.slice none 0 0] (k*4)).toList=Zo (Qa k Zau);apply Qs;intro i;by_cases h:i<k*4
 ·have he:(Qa k Zau)[i/4]?=some Zau:=by rw[Qm,Gx Gk]
  have hc:=Zfj he;have h4:i%4=0 \/ i%4=1 \/ i%4=2 \/ i%4=3:=Gk
  have hm:(madeCells #[.bool false,.slice none 0 0,.bool false,.slice none 0 0] (k*4)).toList[i]?=some ((#[.bool false,.slice none 0 0,.bool false,.slice none 0 0]:Array Value)[i%4]?.getD default):=by
   unfold madeCells;simp[h]
  rw[hm];rcases h4 with h2|h2|h2|h2;rw[show i/4*4=i by omega]at hc;rw[hc.1,h2];rfl;rw[show i/4*4+1=i by omega]at hc;rw[hc.2.1,h2];rfl;rw[show i/4*4+2=i by omega]at hc;rw[hc.2.2.1,h2];rfl;rw[show i/4*4+3=i by omega]at hc;rw[hc.2.2.2,h2];rfl
 have a1:(Zo (Qa k Zau))[i]?=none:=Qn (by rw[Zq];simp;omega);have a2:(madeCells #[.bool false,.slice none 0 0,.bool false,.slice none 0 0] (k*4)).toList[i]?=none:=Qn (by unfold madeCells;simp;omega);rw[a1,a2]
theorem Zu9{P:Program}(t e:TypeId){i:TypeInfo}(ht:P.underlying t=some (.slice e))(hi:P.info? e=some i)(hz:i.zero=some (.agg #[.bool false,.slice none 0 0,.bool false,.slice none 0 0]))(hs:i.size=4)(hb:i.bytes=64)
    (x:Int) (n:Nat) (hx:x=n) (hn:n<=1000000000000) (W:World) :
    (Instr.makeSlice t (.int .i64 x) (.int .i64 x)).run P W=.ok (.slice (some ⟨W.heap.size,0,none⟩) n n) (W.alloc (.cells (Z0 (Qa n Zau)) e)):=by
 subst hx;have hr:=run_make (P:=P) W t e i _ ht hi hz .i64 .i64 n n Gk Gk (by rw[hb];omega) Gk;simp only[Qt]at hr;rw[hr,hs,Zma]
theorem Zql{P:Program}(t e:TypeId){i:TypeInfo}(ht:P.underlying t=some (.slice e))(hi:P.info? e=some i)(hz:i.zero=some (.slice none 0 0))(hs:i.size=1)(hb:i.bytes=24)
    (x:Int) (n:Nat) (hx:x=n) (hn:n<=1000000000000) (W:World) :
    (Instr.makeSlice t (.int .i64 x) (.int .i64 x)).run P W=.ok (.slice (some ⟨W.heap.size,0,none⟩) n n) (W.alloc (.cells (Z5 (Qa n Za0)) e)):=by
 subst hx;have hr:=run_make (P:=P) W t e i _ ht hi hz .i64 .i64 n n Gk Gk (by rw[hb];omega) Gk;simp only[Qt]at hr;rw[hr,hs,Nat.mul_one]
 have:madeCells (Value.slice none 0 0).cells n=Z5 (Qa n Za0):=by
  apply Array.toList_inj.1;show (madeCells #[.slice none 0 0] n).toList=Zan (Qa n Za0);rw[<- Ztf];apply Qs;intro j;unfold madeCells;by_cases h:j<n;simp[h,Nat.mod_one];simp[h]
 rw[this]
section
variable{P:Program}(w:World)
theorem Zog(dT sT ty elem:TypeId)(i:TypeInfo)(g o dLen dCap:Nat)(a:Addr)(sLen sCap:Nat)(cur:Array Value)(t:TypeId)(cs:List Value)
    (hu:P.underlying dT=some (.slice elem)) (hi:P.info? elem=some i) (hg:w.heap[g]?=some (.cells cur t (0,0))) (hn:cs.length=Qy sLen dLen*i.size)
    (hsrc:∀ j v,cs[j]?=some v->w.cell? (a.add j)=some v) (hfit:o+cs.length<=cur.size) (h1:∀ v ∈ cs,v.oneCell'=true) :
    (Builtin.copy_ #[dT,sT] ty #[.slice (some ⟨g,o,none⟩) dLen dCap,.slice (some a) sLen sCap]).run P w =
     .ok (goInt (Qy sLen dLen)) (w.setRow g (cur.toList.take o++cs++cur.toList.drop (o+cs.length)).toArray):=by
 have hl:=run_loadCells_list (P:=P) w a cs hsrc;have e:=run_storeCells_at P g o t cs 0 cur w hg (by simpa using hfit) h1;simp[Builtin.copy_,run_underlying hu,Builtin.lenOf,Builtin.firstCells,sizeOf,typeInfo,hi,<- hn,hl,e]
theorem Ziu(t ty e:TypeId)(i:TypeInfo)(hu:P.underlying t=some (.slice e))(hi:P.info? e=some i)(hs:i.size=4){tF:TypeId}{g k d dc:Nat}{es:List FE}(hb:Blk w g tF (Z0 es))
    (B:Nat) (A:Option Addr) (m c:Nat) (fs:List FE) (hr:Reads w B 4 A m (Zo fs)) (hm:fs.length=m) (hm0:0<m) (hd:m<=d) (hk:k+m<=es.length) :
    (Builtin.copy_ #[t,t] ty #[.slice (some ⟨g,k*4,none⟩) d dc,.slice A m c]).run P w=.ok (goInt m) (w.setRow g (Z0 (es.take k++fs++es.drop (k+m)))):=by
 obtain⟨ad,rfl,_,hc⟩:=hr.2 hm0;have hl:(Zo fs).length=m*4:=by rw[Zq,hm]
 have:=Zog (P:=P) w t t ty e i g (k*4) d dc ad m c _ tF (Zo fs) hu hi hb (by rw[hl,hs,show Qy m d=m from Qi hd]) hc
  (by rw[hl];show k*4+m*4<=(Z0 es).size;unfold Z0;simp only[List.size_toArray];rw[Zq];omega) (Zjk fs)
 rw[this,show Qy m d=m from Qi hd];congr 2;unfold Z0
 have e1:Zo (es.take k)=(Zo es).take (k*4):=by
  have h1:Zo es=Zo (es.take k)++Zo (es.drop k):=by rw[<- Zaj,Qo]
  have h2:(Zo (es.take k)).length=k*4:=by rw[Zq,Qv,Qi Gk]
  rw[h1,<- h2,List.take_left]
 have e2:Zo (es.drop (k+m))=(Zo es).drop (k*4+m*4):=by
  have h1:Zo es=Zo (es.take (k+m))++Zo (es.drop (k+m)):=by rw[<- Zaj,Qo]
  have h2:(Zo (es.take (k+m))).length=k*4+m*4:=by rw[Zq,Qv,Qi Gk];omega
  rw[h1,<- h2,List.drop_left]
 rw[hl,Zaj,Zaj,e1,e2]
end
theorem Kept.setRow{G:Nat->Prop}{w0 w:World}(h:Kept G w0 w){g:Nat}(hg:G g \/ w0.heap.size<=g)(cs:Array Value):Kept G w0 (w.setRow g cs):=
 ⟨h.os,h.tape,h.output,by simp[World.setRow];exact h.size,λk hk hG=>(setRow_other w g k cs (by rcases hg with hg|hg;exact λe=>hG (e▸hg);omega)).trans (h.block k hk hG)⟩
theorem Znz{w:World}{g:Nat}{t:TypeId}{cs cs':Array Value}(h:Blk w g t cs):Blk (w.setRow g cs') g t cs':=setRow_heap w g _ _ t _ h
theorem Znh{w:World}{g k:Nat}{t:TypeId}{cs cs':Array Value}(h:Blk w k t cs)(hne:k≠g):Blk (w.setRow g cs') k t cs:=(setRow_other w g k _ hne).trans h
theorem FL.readsK{w:World}{A:Option Addr}{n c:Nat}{qs:List Rat}(h:FL w A n c qs){go:Nat}{t:TypeId}{rs:List RS}(hb:Blk w go t (Z5 rs)) :
    ∃ fs:List FE,fs.length=n/\fs.map FE.q=qs/\∀ w',Kept (λk=>k=go) w w'->Reads w' w'.heap.size 4 A n (Zo fs)/\∀ e ∈ fs,e.in_ w':=by
 obtain⟨es,h1,h2,h3,h4,h5,h6⟩:=h;refine⟨es,h1,h5,λw' hk=>?_⟩;have hG:∀ k,k=go->∃ t cs,Blk w k t cs/\NoLimb cs:=λk hk=>⟨t,Z5 rs,by rw[hk];exact hb,Za7 _⟩;refine⟨⟨by rw[Zq,h1],λhn=>?_⟩,λe he=>⟨hk.wd (h4 e he).1 hG,hk.wd (h4 e he).2 hG⟩⟩;obtain⟨g,o,e1,hc⟩:=h6 hn
 have y:g≠go:=λe=>by
  have h0:=(hc 0 es[0] (Qg Gk)).1;rw[e,hb.cell]at h0;unfold Z5 at h0;rw[Zcn]at h0;simp only[List.getElem?_toArray,Qu]at h0;cases hx:rs[o+0*4]? with
  | none=>rw[hx]at h0;cases h0
  | some r=>rw[hx]at h0;cases h0
 have f:∀ (i:Nat) (v:Value),w.cell? ⟨g,i,none⟩=some v->w'.cell? ⟨g,i,none⟩=some v:=λi v hv=>by
  rw[<- hv];exact World.cell?_of_block (hk.block g (Zn hv) y)
 refine⟨⟨g,o,none⟩,e1,?_,λj u hu=>?_⟩
 ·have:=(hc 0 es[0] (Qg Gk)).1
  exact Qk (Zn this) hk.size
 rw[Zg]
 have hj:j<es.length*4:=by
  have:=(List.getElem?_eq_some_iff.1 hu).1
  rwa [Zq]at this
 have he:=Qg (show j/4<es.length by omega);have hg:=Zfj he;have hm:=hc (j/4) _ he;have h4:j%4=0 \/ j%4=1 \/ j%4=2 \/ j%4=3:=Gk;rcases h4 with h2|h2|h2|h2;rw[show j/4*4=j by omega]at hg hm;rw[hg.1]at hu;cases hu;exact f _ _ hm.1;rw[show j/4*4+1=j by omega]at hg hm;rw[hg.2.1]at hu;cases hu;exact f _ _ hm.2.1;rw[show j/4*4+2=j by omega]at hg hm;rw[hg.2.2.1]at hu;cases hu;exact f _ _ hm.2.2.1;rw[show j/4*4+3=j by omega]at hg hm;rw[hg.2.2.2]at hu;cases hu;exact f _ _ hm.2.2.2
theorem MatB.mfl{tS tF:TypeId}{w:World}{go n c:Nat}{L:List RF}(h:MatB tS tF w go L)(hl:L.length=n)(hc:n<=c)(hm:c<=maxLen):MFL w (some ⟨go,0,none⟩) n c (L.map RF.q):=by
 refine⟨by rw[Qe,hl],hc,hm,λ_=>⟨go,0,rfl,λk q hq=>?_⟩⟩;rw[Qu]at hq;obtain⟨r,hr,rfl⟩:=Option.map_eq_some_iff.1 hq;have h1:=(h.cell hr).1;obtain⟨h2,h3,h4⟩:=h.row hr;exact⟨_,_,_,by rw[Nat.zero_add];exact h1,h2.fl h3 h4⟩
theorem Zw4(F:FuncId)(cap:Value)(A:Option Addr)(n c m s:Nat)(Q:List (List Rat))(S:Nat->List Rat)(w:World)(h:MFL w A n c Q)(hn9:n<=900)(hm:∀ i,i<n->(Q[i]?.getD []).length=m)(hm0:0<m)(hm9:m<=900)(hs0:0<s)(hs9:s<=900)(hS:∀ i,i<n->(S i).length=s)
    (hcf:∀ (x:Value) (W:World),(callFunc F #[x,cap]).run Tryz.prog W=.ok (.enter F #[x,cap]) W)
    (hF:∀ (W:World) (i:Nat),Below w.heap.size w W->i<n->Calls Tryz.prog F #[.int .i64 i,cap] W λe W'=>∃ A c,e=.returned (.slice A s c)/\Below W.heap.size W W'/\FL W' A s c (S i)) :
    Calls Tryz.prog 83 #[.slice A n c,.func (.func F) #[] #[cap]] w λe w'=>∃ go L,e=.returned (.slice (some ⟨go,0,none⟩) n n)/\Below w.heap.size w w'/\w.heap.size<=go/\L.length=n/\MatB 35 41 w' go L/\L.map RF.q=(Qw n).map λi=>Q[i]?.getD []++S i:=by
 obtain⟨iF,hi,e8,b8,e5⟩:=info_parts Zfl;obtain⟨iS,ki,e7,e9,f3⟩:=info_parts Zkk;have hl:=Za h.1;have f5:=h.2.1;have e1:=h.2.2.1;unfold maxLen at e1;have f4:(35:TypeId)≠41:=Gj;replace hm:=Za hm;replace h:=Za h;replace hS:=Za hS;replace hF:=Za hF;obtain⟨W0,J⟩:=Gz (w.alloc (.cells (Z5 (Qa n Za0)) 35));obtain⟨go,C⟩:=Gz w.heap.size;have q0:Hid (Blk W0 go 35 (Z5 (Qa n Za0))):=Za (by rw[<- J,<- C];exact Blk.new _ _ _);have c9:Hid (Below w.heap.size w W0):=Za (by rw[<- J];exact(Qc _ _).alloc (Qd _) _);have s0:Hid (W0.heap.size=go+1):=Za (by rw[<- J,<- C];simp);have d7:=Zql (P:=Tryz.prog) 25 35 Tryz.underlying25 ki e7 e9 f3 (n:Int) n rfl Gk;go_in;go_wp2_with fail;(try rw[J]);(try rw[C]);replace C:=Za C;clear J d7
 go_loopg [14] n (λk iv wr=>∃ (i:Nat) (L:List RF),i+k=n/\iv=.int .i64 i/\Hid (L.length=i)/\Blk wr go 35 (Z5 (L.map RF.rs++Qa (n-i) Za0))/\Hid (∀ r ∈ L,(FOwn 41 wr r.g r.q/\r.q.length<=r.c/\r.c<=maxLen)/\W0.heap.size<=r.g)/\Hid ((L.map RF.g).Nodup)/\Hid (L.map RF.q=(Qw i).map λi=>Q[i]?.getD []++S i)/\Kept (λk=>k=go) W0 wr)
 case atStart=>exact⟨0,[],by omega,rfl,Za rfl,q0.out,Za (λr hr=>(by cases hr)),Za List.nodup_nil,Za rfl,Kept.refl _ _⟩
 case round =>
  obtain⟨i,L,f6,rfl,u,y,f,d8,d9,hK⟩:=hrel;have b7:Below w.heap.size w wr:=c9.out.trans (hK.to_below (λk hk=>by rw[hk,C.out];exact Qd _) c9.out.size);cases gk with
  | zero =>
   obtain rfl:i=n:=Gk;have t1:decide ((i:Int)<(i:Int))=false:=Gh;replace y:=Za y;go_wp2_with fail;go_ret;refine⟨go,L,rfl,b7,by rw[C.out];exact Qd _,u.out,⟨⟨_,y.out⟩,λr hr=>(f.out r hr).1,?_⟩,d9.out⟩;refine List.nodup_cons.2 ⟨λhmm=>?_,d8.out⟩;obtain⟨r,hr,e⟩:=List.mem_map.1 hmm;have:=(f.out r hr).2;have:=s0.out;omega
  | succ j =>
   obtain rfl:j=n-(i+1):=Gk;have Y:i<n:=Gk;have t1:decide ((i:Int)<(n:Int))=true:=Gv Gk;have bi:(i:Int)<(n:Int):=Gk;obtain⟨ga,oa,A1,n1,c1,rfl,k0,a7⟩:=(h.out.below b7).at_ Y;have e3:n1=m:=by rw[<- a7.len];exact hm.out i Y
   subst e3;replace a7:=Za a7;replace y:=Za y;go_wp2_with fail;refine(hF.out wr i b7 Y).mono ?_;rintro e w1 ⟨As,cs,rfl,a3,c8⟩;have o:=Zc a3 y.out;obtain⟨fs,a0,d4,c2⟩:=(a7.out.below a3).readsK o;obtain⟨gs,d3,c5,b4⟩:=c8.readsK o;obtain⟨gN,e4⟩:=Gz w1.heap.size;obtain⟨W2,c3⟩:=Gz (w1.alloc (.cells (Z0 (Qa (n1+s) Zau)) 41));have c0:Below w1.heap.size w1 W2:=by rw[<- c3];exact(Qc _ _).alloc (Qd _) _
   have e0:Blk W2 gN 41 (Z0 (Qa (n1+s) Zau)):=by rw[<- c3,<- e4];exact Blk.new _ _ _
   have I:=Zc c0 o;have c7:=o.lt;have e2:go<gN:=Gk;have x0:=I.cell i;have x1:=I.frozen i;rw[show (Z5 (L.map RF.rs++Qa (n-i) Za0))[i]?=some (.slice none 0 0) from Zb7 (e:=Za0) (by rw[List.getElem?_append_right (by rw[Qe,u.out];exact Qd _),Qe,u.out,Nat.sub_self,Qm,Gx Gk])]at x0;have e6:(Q[i]?.getD []++S i).length=n1+s:=by rw[Qq,hm.out i Y,hS.out i Y]
   obtain⟨W3,b6⟩:∃ X,W2.setCell ⟨go,i,none⟩ (.slice (some ⟨gN,0,none⟩) (n1+s) (n1+s))=X:=⟨_,rfl⟩
   have a1:(L.map RF.rs++Qa (n-i) Za0).set i ⟨some ⟨gN,0,none⟩,n1+s,n1+s⟩=(L ++ [RF.mk gN (n1+s) (Q[i]?.getD []++S i)]).map RF.rs++Qa (n-(i+1)) Za0:=by
    rw[List.set_append_right _ _ (by rw[Qe,u.out];exact Qd _),Qe,u.out,Nat.sub_self,show n-i=n-(i+1)+1 by omega,List.replicate_succ,List.set_cons_zero,Qf,List.append_assoc];simp only[List.map_cons,List.map_nil,RF.rs,e6];rfl
   have O:Blk W3 go 35 (Z5 ((L ++ [RF.mk gN (n1+s) (Q[i]?.getD []++S i)]).map RF.rs++Qa (n-(i+1)) Za0)):=by
    have:=I.set_ i (.slice (some ⟨gN,0,none⟩) (n1+s) (n1+s));rw[Zdw ⟨some ⟨gN,0,none⟩,n1+s,n1+s⟩,b6,a1]at this;exact this
   have a4:Blk W3 gN 41 (Z0 (Qa (n1+s) Zau)):=by rw[<- b6];exact e0.far (by show gN≠go;omega) _
   have b5:Kept (λk=>k=go) w1 W3:=by
    rw[<- b6];exact Kept.set_ (G:=λk=>k=go) (Kept.of_below c0) (p:=⟨go,i,none⟩) (Or.inl rfl) _
   have U:∀ W,Blk W go 35 (Z5 ((L ++ [RF.mk gN (n1+s) (Q[i]?.getD []++S i)]).map RF.rs++Qa (n-(i+1)) Za0))->W.cell? ⟨go,i,none⟩=some (.slice (some ⟨gN,0,none⟩) (n1+s) (n1+s)):=λW hW=>by
    rw[hW.cell];refine Zb7 (e:=⟨some ⟨gN,0,none⟩,n1+s,n1+s⟩) ?_;rw[<- a1,List.getElem?_set_self (by simp[u.out];omega)]
   have x3:=U W3 O;have b2:=λty=>Ziu (P:=Tryz.prog) W3 35 ty 41 iF Tryz.underlying35 hi b8 a4 W3.heap.size A1 n1 c1 fs (c2 W3 b5).1 a0 hm0 (d:=n1+s) (dc:=n1+s) (k:=0) Gk Gh;rw[Nat.zero_mul,List.take_zero,List.nil_append,Nat.zero_add,List.drop_replicate,Nat.add_sub_cancel_left]at b2;obtain⟨W4,b0⟩:=Gz (W3.setRow gN (Z0 (fs++Qa s Zau)));rw[b0]at b2;have V:Blk W4 gN 41 (Z0 (fs++Qa s Zau)):=by rw[<- b0];exact Znz a4
   have a5:=show Blk W4 go 35 _ by rw[<- b0];exact Znh O Gk
   have b9:Kept (λk=>k=go) w1 W4:=by rw[<- b0];exact b5.setRow (.inr Gk) _
   have x4:=U W4 a5;have b1:=λty=>Ziu (P:=Tryz.prog) W4 35 ty 41 iF Tryz.underlying35 hi b8 V W4.heap.size As s cs gs (b4 W4 b9).1 d3 hs0 (d:=s) (dc:=s) (k:=n1) (Qd _) (by simp[a0]);rw[List.take_left' a0,show n1+s=(fs++Qa s Zau).length by simp[a0],List.drop_length,Qx]at b1;obtain⟨W5,a8⟩:=Gz (W4.setRow gN (Z0 (fs++gs)));rw[a8]at b1;have b3:Blk W5 gN 41 (Z0 (fs++gs)):=by rw[<- a8];exact Znz V
   have T:=show Blk W5 go 35 _ by rw[<- a8];exact Znh a5 Gk
   have a6:Kept (λk=>k=go) w1 W5:=by rw[<- a8];exact b9.setRow (.inr Gk) _
   have d7:=Zu9 (P:=Tryz.prog) 35 41 Tryz.underlying35 hi e8 b8 e5 ((n1:Int)+(s:Int)) (n1+s) Gk Gk;have bx:(i:Int)<(n:Int):=bi
   have d0:FOwn 41 W5 gN (Q[i]?.getD []++S i):=⟨fs++gs,[],by rw[Qx];exact b3,λe he=>by
    rcases List.mem_append.1 he with he|he;exact(c2 W5 a6).2 e he;exact(b4 W5 a6).2 e he,by rw[Qf,d4,c5]⟩
   have d5:∀ k,k=go->∃ t cs,Blk wr k t cs/\NoLimb cs:=λk hk=>⟨_,_,hk▸y.out,Za7 _⟩;have a2:Kept (λk=>k=go) wr W5:=(Kept.of_below a3).trans (a6.mono (λk _ h=>h))
   have a9:Hid (∀ r ∈ L ++ [RF.mk gN (n1+s) (Q[i]?.getD []++S i)],(FOwn 41 W5 r.g r.q/\r.q.length<=r.c/\r.c<=maxLen)/\W0.heap.size<=r.g):=Za (λr hr=>by
    rcases List.mem_append.1 hr with hr|hr
    ·obtain⟨⟨r1,r2⟩,r3⟩:=f.out r hr
     have:=s0.out;exact⟨⟨r1.keptG a2 Gk d5,r2⟩,r3⟩
    rw[Qr]at hr;subst hr;have h7:=hK.size;have h8:=a3.size;exact⟨⟨d0,by show (Q[i]?.getD []++S i).length<=n1+s;omega,by show n1+s<=maxLen;unfold maxLen;omega⟩,by show W0.heap.size<=gN;omega⟩)
   have d6:Hid (((L ++ [RF.mk gN (n1+s) (Q[i]?.getD []++S i)]).map RF.g).Nodup):=Za (by
    rw[Qf,List.nodup_append];refine⟨d8.out,by simp,λa ha b hb=>?_⟩;obtain⟨r,hr,rfl⟩:=List.mem_map.1 ha;simp only[List.map_cons,List.map_nil,Qr]at hb;have h6:=(f.out r hr).1.1.lt;have h7:=a3.size;omega)
   have c6:Hid ((L ++ [RF.mk gN (n1+s) (Q[i]?.getD []++S i)]).map RF.q=(Qw (i+1)).map λi=>Q[i]?.getD []++S i):=Za (by
    rw[Qf,d9.out,List.range_succ,Qf];rfl)
   have f0:Hid (Kept (λk=>k=go) W0 W5):=Za (hK.trans a2);have c4:Hid ((L ++ [RF.mk gN (n1+s) (Q[i]?.getD []++S i)]).length=i+1):=Za (by rw[Qq,u.out];rfl);replace T:=Za T;clear c2 b4 a0 d4 d3 c5 o c0 e0 I a1 O a4 b5 U V a5 b9 b3 a6 d0 d5 a2 c8 c7;go_wp2_with fail
   go_roundg (n-(i+1))
   case measure=>omega
   case rel=>exact⟨i+1,L ++ [RF.mk gN (n1+s) (Q[i]?.getD []++S i)],by omega,by go_num,c4,T.out,a9,d6,c6,f0.out⟩
theorem BdR.mono{C D C' D' m:Nat}{R:List (List Rat)}(h:BdR C D m R)(hC:C<=C')(hD:D<=D'):BdR C' D' m R:=⟨h.1,λi j=>⟨Qk (h.2 i j).1 hC,Qk (h.2 i j).2 hD⟩⟩
theorem Zmy{C D C' D' m:Nat}(hC:C<=C')(hD:D<=D'):∀ (f c r:Nat) (R:List (List Rat)),okR C D m f c r R->okR C' D' m f c r R
 | 0,_,_,_,h=>BdR.mono h hC hD
 | f+1,c,r,R,h=>⟨h.1.mono hC hD,h.2.imp id (λ⟨h1,h2⟩=>⟨λe=>Zmy hC hD f _ _ _ (h1 e),λe=>Zmy hC hD f _ _ _ (h2 e)⟩)⟩
def n0R(rs:List RX):Nat:=(rs[0]?.map RX.n).getD 0
def Zhc(k:Nat)(r:RX):Bool:=decide (r.n=k) && Zet r.es
def Zhw(rs:List RX):Bool:=decide (12<rs.length) || rs.any RX.long
def Zgz(rs:List RX):Int:=if Zhw rs=true then 4 else if n0R rs=0 then 8 else if rs.all (Zhc (n0R rs))=true then 0 else 8
def sqE(rs:List RX):Int:=if Zgz rs=0 then (if rs.length=n0R rs then 0 else 8)else Zgz rs
theorem Zo7{rs:List RX}(h:Zhw rs=true):Zgz rs=4:=by unfold Zgz;rw[Gx h]
theorem Zpb{rs:List RX}(h:Zhw rs=false)(h0:n0R rs=0):Zgz rs=8:=by unfold Zgz;rw[Gw (by simp[h]),Gx h0]
theorem IX{G:Prop}(h:G:=by
 rw[Gw (by simp[h]),Gw h0,Gw];intro e;rw[List.all_eq_true]at e;have:=e r hr;rw[hb]at this;cases this):G:=h
theorem Z0n{rs:List RX}(h:Zhw rs=false)(h0:n0R rs≠0){r:RX}(hr:r ∈ rs)(hb:Zhc (n0R rs) r=false):Zgz rs=8:=by
 unfold Zgz;exact IX
theorem matE_ok{rs:List RX}(h:Zhw rs=false)(h0:n0R rs≠0)(ha:rs.all (Zhc (n0R rs))=true):Zgz rs=0:=by
 unfold Zgz;rw[Gw (by simp[h]),Gw h0,Gx ha]
theorem Zzm{rs:List RX}{r:RX}(h:rs[0]?=some r):n0R rs=r.n:=by unfold n0R;rw[h];rfl
theorem Fl{G:Prop}(h:G:=by
 clear h;go_in;go_wp2_with fail;refine(hC.out _ (by first|exact Below.refl _ _|exact Zf (Below.refl _ _) _)).mono ?_;rintro e w1 ⟨rfl,ae⟩;go_wp2_with fail;go_ret;exact⟨rfl,by first|exact ae|exact(Zf (Below.refl _ _) _).trans ae⟩):G:=h
theorem EB{G:Prop}(h:G:=by
 go_wp2_with fail;go_ret;exact⟨rfl,by first|exact Below.refl _ _|exact Zf (Below.refl _ _) _⟩):G:=h
theorem Zvp(A:Option Addr)(n c:Nat)(rs:List RX)(w:World)(h:MXL w A n c rs)(E:Int)(hE:Zgz rs=E) :
    Calls Tryz.prog 126 #[.slice A n c] w λe w'=>e=.returned (.int .i64 E)/\Below w.heap.size w w':=by
 have hl:=h.1;have a5:=h.2.1;have V:=h.2.2.1;unfold maxLen at V;replace hE:=Za hE;by_cases h12:12<n
 ·have t1:decide ((12:Int)<(n:Int))=true:=Gv Gk
  obtain rfl:E=4:=by rw[<- hE.out];exact Zo7 (by unfold Zhw;rw[hl,Gv h12];rfl)
  go_in;exact EB
 have t1:decide ((12:Int)<(n:Int))=false:=Gu Gk;obtain⟨x,hx⟩:=Gz (rs.any RX.long);have y:Zhw rs=x:=by unfold Zhw;rw[hl,Gu h12,hx];rfl
 have hC:=Za (λW1 (hb:Below w.heap.size w W1)=>Zt7 A n c rs W1 (h.below hb) x hx);clear hx;replace y:=Za y;cases x
 case true =>
  obtain rfl:E=4:=by rw[<- hE.out];exact Zo7 y.out
  exact Fl
 by_cases hn0:n=0
 ·subst hn0
  obtain rfl:E=8:=by
   rw[<- hE.out];have:rs=[]:=Qj hl;exact Zpb y.out (by rw[this];rfl)
  exact Fl
 have t2:((n:Int) == 0)=false:=by simp;omega
 have a2:decide (n=0)=false:=by simpa using hn0
 obtain⟨g,o,r0,rfl,O,c0,U⟩:=h.at_ (k:=0) Gk;have T:=U.nlen;unfold maxLen at T;have f:=Zzm O;clear O U;rw[Nat.add_zero]at c0;have a4:=Zn c0;by_cases hz:r0.n=0
 ·obtain rfl:E=8:=by rw[<- hE.out];exact Zpb y.out (by rw[f,hz])
  have t3:((r0.n:Int) == 0)=true:=by simp[hz]
  have Y:decide (r0.n=0)=true:=by simpa using hz
  replace h:=Za h;replace f:=Za f;replace hz:=Za hz;go_in;go_wp2_with fail;refine(hC.out _ (by first|exact Qc _ _|exact Zf (Qc _ _) _)).mono ?_;rintro e w1 ⟨rfl,ae⟩;have u:Below w.heap.size w w1:=by first|exact ae|exact(Zf (Qc _ _) _).trans ae
  have k0:=Zb u c0;clear c0;go_wp2_with fail;go_ret;exact⟨rfl,u⟩
 have t3:((r0.n:Int) == 0)=false:=by simpa using hz
 have Y:decide (r0.n=0)=false:=by simpa using hz
 replace h:=Za h;replace hl:=Za hl;replace f:=Za f;replace hz:=Za hz;go_in;go_wp2_with fail;refine(hC.out _ (by first|exact Qc _ _|exact Zf (Qc _ _) _)).mono ?_;rintro e w1 ⟨rfl,ae⟩;have u:Below w.heap.size w w1:=by first|exact ae|exact(Zf (Qc _ _) _).trans ae
 have k0:=Zb u c0;clear ae hC;go_wp2_with fail
 go_loopw [24] (λiv wr=>∃ i:Nat,i<=n/\iv=.int .i64 i/\Hid (∀ j e,j<i->rs[j]?=some e->Zhc (n0R rs) e=true)/\Below w.heap.size w wr) (λiv _=>n-(intOf iv).toNat)
 case atStart=>exact⟨0,Nat.zero_le _,rfl,Za (λj e hj=>by omega),(by first|exact u|exact Zf u _)⟩
 case round =>
  clear k0 u;obtain⟨i,a3,rfl,au,ah⟩:=hrel;have k0:=Zb ah c0;clear c0;by_cases hin:i<n
  case neg =>
   obtain rfl:n=i:=Gk;have a0:decide ((n:Int)<(n:Int))=false:=Gh
   obtain rfl:E=0:=by
    rw[<- hE.out];refine matE_ok y.out (by rw[f.out];exact hz.out) ?_;exact Ek
   go_wp2_with fail;go_ret;exact⟨rfl,ah⟩
  have a0:decide ((i:Int)<(n:Int))=true:=Gv Gk;obtain⟨g',o',r,hA,he,c1,hL⟩:=(h.out.below ah).at_ hin;cases hA;have a1:=hL.nlen;unfold maxLen at a1;have bad:Zhc (n0R rs) r=false->E=8:=λhf=>by rw[<- hE.out];exact Z0n y.out (by rw[f.out];exact hz.out) (List.mem_of_getElem? he) hf
  have good:Zhc (n0R rs) r=true->Hid (∀ j e,j<i+1->rs[j]?=some e->Zhc (n0R rs) e=true):=λhf=>Za (λj e' hj he'=>by
   rcases Nat.lt_or_ge j i with h'|h';exact au.out j e' h' he';obtain rfl:j=i:=Gk;rw[he]at he';cases he';exact hf)
  replace bad:=Za bad;replace good:=Za good;replace he:=Za he;by_cases hq:r.n=r0.n
  case neg =>
   have t4:((r.n:Int) == (r0.n:Int))=false:=beq_eq_false_iff_ne.2 Gk;have t5:((r.n:Int) != (r0.n:Int))=true:=by rw[bne,t4];rfl
   have J:decide (r.n=r0.n)=false:=by simpa using hq
   obtain rfl:E=8:=bad.out (by unfold Zhc;rw[f.out,J];rfl);clear hL;exact EF
  have t4:((r.n:Int) == (r0.n:Int))=true:=beq_iff_eq.2 Gk;have t5:((r.n:Int) != (r0.n:Int))=false:=by rw[bne,t4];rfl
  have J:decide (r.n=r0.n)=true:=by simpa using hq
  obtain⟨x,hx⟩:=Gz (Zet r.es);have hC:=Za (λW1 (hb:Below wr.heap.size wr W1)=>Zrf r.A r.n r.c r.es W1 (hL.below hb) x hx);replace hx:=Za hx;replace hq:=Za hq;clear hL;cases x
  ·obtain rfl:E=8:=bad.out (by unfold Zhc;rw[hx.out];simp)
   go_wp2_with fail;refine(hC.out _ (by first|exact Qc _ _|exact Zf (Qc _ _) _)).mono ?_;rintro e' w2 ⟨rfl,C⟩;go_wp2_with fail;go_ret;exact⟨rfl,(by first|exact Gs ah C|exact(Zf ah _).trans (C.mono ah.size))⟩
  have I:=good.out (by unfold Zhc;rw[f.out,J,hx.out];rfl);go_wp2_with fail;refine(hC.out _ (by first|exact Qc _ _|exact Zf (Qc _ _) _)).mono ?_;rintro e' w2 ⟨rfl,C⟩;go_wp2_with fail
  go_roundw
  case rel=>exact⟨i+1,by omega,by go_num,I,(by first|exact Gs ah C|exact(Zf ah _).trans (C.mono ah.size))⟩
  case measure=>simp[intOf];omega
theorem Zsi(A:Option Addr)(n c:Nat)(rs:List RX)(w:World)(h:MXL w A n c rs)(E:Int)(hE:sqE rs=E) :
    Calls Tryz.prog 80 #[.slice A n c] w λe w'=>e=.returned (.int .i64 E)/\Below w.heap.size w w':=by
 have hl:=h.1;have U:=h.2.1;have I:=h.2.2.1;unfold maxLen at I;obtain⟨F,hF⟩:=Gz (Zgz rs);go_in;go_wp2_with fail;refine(Zvp A n c rs w h F hF).mono ?_;rintro e w1 ⟨rfl,f⟩;unfold sqE at hE;rw[hF]at hE;by_cases hF0:F=0
 case neg =>
  have t1:(F == 0)=false:=by simpa using hF0
  have T:decide (F=0)=false:=by simpa using hF0
  rw[Gw hF0]at hE;subst hE;replace hF:=Za hF;go_wp2_with fail;go_ret;exact⟨rfl,f⟩
 subst hF0;rw[Gx rfl]at hE
 have O:0<n:=by
  rcases Nat.eq_zero_or_pos n with h0|h0
  ·exfalso
   have:rs=[]:=Qj Gk;subst this;exact absurd hF Gj
  exact h0
 obtain⟨g,o,r0,rfl,u,c0,C⟩:=h.at_ (k:=0) O;have y:=C.nlen;unfold maxLen at y;rw[Zzm u,hl]at hE;rw[Nat.add_zero]at c0;replace c0:=Zb f c0;replace u:=Za u;replace hF:=Za hF;clear C h;by_cases hq:n=r0.n
 ·have t2:((n:Int) == (r0.n:Int))=true:=beq_iff_eq.2 Gk
  have t5:((n:Int) != (r0.n:Int))=false:=by rw[bne,t2];rfl
  have J:decide (n=r0.n)=true:=by simpa using hq
  rw[Gx hq]at hE;subst hE;replace hq:=Za hq;go_wp2_with fail;go_ret;exact⟨rfl,f⟩
 have t2:((n:Int) == (r0.n:Int))=false:=beq_eq_false_iff_ne.2 Gk;have t5:((n:Int) != (r0.n:Int))=true:=by rw[bne,t2];rfl
 have J:decide (n=r0.n)=false:=by simpa using hq
 rw[Gw hq]at hE;subst hE;replace hq:=Za hq;go_wp2_with fail;go_ret;exact⟨rfl,f⟩
