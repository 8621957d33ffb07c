/- Package frac: reduce with a negative denominator, both, -/
import Derived.Deep.LoopGhost
import Derived.Test.YtdkhcplnoomcbaaGreatDoorZb07
set_option maxRecDepth 100000
set_option maxHeartbeats 4000000
set_option linter.unusedSimpArgs false
set_option linter.unusedVariables false
namespace Go.Proofs.YtdkhcplnoomcbaaGreatDoor
open Go.RowKit
open Nat renaming le_refl→Qa,le_trans→Qe,mul_le_mul→Qn,add_sub_cancel'→Qq,gcd→Qv,lt_or_gt_of_ne→Qw,gcd_dvd_right→Qx,le_add_right→Qy,gcd_pos_of_pos_left→QB,zero_le→QD,lt_irrefl→QG,lt_succ_self→QP,div_le_self→QT,not_lt_zero→QV
open List renaming getElem?_eq_getElem→Qb,getElem?_map→Qd,getElem?_eq_none→Qf,replicate→Qg,getElem?_range→Ql,length_append→Qm,range→Qp,getElem?_replicate→QA,take_left→QE,ext_getElem?→QJ,append_assoc→QK,getElem?_set→QL,getElem_mem→QO,length_map→QR,nil_append→QS
open And renaming intro→Qc
open Option renaming getD_some→Qh,map_some→Qk,getD_none→Qz,map_none→QC
open Builtin renaming zeroCells→Qi
open Act renaming put→Qj
open Rat renaming divInt→Qo,intCast_mul→Qr,intCast_natCast→Qu,divInt_eq_div→QM,natCast_mul→QU
open Ne renaming symm→Qs
open _root_.Array renaming toList_append→Qt,ext_getElem?→QH
open World renaming cell?_of_block→QF
open Int renaming natAbs_natCast→QI
open Bool renaming and_eq_true→QN
open Below renaming refl→QQ
open Blk renaming new→QW
attribute [local go_sem] Zf
theorem Zrf(na:Bool)(A B:Option Addr)(n c m d:Nat)(za zb:Int)(w:World)(ha:Wd w na A n c za)(hb:Wd w true B m d zb)(h0:zb<0) :
    Calls Tryz.prog 101 #[.agg #[.bool na,.slice A n c],.agg #[.bool true,.slice B m d]] w (Ze9 w (Qo za zb)):=by
 have e5:=Zfd ha.small hb.small;have hx:=Zb (Zj9 (a:=za) (b:=zb) Gk);have hy:=Zb (Zj2 (a:=za) (b:=zb) Gk);have a4:=Zb (Znu (a:=za) (b:=zb) Gk);have b8:Zga za zb=-((Qv za.natAbs zb.natAbs:Nat):Int):=by unfold Zga;rw[Gx h0]
 rw[b8]at hx hy a4;have HA:=Zb ha;have HB:=Zb hb;obtain⟨G,hG⟩:=Gz (Qv za.natAbs zb.natAbs);rw[hG]at hx hy a4 e5
 have HGc:Hid (∀ W:World,Wd W na A n c za->Wd W true B m d zb->Calls Tryz.prog 78 #[.agg #[.bool na,.slice A n c],.agg #[.bool true,.slice B m d]] W (ResW W (G:Int))):=λW h1 h2=>by
  have:=Zny na true A B n c m d za zb W h1 h2;rw[hG]at this;exact this
 generalize Qo za zb=R at *;clear ha hb hG b8;have b1:∀ X Y Z:Obj,Below w.heap.size w (((w.alloc X).alloc Y).alloc Z):=λX Y Z=>(((QQ w.heap.size w).alloc (Qa _) _).alloc Gh _).alloc Gg _;have b1:=Zb b1;go_in;go_wp2_with fail;have q0:Blk (((w.alloc (.cells #[.bool na,.slice A n c] 30)).alloc (.cells #[.bool true,.slice B m d] 30)).alloc (.cells #[.bool false,.slice none 0 0,.bool false,.slice none 0 0] 32)) w.heap.size 30 #[.bool na,.slice A n c]:=((QW _ _ _).alloc _).alloc _
 have q1:Blk (((w.alloc (.cells #[.bool na,.slice A n c] 30)).alloc (.cells #[.bool true,.slice B m d] 30)).alloc (.cells #[.bool false,.slice none 0 0,.bool false,.slice none 0 0] 32)) (w.heap.size+1) 30 #[.bool true,.slice B m d]:=by
  have:=(QW (w.alloc (.cells #[.bool na,.slice A n c] 30)) 30 #[.bool true,.slice B m d]).alloc (.cells #[.bool false,.slice none 0 0,.bool false,.slice none 0 0] 32);exact Es
 have q2:Blk (((w.alloc (.cells #[.bool na,.slice A n c] 30)).alloc (.cells #[.bool true,.slice B m d] 30)).alloc (.cells #[.bool false,.slice none 0 0,.bool false,.slice none 0 0] 32)) (w.heap.size+1+1) 32 #[.bool false,.slice none 0 0,.bool false,.slice none 0 0]:=by
  have:=QW ((w.alloc (.cells #[.bool na,.slice A n c] 30)).alloc (.cells #[.bool true,.slice B m d] 30)) 32 #[.bool false,.slice none 0 0,.bool false,.slice none 0 0];exact Es
 refine(HGc.out _ (((HA.out.alloc _).alloc _).alloc _) (((HB.out.alloc _).alloc _).alloc _)).mono ?_;rintro e w1 ⟨C,ng,Ag,kg,cg,code,rfl,hR⟩;rcases hR with ⟨-,rfl,b4⟩|⟨e2,-⟩
 case inr=>exact absurd e2 Gk
 have E:Below w.heap.size w w1:=(b1.out _ _ _).trans (C.mono Gg);have b6:=Zb (HA.out.below E);have e0:=Zb (HB.out.below E);have s1:w.heap.size+1+1<w1.heap.size:=by have:=C.size;simp at this;omega
 replace q0:=Zc C q0;replace q1:=Zc C q1;replace q2:=Zc C q2;obtain⟨J,U,-,-⟩:=q0.two;obtain⟨bS,bU,-,-⟩:=q1.two;have hq:=Zb (Qc q0 (Qc q1 q2));clear q0 q1 q2 C;go_wp2_with fail;refine(Zdo ng Ag kg cg _).mono ?_;rintro e w2 ⟨rfl,h⟩;have c7:Below w.heap.size w w2:=Gs E h;have d3:=Zb (b6.out.below h);have c9:=Zb (e0.out.below h);have d8:=Zb (b4.below h);have s2:w.heap.size+1+1<w2.heap.size:=by have:=h.size;omega
 have q0:=Zc h hq.out.1;have q1:=Zc h hq.out.2.1;have q2:=Zc h hq.out.2.2;clear J U bS bU E h b4 b6 e0 hq;obtain⟨W3,a2,c4,q3,kW,kB,s3⟩:=Zap 30 #[.bool ng,.slice Ag kg cg] c7 Gk;replace q0:=kB _ _ _ q0;replace q1:=kB _ _ _ q1;replace q2:=kB _ _ _ q2;have d6:=Zb (kW _ _ _ _ _ d3.out);have d7:=Zb (kW _ _ _ _ _ c9.out);have b2:=Zb (kW _ _ _ _ _ d8.out);have s4:w.heap.size+1+1<w2.heap.size:=s2;clear kW kB d3 c9 d8 c7;have c0:=Zb q0.two;have c1:=Zb q1.two;have c3:=Zb q3.two;rw[<- a2]at c0 c1 c3;obtain⟨J,U,-,-⟩:=c0.out;obtain⟨bS,bU,-,-⟩:=c1.out;obtain⟨dg,dh,-,-⟩:=c3.out;have hq:=Zb (Qc q0 (Qc q1 (Qc q2 q3)));clear q0 q1 q2 q3;replace a2:=Zb a2;go_wp2_with fail;rw[a2.out];refine(Neg_ok ng Ag kg cg G W3 b2.out).mono ?_;rintro e w4 ⟨o,n5,A5,k5,c5,code,rfl,hR⟩;have a7:(-(G:Int)).natAbs<pw 4096:=by rw[Int.natAbs_neg];exact b2.out.small
 have c6:=Zb (hR.small a7);have a8:=hR.code0 a7;subst a8;have I:Below w.heap.size w w4:=c4.trans (o.mono Gk);have b5:=Zb (d6.out.below o);have a1:=Zb (d7.out.below o);have s5:w2.heap.size+1<=w4.heap.size:=by have:=o.size;omega
 have q0:=Zc o hq.out.1;have q1:=Zc o hq.out.2.1;have q2:=Zc o hq.out.2.2.1;have q3:=Zc o hq.out.2.2.2;clear o c0 c1 c3 J U bS bU dg dh a2 d6 d7 b2 c4 hq hR a7;have hq:=Zb (Qc q0 (Qc q1 (Qc q2 q3)));clear q0 q1 q2 q3;go_wp2_with fail;refine(Zdo n5 A5 k5 c5 _).mono ?_;rintro e w5 ⟨rfl,f⟩;have a0:Below w.heap.size w w5:=I.trans (f.mono Gk);have b7:=Zb (b5.out.below f);have a3:=Zb (a1.out.below f);have b9:=Zb (c6.out.below f);have s6:w4.heap.size<=w5.heap.size:=f.size;have q0:=Zc f hq.out.1;have q1:=Zc f hq.out.2.1;have q2:=Zc f hq.out.2.2.1;have q3:=Zc f hq.out.2.2.2;clear f b5 a1 c6 I hq;obtain⟨W7,O,cP,a5,kW,kB,s7⟩:=Zbt n5 A5 k5 c5 a0 Gk q3;replace q0:=kB _ _ _ Gk q0;replace q1:=kB _ _ _ Gk q1;replace q2:=kB _ _ _ Gk q2;have e1:=Zb (kW _ _ _ _ _ b7.out);have d9:=Zb (kW _ _ _ _ _ a3.out);have a6:=Zb (kW _ _ _ _ _ b9.out);obtain⟨e7,e6,e4,e3⟩:=q3.two;have c0:=Zb q0.two;have c1:=Zb q1.two;have c3:=Zb a5.two;obtain⟨J,U,-,-⟩:=c0.out;obtain⟨bS,bU,-,-⟩:=c1.out;obtain⟨dg,dh,-,-⟩:=c3.out;have hq:=Zb (Qc q0 (Qc q1 (Qc q2 a5)));clear q0 q1 q2 q3 a5 kW kB b7 a3 b9 a0;replace O:=Zb O;have d4:=O.out;go_wp2_with fail;(try rw[O.out]);clear e7 e6 e4 e3 d4;refine(Zfc na n5 A A5 n c k5 c5 za (-(G:Int)) _ e1.out a6.out a4.out).mono ?_;rintro e w9 ⟨u,nx,Ax,kx,cx,nr,Ar,kr,cr,rfl,a9,-⟩;rw[hx.out]at a9;have I:Below w.heap.size w w9:=cP.trans (u.mono Gk);have a1:=Zb (d9.out.below u);have d5:=Zb (a6.out.below u);have s8:w2.heap.size+1<=w9.heap.size:=by have:=u.size;omega
 have q1:=Zc u hq.out.2.1;have q2:=Zc u hq.out.2.2.1;have q3:=Zc u hq.out.2.2.2;clear u c0 c1 c3 J U bS bU dg dh O e1 d9 a6 cP hq;obtain⟨W5,b0,a0,q5,kW,kB,s6⟩:=Zap 30 #[.bool nx,.slice Ax kx cx] I Gk;replace q1:=kB _ _ _ q1;replace q2:=kB _ _ _ q2;replace q3:=kB _ _ _ q3;have a3:=Zb (kW _ _ _ _ _ a1.out);have b3:=Zb (kW _ _ _ _ _ d5.out);have d0:=Zb (kW _ _ _ _ _ a9);clear kW kB a1 d5 a9 I;obtain⟨W6,aR,bz,-,kW,kB,s7⟩:=Zap 30 #[.bool nr,.slice Ar kr cr] a0 Gk;replace q1:=kB _ _ _ q1;replace q2:=kB _ _ _ q2;replace q3:=kB _ _ _ q3;replace q5:=kB _ _ _ q5;have er:=Zb (kW _ _ _ _ _ a3.out);have eu:=Zb (kW _ _ _ _ _ b3.out);have dw:=Zb (kW _ _ _ _ _ d0.out);clear kW kB a3 b3 d0 a0;have c1:=Zb q1.two;have c3:=Zb q3.two;rw[<- aR,<- b0]at c1 c3;obtain⟨bS,bU,-,-⟩:=c1.out;obtain⟨dg,dh,-,-⟩:=c3.out;have hq:=Zb (Qc q2 q5);clear q1 q2 q3 q5;rw[<- b0]at aR;replace aR:=Zb aR;clear b0;go_wp2_with fail;rw[aR.out];refine(Zfc true n5 B A5 m d k5 c5 zb (-(G:Int)) _ er.out eu.out a4.out).mono ?_;rintro e w7 ⟨az,ny,Ay,ky,cy,ns,As,ks,cs,rfl,eo,-⟩;rw[hy.out]at eo;have cP:Below w.heap.size w w7:=bz.trans (az.mono Gk);have eU:=Zb (dw.out.below az);have e8:w9.heap.size+2<=w7.heap.size:=by have:=az.size;omega
 exact Ep
theorem Zqr(na nb:Bool)(A B:Option Addr)(n c m d:Nat)(za zb:Int)(w:World)(ha:Wd w na A n c za)(hb:Wd w nb B m d zb)(h0:zb≠0) :
    Calls Tryz.prog 101 #[.agg #[.bool na,.slice A n c],.agg #[.bool nb,.slice B m d]] w (Ze9 w (Qo za zb)):=by
 by_cases hn:zb<0
 ·have:nb=true:=by rw[hb.1];exact Gv hn
  subst this;exact Zrf na A B n c m d za zb w ha hb hn
 have:nb=false:=by rw[hb.1];exact Gu hn
 subst this;exact Zhu na A B n c m d za zb w ha hb Gk
theorem Zve(F:FuncId)(na nb na' nb':Bool)(A B A' B':Option Addr)(n c m d n' c' m' d':Nat)(a b:Rat)(X Y:Int)(w:World)(ha:Fr w na A n c nb B m d a)(hb:Fr w na' A' n' c' nb' B' m' d' b)(hY:Y≠0)(hcf:∀ (x y:Value) (W:World),(callFunc F #[x,y]).run Tryz.prog W=.ok (.enter F #[x,y]) W)
    (hF:∀ W:World,Fr W na A n c nb B m d a->Fr W na' A' n' c' nb' B' m' d' b->Calls Tryz.prog F #[.agg #[.bool na,.slice A n c,.bool nb,.slice B m d],.agg #[.bool na',.slice A' n' c',.bool nb',.slice B' m' d']] W (Zmw W X Y)) :
    Calls Tryz.prog 72 #[.agg #[.bool na,.slice A n c,.bool nb,.slice B m d],.agg #[.bool na',.slice A' n' c',.bool nb',.slice B' m' d'],.func (.func F) #[] #[]] w (Zgs w (Qo X Y)):=by
 obtain⟨W0,J,C,⟨q0,q1,q2,q3⟩,s0⟩:=Zfj w 32 #[.bool na,.slice A n c,.bool nb,.slice B m d] 32 #[.bool na',.slice A' n' c',.bool nb',.slice B' m' d'] 32 #[.bool false,.slice none 0 0,.bool false,.slice none 0 0] 33 #[.int .i64 0];have hA:=Zb (ha.below C);have hD:=Zb (hb.below C);replace hF:=Zb hF;clear ha hb;replace J:=Zb J;obtain⟨a0,a1,a2,a3,-⟩:=q0.four;have hq:=Zb (Qc q0 (Qc q1 (Qc q2 q3)));clear q0 q1 q2 q3
 go_enter_defers Tryz.func72,Tryz.ntmps72
 have a6:=J.out;go_wp2_with fail;clear J a6;refine(Zdk na nb A B n c m d a W0 hA.out).mono ?_;rintro e w1 ⟨rfl,o⟩;have O:Below w.heap.size w w1:=Gs C o;have s1:W0.heap.size<=w1.heap.size:=o.size;replace hA:=Zb (hA.out.below o);replace hD:=Zb (hD.out.below o);obtain⟨q0,q1,q2,q3⟩:=hq.out;replace q0:=Zc o q0;replace q1:=Zc o q1;replace q2:=Zc o q2;replace q3:=Zc o q3;clear hq o C a0 a1 a2 a3;obtain⟨b0,b1,b2,b3,-⟩:=q1.four;have hq:=Zb (Qc q0 (Qc q1 (Qc q2 q3)));clear q0 q1 q2 q3;go_wp2_with fail;refine(Zex w1).mono ?_;rintro e w1 ⟨rfl,rfl⟩;go_wp2_with fail;refine(Zdk na' nb' A' B' n' c' m' d' b w1 hD.out).mono ?_;rintro e w2 ⟨rfl,h⟩;have a4:Below w.heap.size w w2:=Gs O h;have s2:w1.heap.size<=w2.heap.size:=h.size;replace hA:=Zb (hA.out.below h);replace hD:=Zb (hD.out.below h);obtain⟨q0,q1,q2,q3⟩:=hq.out;replace q0:=Zc h q0;replace q1:=Zc h q1;replace q2:=Zc h q2;replace q3:=Zc h q3;clear hq h O b0 b1 b2 b3;obtain⟨a0,a1,a2,a3,-⟩:=q0.four;obtain⟨b0,b1,b2,b3,-⟩:=q1.four;have hq:=Zb (Qc q2 q3);clear q0 q1 q2 q3;go_wp2_with fail;refine(Zex w2).mono ?_;rintro e w2 ⟨rfl,rfl⟩;go_wp2_with fail;refine(hF.out w2 hA.out hD.out).mono ?_;rintro e w3 ⟨I,nu,U,k1,u,nv,V,k2,v,rfl,hU,hV⟩;have a5:Below w.heap.size w w3:=Gs a4 I;have s3:w2.heap.size<=w3.heap.size:=I.size;have q2:=Zc I hq.out.1;have q3:=Zc I hq.out.2
 clear hq I a4 a0 a1 a2 a3 b0 b1 b2 b3 hA hD hF;have hq:=Zb (Qc q2 q3);replace hU:=Zb hU;replace hV:=Zb hV;clear q2 q3;go_wp2_with fail;refine(Zqr nu nv U V k1 u k2 v X Y w3 hU.out hV.out hY).mono ?_;exact Cp
theorem Zq4(x y:Value)(W:World):(callFunc 96 #[x,y]).run Tryz.prog W=.ok (.enter 96 #[x,y]) W:=by simp[go_sem]
theorem Div1_ok(na nb na' nb':Bool)(A B A' B':Option Addr)(n c m d n' c' m' d':Nat)(a b:Rat)(w:World)(ha:Fr w na A n c nb B m d a)(hb:Fr w na' A' n' c' nb' B' m' d' b)
    (hs:(a.num*b.den).natAbs<pw 4096) (ht:((a.den:Int)*b.num).natAbs<pw 4096) (h0:b≠0) :
    Calls Tryz.prog 96 #[.agg #[.bool na,.slice A n c,.bool nb,.slice B m d],.agg #[.bool na',.slice A' n' c',.bool nb',.slice B' m' d']] w (Zmw w (a.num*b.den) ((a.den:Int)*b.num)):=by
 obtain⟨W0,I,E,⟨q0,q1,q2,q3⟩,s0⟩:=Zfj w 32 #[.bool na,.slice A n c,.bool nb,.slice B m d] 32 #[.bool na',.slice A' n' c',.bool nb',.slice B' m' d'] 30 #[.bool false,.slice none 0 0] 30 #[.bool false,.slice none 0 0]
 have a7:((n':Int) == 0)=false:=by
  have:n'≠0:=λe=>h0 (hb.zero_iff.1 e);simp;omega
 have hmx:=Gt;have hA:=Zb (ha.below E);have hD:=Zb (hb.below E);replace hs:=Zb hs;replace ht:=Zb ht;have sz:=Zb E.size;have hB:=Zb E;clear ha hb E s0;replace q0:=Zb q0;replace q1:=Zb q1;replace q2:=Zb q2;replace q3:=Zb q3;obtain⟨a0,a1,a2,a3,-⟩:=q0.out.four;obtain⟨b0,b1,b2,b3,-⟩:=q1.out.four;replace I:=Zb I;go_in;go_wp2_with fail;rw[I.out];refine(Zk0 na' A' n' c' W0 (Qe hD.out.1.2.1 Gi) false a7).mono ?_;rintro e wz ⟨rfl,u⟩;replace q0:=Gm u q0;replace q1:=Gm u q1;replace q2:=Gm u q2;replace q3:=Gm u q3;replace hA:=Zb (hA.out.below u);replace hD:=Zb (hD.out.below u);replace hB:=Zb (hB.out.trans (u.mono sz.out));replace sz:=Zb (Qe sz.out u.size);clear a0 a1 a2 a3 b0 b1 b2 b3 I u;obtain⟨a0,a1,a2,a3,-⟩:=q0.out.four;obtain⟨b0,b1,b2,b3,-⟩:=q1.out.four;go_wp2_with fail;refine Zad [12] (λW'=>W'.cell? ⟨w.heap.size,0,none⟩=some (.bool na)/\W'.cell? ⟨w.heap.size,1,none⟩=some (.slice A n c)/\W'.cell? ⟨w.heap.size,2,none⟩=some (.bool nb)/\W'.cell? ⟨w.heap.size,3,none⟩=some (.slice B m d)/\W'.cell? ⟨w.heap.size+1,0,none⟩=some (.bool na')/\W'.cell? ⟨w.heap.size+1,1,none⟩=some (.slice A' n' c')/\W'.cell? ⟨w.heap.size+1,2,none⟩=some (.bool nb')/\W'.cell? ⟨w.heap.size+1,3,none⟩=some (.slice B' m' d')) hmx ⟨a0,a1,a2,a3,b0,b1,b2,b3⟩ (λ_=>?_);refine Zin 6 [0,1,3,4,5,6] rfl Gj ⟨a0,a1,a2,a3,b0,b1,b2,b3⟩ ?_
 iterate 6 (refine tkA ?_;try simp only[Qj,Zf6,Zfl,Zfx,Gr,Gq,Gp])
 refine tk0 ?_;refine wpAnyL_o 2 λK hK=>?_;go_simp;refine(Zet na nb na' nb' A B A' B' n c m d n' c' m' d' a b wz.drew hA.out hD.out hs.out).mono ?_;rintro e w1 ⟨h,np,P,k,q,rfl,hP⟩;replace h:=Zq h;replace hP:=Zb hP;clear hs;replace q0:=Gm h q0;replace q1:=Gm h q1;replace q2:=Gm h q2;replace q3:=Gm h q3;replace hA:=Zb (hA.out.below h);replace hD:=Zb (hD.out.below h);replace hB:=Zb (hB.out.trans (h.mono sz.out));replace sz:=Zb (Qe sz.out h.size);clear a0 a1 a2 a3 b0 b1 b2 b3;obtain⟨a0,a1,a2,a3,-⟩:=q0.out.four;obtain⟨b0,b1,b2,b3,-⟩:=q1.out.four;clear h;refine hK.out _ _ (λ_=>⟨a0,a1,a2,a3,b0,b1,b2,b3⟩) ?_;clear hK K
 try simp only[Qj,Zf6,Zfl,Zfx]
 refine wpAnyL_o 7 λK hK=>?_;go_simp;refine(Zhx nb na' B A' m d n' c' a.den b.num w1 hA.out.2 hD.out.1).mono ?_;rintro e w3 ⟨o,J,P',k',q',code,rfl,hR⟩;have C:=Zb (hR.small ht.out);have U:=hR.code0 ht.out;subst U;clear ht hR;replace hP:=Zb (hP.out.below o);replace q0:=Gm o q0;replace q1:=Gm o q1;replace q2:=Gm o q2;replace q3:=Gm o q3;replace hA:=Zb (hA.out.below o);replace hD:=Zb (hD.out.below o);replace hB:=Zb (hB.out.trans (o.mono sz.out));replace sz:=Zb (Qe sz.out o.size);clear a0 a1 a2 a3 b0 b1 b2 b3;obtain⟨a0,a1,a2,a3,-⟩:=q0.out.four;obtain⟨b0,b1,b2,b3,-⟩:=q1.out.four;clear o;refine hK.out _ _ (λ_=>⟨a0,a1,a2,a3,b0,b1,b2,b3⟩) ?_;clear hK K
 try simp only[Qj,Zf6,Zfl,Zfx]
 refine Zin 2 [8,9] rfl Gj ⟨a0,a1,a2,a3,b0,b1,b2,b3⟩ ?_
 iterate 2 (refine tkA ?_;try simp only[Qj,Zf6,Zfl,Zfx,Gr,Gq,Gp])
 refine tk0 ?_;refine wpAnyL_o 10 λK hK=>?_;go_simp;refine(Zdo J P' k' q' w3).mono ?_;rintro e w4 ⟨rfl,f⟩;replace hP:=Zb (hP.out.below f);replace C:=Zb (C.out.below f);replace q0:=Gm f q0;replace q1:=Gm f q1;replace q2:=Gm f q2;replace q3:=Gm f q3;replace hA:=Zb (hA.out.below f);replace hD:=Zb (hD.out.below f);replace hB:=Zb (hB.out.trans (f.mono sz.out));replace sz:=Zb (Qe sz.out f.size);clear a0 a1 a2 a3 b0 b1 b2 b3;obtain⟨a0,a1,a2,a3,-⟩:=q0.out.four;obtain⟨b0,b1,b2,b3,-⟩:=q1.out.four;clear f;obtain⟨x0,x1,f0,f1⟩:=q2.out.two;refine hK.out _ _ (λ_=>⟨a0,a1,a2,a3,b0,b1,b2,b3⟩) ?_;clear hK K
 try simp only[Qj,Zf6,Zfl,Zfx]
 refine wpAnyL_o 11 λK hK=>?_;go_simp;obtain⟨W5,a4,a5,O,kW,kB,s5⟩:=Zbt np P k q hB.out Gk q2.out;rw[a4];clear a4 x0 x1 f0 f1 a0 a1 a2 a3 b0 b1 b2 b3 hA hD;replace q0:=kB _ _ _ Gk q0.out;replace q1:=kB _ _ _ Gk q1.out;obtain⟨a0,a1,a2,a3,-⟩:=q0.four;obtain⟨b0,b1,b2,b3,-⟩:=q1.four;replace q3:=Zb (kB _ _ _ Gk q3.out);replace hP:=Zb (kW _ _ _ _ _ hP.out);replace C:=Zb (kW _ _ _ _ _ C.out);clear kW kB q2 hB q0 q1;obtain⟨y0,y1,g0,g1⟩:=q3.out.two;refine hK.out _ _ (λ_=>⟨a0,a1,a2,a3,b0,b1,b2,b3⟩) ?_;clear hK K
 try simp only[Qj,Zf6,Zfl,Zfx]
 refine Zr (i:=12) rfl Gj Gj (λK hK=>?_);go_simp;obtain⟨W6,Y,a8,a6,kW,kB,s6⟩:=Zbt J P' k' q' a5 Gk q3.out;rw[Y];clear Y y0 y1 g0 g1 a0 a1 a2 a3 b0 b1 b2 b3;replace O:=kB _ _ _ Gk O;replace hP:=Zb (kW _ _ _ _ _ hP.out);replace C:=Zb (kW _ _ _ _ _ C.out);clear kW kB q3 a5;refine hK.out _ _ ?_;clear hK K
 try simp only[Qj,Zf6,Zfl,Zfx]
 refine wpAnyL_fin ?_;obtain⟨r0,r1,-⟩:=O.two;obtain⟨r2,r3,-⟩:=a6.two;go_wp2_with fail;refine bodyPost_ret (v:=.tuple #[.agg #[.bool np,.slice P k q],.agg #[.bool J,.slice P' k' q']]) (by simp[results,Tryz.results96,go_sem,r0,r1,r2,r3]) rfl ?_;exact⟨a8,_,_,_,_,_,_,_,_,rfl,hP.out,C.out⟩
theorem Zpk(na nb na' nb':Bool)(A B A' B':Option Addr)(n c m d n' c' m' d':Nat)(a b:Rat)(w:World)(ha:Fr w na A n c nb B m d a)(hb:Fr w na' A' n' c' nb' B' m' d' b)(sa:Sm a)(sb:Sm b)(h0:b≠0) :
    Calls Tryz.prog 67 #[.agg #[.bool na,.slice A n c,.bool nb,.slice B m d],.agg #[.bool na',.slice A' n' c',.bool nb',.slice B' m' d']] w (Zgs w (a/b)):=by
 obtain⟨W0,u,f,⟨q0,q1,q2⟩,s0⟩:=Zda w 32 #[.bool na,.slice A n c,.bool nb,.slice B m d] 32 #[.bool na',.slice A' n' c',.bool nb',.slice B' m' d'] 32 #[.bool false,.slice none 0 0,.bool false,.slice none 0 0];have hA:=Zb (ha.below f);have hD:=Zb (hb.below f);have hF:=λ(W:World) (h1:Fr W na A n c nb B m d a) (h2:Fr W na' A' n' c' nb' B' m' d' b)=>Div1_ok na nb na' nb' A B A' B' n c m d n' c' m' d' a b W h1 h2 (Zc7 sa.1 sb.dn) (Zc7 sa.dn sb.1) h0;have hG:=Zb (Zve 96 na nb na' nb' A B A' B' n c m d n' c' m' d' a b _ _ W0 hA.out hD.out (Zrd a b h0) Zq4 hF);rw[Zpz a b h0]at hG;clear hF ha hb sa sb hA hD;obtain⟨a0,a1,a2,a3,-⟩:=q0.four;obtain⟨b0,b1,b2,b3,-⟩:=q1.four;replace q2:=Zb q2;clear q0 q1;go_in;go_wp2_with fail;refine hG.out.mono ?_;rintro e w1 ⟨h,nx,Ax,kx,cx,ny,Ay,ky,cy,rfl,hX⟩;have o:Below w.heap.size w w1:=Gs f h;have s1:W0.heap.size<=w1.heap.size:=h.size;replace q2:=Gm h q2;replace hX:=Zb hX;clear h a0 a1 a2 a3 b0 b1 b2 b3 f hG u;obtain⟨a5,Y,a4,U,O,E,J,I⟩:=q2.out.four;go_wp2_with fail;obtain⟨W5,C,au,q2,kW,-,s5⟩:=Zm nx Ax kx cx ny Ay ky cy o Gk q2.out;rw[C];obtain⟨r0,r1,r2,r3,-⟩:=q2.four;refine bodyPost_ret (v:=.tuple #[.agg #[.bool nx,.slice Ax kx cx,.bool ny,.slice Ay ky cy],.int .i64 0]) (by simp[results,Tryz.results67,go_sem,r0,r1,r2,r3]) rfl ?_;exact Ft
theorem Znj{x y:Int}{na nb:Bool}(ha:na=decide (x<0))(hb:nb=decide (y<0)):Zfg na nb (digits x.natAbs) (digits y.natAbs)=decide (x=y):=by
 unfold Zfg;rw[Zed,ha,hb];by_cases h:x=y;subst h;simp[Zfq];rw[Gu h];unfold Zfq;by_cases h1:(decide (x<0) == decide (y<0))=true
 ·have:x.natAbs≠y.natAbs:=by
    intro e;rw[beq_iff_eq,decide_eq_decide]at h1;omega
  rcases Qw this with h2|h2;rw[Gx Gk];simp;rw[Gw Gk,Gx Gk];simp
 rw[Bool.not_eq_true]at h1;rw[h1];rfl
def Fz(w:World)(na:Bool)(A:Option Addr)(n c:Nat)(nb:Bool)(B:Option Addr)(m d:Nat)(q:Int × Int):Prop:=Wd w na A n c q.1/\Wd w nb B m d q.2
theorem Fz.below{w w':World}{na:Bool}{A:Option Addr}{n c:Nat}{nb:Bool}{B:Option Addr}{m d:Nat}{r:Int × Int}(h:Fz w na A n c nb B m d r)(hb:Below w.heap.size w w'):Fz w' na A n c nb B m d r:=⟨h.1.below hb,h.2.below hb⟩
def prQ(r:Rat):Int × Int:=(r.num,(r.den:Nat))
theorem Fr.fz{w:World}{na:Bool}{A:Option Addr}{n c:Nat}{nb:Bool}{B:Option Addr}{m d:Nat}{r:Rat}(h:Fr w na A n c nb B m d r):Fz w na A n c nb B m d (prQ r):=h
theorem FN{G:Prop}(h:G:=by
 rintro e w2 ⟨rfl,aa⟩;have eZ:Below w.heap.size w w2:=Gs ab aa;go_wp2_with fail;go_ret;exact⟨by simp,eZ⟩):G:=h
theorem Zup(na nb na' nb':Bool)(A B A' B':Option Addr)(n c m d n' c' m' d':Nat)(a b:Int × Int)(w:World)(ha:Fz w na A n c nb B m d a)(hb:Fz w na' A' n' c' nb' B' m' d' b)(s:Bool)(hs:decide (a=b)=s) :
    Calls Tryz.prog 14 #[.agg #[.bool na,.slice A n c,.bool nb,.slice B m d],.agg #[.bool na',.slice A' n' c',.bool nb',.slice B' m' d']] w λe w'=>e=.returned (.bool s)/\Below w.heap.size w w':=by
 obtain⟨W0,o,h,⟨q0,q1⟩,s0⟩:=Zcs w 32 #[.bool na,.slice A n c,.bool nb,.slice B m d] 32 #[.bool na',.slice A' n' c',.bool nb',.slice B' m' d'];have hA:=Zb (ha.below h);have hD:=Zb (hb.below h);have e1:=Zb (Znj ha.1.1 hb.1.1);have e2:=Zb (Znj ha.2.1 hb.2.1);clear ha hb;obtain⟨x,hx⟩:∃ x,decide (a.1=b.1)=x:=⟨_,rfl⟩;obtain⟨y,hy⟩:∃ y,decide (a.2=b.2)=y:=⟨_,rfl⟩
 have u:s=(x && y):=by
  rw[<- hs,<- hx,<- hy,Bool.eq_iff_iff];simp only[decide_eq_true_eq,QN];constructor;rintro rfl;exact⟨rfl,rfl⟩;rintro⟨h1,h2⟩;exact Prod.ext h1 h2
 subst u;rw[hx]at e1;rw[hy]at e2;clear hs hx hy;obtain⟨a0,a1,a2,a3,-⟩:=q0.four;obtain⟨b0,b1,b2,b3,-⟩:=q1.four;have hq:=Zb (Qc q0 q1);clear q0 q1;go_in;go_wp2_with fail;refine(Zel na na' A A' n c n' c' _ _ W0 hA.out.1.lim hD.out.1.lim).mono ?_;rw[e1.out];rintro e w1 ⟨rfl,f⟩;have ab:Below w.heap.size w w1:=Gs h f;replace hA:=Zb (hA.out.below f);replace hD:=Zb (hD.out.below f);obtain⟨q0,q1⟩:=hq.out;replace q0:=Zc f q0;replace q1:=Zc f q1;clear o f a0 a1 a2 a3 b0 b1 b2 b3 hq h;obtain⟨a0,a1,a2,a3,-⟩:=q0.four;obtain⟨b0,b1,b2,b3,-⟩:=q1.four;clear q0 q1;cases x
 ·go_wp2_with fail
  go_ret;exact⟨rfl,ab⟩
 go_wp2_with fail;refine(Zel nb nb' B B' m d m' d' _ _ w1 hA.out.2.lim hD.out.2.lim).mono ?_;rw[e2.out];exact FN
theorem prQ_inj{a b:Rat}:prQ a=prQ b ↔ a=b:=by
 constructor
 ·intro h
  have h1:=congrArg Prod.fst h;have h2:=congrArg Prod.snd h;simp only[prQ]at h1 h2;exact Rat.ext h1 Gk
 rintro rfl;rfl
theorem Zft(na nb na' nb':Bool)(A B A' B':Option Addr)(n c m d n' c' m' d':Nat)(a b:Rat)(w:World)(ha:Fr w na A n c nb B m d a)(hb:Fr w na' A' n' c' nb' B' m' d' b)(s:Bool)(hs:decide (a=b)=s) :
    Calls Tryz.prog 14 #[.agg #[.bool na,.slice A n c,.bool nb,.slice B m d],.agg #[.bool na',.slice A' n' c',.bool nb',.slice B' m' d']] w λe w'=>e=.returned (.bool s)/\Below w.heap.size w w':=
 Zup na nb na' nb' A B A' B' n c m d n' c' m' d' (prQ a) (prQ b) w ha.fz hb.fz s (by rw[<- hs];exact decide_eq_decide.2 prQ_inj)
def Zqk(a b:Rat):Int:=if a<b then -1 else if b<a then 1 else 0
theorem Zv1(a b:Rat):Zfq (a.num*b.den) (b.num*a.den)=Zqk a b:=by
 unfold Zfq Zqk;simp only[Rat.lt_iff]
theorem fCmp_ok(na nb na' nb':Bool)(A B A' B':Option Addr)(n c m d n' c' m' d':Nat)(a b:Rat)(w:World)(ha:Fr w na A n c nb B m d a)(hb:Fr w na' A' n' c' nb' B' m' d' b)(sa:Sm a)(sb:Sm b) :
    Calls Tryz.prog 23 #[.agg #[.bool na,.slice A n c,.bool nb,.slice B m d],.agg #[.bool na',.slice A' n' c',.bool nb',.slice B' m' d']] w λe w'=>e=.returned (.tuple #[.int .i64 (Zqk a b),.int .i64 0])/\Below w.heap.size w w':=by
 rw[<- Zv1];obtain⟨R,hR⟩:=Gz (Zfq (a.num*b.den) (b.num*a.den));rw[hR];replace hR:=Zb hR;have hmx:=Gt;have h1:=Zb (Zc7 sa.1 sb.dn);have h2:=Zb (Zc7 sb.1 sa.dn);obtain⟨W0,a4,J,⟨q0,q1,q2⟩,s0⟩:=Zda w 32 #[.bool na,.slice A n c,.bool nb,.slice B m d] 32 #[.bool na',.slice A' n' c',.bool nb',.slice B' m' d'] 33 #[.int .i64 0];have hA:=Zb (ha.below J);have hD:=Zb (hb.below J);clear ha hb sa sb;obtain⟨a0,a1,a2,a3,-⟩:=q0.four;have hq:=Zb (Qc q0 (Qc q1 q2));clear q0 q1 q2
 go_enter_defers Tryz.func23,Tryz.ntmps23
 go_wp2_with fail;refine(Zdk na nb A B n c m d a W0 hA.out).mono ?_;rintro e w1 ⟨rfl,I⟩;have O:Below w.heap.size w w1:=Gs J I;have s1:W0.heap.size<=w1.heap.size:=I.size;replace hA:=Zb (hA.out.below I);replace hD:=Zb (hD.out.below I);obtain⟨q0,q1,q2⟩:=hq.out;replace q0:=Zc I q0;replace q1:=Zc I q1;replace q2:=Zc I q2;clear a4 hq I J a0 a1 a2 a3;obtain⟨b0,b1,b2,b3,-⟩:=q1.four;have hq:=Zb (Qc q0 (Qc q1 q2));clear q0 q1 q2;go_wp2_with fail;refine(Zex w1).mono ?_;rintro e w1 ⟨rfl,rfl⟩;go_wp2_with fail;refine(Zdk na' nb' A' B' n' c' m' d' b w1 hD.out).mono ?_;rintro e w2 ⟨rfl,E⟩;have hB:=Zb (Gs O E);have sz:=Zb hB.out.size;have s2:w1.heap.size<=w2.heap.size:=E.size;replace hA:=Zb (hA.out.below E);replace hD:=Zb (hD.out.below E);obtain⟨q0,q1,q2⟩:=hq.out;replace q0:=Zb (Zc E q0);replace q1:=Zb (Zc E q1);replace q2:=Zb (Zc E q2);clear hq E O b0 b1 b2 b3;go_wp2_with fail;refine(Zex w2).mono ?_;rintro e w2 ⟨rfl,rfl⟩;obtain⟨a0,a1,a2,a3,-⟩:=q0.out.four;obtain⟨b0,b1,b2,b3,-⟩:=q1.out.four;go_wp2_with fail
 refine Zad [10] (λW'=>W'.cell? ⟨w.heap.size,0,none⟩=some (.bool na)/\W'.cell? ⟨w.heap.size,1,none⟩=some (.slice A n c)/\W'.cell? ⟨w.heap.size,2,none⟩=some (.bool nb)/\W'.cell? ⟨w.heap.size,3,none⟩=some (.slice B m d)/\W'.cell? ⟨w.heap.size+1,0,none⟩=some (.bool na')/\W'.cell? ⟨w.heap.size+1,1,none⟩=some (.slice A' n' c')/\W'.cell? ⟨w.heap.size+1,2,none⟩=some (.bool nb')/\W'.cell? ⟨w.heap.size+1,3,none⟩=some (.slice B' m' d')) hmx ⟨a0,a1,a2,a3,b0,b1,b2,b3⟩ (λ_=>?_);refine Zin 4 [0,1,3,4] rfl Gj ⟨a0,a1,a2,a3,b0,b1,b2,b3⟩ ?_
 iterate 4 (refine tkA ?_;try simp only[Qj,Zf6,Zfl,Zfx,Gr,Gq,Gp])
 refine tk0 ?_;refine wpAnyL_o 2 λK hK=>?_;go_simp;refine(Zet na nb na' nb' A B A' B' n c m d n' c' m' d' a b w2.drew hA.out hD.out h1.out).mono ?_;rintro e w3 ⟨h,nu,U,k1,u,rfl,hU⟩;replace h:=Zq h;replace hU:=Zb hU;replace q0:=Gm h q0;replace q1:=Gm h q1;replace q2:=Gm h q2;replace hA:=Zb (hA.out.below h);replace hD:=Zb (hD.out.below h);replace hB:=Zb (hB.out.trans (h.mono sz.out));replace sz:=Zb (Qe sz.out h.size);clear a0 a1 a2 a3 b0 b1 b2 b3;obtain⟨a0,a1,a2,a3,-⟩:=q0.out.four;obtain⟨b0,b1,b2,b3,-⟩:=q1.out.four;clear h;refine hK.out _ _ (λ_=>⟨a0,a1,a2,a3,b0,b1,b2,b3⟩) ?_;clear hK K
 try simp only[Qj,Zf6,Zfl,Zfx]
 refine wpAnyL_o 5 λK hK=>?_;go_simp;refine(Zet na' nb' na nb A' B' A B n' c' m' d' n c m d b a w3 hD.out hA.out h2.out).mono ?_;rintro e w4 ⟨o,nv,V,k2,v,rfl,hV⟩;replace hU:=Zb (hU.out.below o);replace hV:=Zb hV;replace q0:=Gm o q0;replace q1:=Gm o q1;replace q2:=Gm o q2;replace hA:=Zb (hA.out.below o);replace hD:=Zb (hD.out.below o);replace hB:=Zb (hB.out.trans (o.mono sz.out));replace sz:=Zb (Qe sz.out o.size);clear a0 a1 a2 a3 b0 b1 b2 b3;obtain⟨a0,a1,a2,a3,-⟩:=q0.out.four;obtain⟨b0,b1,b2,b3,-⟩:=q1.out.four;clear o;refine hK.out _ _ (λ_=>⟨a0,a1,a2,a3,b0,b1,b2,b3⟩) ?_;clear hK K
 try simp only[Qj,Zf6,Zfl,Zfx]
 refine wpAnyL_o 6 λK hK=>?_;go_simp;refine(Zwr nu nv U V k1 u k2 v _ _ w4 hU.out hV.out).mono ?_;rw[hR.out];rintro e w5 ⟨rfl,C⟩;replace q0:=Gm C q0;replace q1:=Gm C q1;replace q2:=Gm C q2;replace hA:=Zb (hA.out.below C);replace hD:=Zb (hD.out.below C);replace hB:=Zb (hB.out.trans (C.mono sz.out));replace sz:=Zb (Qe sz.out C.size);clear a0 a1 a2 a3 b0 b1 b2 b3;obtain⟨a0,a1,a2,a3,-⟩:=q0.out.four;obtain⟨b0,b1,b2,b3,-⟩:=q1.out.four;clear C;have x0:=q2.out.cell 0;have f0:=q2.out.frozen 0;simp at x0;refine hK.out _ _ (λ_=>⟨a0,a1,a2,a3,b0,b1,b2,b3⟩) ?_;clear hK K
 try simp only[Qj,Zf6,Zfl,Zfx]
 refine Zin 3 [7,8,9] rfl Gj ⟨a0,a1,a2,a3,b0,b1,b2,b3⟩ ?_
 iterate 3 (refine tkA ?_;try simp only[Qj,Zf6,Zfl,Zfx,Gr,Gq,Gp])
 refine tk0 ?_;refine Zr (i:=10) rfl Gj Gj (λK hK=>?_);go_simp;obtain⟨W6,Y,a6,a5,kW,kB,s6⟩:=Zis 0 hB.out Gk q2.out;rw[Y];refine hK.out _ _ ?_;clear hK K
 try simp only[Qj,Zf6,Zfl,Zfx]
 refine wpAnyL_fin ?_;have r4:=a5.cell 0;simp at r4;go_wp2_with fail;refine leaves_cons (f:=54) (args:=#[.pointer (some ⟨w.heap.size+1+1,0,none⟩)]) Gh (by simp[go_sem]) ?_;refine(Zf4 _ _).mono ?_;rintro e u' w'' ⟨rfl,rfl,rfl⟩;refine⟨.tuple #[.int .i64 R,.int .i64 0],by simp[results,Tryz.results23,go_sem,r4],rfl,a6⟩
theorem Zz{w:World}(t:TypeId)(cs:Array Value):∃ W,w.alloc (.cells cs t)=W/\Blk W w.heap.size t cs/\Below w.heap.size w W:=
 ⟨_,rfl,QW _ _ _,(QQ _ _).alloc (Qa _) _⟩
theorem Ff{G:Prop}(h:G:=by
 have h:=Rat.num_divInt_den ((z:Int):Rat);rw[Rat.num_intCast,Rat.den_intCast]at h;exact h):G:=h
theorem Zd1(z:Int):Qo z 1=(z:Rat):=by
 exact Ff
theorem Zie{w:World}{g i:Nat}{t:TypeId}{cs:Array Value}{v:Value}(h:Blk w g t cs)(hv:cs[i]?=some v):w.setCell ⟨g,i,none⟩ v=w:=by
 have hs:cs.setIfInBounds i v=cs:=by
  apply QH;intro j;rw[Array.getElem?_setIfInBounds]
  split
  ·rename_i e
   subst e
   split
   exact hv.symm;rename_i h2;rw[Array.getElem?_eq_none Gk]
  rfl
 have hm:(w.setCell ⟨g,i,none⟩ v).heap=w.heap:=by
  unfold World.setCell;dsimp only;apply QH;intro j;rw[Array.getElem?_modify]
  split
  ·rename_i e
   subst e;have h2:w.heap[g]?=some (.cells cs t (0,0)):=h;rw[h2];simp[hs]
  rfl
 have h3:w.setCell ⟨g,i,none⟩ v={ w with heap:=(w.setCell ⟨g,i,none⟩ v).heap }:=rfl;rw[h3,hm]
theorem FY{G:Prop}(h:G:=by
 exact⟨au.out,_,_,_,_,_,_,_,_,rfl,hF.out⟩):G:=h
theorem Zj4(g:Nat)(na nb:Bool)(A B:Option Addr)(n c m d:Nat)(r:Rat)(w:World)(hc:Blk w g 70 #[.int .i64 0])(h:Fr w na A n c nb B m d r) :
    Calls Tryz.prog 33 #[.pointer (some ⟨g,0,none⟩),.agg #[.bool na,.slice A n c,.bool nb,.slice B m d],.int .i64 0] w (Ze9 w r):=by
 obtain⟨W0,o,e,⟨q0,q1⟩,s0⟩:=Zcs w 32 #[.bool na,.slice A n c,.bool nb,.slice B m d] 32 #[.bool false,.slice none 0 0,.bool false,.slice none 0 0];have hA:=Zb (h.below e);have qc:=Zc e hc;have f:=Zie qc (show (#[Value.int .i64 0])[0]?=some (.int .i64 0) from rfl);obtain⟨c0,C⟩:W0.cell? ⟨g,0,none⟩=some (.int .i64 0)/\W0.frozen? ⟨g,0,none⟩=false:=⟨qc.cell 0,qc.frozen 0⟩;have qf:=q0.four;have qr:=q1.four;obtain⟨x0,x1,x2,x3,-⟩:=qf;obtain⟨y0,y1,y2,y3,y4,y5,y6,y7⟩:=qr;obtain⟨W5,u,au,q5,kW,-,s5⟩:=Zm na A n c nb B m d e (Nat.le_succ _) q1;have hF:=Zb (Fr.keep hA.out kW);obtain⟨r0,r1,r2,r3,-⟩:=q5.four;replace q5:=Zb q5;replace au:=Zb au;clear q0 q1 kW e hA;go_in;go_wp2_with fail;(try rw[o]);(try rw[f]);(try rw[u]);refine bodyPost_ret (v:=.agg #[.bool na,.slice A n c,.bool nb,.slice B m d]) (by simp[results,Tryz.results33,go_sem,r0,r1,r2,r3]) rfl ?_;exact FY
theorem Zwp(g:Nat)(w:World)(hc:Blk w g 70 #[.int .i64 0]) :
    Calls Tryz.prog 33 #[.pointer (some ⟨g,0,none⟩),.agg #[.bool false,.slice none 0 0,.bool false,.slice none 0 0],.int .i64 0] w λe w'=>∃ v,e=.returned v/\Below w.heap.size w w':=by
 obtain⟨W0,u,h,⟨q0,q1⟩,s0⟩:=Zcs w 32 #[.bool false,.slice none 0 0,.bool false,.slice none 0 0] 32 #[.bool false,.slice none 0 0,.bool false,.slice none 0 0];have qc:=Zc h hc;have o:=Zie qc (show (#[Value.int .i64 0])[0]?=some (.int .i64 0) from rfl);obtain⟨c0,E⟩:W0.cell? ⟨g,0,none⟩=some (.int .i64 0)/\W0.frozen? ⟨g,0,none⟩=false:=⟨qc.cell 0,qc.frozen 0⟩;have qf:=q0.four;have qr:=q1.four;obtain⟨x0,x1,x2,x3,-⟩:=qf;obtain⟨y0,y1,y2,y3,y4,y5,y6,y7⟩:=qr;obtain⟨W5,C,f,q5,kW,-,s5⟩:=Zm false none 0 0 false none 0 0 h (Nat.le_succ _) q1;obtain⟨r0,r1,r2,r3,-⟩:=q5.four;replace q5:=Zb q5;replace f:=Zb f;clear q0 q1 kW h;go_in;go_wp2_with fail;(try rw[u]);(try rw[o]);(try rw[C]);refine bodyPost_ret (v:=.agg #[.bool false,.slice none 0 0,.bool false,.slice none 0 0]) (by simp[results,Tryz.results33,go_sem,r0,r1,r2,r3]) rfl ?_;exact⟨_,rfl,f.out⟩
theorem Zew(g:Nat)(na nb na' nb':Bool)(A B A' B':Option Addr)(n c m d n' c' m' d':Nat)(a b:Rat)(w:World)(hc:Blk w g 70 #[.int .i64 0])(ha:Fr w na A n c nb B m d a)(hb:Fr w na' A' n' c' nb' B' m' d' b)(sa:Sm a)(sb:Sm b) :
    Calls Tryz.prog 35 #[.pointer (some ⟨g,0,none⟩),.agg #[.bool na,.slice A n c,.bool nb,.slice B m d],.agg #[.bool na',.slice A' n' c',.bool nb',.slice B' m' d']] w (Ze9 w (a*b)):=by
 obtain⟨W0,C,f,⟨q0,q1,q2⟩,s0⟩:=Zda w 32 #[.bool na,.slice A n c,.bool nb,.slice B m d] 32 #[.bool na',.slice A' n' c',.bool nb',.slice B' m' d'] 32 #[.bool false,.slice none 0 0,.bool false,.slice none 0 0];have hA:=Zb (ha.below f);have hD:=Zb (hb.below f);have qc:=Zb (Zc f hc);replace q2:=Zb q2;obtain⟨x0,x1,x2,x3,-⟩:=q0.four;obtain⟨y0,y1,y2,y3,-⟩:=q1.four;clear q0 q1;go_in;go_wp2_with fail;(try rw[C]);clear C;refine(Zit na nb na' nb' A B A' B' n c m d n' c' m' d' a b W0 hA.out hD.out sa sb).mono ?_;rintro e w1 ⟨h,n1,A1,k1,c1,m1,B1,j1,d1,rfl,E⟩;have o:=Gs f h;have I:=Zc h qc.out;replace q2:=Gm h q2;clear x0 x1 x2 x3 y0 y1 y2 y3 hA hD qc;go_wp2_with fail;refine(Zj4 g n1 m1 A1 B1 k1 c1 j1 d1 (a*b) w1 I E).mono ?_;rintro e w2 ⟨u,n2,A2,k2,c2,m2,B2,j2,d2,rfl,O⟩;have J:=Gs o u;have q3:=Zc u q2.out;clear q2 E I;obtain⟨z0,z1,z2,z3,z4,z5,z6,z7⟩:=q3.four;obtain⟨W5,U,au,q5,kW,-,s5⟩:=Zm n2 A2 k2 c2 m2 B2 j2 d2 J Gk q3;have hF:=Zb (Fr.keep O kW);obtain⟨r0,r1,r2,r3,-⟩:=q5.four;replace au:=Zb au;clear kW O q3 q5 h u f o J;go_wp2_with fail;(try rw[U]);refine bodyPost_ret (v:=.agg #[.bool n2,.slice A2 k2 c2,.bool m2,.slice B2 j2 d2]) (by simp[results,Tryz.results35,go_sem,r0,r1,r2,r3]) rfl ?_;exact FY
theorem Zsv(g:Nat)(na nb na' nb':Bool)(A B A' B':Option Addr)(n c m d n' c' m' d':Nat)(a b:Rat)(w:World)(hc:Blk w g 70 #[.int .i64 0])(ha:Fr w na A n c nb B m d a)(hb:Fr w na' A' n' c' nb' B' m' d' b)(sa:Sm a)(sb:Sm b) :
    Calls Tryz.prog 43 #[.pointer (some ⟨g,0,none⟩),.agg #[.bool na,.slice A n c,.bool nb,.slice B m d],.agg #[.bool na',.slice A' n' c',.bool nb',.slice B' m' d']] w (Ze9 w (a-b)):=by
 obtain⟨W0,C,f,⟨q0,q1,q2⟩,s0⟩:=Zda w 32 #[.bool na,.slice A n c,.bool nb,.slice B m d] 32 #[.bool na',.slice A' n' c',.bool nb',.slice B' m' d'] 32 #[.bool false,.slice none 0 0,.bool false,.slice none 0 0];have hA:=Zb (ha.below f);have hD:=Zb (hb.below f);have qc:=Zb (Zc f hc);replace q2:=Zb q2;obtain⟨x0,x1,x2,x3,-⟩:=q0.four;obtain⟨y0,y1,y2,y3,-⟩:=q1.four;clear q0 q1;go_in;go_wp2_with fail;(try rw[C]);clear C;refine(Zoj na nb na' nb' A B A' B' n c m d n' c' m' d' a b W0 hA.out hD.out sa sb).mono ?_;rintro e w1 ⟨h,n1,A1,k1,c1,m1,B1,j1,d1,rfl,E⟩;have o:=Gs f h;have I:=Zc h qc.out;replace q2:=Gm h q2;clear x0 x1 x2 x3 y0 y1 y2 y3 hA hD qc;go_wp2_with fail;refine(Zj4 g n1 m1 A1 B1 k1 c1 j1 d1 (a-b) w1 I E).mono ?_;rintro e w2 ⟨u,n2,A2,k2,c2,m2,B2,j2,d2,rfl,O⟩;have J:=Gs o u;have q3:=Zc u q2.out;clear q2 E I;obtain⟨z0,z1,z2,z3,z4,z5,z6,z7⟩:=q3.four;obtain⟨W5,U,au,q5,kW,-,s5⟩:=Zm n2 A2 k2 c2 m2 B2 j2 d2 J Gk q3;have hF:=Zb (Fr.keep O kW);obtain⟨r0,r1,r2,r3,-⟩:=q5.four;replace au:=Zb au;clear kW O q3 q5 h u f o J;go_wp2_with fail;(try rw[U]);refine bodyPost_ret (v:=.agg #[.bool n2,.slice A2 k2 c2,.bool m2,.slice B2 j2 d2]) (by simp[results,Tryz.results43,go_sem,r0,r1,r2,r3]) rfl ?_;exact FY
theorem Zsm(g:Nat)(na nb na' nb':Bool)(A B A' B':Option Addr)(n c m d n' c' m' d':Nat)(a b:Rat)(w:World)(hc:Blk w g 70 #[.int .i64 0])(ha:Fr w na A n c nb B m d a)(hb:Fr w na' A' n' c' nb' B' m' d' b)(sa:Sm a)(sb:Sm b)(h0:b≠0) :
    Calls Tryz.prog 40 #[.pointer (some ⟨g,0,none⟩),.agg #[.bool na,.slice A n c,.bool nb,.slice B m d],.agg #[.bool na',.slice A' n' c',.bool nb',.slice B' m' d']] w (Ze9 w (a/b)):=by
 obtain⟨W0,C,f,⟨q0,q1,q2⟩,s0⟩:=Zda w 32 #[.bool na,.slice A n c,.bool nb,.slice B m d] 32 #[.bool na',.slice A' n' c',.bool nb',.slice B' m' d'] 32 #[.bool false,.slice none 0 0,.bool false,.slice none 0 0];have hA:=Zb (ha.below f);have hD:=Zb (hb.below f);have qc:=Zb (Zc f hc);replace q2:=Zb q2;obtain⟨x0,x1,x2,x3,-⟩:=q0.four;obtain⟨y0,y1,y2,y3,-⟩:=q1.four;clear q0 q1;go_in;go_wp2_with fail;(try rw[C]);clear C;refine(Zpk na nb na' nb' A B A' B' n c m d n' c' m' d' a b W0 hA.out hD.out sa sb h0).mono ?_;rintro e w1 ⟨h,n1,A1,k1,c1,m1,B1,j1,d1,rfl,E⟩;have o:=Gs f h;have I:=Zc h qc.out;replace q2:=Gm h q2;clear x0 x1 x2 x3 y0 y1 y2 y3 hA hD qc;go_wp2_with fail;refine(Zj4 g n1 m1 A1 B1 k1 c1 j1 d1 (a/b) w1 I E).mono ?_;rintro e w2 ⟨u,n2,A2,k2,c2,m2,B2,j2,d2,rfl,O⟩;have J:=Gs o u;have q3:=Zc u q2.out;clear q2 E I;obtain⟨z0,z1,z2,z3,z4,z5,z6,z7⟩:=q3.four;obtain⟨W5,U,au,q5,kW,-,s5⟩:=Zm n2 A2 k2 c2 m2 B2 j2 d2 J Gk q3;have hF:=Zb (Fr.keep O kW);obtain⟨r0,r1,r2,r3,-⟩:=q5.four;replace au:=Zb au;clear kW O q3 q5 h u f o J;go_wp2_with fail;(try rw[U]);refine bodyPost_ret (v:=.agg #[.bool n2,.slice A2 k2 c2,.bool m2,.slice B2 j2 d2]) (by simp[results,Tryz.results40,go_sem,r0,r1,r2,r3]) rfl ?_;exact FY
theorem Zow(g:Nat)(na nb na' nb':Bool)(A B A' B':Option Addr)(n c m d n' c' m' d':Nat)(a b:Rat)(w:World)(hc:Blk w g 70 #[.int .i64 0])(ha:Fr w na A n c nb B m d a)(hb:Fr w na' A' n' c' nb' B' m' d' b)(sa:Sm a)(sb:Sm b) :
    Calls Tryz.prog 39 #[.pointer (some ⟨g,0,none⟩),.agg #[.bool na,.slice A n c,.bool nb,.slice B m d],.agg #[.bool na',.slice A' n' c',.bool nb',.slice B' m' d']] w λe w'=>e=.returned (.int .i64 (Zqk a b))/\Below w.heap.size w w':=by
 obtain⟨W0,u,h,⟨q0,q1⟩,s0⟩:=Zcs w 32 #[.bool na,.slice A n c,.bool nb,.slice B m d] 32 #[.bool na',.slice A' n' c',.bool nb',.slice B' m' d'];have hA:=Zb (ha.below h);have hD:=Zb (hb.below h);have qc:=Zb (Zc h hc);obtain⟨x0,x1,x2,x3,-⟩:=q0.four;obtain⟨y0,y1,y2,y3,-⟩:=q1.four;clear q0 q1;obtain⟨R,hR⟩:=Gz (Zqk a b);have f:=fCmp_ok na nb na' nb' A B A' B' n c m d n' c' m' d' a b W0 hA.out hD.out sa sb;rw[hR]at f ⊢;replace hR:=Zb hR;replace f:=Zb f;go_in;go_wp2_with fail;(try rw[u]);clear u;refine f.out.mono ?_;rintro e w1 ⟨rfl,C⟩;have o:=Gs h C;have J:=Zc C qc.out;clear x0 x1 x2 x3 y0 y1 y2 y3 hA hD qc f;go_wp2_with fail;refine(Zwp g w1 J).mono ?_;rintro e w2 ⟨v,rfl,I⟩;have E:=Gs o I;go_wp2_with fail;go_ret;exact⟨rfl,E⟩
theorem IL{G:Prop}(h:G:=by
 exact⟨bE.out,_,_,_,_,_,_,_,_,rfl,dW.out⟩):G:=h
theorem Zg0(x:Int)(w:World)(h1:-9223372036854775808<=x)(h2:x<=9223372036854775807) :
    Calls Tryz.prog 36 #[.int .i64 x] w (Ze9 w (x:Rat)):=by
 obtain⟨W0,u,C,q0,s0⟩:=Zbp w 32 #[.bool false,.slice none 0 0,.bool false,.slice none 0 0];replace q0:=Zb q0;have f:=Zb (Zji x 1 W0 h1 h2 Gi Gi);rw[Zd1]at f;go_in;go_wp2_with fail;(try rw[u]);clear u;refine f.out.mono ?_;rintro e w1 ⟨J,n1,A1,k1,c1,m1,B1,j1,d1,rfl,O⟩;have h:=Gs C J;replace q0:=Gm J q0;obtain⟨V,hV,qV,I⟩:=Zz (w:=w1) 32 #[.bool false,.slice none 0 0,.bool false,.slice none 0 0];obtain⟨z0,z1,z2,z3,z4,z5,z6,z7⟩:=qV.four;obtain⟨Y,hY,o,qY,kY,bY,sY⟩:=Zm n1 A1 k1 c1 m1 B1 j1 d1 I (Qa _) qV;have U:=Zb (Fr.keep (O.below I) kY);have a0:=Gs h o;have E:=Zc o q0.out;obtain⟨y0,y1,y2,y3,-⟩:=qY.four;obtain⟨p0,p1,p2,p3,p4,p5,p6,p7⟩:=E.four;obtain⟨Z,hZ,bE,qZ,kZ,-,-⟩:=Zm n1 A1 k1 c1 m1 B1 j1 d1 a0 (Qa _) E;have dW:=Zb (Fr.keep U.out kZ);obtain⟨r0,r1,r2,r3,-⟩:=qZ.four;replace bE:=Zb bE;clear kY bY kZ f q0;go_wp2_with fail;(try rw[hV]);(try rw[hY]);(try rw[hZ]);refine bodyPost_ret (v:=.agg #[.bool n1,.slice A1 k1 c1,.bool m1,.slice B1 j1 d1]) (by simp[results,Tryz.results36,go_sem,r0,r1,r2,r3]) rfl ?_;exact IL
def okF(na:Bool)(la:List Nat)(nb:Bool)(lb:List Nat):Bool:=okW na la && okW nb lb && !nb && decide (0<lb.length) && decide (Qv (val la) (val lb)=1)
def qOf(na:Bool)(la lb:List Nat):Rat:=Qo (sg na (val la)) (val lb:Nat)
theorem Zrp{w:World}{na nb:Bool}{A B:Option Addr}{n c m d:Nat}{la lb:List Nat}(ha:Lim w A n c la)(hb:Lim w B m d lb)(hk:okF na la nb lb=true):Fr w na A n c nb B m d (qOf na la lb):=by
 simp only[okF,QN,Bool.not_eq_true',decide_eq_true_eq]at hk;obtain⟨⟨⟨⟨k1,k2⟩,rfl⟩,k4⟩,k5⟩:=hk;have h2:=(Zj1 hb.lt).1 k2;have e2:(sg false (val lb)).natAbs=val lb:=Z0 _ _;rw[e2]at h2
 have hp:0<val lb:=by
  rw[h2.2.2]at k4;exact length_digits_pos.1 k4
 have hl:Low (sg na (val la)) (val lb:Nat):=⟨by omega,by rw[Z0,QI];exact k5⟩;obtain⟨r1,r2⟩:=rat_low hl;have w1:=Wd.of_ok ha k1;have w2:=Wd.of_ok hb k2;have e3:sg false (val lb)=(val lb:Nat):=rfl;rw[e3]at w2;refine⟨?_,?_⟩;unfold qOf;rw[r1];exact w1;unfold qOf;rw[r2];exact w2
structure FX where
 na:Bool
 A:Option Addr
 n:Nat
 c:Nat
 la:List Nat
 nb:Bool
 B:Option Addr
 m:Nat
 d:Nat
 lb:List Nat
def FX.in_(w:World)(e:FX):Prop:=Lim w e.A e.n e.c e.la/\Lim w e.B e.m e.d e.lb
def FX.ok(e:FX):Bool:=okF e.na e.la e.nb e.lb
def FX.q(e:FX):Rat:=qOf e.na e.la e.lb
def At4(w:World)(g o:Nat)(na:Bool)(A:Option Addr)(n c:Nat)(nb:Bool)(B:Option Addr)(m d:Nat):Prop:=
 w.cell? ⟨g,o,none⟩=some (.bool na)/\w.cell? ⟨g,o+1,none⟩=some (.slice A n c)/\w.cell? ⟨g,o+2,none⟩=some (.bool nb)/\w.cell? ⟨g,o+3,none⟩=some (.slice B m d)
theorem At4.below{w w':World}{g o:Nat}{na:Bool}{A:Option Addr}{n c:Nat}{nb:Bool}{B:Option Addr}{m d:Nat}(h:At4 w g o na A n c nb B m d)(hb:Below w.heap.size w w'):At4 w' g o na A n c nb B m d:=
 ⟨Za hb h.1,Za hb h.2.1,Za hb h.2.2.1,Za hb h.2.2.2⟩
def FXL(w:World)(A:Option Addr)(n c:Nat)(es:List FX):Prop:=
 es.length=n/\n<=c/\c<=maxLen/\(∀ e ∈ es,e.in_ w)/\(0<n->∃ g o,A=some ⟨g,o,none⟩/\∀ (k:Nat) (e:FX),es[k]?=some e->At4 w g (o+k*4) e.na e.A e.n e.c e.nb e.B e.m e.d)
section
variable{w w':World}{A:Option Addr}{n c:Nat}{es:List FX}
theorem FX.in_below{e:FX}(h:e.in_ w)(hb:Below w.heap.size w w'):e.in_ w':=⟨h.1.below hb,h.2.below hb⟩
theorem FXL.below(h:FXL w A n c es)(hb:Below w.heap.size w w'):FXL w' A n c es:=by
 obtain⟨h1,h2,h3,h4,h5⟩:=h;refine⟨h1,h2,h3,λe he=>FX.in_below (h4 e he) hb,λhn=>?_⟩;obtain⟨g,o,e1,hc⟩:=h5 hn;exact⟨g,o,e1,λk e he=>(hc k e he).below hb⟩
theorem FXL.at_(h:FXL w A n c es){k:Nat}(hk:k<n):∃ g o e,A=some ⟨g,o,none⟩/\es[k]?=some e/\At4 w g (o+k*4) e.na e.A e.n e.c e.nb e.B e.m e.d/\Lim w e.A e.n e.c e.la/\Lim w e.B e.m e.d e.lb:=by
 obtain⟨h1,-,-,h4,h5⟩:=h;obtain⟨g,o,e1,hc⟩:=h5 Gk;have he:=Qb (l:=es) (i:=k) Gk;have hi:=h4 es[k] (QO _);exact⟨g,o,es[k],e1,he,hc k _ he,hi.1,hi.2⟩
theorem FXL.fl(h:FXL w A n c es)(hk:∀ e ∈ es,e.ok=true):FL w A n c (es.map FX.q):=by
 obtain⟨h1,h2,h3,h4,h5⟩:=h;refine⟨es.map λe=>⟨e.na,e.A,e.n,e.c,e.nb,e.B,e.m,e.d,e.q⟩,by simp[h1],h2,h3,λe he=>?_,by rw[List.map_map];rfl,λhn=>?_⟩
 ·obtain⟨x,hx,rfl⟩:=List.mem_map.1 he
  exact Zrp (h4 x hx).1 (h4 x hx).2 (hk x hx)
 obtain⟨g,o,e1,hc⟩:=h5 hn;refine⟨g,o,e1,λk e he=>?_⟩;rw[Qd]at he;obtain⟨x,hx,rfl⟩:=Option.map_eq_some_iff.1 he;exact hc k x hx
end
structure RX where
 A:Option Addr
 n:Nat
 c:Nat
 es:List FX
def MFL(w:World)(A:Option Addr)(n c:Nat)(Q:List (List Rat)):Prop:=
 Q.length=n/\n<=c/\c<=maxLen/\(0<n->∃ g o,A=some ⟨g,o,none⟩/\∀ (k:Nat) (q:List Rat),Q[k]?=some q->∃ A' n' c',w.cell? ⟨g,o+k,none⟩=some (.slice A' n' c')/\FL w A' n' c' q)
section
variable{w w':World}{A:Option Addr}{n c:Nat}{rs:List RX}{Q:List (List Rat)}{qs:List Rat}
theorem MFL.below(h:MFL w A n c Q)(hb:Below w.heap.size w w'):MFL w' A n c Q:=by
 obtain⟨h1,h2,h3,h5⟩:=h;refine⟨h1,h2,h3,λhn=>?_⟩;obtain⟨g,o,e1,hc⟩:=h5 hn;refine⟨g,o,e1,λk q hq=>?_⟩;obtain⟨A',n',c',h6,h7⟩:=hc k q hq;exact⟨A',n',c',Za hb h6,h7.below hb⟩
theorem MFL.at_(h:MFL w A n c Q){k:Nat}(hk:k<n):∃ g o A' n' c',A=some ⟨g,o,none⟩/\w.cell? ⟨g,o+k,none⟩=some (.slice A' n' c')/\FL w A' n' c' (Q[k]?.getD []):=by
 obtain⟨h1,-,-,h5⟩:=h;obtain⟨g,o,e1,hc⟩:=h5 Gk;have he:=Qb (l:=Q) (i:=k) Gk;obtain⟨A',n',c',h6,h7⟩:=hc k _ he;rw[he];exact⟨g,o,A',n',c',e1,h6,h7⟩
theorem FL.len(h:FL w A n c qs):qs.length=n:=by obtain⟨es,h1,-,-,-,h5,-⟩:=h;rw[<- h5,QR,h1]
theorem FL.cap(h:FL w A n c qs):n<=c/\c<=maxLen:=by obtain⟨es,h1,h2,h3,-⟩:=h;exact⟨h2,h3⟩
theorem FL.at_(h:FL w A n c qs){k:Nat}(hk:k<n):∃ g o na A1 n1 c1 nb B m d,A=some ⟨g,o,none⟩/\At4 w g (o+k*4) na A1 n1 c1 nb B m d/\Fr w na A1 n1 c1 nb B m d (qs[k]?.getD 0):=by
 obtain⟨es,h1,-,-,h4,rfl,h5⟩:=h;obtain⟨g,o,e1,hc⟩:=h5 Gk;have he:=Qb (l:=es) (i:=k) Gk;refine⟨g,o,es[k].na,es[k].A,es[k].n,es[k].c,es[k].nb,es[k].B,es[k].m,es[k].d,e1,hc k _ he,?_⟩;rw[Qd,he];exact h4 es[k] (QO _)
end
def psQ(qs:List Rat):Nat->Rat
 | 0=>0
 | k+1=>psQ qs k+qs[k]?.getD 0
theorem fSum_ok(A:Option Addr)(n c:Nat)(qs:List Rat)(w:World)(hL:FL w A n c qs)(hn:n<=1000)(hs:∀ k,k<n->Sm (qs[k]?.getD 0))(hp:∀ k,k<=n->Sm (psQ qs k)) :
    Calls Tryz.prog 66 #[.slice A n c] w (Zgs w (psQ qs n)):=by
 have hmx:=Gt;obtain⟨d4,c6⟩:=hL.cap;unfold maxLen at c6;replace hL:=Zb hL;replace hs:=Zb hs;replace hp:=Zb hp;obtain⟨W0,b3,a6,q0,s0⟩:=Zbp w 32 #[.bool false,.slice none 0 0,.bool false,.slice none 0 0];replace q0:=Zb q0;replace a6:=Zb a6;obtain⟨gR,a7⟩:∃ g,g=w.heap.size:=⟨_,rfl⟩;have kR:w.heap.size<=gR:=Gk;rw[<- a7]at q0;have c8:=Zb a7;go_in;go_wp2_with fail;(try rw[b3]);(try rw[<- a7]);clear b3 a7 s0
 go_loopg [12] n (λk iv wr=>∃ i:Nat,i+k=n/\iv=.int .i64 i/\Blk wr gR 32 #[.bool false,.slice none 0 0,.bool false,.slice none 0 0]/\Below w.heap.size w wr)
 case atStart=>exact⟨0,by omega,rfl,q0.out,a6.out⟩
 case round =>
  clear q0 a6;obtain⟨i,d5,rfl,qr,hB⟩:=hrel;obtain⟨wA,rfl⟩:=Gy wr;cases gk with
  | succ gk' =>
   obtain rfl:gk'=n-(i+1):=Gk;have a8:i<n:=Gk;have tlt:decide ((i:Int)<(n:Int))=true:=by simp;omega
   have bI:(i:Int)<(n:Int):=Gk;obtain⟨b,o,n1,A1,k1,c1,m1,B1,j1,d1,rfl,a9,hF⟩:=(hL.out.below hB).at_ a8;obtain⟨p0,p1,p2,p3⟩:=a9;obtain⟨V,hV,qV,O⟩:=Zz (w:=wA) 32 #[.bool false,.slice none 0 0,.bool false,.slice none 0 0];obtain⟨gv,a4⟩:=Gz wA.heap.size;rw[a4]at qV;obtain⟨z0,z1,z2,z3,z4,z5,z6,z7⟩:=qV.four;obtain⟨Y,hY,U,qY,kY,bY,sY⟩:=Zm n1 A1 k1 c1 m1 B1 j1 d1 O Gk qV;have a1:=Zb (Fr.keep (hF.below O) kY);have a2:=Zb (Gs hB U);have a3:=Zb (Zc U qr);obtain⟨y0,y1,y2,y3,-⟩:=qY.four;clear kY bY qV;go_wp2_with fail;(try rw[a4]);(try rw[hV]);(try rw[hY]);clear hV hY z0 z1 z2 z3 z4 z5 z6 z7 p0 p1 p2 p3 hF qr hB;refine(Zdk n1 m1 A1 B1 k1 c1 j1 d1 (qs[i]?.getD 0) Y a1.out).mono ?_;rintro e w1 ⟨rfl,a0⟩;have b7:=Gn a2 a0;have b9:=Gm a0 a3;clear y0 y1 y2 y3 a0 a2 a3 a1 U O;go_wp2_with fail
   go_roundg (n-(i+1))
   case measure=>omega
   case rel=>exact⟨i+1,by omega,by go_num,b9.out,b7.out⟩
  | zero =>
   obtain rfl:i=n:=Gk;have tge:decide ((i:Int)<(i:Int))=false:=Gh;have c4:decide ((1000:Int)<(i:Int))=false:=Gu Gk;have b6:decide (1000<i)=false:=Gu Gk;have b1:=Zb (Zji 0 1 wA Gi Gi Gi Gi);rw[Zd1]at b1;replace qr:=Zb qr;replace hB:=Zb hB;go_wp2_with fail;refine b1.out.mono ?_;rintro e w1 ⟨a0,n1,A1,k1,c1,m1,B1,j1,d1,rfl,hF⟩;replace hB:=Gn hB a0;replace qr:=Gm a0 qr;obtain⟨V,hV,qV,O⟩:=Zz (w:=w1) 32 #[.bool false,.slice none 0 0,.bool false,.slice none 0 0];obtain⟨gv,a4⟩:=Gz w1.heap.size;rw[a4]at qV;obtain⟨z0,z1,z2,z3,z4,z5,z6,z7⟩:=qV.four;obtain⟨Y,hY,U,qY,kY,bY,sY⟩:=Zm n1 A1 k1 c1 m1 B1 j1 d1 O Gk qV;have a1:=Zb (Fr.keep (hF.below O) kY);have a2:=Gn hB U;have a3:=Gm U qr;have b2:w.heap.size<=gv:=by have:=hB.out.size;omega
   have b8:gR≠gv:=by have:=qr.out.lt;omega
   have b5:=Zb qY;clear kY bY qV b1 qr hB hF qY;go_wp2_with fail;(try rw[a4]);(try rw[hV]);(try rw[hY]);clear hV hY z0 z1 z2 z3 z4 z5 z6 z7 a0 U O;have b4:((0:Int):Rat)=psQ qs 0:=rfl;rw[b4]at a1;clear b4
   go_loopg [8,9] i (λk ev jv wr=>∃ (j:Nat) (n1:Bool) (A1:Option Addr) (k1 c1:Nat) (m1:Bool) (B1:Option Addr) (j1 d1:Nat),j+k=i/\ev=.int .i64 0/\jv=.int .i64 j/\Blk wr gv 32 #[.bool n1,.slice A1 k1 c1,.bool m1,.slice B1 j1 d1]/\Fr wr n1 A1 k1 c1 m1 B1 j1 d1 (psQ qs j)/\Blk wr gR 32 #[.bool false,.slice none 0 0,.bool false,.slice none 0 0]/\Below w.heap.size w wr)
   case atStart=>exact⟨0,n1,A1,k1,c1,m1,B1,j1,d1,by omega,rfl,rfl,b5.out,a1.out,a3.out,a2.out⟩
   case round =>
    clear b5 a1 a3 a2;obtain⟨j,n1,A1,k1,c1,m1,B1,j1,d1,d0,rfl,rfl,qv,hF,qr,hB⟩:=hrel;obtain⟨wC,rfl⟩:=Gy wr;cases gk with
    | zero =>
     obtain rfl:j=i:=Gk;have c9:decide ((j:Int)<(j:Int))=false:=Gh;obtain⟨x0,x1,x2,x3,-⟩:=qv.four;obtain⟨p0,p1,p2,p3,p4,p5,p6,p7⟩:=qr.four;obtain⟨Z5,hZ,bE,qZ,kZ,-,-⟩:=Zm n1 A1 k1 c1 m1 B1 j1 d1 hB kR qr;have dW:=Zb (Fr.keep hF kZ);obtain⟨r0,r1,r2,r3,-⟩:=qZ.four;replace bE:=Zb bE;clear kZ qZ qr qv hF hB;go_wp2_with fail;(try rw[hZ]);refine bodyPost_ret (v:=.tuple #[.agg #[.bool n1,.slice A1 k1 c1,.bool m1,.slice B1 j1 d1],.int .i64 0]) (by simp[results,Tryz.results66,go_sem,r0,r1,r2,r3]) rfl ?_;exact IL
    | succ gk' =>
     obtain rfl:gk'=i-(j+1):=Gk;have a8:j<i:=Gk;have tlt:decide ((j:Int)<(i:Int))=true:=by simp;omega
     have bI:(j:Int)<(i:Int):=Gk;obtain⟨b,o,n2,A2,k2,c2,m2,B2,j2,d2,rfl,a9,J⟩:=(hL.out.below hB).at_ a8;obtain⟨p0,p1,p2,p3⟩:=a9;have c5:Hid (psQ qs (j+1)=psQ qs j+qs[j]?.getD 0):=Zb rfl;replace hF:=Zb hF;replace J:=Zb J;replace qv:=Zb qv;replace qr:=Zb qr;replace hB:=Zb hB;go_wp2_with fail;have I:wC.cell? ⟨gv,0,none⟩=some (.bool n1):=qv.out.cell 0;have E:wC.cell? ⟨gv,1,none⟩=some (.slice A1 k1 c1):=qv.out.cell 1;have u:wC.cell? ⟨gv,2,none⟩=some (.bool m1):=qv.out.cell 2;have C:wC.cell? ⟨gv,3,none⟩=some (.slice B1 j1 d1):=qv.out.cell 3;have h:Below wC.heap.size wC wC.drew:=Zg (QQ _ _) 1;replace hF:=Zb (hF.out.below h);replace J:=Zb (J.out.below h);replace qv:=Gm h qv;replace qr:=Gm h qr;have b0:=Gn hB h;clear hB;replace I:=Za h I;replace E:=Za h E;replace u:=Za h u;replace C:=Za h C;replace p0:=Za h p0;replace p1:=Za h p1;replace p2:=Za h p2;replace p3:=Za h p3;clear h;refine Zad [9] (λwx=>(wx.cell? ⟨gv,0,none⟩=some (.bool n1))/\(wx.cell? ⟨gv,1,none⟩=some (.slice A1 k1 c1))/\(wx.cell? ⟨gv,2,none⟩=some (.bool m1))/\(wx.cell? ⟨gv,3,none⟩=some (.slice B1 j1 d1))/\(wx.cell? ⟨b,o+j*4,none⟩=some (.bool n2))/\(wx.cell? ⟨b,o+j*4+1,none⟩=some (.slice A2 k2 c2))/\(wx.cell? ⟨b,o+j*4+2,none⟩=some (.bool m2))/\(wx.cell? ⟨b,o+j*4+3,none⟩=some (.slice B2 j2 d2))) hmx ⟨I,E,u,C,p0,p1,p2,p3⟩ (λ_=>?_);refine Zin 5 [0,1,2,3,4] rfl Gj ⟨I,E,u,C,p0,p1,p2,p3⟩ ?_
     iterate 5 (refine tkA ?_;try simp only[Qj,Zf6,Zfl,Zfx,Gr,Gq,Gp])
     refine tk0 ?_;refine wpAnyL_o 5 λK hK=>?_
     (try rw[Gx Gj]);go_simp;refine(Zsi n1 m1 n2 m2 A1 B1 A2 B2 k1 c1 j1 d1 k2 c2 j2 d2 (psQ qs j) (qs[j]?.getD 0) wC.drew hF.out J.out (hp.out j Gk) (hs.out j a8)).mono ?_;rintro e w7 ⟨f,n3,A3,k3,c3,m3,B3,j3,d3,rfl,a5⟩;replace hF:=Zb (hF.out.below f);replace J:=Zb (J.out.below f);replace qv:=Gm f qv;replace qr:=Gm f qr;have c7:=Gn b0 f;clear b0;replace I:=Za f I;replace E:=Za f E;replace u:=Za f u;replace C:=Za f C;replace p0:=Za f p0;replace p1:=Za f p1;replace p2:=Za f p2;replace p3:=Za f p3;clear f;refine hK.out _ _ (λ_=>⟨I,E,u,C,p0,p1,p2,p3⟩) ?_;clear hK K
     try simp only[Qj,Zf6,Zfl,Zfx,Gr,Gq,Gp]
     replace a5:=Zb a5;refine Zfm 3 [6,7,8] rfl Gj ⟨I,E,u,C,p0,p1,p2,p3⟩ ?_
     iterate 3 (refine tkA ?_;try simp only[Qj,Zf6,Zfl,Zfx,Gr,Gq,Gp])
     refine tk0 ?_;obtain⟨z0,z1,z2,z3,z4,z5,z6,z7⟩:=qv.out.four;obtain⟨Z5,hZ,bE,qZ,kZ,bZ,-⟩:=Zm n3 A3 k3 c3 m3 B3 j3 d3 c7.out b2 qv.out;have dW:=Zb (Fr.keep a5.out kZ);have c0:=Zb (bZ _ _ _ b8 qr.out);refine Zr (i:=9) rfl Gj Gj (λK hK=>?_);go_simp;(try rw[hZ]);refine hK.out _ _ ?_;clear hK K
     try simp only[Qj,Zf6,Zfl,Zfx,Gr,Gq,Gp]
     refine Zi (i:=10) (v:=?v77) rfl Gj Gj Gj Gj (Or.inl ⟨by kernel_rfl,?hy77⟩) (λhno=>absurd hno Gi) ?rest77
     case hy77=>(intro W2 _;go_simp;try with_reducible rfl)
     try simp only[Qj,Zf6,Zfl,Zfx,Gr,Gq,Gp]
     refine wpAnyL_fin ?_;replace qZ:=Zb qZ;replace bE:=Zb bE;clear kZ bZ z0 z1 z2 z3 z4 z5 z6 z7 qv qr hF J a5 I E u C p0 p1 p2 p3;go_wp2_with fail
     go_roundg (i-(j+1))
     case measure=>omega
     case rel=>exact⟨j+1,n3,A3,k3,c3,m3,B3,j3,d3,by omega,rfl,by go_num,qZ.out,by rw[c5.out];exact dW.out,c0.out,bE.out⟩
theorem Zj3(g:Nat)(A:Option Addr)(n c:Nat)(qs:List Rat)(w:World)(hc:Blk w g 70 #[.int .i64 0])(hL:FL w A n c qs)(hn:n<=1000)(hs:∀ k,k<n->Sm (qs[k]?.getD 0))(hp:∀ k,k<=n->Sm (psQ qs k)) :
    Calls Tryz.prog 37 #[.pointer (some ⟨g,0,none⟩),.slice A n c] w (Ze9 w (psQ qs n)):=by
 obtain⟨W0,I,f,q2,s0⟩:=Zbp w 32 #[.bool false,.slice none 0 0,.bool false,.slice none 0 0];have Y:=hL.below f;have qc:=Zb (Zc f hc);replace q2:=Zb q2;have o:=Zb (fSum_ok A n c qs W0 Y hn hs hp);clear hL Y hs hp;go_in;go_wp2_with fail;(try rw[I]);clear I;refine o.out.mono ?_;rintro e w1 ⟨h,n1,A1,k1,c1,m1,B1,j1,d1,rfl,J⟩;have u:=Gs f h;have U:=Zc h qc.out;replace q2:=Gm h q2;clear qc o;go_wp2_with fail;refine(Zj4 g n1 m1 A1 B1 k1 c1 j1 d1 (psQ qs n) w1 U J).mono ?_;rintro e w2 ⟨C,n2,A2,k2,c2,m2,B2,j2,d2,rfl,E⟩;have O:=Gs u C;have q3:=Zc C q2.out;clear q2 J U;obtain⟨z0,z1,z2,z3,z4,z5,z6,z7⟩:=q3.four;obtain⟨W5,a0,au,q5,kW,-,s5⟩:=Zm n2 A2 k2 c2 m2 B2 j2 d2 O (Qa _) q3;have hF:=Zb (Fr.keep E kW);obtain⟨r0,r1,r2,r3,-⟩:=q5.four;replace au:=Zb au;clear kW E q3 q5 h C f u O;go_wp2_with fail;(try rw[a0]);refine bodyPost_ret (v:=.agg #[.bool n2,.slice A2 k2 c2,.bool m2,.slice B2 j2 d2]) (by simp[results,Tryz.results37,go_sem,r0,r1,r2,r3]) rfl ?_;exact FY
theorem Zcp(es fs:List WE):Zak (es++fs)=Zak es++Zak fs:=by
 induction es with
 | nil=>rfl
 | cons e l ih=>simp only[List.cons_append,Zak,ih]
theorem Zri(fs:List WE):∀ u ∈ Zak fs,u.oneCell'=true:=by
 induction fs with
 | nil=>intro u h;simp[Zak]at h
 | cons e l ih =>
  intro u h;simp only[Zak,List.mem_cons]at h;rcases h with rfl|rfl|h;rfl;rfl;exact ih u h
theorem Zhk(k:Nat):(Qi #[.bool false,.slice none 0 0] k).toList=Zak (Qg k Zck):=by
 rw[Zjo];unfold Qi madeCells;apply QJ;intro i;by_cases h:i<k*2;simp[h];simp[h]
def RowW(t:TypeId)(w:World)(base:Nat)(v:Value)(es:List WE):Prop:=
 (v=.slice none 0 0/\es=[]) \/ ∃ g sp,v=.slice (some ⟨g,0,none⟩) es.length (es.length+sp)/\base<=g/\es.length+sp<=maxLen/\Blk w g t (Zbj (es++Qg sp Zck))
section
variable{t:TypeId}{w w':World}{base:Nat}{v:Value}{es:List WE}
theorem RowW.own(h:RowW t w base v es):w.ownsRow base t 2 v es.length (Zak es):=by
 refine⟨Za5 es,?_⟩;rcases h with ⟨h1,rfl⟩|⟨g,sp,h1,h2,h3,h4⟩;exact .inl ⟨h1,rfl⟩;refine .inr ⟨g,_,_,h1,h2,h4,Qy _ _,h3,?_,?_⟩;simp[Zbj,Za5];simp only[Zbj];rw[Zcp,<- Za5 es];exact QE
theorem RowW.row_ge(h:RowW t w base v es):∀ k,v.ownBlock=some k->base<=k:=λk hk=>(h.own.lt k hk).1
theorem RowW.kept(h:RowW t w base v es)(hb:Below w.heap.size w w'):RowW t w' base v es:=by
 exact Fi
theorem RowW.keep(h:RowW t w base v es)(hg:w.grownBy w' v.ownBlock){A:Option Addr}{n c:Nat}{l:List Nat}(hL:Lim w A n c l):Lim w' A n c l:=by
 refine⟨hL.1,hL.2.1,hL.2.2.1,hL.2.2.2.1,λhn=>?_⟩;obtain⟨b,o,e,hc⟩:=hL.2.2.2.2 hn;refine⟨b,o,e,λk hk=>?_⟩;rw[<- hc k hk];refine QF (hg.block b (Zn (hc k hk)) (λe'=>?_));rcases h with ⟨rfl,_⟩|⟨g,sp,rfl,_,_,h4⟩;cases e';have f:b=g:=by simpa [Value.ownBlock]using e'
 subst f;have h1:=hc k hk;rw[h4.cell]at h1;exact Zc5 _ _ _ h1
end
section
variable{P:Program}(w:World)
end
def OwnP(t:TypeId)(w:World)(base:Nat)(v:Value)(xs:List Int):Prop:=∃ es,RowW t w base v es/\(∀ e ∈ es,Lim w e.A e.n e.c e.l/\e.ok=true)/\es.map WE.num=xs
section
variable{t:TypeId}{w w':World}{base:Nat}{v:Value}{xs:List Int}
theorem OwnP.nil(t:TypeId)(w:World)(base:Nat):OwnP t w base (.slice none 0 0) []:=⟨[],.inl ⟨rfl,rfl⟩,λe h=>by simp at h,rfl⟩
theorem OwnP.kept(h:OwnP t w base v xs)(hb:Below w.heap.size w w'):OwnP t w' base v xs:=by
 obtain⟨es,h1,h2,h3⟩:=h;exact⟨es,h1.kept hb,λe he=>⟨(h2 e he).1.below hb,(h2 e he).2⟩,h3⟩
theorem OwnP.row_ge(h:OwnP t w base v xs):∀ k,v.ownBlock=some k->base<=k:=by obtain⟨es,h1,_⟩:=h;exact h1.row_ge
theorem OwnP.poly(h:OwnP t w base v xs):∃ A c,v=.slice A xs.length c/\PolyL w A xs.length c xs:=by
 obtain⟨es,h1,h2,rfl⟩:=h;rcases h1 with ⟨rfl,rfl⟩|⟨g,sp,rfl,h4,h5,h6⟩;exact⟨none,0,rfl,[],⟨rfl,Qa _,QD _,λh=>absurd h Gh,λe h=>by simp at h⟩,rfl,λe h=>by simp at h⟩;rw[QR];refine⟨_,es.length+sp,rfl,es,⟨rfl,Qy _ _,h5,λ_=>⟨g,0,rfl,λk e he=>?_⟩,λe he=>(h2 e he).1⟩,rfl,λe he=>(h2 e he).2⟩;have hk:k<es.length:=(List.getElem?_eq_some_iff.1 he).1;have hc:=Zh7 (es:=es++Qg sp Zck) (i:=k) (e:=e) (by rw[List.getElem?_append_left hk];exact he);rw[Nat.zero_add,h6.cell,h6.cell];exact hc
theorem Zfk(b:Bool)(A:Option Addr)(n c:Nat):NoLimb #[.bool b,.slice A n c]:=λi x=>by
 match i with
 | 0=>simp
 | 1=>simp
 | i+2=>simp
theorem Wd.of_keep{neg:Bool}{A:Option Addr}{n c:Nat}{z:Int}(hk:∀ (A:Option Addr) (n c:Nat) (l:List Nat),Lim w A n c l->Lim w' A n c l)(h:Wd w neg A n c z):Wd w' neg A n c z:=⟨h.1,h.2.1,hk _ _ _ _ h.2.2⟩
end
theorem OwnP.snoc{t:TypeId}{w:World}{base:Nat}{v:Value}{xs:List Int}{neg:Bool}{A:Option Addr}{n c:Nat}{z:Int}{W:World}(h:OwnP t w base v (xs ++ [⟨neg,A,n,c,digits z.natAbs⟩].map WE.num))(hW:Wd W neg A n c z):OwnP t w base v (xs ++ [z]):=by
 rw[List.map_cons,List.map_nil,show WE.num ⟨neg,A,n,c,digits z.natAbs⟩=z from hW.sgEq]at h;exact h
section
variable{P:Program}(w:World)
end
structure RS where
 A:Option Addr
 n:Nat
 c:Nat
def RS.val(r:RS):Value:=.slice r.A r.n r.c
def Zax:List RS->List Value
 | []=>[]
 | e::l=>.slice e.A e.n e.c::Zax l
def Zao(es:List RS):Array Value:=(Zax es).toArray
def Zbl:RS:=⟨none,0,0⟩
theorem Zbb(es:List RS):(Zax es).length=es.length*1:=by
 induction es with
 | nil=>rfl
 | cons e l ih=>simp only[Zax,List.length_cons,ih];omega
theorem Zc0(es:List RS):Zax es=es.map RS.val:=by
 induction es with
 | nil=>rfl
 | cons e l ih=>simp only[Zax,List.map_cons,ih];rfl
theorem Zrx{es:List RS}{i:Nat}{e:RS}(h:es[i]?=some e):(Zax es)[i]?=some (.slice e.A e.n e.c):=by
 rw[Zc0,Qd,h];rfl
theorem Zea{es:List RS}{i:Nat}{e:RS}(h:es[i]?=some e):(Zao es)[i]?=some (.slice e.A e.n e.c):=by simpa [Zao]using Zrx h
theorem Zmc(es:List RS):∀ (i x:Nat),(Zax es)[i]?≠some (limb x):=by
 intro i x;rw[Zc0,Qd];cases es[i]? with
 | none=>simp
 | some e=>simp[RS.val]
theorem Zcg(es:List RS):NoLimb (Zao es):=λi x=>by simpa [Zao]using Zmc es i x
theorem Zco(es fs:List RS):Zax (es++fs)=Zax es++Zax fs:=by simp only[Zc0,List.map_append]
theorem Zr0(fs:List RS):∀ u ∈ Zax fs,u.oneCell'=true:=by
 intro u h;rw[Zc0]at h;obtain⟨r,-,rfl⟩:=List.mem_map.1 h;rfl
theorem Zev{es:List RS}{i:Nat}(e:RS):(Zao es).setIfInBounds i (.slice e.A e.n e.c)=Zao (es.set i e):=by
 unfold Zao;rw[Zc0,Zc0,List.map_set];simp[RS.val]
theorem Zhn(k:Nat):(Qi #[.slice none 0 0] k).toList=Zax (Qg k Zbl):=by
 rw[Zc0];unfold Qi;apply QJ;intro i;by_cases h:i<k;simp[h,Zbl,RS.val,QA,Nat.mod_one];simp[h,QA]
def RowS(t:TypeId)(w:World)(base:Nat)(v:Value)(es:List RS):Prop:=
 (v=.slice none 0 0/\es=[]) \/ ∃ g sp,v=.slice (some ⟨g,0,none⟩) es.length (es.length+sp)/\base<=g/\es.length+sp<=maxLen/\Blk w g t (Zao (es++Qg sp Zbl))
section
variable{t:TypeId}{w w':World}{base:Nat}{v:Value}{es:List RS}
theorem RowS.own(h:RowS t w base v es):w.ownsRow base t 1 v es.length (Zax es):=by
 refine⟨Zbb es,?_⟩;rcases h with ⟨h1,rfl⟩|⟨g,sp,h1,h2,h3,h4⟩;exact .inl ⟨h1,rfl⟩;refine .inr ⟨g,_,_,h1,h2,h4,Qy _ _,h3,?_,?_⟩;simp[Zao,Zbb];simp only[Zao];rw[Zco,<- Zbb es];exact QE
theorem RowS.row_ge(h:RowS t w base v es):∀ k,v.ownBlock=some k->base<=k:=λk hk=>(h.own.lt k hk).1
theorem RowS.kept(h:RowS t w base v es)(hb:Below w.heap.size w w'):RowS t w' base v es:=by
 exact Fi
theorem RowS.keep(h:RowS t w base v es)(hg:w.grownBy w' v.ownBlock){A:Option Addr}{n c:Nat}{l:List Nat}(hL:Lim w A n c l):Lim w' A n c l:=by
 refine⟨hL.1,hL.2.1,hL.2.2.1,hL.2.2.2.1,λhn=>?_⟩;obtain⟨b,o,e,hc⟩:=hL.2.2.2.2 hn;refine⟨b,o,e,λk hk=>?_⟩;rw[<- hc k hk];refine QF (hg.block b (Zn (hc k hk)) (λe'=>?_));rcases h with ⟨rfl,_⟩|⟨g,sp,rfl,_,_,h4⟩;cases e';have f:b=g:=by simpa [Value.ownBlock]using e'
 subst f;have h1:=hc k hk;rw[h4.cell]at h1;exact Zcg _ _ _ h1
end
section
variable{P:Program}(w:World)
theorem Zk3(base:Nat)(t ty e:TypeId)(i:TypeInfo)(ht:P.underlying t=some (.slice e))(hi:P.info? e=some i)(hz:i.zero=some (.slice none 0 0))
    (hs:i.size=1) (hby:i.bytes=24) (v:Value) (es:List RS) (ah:RowS e w base v es)
    (B:Nat) (A:Option Addr) (m c:Nat) (fs:List RS) (hr:Reads w B 1 A m (Zax fs)) (hm:fs.length=m) (h63:es.length+m<=1000) (hbase:base<=w.heap.size) :
    ∃ v' w',(Builtin.append_ #[t,t] ty #[v,.slice A m c]).run P w=.ok v' w'/\RowS e w' base v' (es++fs)/\w.grownBy w' v.ownBlock:=by
 rcases Nat.eq_zero_or_pos m with h0|h0
 ·subst h0
  obtain rfl:fs=[]:=List.eq_nil_of_length_eq_zero hm;rw[List.append_nil];rcases A with _|ad;exact⟨v,w,Zce w base t ty e i 1 ht hi v _ _ ah.own c,ah,World.grownBy.refl w _⟩;exact Ec
 obtain⟨ad,rfl,_,hc⟩:=hr.2 h0;have hl:(Zax fs).length=m*i.size:=by rw[Zbb,hm,hs]
 have C:es.length*i.size=(Zax es).length:=by rw[Zbb,hs]
 rcases ah with ⟨rfl,rfl⟩|⟨g,sp,rfl,h2,h3,h4⟩
 ·have f:=run_append_nil (P:=P) w t ty e i _ ht hi hz ad m c (Zax fs) hl hc h0 Gk (by rw[hby];omega)
  have h:=grownCap_ge w m 0 e;have o:=grownCap_le_maxLen w m 0 e (by unfold maxLen;simp only[List.length_nil]at h63;omega);refine⟨_,_,f,.inr ⟨w.heap.size,grownCap w m 0 e-m,?_,hbase,?_,?_⟩,⟨rfl,rfl,rfl,by simp,λk hk _=>Below.heap_alloc w.drew _ k hk⟩⟩;rw[QS,hm,Qq h];rw[QS,hm,Qq h];exact o;have:=heap_alloc_new w.drew (.cells ((Zax fs).toArray++Qi (Value.slice none 0 0).cells (grownCap w m 0 e-m)) e);unfold Blk;refine this.trans ?_;congr 1
  have hx:(Zax fs).toArray++Qi (Value.slice none 0 0).cells (grownCap w m 0 e-m)=Zao ([]++fs++Qg (grownCap w m 0 e-m) Zbl):=by
   apply Array.toList_inj.1;rw[Qt,show (Value.slice none 0 0).cells=#[.slice none 0 0] from rfl,Zhn];simp[Zao,Zco]
  rw[hx]
 by_cases hroom:m<=sp
 ·have f:=run_append_room (P:=P) w t ty e i ht hi g es.length (es.length+sp) _ h4 ad m c (Zax fs) hl hc (Zr0 fs) Gk (by rw[C,Zbb,Zbb];simp[Zao,Zbb];omega)
  refine⟨_,_,f,.inr ⟨g,sp-m,?_,h2,?_,?_⟩,⟨rfl,rfl,rfl,by simp[World.setRow],λk _ hk=>setRow_other w g k _ (λe'=>hk (by simp[Value.ownBlock,e']))⟩⟩;rw[Qm,hm,show es.length+m+(sp-m)=es.length+sp by omega];rw[Qm,hm];omega;refine(setRow_heap w g _ _ e _ h4).trans ?_;congr 2;unfold Zao;congr 1;rw[C];have I:Qg sp Zbl=Qg m Zbl++Qg (sp-m) Zbl:=by rw[List.replicate_append_replicate];congr 1;omega
  have J:(Zax fs).length=(Zax (Qg m Zbl)).length:=by rw[Zbb,Zbb,hm,List.length_replicate]
  simp only[Zco];rw[QE,J,<- Qm,I,Zco,<- QK (Zax es),List.drop_left,QK]
 have E:∀ j u,(Zax es)[j]?=some u->w.cell? ((⟨g,0,none⟩:Addr).add j)=some u:=λj u hu=>by
   rw[Zf,Nat.zero_add,h4.cell];simp only[Zao,List.getElem?_toArray,Zco];exact Fw
 have f:=run_append_grow (P:=P) w t ty e i _ ht hi hz ⟨g,0,none⟩ es.length (es.length+sp) (Zax es) C.symm E ad m c (Zax fs) hl hc Gk Gk (growslice_fits Gk (by rw[hby];omega));have h:=grownCap_ge w (es.length+m) (es.length+sp) e;have o:=grownCap_le_maxLen w (es.length+m) (es.length+sp) e (by unfold maxLen;omega);refine⟨_,_,f,.inr ⟨w.heap.size,grownCap w (es.length+m) (es.length+sp) e-(es.length+m),?_,hbase,?_,?_⟩,⟨rfl,rfl,rfl,by simp,λk hk _=>Below.heap_alloc w.drew _ k hk⟩⟩;rw[Qm,hm,Qq h];rw[Qm,hm,Qq h];exact o;have:=heap_alloc_new w.drew (.cells ((Zax es).toArray++(Zax fs).toArray++Qi (Value.slice none 0 0).cells (grownCap w (es.length+m) (es.length+sp) e-(es.length+m))) e);unfold Blk;refine this.trans ?_;congr 1
 have hx:(Zax es).toArray++(Zax fs).toArray++Qi (Value.slice none 0 0).cells (grownCap w (es.length+m) (es.length+sp) e-(es.length+m))=Zao (es++fs++Qg (grownCap w (es.length+m) (es.length+sp) e-(es.length+m)) Zbl):=by
  apply Array.toList_inj.1;rw[Qt,Qt,show (Value.slice none 0 0).cells=#[.slice none 0 0] from rfl,Zhn];simp[Zao,Zco]
 rw[hx]
end
def sumQ:Nat->(Nat->Rat)->Rat
 | 0,_=>0
 | n+1,f=>sumQ n f+f n
def Zcf(i a:Nat):Nat:=if a<i then a else a+1
def sgnQ(i:Nat):Rat:=if i%2=0 then 1 else -1
def Zas:Nat->(Nat->Nat->Rat)->Rat
 | 0,_=>1
 | n+1,M=>sumQ (n+1) λi=>sgnQ i*M i 0*Zas n (λa b=>M (Zcf i a) (b+1))
theorem Zx{n:Nat}{f g:Nat->Rat}(h:∀ i,i<n->f i=g i):sumQ n f=sumQ n g:=by
 induction n with
 | zero=>rfl
 | succ n ih=>simp only[sumQ];rw[ih (λi hi=>h i Gk),h n Gk]
theorem EI{G:Prop}(h:G:=by
 induction n with
 | zero=>simp only[sumQ];grind
 | succ n ih=>simp only[sumQ];rw[ih];grind):G:=h
theorem Zeo{n:Nat}(f g:Nat->Rat)(x y:Rat):sumQ n (λi=>x*f i+y*g i)=x*sumQ n f+y*sumQ n g:=by
 exact EI
theorem Zd4{n:Nat}{f:Nat->Rat}(h:∀ i,i<n->f i=0):sumQ n f=0:=by
 induction n with
 | zero=>rfl
 | succ n ih=>simp only[sumQ];rw[ih (λi hi=>h i Gk),h n Gk];grind
theorem Zgt{n:Nat}{f:Nat->Rat}(k:Nat)(hk:k<n)(h:∀ i,i<n->i≠k->f i=0):sumQ n f=f k:=by
 induction n with
 | zero=>omega
 | succ n ih =>
  simp only[sumQ];by_cases hn:k=n
  ·subst hn
   rw[Zd4 (λi hi=>h i Gk Gk)];grind
  rw[ih Gk (λi hi=>h i Gk),h n Gk Gk];grind
theorem Zvr{n:Nat}{f:Nat->Rat}(k:Nat)(hk:k+1<n)(h:∀ i,i<n->i≠k->i≠k+1->f i=0):sumQ n f=f k+f (k+1):=by
 induction n with
 | zero=>omega
 | succ n ih =>
  simp only[sumQ];by_cases hn:k+1=n
  ·subst hn
   rw[Zgt k Gk (λi hi h2=>h i Gk h2 Gk)]
  rw[ih Gk (λi hi=>h i Gk),h n Gk Gk Gk];grind
theorem Zo3{i a n:Nat}(ha:a<n):Zcf i a<n+1:=by unfold Zcf;split <;> omega
theorem Zu4(i a:Nat):Zcf i a≠i:=by unfold Zcf;split <;> omega
theorem Zh1{i k:Nat}(h:k≠i):Zcf i (if k<i then k else k-1)=k:=by
 unfold Zcf;by_cases h1:k<i;rw[Gx h1,Gx h1];rw[Gw h1,Gw Gk];omega
theorem Zul{i a b:Nat}(h:Zcf i a=Zcf i b):a=b:=by unfold Zcf at h;split at h <;> split at h <;> omega
theorem Za8{n:Nat}{M N:Nat->Nat->Rat}(h:∀ a b,a<n->b<n->M a b=N a b):Zas n M=Zas n N:=by
 induction n generalizing M N with
 | zero=>rfl
 | succ n ih =>
  simp only[Zas];refine Zx λi hi=>?_;rw[h i 0 hi Gk,ih (λa b ha hb=>h _ _ (Zo3 ha) Gk)]
def Zah(M:Nat->Nat->Rat)(k:Nat)(r:Nat->Rat):Nat->Nat->Rat:=λa b=>if a=k then r b else M a b
theorem Ze1{M:Nat->Nat->Rat}{k i:Nat}{r:Nat->Rat}(h:k≠i) :
    (λa b=>Zah M k r (Zcf i a) (b+1))=Zah (λa b=>M (Zcf i a) (b+1)) (if k<i then k else k-1) (λb=>r (b+1)):=by
 funext a b
 unfold Zah;by_cases ha:a=(if k<i then k else k-1);rw[Gx ha,ha,Zh1 h,Gx rfl];rw[Gw ha,Gw];intro e;exact ha (Zul (i:=i) (by rw[e,Zh1 h]))
theorem Ze2{M:Nat->Nat->Rat}{k:Nat}{r:Nat->Rat}:(λa b=>Zah M k r (Zcf k a) (b+1))=(λa b=>M (Zcf k a) (b+1)):=by
 funext a b
 unfold Zah;rw[Gw (Zu4 k a)]
theorem Zgb{n:Nat}(M:Nat->Nat->Rat){k:Nat}(hk:k<n)(r s:Nat->Rat)(x y:Rat) :
    Zas n (Zah M k (λb=>x*r b+y*s b))=x*Zas n (Zah M k r)+y*Zas n (Zah M k s):=by
 induction n generalizing M k r s with
 | zero=>omega
 | succ n ih =>
  simp only[Zas];rw[<- Zeo];refine Zx λi hi=>?_;by_cases h:k=i
  ·subst h
   rw[Ze2,Ze2,Ze2];simp only[Zah,if_true]
   grind
  rw[Ze1 h,Ze1 h,Ze1 h];rw[ih (λa b=>M (Zcf i a) (b+1)) (k:=if k<i then k else k-1) (by split <;> omega) (λb=>r (b+1)) (λb=>s (b+1))];simp only[Zah,Gw (show ¬ i=k from λe=>h e.symm)]
  grind
theorem Ztd(i:Nat):sgnQ (i+1)=- sgnQ i:=by
 unfold sgnQ;rcases Nat.mod_two_eq_zero_or_one i with h|h;rw[Gx h,Gw Gk];rw[Gw (by omega:¬ i%2=0),Gx Gk];grind
theorem Zpa{n:Nat}{M:Nat->Nat->Rat}{k:Nat}(hk:k+1<n)(h:∀ b,M (k+1) b=M k b):Zas n M=0:=by
 induction n generalizing M k with
 | zero=>omega
 | succ n ih =>
  simp only[Zas];rw[Zvr k hk]
  ·have hm:(λa b=>M (Zcf k a) (b+1))=(λa b=>M (Zcf (k+1) a) (b+1)):=by
     funext a b
     by_cases ha:a=k
     ·subst ha
      simp only[Zcf,Gw (QG a),Gx (QP a)];exact h _
     have:Zcf k a=Zcf (k+1) a:=by unfold Zcf;split <;> split <;> omega
     rw[this]
   rw[hm,h 0,Ztd];grind
  intro i hi h1 h2;rw[ih (M:=λa b=>M (Zcf i a) (b+1)) (k:=if k<i then k else k-1)]
  ·grind
  ·split <;> omega
  intro b;have e1:Zcf i (if k<i then k else k-1)=k:=Zh1 (Qs h1);have e2:Zcf i ((if k<i then k else k-1)+1)=k+1:=by unfold Zcf;split <;> split <;> omega
  rw[e1,e2];exact h _
theorem Zdy(M:Nat->Nat->Rat)(k:Nat):Zah M k (M k)=M:=by
 funext a b;unfold Zah;split
 rename_i h;rw[h];rfl
theorem Zb7(M:Nat->Nat->Rat){k l:Nat}(h:k≠l)(r s:Nat->Rat):Zah (Zah M k r) l s=Zah (Zah M l s) k r:=by
 funext a b;unfold Zah
 by_cases h1:a=k;subst h1;simp[h];simp[h1]
theorem Zkx{n:Nat}(M:Nat->Nat->Rat){k:Nat}(hk:k<n)(r s:Nat->Rat) :
    Zas n (Zah M k (λb=>r b+s b))=Zas n (Zah M k r)+Zas n (Zah M k s):=by
 have:=Zgb M hk r s 1 1;rw[show (λb=>r b+s b)=(λb=>1*r b+1*s b) by funext b;grind,this];grind
theorem Zik{n:Nat}{k l:Nat}(hk:k<n)(hl:l<n)(hne:k≠l)(hz:∀ (M:Nat->Nat->Rat),(∀ b,M k b=M l b)->Zas n M=0)(M:Nat->Nat->Rat)(r s:Nat->Rat) :
    Zas n (Zah (Zah M k r) l s)=- Zas n (Zah (Zah M k s) l r):=by
 have h:=hz (Zah (Zah M k (λb=>r b+s b)) l (λb=>r b+s b)) (λb=>by simp[Zah,hne]);have h1:=hz (Zah (Zah M k r) l r) (λb=>by simp[Zah,hne]);have h2:=hz (Zah (Zah M k s) l s) (λb=>by simp[Zah,hne]);rw[Zkx _ hl,Zb7 _ hne,Zb7 _ hne,Zkx _ hk,Zkx _ hk,<- Zb7 _ hne,<- Zb7 _ hne,<- Zb7 _ hne,<- Zb7 _ hne,h1,h2]at h
 grind
theorem Zjw{n:Nat}:∀ (d:Nat) (M:Nat->Nat->Rat) (k:Nat),k+d+1<n->(∀ b,M k b=M (k+d+1) b)->Zas n M=0:=by
 intro d
 induction d with
 | zero=>intro M k hk h;exact Zpa hk (λb=>(h b).symm)
 | succ d ih =>
  intro M k hk h;have h1:=Zik (n:=n) (k:=k+d+1) (l:=k+d+2) Gk Gk Gk (λM h=>Zpa (k:=k+d+1) Gk (λb=>(h b).symm)) M (M (k+d+1)) (M (k+d+2));rw[Zdy,Zdy]at h1;rw[h1,ih _ k Gk]
  ·grind
  intro b;have:=h b;rw[show k+(d+1)+1=k+d+2 by omega]at this;simp only[Zah];rw[Gw Gk,Gw Gk,Gw Gk];simpa using this
theorem Ziv{n:Nat}{M:Nat->Nat->Rat}{k l:Nat}(hk:k<n)(hl:l<n)(hne:k≠l)(h:∀ b,M k b=M l b):Zas n M=0:=by
 rcases Qw hne with h1|h1;exact Zjw (l-k-1) M k Gk (λb=>by rw[show k+(l-k-1)+1=l by omega];exact h b);exact Zjw (k-l-1) M l Gk (λb=>by rw[show l+(k-l-1)+1=k by omega];exact(h b).symm)
theorem Zt6{n:Nat}(M:Nat->Nat->Rat){k l:Nat}(hk:k<n)(hl:l<n)(hne:k≠l):Zas n (Zah (Zah M k (M l)) l (M k))=- Zas n M:=by
 have h:=Zik hk hl hne (λM h=>Ziv hk hl hne h) M (M l) (M k);rw[h];congr 1;rw[Zdy];congr 1
 funext a b
 unfold Zah
 split
 rename_i h;rw[h];rfl
theorem Zpw{n:Nat}(M:Nat->Nat->Rat){k l:Nat}(hk:k<n)(hl:l<n)(hne:k≠l)(c:Rat):Zas n (Zah M k (λb=>M k b+c*M l b))=Zas n M:=by
 have h:=Zgb M hk (M k) (M l) 1 c
 rw[show (λb=>M k b+c*M l b)=(λb=>1*M k b+c*M l b) by funext b;grind,h,Zdy,
  Ziv (M:=Zah M k (M l)) hk hl hne (λb=>by simp[Zah,Qs hne])]
 grind
theorem FF{G:Prop}(h:G:=by
 by_cases ha:a=l;simp[ha];rw[Gw ha,Gw ha];by_cases h1:a<m;rw[Gx h1,Gx Gk];rw[Gw h1,Gw Gk]):G:=h
theorem Fm{G:Prop}(h:G:=by
 unfold Zah;by_cases ha:a=m;subst ha;simp[hml];rw[Gw ha];by_cases hal:a=l;simp[hal];rw[Gw hal];by_cases h1:a<m;rw[Gx Gk];simp[hal,h1];rw[Gw Gk];simp[hal,h1]):G:=h
theorem Zlt{n:Nat}(M:Nat->Nat->Rat){l:Nat}(hl:l<n)(c:Nat->Rat):Zas n (λa b=>if a=l then M a b else M a b+c a*M l b)=Zas n M:=by
 have key:∀ m,m<=n->Zas n (λa b=>if a=l then M a b else if a<m then M a b+c a*M l b else M a b)=Zas n M:=by
  intro m
  induction m with
  | zero=>intro _;congr 1;funext a b;split <;> rfl
  | succ m ih =>
   intro hm;have h0:=ih Gk;by_cases hml:m=l
   ·rw[<- h0];congr 1;funext a b
    exact FF
   have h1:=Zpw (n:=n) (λa b=>if a=l then M a b else if a<m then M a b+c a*M l b else M a b) (k:=m) (l:=l) Gk hl hml (c m);rw[h0]at h1;rw[<- h1];congr 1;funext a b;exact Fm
 rw[<- key n (Qa _)];exact Za8 λa b ha hb=>by rw[Gx ha]
def Za2:Nat->(Nat->Rat)->Rat
 | 0,_=>1
 | n+1,f=>Za2 n f*f n
theorem Zcv{n:Nat}{f g:Nat->Rat}(h:∀ i,i<n->f i=g i):Za2 n f=Za2 n g:=by
 induction n with
 | zero=>rfl
 | succ n ih=>simp only[Za2];rw[ih (λi hi=>h i Gk),h n Gk]
theorem Zoz{n:Nat}(f:Nat->Rat):Za2 (n+1) f=f 0*Za2 n (λi=>f (i+1)):=by
 induction n generalizing f with
 | zero=>simp only[Za2];grind
 | succ n ih=>rw[Za2,ih,Za2];grind
theorem Zio{n:Nat}{M:Nat->Nat->Rat}(h:∀ a b,a<n->b<a->M a b=0):Zas n M=Za2 n (λi=>M i i):=by
 induction n generalizing M with
 | zero=>rfl
 | succ n ih =>
  simp only[Zas];rw[Zgt 0 Gk]
  ·rw[Zoz,ih]
   ·have:sgnQ 0=1:=rfl
    rw[this,Zcv (g:=λi=>M (i+1) (i+1)) (λi hi=>by simp only[Zcf];rw[Gw Gk])];grind
   intro a b ha hb;simp only[Zcf];rw[Gw Gk];exact h _ _ Gk Gk
  intro i hi h0;rw[h i 0 hi Gk];grind
def Zag(Z:List (List Int))(i j:Nat):Int:=(Z[i]?.getD [])[j]?.getD 0
def Zv(R:List (List Rat))(i j:Nat):Rat:=(R[i]?.getD [])[j]?.getD 0
def Zae{α:Type}(l:List α)(i j:Nat):List α:=match l[i]?,l[j]? with
 | some x,some y=>(l.set i y).set j x
 | _,_=>l
def Zo2(p row:List Int)(col:Nat)(piv last:Int):List Int:=(Qp row.length).map λk=>Int.fdiv (row[k]?.getD 0*piv-row[col]?.getD 0*p[k]?.getD 0) last
def Zde(Z:List (List Int))(r col:Nat)(last:Int):List (List Int):=
 (Qp Z.length).map λi=>if i<=r then Z[i]?.getD []else Zo2 (Z[r]?.getD []) (Z[i]?.getD []) col (Zag Z r col) last
def rowR(p row:List Rat)(col:Nat):List Rat:=(Qp row.length).map λk=>if k<col then row[k]?.getD 0 else row[k]?.getD 0-row[col]?.getD 0/p[col]?.getD 0*p[k]?.getD 0
def Zcw(R:List (List Rat))(r col:Nat):List (List Rat):=(Qp R.length).map λi=>if i<=r then R[i]?.getD []else rowR (R[r]?.getD []) (R[i]?.getD []) col
def Zbf(z:Nat->Bool)(n:Nat):Nat->Nat->Nat
 | 0,k=>k
 | f+1,k=>if k<n/\z k=true then Zbf z n f (k+1)else k
def Zaw:Nat->Nat->Nat->List (List Int)->Bool->Int->List (List Int) × Nat × Bool × Int
 | 0,_,r,Z,neg,last=>(Z,r,neg,last)
 | f+1,col,r,Z,neg,last =>
  if r=Z.length then (Z,r,neg,last)
  else if Zbf (λi=>Zag Z i col == 0) Z.length Z.length r=Z.length then Zaw f (col+1) r Z neg last
  else Zaw f (col+1) (r+1) (Zde (Zae Z (Zbf (λi=>Zag Z i col == 0) Z.length Z.length r) r) r col last) (neg != decide (Zbf (λi=>Zag Z i col == 0) Z.length Z.length r≠r)) (Zag Z (Zbf (λi=>Zag Z i col == 0) Z.length Z.length r) col)
def Za9:Nat->Nat->Nat->List (List Rat)->Bool->List (List Rat) × Nat × Bool
 | 0,_,r,R,neg=>(R,r,neg)
 | f+1,col,r,R,neg =>
  if r=R.length then (R,r,neg)
  else if Zbf (λi=>Zv R i col == 0) R.length R.length r=R.length then Za9 f (col+1) r R neg
  else Za9 f (col+1) (r+1) (Zcw (Zae R (Zbf (λi=>Zv R i col == 0) R.length R.length r) r) r col) (neg != decide (Zbf (λi=>Zv R i col == 0) R.length R.length r≠r))
theorem Zer{z:Nat->Bool}{n:Nat}:∀ {f k:Nat},n<=k+f->k<=n->k<=Zbf z n f k/\Zbf z n f k<=n/\(∀ i,k<=i->i<Zbf z n f k->z i=true)/\(Zbf z n f k<n->z (Zbf z n f k)=false)
 | 0,k,h,hk=>by
  obtain rfl:k=n:=Gk;exact⟨Qa _,Qa _,λi h1 h2=>by simp only[Zbf]at h2;omega,λh=>by simp only[Zbf]at h;omega⟩
 | f+1,k,h,hk=>by
  unfold Zbf;by_cases hc:k<n/\z k=true
  ·rw[Gx hc]
   obtain⟨h1,h2,h3,h4⟩:=Zer (z:=z) (n:=n) (f:=f) (k:=k+1) Gk Gk;refine⟨by omega,h2,λi hi1 hi2=>?_,h4⟩;by_cases hik:i=k;rw[hik];exact hc.2;exact h3 i Gk hi2
  rw[Gw hc];refine⟨Qa _,hk,λi h1 h2=>by omega,λhkn=>?_⟩;cases hz:z k with
  | false=>rfl
  | true=>exact absurd ⟨hkn,hz⟩ hc
theorem Zkf{z:Nat->Bool}{n f k q:Nat}(h:n<=k+f)(hk:k<=q)(hq:q<=n)(h1:∀ i,k<=i->i<q->z i=true)(h2:q<n->z q=false):Zbf z n f k=q:=by
 obtain⟨a,b,c,d⟩:=Zer (z:=z) h (Qe hk hq);rcases Nat.lt_trichotomy (Zbf z n f k) q with h3|h3|h3;have:=d Gk;rw[h1 _ a h3]at this;cases this;exact h3;have:=c q hk h3;rw[h2 Gk]at this;cases this
theorem Zpb{y z:Nat->Bool}{n f k:Nat}(h:n<=k+f)(hk:k<=n)(he:∀ i,k<=i->i<n->y i=z i):Zbf y n f k=Zbf z n f k:=by
 obtain⟨a,b,c,d⟩:=Zer (z:=z) h hk;exact Zkf h a b (λi h1 h2=>by rw[he i h1 Gk];exact c i h1 h2) (λh1=>by rw[he _ a h1];exact d h1)
def BndQ(B:Nat)(q:Rat):Prop:=∃ z:Int,q=(z:Rat)/\z.natAbs<=B
theorem BndQ.add{B C:Nat}{p q:Rat}(h:BndQ B p)(k:BndQ C q):BndQ (B+C) (p+q):=by
 obtain⟨a,rfl,h1⟩:=h;obtain⟨b,rfl,h2⟩:=k;exact⟨a+b,by rw[Rat.intCast_add],by omega⟩
theorem BndQ.mul{B C:Nat}{p q:Rat}(h:BndQ B p)(k:BndQ C q):BndQ (B*C) (p*q):=by
 obtain⟨a,rfl,h1⟩:=h;obtain⟨b,rfl,h2⟩:=k;exact⟨a*b,by rw[Qr],by rw[Int.natAbs_mul];exact Qn h1 h2⟩
theorem BndQ.mono{B C:Nat}{q:Rat}(h:BndQ B q)(hBC:B<=C):BndQ C q:=by obtain⟨a,h1,h2⟩:=h;exact⟨a,h1,by omega⟩
def Zbd(B:Nat):Nat->Nat
 | 0=>1
 | n+1=>(n+1)*(B*Zbd B n)
theorem Zqg{B n:Nat}{f:Nat->Rat}(h:∀ i,i<n->BndQ B (f i)):BndQ (n*B) (sumQ n f):=by
 induction n with
 | zero=>exact⟨0,rfl,by simp⟩
 | succ n ih=>rw[Nat.succ_mul];exact(ih λi hi=>h i Gk).add (h n Gk)
theorem Zv7(i:Nat):BndQ 1 (sgnQ i):=by unfold sgnQ;split;exact⟨1,rfl,by decide⟩;exact⟨-1,rfl,by decide⟩
theorem Zgh{B n:Nat}{M:Nat->Nat->Rat}(h:∀ a b,a<n->b<n->BndQ B (M a b)):BndQ (Zbd B n) (Zas n M):=by
 induction n generalizing M with
 | zero=>exact⟨1,rfl,by simp[Zbd]⟩
 | succ n ih =>
  simp only[Zas,Zbd];refine Zqg λi hi=>?_;have:=((Zv7 i).mul (h i 0 hi Gk)).mul (ih (M:=λa b=>M (Zcf i a) (b+1)) λa b ha hb=>h _ _ (Zo3 ha) Gk)
  rwa [Nat.one_mul]at this
theorem Zc1{B m n:Nat}(hB:1<=B)(h:m<=n):Zbd B m<=Zbd B n:=by
 induction n with
 | zero=>obtain rfl:m=0:=by omega
         exact Qa _
 | succ n ih =>
  by_cases hm:m=n+1;rw[hm];exact Qa _;refine Qe (ih Gk) ?_;simp only[Zbd]
  calc Zbd B n=1*(1*Zbd B n):=Gh
   _<=(n+1)*(B*Zbd B n):=Qn Gk (Qn hB (Qa _))
def swI(k r i:Nat):Nat:=if i=k then r else if i=r then k else i
theorem Zoh(k r i:Nat):swI k r (swI k r i)=i:=by
 unfold swI;by_cases h1:i=k
 ·subst h1
  by_cases h2:i=r;simp[h2];simp[Qs h2]
 by_cases h2:i=r;subst h2;simp[h1];simp[h1,h2]
theorem Zdg{α:Type}{l:List α}{k r:Nat}(hk:k<l.length)(hr:r<l.length)(i:Nat):(Zae l k r)[i]?=l[swI k r i]?:=by
 unfold Zae;rw[Qb hk,Qb hr];simp only;unfold swI;rw[QL,QL,List.length_set];by_cases h1:r=i
 ·subst h1
  rw[Gx rfl,Gx hr];by_cases h2:r=k;subst h2;simp[hr];rw[Gw h2,Gx rfl,Qb hk]
 rw[Gw h1];by_cases h2:k=i;subst h2;simp[hk,hr];rw[Gw h2,Gw (Qs h2),Gw (Qs h1)]
theorem Zdz{α:Type}(l:List α)(k r:Nat):(Zae l k r).length=l.length:=by unfold Zae;split <;> simp
theorem Zgr{k r i n:Nat}(hk:k<n)(hr:r<n)(hi:i<n):swI k r i<n:=by unfold swI;split <;> (try split) <;> omega
structure EIR (B S n m col r:Nat) (R:List (List Rat)) (pc:Nat->Nat) (G:Nat->Nat->Rat) (s:Nat->Rat):Prop where
 len:R.length=n
 row:∀ i,i<n->(R[i]?.getD []).length=m
 pcl:∀ l,l<r->pc l<col
 inc:∀ l l',l<l'->l'<r->pc l<pc l'
 low:∀ i j,r<=i->i<n->j<col->Zv R i j=0
 bef:∀ l j,l<r->j<pc l->Zv R l j=0
 piv:∀ l,l<r->Zv R l (pc l)≠0
 rn:r<=n
 cm:col<=m
 sB:∀ i,i<n->BndQ S (s i)/\s i≠0
 gB:∀ i j,i<n->BndQ B (G i j)
 det:∀ (N:Nat) (f σ:Nat->Nat),(∀ a,a<N->σ a<n)->(∀ a,a<r->σ a=a)->(∀ a,r<=a->r<=σ a)->Zas N (λa b=>s (σ a)*Zv R (σ a) (f b))=Zas N (λa b=>G (σ a) (f b))
def Zeg(R:List (List Rat))(pc:Nat->Nat)(s:Nat->Rat)(l:Nat):Rat:=Za2 l (λi=>s i*Zv R i (pc i))
section
variable{B S n m col r:Nat}{R:List (List Rat)}{pc:Nat->Nat}{G:Nat->Nat->Rat}{s:Nat->Rat}
theorem EIR.minor_eq(h:EIR B S n m col r R pc G s){i:Nat}(hi:i<n)(j:Nat) :
    Zeg R pc s (min i r)*(s i*Zv R i j)=Zas (min i r+1) (λa b=>G (if a<min i r then a else i) (if b<min i r then pc b else j)):=by
 obtain⟨q,hq⟩:∃ q,q=min i r:=⟨_,rfl⟩;rw[<- hq];have e:=h.rn
 have hd:=h.det (q+1) (λb=>if b<q then pc b else j) (λa=>if a<r then a else if i<r then a else i)
  (λa ha=>by
   by_cases h1:a<r;rw[Gx h1];omega
   ·rw[Gw h1];by_cases h2:i<r
    omega;rw[Gw h2];exact hi) (λa ha=>by rw[Gx ha]) (λa ha=>by
   rw[Gw Gk];by_cases h2:i<r;rw[Gx h2];exact ha;rw[Gw h2];omega)
 have hσ:∀ a,a<q+1->(if a<r then a else if i<r then a else i)=if a<q then a else i:=by
  intro a ha;by_cases h1:a<q;rw[Gx h1,Gx Gk];rw[Gw h1];by_cases h2:i<r;rw[Gx Gk];omega;rw[Gw Gk,Gw h2]
 rw[<- Za8 (M:=λa b=>G (if a<r then a else if i<r then a else i) (if b<q then pc b else j)) (N:=λa b=>G (if a<q then a else i) (if b<q then pc b else j)) (λa b ha hb=>by rw[hσ a ha])];rw[<- hd,Zio]
 ·rw[Za2]
  unfold Zeg;congr 1
  ·refine Zcv λa ha=>?_
   rw[Gx ha,Gx Gk]
  rw[Gw (QG q)];have:=hσ q (QP q);rw[Gw (QG q)]at this;rw[this]
 intro a b ha hb;rw[Gx (by omega:b<q),hσ a ha];by_cases h1:a<q;rw[Gx h1,h.bef a (pc b) Gk (h.inc b a hb Gk)];grind;rw[Gw h1];by_cases h2:i<r;rw[h.bef i (pc b) h2 (h.inc b i Gk h2)];grind;rw[h.low i (pc b) Gk hi (h.pcl b Gk)];grind
theorem EIR.minor(h:EIR B S n m col r R pc G s){i:Nat}(hi:i<n)(j:Nat):BndQ (Zbd B (min i r+1)) (Zeg R pc s (min i r)*(s i*Zv R i j)):=by
 rw[h.minor_eq hi j];refine Zgh λa b ha hb=>h.gB _ _ ?_
 split <;> omega
theorem EIR.piv_ne(h:EIR B S n m col r R pc G s){l:Nat}(hl:l<=r):Zeg R pc s l≠0:=by
 induction l with
 | zero=>unfold Zeg Za2;grind
 | succ l ih =>
  have h1:=ih Gk;have h2:=h.piv l Gk;have h3:=(h.sB l (by have:=h.rn;omega)).2;unfold Zeg at h1 ⊢;rw[Za2];intro h0;rcases Rat.mul_eq_zero.1 h0 with h0|h0;exact h1 h0;rcases Rat.mul_eq_zero.1 h0 with h0|h0;exact h3 h0;exact h2 h0
theorem EIR.pivL_bnd(h:EIR B S n m col r R pc G s){l:Nat}(hl:l<=r):BndQ (Zbd B l) (Zeg R pc s l):=by
 cases l with
 | zero=>exact⟨1,rfl,by simp[Zbd]⟩
 | succ l =>
  have h1:=h.minor (i:=l) (by have:=h.rn;omega) (pc l);rw[show min l r=l by omega]at h1;unfold Zeg at h1 ⊢;rw[Za2];exact h1
theorem Fh{G:Prop}(h:G:=by
 refine Nat.le_trans (Nat.div_le_self _ _) ?_;rw[Int.natAbs_mul];rcases Int.lt_or_gt_of_ne h with g|g;rw[Int.sign_eq_neg_one_of_neg g];simp;rw[Int.sign_eq_one_of_pos g];simp):G:=h
theorem numQ_le(a b:Int)(h:b≠0):(Qo a b).num.natAbs<=a.natAbs:=by
 rw[Rat.num_divInt,Int.natAbs_ediv_of_dvd];exact Fh;exact Int.dvd_trans (Int.gcd_dvd_right _ _) (Int.dvd_mul_left _ _)
theorem Zfr{B C:Nat}{p q:Rat}(h:BndQ B (q*p))(k:BndQ C q)(hq:q≠0):p.num.natAbs<=B/\p.den<=C:=by
 obtain⟨a,h1,h2⟩:=h;obtain⟨b,h3,h4⟩:=k;have hb:b≠0:=by rintro rfl;rw[h3]at hq;exact hq rfl
 have hp:p=Qo a b:=by
  rw[QM,<- h1,h3];have:(b:Rat)≠0:=by rw[<- h3];exact hq
  grind
 rw[hp];constructor;exact Qe (numQ_le a b hb) h2;rw[Rat.den_divInt,Gw hb];exact Qe (QT _ _) h4
theorem EIR.bound(h:EIR B S n m col r R pc G s)(hB:1<=B){i:Nat}(hi:i<n)(j:Nat):(Zv R i j).num.natAbs<=Zbd B n/\(Zv R i j).den<=Zbd B n*S:=by
 have h1:=h.minor hi j;have h2:=h.pivL_bnd (l:=min i r) Gk;have h3:=h.sB i hi;have h4:=h.piv_ne (l:=min i r) Gk;rw[<- Rat.mul_assoc]at h1
 have h5:=Zfr h1 (h2.mul h3.1) (λh0=>by
  rcases Rat.mul_eq_zero.1 h0 with h0|h0;exact h4 h0;exact h3.2 h0)
 have h6:=Zc1 hB (show min i r+1<=n by omega);have h7:=Zc1 hB (show min i r<=n by omega);exact⟨by omega,Qe h5.2 (Qn h7 (Qa _))⟩
theorem Zg8{k r:Nat}(hk:k<R.length)(hr:r<R.length)(i j:Nat):Zv (Zae R k r) i j=Zv R (swI k r i) j:=by
 unfold Zv;rw[Zdg hk hr]
theorem Zko{k r i:Nat}(hk:r<=k)(hi:i<r):swI k r i=i:=by unfold swI;rw[Gw Gk,Gw Gk]
theorem Zoq{k r i:Nat}(hk:r<=k)(hi:r<=i):r<=swI k r i:=by unfold swI;split <;> (try split) <;> omega
theorem EIR.skip(h:EIR B S n m col r R pc G s)(hc:col<m)(hz:∀ i,r<=i->i<n->Zv R i col=0):EIR B S n m (col+1) r R pc G s:=
 { h with
  pcl:=λl hl=>by have:=h.pcl l hl;omega
  cm:=hc
  low:=λi j hi hn hj=>by
   by_cases hjc:j=col;rw[hjc];exact hz i hi hn;exact h.low i j hi hn Gk }
theorem EIR.swap(h:EIR B S n m col r R pc G s){k:Nat}(hk:k<n)(hrk:r<=k):EIR B S n m col r (Zae R k r) pc (λi j=>G (swI k r i) j) (λi=>s (swI k r i)):=by
 have hr:r<n:=Gk;have hl:=h.len;have he:∀ i j,Zv (Zae R k r) i j=Zv R (swI k r i) j:=Zg8 Gk Gk;have e:∀ {i},i<n->swI k r i<n:=λhi=>Zgr hk hr hi;refine⟨by rw[Zdz];exact hl,λi hi=>by rw[Zdg Gk Gk];exact h.row _ (e hi),h.pcl,h.inc,λi j hi hn hj=>?_,λl j hl' hj=>?_,λl hl'=>?_,h.rn,h.cm,λi hi=>h.sB _ (e hi),λi j hi=>h.gB _ _ (e hi),λN f σ h1 h2 h3=>?_⟩;rw[he];exact h.low _ _ (Zoq hrk hi) (e hn) hj;rw[he,Zko hrk hl'];exact h.bef l j hl' hj;rw[he,Zko hrk hl'];exact h.piv l hl';have:=h.det N f (λa=>swI k r (σ a)) (λa ha=>e (h1 a ha)) (λa ha=>by rw[h2 a ha,Zko hrk ha]) (λa ha=>Zoq hrk (h3 a ha));rw[<- this];exact Za8 λa b _ _=>by rw[he]
theorem Zh3(hrow:∀ i,i<R.length->(R[i]?.getD []).length=m)(hlow:∀ j,j<col->Zv R r j=0)(i j:Nat)(hi:i<R.length)(hr:r<R.length) :
    Zv (Zcw R r col) i j=if i<=r then Zv R i j else Zv R i j-Zv R i col/Zv R r col*Zv R r j:=by
 unfold Zcw;show ((List.map _ (Qp R.length))[i]?.getD [])[j]?.getD 0=_;rw[Qd,Ql hi];simp only[Qk,Qh];by_cases h1:i<=r;rw[Gx h1,Gx h1];rfl;rw[Gw h1,Gw h1];unfold rowR;rw[Qd];by_cases hj:j<(R[i]?.getD []).length
 ·rw[Ql hj]
  simp only[Qk,Qh];by_cases hjc:j<col
  ·rw[Gx hjc,hlow j hjc]
   show Zv R i j=_
   grind
  rw[Gw hjc];rfl
 rw[Qf (l:=Qp _) (by simpa using hj)];simp only[QC,Qz];have e1:Zv R i j=0:=by unfold Zv;rw[Qf Gk];rfl
 have e2:Zv R r j=0:=by unfold Zv;rw[Qf (by rw[hrow i hi]at hj;rw[hrow r hr];omega)];rfl
 rw[e1,e2];grind
theorem Zkl:(Zcw R r col).length=R.length:=by unfold Zcw;simp
theorem Zle(i:Nat)(hi:i<R.length):((Zcw R r col)[i]?.getD []).length=(R[i]?.getD []).length:=by
 unfold Zcw;rw[Qd,Ql hi];simp only[Qk,Qh]
 split
 rfl;unfold rowR;simp
theorem EIR.clear(h:EIR B S n m col r R pc G s)(hc:col<m)(hr:r<n)(hp:Zv R r col≠0):EIR B S n m (col+1) (r+1) (Zcw R r col) (λl=>if l=r then col else pc l) G s:=by
 have hl:=h.len
 have he:∀ i j,i<n->Zv (Zcw R r col) i j=if i<=r then Zv R i j else Zv R i j-Zv R i col/Zv R r col*Zv R r j:=
  λi j hi=>Zh3 (m:=m) (λi hi=>h.row i Gk) (λj hj=>h.low r j (Qa _) hr hj) i j Gk Gk
 refine⟨by rw[Zkl];exact hl,λi hi=>by rw[Zle i Gk];exact h.row i hi,λl hl'=>?_,λl l' h1 h2=>?_,λi j hi hn hj=>?_,λl j hl' hj=>?_,λl hl'=>?_,hr,hc,h.sB,h.gB,λN f σ h1 h2 h3=>?_⟩
 ·split
  omega;have:=h.pcl l Gk;omega
 ·rw[Gw (by omega:¬ l=r)]
  split
  exact h.pcl l Gk;exact h.inc l l' h1 Gk
 ·rw[he i j hn,Gw Gk]
  by_cases hjc:j=col;rw[hjc];grind;rw[h.low i j Gk hn Gk,h.low r j (Qa _) hr Gk];grind
 ·rw[he l j Gk,Gx Gk]
  by_cases hlr:l=r
  ·rw[hlr];simp only[hlr,if_true]at hj
   exact h.low r j (Qa _) hr hj
  simp only[Gw hlr]at hj;exact h.bef l j Gk hj
 ·rw[he l _ Gk,Gx Gk]
  by_cases hlr:l=r;simp only[hlr,if_true];exact hp;simp only[Gw hlr];exact h.piv l Gk
 rw[<- h.det N f σ h1 (λa ha=>h2 a (by omega)) (λa ha=>by
   by_cases har:a=r;rw[har,h2 r Gk];exact Qa _;have:=h3 a Gk;omega)]
 by_cases hN:N<=r
 ·refine Za8 λa b ha hb=>?_
  rw[he _ _ (h1 a ha),Gx];rw[h2 a Gk];omega
 have hσr:σ r=r:=h2 r Gk;rw[<- Zlt (λa b=>s (σ a)*Zv R (σ a) (f b)) (l:=r) (n:=N) Gk (λa=>if a<=r then 0 else-(s (σ a)*Zv R (σ a) col/(s r*Zv R r col)))];refine Za8 λa b ha hb=>?_;rw[he _ _ (h1 a ha)];by_cases har:a<=r
 ·rw[h2 a Gk,Gx har]
  simp only[Gx har]
  split
  rfl
  grind
 have:=h3 a Gk;rw[Gw Gk,Gw Gk,Gw har,hσr];have hs:=(h.sB r hr).2
 grind
structure EIZ (n m r:Nat) (R:List (List Rat)) (pc:Nat->Nat) (s:Nat->Rat) (Z:List (List Int)) (last:Int):Prop where
 len:Z.length=n
 row:∀ i,i<n->(Z[i]?.getD []).length=m
 last:(last:Rat)=Zeg R pc s r
 ent:∀ i j,i<n->(Zag Z i j:Rat)=Zeg R pc s (min i r)*(s i*Zv R i j)
theorem Zlw{R':List (List Rat)}{pc':Nat->Nat}{s':Nat->Rat}{l:Nat}(h:∀ i,i<l->s i*Zv R i (pc i)=s' i*Zv R' i (pc' i)):Zeg R pc s l=Zeg R' pc' s' l:=Zcv h
theorem Zfo{a b:Int}(h:(a:Rat)=(b:Rat)):a=b:=by exact_mod_cast h
theorem EIZ.last_ne{Z:List (List Int)}{last:Int}(h:EIR B S n m col r R pc G s)(k:EIZ n m r R pc s Z last):last≠0:=by
 rintro rfl;exact h.piv_ne (Qa r) (k.last.symm.trans rfl)
theorem EIZ.last_bnd{Z:List (List Int)}{last:Int}(h:EIR B S n m col r R pc G s)(k:EIZ n m r R pc s Z last)(hB:1<=B):last.natAbs<=Zbd B n:=by
 obtain⟨z,h1,h2⟩:=h.pivL_bnd (Qa r);rw[<- k.last]at h1;rw[Zfo h1];exact Qe h2 (Zc1 hB h.rn)
theorem EIZ.bnd{Z:List (List Int)}{last:Int}(h:EIR B S n m col r R pc G s)(k:EIZ n m r R pc s Z last)(hB:1<=B){i:Nat}(hi:i<n)(j:Nat):(Zag Z i j).natAbs<=Zbd B n:=by
 obtain⟨z,h1,h2⟩:=h.minor hi j;rw[<- k.ent i j hi]at h1;rw[Zfo h1];exact Qe h2 (Zc1 hB Gk)
theorem EIZ.zero{Z:List (List Int)}{last:Int}(h:EIR B S n m col r R pc G s)(k:EIZ n m r R pc s Z last){i:Nat}(hi:i<n)(j:Nat):(Zag Z i j == 0)=(Zv R i j == 0):=by
 have h1:=k.ent i j hi;have h2:=h.piv_ne (l:=min i r) Gk;have h3:=(h.sB i hi).2;by_cases h0:Zv R i j=0
 ·rw[h0]at h1 ⊢
  have:Zag Z i j=0:=Zfo (by rw[h1];grind);rw[this];rfl
 have:Zag Z i j≠0:=by
   intro hz;rw[hz]at h1;rcases Rat.mul_eq_zero.1 h1.symm with h4|h4;exact h2 h4;rcases Rat.mul_eq_zero.1 h4 with h4|h4;exact h3 h4;exact h0 h4
 rw[beq_eq_false_iff_ne.2 this,beq_eq_false_iff_ne.2 h0]
theorem Zg1{Z:List (List Int)}{k r:Nat}(hk:k<Z.length)(hr:r<Z.length)(i j:Nat):Zag (Zae Z k r) i j=Zag Z (swI k r i) j:=by
 unfold Zag;rw[Zdg hk hr]
theorem EIZ.swap{Z:List (List Int)}{last:Int}(h:EIR B S n m col r R pc G s)(q:EIZ n m r R pc s Z last){k:Nat}(hk:k<n)(hrk:r<=k):EIZ n m r (Zae R k r) pc (λi=>s (swI k r i)) (Zae Z k r) last:=by
 have hr:r<n:=Gk;have hl:=h.len;have e:=q.len;have he:∀ i j,Zv (Zae R k r) i j=Zv R (swI k r i) j:=Zg8 Gk Gk;have hp:∀ l,l<=r->Zeg (Zae R k r) pc (λi=>s (swI k r i)) l=Zeg R pc s l:=λl hl=>Zlw λi hi=>by rw[he,Zko hrk Gk]
 refine⟨by rw[Zdz];exact e,λi hi=>by rw[Zdg Gk Gk];exact q.row _ (Zgr hk hr hi),?_,λi j hi=>?_⟩;rw[hp r (Qa r)];exact q.last;rw[hp _ Gk,he,Zg1 Gk Gk,q.ent _ j (Zgr hk hr hi)]
 have:min (swI k r i) r=min i r:=by
  by_cases hir:i<r;rw[Zko hrk hir];have:=Zoq (i:=i) hrk Gk;omega
 rw[this]
theorem Zrj{Z:List (List Int)}{last:Int}(hrow:∀ i,i<Z.length->(Z[i]?.getD []).length=m)(i j:Nat)(hi:i<Z.length) :
    Zag (Zde Z r col last) i j=if i<=r then Zag Z i j else if j<m then Int.fdiv (Zag Z i j*Zag Z r col-Zag Z i col*Zag Z r j) last else 0:=by
 unfold Zde;show ((List.map _ (Qp Z.length))[i]?.getD [])[j]?.getD 0=_;rw[Qd,Ql hi];simp only[Qk,Qh];by_cases h1:i<=r;rw[Gx h1,Gx h1];rfl;rw[Gw h1,Gw h1];unfold Zo2;rw[Qd];by_cases hj:j<(Z[i]?.getD []).length;rw[Ql hj,Gx (by rw[hrow i hi]at hj;exact hj)];rfl;rw[Qf (l:=Qp _) (by simpa using hj),Gw (by rw[hrow i hi]at hj;exact hj)];rfl
theorem Zhr{Z:List (List Int)}{last:Int}:(Zde Z r col last).length=Z.length:=by unfold Zde;simp
theorem Zrz{Z:List (List Int)}{last:Int}(i:Nat)(hi:i<Z.length):((Zde Z r col last)[i]?.getD []).length=(Z[i]?.getD []).length:=by
 unfold Zde;rw[Qd,Ql hi];simp only[Qk,Qh]
 split
 rfl;unfold Zo2;simp
theorem Zpg(hrow:∀ i,i<n->(R[i]?.getD []).length=m){i j:Nat}(hi:i<n)(hj:m<=j):Zv R i j=0:=by
 unfold Zv;rw[Qf (by rw[hrow i hi];exact hj)];rfl
theorem EIZ.clear{Z:List (List Int)}{last:Int}(h:EIR B S n m col r R pc G s)(q:EIZ n m r R pc s Z last)(hc:col<m)(hr:r<n)(hp:Zv R r col≠0) :
    EIZ n m (r+1) (Zcw R r col) (λl=>if l=r then col else pc l) s (Zde Z r col last) (Zag Z r col):=by
 have hl:=h.len;have E:=q.len;have h':=h.clear hc hr hp
 have he:∀ i j,i<n->Zv (Zcw R r col) i j=if i<=r then Zv R i j else Zv R i j-Zv R i col/Zv R r col*Zv R r j:=
  λi j hi=>Zh3 (m:=m) (λi hi=>h.row i Gk) (λj hj=>h.low r j (Qa _) hr hj) i j Gk Gk
 have u:∀ l,l<=r->Zeg (Zcw R r col) (λl=>if l=r then col else pc l) s l=Zeg R pc s l:=λl hl=>Zlw λi hi=>by
  rw[he _ _ Gk,Gx Gk,Gw Gk]
 have e:Zeg (Zcw R r col) (λl=>if l=r then col else pc l) s (r+1)=Zeg R pc s r*(s r*Zv R r col):=by
  rw[Zeg,Za2];have:=u r (Qa r);unfold Zeg at this;rw[this,he _ _ hr,Gx (Qa r),Gx rfl];rfl
 refine⟨by rw[Zhr];exact E,λi hi=>by rw[Zrz i Gk];exact q.row i hi,?_,λi j hi=>?_⟩;rw[e,q.ent r col hr,show min r r=r by omega];rw[Zrj (m:=m) (λi hi=>q.row i Gk) i j Gk];by_cases hir:i<=r;rw[Gx hir,u _ Gk,he _ _ hi,Gx hir,q.ent i j hi,show min i (r+1)=min i r by omega];rw[Gw hir];by_cases hj:j<m
 ·rw[Gx hj]
  obtain⟨z,f,-⟩:=h'.minor hi j;rw[show min i (r+1)=r+1 by omega,e,he _ _ hi,Gw hir]at f;have C:=q.last_ne h;have e1:=q.ent i j hi;have e2:=q.ent r col hr;have e3:=q.ent i col hi;have e4:=q.ent r j hr;have e5:=q.last;rw[show min i r=r by omega]at e1 e3;rw[show min r r=r by omega]at e2 e4
  have o:Zag Z i j*Zag Z r col-Zag Z i col*Zag Z r j=last*z:=Zfo (by
   rw[Rat.intCast_sub,Qr,Qr,Qr,e1,e2,e3,e4,e5,<- f]
   grind)
  rw[o,Int.mul_comm,Int.mul_fdiv_cancel _ C,<- f,show min i (r+1)=r+1 by omega,e,he _ _ hi,Gw hir]
 rw[Gw hj,Zpg (n:=n) h'.row hi Gk];have:((0:Int):Rat)=0:=rfl;rw[this];grind
end
def BdZ(C m:Nat)(Z:List (List Int)):Prop:=(∀ i,i<Z.length->(Z[i]?.getD []).length=m)/\∀ i j,(Zag Z i j).natAbs<C
def BdR(C D m:Nat)(R:List (List Rat)):Prop:=(∀ i,i<R.length->(R[i]?.getD []).length=m)/\∀ i j,(Zv R i j).num.natAbs<C/\(Zv R i j).den<D
def okZ(C m:Nat):Nat->Nat->Nat->List (List Int)->Int->Prop
 | 0,_,_,Z,last=>BdZ C m Z/\last≠0/\last.natAbs<C
 | f+1,col,r,Z,last=>BdZ C m Z/\(last≠0/\last.natAbs<C)/\(r=Z.length \/
     (Zbf (λi=>Zag Z i col == 0) Z.length Z.length r=Z.length->okZ C m f (col+1) r Z last) /\
     (Zbf (λi=>Zag Z i col == 0) Z.length Z.length r≠Z.length->okZ C m f (col+1) (r+1) (Zde (Zae Z (Zbf (λi=>Zag Z i col == 0) Z.length Z.length r) r) r col last) (Zag Z (Zbf (λi=>Zag Z i col == 0) Z.length Z.length r) col)))
def okR(C D m:Nat):Nat->Nat->Nat->List (List Rat)->Prop
 | 0,_,_,R=>BdR C D m R
 | f+1,col,r,R=>BdR C D m R/\(r=R.length \/
     (Zbf (λi=>Zv R i col == 0) R.length R.length r=R.length->okR C D m f (col+1) r R) /\
     (Zbf (λi=>Zv R i col == 0) R.length R.length r≠R.length->okR C D m f (col+1) (r+1) (Zcw (Zae R (Zbf (λi=>Zv R i col == 0) R.length R.length r) r) r col)))
def sgB(b:Bool):Rat:=if b then -1 else 1
theorem Ztx{n k r:Nat}(f:Nat->Rat)(hk:k<n)(hr:r<n):Za2 n (λi=>f (swI k r i))=Za2 n f:=by
 by_cases e:k=r
 ·subst e;refine Zcv λi _=>?_
  unfold swI;split;rename_i h;rw[h];rfl
 have key:∀ n (f:Nat->Rat) k r,k<r->r<n->Za2 n (λi=>f (swI k r i))=Za2 n f:=by
   intro n
   induction n with
   | zero=>intro f k r _ h;omega
   | succ n ih =>
    intro f k r e hr;by_cases hrn:r=n
    ·subst hrn
     have o:∀ (m:Nat) (g h:Nat->Rat),k<m->(∀ i,i<m->i≠k->g i=h i)->Za2 m g*h k=Za2 m h*g k:=by
      intro m
      induction m with
      | zero=>intro g h hk _;omega
      | succ m ihm =>
       intro g h hk he;simp only[Za2];by_cases hkm:k=m
       ·subst hkm
        rw[Zcv (f:=g) (g:=h) (λi hi=>he i Gk Gk)];grind
       have:=ihm g h Gk (λi hi=>he i Gk);rw[he m Gk Gk];grind
     simp only[Za2];have e1:swI k r r=k:=by unfold swI;rw[Gw Gk,Gx rfl]
     have e2:swI k r k=r:=by unfold swI;rw[Gx rfl]
     have:=o r (λi=>f (swI k r i)) f e (λi hi hik=>by unfold swI;rw[Gw hik,Gw Gk]);simp only[e2]at this;rw[e1];exact this
    simp only[Za2];rw[ih f k r e Gk];have:swI k r n=n:=by unfold swI;rw[Gw Gk,Gw Gk]
    rw[this]
 rcases Qw e with h|h;exact key n f k r h hr;have:∀ i,swI k r i=swI r k i:=λi=>by unfold swI;split <;> split <;> omega
 rw[<- key n f r k h hk];exact Zcv λi _=>by rw[this]
theorem Zv9{n k r:Nat}(M:Nat->Nat->Rat)(hk:k<n)(hr:r<n):Zas n (λa b=>M (swI k r a) b)=if k=r then Zas n M else-Zas n M:=by
 by_cases hkr:k=r
 ·subst hkr
  rw[Gx rfl];refine Za8 λa b _ _=>?_;unfold swI;split;rename_i h;rw[h];rfl
 rw[Gw hkr,<- Zt6 M hk hr hkr];congr 1
 funext a b
 unfold swI Zah;by_cases h1:a=k;subst h1;rw[Gx rfl,Gw hkr,Gx rfl];rw[Gw h1];by_cases h2:a=r;rw[Gx h2,Gx h2];rw[Gw h2,Gw h2,Gw h1]
theorem EIR.bdR{B S n m col r:Nat}{R:List (List Rat)}{pc:Nat->Nat}{G:Nat->Nat->Rat}{s:Nat->Rat}(h:EIR B S n m col r R pc G s)(hB:1<=B)(hS:1<=S):BdR (Zbd B n+1) (Zbd B n*S+1) m R:=by
 have hl:=h.len;refine⟨λi hi=>h.row i Gk,λi j=>?_⟩;by_cases hi:i<n;have:=h.bound hB hi j;omega;have:Zv R i j=0:=by unfold Zv;rw[Qf (l:=R) Gk];rfl
 have h1:1<=Zbd B n:=Zc1 (m:=0) hB Gk;have h2:1*1<=Zbd B n*S:=Qn h1 hS;rw[this];refine⟨by simp,?_⟩;rw[show (0:Rat).den=1 from rfl];omega
theorem EIZ.bdZ{B S n m col r:Nat}{R:List (List Rat)}{pc:Nat->Nat}{G:Nat->Nat->Rat}{s:Nat->Rat}{Z:List (List Int)}{last:Int}(h:EIR B S n m col r R pc G s)(k:EIZ n m r R pc s Z last)(hB:1<=B):BdZ (Zbd B n+1) m Z:=by
 have hl:=k.len;refine⟨λi hi=>k.row i Gk,λi j=>?_⟩;by_cases hi:i<n;have:=k.bnd h hB hi j;omega;have:Zag Z i j=0:=by unfold Zag;rw[Qf (l:=Z) Gk];rfl
 rw[this];simp
theorem Zjd{B S n m:Nat}(hB:1<=B)(hS:1<=S):∀ (f col r:Nat) (R:List (List Rat)) (pc:Nat->Nat) (G:Nat->Nat->Rat) (s:Nat->Rat) (Z:List (List Int)) (neg:Bool) (last:Int),
    EIR B S n m col r R pc G s->EIZ n m r R pc s Z last->col+f<=m ->
    okZ (Zbd B n+1) m f col r Z last/\okR (Zbd B n+1) (Zbd B n*S+1) m f col r R /\
    (Zaw f col r Z neg last).2.1=(Za9 f col r R neg).2.1/\(Zaw f col r Z neg last).2.2.1=(Za9 f col r R neg).2.2 /\
    ∃ e u G' s',EIR B S n m e (Za9 f col r R neg).2.1 (Za9 f col r R neg).1 u G' s'/\EIZ n m (Za9 f col r R neg).2.1 (Za9 f col r R neg).1 u s' (Zaw f col r Z neg last).1 (Zaw f col r Z neg last).2.2.2 /\
     (e=col+f \/ (Za9 f col r R neg).2.1=n/\e<=col+f)/\Za2 n s'=Za2 n s/\(∀ φ:Nat->Nat,sgB (Za9 f col r R neg).2.2*Zas n (λa b=>G' a (φ b))=sgB neg*Zas n (λa b=>G a (φ b)))
 | 0,col,r,R,pc,G,s,Z,neg,last,h,k,hm=>by
  have h1:=k.last_bnd h hB;exact⟨⟨k.bdZ h hB,k.last_ne h,by omega⟩,h.bdR hB hS,rfl,rfl,col,pc,G,s,h,k,.inl rfl,rfl,λφ=>rfl⟩
 | f+1,col,r,R,pc,G,s,Z,neg,last,h,k,hm=>by
  have C:=h.len;have U:=k.len;have h1:=k.last_bnd h hB;have Y:=h.rn
  have E:Zbf (λi=>Zag Z i col == 0) Z.length Z.length r=Zbf (λi=>Zv R i col == 0) R.length R.length r:=by
   rw[C,U];exact Zpb Gk Y (λi h1 h2=>k.zero h h2 col)
  unfold Zaw Za9 okZ okR;simp only[E];rw[C]at E ⊢;simp only[U];by_cases hr:r=n
  ·simp only[Gx hr]
   exact⟨⟨k.bdZ h hB,⟨k.last_ne h,by omega⟩,.inl hr⟩,⟨h.bdR hB hS,.inl hr⟩,(by trivial),(by trivial),col,pc,G,s,h,k,.inr ⟨hr,by omega⟩,rfl,λφ=>rfl⟩
  simp only[Gw hr];obtain⟨q,hq⟩:∃ q,Zbf (λi=>Zv R i col == 0) n n r=q:=⟨_,rfl⟩;obtain⟨p1,p2,p3,p4⟩:=Zer (z:=λi=>Zv R i col == 0) (n:=n) (f:=n) (k:=r) Gk Gk;rw[hq]at p1 p2 p3 p4;simp only[hq];by_cases hqn:q=n
  ·simp only[Gx hqn]
   have hz:∀ i,r<=i->i<n->Zv R i col=0:=λi h1 h2=>by simpa using p3 i h1 Gk
   obtain⟨o1,o2,o3,o4,e,u,G',s',o5,o6,o7,o8,o9⟩:=Zjd hB hS f (col+1) r R pc G s Z neg last (h.skip Gk hz) k Gk;exact⟨⟨k.bdZ h hB,⟨k.last_ne h,by omega⟩,.inr ⟨λ_=>o1,λhn=>absurd hqn hn⟩⟩,⟨h.bdR hB hS,.inr ⟨λ_=>o2,λhn=>absurd hqn hn⟩⟩,o3,o4,e,u,G',s',o5,o6,by omega,o8,o9⟩
  simp only[Gw hqn];have o:q<n:=Gk;have J:Zv R q col≠0:=by simpa using p4 o
  have O:=h.swap o p1;have ksw:=k.swap h o p1
  have I:Zv (Zae R q r) r col=Zv R q col:=by
   rw[Zg8 Gk Gk];congr 1;unfold swI;split;rename_i h;exact h;rw[Gx rfl]
  have a0:Zag (Zae Z q r) r col=Zag Z q col:=by
   rw[Zg1 Gk Gk];congr 1;unfold swI;split;rename_i h;exact h;rw[Gx rfl]
  have a1:=O.clear Gk Gk (by rw[I];exact J);have kcl:=ksw.clear O Gk Gk (by rw[I];exact J);rw[a0]at kcl;obtain⟨o1,o2,o3,o4,e,u,G',s',o5,o6,o7,o8,o9⟩:=Zjd hB hS f (col+1) (r+1) _ _ _ _ _ (neg != decide (q≠r)) _ a1 kcl Gk;refine⟨⟨k.bdZ h hB,⟨k.last_ne h,by omega⟩,.inr ⟨λhn=>absurd hn hqn,λ_=>o1⟩⟩,⟨h.bdR hB hS,.inr ⟨λhn=>absurd hn hqn,λ_=>o2⟩⟩,o3,o4,e,u,G',s',o5,o6,by omega,?_,λφ=>?_⟩;rw[o8,Ztx s o Gk];rw[o9,Zv9 (λa b=>G a (φ b)) o Gk];by_cases hqr:q=r
  ·rw[Gx hqr]
   have:decide (q≠r)=false:=by simp[hqr]
   rw[this];cases neg <;> rfl
  rw[Gw hqr];have:decide (q≠r)=true:=by simp[hqr]
  rw[this];cases neg <;> simp[sgB] <;> grind
def Za4(row:List Rat):Nat->Nat
 | 0=>1
 | k+1=>Za4 row k*((row[k]?.getD 0).den/Qv (Za4 row k) (row[k]?.getD 0).den)
def Zdr(row:List Rat):List Int:=row.map λf=>f.num*((Za4 row row.length/f.den:Nat):Int)
def Zab(R:List (List Rat)):List (List Int):=R.map Zdr
def Zc3(R:List (List Rat))(i:Nat):Nat:=Za4 (R[i]?.getD []) (R[i]?.getD []).length
theorem Zd0(row:List Rat)(k:Nat):0<Za4 row k:=by
 induction k with
 | zero=>exact Nat.one_pos
 | succ k ih =>
  refine Nat.mul_pos ih (Nat.div_pos (Nat.le_of_dvd (Rat.den_pos _) (Qx _ _)) (QB _ ih))
theorem Zlg(row:List Rat)(k:Nat):Za4 row k ∣ Za4 row (k+1)/\(row[k]?.getD 0).den ∣ Za4 row (k+1):=by
 refine⟨⟨_,rfl⟩,?_⟩;obtain⟨c,hc⟩:=Nat.gcd_dvd_left (Za4 row k) (row[k]?.getD 0).den;refine⟨c,?_⟩;simp only[Za4];obtain⟨d,hd⟩:=Qx (Za4 row k) (row[k]?.getD 0).den;have hg:0<Qv (Za4 row k) (row[k]?.getD 0).den:=QB _ (Zd0 row k)
 have e:(row[k]?.getD 0).den/Qv (Za4 row k) (row[k]?.getD 0).den=d:=by
  rw[Nat.div_eq_iff_eq_mul_left hg (Qx _ _),Nat.mul_comm];exact hd
 rw[e]
 calc Za4 row k*d=(Qv (Za4 row k) (row[k]?.getD 0).den*c)*d:=by rw[<- hc]
  _=(Qv (Za4 row k) (row[k]?.getD 0).den*d)*c:=by rw[Nat.mul_assoc,Nat.mul_assoc,Nat.mul_comm c d]
  _=(row[k]?.getD 0).den*c:=by rw[<- hd]
theorem Zjh(row:List Rat){j:Nat}:∀ {k:Nat},j<k->(row[j]?.getD 0).den ∣ Za4 row k
 | 0,h=>by omega
 | k+1,h=>by
  by_cases hj:j=k;rw[hj];exact(Zlg row k).2;exact Nat.dvd_trans (Zjh row (j:=j) (k:=k) Gk) (Zlg row k).1
theorem Zu1(row:List Rat){D:Nat}(h:∀ j:Nat,(row[j]?.getD 0).den<=D)(k:Nat):Za4 row k<=D^k:=by
 induction k with
 | zero=>exact Qa _
 | succ k ih =>
  rw[Nat.pow_succ];exact Qn ih (Qe (QT _ _) (h k))
theorem Zi0(row:List Rat):(Zdr row).length=row.length:=by unfold Zdr;simp
theorem Zom(row:List Rat)(j:Nat):(((Zdr row)[j]?.getD 0:Int):Rat)=(Za4 row row.length:Nat)*row[j]?.getD 0:=by
 unfold Zdr;rw[Qd];by_cases hj:j<row.length
 ·rw[Qb hj]
  simp only[Qk,Qh];have hd:=Zjh row hj;rw[Qb hj]at hd;simp only[Qh]at hd;obtain⟨c,hc⟩:=hd;rw[hc,Nat.mul_div_cancel_left _ (Rat.den_pos _),Qr,Qu,QU];have e0:((row[j].num:Int):Rat)/((row[j].den:Nat):Rat)=row[j]:=by have:=Rat.num_divInt_den row[j];rw[QM,Qu]at this;exact this
  have e1:((row[j].den:Nat):Rat)≠0:=by
   intro h;have:row[j].den=0:=by exact_mod_cast h
   have:=row[j].den_pos;omega
  have e2:((row[j].num:Int):Rat)=row[j]*((row[j].den:Nat):Rat):=by rw[<- e0];grind
  rw[e2];grind
 rw[Qf Gk];simp only[QC,Qz];have:((0:Int):Rat)=0:=rfl;rw[this];grind
theorem Zh2(R:List (List Rat))(i j:Nat):((Zag (Zab R) i j:Int):Rat)=(Zc3 R i:Nat)*Zv R i j:=by
 unfold Zag Zab Zv Zc3;rw[Qd];cases h:R[i]? with
 | none=>simp only[Option.map_none,Option.getD_none,List.getElem?_nil];have:((0:Int):Rat)=0:=rfl
         rw[this];grind
 | some row=>simp only[Qk,Qh];exact Zom row j
theorem Zrw{B S n m:Nat}(R:List (List Rat))(hl:R.length=n)(hrow:∀ i,i<n->(R[i]?.getD []).length=m)(hS:∀ i,i<n->Zc3 R i<=S)(hBd:∀ i j,i<n->(Zag (Zab R) i j).natAbs<=B) :
    EIR B S n m 0 0 R (λ_=>0) (λi j=>(Zc3 R i:Nat)*Zv R i j) (λi=>(Zc3 R i:Nat))/\EIZ n m 0 R (λ_=>0) (λi=>(Zc3 R i:Nat)) (Zab R) 1:=by
 refine⟨⟨hl,hrow,λl h=>by omega,λl l' _ h=>by omega,λi j _ _ h=>by omega,λl j h=>by omega,λl h=>by omega,QD _,QD _,λi hi=>⟨⟨(Zc3 R i:Nat),by rw[Qu],by rw[QI];exact hS i hi⟩,λh0=>?_⟩,λi j hi=>⟨_,(Zh2 R i j).symm,hBd i j hi⟩,λN f σ _ _ _=>rfl⟩,⟨by unfold Zab;simp[hl],λi hi=>?_,rfl,λi j hi=>?_⟩⟩
 ·have:Zc3 R i=0:=by exact_mod_cast h0
  have:=Zd0 (R[i]?.getD []) (R[i]?.getD []).length;unfold Zc3 at *;omega
 ·unfold Zab
  rw[Qd,Qb Gk];simp only[Qk,Qh];rw[Zi0];have:=hrow i hi;rw[Qb Gk]at this;exact this
 rw[Zh2];have:Zeg R (λ_=>0) (λi=>((Zc3 R i:Nat):Rat)) (min i 0)=1:=by rw[show min i 0=0 by omega];rfl
 rw[this];grind
def byZ(R:List (List Rat)):Nat->Nat
 | 0=>1
 | k+1=>byZ R k*Zc3 R k
theorem Zv5(R:List (List Rat))(k:Nat):((byZ R k:Nat):Rat)=Za2 k (λi=>((Zc3 R i:Nat):Rat)):=by
 induction k with
 | zero=>rfl
 | succ k ih=>simp only[byZ,Za2];rw[QU,ih]
theorem byZ_pos(R:List (List Rat))(k:Nat):0<byZ R k:=by
 induction k with
 | zero=>exact Nat.one_pos
 | succ k ih=>exact Nat.mul_pos ih (Zd0 _ _)
theorem Zrs{n:Nat}{f:Nat->Rat}{k:Nat}(hk:k<n)(h:f k=0):Za2 n f=0:=by
 induction n with
 | zero=>omega
 | succ n ih =>
  simp only[Za2];by_cases hkn:k=n;rw[<- hkn,h];grind;rw[ih Gk];grind
theorem Zq0{n:Nat}(M:Nat->Nat->Rat)(s:Nat->Rat):Zas n (λa b=>s a*M a b)=Za2 n s*Zas n M:=by
 have key:∀ m,m<=n->Zas n (λa b=>if a<m then s a*M a b else M a b)=Za2 m s*Zas n M:=by
  intro m
  induction m with
  | zero=>intro _;simp only[Za2];rw[Za8 (N:=M) (λa b _ _=>Gw (QV a))];grind
  | succ m ih =>
   intro hm;have h0:=ih Gk;have h1:=Zgb (n:=n) (λa b=>if a<m then s a*M a b else M a b) (k:=m) Gk (M m) (M m) (s m) 0
   have e1:Zah (λa b=>if a<m then s a*M a b else M a b) m (λb=>s m*M m b+0*M m b)=λa b=>if a<m+1 then s a*M a b else M a b:=by
    funext a b
    unfold Zah;by_cases ha:a=m;subst ha;rw[Gx rfl,Gx Gk];grind;rw[Gw ha];by_cases h2:a<m;rw[Gx Gk];simp only[Gx h2];rw[Gw Gk];simp only[Gw h2]
   have e2:Zah (λa b=>if a<m then s a*M a b else M a b) m (M m)=λa b=>if a<m then s a*M a b else M a b:=by
    funext a b
    unfold Zah;by_cases ha:a=m;subst ha;rw[Gx rfl,Gw Gk];rw[Gw ha]
   rw[e1,e2,h0]at h1;rw[h1];simp only[Za2];grind
 rw[<- key n (Qa _)];exact Za8 λa b ha _=>by rw[Gx ha]
section
variable{B S n m:Nat}
theorem EIR.diag{col:Nat}{R:List (List Rat)}{pc:Nat->Nat}{G:Nat->Nat->Rat}{s:Nat->Rat}(h:EIR B S n m col n R pc G s)(hc:col<=n){l:Nat}(hl:l<n):pc l=l:=by
 have h1:∀ l,l<n->l<=pc l:=by
  intro l
  induction l with
  | zero=>intro _;omega
  | succ l ih=>intro hl;have:=ih Gk;have:=h.inc l (l+1) Gk hl;omega
 have h2:∀ d l,l+d+1=n->pc l+d<n:=by
  intro d
  induction d with
  | zero=>intro l hl;have:=h.pcl l Gk;omega
  | succ d ih=>intro l hl;have:=ih (l+1) Gk;have:=h.inc l (l+1) Gk Gk;omega
 have:=h1 l hl;have:=h2 (n-l-1) l Gk;omega
end
structure AltF (n:Nat) (F:(Nat->Nat->Rat)->Rat):Prop where
 congr:∀ {M N:Nat->Nat->Rat},(∀ a b,a<n->b<n->M a b=N a b)->F M=F N
 lin:∀ (M:Nat->Nat->Rat) (k:Nat),k<n->∀ (r s:Nat->Rat) (x y:Rat),F (Zah M k (λb=>x*r b+y*s b))=x*F (Zah M k r)+y*F (Zah M k s)
 two:∀ (M:Nat->Nat->Rat) (k l:Nat),k<n->l<n->k≠l->(∀ b,M k b=M l b)->F M=0
theorem AltF.det(n:Nat):AltF n (Zas n):=⟨Za8,λM _ hk r s x y=>Zgb M hk r s x y,λ_ _ _ hk hl hne h=>Ziv hk hl hne h⟩
section
variable{n:Nat}{F:(Nat->Nat->Rat)->Rat}
theorem AltF.add(h:AltF n F)(M:Nat->Nat->Rat){k:Nat}(hk:k<n)(r s:Nat->Rat):F (Zah M k (λb=>r b+s b))=F (Zah M k r)+F (Zah M k s):=by
 have:=h.lin M k hk r s 1 1;rw[show (λb=>r b+s b)=(λb=>1*r b+1*s b) by funext b;grind,this];grind
theorem AltF.swap(h:AltF n F){k l:Nat}(hk:k<n)(hl:l<n)(hne:k≠l)(M:Nat->Nat->Rat):F (Zah (Zah M k (M l)) l (M k))=- F M:=by
 obtain⟨r,hr⟩:=Gz (M l);obtain⟨s,hs⟩:=Gz (M k);have h0:=h.two (Zah (Zah M k (λb=>r b+s b)) l (λb=>r b+s b)) k l hk hl hne (λb=>by simp[Zah,hne]);have h1:=h.two (Zah (Zah M k r) l r) k l hk hl hne (λb=>by simp[Zah,hne]);have h2:=h.two (Zah (Zah M k s) l s) k l hk hl hne (λb=>by simp[Zah,hne]);rw[h.add _ hl,Zb7 _ hne,Zb7 _ hne,h.add _ hk,h.add _ hk,<- Zb7 _ hne,<- Zb7 _ hne,<- Zb7 _ hne,<- Zb7 _ hne,h1,h2]at h0;rw[hr,hs];have e:Zah (Zah M k s) l r=M:=by rw[<- hs,Zdy,<- hr,Zdy]
 rw[e]at h0
 grind
theorem AltF.addrow(h:AltF n F)(M:Nat->Nat->Rat){k l:Nat}(hk:k<n)(hl:l<n)(hne:k≠l)(c:Rat):F (Zah M k (λb=>M k b+c*M l b))=F M:=by
 have h1:=h.lin M k hk (M k) (M l) 1 c
 rw[show (λb=>M k b+c*M l b)=(λb=>1*M k b+c*M l b) by funext b;grind,h1,Zdy,
  h.two (Zah M k (M l)) k l hk hl hne (λb=>by simp[Zah,Qs hne])]
 grind
theorem AltF.clear(h:AltF n F)(M:Nat->Nat->Rat){l:Nat}(hl:l<n)(c:Nat->Rat):F (λa b=>if a=l then M a b else M a b+c a*M l b)=F M:=by
 have key:∀ m,m<=n->F (λa b=>if a=l then M a b else if a<m then M a b+c a*M l b else M a b)=F M:=by
  intro m
  induction m with
  | zero=>intro _;exact h.congr λa b _ _=>by split <;> rfl
  | succ m ih =>
   intro hm;have h0:=ih Gk;by_cases hml:m=l
   ·rw[<- h0];refine h.congr λa b _ _=>?_
    exact FF
   have h1:=h.addrow (λa b=>if a=l then M a b else if a<m then M a b+c a*M l b else M a b) (k:=m) (l:=l) Gk hl hml (c m);rw[h0]at h1;rw[<- h1];refine h.congr λa b _ _=>?_;exact Fm
 rw[<- key n (Qa _)];exact h.congr λa b ha hb=>by rw[Gx ha]
end
theorem Zvd(n:Nat)(A:Nat->Nat->Rat):∀ c,c<=n->∃ (U:Nat->Nat->Rat) (e:Rat),(∀ i j,i<n->j<c->j<i->U i j=0)/\∀ F,AltF n F->F A=e*F U:=by
 intro c
 induction c with
 | zero=>intro _;exact⟨A,1,λi j _ h=>by omega,λF _=>by grind⟩
 | succ c ih =>
  intro hc;obtain⟨U,e,h1,h2⟩:=ih Gk
  have clr:∀ V:Nat->Nat->Rat,(∀ i j,i<n->j<c->j<i->V i j=0)->V c c≠0->∃ (U:Nat->Nat->Rat),(∀ i j,i<n->j<c+1->j<i->U i j=0)/\∀ F,AltF n F->F V=F U:=by
   intro V hV hp;refine⟨λa b=>if a=c then V a b else V a b+(if a<c then 0 else -(V a c/V c c))*V c b,λi j hi hj hji=>?_,λF hF=>(hF.clear V Gk _).symm⟩;by_cases hic:i=c;subst hic;simp only[if_true];exact hV i j hi Gk hji;simp only[Gw hic];by_cases hlt:i<c;rw[Gx hlt,hV i j hi Gk hji];grind;rw[Gw hlt];by_cases hjc:j=c;subst hjc;grind;rw[hV i j hi Gk hji,hV c j Gk Gk Gk];grind
  by_cases hz:∀ i,c<i->i<n->U i c=0
  ·refine⟨U,e,λi j hi hj hji=>?_,h2⟩
   by_cases hjc:j=c;subst hjc;exact hz i hji hi;exact h1 i j hi Gk hji
  by_cases hp:U c c=0
  ·obtain⟨k,E,u,C⟩:∃ k,c<k/\k<n/\U k c≠0:=by
     refine Classical.byContradiction λhn=>hz λi h1 h2=>Classical.byContradiction λh3=>hn ⟨i,h1,h2,h3⟩
   obtain⟨V,f,o⟩:=clr (Zah (Zah U c (U k)) k (U c)) (λi j hi hj hji=>by
    unfold Zah;by_cases hik:i=k;rw[Gx hik];exact h1 c j Gk hj Gk
    ·rw[Gw hik]
     by_cases hic:i=c;rw[Gx hic];exact h1 k j u hj Gk;rw[Gw hic];exact h1 i j hi hj hji) (by
    unfold Zah;rw[Gw Gk,Gx rfl];exact C)
   refine⟨V,-e,f,λF hF=>?_⟩;rw[h2 F hF,<- o F hF,hF.swap Gk u Gk];grind
  obtain⟨V,f,o⟩:=clr U h1 hp;exact⟨V,e,f,λF hF=>by rw[h2 F hF,o F hF]⟩
def Zbg(a b:Nat):Rat:=if a=b then 1 else 0
theorem AltF.tri{n:Nat}{F:(Nat->Nat->Rat)->Rat}(h:AltF n F):∀ t,t<=n->∀ U:Nat->Nat->Rat,(∀ i j,i<n->j<i->U i j=0)->(∀ i j,t<=i->i<n->U i j=Zbg i j)->F U=Za2 t (λi=>U i i)*F Zbg
 | 0,_,U,_,h2=>by
  rw[h.congr (N:=Zbg) (λa b ha hb=>h2 a b (QD _) ha)];simp only[Za2];grind
 | t+1,ht,U,h1,h2=>by
  -- row t is cleared by the rows behind it
  have key:∀ c,c<=n->F (Zah U t (λb=>if t<b/\b<c then 0 else U t b))=F U:=by
   intro c
   induction c with
   | zero=>intro _;refine h.congr λa b _ _=>?_
           unfold Zah;by_cases ha:a=t;rw[Gx ha,ha];simp only[QV,and_false,if_false];rw[Gw ha]
   | succ c ih =>
    intro hc;have h0:=ih Gk;by_cases htc:t<c
    ·have h3:=h.addrow (Zah U t (λb=>if t<b/\b<c then 0 else U t b)) (k:=t) (l:=c) Gk Gk Gk (-(U t c))
     rw[h0]at h3;rw[<- h3];refine h.congr λa b _ hb=>?_;unfold Zah;by_cases ha:a=t
     ·subst ha
      simp only[if_true];rw[Gw (by omega:¬ c=a),h2 c b Gk Gk];unfold Zbg;by_cases hbc:c=b;subst hbc;rw[Gx Gk,Gw Gk,Gx rfl];grind;rw[Gw hbc];by_cases hb2:a<b/\b<c;rw[Gx Gk,Gx hb2];grind;rw[Gw Gk,Gw hb2];grind
     rw[Gw ha,Gw ha,Gw ha]
    rw[<- h0];refine h.congr λa b _ _=>?_;unfold Zah;by_cases ha:a=t
    ·rw[Gx ha,Gx ha]
     simp only[Gw (show ¬ (t<b/\b<c+1) by omega),Gw (show ¬ (t<b/\b<c) by omega)]
    rw[Gw ha,Gw ha]
  have hk:=key n (Qa _);have hs:=h.lin U t Gk (Zbg t) (Zbg t) (U t t) 0
  have e1:F (Zah U t (λb=>if t<b/\b<n then 0 else U t b))=F (Zah U t (λb=>U t t*Zbg t b+0*Zbg t b)):=by
   refine h.congr λa b _ hb=>?_;unfold Zah;by_cases ha:a=t
   ·rw[Gx ha,Gx ha]
    unfold Zbg;simp only;by_cases hb1:t=b;subst hb1;rw[Gw Gk,Gx rfl];grind;rw[Gw hb1];by_cases hb2:t<b;rw[Gx ⟨hb2,hb⟩];grind;rw[Gw Gk,h1 t b Gk Gk];grind
   rw[Gw ha,Gw ha]
  have ih:=h.tri t Gk (Zah U t (Zbg t)) (λi j hi hji=>by
   unfold Zah Zbg;split;rw[Gw Gk]
   ·exact h1 i j hi hji) (λi j hti hi=>by
   unfold Zah;split;rename_i h;rw[h];exact h2 i j Gk hi)
  rw[<- hk,e1,hs,ih];rw[Za2,Zcv (f:=λi=>Zah U t (Zbg t) i i) (g:=λi=>U i i) (λi hi=>by unfold Zah;rw[Gw Gk])]
  grind
theorem Zp4(n:Nat):Zas n Zbg=1:=by
 rw[Zio (λa b _ h=>by unfold Zbg;rw[Gw Gk])]
 have:∀ m,Za2 m (λi=>Zbg i i)=1:=by
  intro m
  induction m with
  | zero=>rfl
  | succ m ih=>simp only[Za2];rw[ih];unfold Zbg;rw[Gx rfl];grind
 exact this n
theorem AltF.eq{n:Nat}{F:(Nat->Nat->Rat)->Rat}(h:AltF n F)(A:Nat->Nat->Rat):F A=Zas n A*F Zbg:=by
 obtain⟨U,e,h1,h2⟩:=Zvd n A n (Qa _);have h3:=h.tri n (Qa _) U (λi j hi hj=>h1 i j hi Gk hj) (λi j h1 h2=>by omega);have h4:=(AltF.det n).tri n (Qa _) U (λi j hi hj=>h1 i j hi Gk hj) (λi j h1 h2=>by omega);rw[h2 F h,h2 _ (AltF.det n),h3,h4,Zp4];grind
def Zp9(k:Nat)(A B:Nat->Nat->Rat):Nat->Nat->Rat:=λi j=>sumQ k (λl=>A i l*B l j)
theorem det_mul(n:Nat)(A B:Nat->Nat->Rat):Zas n (Zp9 n A B)=Zas n A*Zas n B:=by
 have hF:AltF n (λM=>Zas n (Zp9 n M B)):=by
  refine⟨λ{M N} h=>Za8 λa b ha hb=>Zx λl hl=>by rw[h a l ha hl],λM k hk r s x y=>?_,λM k l hk hl hne h=>Ziv hk hl hne (λb=>Zx λi hi=>by rw[h i])⟩
  have e:∀ q:Nat->Rat,Zp9 n (Zah M k q) B=Zah (Zp9 n M B) k (λb=>sumQ n (λl=>q l*B l b)):=by
   intro q
   funext a b
   unfold Zp9 Zah;by_cases ha:a=k
   ·rw[Gx ha];refine Zx λl _=>by rw[Gx ha]
   rw[Gw ha];refine Zx λl _=>by rw[Gw ha]
  rw[e,e,e,<- Zgb (Zp9 n M B) hk];congr 2
  funext b
  rw[<- Zeo];exact Zx λl _=>by grind
 have:=hF.eq A;rw[this];congr 1;refine Za8 λa b ha hb=>?_;unfold Zp9;rw[Zgt a ha (λi _ hi=>by unfold Zbg;rw[Gw (Qs hi)];grind)];unfold Zbg;rw[Gx rfl];grind
theorem Zoe{n:Nat}(A:Nat->Nat->Rat)(x y:Nat->Rat)(h:∀ i,i<n->sumQ n (λj=>A i j*x j)=y i){k:Nat}(hk:k<n):Zas n A*x k=Zas n (λa b=>if b=k then y a else A a b):=by
 have hT:Zas n (λa b=>if b=k then x a else Zbg a b)=x k:=by
  -- rows a: unit a+x a at column k;row k: x k at column k
  have h1:=(AltF.det n).lin (λa b=>if b=k then x a else Zbg a b) k hk (Zbg k) (Zbg k) (x k) 0
  have e1:Zah (λa b=>if b=k then x a else Zbg a b) k (λb=>x k*Zbg k b+0*Zbg k b)=(λa b=>if b=k then x a else Zbg a b):=by
   funext a b
   unfold Zah;by_cases ha:a=k
   ·subst ha;rw[Gx rfl];unfold Zbg
    by_cases hb:b=a;subst hb;simp only[if_true];grind;rw[Gw hb,Gw (Qs hb)];grind
   rw[Gw ha]
  rw[e1]at h1;have h2:=Zlt (n:=n) (λa b=>Zbg a b) hk x
  have e2:Zas n (Zah (λa b=>if b=k then x a else Zbg a b) k (Zbg k))=Zas n (λa b=>if a=k then Zbg a b else Zbg a b+x a*Zbg k b):=by
   refine Za8 λa b _ _=>?_;unfold Zah;by_cases ha:a=k;rw[Gx ha,Gx ha,ha];rw[Gw ha,Gw ha];unfold Zbg;simp only;by_cases hb:b=k;subst hb;rw[Gx rfl,Gw ha,Gx rfl];grind;rw[Gw hb,Gw (Qs hb)];grind
  rw[e2,h2,Zp4]at h1;rw[h1];grind
 have h3:=det_mul n A (λa b=>if b=k then x a else Zbg a b);rw[hT]at h3;rw[<- h3];refine Za8 λa b ha hb=>?_;unfold Zp9;by_cases hbk:b=k
 ·rw[Gx hbk,<- h a ha]
  exact Zx λl _=>by simp only;rw[Gx hbk]
 rw[Gw hbk,Zgt b hb (λi _ hi=>by simp only;rw[Gw hbk];unfold Zbg;rw[Gw hi];grind)];simp only;rw[Gw hbk];unfold Zbg;rw[Gx rfl];grind
