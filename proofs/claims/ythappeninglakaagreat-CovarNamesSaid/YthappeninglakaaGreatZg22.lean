/- Package wide: left, by any number of binary digits. -/
import Derived.Deep.LoopGhost
import Derived.Test.YthappeninglakaaGreatZg21
set_option maxRecDepth 100000
set_option maxHeartbeats 8000000
set_option linter.unusedSimpArgs false
set_option linter.unusedVariables false
namespace Go.Proofs.YthappeninglakaaGreat
open Go.RowKit
open Nat renaming le_refl→Qa,lt_of_le_of_lt→Qe,le_trans→Qi,mul_lt_mul''→Qo,le_succ→Qt,zero_le→Qv,mul_le_mul→QB,lt_irrefl→QG
open Int renaming natAbs_natCast→Qb,mul_le_mul→Qg,le_ediv_iff_mul_le→Qm,natAbs_mul→Qs,fdiv_eq_ediv_of_nonneg→Qw,fdiv→Qx,mul_nonneg→QD
open Rat renaming intCast_mul→Qc,intCast_le_intCast→Qn,intCast_natCast→Qq,mul_pos→Qu,mul_nonneg→QC,divInt→QM
open Below renaming refl→Qd
open Act renaming put→Qf
open List renaming mem_map_of_mem→Qh,getElem?_eq_getElem→Qj,replicate→Qk,getElem?_map→Ql,getElem?_eq_none→Qp,getElem?_range→Qr,eq_of_mem_replicate→Qz,take_of_length_le→QA,mem_of_getElem?→QE,map_cons→QF,mem_singleton→QH,map_nil→QI,length_take→QJ,length_cons→QL,length_nil→QN
open Bool renaming and_eq_true→Qy
open Option renaming getD_some→QK
attribute [local go_sem] Zg
def IsRoot(s r:Nat):Prop:=r*r<=s/\s<(r+1)*(r+1)
theorem IsRoot.unique{s r t:Nat}(h:IsRoot s r)(k:IsRoot s t):r=t:=by
 obtain⟨h1,h2⟩:=h;obtain⟨k1,k2⟩:=k;rcases Nat.lt_trichotomy r t with h3|h3|h3
 ·have:(r+1)*(r+1)<=t*t:=QB h3 h3
  omega
 exact h3
 ·have:(t+1)*(t+1)<=r*r:=QB h3 h3
  omega
noncomputable def rootN (z:Nat):Nat:=@dite Nat (∃ r,IsRoot z r) (Classical.propDecidable _) (λh=>Classical.choose h) (λ_=>0)
theorem Zit{z r:Nat}(h:IsRoot z r):rootN z=r:=by
 unfold rootN;rw[@dif_pos _ (Classical.propDecidable _) ⟨r,h⟩];exact(Classical.choose_spec (⟨r,h⟩:∃ r,IsRoot z r)).unique h
theorem Zr9(A:Option Addr)(n c u:Nat)(w:World)(hz:Wd w false A n c (u:Int)) :
    Calls Tryz.prog 122 #[.agg #[.bool false,.slice A n c],.int .i64 (-1)] w (NumE w ((u/2:Nat):Int)):=by
 have hn:=hz.2.1;obtain⟨W0,a7,J,⟨q1,q2⟩,s0⟩:=Zdb w 39 #[.bool false,.slice A n c] 39 #[.bool false,.slice none 0 0];obtain⟨Y1,Y,qz,C⟩:=Zq (w:=W0) 39 #[.bool false,.slice A n c];have I:Hid (okW false (digits u)=true):=by have h:=hz.ok;rw[Qb]at h;exact Za h
 have b2:Hid (u<pw 4096):=by
  have h:=hz.lim.len;have h2:=(Zs (u:Int).natAbs 4096).1;rw[Qb]at h h2;exact Za (h2 (by omega))
 have o:=Za (hz.below J)
 have a2:Hid (WL Y1 (some ⟨W0.heap.size,0,none⟩) 1 1 [⟨false,A,n,c,digits u⟩]):=Za (by
  have h:=o.out.lim;rw[Qb]at h;rw[<- Y];exact WL.one h _)
 obtain⟨gz,a3⟩:=Gz W0.heap.size;rw[a3]at a2;obtain⟨b6,b3,-⟩:=q1.two;replace q1:=Za (Zc C q1);replace q2:=Za (Zc C q2);replace o:=Za (o.out.below C);have b1:=hz.lim.2.2.1;have b8:=hz.lim.2.1;unfold maxLen at b1;have a1:=Za (J.trans (C.mono J.size));obtain⟨O,T,-⟩:=q1.out.two;clear hz C J;replace s0:=Za s0;go_enter Tryz.func122,Tryz.ntmps122;go_wp2_with fail;(try rw[a7]);(try rw[a3]);(try rw[Y]);clear a7 Y a3 qz s0 b6 b3;refine(Zdc a2.out (by have:=I.out;simp[WE.ok,this])).mono ?_;rintro e w1 ⟨rfl,f⟩;replace q1:=Za (Zc f q1.out);replace q2:=Za (Zc f q2.out);replace o:=Za (o.out.below f);have a5:=Za (a1.out.trans (f.mono a1.out.size));clear a1;clear f a2 I O T;obtain⟨O,T,-⟩:=q1.out.two;go_wp2_with fail;refine(Zn7 A n c 1 _ w1 o.out.lim (by decide) (by omega)).mono ?_;rintro e w3 ⟨Ah,nh,ch,oh,bh,rfl,y,V,f⟩;replace q1:=Za (Zc f q1.out);replace q2:=Za (Zc f q2.out);replace o:=Za (o.out.below f);have a0:=Za (a5.out.trans (f.mono a5.out.size));clear a5;clear f;rw[Qb,Zj]at V;have b7:=y.2.1;have b0:=y.2.2.1;unfold maxLen at b0;have a4:val oh=u/2:=by simpa using V
 replace a4:=Za a4;clear V O T;obtain⟨O,T,-⟩:=q1.out.two;replace y:=Za y;clear o;go_wp2_with fail;refine(Zb7 false Ah nh ch _ w3 y.out).mono ?_;rintro e w5 ⟨f,rn,rA,rk,rc,code,rfl,hP⟩;replace q1:=Za (Zc f q1.out);replace q2:=Za (Zc f q2.out);replace y:=Za (y.out.below f);have b5:=Za (a0.out.trans (f.mono a0.out.size));clear a0;clear f;rw[a4.out]at hP
 have a6:(sg false (u/2)).natAbs<pw 4096:=by
  show ((u/2:Nat):Int).natAbs<_;rw[Qb];exact Qe (Nat.div_le_self _ _) b2.out
 have a9:Wd w5 rn rA rk rc ((u/2:Nat):Int):=hP.small a6;obtain rfl:code=0:=hP.code0 a6;obtain⟨e0,e1,f0,f1⟩:=q2.out.two;clear hP a6;obtain⟨U,hU,b4,q3,kW,-,-⟩:=Zas rn rA rk rc b5.out (Qt _) q2.out;obtain⟨r0,r1,-⟩:=q3.two;have a8:=Za (kW _ _ _ _ _ a9);clear kW a9;go_wp2_with fail;(try rw[hU]);refine bodyPost_ret (v:=.tuple #[.agg #[.bool rn,.slice rA rk rc],.int .i64 0]) (by simp[results,Tryz.results122,go_sem,r0,r1]) rfl ?_;exact⟨b4,_,_,_,_,rfl,a8.out⟩
structure EdgeP (sg:Int) (mq sq:Rat) (M:Int):Prop where
 low:∀ z:Int,-1<=z->(Zgu sg mq sq z=true ↔ z<=M)
 m:-1<=M
 big:M<((pw 313:Nat):Int)
 sm:Sm mq
 ss:Sm sq
 z:∀ z:Int,-1<=z->z<=2*M+2->Sm (z:Rat)/\Sm ((z:Rat)-mq)/\Sm (((z:Rat)-mq)*((z:Rat)-mq))
theorem Zy2{M:Int}(h:M<((pw 313:Nat):Int)){z:Int}(h1:-1<=z)(h2:z<=8*M+64):z.natAbs<pw 4096:=by
 have h3:pw 314<=pw 4096:=Zb4 (by decide);have h4:pw 314=4294967296*pw 313:=by rw[Za3]
 have h6:=Zb2 313;generalize pw 4096=R at *;generalize pw 314=Q at *;generalize pw 313=P at *;omega
theorem cmp_le1{a b:Int}:Zda a b<=0 ↔ a<=b:=by
 unfold Zda
 split
 ·constructor <;> intro _ <;> omega
 ·split
  ·constructor <;> intro h1 <;> omega
  ·constructor <;> intro _ <;> omega
theorem Zu6(mn:Bool)(mA:Option Addr)(mk mc:Nat)(mm:Bool)(mB:Option Addr)(mj md:Nat)(sn:Bool)(sA:Option Addr)(sk sc:Nat)(sm:Bool)(sB:Option Addr)(sj sd:Nat)(sg:Int)(mq sq:Rat)(M:Int)(w:World)(u:Fr w mn mA mk mc mm mB mj md mq)(o:Fr w sn sA sk sc sm sB sj sd sq)(hE:EdgeP sg mq sq M) :
    Calls Tryz.prog 72 #[.agg #[.bool mn,.slice mA mk mc,.bool mm,.slice mB mj md],.agg #[.bool sn,.slice sA sk sc,.bool sm,.slice sB sj sd],.int .i64 sg] w (NumW w M):=by
 have hmx:=Gt
 have o3:∀ (fn:Fn) (first cap:Array Value) (w:World),(Instr.makeFunc fn first cap).run Tryz.prog w=.ok (.func fn first cap) w:=λ_ _ _ _=>rfl
 have f0:Hid (∀ z:Int,-1<=z->z<=8*M+64->z.natAbs<pw 4096):=Za (λz h1 h2=>Zy2 hE.big h1 h2);have n6:=hE.m;replace hE:=Za hE;obtain⟨W0,l6,g0,⟨qm,qs,qp,qr⟩,s0⟩:=Zgf w 73 #[.bool mn,.slice mA mk mc,.bool mm,.slice mB mj md] 73 #[.bool sn,.slice sA sk sc,.bool sm,.slice sB sj sd] 3 #[.int .i64 sg] 39 #[.bool false,.slice none 0 0];replace u:=Za (u.below g0);replace o:=Za (o.below g0);replace qm:=Za qm;replace qs:=Za qs;replace qp:=Za qp;replace qr:=Za qr;replace g0:=Za g0;replace s0:=Za s0;go_enter Tryz.func72,Tryz.ntmps72;go_wp2_with fail;(try rw[l6]);clear l6;refine(Zbf (-1) W0 (by decide) (by decide)).mono ?_;rintro e w1 ⟨f,ln,lA,lk,lc,rfl,lf⟩;replace u:=Za (u.out.below f);replace o:=Za (o.out.below f);replace qm:=Za (Zc f qm.out);replace qs:=Za (Zc f qs.out);replace qp:=Za (Zc f qp.out);replace qr:=Za (Zc f qr.out);have k7:=Za (g0.out.trans (f.mono g0.out.size));clear g0;clear f;replace lf:=Za lf;go_wp2_with fail;refine(Zbf 1 w1 (by decide) (by decide)).mono ?_;rintro e w3 ⟨f,tn,tA,tk,tc,rfl,tf⟩;replace u:=Za (u.out.below f);replace o:=Za (o.out.below f);replace qm:=Za (Zc f qm.out);replace qs:=Za (Zc f qs.out);replace qp:=Za (Zc f qp.out);replace qr:=Za (Zc f qr.out);replace lf:=Za (lf.out.below f);have k5:=Za (k7.out.trans (f.mono k7.out.size));clear k7;clear f;replace tf:=Za tf;have n8:Hid (w.heap.size+1+1+1<w3.heap.size):=Za qr.out.lt
 obtain⟨V5,l3,d8,⟨q8,q9⟩,s2⟩:=Zdb w3 39 #[.bool ln,.slice lA lk lc] 39 #[.bool tn,.slice tA tk tc];obtain⟨g8,k0⟩:=Gz w3.heap.size;rw[k0]at q8 q9 n8;have n9:Hid (g8<g8+1):=Za (Nat.lt_succ_self _);replace s2:=Za s2;replace u:=Za (u.out.below d8);replace o:=Za (o.out.below d8);replace qm:=Za (Zc d8 qm.out);replace qs:=Za (Zc d8 qs.out);replace qp:=Za (Zc d8 qp.out);replace qr:=Za (Zc d8 qr.out);replace lf:=Za (lf.out.below d8);replace tf:=Za (tf.out.below d8);have k9:=Za (k5.out.trans (d8.mono k5.out.size));clear k5;clear d8;replace q8:=Za q8;replace q9:=Za q9;obtain⟨x0,x1,-⟩:=q8.out.two;obtain⟨u0,u1,-⟩:=q9.out.two;go_wp2_with fail;(try rw[k0]);(try rw[l3]);clear l3;replace k0:=Za k0;clear x0 x1 u0 u1;refine(Zjf ln tn lA tA lk lc tk tc (-1) 1 V5 lf.out tf.out).mono ?_;rintro e w7 ⟨f,hn,hA,hk,hc,cd,rfl,hP⟩;replace u:=Za (u.out.below f);replace o:=Za (o.out.below f);replace qm:=Za (Zc f qm.out);replace qs:=Za (Zc f qs.out);replace qp:=Za (Zc f qp.out);replace qr:=Za (Zc f qr.out);replace lf:=Za (lf.out.below f);replace tf:=Za (tf.out.below f);replace q8:=Za (Zc f q8.out);replace q9:=Za (Zc f q9.out);have l0:=Za (k9.out.trans (f.mono k9.out.size));clear k9;clear f;have a7:=f0.out (-1+1) (by omega) (by omega);have hf:Wd w7 hn hA hk hc (-1+1):=hP.small a7;obtain rfl:cd=0:=hP.code0 a7;clear hP a7;replace hf:=Za hf;have a5:Hid ((g8+1)<w7.heap.size):=Za q9.out.lt
 obtain⟨g9,e8⟩:=Gz w7.heap.size;obtain⟨o1,k1,j0,a6⟩:=Zq (w:=w7) 39 #[.bool hn,.slice hA hk hc];rw[e8]at j0;replace u:=Za (u.out.below a6);replace o:=Za (o.out.below a6);replace qm:=Za (Zc a6 qm.out);replace qs:=Za (Zc a6 qs.out);replace qp:=Za (Zc a6 qp.out);replace qr:=Za (Zc a6 qr.out);replace lf:=Za (lf.out.below a6);replace tf:=Za (tf.out.below a6);replace q8:=Za (Zc a6 q8.out);replace q9:=Za (Zc a6 q9.out);replace hf:=Za (hf.out.below a6);have k2:=Za (l0.out.trans (a6.mono l0.out.size));clear l0;clear a6;replace j0:=Za j0;rw[e8]at a5;go_wp2_with fail;(try rw[e8]);(try rw[k1]);clear k1;replace e8:=Za e8
 go_loopg [] (M+1).toNat (λx wr=>∃ (lo st hi:Int) (ln:Bool) (lA:Option Addr) (lk lc:Nat) (tn:Bool) (tA:Option Addr) (tk tc:Nat) (hn:Bool) (hA:Option Addr) (hk hc:Nat),Hid (x=(M-lo).toNat)/\lo=st-2/\1<=st/\hi=lo+st/\lo<=M/\-1<=lo/\Hid (Blk wr g8 39 #[.bool ln,.slice lA lk lc])/\Hid (Blk wr (g8+1) 39 #[.bool tn,.slice tA tk tc])/\Hid (Blk wr g9 39 #[.bool hn,.slice hA hk hc])/\Hid (Wd wr ln lA lk lc lo)/\Hid (Wd wr tn tA tk tc st)/\Hid (Wd wr hn hA hk hc hi)/\Hid (Blk wr w.heap.size 73 #[.bool mn,.slice mA mk mc,.bool mm,.slice mB mj md])/\Hid (Blk wr (w.heap.size+1) 73 #[.bool sn,.slice sA sk sc,.bool sm,.slice sB sj sd])/\Hid (Blk wr (w.heap.size+1+1) 3 #[.int .i64 sg])/\Hid (Blk wr (w.heap.size+1+1+1) 39 #[.bool false,.slice none 0 0])/\Hid (Fr wr mn mA mk mc mm mB mj md mq)/\Hid (Fr wr sn sA sk sc sm sB sj sd sq)/\Hid (Below w.heap.size w wr))
 case atStart=>exact⟨-1,1,0,_,_,_,_,_,_,_,_,_,_,_,_,Za (by omega),by omega,by omega,by omega,by omega,by omega,q8,q9,j0,lf,tf,hf,qm,qs,qp,qr,u,o,k2⟩
 case round =>
  clear q8 q9 j0 lf tf hf qm qs qp qr u o k2;obtain⟨wi,rfl⟩:=Gy wr;obtain⟨lo,st,hi,ln,lA,lk,lc,tn,tA,tk,tc,hn,hA,hk,hc,g5,m7,m3,m5,j9,j8,q8,q9,y,lf,tf,hf,qm,qs,qp,qr,u,o,f3⟩:=hrel;obtain⟨y0,y1,-⟩:=y.out.two;go_wp2_with fail;clear y0 y1;refine(Zsg hn hA hk hc (hi) w.heap.size (w.heap.size+1) (w.heap.size+1+1) mn mA mk mc mm mB mj md sn sA sk sc sm sB sj sd sg mq sq wi hf.out qm.out u.out qs.out o.out qp.out (hE.out.z _ (by omega) (by omega)).1 hE.out.sm (hE.out.z _ (by omega) (by omega)).2.1 (hE.out.z _ (by omega) (by omega)).2.2 hE.out.ss).mono ?_;rintro e n2 ⟨rfl,f⟩;replace q8:=Za (Zc f q8.out);replace q9:=Za (Zc f q9.out);replace y:=Za (Zc f y.out);replace lf:=Za (lf.out.below f);replace tf:=Za (tf.out.below f);replace hf:=Za (hf.out.below f);replace qm:=Za (Zc f qm.out);replace qs:=Za (Zc f qs.out);replace qp:=Za (Zc f qp.out);replace qr:=Za (Zc f qr.out);replace u:=Za (u.out.below f);replace o:=Za (o.out.below f);have e3:=Za (f3.out.trans (f.mono f3.out.size));clear f3;clear f;by_cases hbe:hi<=M
  case pos =>
   have t1:Zgu sg mq sq hi=true:=(hE.out.low hi (by omega)).2 hbe;rw[t1];clear t1;obtain⟨x0,x1,-⟩:=y.out.two;obtain⟨l7,j1,h0,e1,c5,b8,-⟩:=Zas hn hA hk hc e3.out (show w.heap.size<=g8 by have:=n8.out;have:=n9.out;have:=a5.out;omega) q8.out;have h8:=Za (b8 _ _ _ (by have:=n8.out;have:=n9.out;have:=a5.out;omega) q9.out);have a9:=Za (b8 _ _ _ (by have:=n8.out;have:=n9.out;have:=a5.out;omega) y.out);have lfz:=Za (c5 _ _ _ _ _ lf.out);have tfz:=Za (c5 _ _ _ _ _ tf.out);have b2:=Za (c5 _ _ _ _ _ hf.out);have qmz:=Za (b8 _ _ _ (by have:=n8.out;have:=n9.out;have:=a5.out;omega) qm.out);have qsz:=Za (b8 _ _ _ (by have:=n8.out;have:=n9.out;have:=a5.out;omega) qs.out);have qpz:=Za (b8 _ _ _ (by have:=n8.out;have:=n9.out;have:=a5.out;omega) qp.out);have qrz:=Za (b8 _ _ _ (by have:=n8.out;have:=n9.out;have:=a5.out;omega) qr.out);have Y:=Za (Fr.keep u.out c5);have V:=Za (Fr.keep o.out c5);have g2:=Za h0;replace e1:=Za e1;obtain⟨y0,y1,z0,z1⟩:=q8.out.two;obtain⟨a0,a1,-⟩:=h8.out.two;go_wp2_with fail;clear x0 x1 a0 a1;(try rw[j1]);clear j1 c5 b8 h0 y0 y1 z0 z1;replace q9:=h8;clear h8;replace y:=a9;clear a9;replace lf:=lfz;clear lfz;replace tf:=tfz;clear tfz;replace hf:=b2;clear b2;replace qm:=qmz;clear qmz;replace qs:=qsz;clear qsz;replace qp:=qpz;clear qpz;replace qr:=qrz;clear qrz;replace u:=Y;clear Y;replace o:=V;clear V;clear q8;have q8:=e1
   clear e1 e3;clear lf;refine(Zjf tn tn tA tA tk tc tk tc st st l7 tf.out tf.out).mono ?_;rintro e l2 ⟨f,an,aA,ak,ac,cd,rfl,hP⟩;replace q8:=Za (Zc f q8.out);replace q9:=Za (Zc f q9.out);replace y:=Za (Zc f y.out);replace tf:=Za (tf.out.below f);replace hf:=Za (hf.out.below f);replace qm:=Za (Zc f qm.out);replace qs:=Za (Zc f qs.out);replace qp:=Za (Zc f qp.out);replace qr:=Za (Zc f qr.out);replace u:=Za (u.out.below f);replace o:=Za (o.out.below f);have j4:=Za (g2.out.trans (f.mono g2.out.size));clear g2;clear f;have a7:=f0.out (st+st) (by omega) (by omega);have af:Wd l2 an aA ak ac (st+st):=hP.small a7;obtain rfl:cd=0:=hP.code0 a7;clear hP a7;replace af:=Za af;obtain⟨l5,i6,h6,d6,c4,b9,-⟩:=Zas an aA ak ac j4.out (show w.heap.size<=(g8+1) by have:=n8.out;have:=n9.out;have:=a5.out;omega) q9.out;have c6:=Za (b9 _ _ _ (by have:=n8.out;have:=n9.out;have:=a5.out;omega) q8.out);have a9:=Za (b9 _ _ _ (by have:=n8.out;have:=n9.out;have:=a5.out;omega) y.out);have tfz:=Za (c4 _ _ _ _ _ tf.out);have b2:=Za (c4 _ _ _ _ _ hf.out);have qmz:=Za (b9 _ _ _ (by have:=n8.out;have:=n9.out;have:=a5.out;omega) qm.out);have qsz:=Za (b9 _ _ _ (by have:=n8.out;have:=n9.out;have:=a5.out;omega) qs.out);have qpz:=Za (b9 _ _ _ (by have:=n8.out;have:=n9.out;have:=a5.out;omega) qp.out);have qrz:=Za (b9 _ _ _ (by have:=n8.out;have:=n9.out;have:=a5.out;omega) qr.out)
   have Y:=Za (Fr.keep u.out c4);have V:=Za (Fr.keep o.out c4);have afz:=Za (c4 _ _ _ _ _ af.out);have f7:=Za h6;replace d6:=Za d6;obtain⟨y0,y1,z0,z1⟩:=q9.out.two;obtain⟨a0,a1,-⟩:=c6.out.two;obtain⟨b0,b1,-⟩:=d6.out.two;go_wp2_with fail;clear a0 a1 b0 b1;(try rw[i6]);clear i6 c4 b9 h6 y0 y1 z0 z1;replace q8:=c6;clear c6;replace y:=a9;clear a9;replace tf:=tfz;clear tfz;replace hf:=b2;clear b2;replace qm:=qmz;clear qmz;replace qs:=qsz;clear qsz;replace qp:=qpz;clear qpz;replace qr:=qrz;clear qrz;replace u:=Y;clear Y;replace o:=V;clear V;replace af:=afz;clear afz;clear q9;have q9:=d6;clear d6 j4;clear tf;refine(Zjf hn an hA aA hk hc ak ac hi (st+st) l5 hf.out af.out).mono ?_;rintro e l9 ⟨f,bn,bA,bk,bc,cd,rfl,hP⟩;replace q8:=Za (Zc f q8.out);replace q9:=Za (Zc f q9.out);replace y:=Za (Zc f y.out);replace hf:=Za (hf.out.below f);replace qm:=Za (Zc f qm.out);replace qs:=Za (Zc f qs.out);replace qp:=Za (Zc f qp.out);replace qr:=Za (Zc f qr.out);replace u:=Za (u.out.below f);replace o:=Za (o.out.below f);replace af:=Za (af.out.below f);have i3:=Za (f7.out.trans (f.mono f7.out.size));clear f7;clear f;have a7:=f0.out (hi+(st+st)) (by omega) (by omega);have bf:Wd l9 bn bA bk bc (hi+(st+st)):=hP.small a7;obtain rfl:cd=0:=hP.code0 a7;clear hP a7;replace bf:=Za bf
   obtain⟨n0,j2,g6,e5,c7,c1,-⟩:=Zas bn bA bk bc i3.out (show w.heap.size<=g9 by have:=n8.out;have:=n9.out;have:=a5.out;omega) y.out;have c6:=Za (c1 _ _ _ (by have:=n8.out;have:=n9.out;have:=a5.out;omega) q8.out);have h8:=Za (c1 _ _ _ (by have:=n8.out;have:=n9.out;have:=a5.out;omega) q9.out);have b2:=Za (c7 _ _ _ _ _ hf.out);have qmz:=Za (c1 _ _ _ (by have:=n8.out;have:=n9.out;have:=a5.out;omega) qm.out);have qsz:=Za (c1 _ _ _ (by have:=n8.out;have:=n9.out;have:=a5.out;omega) qs.out);have qpz:=Za (c1 _ _ _ (by have:=n8.out;have:=n9.out;have:=a5.out;omega) qp.out);have qrz:=Za (c1 _ _ _ (by have:=n8.out;have:=n9.out;have:=a5.out;omega) qr.out);have Y:=Za (Fr.keep u.out c7);have V:=Za (Fr.keep o.out c7);have afz:=Za (c7 _ _ _ _ _ af.out);have bfz:=Za (c7 _ _ _ _ _ bf.out);have k6:=Za g6;replace e5:=Za e5;obtain⟨y0,y1,z0,z1⟩:=y.out.two;go_wp2_with fail;(try rw[j2]);clear j2 c7 c1 g6 y0 y1 z0 z1;replace q8:=c6;clear c6;replace q9:=h8;clear h8;replace hf:=b2;clear b2;replace qm:=qmz;clear qmz;replace qs:=qsz;clear qsz;replace qp:=qpz;clear qpz;replace qr:=qrz;clear qrz;replace u:=Y;clear Y;replace o:=V;clear V;replace af:=afz;clear afz;replace bf:=bfz;clear bfz;clear y;have y:=e5;clear e5 i3
   go_roundg (M-hi).toNat
   case measure=>have:=g5.out;omega
   case rel=>exact⟨hi,st+st,hi+(st+st),_,_,_,_,_,_,_,_,_,_,_,_,Za rfl,by omega,by omega,rfl,hbe,by omega,q8,q9,y,hf,af,bf,qm,qs,qp,qr,u,o,k6⟩
  have t1:Zgu sg mq sq hi=false:=by
   cases h9:Zgu sg mq sq hi with
   | false=>rfl
   | true=>exact absurd ((hE.out.low hi (by omega)).1 h9) hbe
  rw[t1];clear t1;go_wp2_with fail;have I:Hid (g8<g9):=Za (by have:=n9.out;have:=a5.out;omega);replace g5:=Za g5
  go_loopg [12,13,14,15,16,17] (hi-lo).toNat (λx v12 v13 v14 v15 v16 v17 wr=>∃ (lo hi:Int) (ln:Bool) (lA:Option Addr) (lk lc:Nat) (hn:Bool) (hA:Option Addr) (hk hc:Nat),Hid (x=(hi-lo).toNat)/\lo<=M/\-1<=lo/\M<hi/\hi<=2*M+2/\Hid (Blk wr g8 39 #[.bool ln,.slice lA lk lc])/\Hid (Blk wr g9 39 #[.bool hn,.slice hA hk hc])/\Hid (Wd wr ln lA lk lc lo)/\Hid (Wd wr hn hA hk hc hi)/\Hid (Blk wr w.heap.size 73 #[.bool mn,.slice mA mk mc,.bool mm,.slice mB mj md])/\Hid (Blk wr (w.heap.size+1) 73 #[.bool sn,.slice sA sk sc,.bool sm,.slice sB sj sd])/\Hid (Blk wr (w.heap.size+1+1) 3 #[.int .i64 sg])/\Hid (Blk wr (w.heap.size+1+1+1) 39 #[.bool false,.slice none 0 0])/\Hid (Fr wr mn mA mk mc mm mB mj md mq)/\Hid (Fr wr sn sA sk sc sm sB sj sd sq)/\Hid (Below w.heap.size w wr))
  case atStart=>exact⟨lo,hi,_,_,_,_,_,_,_,_,Za rfl,j9,j8,by omega,by omega,q8,y,lf,hf,qm,qs,qp,qr,u,o,e3⟩
  case round =>
   clear q8 q9 y lf tf hf qm qs qp qr u o e3 g5 m7 m3 m5 j9 j8 hbe;obtain⟨wj,rfl⟩:=Gy wr;obtain⟨lo,hi,ln,lA,lk,lc,hn,hA,hk,hc,g5,j9,j8,m4,m2,q8,y,lf,hf,qm,qs,qp,qr,u,o,f3⟩:=hrel;obtain⟨x0,x1,-⟩:=y.out.two;obtain⟨u0,u1,-⟩:=q8.out.two;go_wp2_with fail;clear x0 x1 u0 u1;refine(Ztp hn ln hA lA hk hc lk lc hi lo wj hf.out lf.out).mono ?_;rintro e h5 ⟨f,dn,dA,dk,dc,cd,rfl,hP⟩;replace q8:=Za (Zc f q8.out);replace y:=Za (Zc f y.out);replace lf:=Za (lf.out.below f);replace hf:=Za (hf.out.below f);replace qm:=Za (Zc f qm.out);replace qs:=Za (Zc f qs.out);replace qp:=Za (Zc f qp.out);replace qr:=Za (Zc f qr.out);replace u:=Za (u.out.below f);replace o:=Za (o.out.below f);have f8:=Za (f3.out.trans (f.mono f3.out.size));clear f3;clear f;have a7:=f0.out (hi-lo) (by omega) (by omega);have df:Wd h5 dn dA dk dc (hi-lo):=hP.small a7;obtain rfl:cd=0:=hP.code0 a7;clear hP a7;replace df:=Za df;have a3:Hid (g9<h5.heap.size):=Za y.out.lt;obtain⟨d9,d7⟩:=Gz h5.heap.size;obtain⟨e0,i2,C,T⟩:=Zq (w:=h5) 39 #[.bool dn,.slice dA dk dc];rw[d7]at C;replace q8:=Za (Zc T q8.out);replace y:=Za (Zc T y.out);replace lf:=Za (lf.out.below T);replace hf:=Za (hf.out.below T);replace qm:=Za (Zc T qm.out);replace qs:=Za (Zc T qs.out);replace qp:=Za (Zc T qp.out);replace qr:=Za (Zc T qr.out)
   replace u:=Za (u.out.below T);replace o:=Za (o.out.below T);replace df:=Za (df.out.below T);have f9:=Za (f8.out.trans (T.mono f8.out.size));clear f8;clear T;replace C:=Za C;rw[d7]at a3;go_wp2_with fail;(try rw[d7]);(try rw[i2]);clear i2;replace d7:=Za d7;have a4:e0.cell? ⟨d9,0,none⟩=some (.bool dn):=C.out.cell 0;have a2:e0.cell? ⟨d9,1,none⟩=some (.slice dA dk dc):=C.out.cell 1;have J:Below e0.heap.size e0 e0.drew:=Zf (Qd _ _) 1;replace q8:=Za (Zc J q8.out);replace y:=Za (Zc J y.out);replace lf:=Za (lf.out.below J);replace hf:=Za (hf.out.below J);replace qm:=Za (Zc J qm.out);replace qs:=Za (Zc J qs.out);replace qp:=Za (Zc J qp.out);replace qr:=Za (Zc J qr.out);replace u:=Za (u.out.below J);replace o:=Za (o.out.below J);replace df:=Za (df.out.below J);replace C:=Za (Zc J C.out);have g4:=Za (f9.out.trans (J.mono f9.out.size));clear f9;replace a4:=Zb J a4;replace a2:=Zb J a2;clear J;refine Z7 [] (λwx=>(wx.cell? ⟨d9,0,none⟩=some (.bool dn))/\(wx.cell? ⟨d9,1,none⟩=some (.slice dA dk dc))) hmx ⟨a4,a2⟩ (λ_=>?_);refine Zjw 1 [0] rfl (by kernel_rfl) ⟨a4,a2⟩ ?_
   (refine tkA ?_;try simp only[Qf,Zg4,Zgk,Zgx,Gr,Gq,Gp])
   refine tk0 ?_;refine wpAnyL_o 1 λK hK=>?_;go_simp;refine(Zbf 1 e0.drew (by decide) (by decide)).mono ?_;rintro e l8 ⟨b7,on,oA,ok,oc,rfl,of⟩;replace q8:=Za (Zc b7 q8.out);replace y:=Za (Zc b7 y.out);replace lf:=Za (lf.out.below b7);replace hf:=Za (hf.out.below b7);replace qm:=Za (Zc b7 qm.out);replace qs:=Za (Zc b7 qs.out);replace qp:=Za (Zc b7 qp.out);replace qr:=Za (Zc b7 qr.out);replace u:=Za (u.out.below b7);replace o:=Za (o.out.below b7);replace df:=Za (df.out.below b7);replace C:=Za (Zc b7 C.out);have f6:=Za (g4.out.trans (b7.mono g4.out.size));clear g4;replace a4:=Zb b7 a4;replace a2:=Zb b7 a2;clear b7;replace of:=Za of;refine hK.out _ _ (λ_=>⟨a4,a2⟩) ?_;clear hK K
   try simp only[Qf,Zg4,Zgk,Zgx,Gr,Gq,Gp]
   refine wpAnyL_o 2 λK hK=>?_;go_simp;refine(Zqm dn on dA oA dk dc ok oc (hi-lo) 1 l8 df.out of.out).mono ?_;rintro e m1 ⟨rfl,b4⟩;replace q8:=Za (Zc b4 q8.out);replace y:=Za (Zc b4 y.out);replace lf:=Za (lf.out.below b4);replace hf:=Za (hf.out.below b4);replace qm:=Za (Zc b4 qm.out);replace qs:=Za (Zc b4 qs.out);replace qp:=Za (Zc b4 qp.out);replace qr:=Za (Zc b4 qr.out);replace u:=Za (u.out.below b4);replace o:=Za (o.out.below b4);replace df:=Za (df.out.below b4);replace C:=Za (Zc b4 C.out);replace of:=Za (of.out.below b4);have e4:=Za (f6.out.trans (b4.mono f6.out.size));clear f6;replace a4:=Zb b4 a4;replace a2:=Zb b4 a2;clear b4;refine hK.out _ _ (λ_=>⟨a4,a2⟩) ?_;clear hK K
   try simp only[Qf,Zg4,Zgk,Zgx,Gr,Gq,Gp]
   obtain⟨r2,j3⟩:=Gz (Zda (hi-lo) 1);rw[j3];have k8:Hid (r2<=0 ↔ hi-lo<=1):=Za (by rw[<- j3];exact cmp_le1);replace j3:=Za j3;refine Zjw 5 [3,4,5,6,7] rfl (by kernel_rfl) ⟨a4,a2⟩ ?_
   iterate 5 (refine tkA ?_;try simp only[Qf,Zg4,Zgk,Zgx,Gr,Gq,Gp])
   refine tk0 ?_;refine wpAnyL_fin ?_;clear a4 a2;clear of;by_cases j7:hi-lo<=1
   case pos =>
    have t1:decide (r2<=0)=true:=Gv (k8.out.2 j7);obtain rfl:lo=M:=by omega
    obtain⟨x0,x1,-⟩:=q8.out.two;obtain⟨y0,y1,z0,z1⟩:=qr.out.two;obtain⟨U,hU,m6,q3,kW,-,-⟩:=Zas ln lA lk lc e4.out (show w.heap.size<=(w.heap.size+1+1+1) by omega) qr.out;obtain⟨r0,r1,-⟩:=q3.two;have l4:=Za (kW _ _ _ _ _ lf.out);clear kW;replace j7:=Za j7;go_wp2_with fail;(try rw[hU]);refine bodyPost_ret (v:=.agg #[.bool ln,.slice lA lk lc]) (by simp[results,Tryz.results72,go_sem,r0,r1]) rfl ?_;exact⟨m6,_,_,_,_,rfl,l4.out⟩
   have t1:decide (r2<=0)=false:=Gu (λh=>j7 (k8.out.1 h));clear k8 j3;obtain⟨x0,x1,-⟩:=C.out.two;obtain⟨D,hD⟩:∃ D:Nat,hi-lo=(D:Int):=⟨(hi-lo).toNat,by omega⟩;rw[hD]at df;obtain rfl:dn=false:=by rw[df.out.1];exact Gu (by omega)
   go_wp2_with fail;clear x0 x1;refine(Zr9 dA dk dc D m1 df.out).mono ?_;rintro e m8 ⟨f,en,eA,ek,ec,rfl,ef⟩;replace q8:=Za (Zc f q8.out);replace y:=Za (Zc f y.out);replace lf:=Za (lf.out.below f);replace hf:=Za (hf.out.below f);replace qm:=Za (Zc f qm.out);replace qs:=Za (Zc f qs.out);replace qp:=Za (Zc f qp.out);replace qr:=Za (Zc f qr.out);replace u:=Za (u.out.below f);replace o:=Za (o.out.below f);replace df:=Za (df.out.below f);replace C:=Za (Zc f C.out);have i1:=Za (e4.out.trans (f.mono e4.out.size));clear e4;clear f;have n7:Hid (hi-lo=(D:Int)):=Za hD;obtain⟨H,hH⟩:∃ H:Nat,D/2=H:=⟨_,rfl⟩;rw[hH]at ef;have o2:1<=H:=by omega
   have o0:H<D:=by omega
   replace hH:=Za hH;replace ef:=Za ef;clear df;have n5:=a3;obtain⟨l1,i5,h4,d5,c9,c3,-⟩:=Zas en eA ek ec i1.out (show w.heap.size<=d9 by have:=n8.out;have:=I.out;have:=a3.out;omega) C.out;have c6:=Za (c3 _ _ _ (by have:=n8.out;have:=I.out;have:=a3.out;omega) q8.out);have a9:=Za (c3 _ _ _ (by have:=n8.out;have:=I.out;have:=a3.out;omega) y.out);have lfz:=Za (c9 _ _ _ _ _ lf.out);have b2:=Za (c9 _ _ _ _ _ hf.out);have qmz:=Za (c3 _ _ _ (by have:=n8.out;have:=I.out;have:=a3.out;omega) qm.out);have qsz:=Za (c3 _ _ _ (by have:=n8.out;have:=I.out;have:=a3.out;omega) qs.out);have qpz:=Za (c3 _ _ _ (by have:=n8.out;have:=I.out;have:=a3.out;omega) qp.out);have qrz:=Za (c3 _ _ _ (by have:=n8.out;have:=I.out;have:=a3.out;omega) qr.out);have Y:=Za (Fr.keep u.out c9);have V:=Za (Fr.keep o.out c9);have efz:=Za (c9 _ _ _ _ _ ef.out);have g1:=Za h4;replace d5:=Za d5;obtain⟨y0,y1,z0,z1⟩:=C.out.two;obtain⟨a0,a1,-⟩:=c6.out.two;obtain⟨b0,b1,-⟩:=d5.out.two;go_wp2_with fail;clear a0 a1 b0 b1;(try rw[i5]);clear i5 c9 c3 h4 y0 y1 z0 z1;replace q8:=c6;clear c6;replace y:=a9;clear a9;replace lf:=lfz;clear lfz;replace hf:=b2;clear b2;replace qm:=qmz;clear qmz;replace qs:=qsz;clear qsz;replace qp:=qpz;clear qpz;replace qr:=qrz;clear qrz;replace u:=Y;clear Y;replace o:=V;clear V;replace ef:=efz;clear efz;clear C;have C:=d5
   clear d5 i1;refine(Zjf ln en lA eA lk lc ek ec lo (H:Int) l1 lf.out ef.out).mono ?_;rintro e h7 ⟨f,i4,j5,j6,i7,cd,rfl,hP⟩;replace q8:=Za (Zc f q8.out);replace y:=Za (Zc f y.out);replace lf:=Za (lf.out.below f);replace hf:=Za (hf.out.below f);replace qm:=Za (Zc f qm.out);replace qs:=Za (Zc f qs.out);replace qp:=Za (Zc f qp.out);replace qr:=Za (Zc f qr.out);replace u:=Za (u.out.below f);replace o:=Za (o.out.below f);replace C:=Za (Zc f C.out);replace ef:=Za (ef.out.below f);have f5:=Za (g1.out.trans (f.mono g1.out.size));clear g1;clear f;have a7:=f0.out (lo+(H:Int)) (by omega) (by omega);have c8:Wd h7 i4 j5 j6 i7 (lo+(H:Int)):=hP.small a7;obtain rfl:cd=0:=hP.code0 a7;clear hP a7;replace c8:=Za c8;have b6:Hid (d9<h7.heap.size):=Za C.out.lt;obtain⟨n3,d4⟩:=Gz h7.heap.size;obtain⟨m0,i0,a8,O⟩:=Zq (w:=h7) 39 #[.bool i4,.slice j5 j6 i7];rw[d4]at a8;replace q8:=Za (Zc O q8.out);replace y:=Za (Zc O y.out);replace lf:=Za (lf.out.below O);replace hf:=Za (hf.out.below O);replace qm:=Za (Zc O qm.out);replace qs:=Za (Zc O qs.out);replace qp:=Za (Zc O qp.out);replace qr:=Za (Zc O qr.out);replace u:=Za (u.out.below O);replace o:=Za (o.out.below O);replace C:=Za (Zc O C.out);replace ef:=Za (ef.out.below O);replace c8:=Za (c8.out.below O)
   have f4:=Za (f5.out.trans (O.mono f5.out.size));clear f5;clear O;replace a8:=Za a8;rw[d4]at b6;obtain⟨x0,x1,-⟩:=a8.out.two;go_wp2_with fail;(try rw[d4]);(try rw[i0]);clear i0;replace d4:=Za d4;clear x0 x1;refine(Zsg i4 j5 j6 i7 (lo+(H:Int)) w.heap.size (w.heap.size+1) (w.heap.size+1+1) mn mA mk mc mm mB mj md sn sA sk sc sm sB sj sd sg mq sq m0 c8.out qm.out u.out qs.out o.out qp.out (hE.out.z _ (by omega) (by omega)).1 hE.out.sm (hE.out.z _ (by omega) (by omega)).2.1 (hE.out.z _ (by omega) (by omega)).2.2 hE.out.ss).mono ?_;rintro e m9 ⟨rfl,f⟩;replace q8:=Za (Zc f q8.out);replace y:=Za (Zc f y.out);replace lf:=Za (lf.out.below f);replace hf:=Za (hf.out.below f);replace qm:=Za (Zc f qm.out);replace qs:=Za (Zc f qs.out);replace qp:=Za (Zc f qp.out);replace qr:=Za (Zc f qr.out);replace u:=Za (u.out.below f);replace o:=Za (o.out.below f);replace C:=Za (Zc f C.out);replace ef:=Za (ef.out.below f);replace c8:=Za (c8.out.below f);replace a8:=Za (Zc f a8.out);have e7:=Za (f4.out.trans (f.mono f4.out.size));clear f4;clear f;by_cases hbe:lo+(H:Int)<=M
   case pos =>
    have t1:Zgu sg mq sq (lo+(H:Int))=true:=(hE.out.low _ (by omega)).2 hbe;rw[t1];clear t1;obtain⟨x0,x1,-⟩:=a8.out.two;obtain⟨n1,i9,g7,e2,c2,b5,-⟩:=Zas i4 j5 j6 i7 e7.out (show w.heap.size<=g8 by have:=n8.out;have:=I.out;have:=a3.out;have:=b6.out;omega) q8.out;have a9:=Za (b5 _ _ _ (by have:=n8.out;have:=I.out;have:=a3.out;have:=b6.out;omega) y.out);have lfz:=Za (c2 _ _ _ _ _ lf.out);have b2:=Za (c2 _ _ _ _ _ hf.out);have qmz:=Za (b5 _ _ _ (by have:=n8.out;have:=I.out;have:=a3.out;have:=b6.out;omega) qm.out);have qsz:=Za (b5 _ _ _ (by have:=n8.out;have:=I.out;have:=a3.out;have:=b6.out;omega) qs.out);have qpz:=Za (b5 _ _ _ (by have:=n8.out;have:=I.out;have:=a3.out;have:=b6.out;omega) qp.out);have qrz:=Za (b5 _ _ _ (by have:=n8.out;have:=I.out;have:=a3.out;have:=b6.out;omega) qr.out);have Y:=Za (Fr.keep u.out c2);have V:=Za (Fr.keep o.out c2);have d0:=Za (b5 _ _ _ (by have:=n8.out;have:=I.out;have:=a3.out;have:=b6.out;omega) C.out);have efz:=Za (c2 _ _ _ _ _ ef.out);have e9:=Za (c2 _ _ _ _ _ c8.out);have d3:=Za (b5 _ _ _ (by have:=n8.out;have:=I.out;have:=a3.out;have:=b6.out;omega) a8.out);have k3:=Za g7;replace e2:=Za e2;obtain⟨y0,y1,z0,z1⟩:=q8.out.two;go_wp2_with fail;clear x0 x1;(try rw[i9]);clear i9 c2 b5 g7 y0 y1 z0 z1;replace y:=a9;clear a9;replace lf:=lfz;clear lfz;replace hf:=b2
    clear b2;replace qm:=qmz;clear qmz;replace qs:=qsz;clear qsz;replace qp:=qpz;clear qpz;replace qr:=qrz;clear qrz;replace u:=Y;clear Y;replace o:=V;clear V;replace C:=d0;clear d0;replace ef:=efz;clear efz;replace c8:=e9;clear e9;replace a8:=d3;clear d3;clear q8;have q8:=e2;clear e2 e7
    go_roundg (hi-(lo+(H:Int))).toNat
    case measure=>have:=g5.out;omega
    case rel=>exact⟨lo+(H:Int),hi,_,_,_,_,_,_,_,_,Za rfl,hbe,by omega,m4,m2,q8,y,c8,hf,qm,qs,qp,qr,u,o,k3⟩
   have t1:Zgu sg mq sq (lo+(H:Int))=false:=by
    cases h9:Zgu sg mq sq (lo+(H:Int))with
    | false=>rfl
    | true=>exact absurd ((hE.out.low _ (by omega)).1 h9) hbe
   rw[t1];clear t1;obtain⟨x0,x1,-⟩:=a8.out.two;obtain⟨n4,i8,h3,e6,c0,b3,-⟩:=Zas i4 j5 j6 i7 e7.out (show w.heap.size<=g9 by have:=n8.out;have:=I.out;have:=a3.out;have:=b6.out;omega) y.out;have c6:=Za (b3 _ _ _ (by have:=n8.out;have:=I.out;have:=a3.out;have:=b6.out;omega) q8.out);have lfz:=Za (c0 _ _ _ _ _ lf.out);have b2:=Za (c0 _ _ _ _ _ hf.out);have qmz:=Za (b3 _ _ _ (by have:=n8.out;have:=I.out;have:=a3.out;have:=b6.out;omega) qm.out);have qsz:=Za (b3 _ _ _ (by have:=n8.out;have:=I.out;have:=a3.out;have:=b6.out;omega) qs.out);have qpz:=Za (b3 _ _ _ (by have:=n8.out;have:=I.out;have:=a3.out;have:=b6.out;omega) qp.out);have qrz:=Za (b3 _ _ _ (by have:=n8.out;have:=I.out;have:=a3.out;have:=b6.out;omega) qr.out);have Y:=Za (Fr.keep u.out c0);have V:=Za (Fr.keep o.out c0);have d0:=Za (b3 _ _ _ (by have:=n8.out;have:=I.out;have:=a3.out;have:=b6.out;omega) C.out);have efz:=Za (c0 _ _ _ _ _ ef.out);have e9:=Za (c0 _ _ _ _ _ c8.out);have d3:=Za (b3 _ _ _ (by have:=n8.out;have:=I.out;have:=a3.out;have:=b6.out;omega) a8.out);have k4:=Za h3;replace e6:=Za e6;obtain⟨y0,y1,z0,z1⟩:=y.out.two;go_wp2_with fail;clear x0 x1;(try rw[i8]);clear i8 c0 b3 h3 y0 y1 z0 z1;replace q8:=c6;clear c6;replace lf:=lfz;clear lfz;replace hf:=b2;clear b2;replace qm:=qmz;clear qmz;replace qs:=qsz;clear qsz;replace qp:=qpz;clear qpz
   replace qr:=qrz;clear qrz;replace u:=Y;clear Y;replace o:=V;clear V;replace C:=d0;clear d0;replace ef:=efz;clear efz;replace c8:=e9;clear e9;replace a8:=d3;clear d3;clear y;have y:=e6;clear e6 e7
   go_roundg ((lo+(H:Int))-lo).toNat
   case measure=>have:=g5.out;omega
   case rel=>exact⟨lo,lo+(H:Int),_,_,_,_,_,_,_,_,Za rfl,j9,j8,by omega,by omega,q8,y,lf,c8,qm,qs,qp,qr,u,o,k4⟩
structure RootZ (s r up:Int):Prop where
 r0:0<=r
 lo:r*r<=s
 hi:s<(r+1)*(r+1)
 up:up=if r*r<s then r+1 else r
theorem RootZ.le{s r up x:Int}(h:RootZ s r up):(x<=0 \/ x*x<=s) ↔ x<=r:=by
 obtain⟨h0,h1,h2,-⟩:=h;constructor
 ·rintro(h3|h3)
  omega
  ·apply Classical.byContradiction
   intro h4;have h5:(r+1)*(r+1)<=x*x:=Qg (by omega) (by omega) (by omega) (by omega);omega
 ·intro h3
  rcases Int.lt_or_le 0 x with h4|h4
  ·have h5:x*x<=r*r:=Qg h3 h3 (by omega) h0
   exact .inr (by omega)
  exact .inl h4
theorem RootZ.ge{s r up x:Int}(h:RootZ s r up):(x<=0/\s<=x*x) ↔ x <= -up:=by
 obtain⟨h0,h1,h2,h3⟩:=h;have hx:x*x=(-x)*(-x):=by rw[Int.neg_mul_neg]
 rw[hx];by_cases h4:r*r<s
 ·rw[Gx h4]at h3
  constructor
  ·rintro⟨h5,h6⟩
   apply Classical.byContradiction;intro h7;have h8:(-x)*(-x)<=r*r:=Qg (by omega) (by omega) (by omega) h0;omega
  ·intro h5
   have h8:(r+1)*(r+1)<=(-x)*(-x):=Qg (by omega) (by omega) (by omega) (by omega);exact⟨by omega,by omega⟩
 ·rw[Gw h4]at h3
  constructor
  ·rintro⟨h5,h6⟩
   apply Classical.byContradiction;intro h7;have h8:(-x+1)*(-x+1)<=r*r:=Qg (by omega) (by omega) (by omega) h0;have h9:(-x+1)*(-x+1)=(-x)*(-x)+2*(-x)+1:=by grind
   omega
  ·intro h5
   have h8:r*r<=(-x)*(-x):=Qg (by omega) (by omega) h0 (by omega);exact⟨by omega,by omega⟩
theorem Zvu{a d w:Int}(hd:0<d):w<=Qx a d ↔ w*d<=a:=by
 rw[Qw _ (by omega)];exact Qm hd
theorem Zjb{a b c:Rat}(h:0<c):c*a<=c*b ↔ a<=b:=⟨λh1=>Rat.le_of_mul_le_mul_left h1 h,λh1=>Rat.mul_le_mul_of_nonneg_left h1 (Rat.le_of_lt h)⟩
section
variable{mean sq:Rat}{m n s r up w:Int}
theorem Zk4(hm:0<m)(hn:(n:Rat)=2*mean*m)(hs:(s:Rat)=4*sq*m*m):((w:Rat)-mean<=0 ↔ 2*m*w-n<=0)/\(((w:Rat)-mean)*((w:Rat)-mean)<=sq ↔ (2*m*w-n)*(2*m*w-n)<=s)/\(sq<=((w:Rat)-mean)*((w:Rat)-mean) ↔ s<=(2*m*w-n)*(2*m*w-n)):=by
 have e:(0:Rat)<(m:Rat):=by exact_mod_cast hm
 have e1:((2*m*w-n:Int):Rat)=2*(m:Rat)*((w:Rat)-mean):=by
  rw[Rat.intCast_sub,Qc,Qc,hn];have:((2:Int):Rat)=2:=rfl;rw[this];grind
 have h:(0:Rat)<2*(m:Rat):=Qu (by decide) e;have f:(0:Rat)<4*(m:Rat)*(m:Rat):=Qu (Qu (by decide) e) e
 have e2:(((2*m*w-n)*(2*m*w-n):Int):Rat)=4*(m:Rat)*(m:Rat)*(((w:Rat)-mean)*((w:Rat)-mean)):=by
  rw[Qc,e1];grind
 have e3:(s:Rat)=4*(m:Rat)*(m:Rat)*sq:=by rw[hs];grind
 refine⟨?_,?_,?_⟩
 ·have h1:((2*m*w-n:Int):Rat)<=((0:Int):Rat) ↔ 2*m*w-n<=0:=Qn
  rw[<- h1,e1];have:((0:Int):Rat)=2*(m:Rat)*0:=by show (0:Rat)=_;grind
  rw[this];exact(Zjb h).symm
 ·have h1:(((2*m*w-n)*(2*m*w-n):Int):Rat)<=(s:Rat) ↔ _:=Qn
  rw[<- h1,e2,e3];exact(Zjb f).symm
 ·have h1:(s:Rat)<=(((2*m*w-n)*(2*m*w-n):Int):Rat) ↔ _:=Qn
  rw[<- h1,e2,e3];exact(Zjb f).symm
theorem Zwq(hm:0<m)(hn:(n:Rat)=2*mean*m)(hs:(s:Rat)=4*sq*m*m)(hr:RootZ s r up):((w:Rat)-mean<=0 \/ ((w:Rat)-mean)*((w:Rat)-mean)<=sq) ↔ w<=Qx (n+r) (m+m):=by
 obtain⟨h1,h2,-⟩:=Zk4 (w:=w) hm hn hs;rw[h1,h2,hr.le,Zvu (by omega)];have:w*(m+m)=2*m*w:=by grind
 omega
theorem Zuf(hm:0<m)(hn:(n:Rat)=2*mean*m)(hs:(s:Rat)=4*sq*m*m)(hr:RootZ s r up):((w:Rat)-mean<=0/\sq<=((w:Rat)-mean)*((w:Rat)-mean)) ↔ w<=Qx (n-up) (m+m):=by
 obtain⟨h1,-,h3⟩:=Zk4 (w:=w) hm hn hs;rw[h1,h3,hr.ge,Zvu (by omega)];have:w*(m+m)=2*m*w:=by grind
 omega
end
def axH:Rat:=QM 1 2
def Zbg(a d:Rat):Rat:=(a+d)*axH
def Zfa(a d:Rat):Rat:=(a-d)*axH
def Ziy(a b d:Rat):Rat:=Zfa a d*Zfa a d+b*b
def axT(a d:Rat):Rat:=a+d
def axD(a d:Rat):Rat:=a-d
def axQ(a b d:Rat):Rat:=axD a d*axD a d+4*(b*b)
def axM(a b d:Rat):Int:=((axT a d).den:Int)*((axQ a b d).den:Int)
def axN(a b d:Rat):Int:=(axT a d).num*((axQ a b d).den:Int)
def axS(a b d:Rat):Int:=(axQ a b d).num*((axQ a b d).den:Int)*((axT a d).den:Int)*((axT a d).den:Int)
noncomputable def axR (a b d:Rat):Nat:=rootN (axS a b d).natAbs
noncomputable def axUp (a b d:Rat):Int:=if (axR a b d:Int)*(axR a b d:Int)<axS a b d then (axR a b d:Int)+1 else (axR a b d:Int)
noncomputable def axLong (a b d:Rat):Int:=Qx (axN a b d+(axR a b d:Int)) (axM a b d+axM a b d)
noncomputable def axShort (a b d:Rat):Int:=Qx (axN a b d-axUp a b d) (axM a b d+axM a b d)
theorem Zvr(z:Nat):IsRoot z (rootN z):=by
 have h:∃ r,IsRoot z r:=by
  induction z with
  | zero=>exact⟨0,by unfold IsRoot;omega⟩
  | succ z ih =>
   obtain⟨r,h1,h2⟩:=ih;by_cases h3:z+1<(r+1)*(r+1);exact⟨r,by omega,h3⟩
   ·refine⟨r+1,by omega,?_⟩
    have e:(r+1+1)*(r+1+1)=(r+1)*(r+1)+2*r+3:=by grind
    omega
 obtain⟨r,hr⟩:=h;rw[Zit hr];exact hr
theorem Zqd:2*axH=1:=by decide +kernel
theorem Zvm(q:Rat):(q.num:Rat)=q*((q.den:Nat):Rat):=by
 have h:QM q.num q.den=q:=Rat.num_divInt_den q;rw[Rat.divInt_eq_div]at h;have h0:((q.den:Nat):Rat)≠0:=by exact_mod_cast q.den_nz
 have e:(((q.den:Nat):Int):Rat)=((q.den:Nat):Rat):=Qq _;rw[e]at h
 have h1:(q.num:Rat)/((q.den:Nat):Rat)*((q.den:Nat):Rat)=(q.num:Rat):=by
  rw[Rat.div_def,Rat.mul_assoc,Rat.inv_mul_cancel _ h0,Rat.mul_one]
 rw[h]at h1;exact h1.symm
section
variable{a b d:Rat}
theorem Zlt:0<axM a b d:=by
 unfold axM;have h1:=(axT a d).den_pos;have h2:=(axQ a b d).den_pos;exact Int.mul_pos (by omega) (by omega)
theorem Zz9:((axN a b d:Int):Rat)=2*Zbg a d*(axM a b d:Int):=by
 unfold axN axM Zbg;rw[Qc,Qc,Zvm]
 have e:2*((a+d)*axH)=axT a d:=by
  have:=Zqd;unfold axT;grind
 rw[e];simp only[Qq]
 grind
theorem axQ_eq:axQ a b d=4*Ziy a b d:=by
 have h:=Zqd;unfold axQ Ziy Zfa axD;have e:4*((a-d)*axH*((a-d)*axH))=(a-d)*(a-d)*((2*axH)*(2*axH)):=by grind
 have e2:4*((a-d)*axH*((a-d)*axH)+b*b)=4*((a-d)*axH*((a-d)*axH))+4*(b*b):=by grind
 rw[e2,e,h];grind
theorem Zy0:((axS a b d:Int):Rat)=4*Ziy a b d*(axM a b d:Int)*(axM a b d:Int):=by
 unfold axS axM;rw[Qc,Qc,Qc,Qc,Zvm,axQ_eq];simp only[Qq]
 grind
theorem Zz6(x:Rat):0<=x*x:=by
 rcases Rat.le_total (a:=0) (b:=x)with h|h;exact QC h h
 ·have e:x*x=(-x)*(-x):=by grind
  have h2:0 <= -x:=Rat.neg_le_neg h |> λh3=>by rw[Rat.neg_zero]at h3;exact h3
  rw[e];exact QC h2 h2
theorem axQ_nn:0<=axQ a b d:=by
 unfold axQ;have h1:=Zz6 (axD a d);have h2:=Zz6 b;have h3:(0:Rat)<=4*(b*b):=QC (by decide) h2
 grind
theorem axS_nn:0<=axS a b d:=by
 unfold axS;have h:=Rat.num_nonneg.2 (axQ_nn (a:=a) (b:=b) (d:=d));exact QD (QD (QD h (by omega)) (by omega)) (by omega)
theorem Zvj:RootZ (axS a b d) (axR a b d) (axUp a b d):=by
 obtain⟨h1,h2⟩:=Zvr (axS a b d).natAbs;have h0:=axS_nn (a:=a) (b:=b) (d:=d);have e:((axS a b d).natAbs:Int)=axS a b d:=by omega
 refine⟨by omega,?_,?_,rfl⟩;rw[<- e];unfold axR;exact_mod_cast h1;rw[<- e];unfold axR;exact_mod_cast h2
theorem ax_long{z:Int}:((z:Rat)-Zbg a d<=0 \/ ((z:Rat)-Zbg a d)*((z:Rat)-Zbg a d)<=Ziy a b d) ↔ z<=axLong a b d:=
 Zwq Zlt Zz9 Zy0 Zvj
theorem ax_short{z:Int}:((z:Rat)-Zbg a d<=0/\Ziy a b d<=((z:Rat)-Zbg a d)*((z:Rat)-Zbg a d)) ↔ z<=axShort a b d:=
 Zuf Zlt Zz9 Zy0 Zvj
theorem ax_low1{z:Int}:Zgu 1 (Zbg a d) (Ziy a b d) z=true ↔ z<=axLong a b d:=by
 unfold Zgu;rw[Gx (by decide),Bool.or_eq_true,decide_eq_true_eq,decide_eq_true_eq];exact ax_long
theorem ax_low2{z:Int}:Zgu (-1) (Zbg a d) (Ziy a b d) z=true ↔ z<=axShort a b d:=by
 unfold Zgu;rw[Gw (by decide),Qy,decide_eq_true_eq,decide_eq_true_eq];exact ax_short
theorem Zye(ha:0<a)(hd:0<d)(hp:0<a*d-b*b):0<=axShort a b d:=by
 have hH:0<axH:=by decide +kernel
 have hm:0<Zbg a d:=Qu (by grind) hH;refine ax_short.1 ⟨?_,?_⟩
 ·show (0:Rat)-Zbg a d<=0
  grind
 ·have h:=Zqd
  have e:((0:Int):Rat)-Zbg a d=-Zbg a d:=by
   show (0:Rat)-Zbg a d=_
   grind
  rw[e]
  have e2:-Zbg a d * -Zbg a d=Ziy a b d+(a*d-b*b):=by
   unfold Zbg Ziy Zfa;have e3:-((a+d)*axH) * -((a+d)*axH)=(a-d)*axH*((a-d)*axH)+a*d*((2*axH)*(2*axH)):=by grind
   rw[e3,h];grind
  rw[e2];grind
theorem Z0o(ha:0<a)(hd:0<d):0<=axLong a b d:=by
 have hH:0<axH:=by decide +kernel
 have hm:0<Zbg a d:=Qu (by grind) hH;refine ax_long.1 (.inl ?_);show (0:Rat)-Zbg a d<=0
 grind
end
def PartPost(rs:List RX)(ls:List Int)(w:World)(e:Ending)(w':World):Prop:=
 Below w.heap.size w w'/\((Zfl rs ls=0/\∃ v L,e=.returned (.tuple #[v,.int .i64 0])/\MatOA 35 41 w' w.heap.size v L (Zk7 (qM rs) ls)) \/
  (Zfl rs ls≠0/\e=.returned (.tuple #[.slice none 0 0,.int .i64 (Zfl rs ls)])))
theorem PartPost.fall{rs:List RX}{ls:List Int}{w w':World}{E:Int}(hb:Below w.heap.size w w')(h:Zfl rs ls=E)(h0:E≠0):PartPost rs ls w (.returned (.tuple #[.slice none 0 0,.int .i64 E])) w':=by
 subst h;exact⟨hb,.inr ⟨h0,rfl⟩⟩
theorem MatOA.lowerC{tS tF:TypeId}{w:World}{b b':Nat}{v:Value}{L:List RS}{Q:List (List Rat)}(h:MatOA tS tF w b v L Q)(hb:b'<=b):MatOA tS tF w b' v L Q:=by
 refine⟨?_,h.2.1,λi r hr=>(h.2.2.1 i r hr).lower hb,h.2.2.2⟩;rcases h.1 with h|⟨g,sp,h1,h2,h3⟩;exact .inl h;exact .inr ⟨g,sp,h1,Qi hb h2,h3⟩
theorem MatOA.boxC{tS tF:TypeId}{w w':World}{base:Nat}{v:Value}{rs:List RS}{Q:List (List Rat)}(h:MatOA tS tF w base v rs Q){g:Nat}{t:TypeId}{cs:Array Value}(hb:Blk w g t cs)(hn:NoLimb cs)(hg:g<base)(hk:Kept (λk=>k=g) w w'):MatOA tS tF w' base v rs Q:=
 ⟨h.1.keptG hg hk,h.2.1,λi r hr=>(h.2.2.1 i r hr).keptG hb hn (λe=>by have:=(h.2.2.1 i r hr).row_ge g e;omega) hk,h.2.2.2⟩
theorem RowS.isSlP{t:TypeId}{w:World}{base:Nat}{v:Value}{rs:List RS}(h:RowS t w base v rs):∃ A n c,v=.slice A n c:=by
 rcases h with ⟨rfl,_⟩|⟨g,sp,rfl,_⟩;exact⟨_,_,_,rfl⟩;exact⟨_,_,_,rfl⟩
theorem Zx0(na:Bool)(A:Option Addr)(n c:Nat)(nb:Bool)(B:Option Addr)(m d:Nat)(w:World):(Instr.field 73 (.agg #[.bool na,.slice A n c,.bool nb,.slice B m d]) 0).run Tryz.prog w=.ok (.agg #[.bool na,.slice A n c,.bool nb,.slice B m d]) w:=by kernel_rfl
theorem Zo6(x:Int):NoLimb #[.int .i64 x]:=λi y=>by
 match i with
 | 0=>simp[limb]
 | i+1=>simp
theorem Zkm(A:Option Addr)(n c:Nat)(rs:List RX)(B:Option Addr)(m d:Nat)(ls:List Int)(w:World)(h:MXL w A n c rs)(hv:LimI w B m d ls)(hF:FacC rs)(hm9:m<=100) :
    Calls Tryz.prog 27 #[.slice A n c,.slice B m d] w (PartPost rs ls w):=by
 obtain⟨iF,hi,h4,i5,h3⟩:=info_parts Zfm;obtain⟨iS,ki,j0,k6,j4⟩:=info_parts Zgz;obtain⟨iN,ni,n4,n1,n0⟩:=info_parts Zlk;have hmx:=Gt
 have m0:(35:TypeId)≠41:=by decide
 have b9:=Za h.1;have T:=Za hv.1;have m8:=hv.2.1;have k9:=hv.2.2.1;have n5:=h.2.1;have l5:=h.2.2.1;unfold maxLen at l5 k9;obtain⟨W0,h5,b5,q0,s0⟩:=Zbe w 26 #[.int .i64 0];have m1:Hid (W0.heap.size=w.heap.size+1):=Za s0;have hC:=Za (Ze5 A n c rs W0 (h.below b5) hF);have hH:=Za h;have d6:=Za hv;replace q0:=Za q0;clear h hv s0
 go_enter_defers Tryz.func27,Tryz.ntmps27
 go_wp2_with fail;(try rw[h5]);refine hC.out.mono ?_;rintro e w1 ⟨c3,⟨h0,v1,v2,L0,rfl,-⟩|⟨h0,rfl⟩⟩
 case inr =>
  have a4:=b5.trans (c3.mono b5.size);have q2:=Zc c3 q0.out;obtain⟨E,hE⟩:=Gz (Zaf rs);rw[hE]at h0 ⊢;have b6:=Za h0;have I:=Zwd (ls:=ls) hE h0;replace hE:=Za hE;go_wp2_with fail;refine leaves_cons (f:=39) (args:=#[.pointer (some ⟨w.heap.size,0,none⟩)]) (by simp) (by simp[go_sem]) ?_;have e0:=(q2).cell 0;simp at e0;refine(Z5 ⟨w.heap.size,0,none⟩ E 0 _ e0 ((q2).frozen 0)).mono ?_;rintro e u' w'' ⟨rfl,rfl,hw⟩;obtain⟨V,hV,C,-,-,hk,sV⟩:=Zr 117 #[.int .i64 E] (a4) ((a4).size);obtain⟨U,hU,J,q3,-⟩:=Zy E C (Qa _) (hk _ _ _ (q2));rw[hV,hU]at hw;subst hw;have r4:=q3.cell 0;simp at r4;exact⟨.tuple #[.slice none 0 0,.int .i64 E],by simp[results,Tryz.results27,go_sem,r4],PartPost.fall J I (by first|decide|assumption|exact b6.out)⟩
 have a4:=b5.trans (c3.mono b5.size);have q1:=Za (Zc c3 q0.out);obtain⟨b2,j7,l0⟩:=Zgh h0;have hM:=Za (b2.good hH.out);have g0:Hid (∀ a,a<n->((qM rs)[a]?.getD []).length=n):=Za (λa ha=>b2.row hH.out a ha);have j3:Hid (∀ a b,SmE 64 (qM rs)/\Sm (Zh (qM rs) a b)):=Za (λa b=>⟨b2.small64 hH.out,(b2.small64 hH.out).smC (by decide) a b⟩);have m3:n<=6:=by rw[<- b9.out];exact b2.facts.2.1
 have b4:=Za h0;clear h0 b2 j7 l0 q0 hC c3 b5 h5;by_cases b3:m=0
 case pos =>
  subst b3;have t1:decide ((0:Int)<((0:Nat):Int))=false:=by decide
  have I:=Zd5 b4.out (Zwz (n:=rs.length) T.out);go_wp2_with fail;refine(Zad 8 w1).mono ?_;rintro e w6 ⟨rfl,rfl⟩;go_wp2_with fail;refine leaves_cons (f:=39) (args:=#[.pointer (some ⟨w.heap.size,0,none⟩)]) (by simp) (by simp[go_sem]) ?_;have e0:=(q1.out).cell 0;simp at e0;refine(Z5 ⟨w.heap.size,0,none⟩ 8 0 _ e0 ((q1.out).frozen 0)).mono ?_;rintro e u' w'' ⟨rfl,rfl,hw⟩;obtain⟨V,hV,C,-,-,hk,sV⟩:=Zr 117 #[.int .i64 8] (a4) ((a4).size);obtain⟨U,hU,J,q3,-⟩:=Zy 8 C (Qa _) (hk _ _ _ (q1.out));rw[hV,hU]at hw;subst hw;have r4:=q3.cell 0;simp at r4;exact⟨.tuple #[.slice none 0 0,.int .i64 8],by simp[results,Tryz.results27,go_sem,r4],PartPost.fall J I (by first|decide|assumption|exact b6.out)⟩
 have t1:decide ((0:Int)<(m:Int))=true:=Gv (by omega);have n2:decide (0<m)=true:=Gv (by omega);by_cases a9:m<=n
 case neg =>
  have t2:decide ((m:Int)<=(n:Int))=false:=Gu (by omega);have j9:decide (m<=n)=false:=Gu a9;have I:=Zd5 b4.out (Zuc (n:=rs.length) (ls:=ls) (by rw[T.out,b9.out];omega));replace a9:=Za a9;replace b3:=Za b3;go_wp2_with fail;refine(Zad 8 w1).mono ?_;rintro e w6 ⟨rfl,rfl⟩;go_wp2_with fail;refine leaves_cons (f:=39) (args:=#[.pointer (some ⟨w.heap.size,0,none⟩)]) (by simp) (by simp[go_sem]) ?_;have e0:=(q1.out).cell 0;simp at e0;refine(Z5 ⟨w.heap.size,0,none⟩ 8 0 _ e0 ((q1.out).frozen 0)).mono ?_;rintro e u' w'' ⟨rfl,rfl,hw⟩;obtain⟨V,hV,C,-,-,hk,sV⟩:=Zr 117 #[.int .i64 8] (a4) ((a4).size);obtain⟨U,hU,J,q3,-⟩:=Zy 8 C (Qa _) (hk _ _ _ (q1.out));rw[hV,hU]at hw;subst hw;have r4:=q3.cell 0;simp at r4;exact⟨.tuple #[.slice none 0 0,.int .i64 8],by simp[results,Tryz.results27,go_sem,r4],PartPost.fall J I (by first|decide|assumption|exact b6.out)⟩
 have t2:decide ((m:Int)<=(n:Int))=true:=Gv (by omega);have j9:decide (m<=n)=true:=Gv a9;replace b3:=Za b3;replace a9:=Za a9;go_wp2_with fail;refine(Za9 8 w1).mono ?_;rintro e w1 ⟨rfl,rfl⟩;go_wp2_with fail
 go_loopg [28] m (λt iv wr=>∃ i:Nat,i+t=m/\iv=.int .i64 i/\Hid (∀ k,k<i->idxOk n ls k)/\Below w1.heap.size w1 wr)
 case atStart=>exact⟨0,by omega,rfl,Za (λk hk=>by omega),Qd _ _⟩
 case round =>
  obtain⟨wi,rfl⟩:=Gy wr;obtain⟨i,m2,rfl,a2,b7⟩:=hrel;have y:=a4.trans (b7.mono a4.size);cases gk with
  | succ t =>
   obtain rfl:t=m-(i+1):=by omega
   have h9:i<m:=by omega
   have t3:decide ((i:Int)<(m:Int))=true:=Gv (by omega);have bi:(i:Int)<(m:Int):=by omega
   have m4:(i:Int)<=(m:Int):=by omega
   have m7:(i:Int)<=(d:Int):=by omega
   have d3:=(d6.out.below y).takeC (show i<=m by omega);obtain⟨g,o,rfl,c0⟩:=(d6.out.below y).atC h9;obtain⟨x,hx⟩:=Gz (ls[i]?.getD 0);have j5:=d6.out.i64C i;rw[hx]at c0 j5;have c8:Hid (i<ls.length):=Za (by rw[T.out];exact h9);have qi:=Za (Zc b7 q1.out);by_cases O:0<=x
   case neg =>
    have t4:decide ((0:Int)<=x)=false:=Gu O;have I:=Zd5 b4.out (Zkr (n:=rs.length) c8.out (λh=>O (by rw[<- hx];exact h.1.1)));replace hx:=Za hx;replace O:=Za O;clear d3;go_wp2_with fail;refine(Zad 8 wi).mono ?_;rintro e w6 ⟨rfl,rfl⟩;go_wp2_with fail;refine leaves_cons (f:=39) (args:=#[.pointer (some ⟨w.heap.size,0,none⟩)]) (by simp) (by simp[go_sem]) ?_;have e0:=(qi.out).cell 0;simp at e0;refine(Z5 ⟨w.heap.size,0,none⟩ 8 0 _ e0 ((qi.out).frozen 0)).mono ?_;rintro e u' w'' ⟨rfl,rfl,hw⟩;obtain⟨V,hV,C,-,-,hk,sV⟩:=Zr 117 #[.int .i64 8] (y) ((y).size);obtain⟨U,hU,J,q3,-⟩:=Zy 8 C (Qa _) (hk _ _ _ (qi.out));rw[hV,hU]at hw;subst hw;have r4:=q3.cell 0;simp at r4;exact⟨.tuple #[.slice none 0 0,.int .i64 8],by simp[results,Tryz.results27,go_sem,r4],PartPost.fall J I (by first|decide|assumption|exact b6.out)⟩
   have t4:decide ((0:Int)<=x)=true:=Gv O;by_cases a0:x<n
   case neg =>
    have t5:decide (x<(n:Int))=false:=Gu a0;have I:=Zd5 b4.out (Zkr (n:=rs.length) c8.out (λh=>a0 (by have:=h.1.2;rw[hx,b9.out]at this;exact this)));replace hx:=Za hx;replace O:=Za O;replace a0:=Za a0;clear d3;go_wp2_with fail;refine(Zad 8 wi).mono ?_;rintro e w6 ⟨rfl,rfl⟩;go_wp2_with fail;refine leaves_cons (f:=39) (args:=#[.pointer (some ⟨w.heap.size,0,none⟩)]) (by simp) (by simp[go_sem]) ?_;have e0:=(qi.out).cell 0;simp at e0;refine(Z5 ⟨w.heap.size,0,none⟩ 8 0 _ e0 ((qi.out).frozen 0)).mono ?_;rintro e u' w'' ⟨rfl,rfl,hw⟩;obtain⟨V,hV,C,-,-,hk,sV⟩:=Zr 117 #[.int .i64 8] (y) ((y).size);obtain⟨U,hU,J,q3,-⟩:=Zy 8 C (Qa _) (hk _ _ _ (qi.out));rw[hV,hU]at hw;subst hw;have r4:=q3.cell 0;simp at r4;exact⟨.tuple #[.slice none 0 0,.int .i64 8],by simp[results,Tryz.results27,go_sem,r4],PartPost.fall J I (by first|decide|assumption|exact b6.out)⟩
   have t5:decide (x<(n:Int))=true:=Gv a0;obtain⟨b,hb⟩:=Gz (decide (x ∈ ls.take i));have i3:=Za (λW1 (hbb:Below wi.heap.size wi W1)=>Zpc (some ⟨g,o,none⟩) i i (ls.take i) x W1 (d3.below hbb) b hb);clear d3;cases b
   ·have e7:Hid (∀ k,k<i+1->idxOk n ls k):=Za (λk hk=>by
      rcases Nat.lt_or_ge k i with h'|h';exact a2.out k h'
      ·obtain rfl:k=i:=by omega
       refine⟨⟨by rw[hx];exact O,by rw[hx];exact a0⟩,λj hj e=>?_⟩;refine of_decide_eq_false hb ?_;rw[<- hx];exact(idxOk.mem c8.out).2 ⟨j,hj,e⟩)
    replace hx:=Za hx;replace O:=Za O;replace a0:=Za a0;replace hb:=Za hb;go_wp2_with fail;refine(i3.out _ (by first|exact Qd _ _|exact Zf (Qd _ _) _)).mono ?_;rintro e w2 ⟨rfl,d8⟩;go_wp2_with fail;refine(Za9 8 w2).mono ?_;rintro e w2 ⟨rfl,rfl⟩;go_wp2_with fail
    go_roundg (m-(i+1))
    case measure=>omega
    case rel=>exact⟨i+1,by omega,by go_num,e7,b7.trans (d8.mono b7.size)⟩
   ·have I:=Zd5 b4.out (Zkr (n:=rs.length) c8.out (λh=>by
      have:=of_decide_eq_true hb;rw[<- hx]at this;obtain⟨j,hj,e⟩:=(idxOk.mem c8.out).1 this;exact h.2 j hj e))
    replace hx:=Za hx;replace O:=Za O;replace a0:=Za a0;replace hb:=Za hb;go_wp2_with fail;refine(i3.out _ (by first|exact Qd _ _|exact Zf (Qd _ _) _)).mono ?_;rintro e w2 ⟨rfl,d8⟩;have f4:=Zc d8 qi.out;have i1:=y.trans (d8.mono y.size);go_wp2_with fail;refine(Zad 8 w2).mono ?_;rintro e w6 ⟨rfl,rfl⟩;go_wp2_with fail;refine leaves_cons (f:=39) (args:=#[.pointer (some ⟨w.heap.size,0,none⟩)]) (by simp) (by simp[go_sem]) ?_;have e0:=(f4).cell 0;simp at e0;refine(Z5 ⟨w.heap.size,0,none⟩ 8 0 _ e0 ((f4).frozen 0)).mono ?_;rintro e u' w'' ⟨rfl,rfl,hw⟩;obtain⟨V,hV,C,-,-,hk,sV⟩:=Zr 117 #[.int .i64 8] (i1) ((i1).size);obtain⟨U,hU,J,q3,-⟩:=Zy 8 C (Qa _) (hk _ _ _ (f4));rw[hV,hU]at hw;subst hw;have r4:=q3.cell 0;simp at r4;exact⟨.tuple #[.slice none 0 0,.int .i64 8],by simp[results,Tryz.results27,go_sem,r4],PartPost.fall J I (by first|decide|assumption|exact b6.out)⟩
  | zero =>
   obtain rfl:m=i:=by omega
   have t3:decide ((m:Int)<(m:Int))=false:=by simp
   have I:Hid (Zfl rs ls=0):=Za (Zsq b4.out (Zyn (by rw[T.out];have:=b3.out;omega) (by rw[T.out,b9.out];exact a9.out) (by rw[T.out,b9.out];exact a2.out)));have h7:Hid (Blk wi w.heap.size 26 #[.int .i64 0]):=Za (Zc b7 q1.out);have h8:Hid (w.heap.size<wi.heap.size):=Za h7.out.lt;have l6:=Za (hM.out.below y);have g4:=Za (d6.out.below y);clear q1;go_wp2_with fail
   go_loopg [4,54] m (λt ov jv wr=>∃ (j:Nat) (L:List RS),j+t=m/\jv=.int .i64 j/\MatOA 35 41 wr wi.heap.size ov L ((Zk7 (qM rs) ls).take j)/\Below wi.heap.size wi wr)
   case atStart=>exact⟨0,[],by omega,rfl,MatOA.nil _ _ _ _,Qd _ _⟩
   case round =>
    obtain⟨wj,rfl⟩:=Gy wr;obtain⟨j,L1,m6,rfl,a3,a6⟩:=hrel;have j1:Hid (L1.length=j):=Za (by rw[a3.2.1,QJ,Zov,T.out];omega);obtain⟨oA,on_,oc,rfl⟩:=a3.1.isSlP;cases gk with
    | zero =>
     obtain rfl:m=j:=by omega
     have t4:decide ((m:Int)<(m:Int))=false:=by simp
     have q5:=Zc a6 h7.out;have l2:Below w.heap.size w wj:=y.trans (a6.mono y.size);have e0:=q5.cell 0;have z0:=q5.frozen 0;simp at e0;obtain⟨U,hU,J,q3,-⟩:=Zy 0 l2 (Qa _) q5;have r4:=q3.cell 0;simp at r4;have i6:Kept (λk=>k=w.heap.size) wj U:=by rw[<- hU];exact Kept.set_ (G:=λk=>k=w.heap.size) (Kept.refl _ _) (p:=⟨w.heap.size,0,none⟩) (.inl rfl) _
     have k8:=Za ((a3.boxC q5 (Zo6 _) h8.out i6).lowerC (Nat.le_of_lt h8.out));replace a3:=Za a3;clear i6 q5;go_wp2_with fail;(try rw[hU]);refine leaves_cons (f:=39) (args:=#[.pointer (some ⟨w.heap.size,0,none⟩)]) (by simp) (by simp[go_sem]) ?_;refine(Zc5 _ _).mono ?_;rintro e u' w'' ⟨rfl,rfl,rfl⟩;refine⟨.tuple #[.slice oA on_ oc,.int .i64 0],by simp[results,Tryz.results27,go_sem,r4],J,.inl ⟨I.out,_,L1,rfl,?_⟩⟩;have h1:=k8.out;rw[QA (by rw[Zov,T.out];exact Qa _)]at h1;exact h1
    | succ t =>
     obtain rfl:t=m-(j+1):=by omega
     have d4:j<m:=by omega
     have t4:decide ((j:Int)<(m:Int))=true:=Gv (by omega);have bj:(j:Int)<(m:Int):=by omega
     obtain⟨gl,ol,rfl,c0⟩:=(g4.out.below a6).atC d4;obtain⟨a,ha⟩:∃ a:Nat,ls[j]?.getD 0=(a:Int):=⟨(ls[j]?.getD 0).toNat,by have:=(a2.out j d4).1.1;omega⟩;have h6:a<n:=by have:=(a2.out j d4).1.2;omega
     rw[ha]at c0;have ban:(a:Int)<(n:Int):=by omega
     have j6:Hid (j<ls.length):=Za (by rw[T.out];exact d4);have j8:Hid (Zcq (qM rs) ls (ls[j]?.getD 0)=ls.map λb=>Zh (qM rs) a b.toNat):=Za (by unfold Zcq;rw[ha];rfl);have i7:=Z0i (P:=Tryz.prog) 35 41 Tryz.underlying35 hi h4 i5 h3 m (by omega) wj;have c6:=Zv4 41 wj m (by unfold maxLen;omega);obtain⟨V1,f0⟩:=Gz (wj.alloc (.cells (Zz (Qk m Zaw)) 41));have C:Below wj.heap.size wj V1:=by rw[<- f0];exact(Qd _ _).alloc (Qa _) _
     rw[f0]at c6 i7;have k7:=Zb C c0;replace ha:=Za ha;replace a3:=Za a3;replace c6:=Za c6;go_wp2_with fail;clear i7 c0 k7
     go_loopg [10,63] m (λt rv kv wr=>∃ k:Nat,k+t=m/\kv=.int .i64 k/\OwnF 41 wr wj.heap.size rv ((Zcq (qM rs) ls (ls[j]?.getD 0)).take k)/\Below wj.heap.size wj wr)
     case atStart=>exact⟨0,by omega,rfl,by simpa using c6.out,C⟩
     case round =>
      clear c6 f0 C V1;obtain⟨wk,rfl⟩:=Gy wr;obtain⟨k,n3,rfl,hO,c5⟩:=hrel;have u:Below wi.heap.size wi wk:=a6.trans (c5.mono a6.size);obtain⟨rA,rc,e9,f8⟩:=hO.fl;have g9:((Zcq (qM rs) ls (ls[j]?.getD 0)).take k).length=k:=by rw[QJ,Zla,T.out];omega
      rw[g9]at e9 f8;subst e9;cases gk with
      | zero =>
       obtain rfl:m=k:=by omega
       have t5:decide ((m:Int)<(m:Int))=false:=by simp
       have e6:=a3.out.kept c5
       have k2:Hid (∀ s ∈ L1,∀ k',s.val.ownBlock=some k'->k'<wj.heap.size):=Za (λs hs k' hk'=>by
        obtain⟨q,hq,e⟩:=List.getElem_of_mem hs;exact(a3.out.2.2.1 q s (by rw[Qj hq,e])).blt k' hk')
       obtain⟨Y1,a5⟩:=Gz (wk.alloc (.cells #[.slice rA m rc] 35));obtain⟨gz,i8⟩:=Gz wk.heap.size;have a7:Below wk.heap.size wk Y1:=by rw[<- a5];exact(Qd _ _).alloc (Qa _) _
       have d0:Blk Y1 gz 35 #[.slice rA m rc]:=by rw[<- a5,<- i8];exact Blk.new _ _ _
       have g8:=e6.kept a7;have a8:=hO.kept a7;have e2:Below wi.heap.size wi Y1:=u.trans (a7.mono u.size);have k1:L1.length+1<=1000:=by rw[j1.out];omega
       have d9:=g8.1;have c2:=e2.size;replace hO:=Za hO;replace e6:=Za e6;replace a8:=Za a8;clear f8;go_wp2_with ((try rw[a5]);(try rw[i8]);at_builtin;refine Zfr _ rfl (.tmp 83) (.tmp 85) 25 rfl wi.heap.size 35 iS Tryz.underlying25 ki j0 k6 j4 _ L1 rfl d9 _ (some ⟨gz,0,none⟩) 1 1 [⟨rA,m,rc⟩] rfl (Zev d0) rfl k1 c2 ?_;intro v5 w5 j2 g6 l3);have d7:=g8.snoc m0 (r:=⟨rA,m,rc⟩) a8.out a6.size k2.out j2 g6 l3;have k5:=e2.grown g6 c2 (λk hk=>d9.row_ge k hk);have f7:(Zcq (qM rs) ls (ls[j]?.getD 0)).take m=Zcq (qM rs) ls (ls[j]?.getD 0):=QA (by rw[Zla,T.out];exact Qa _);rw[f7,Zs4 j6.out]at d7;replace d7:=Za d7
       go_roundg (m-(j+1))
       case measure=>omega
       case rel=>exact⟨j+1,_,by omega,by go_num,d7.out,k5⟩
      | succ t' =>
       obtain rfl:t'=m-(k+1):=by omega
       have b0:k<m:=by omega
       have t5:decide ((k:Int)<(m:Int))=true:=Gv (by omega);have bk:(k:Int)<(m:Int):=by omega
       have y0:=(g4.out.below u).atCS b0;obtain⟨b,hb⟩:∃ b:Nat,ls[k]?.getD 0=(b:Int):=⟨(ls[k]?.getD 0).toNat,by have:=(a2.out k b0).1.1;omega⟩;have l1:b<n:=by have:=(a2.out k b0).1.2;omega
       rw[hb]at y0;have bbn:(b:Int)<(n:Int):=by omega
       obtain⟨g1,o1,A',n',c',rfl,k0,hR⟩:=l6.out.at_ h6;have l9:n=n':=by rw[<- hR.len];exact(g0.out a h6).symm
       subst l9;have e4:=hR.cap;unfold maxLen at e4;obtain⟨g2,o2,xn,xA,xk,xc,xm,xB,xj,xd,rfl,⟨x0,x1,x2,x3⟩,hX⟩:=hR.at_ l1;have eX:((qM rs)[a]?.getD [])[b]?.getD 0=Zh (qM rs) a b:=rfl;rw[eX]at hX
       have f6:Hid ((Zcq (qM rs) ls (ls[j]?.getD 0)).take k ++ [Zh (qM rs) a b*((1:Int):Rat)]=(Zcq (qM rs) ls (ls[j]?.getD 0)).take (k+1)):=Za (by
        have h1:=Zql (Q:=qM rs) (a:=ls[j]?.getD 0) (k:=k) (ls:=ls) (by rw[T.out];exact b0);rw[ha.out,hb]at h1;rw[ha.out,<- h1];congr 2;simp)
       replace hX:=Za hX;replace hb:=Za hb;replace hO:=Za hO;have z0:=Zb u k0;have z1:=Zb u x0;have z2:=Zb u x1;have z3:=Zb u x2;have z4:=Zb u x3;clear eX hR f8;go_wp2_with fail;clear z0 z1 z2 z3 z4;obtain⟨X0,c9⟩:=Gz wk.drew;have e5:Below wk.heap.size wk X0:=by rw[<- c9];exact Zf (Qd _ _) 1
       have a1:Hid (∀ wx,Below wi.heap.size wi wx->wx.cell? ⟨g1,o1+a,none⟩=some (.slice (some ⟨g2,o2,none⟩) n c')/\wx.cell? ⟨g2,o2+b*4,none⟩=some (.bool xn)/\wx.cell? ⟨g2,o2+b*4+1,none⟩=some (.slice xA xk xc)/\wx.cell? ⟨g2,o2+b*4+2,none⟩=some (.bool xm)/\wx.cell? ⟨g2,o2+b*4+3,none⟩=some (.slice xB xj xd)):=Za (λwx hbx=>⟨Zb hbx k0,Zb hbx x0,Zb hbx x1,Zb hbx x2,Zb hbx x3⟩);have e3:Below wi.heap.size wi X0:=u.trans (e5.mono u.size);refine wp_heldS [] hmx a1 (by rw[c9];exact e3) (λhxs=>?_);rw[c9];refine Zjw 8 [0,1,2,3,4,5,6,7] rfl (by kernel_rfl) (a1.out _ e3) ?_
       iterate 8 (refine tkA ?_;try simp only[Qf,Zg4,Zgk,Zgx,Gr,Gq,Gp])
       refine tk0 ?_;refine Zgl 1 [8] rfl (by kernel_rfl) (a1.out _ e3) ?_
       (refine tkA ?_;try simp only[Qf,Zg4,Zgk,Zgx,Gr,Gq,Gp])
       refine tk0 ?_;refine wpAnyL_o 9 λK hK=>?_;go_simp;refine(Zi9 1 X0 (by decide) (by decide)).mono ?_;rintro e w5 ⟨l7,pn,pA,pk,pc,pm,pB,pj,pd,rfl,hP⟩;have f3:=e5.trans (l7.mono e5.size);have k3:=u.trans (f3.mono u.size);refine hK.out _ _ (λ_=>a1.out _ k3) ?_;clear hK K
       try simp only[Qf,Zg4,Zgk,Zgx]
       obtain⟨Y1,a5⟩:=Gz (w5.alloc (.cells #[.bool pn,.slice pA pk pc,.bool pm,.slice pB pj pd] 73));obtain⟨i9,c7⟩:=Gz w5.heap.size;have a7:Below w5.heap.size w5 Y1:=by rw[<- a5];exact(Qd _ _).alloc (Qa _) _
       have d0:Blk Y1 i9 73 #[.bool pn,.slice pA pk pc,.bool pm,.slice pB pj pd]:=by rw[<- a5,<- c7];exact Blk.new _ _ _
       have e8:=f3.trans (a7.mono f3.size);have i0:=u.trans (e8.mono u.size);refine wpAnyL_o 10 λK hK=>?_;go_simp;(try rw[a5]);(try rw[c7]);refine hK.out _ _ (λ_=>a1.out _ i0) ?_;clear hK K a5 c7
       try simp only[Qf,Zg4,Zgk,Zgx]
       refine wpAnyL_o 11 λK hK=>?_;go_simp;refine(Zbw xn xA xk xc xm xB xj xd (Zh (qM rs) a b) (some ⟨i9,0,none⟩) 1 1 [((1:Int):Rat)] Y1 (hX.out.below i0) (FL.sing1 d0 (hP.below a7)) (by omega) (λt ht=>?_) (λt ht=>?_)).mono ?_
       ·obtain rfl:t=0:=by omega
        exact(j3.out a b).2
       ·obtain rfl:t=0:=by omega
        exact⟨by show (1:Nat)<_;rw[show (1000:Nat)=999+1 by rfl,Za3];have:=Zb2 999;omega,by show (1:Nat)<_;rw[show (1000:Nat)=999+1 by rfl,Za3];have:=Zb2 999;omega⟩
       rintro e w6 ⟨k4,un,uA,uk,uc,um,uB,uj,ud,rfl,hU⟩;have f5:=e8.trans (k4.mono e8.size);have g7:=u.trans (f5.mono u.size);refine hK.out _ _ (λ_=>a1.out _ g7) ?_;clear hK K
       try simp only[Qf,Zg4,Zgk,Zgx]
       have m9:=Zx0 un uA uk uc um uB uj ud;refine Zgl 1 [12] rfl (by kernel_rfl) (a1.out _ g7) ?_
       (refine tkA ?_;try simp only[Qf,Zg4,Zgk,Zgx,Gr,Gq,Gp])
       refine tk0 ?_;obtain⟨Y2,d5⟩:=Gz (w6.alloc (.cells #[.bool un,.slice uA uk uc,.bool um,.slice uB uj ud] 41));obtain⟨g5,c1⟩:=Gz w6.heap.size;have b8:Below w6.heap.size w6 Y2:=by rw[<- d5];exact(Qd _ _).alloc (Qa _) _
       have e1:Blk Y2 g5 41 #[.bool un,.slice uA uk uc,.bool um,.slice uB uj ud]:=by rw[<- d5,<- c1];exact Blk.new _ _ _
       have b1:=f5.trans (b8.mono f5.size);have h2:=u.trans (b1.mono u.size);refine wpAnyL_o 13 λK hK=>?_;go_simp;(try rw[d5]);(try rw[c1]);refine hK.out _ _ (λ_=>a1.out _ h2) ?_;clear hK K d5 c1
       try simp only[Qf,Zg4,Zgk,Zgx]
       have a8:=hO.out.kept b1;have i4:=hU.below b8;have c2:wj.heap.size<=Y2.heap.size:=Qi c5.size b1.size;have l8:Below wj.heap.size wj Y2:=c5.trans (b1.mono c5.size);refine wpAnyL_o 14 λK hK=>?_;rw[Gx (by rfl)];refine Za6 _ (.tmp 67) (.tmp 80) 35 rfl wj.heap.size 41 iF Tryz.underlying35 hi h4 i5 h3 (.slice rA k rc) _ rfl a8 _ (some ⟨g5,0,none⟩) 1 1 [⟨un,uA,uk,uc,um,uB,uj,ud,Zh (qM rs) a b*((1:Int):Rat)⟩] rfl (Zbm _ e1) rfl (by intro e he;rw[QH]at he;subst he;exact i4) (by rw[g9];omega) c2 ?_;intro v7 w7 c4 l4 m5 n6;have i2:=l8.grown l4 c2 (λk hk=>a8.row_ge k hk);have f9:Below wi.heap.size wi w7:=a6.trans (i2.mono a6.size);simp only[QF,QI]at c4;rw[f6.out]at c4;refine hK.out _ _ (λ_=>a1.out _ f9) ?_;clear hK K
       try simp only[Qf,Zg4,Zgk,Zgx]
       refine Zgl 1 [15] rfl (by kernel_rfl) (a1.out _ f9) ?_
       (refine tkA ?_;try simp only[Qf,Zg4,Zgk,Zgx,Gr,Gq,Gp])
       refine tk0 ?_;refine wpAnyL_fin ?_;replace c4:=Za c4;clear a8 i4 e1 b8 d0 a7 hU hP c9;go_wp2_with fail
       go_roundg (m-(k+1))
       case measure=>omega
       case rel=>exact⟨k+1,by omega,by go_num,c4.out,i2⟩
def Zlh(n:Nat)(l:List Int):Bool:=decide (l.length=n) && !Zqz l
def Zft(rs:List RX)(js:List (List Int)):Int:=if Zaf rs=0 then (if 6<js.length then 4 else if js.length=0 then 8 else if js.all (Zlh rs.length)=true then 0 else 8)else Zaf rs
section
variable{rs:List RX}{js:List (List Int)}{n:Nat}
theorem Zy6{E:Int}(h:Zaf rs=E)(h0:E≠0):Zft rs js=E:=by subst h;unfold Zft;rw[Gw h0]
theorem Zwt(h:Zaf rs=0)(hm:6<js.length):Zft rs js=4:=by unfold Zft;rw[Gx h,Gx hm]
theorem Z0r(h:Zaf rs=0)(hm:js.length=0):Zft rs js=8:=by unfold Zft;rw[Gx h,Gw (by omega),Gx hm]
theorem Zyi(h:Zaf rs=0)(h6:¬ 6<js.length){l:List Int}(hl:l ∈ js)(hb:Zlh rs.length l=false):Zft rs js=8:=by
 unfold Zft;rw[Gx h,Gw h6]
 split
 rfl
 ·rw[Gw]
  intro e;rw[List.all_eq_true]at e;have:=e l hl;rw[hb]at this;cases this
theorem imgP_ok(h:Zaf rs=0)(h6:¬ 6<js.length)(h0:js.length≠0)(ha:∀ l ∈ js,Zlh rs.length l=true):Zft rs js=0:=by
 unfold Zft;rw[Gx h,Gw h6,Gw h0,Gx (List.all_eq_true.2 ha)]
theorem Zxl{l:List Int}(h:Zlh n l=true):l.length=n/\Zgd l:=by
 unfold Zlh at h;rw[Qy,decide_eq_true_eq]at h;refine⟨h.1,λk=>?_⟩;have h2:Zqz l=false:=by simpa using h.2
 unfold Zqz at h2;rw[List.any_eq_false]at h2;unfold gI;rcases Nat.lt_or_ge k l.length with h3|h3
 ·rw[Qj h3,QK]
  have:=h2 _ (List.getElem_mem h3);simpa using this
 rw[Qp h3];decide
end
def ImgPost(rs:List RX)(js:List (List Int))(w:World)(e:Ending)(w':World):Prop:=
 Below w.heap.size w w'/\((Zft rs js=0/\∃ rt,Zew rt=Ze1 (Zgg (Zh (qM rs)) rs.length js)/\((Zaf rt=0/\∃ v L,e=.returned (.tuple #[v,.int .i64 0])/\MatOA 35 41 w' w.heap.size v L (Zgg (Zh (qM rs)) rs.length js)) \/ (Zaf rt≠0/\e=.returned (.tuple #[.slice none 0 0,.int .i64 16])))) \/
  (Zft rs js≠0/\e=.returned (.tuple #[.slice none 0 0,.int .i64 (Zft rs js)])))
theorem ImgPost.fall{rs:List RX}{js:List (List Int)}{w w':World}{E:Int}(hb:Below w.heap.size w w')(h:Zft rs js=E)(h0:E≠0):ImgPost rs js w (.returned (.tuple #[.slice none 0 0,.int .i64 E])) w':=by
 subst h;exact⟨hb,.inr ⟨h0,rfl⟩⟩
theorem SmN.intC(x:Int)(k:Nat)(h:x.natAbs<=pw k):SmN (k+1) 1 (x:Rat):=by
 refine⟨?_,?_⟩
 ·rw[Rat.num_intCast]
  exact Qe h (Zc4 (by omega))
 ·rw[Rat.den_intCast]
  rw[show (1:Nat)=0+1 by rfl,Za3,Zem];decide
theorem term_sm{R:List (List Rat)}{a b:List Int}(hS:SmE 4 R)(ha:Zgd a)(hb:Zgd b)(i k:Nat):Sm (Zh R i k)/\Sm ((gI a i:Int):Rat)/\Sm ((gI b k:Int):Rat)/\Sm (Zh R i k*((gI a i:Int):Rat))/\Sm (Zh R i k*((gI a i:Int):Rat)*((gI b k:Int):Rat)):=by
 have h1:SmN 5 5 (Zh R i k):=⟨Qe (hS i k).1 (Zc4 (by decide)),Qe (hS i k).2 (Zc4 (by decide))⟩;have h2:=SmN.intC (gI a i) 2 (Zpj (ha i));have h3:=SmN.intC (gI b k) 2 (Zpj (hb k));exact⟨h1.sm (by decide) (by decide),h2.sm (by decide) (by decide),h3.sm (by decide) (by decide),(h1.mulN h2).sm (by decide) (by decide),((h1.mulN h2).mulN h3).sm (by decide) (by decide)⟩
theorem smH:SmN 1 1 axH:=⟨by decide +kernel,by decide +kernel⟩
theorem sm4:SmN 1 1 (4:Rat):=⟨by decide +kernel,by decide +kernel⟩
section
variable{a b d:Rat}
theorem sz_t(sa:SmN 5 5 a)(sd:SmN 5 5 d):SmN 11 10 (axT a d):=(sa.add sd).mono (by decide) (by decide)
theorem sz_d(sa:SmN 5 5 a)(sd:SmN 5 5 d):SmN 11 10 (axD a d):=(sa.sub sd).mono (by decide) (by decide)
theorem Zpn(sa:SmN 5 5 a)(sd:SmN 5 5 d):SmN 12 11 (Zbg a d):=(sz_t sa sd).mulN smH
theorem Znm(sa:SmN 5 5 a)(sd:SmN 5 5 d):SmN 12 11 (Zfa a d):=(sz_d sa sd).mulN smH
theorem sz_sq(sa:SmN 5 5 a)(sb:SmN 5 5 b)(sd:SmN 5 5 d):SmN 35 32 (Ziy a b d):=(((Znm sa sd).mulN (Znm sa sd)).add (sb.mulN sb)).mono (by decide) (by decide)
theorem sz_q(sa:SmN 5 5 a)(sb:SmN 5 5 b)(sd:SmN 5 5 d):SmN 34 31 (axQ a b d):=(((sz_d sa sd).mulN (sz_d sa sd)).add (sm4.mulN (sb.mulN sb))).mono (by decide) (by decide)
theorem sz_n(sa:SmN 5 5 a)(sb:SmN 5 5 b)(sd:SmN 5 5 d):(axN a b d).natAbs<pw 42:=by
 unfold axN;rw[Qs,Qb,show 42=11+31 from rfl,Zcs];exact Qo (sz_t sa sd).1 (sz_q sa sb sd).2
theorem sz_s0(sa:SmN 5 5 a)(sb:SmN 5 5 b)(sd:SmN 5 5 d):((axQ a b d).num*((axQ a b d).den:Int)).natAbs<pw 65:=by
 rw[Qs,Qb,show 65=34+31 from rfl,Zcs];exact Qo (sz_q sa sb sd).1 (sz_q sa sb sd).2
theorem sz_s1(sa:SmN 5 5 a)(sb:SmN 5 5 b)(sd:SmN 5 5 d):((axQ a b d).num*((axQ a b d).den:Int)*((axT a d).den:Int)).natAbs<pw 75:=by
 rw[Qs,Qb,show 75=65+10 from rfl,Zcs];exact Qo (sz_s0 sa sb sd) (sz_t sa sd).2
theorem sz_s(sa:SmN 5 5 a)(sb:SmN 5 5 b)(sd:SmN 5 5 d):(axS a b d).natAbs<pw 85:=by
 unfold axS;rw[Qs,Qb,show 85=75+10 from rfl,Zcs];exact Qo (sz_s1 sa sb sd) (sz_t sa sd).2
theorem sz_r(sa:SmN 5 5 a)(sb:SmN 5 5 b)(sd:SmN 5 5 d):axR a b d<pw 85:=by
 have h:=(Zvr (axS a b d).natAbs).1;have h1:=sz_s sa sb sd;have h2:axR a b d<=axR a b d*axR a b d:=Nat.le_mul_self _;have h3:axR a b d*axR a b d<=(axS a b d).natAbs:=h;omega
theorem sz_up(sa:SmN 5 5 a)(sb:SmN 5 5 b)(sd:SmN 5 5 d):(axUp a b d).natAbs<=pw 85:=by
 have h:=sz_r sa sb sd;unfold axUp
 split <;> omega
theorem Zuz{x m:Int}(hm:0<m){K:Nat}(hx:x.natAbs<=K):(Qx x m).natAbs<=K:=by
 rw[Qw _ (by omega)]
 exact Qi (by
  rcases Int.le_total 0 x with h|h
  ·have h1:=Int.ediv_nonneg h (by omega:0<=m)
   have h2:=Int.ediv_le_self m h;omega
  ·have h1:x<=x/m:=by
     rw[Qm hm];have h9:x*m<=x*1:=Int.mul_le_mul_of_nonpos_left h (by omega);omega
   have h2:x/m<=0:=by
    apply Classical.byContradiction;intro h3;have h4:=(Qm (a:=1) (b:=x) hm).1 (by omega);omega
   omega) hx
theorem Zzc{x y:Int}(hx:x.natAbs<pw 42)(hy:y.natAbs<=pw 85):(x+y).natAbs<=pw 86:=by
 have h1:pw 42<=pw 85:=Zb4 (by decide);have h2:pw 86=4294967296*pw 85:=by rw[Za3]
 have h3:=Zb2 85;have h4:=Int.natAbs_add_le x y;rw[h2];generalize pw 85=P at *;generalize pw 42=Q at *;omega
theorem Zu4(sa:SmN 5 5 a)(sb:SmN 5 5 b)(sd:SmN 5 5 d):(axLong a b d).natAbs<=pw 86:=by
 have hm:=Zlt (a:=a) (b:=b) (d:=d);exact Zuz (by omega) (Zzc (sz_n sa sb sd) (by have:=sz_r sa sb sd;omega))
theorem Zqs(sa:SmN 5 5 a)(sb:SmN 5 5 b)(sd:SmN 5 5 d):(axShort a b d).natAbs<=pw 86:=by
 have hm:=Zlt (a:=a) (b:=b) (d:=d);unfold axShort;rw[Int.sub_eq_add_neg];exact Zuz (by omega) (Zzc (sz_n sa sb sd) (by have:=sz_up sa sb sd;rw[Int.natAbs_neg];exact this))
theorem big_M{M:Int}(h:M.natAbs<=pw 86):M<((pw 313:Nat):Int):=by
 have h3:pw 86<pw 313:=Zc4 (by decide);generalize pw 313=P at *;generalize pw 86=Q at *;omega
theorem sz_z{M z:Int}(h:M.natAbs<=pw 86)(h1:-1<=z)(h2:z<=2*M+2):SmN 88 1 (z:Rat):=by
 refine SmN.intC z 87 ?_;have h3:pw 87=4294967296*pw 86:=by rw[Za3]
 have h4:=Zb2 86;rw[h3];generalize pw 86=P at *;omega
theorem ax_z(sa:SmN 5 5 a)(sd:SmN 5 5 d){M z:Int}(h:M.natAbs<=pw 86)(h1:-1<=z)(h2:z<=2*M+2):Sm (z:Rat)/\Sm ((z:Rat)-Zbg a d)/\Sm (((z:Rat)-Zbg a d)*((z:Rat)-Zbg a d)):=by
 have k1:=sz_z h h1 h2;have k2:SmN 100 12 ((z:Rat)-Zbg a d):=(k1.sub (Zpn sa sd)).mono (by decide) (by decide);exact⟨k1.sm (by decide) (by decide),k2.sm (by decide) (by decide),(k2.mulN k2).sm (by decide) (by decide)⟩
theorem Ztn(sa:SmN 5 5 a)(sb:SmN 5 5 b)(sd:SmN 5 5 d)(ha:0<a)(hd:0<d):EdgeP 1 (Zbg a d) (Ziy a b d) (axLong a b d):=
 ⟨λ_ _=>ax_low1,Int.le_trans (by decide) (Z0o ha hd),big_M (Zu4 sa sb sd),(Zpn sa sd).sm (by decide) (by decide),(sz_sq sa sb sd).sm (by decide) (by decide),λ_ h1 h2=>ax_z sa sd (Zu4 sa sb sd) h1 h2⟩
theorem Zr1(sa:SmN 5 5 a)(sb:SmN 5 5 b)(sd:SmN 5 5 d)(ha:0<a)(hd:0<d)(hp:0<a*d-b*b):EdgeP (-1) (Zbg a d) (Ziy a b d) (axShort a b d):=
 ⟨λ_ _=>ax_low2,Int.le_trans (by decide) (Zye ha hd hp),big_M (Zqs sa sb sd),(Zpn sa sd).sm (by decide) (by decide),(sz_sq sa sb sd).sm (by decide) (by decide),λ_ h1 h2=>ax_z sa sd (Zqs sa sb sd) h1 h2⟩
end
def Zhw(rs:List RX)(es:List FX):Int:=if Zaf rs≠0 then Zaf rs else if es.length=rs.length/\Zdi es=true then 0 else 8
def Zqi(es:List FX)(i:Nat):Rat:=(es.map FX.q)[i]?.getD 0
def Zoq(rs:List RX)(es:List FX):Rat:=bil (Zh (qM rs)) rs.length (Zqi es) (Zqi es)
def DistPost(rs:List RX)(es:List FX)(w:World)(e:Ending)(w':World):Prop:=
 Below w.heap.size w w'/\((Zhw rs es=0/\∃ na A n c nb B m d,e=.returned (.tuple #[.agg #[.bool na,.slice A n c,.bool nb,.slice B m d],.int .i64 0])/\Fr w' na A n c nb B m d (Zoq rs es)) \/
  (Zhw rs es≠0/\e=.returned (.tuple #[.agg #[.bool false,.slice none 0 0,.bool false,.slice none 0 0],.int .i64 (Zhw rs es)])))
theorem DistPost.fall{rs:List RX}{es:List FX}{w w':World}{E:Int}(hb:Below w.heap.size w w')(h:Zhw rs es=E)(h0:E≠0):DistPost rs es w (.returned (.tuple #[.agg #[.bool false,.slice none 0 0,.bool false,.slice none 0 0],.int .i64 E])) w':=by
 subst h;exact⟨hb,.inr ⟨h0,rfl⟩⟩
section
variable{rs:List RX}{es:List FX}{E:Int}
theorem Zoz(h:Zaf rs=E)(h0:E≠0):Zhw rs es=E:=by subst h;exact Gx h0
theorem Zh6(h:Zaf rs=0)(hb:¬ (es.length=rs.length/\Zdi es=true)):Zhw rs es=8:=by
 unfold Zhw;rw[Gw (by simp[h])];exact Gw hb
theorem Zq2(h:Zaf rs=0)(hb:es.length=rs.length/\Zdi es=true):Zhw rs es=0:=by
 unfold Zhw;rw[Gw (by simp[h])];exact Gx hb
end
theorem Zuq(na:Bool)(A:Option Addr)(n c:Nat)(nb:Bool)(B:Option Addr)(m d:Nat)(w:World):(Instr.field 73 (.agg #[.bool na,.slice A n c,.bool nb,.slice B m d]) 0).run Tryz.prog w=.ok (.agg #[.bool na,.slice A n c,.bool nb,.slice B m d]) w:=by kernel_rfl
theorem Ziq(A V:Option Addr)(n c nv cv:Nat)(rs:List RX)(es:List FX)(w:World)(h:MXL w A n c rs)(hF:FacC rs)(hv:FXL w V nv cv es)(hS:Zhw rs es=0->Zry (Zh (qM rs)) rs.length (Zqi es)) :
    Calls Tryz.prog 25 #[.slice A n c,.slice V nv cv] w (DistPost rs es w):=by
 have Y:=Za h.1;have c3:=Za hv.1;have f4:=h.2.1;have d8:=h.2.2.1;have e5:=hv.2.1;have c0:=hv.2.2.1;unfold maxLen at d8 c0;obtain⟨W0,c4,y,⟨q0,q1⟩,s0⟩:=Zdb w 41 #[.bool false,.slice none 0 0,.bool false,.slice none 0 0] 26 #[.int .i64 0];have hC:=Za (Ze5 A n c rs W0 (h.below y) hF);have hH:=Za (h.below y);have C:=Za (hv.below y);replace hS:=Za hS;replace q0:=Za q0;replace q1:=Za q1;replace y:=Za y;clear h hv hF;replace s0:=Za s0
 go_enter_defers Tryz.func25,Tryz.ntmps25
 go_wp2_with fail;(try rw[c4]);clear c4;refine hC.out.mono ?_;rintro e w1 ⟨O,⟨h0,v1,v2,L0,rfl,b5⟩|⟨h0,rfl⟩⟩
 case inr =>
  have a3:=y.out.trans (O.mono y.out.size);have k0:=Zc O q0.out;have k1:=Zc O q1.out;obtain⟨E,hE⟩:=Gz (Zaf rs);rw[hE]at h0 ⊢;have b6:=Za h0;have J:=Zoz (es:=es) hE h0;replace hE:=Za hE;go_wp2_with fail;refine leaves_cons (f:=39) (args:=#[.pointer (some ⟨w.heap.size+1,0,none⟩)]) (by simp) (by simp[go_sem]) ?_;have e0:=(k1).cell 0;simp at e0;refine(Z5 ⟨w.heap.size+1,0,none⟩ E 0 _ e0 ((k1).frozen 0)).mono ?_;rintro e u' w'' ⟨rfl,rfl,hw⟩;obtain⟨V,hV,a5,-,-,hk,sV⟩:=Zr 117 #[.int .i64 E] (a3) ((a3).size);obtain⟨U,hU,a1,q3,-,kq,-⟩:=Zy E a5 (Qt _) (hk _ _ _ (k1));rw[hV,hU]at hw;subst hw;have r4:=q3.cell 0;simp at r4;obtain⟨d0,d1,d2,d3,-⟩:=(kq _ _ _ (by omega) (hk _ _ _ (k0))).four;exact⟨.tuple #[.agg #[.bool false,.slice none 0 0,.bool false,.slice none 0 0],.int .i64 E],by simp[results,Tryz.results25,go_sem,r4,d0,d1,d2,d3],DistPost.fall a1 J (by first|decide|assumption|exact b6.out)⟩
 obtain⟨A1,c1,e1,o⟩:=b5.1.mflA;obtain⟨A2,c2,e2,u⟩:=b5.2.1.fl;rw[Zcx]at e1 o;rw[Zel]at e2 u;rw[Y.out]at e1 o e2 u;subst e1;subst e2;have d6:=o.2.1;have b0:=o.2.2.1;have b1:=u.cap;unfold maxLen at b0 b1;obtain⟨b9,d4,b4⟩:=Zgh h0;have c8:n<=6:=by rw[<- Y.out];exact b9.facts.2.1
 rw[Y.out]at b4;have hp:=Za b4;replace o:=Za o;replace u:=Za u;replace h0:=Za h0;have a3:=Za (y.out.trans (O.mono y.out.size));replace q0:=Za (Zc O q0.out);replace q1:=Za (Zc O q1.out);replace C:=Za (C.out.below O);clear b5 b9 d4 b4 hC hH y O L0;obtain⟨g1,a2⟩:=Gz w1.heap.size;obtain⟨V3,a9,q5,a0⟩:=Zq (w:=w1) 99 #[.slice A1 n c1,.slice A2 n c2];rw[a2]at q5;replace o:=Za (o.out.below a0);replace u:=Za (u.out.below a0);replace q0:=Za (Zc a0 q0.out);replace q1:=Za (Zc a0 q1.out);replace C:=Za (C.out.below a0);have a4:=Za (a3.out.trans (a0.mono a3.out.size));clear a3;clear a0;replace q5:=Za q5;by_cases a7:nv=n
 case neg =>
  have t1:((nv:Int) == (n:Int))=false:=by simp;omega
  have e9:decide ((nv:Int)=(n:Int))=false:=Gu (by omega);have e6:decide (nv=n)=false:=Gu a7;have J:=Za (Zh6 (es:=es) h0.out (λhh=>a7 (by rw[<- c3.out,<- Y.out];exact hh.1)));replace a7:=Za a7;go_wp2_with fail;(try rw[a2]);(try rw[a9]);clear a9;replace a2:=Za a2;refine(Zad 8 V3).mono ?_;rintro e w6 ⟨rfl,rfl⟩;go_wp2_with fail;refine leaves_cons (f:=39) (args:=#[.pointer (some ⟨w.heap.size+1,0,none⟩)]) (by simp) (by simp[go_sem]) ?_;have e0:=(q1.out).cell 0;simp at e0;refine(Z5 ⟨w.heap.size+1,0,none⟩ 8 0 _ e0 ((q1.out).frozen 0)).mono ?_;rintro e u' w'' ⟨rfl,rfl,hw⟩;obtain⟨V,hV,a5,-,-,hk,sV⟩:=Zr 117 #[.int .i64 8] (a4.out) ((a4.out).size);obtain⟨U,hU,a1,q3,-,kq,-⟩:=Zy 8 a5 (Qt _) (hk _ _ _ (q1.out));rw[hV,hU]at hw;subst hw;have r4:=q3.cell 0;simp at r4;obtain⟨d0,d1,d2,d3,-⟩:=(kq _ _ _ (by omega) (hk _ _ _ (q0.out))).four;exact⟨.tuple #[.agg #[.bool false,.slice none 0 0,.bool false,.slice none 0 0],.int .i64 8],by simp[results,Tryz.results25,go_sem,r4,d0,d1,d2,d3],DistPost.fall a1 J.out (by first|decide|assumption|exact b6.out)⟩
 subst a7;have t1:((nv:Int) == (nv:Int))=true:=by simp
 obtain⟨b,hb⟩:=Gz (Zdi es);have c9:=Za (λW1 (hx:FXL W1 V nv cv es)=>Zk2 V nv cv es W1 hx b hb);replace hb:=Za hb;go_wp2_with fail;(try rw[a2]);(try rw[a9]);clear a9;replace a2:=Za a2;refine(c9.out V3 C.out).mono ?_;rintro e w8 ⟨rfl,I⟩;replace o:=Za (o.out.below I);replace u:=Za (u.out.below I);replace q0:=Za (Zc I q0.out);replace q1:=Za (Zc I q1.out);replace C:=Za (C.out.below I);replace q5:=Za (Zc I q5.out);have a6:=Za (a4.out.trans (I.mono a4.out.size));clear a4;clear I;cases b with
 | false =>
  have J:=Za (Zh6 (es:=es) h0.out (λhh=>by rw[hb.out]at hh;exact absurd hh.2 (by decide)));go_wp2_with fail;refine(Zad 8 w8).mono ?_;rintro e w6 ⟨rfl,rfl⟩;go_wp2_with fail;refine leaves_cons (f:=39) (args:=#[.pointer (some ⟨w.heap.size+1,0,none⟩)]) (by simp) (by simp[go_sem]) ?_;have e0:=(q1.out).cell 0;simp at e0;refine(Z5 ⟨w.heap.size+1,0,none⟩ 8 0 _ e0 ((q1.out).frozen 0)).mono ?_;rintro e u' w'' ⟨rfl,rfl,hw⟩;obtain⟨V,hV,a5,-,-,hk,sV⟩:=Zr 117 #[.int .i64 8] (a6.out) ((a6.out).size);obtain⟨U,hU,a1,q3,-,kq,-⟩:=Zy 8 a5 (Qt _) (hk _ _ _ (q1.out));rw[hV,hU]at hw;subst hw;have r4:=q3.cell 0;simp at r4;obtain⟨d0,d1,d2,d3,-⟩:=(kq _ _ _ (by omega) (hk _ _ _ (q0.out))).four;exact⟨.tuple #[.agg #[.bool false,.slice none 0 0,.bool false,.slice none 0 0],.int .i64 8],by simp[results,Tryz.results25,go_sem,r4,d0,d1,d2,d3],DistPost.fall a1 J.out (by first|decide|assumption|exact b6.out)⟩
 | true =>
  have J:=Za (Zq2 (es:=es) h0.out ⟨by rw[c3.out,Y.out],hb.out⟩);have d7:=Za (hS.out J.out);have a8:=Za (C.out.fl (Zsr hb.out));clear hS;clear C;go_wp2_with fail;refine(Za9 8 w8).mono ?_;rintro e w6 ⟨rfl,rfl⟩;have c6:=q5.out.cell 0;have b8:=q5.out.cell 1;simp at c6 b8;have e3:Hid (Zry (Zh (qM rs)) nv (λi:Nat=>(es.map FX.q)[i]?.getD 0)):=Za (by have h9:=d7.out;rw[Y.out]at h9;exact h9);go_wp2_with fail;clear c6 b8;refine(Zyw A1 A2 V nv c1 c2 cv (Zh (qM rs)) (es.map FX.q) w6 c8 o.out u.out a8.out hp.out e3.out).mono ?_;rintro e e8 ⟨T,dn,dA,dk,dc,dm,dB,dj,dd,rfl,df⟩;replace o:=Za (o.out.below T);replace u:=Za (u.out.below T);replace q0:=Za (Zc T q0.out);replace q1:=Za (Zc T q1.out);replace q5:=Za (Zc T q5.out);replace a8:=Za (a8.out.below T);have c7:=Za (a6.out.trans (T.mono a6.out.size));clear a6;clear T;replace df:=Za df;obtain⟨x0,x1,x2,x3,f0,f1,f2,f3⟩:=q0.out.four;obtain⟨W5,d9,d5,q5,kW,kB,s5⟩:=Zal dn dA dk dc dm dB dj dd c7.out (Qa _) q0.out;have b2:=kB _ _ _ (by omega) q1.out
  have b7:Hid (Fr W5 dn dA dk dc dm dB dj dd (Zoq rs es)):=Za (by
   have h9:Fr W5 dn dA dk dc dm dB dj dd (bil (Zh (qM rs)) nv (Zqi es) (Zqi es)):=⟨kW _ _ _ _ _ df.out.1,kW _ _ _ _ _ df.out.2⟩;unfold Zoq;rw[Y.out];exact h9)
  have e0:=b2.cell 0;have z0:=b2.frozen 0;simp at e0;obtain⟨U,hU,a1,q3,b3,c5,-⟩:=Zy 0 d5 (Qt _) b2;have r4:=q3.cell 0;simp at r4;obtain⟨y0,y1,y2,y3,-⟩:=(c5 _ _ _ (by omega) q5).four;have e4:Hid (Fr U dn dA dk dc dm dB dj dd (Zoq rs es)):=Za ⟨b3 _ _ _ _ _ b7.out.1,b3 _ _ _ _ _ b7.out.2⟩;clear kW kB s5 b3 c5 df b7 a8 o u;have e7:=Zuq dn dA dk dc dm dB dj dd;go_wp2_with fail;(try rw[d9]);(try rw[hU]);refine leaves_cons (f:=39) (args:=#[.pointer (some ⟨w.heap.size+1,0,none⟩)]) (by simp) (by simp[go_sem]) ?_;refine(Zc5 _ _).mono ?_;rintro e u' w'' ⟨rfl,rfl,rfl⟩;exact⟨.tuple #[.agg #[.bool dn,.slice dA dk dc,.bool dm,.slice dB dj dd],.int .i64 0],by simp[results,Tryz.results25,go_sem,r4,y0,y1,y2,y3],a1,.inl ⟨J.out,_,_,_,_,_,_,_,_,rfl,e4.out⟩⟩
def exR(A B:Option Addr):List RI:=[⟨A,2,2,[1,0]⟩,⟨B,2,2,[0,2]⟩]
def exW:List Int:=[1000000000000,1000000000000]
def exQ:List (List Rat):=[[1000000,0],[0,250000]]
section
variable{A B:Option Addr}
theorem Z0e:Zee (exR A B) exW 2 0 0=1000000000000/\Zee (exR A B) exW 2 0 1=0/\Zee (exR A B) exW 2 1 0=0/\Zee (exR A B) exW 2 1 1=4000000000000:=by
 have d1:Zb9 exW (Zce (exR A B) 0) (Zce (exR A B) 0) 2=1000000000000:=rfl;have d2:Zb9 exW (Zce (exR A B) 0) (Zce (exR A B) 1) 2=0:=rfl;have d3:Zb9 exW (Zce (exR A B) 1) (Zce (exR A B) 0) 2=0:=rfl;have d4:Zb9 exW (Zce (exR A B) 1) (Zce (exR A B) 1) 2=4000000000000:=rfl;unfold Zee;rw[d1,d2,d3,d4];exact⟨rfl,rfl,rfl,rfl⟩
theorem ex_n0:n0I (exR A B)=2:=rfl
theorem ex_long:(exR A B).any RI.long6=false:=rfl
theorem ex_sys:Zdx (exR A B) (Qk (min (exR A B).length 200) 0) exW=0:=by
 show Zdx (exR A B) [0,0] exW=0;rfl
theorem ex_det:Zau 2 (Zee (exR A B) exW 2)≠0:=by
 obtain⟨e1,e2,e3,e4⟩:=Z0e (A:=A) (B:=B)
 have e:Zau 2 (Zee (exR A B) exW 2)=Zau 2 (λi j=>if i=0 then (if j=0 then 1000000000000 else 0)else (if j=0 then 0 else 4000000000000)):=Za4 λi j hi hj=>by
  rcases(show i=0 \/ i=1 by omega)with rfl|rfl <;> rcases(show j=0 \/ j=1 by omega)with rfl|rfl;exact e1;exact e2;exact e3;exact e4
 rw[e];decide +kernel
theorem ex_of:ofE (exR A B) exW=0:=Zz8 ex_long ex_sys ex_det
theorem ex_mod{k:Nat}(hk:k<=300):ModI (exR A B) 2 0 k:=by
 refine⟨λj r _ _ hr=>?_,by omega,by omega,by omega,hk⟩;rcases j with _|_|j;cases hr;exact⟨.inl (show (2:Nat)<=4 from by decide),show (2:Nat)<=15 from by decide⟩;cases hr;exact⟨.inl (show (2:Nat)<=4 from by decide),show (2:Nat)<=15 from by decide⟩;cases hr
theorem ex_ofQ{X:Nat->Nat->Rat}(h:OfP (exR A B) exW 2 2 X):ofQ X 2=exQ:=by
 obtain⟨e1,e2,e3,e4⟩:=Z0e (A:=A) (B:=B);have o:=h.1 0 0 (by decide) (by decide);have f:=h.1 0 1 (by decide) (by decide);have y:=h.1 1 0 (by decide) (by decide);have u:=h.1 1 1 (by decide) (by decide);simp only[Zax,e1,e2,e3,e4]at o f y u
 have O:X 0 2*Zd6=1000000:=by
  have e:(1000000000000:Rat)*X 0 2=1:=by
   have h9:=o;simp at h9
   grind
  have e9:Zd6=1000000*1000000000000:=by decide +kernel
  rw[e9];grind
 have C:X 1 2*Zd6=0:=by
  have e:(4000000000000:Rat)*X 1 2=0:=by
   have h9:=f;simp at h9
   grind
  have e2:X 1 2=0:=by grind
  rw[e2];grind
 have I:X 0 3*Zd6=0:=by
  have e:(1000000000000:Rat)*X 0 3=0:=by
   have h9:=y;simp at h9
   grind
  have e2:X 0 3=0:=by grind
  rw[e2];grind
 have J:X 1 3*Zd6=250000:=by
  have e:(4000000000000:Rat)*X 1 3=1:=by
   have h9:=u;simp at h9
   grind
  have e9:Zd6=250000*4000000000000:=by decide +kernel
  rw[e9];grind
 show [[X 0 2*Zd6,X 0 3*Zd6],[X 1 2*Zd6,X 1 3*Zd6]]=exQ;rw[O,I,C,J];rfl
end
theorem Zqo{rs:List RX}(h:Zew rs=Ze1 exQ):Zne 1 rs:=λr hr e he=>by
 have h1:Zli r ∈ Ze1 exQ:=by rw[<- h];exact Qh hr
 have h2:Zkt e ∈ (Zli r).2:=Qh he;have h3:∀ x ∈ Ze1 exQ,∀ y ∈ x.2,y.1<=1:=by decide +kernel
 exact .inl (h3 _ h1 _ h2)
theorem Zqc{rs:List RX}(h:Zew rs=Ze1 exQ):Zaf rs=0:=by
 have hq:=Zu7 h
 have hl:rs.length=2:=by
  have h9:=congrArg List.length h;simpa [Zew,Ze1,exQ]using h9
 unfold Zaf;rw[Zqu,Zri,h,hq,hl];decide +kernel
theorem ex_ent:Zh exQ 0 0=1000000/\Zh exQ 0 1=0/\Zh exQ 1 1=250000:=⟨rfl,rfl,rfl⟩
theorem Zvd:axR 1000000 0 250000=750000:=by
 unfold axR
 exact Zit (by
  have e:(axS 1000000 0 250000).natAbs=562500000000:=by decide +kernel
  rw[e];exact⟨by decide,by decide⟩)
theorem ex_axes:axLong 1000000 0 250000=1000000/\axShort 1000000 0 250000=250000:=by
 have e1:axN 1000000 0 250000=1250000:=by decide +kernel
 have e2:axM 1000000 0 250000=1:=by decide +kernel
 have e3:axS 1000000 0 250000=562500000000:=by decide +kernel
 have e4:axUp 1000000 0 250000=750000:=by
  unfold axUp;rw[Zvd,e3];decide
 unfold axLong axShort;rw[Zvd,e1,e2,e4];decide
theorem ex_bil{x:Nat->Rat}(h0:x 0=1000)(h1:x 1=500):bil (Zh exQ) 2 x x=2:=by
 have e:bil (Zh exQ) 2 x x=bil (Zh exQ) 2 (λi=>if i=0 then 1000 else 500) (λi=>if i=0 then 1000 else 500):=by
  have hc:∀ i,i<2->x i=(λi=>if i=0 then (1000:Rat)else 500) i:=λi hi=>by
   rcases(show i=0 \/ i=1 by omega)with rfl|rfl;exact h0;exact h1
  rw[Zow hc,Zyz,Zow hc]
 rw[e];decide +kernel
theorem LimI.lit7{w:World}{g:Nat}{t:TypeId}{l:List Int}{cs:Array Value}(h:Blk w g t cs)(hc:cs=(l.map (λx=>Value.int .i64 x)).toArray)(hl:∀ x ∈ l,I64 x)(hn:l.length<=1000):LimI w (some ⟨g,0,none⟩) l.length l.length l:=by
 subst hc;refine⟨rfl,Qa _,by unfold maxLen;omega,hl,λ_=>⟨g,0,rfl,λk hk=>?_⟩⟩;rw[Nat.zero_add,h.cell];simp[Qj hk]
theorem MFL.two7{w:World}{g:Nat}{t:TypeId}{A B:Option Addr}{n c m d:Nat}{p q:List Rat}(h:Blk w g t #[.slice A n c,.slice B m d])(hp:FL w A n c p)(hq:FL w B m d q):MFL w (some ⟨g,0,none⟩) 2 2 [p,q]:=by
 refine⟨rfl,Qa _,by unfold maxLen;omega,λ_=>⟨g,0,rfl,λk r hr=>?_⟩⟩
 match k,hr with
 | 0,hr=>cases hr;exact⟨A,n,c,h.cell 0,hp⟩
 | 1,hr=>cases hr;exact⟨B,m,d,h.cell 1,hq⟩
 | k+2,hr=>simp at hr
theorem MIL.two7{w:World}{g:Nat}{t:TypeId}{a b:RI}(h:Blk w g t #[.slice a.A a.n a.c,.slice b.A b.n b.c])(ha:LimI w a.A a.n a.c a.l)(hb:LimI w b.A b.n b.c b.l):MIL w (some ⟨g,0,none⟩) 2 2 [a,b]:=by
 refine⟨rfl,Qa _,by unfold maxLen;omega,λr hr=>?_,λ_=>⟨g,0,rfl,λk r hr=>?_⟩⟩
 ·simp only[List.mem_cons,List.not_mem_nil,or_false]at hr
  rcases hr with rfl|rfl;exact ha;exact hb
 ·match k,hr with
  | 0,hr=>cases hr;exact h.cell 0
  | 1,hr=>cases hr;exact h.cell 1
  | k+2,hr=>simp at hr
theorem Zbq(w:World):Calls Tryz.prog 37 #[] w λe w'=>∃ A,e=.returned (.slice A 2 2)/\Below w.heap.size w w'/\MFL w' A 2 2 exQ:=by
 have a4:∀ l:List Int,(∀ x ∈ l,x.natAbs<=1000000)->∀ x ∈ l,I64 x:=λl h x hx=>by have:=h x hx;unfold I64;omega
 obtain⟨g1,T⟩:=Gz w.heap.size;obtain⟨V1,a2,qa,C⟩:=Zq (w:=w) 2 #[.int .i64 1000000,.int .i64 0];have o:=LimI.lit7 (l:=[1000000,0]) qa rfl (a4 _ (by decide)) (by decide);rw[T]at o;go_enter Tryz.func37,Tryz.ntmps37;go_wp2_with fail;(try rw[T]);(try rw[a2]);clear a2 qa;replace T:=Za T;refine(Zcd (some ⟨g1,0,none⟩) 2 2 [1000000,0] V1 o (by decide)).mono ?_;rintro e w2 ⟨v2,rfl,a3,a0⟩;have V:=C.trans (a3.mono C.size);obtain⟨A2,c2,rfl,f⟩:=a0.fl;replace f:FL w2 A2 2 c2 [1000000,0]:=f;replace f:=Za f;clear a0 o a3 C;obtain⟨g2,O⟩:=Gz w2.heap.size;obtain⟨V2,a1,qa,I⟩:=Zq (w:=w2) 2 #[.int .i64 0,.int .i64 250000];have o:=LimI.lit7 (l:=[0,250000]) qa rfl (a4 _ (by decide)) (by decide);rw[O]at o;simp only[QF,QI,QL,QN];go_wp2_with fail;(try rw[O]);(try rw[a1]);clear a1 qa;replace O:=Za O;refine(Zcd (some ⟨g2,0,none⟩) 2 2 [0,250000] V2 o (by decide)).mono ?_;rintro e w3 ⟨v3,rfl,a5,Y⟩;have J:=I.trans (a5.mono I.size);have U:=V.trans (J.mono V.size);obtain⟨A3,c3,rfl,y⟩:=Y.fl;replace y:FL w3 A3 2 c3 [0,250000]:=y;replace f:=Za (f.out.below J);replace y:=Za y;clear Y o a5 I J V;obtain⟨g4,a6⟩:=Gz w3.heap.size;obtain⟨V4,a9,qa,u⟩:=Zq (w:=w3) 35 #[.slice A2 2 c2,.slice A3 2 c3];rw[a6]at qa
 have a8:=Za (MFL.two7 qa (f.out.below u) (y.out.below u));have a7:=Za (U.trans (u.mono U.size));clear f y U u qa;simp only[QF,QI,QL,QN];go_wp2_with fail;(try rw[a6]);(try rw[a9]);go_ret;exact⟨_,rfl,a7.out,a8.out⟩
section
variable{k n m:Nat}{R:List (List Rat)}
end
section
variable{k n m:Nat}{R:List (List Rat)}
end
def LeN(k:Nat)(q:Rat):Prop:=q.num.natAbs<=pw k/\q.den<=pw k
def Zml(A:Nat->Nat->Rat)(x:Nat->Rat)(n:Nat):List (List Rat):=(List.range (n+1)).map λi=>(List.range (n+1)).map λk=>brd A x n i k
section
variable{A:Nat->Nat->Rat}{x:Nat->Rat}{n k:Nat}
theorem Zro:(Zml A x n).length=n+1:=by simp[Zml]
theorem Zse{i:Nat}(hi:i<n+1):((Zml A x n)[i]?.getD []).length=n+1:=by
 unfold Zml;rw[Ql,Qr hi];simp
theorem Zvo{i j:Nat}(hi:i<n+1)(hj:j<n+1):Zh (Zml A x n) i j=brd A x n i j:=by
 unfold Zh Zml;rw[Ql,Qr hi,Option.map_some,QK,Ql,Qr hj];rfl
theorem brdR_sm(hA:∀ i j,i<n->j<n->LeN k (A i j))(hx:∀ i,i<n->LeN k (x i)):SmE k (Zml A x n):=λi j=>by
 have h0:LeN k 0:=⟨Qv _,Zb2 _⟩;by_cases hi:i<n+1
 ·by_cases hj:j<n+1
  ·rw[Zvo hi hj]
   unfold brd;by_cases h1:i<n
   ·rw[Gx h1]
    by_cases h2:j<n;rw[Gx h2];exact hA i j h1 h2;rw[Gw h2];exact hx i h1
   ·rw[Gw h1]
    by_cases h2:j<n;rw[Gx h2];exact hx j h2;rw[Gw h2];exact h0
  ·unfold Zh
   rw[Qp (by rw[Zse hi];omega)];exact h0
 ·unfold Zh
  rw[Qp (l:=Zml A x n) (by rw[Zro];omega)];exact h0
theorem Zl6{t i j:Nat}(ht:t<=n+1)(hi:i<n+1)(hj:j<n+1):Z6 (Zh (Zml A x n)) t i j=Z6 (brd A x n) t i j:=
 Zc8 (n:=n+1) (m:=n+1) (λ_ _ hi hk=>Zvo hi hk) (Qa _) t i j ht hi hj
theorem Z01(hp:posP A n){t:Nat}(ht:t<=n):posP (Zh (Zml A x n)) t:=λs hs=>by
 have e:dQ (Zh (Zml A x n)) s=dQ (brd A x n) s:=Zl6 (by omega) (by omega) (by omega);rw[e,brd_d x (by omega)];exact hp s (by omega)
theorem Zzf(hn:n<=6)(hA:∀ i j,i<n->j<n->LeN 7 (A i j))(hx:∀ i,i<n->LeN 7 (x i))(hp:posP A n){t i:Nat}(ht:t<=n)(hi:i<n+1):SmN 400 449 (Z6 (brd A x n) t i n):=by
 have h:=(brdR_sm hA hx).red2 Zro (by omega) (λi hi=>Zse hi) (t:=t) (by omega) (by omega) (Z01 hp ht) hi n;rw[Zl6 (by omega) hi (by omega)]at h;have h1:(7*(n+1)+7+1)*(n+1)<=399:=Qi (QB (show 7*(n+1)+7+1<=57 by omega) (show n+1<=7 by omega)) (by decide);exact h.mono (by omega) (by omega)
theorem Ztz(hn:n<=6)(hF:FacP A n)(hA:∀ i j,i<n->j<n->LeN 7 (A i j))(hx:∀ i,i<n->LeN 7 (x i))(hp:posP A n):Zry A n x:=by
 have hs:=λt i ht hi=>Zzf (t:=t) (i:=i) hn hA hx hp ht hi
 have f:∀ t,t<=n->Zax t (λs=>zV A n x s*zV A n x s/dQ A s)=- Z6 (brd A x n) t n n:=λt ht=>by
  have h:=Zvy hF.sym x t ht;rw[h];rw[Zan (g:=λs=>Z6 (brd A x n) s s n*Z6 (brd A x n) s s n/dQ (brd A x n) s) (λs hs=>by rw[brd_d x (by omega)];rfl)]
  grind
 have o:∀ t,t<=n->SmN 400 449 (- Z6 (brd A x n) t n n):=λt ht=>by
  have h:=hs t n ht (by omega);exact⟨by rw[Rat.neg_num,Int.natAbs_neg];exact h.1,by rw[Rat.neg_den];exact h.2⟩
 refine⟨λt i hti hi=>(hs t i (by omega) (by omega)).sm (by decide) (by decide),λi t hti hi=>(hF.l i t (by omega) hi (hp.mono (by omega))).sm (by decide) (by decide),λi t hti hi=>?_,λi hi=>((hs i i (by omega) (by omega)).mulN (hs i i (by omega) (by omega))).sm (by decide) (by decide),λi hi=>(hF.d hi (hp.mono (by omega))).sm (by decide) (by decide),λi hi=>?_,λi hi=>?_⟩
 ·have h:=Zom (A:=A) (x:=x) hti hi
  have e:lQ A i t*Z6 (brd A x n) t t n=Z6 (brd A x n) t i n-Z6 (brd A x n) (t+1) i n:=by
   rw[h];show lQ A i t*zV A n x t=_
   grind
  rw[e];exact((hs t i (by omega) (by omega)).sub (hs (t+1) i (by omega) (by omega))).sm (by decide) (by decide)
 ·have h1:=f i (by omega)
  have h2:=f (i+1) (by omega);have h3:Zax (i+1) (λs=>zV A n x s*zV A n x s/dQ A s)=Zax i (λs=>zV A n x s*zV A n x s/dQ A s)+zV A n x i*zV A n x i/dQ A i:=rfl
  have e:zV A n x i*zV A n x i/dQ A i=- Z6 (brd A x n) (i+1) n n - - Z6 (brd A x n) i n n:=by
   rw[<- h1,<- h2,h3];grind
  rw[e];exact((o (i+1) (by omega)).sub (o i (by omega))).sm (by decide) (by decide)
 ·rw[f i hi]
  exact(o i hi).sm (by decide) (by decide)
end
section
variable{R:List (List Rat)}{n k:Nat}
end
section
variable{Q:List (List Rat)}{xs:List Rat}{n:Nat}
theorem LeN.mono{i j:Nat}{q:Rat}(h:LeN i q)(hij:i<=j):LeN j q:=⟨Qi h.1 (Zb4 hij),Qi h.2 (Zb4 hij)⟩
end
theorem Z02{A V:Option Addr}{n c nv cv:Nat}{rs:List RX}{es:List FX}{w:World}(h:MXL w A n c rs)(hv:FXL w V nv cv es)(hf:Zne 4 rs)(hn4:n<=4)(hx:∀ e ∈ es,e.few<=4 \/ 64<e.few)(h0:Zhw rs es=0):Zry (Zh (qM rs)) rs.length (Zqi es):=by
 have hE:Zaf rs=0:=by
  by_cases e:Zaf rs=0;exact e;rw[Zoz rfl e]at h0;exact absurd h0 e
 have hb:es.length=rs.length/\Zdi es=true:=by
  by_cases e:es.length=rs.length/\Zdi es=true;exact e;rw[Zh6 hE e]at h0;exact absurd h0 (by decide)
 obtain⟨u,O,C⟩:=Zgh hE;have I:rs.length=n:=h.1;have T:0<n:=by rw[<- I];exact u.facts.1
 have J:=u.small h hf;have hF:=u.fac h O hf (k:=4) (by rcases(show n=1 \/ n=2 \/ n=3 \/ n=4 by omega)with rfl|rfl|rfl|rfl <;> decide);rw[I]at C ⊢;refine Ztz (by omega) hF (λi j _ _=>LeN.mono (J i j) (by decide)) (λi _=>?_) C;unfold Zqi;rw[Ql];cases e:es[i]? with
 | none=>exact⟨Qv _,Zb2 _⟩
 | some f =>
  have o:=QE e;have y:f.fine64=true:=List.all_eq_true.1 hb.2 f o;unfold FX.fine64 at y;rw[Qy,decide_eq_true_eq]at y
  have h4:f.few<=4:=by
   rcases hx f o with h|h;exact h;omega
  exact LeN.mono (Zq8 (hv.2.2.2.1 f o) y.2 h4) (by decide)
theorem Zqn{A:Option Addr}{n c:Nat}{rs:List RX}{w:World}(h:MXL w A n c rs)(hf:Zne 4 rs)(h0:Zaf rs=0):∀ a b,SmN 5 5 (Zh (qM rs) a b):=λa b=>by
 have h4:=(Zgh h0).1.small h hf a b;exact⟨Qe h4.1 (Zc4 (by decide)),Qe h4.2 (Zc4 (by decide))⟩
def covG(l:List (Nat × List (Nat × Bool × Rat))):Int:=if (decide (6<l.length) || l.any λx=>decide (6<x.1))=true then 4 else if l.length=0 then 8 else if (l.all λx=>decide (x.1=l.length) && x.2.all λy=>decide (y.1<=64) && y.2.1)=true then (if (Zii (l.map λx=>x.2.map λy=>y.2.2) && Zrk (Zh (l.map λx=>x.2.map λy=>y.2.2)) l.length)=true then 0 else 8)else 8
theorem Ztu{rs:List RX}{l:List (Nat × List (Nat × Bool × Rat))}(h:Zew rs=l):Zaf rs=covG l:=by
 have hl:rs.length=l.length:=by rw[<- h];unfold Zew;rw[List.length_map]
 unfold Zaf covG;rw[Zqu,Zri,Z03,h,hl]
theorem Zw7{rs:List RX}{Q:List (List Rat)}{k:Nat}(h:Zew rs=Ze1 Q)(hq:∀ x ∈ Ze1 Q,∀ y ∈ x.2,y.1<=k):Zne k rs:=λr hr e he=>by
 have h1:Zli r ∈ Ze1 Q:=by rw[<- h];exact Qh hr
 have h2:Zkt e ∈ (Zli r).2:=Qh he;exact .inl (hq _ h1 _ h2)
theorem Zbz{w:World}{A:Option Addr}{n c:Nat}{Q:List (List Rat)}(h:MFL w A n c Q)(hq:∀ x ∈ Ze1 Q,∀ y ∈ x.2,y.1<=4)(hn:n<=2):∃ rs,MXL w A n c rs/\qM rs=Q/\rs.length=n/\Zaf rs=covG (Ze1 Q)/\FacC rs/\Zne 4 rs:=by
 obtain⟨rs,hX,h2,h3⟩:=h.mxs;have hf:=Zw7 h3 hq;exact⟨rs,hX,h2,hX.1,Ztu h3,FacC.of hX hf (λ_=>by rcases(show n=0 \/ n=1 \/ n=2 by omega)with rfl|rfl|rfl <;> decide),hf⟩
theorem MFL.one1{w:World}{g:Nat}{t:TypeId}{A:Option Addr}{n c:Nat}{p:List Rat}(h:Blk w g t #[.slice A n c])(hp:FL w A n c p):MFL w (some ⟨g,0,none⟩) 1 1 [p]:=by
 refine⟨rfl,Qa _,by unfold maxLen;omega,λ_=>⟨g,0,rfl,λk r hr=>?_⟩⟩;cases k with
 | zero=>cases hr;exact⟨A,n,c,h.cell 0,hp⟩
 | succ k=>cases hr
theorem MIL.one1{w:World}{g:Nat}{t:TypeId}{A:Option Addr}{n c:Nat}{l:List Int}(h:Blk w g t #[.slice A n c])(ha:LimI w A n c l):MIL w (some ⟨g,0,none⟩) 1 1 [⟨A,n,c,l⟩]:=by
 refine⟨rfl,Qa _,by unfold maxLen;omega,λr hr=>?_,λ_=>⟨g,0,rfl,λk r hk=>?_⟩⟩;rw[QH]at hr;subst hr;exact ha
 ·cases k with
  | zero=>cases hk;exact h.cell 0
  | succ k=>cases hk
theorem MXL.nilN(w:World):MXL w none 0 0 []:=⟨rfl,Qa _,Qv _,λr hr=>(by cases hr),λh=>absurd h (QG _)⟩
theorem MIL.nilN(w:World):MIL w none 0 0 []:=⟨rfl,Qa _,Qv _,λr hr=>(by cases hr),λh=>absurd h (QG _)⟩
theorem Zwo:FacC []:=λh=>absurd rfl h.2.1
theorem Zwx:Zaf []=8:=rfl
def Zng:List RX:=Qk 7 ⟨none,0,0,[]⟩
theorem MXL.sevenN{w:World}{g:Nat}{t:TypeId}(h:Blk w g t (Z0 (Qk 7 Zay))):MXL w (some ⟨g,0,none⟩) 7 7 Zng:=by
 refine⟨rfl,Qa _,by unfold maxLen;omega,λr hr=>?_,λ_=>⟨g,0,rfl,λk r hk=>?_⟩⟩
 ·rw[Qz hr]
  exact⟨rfl,Qa _,Qv _,λe he=>(by cases he),λh=>absurd h (QG _)⟩
 ·have o:r=⟨none,0,0,[]⟩:=Qz (QE hk)
  have f:=(List.getElem?_eq_some_iff.1 hk).1;have u:k<7:=by simpa [Zng]using f
  rw[o,Nat.zero_add,h.cell];exact Zbs (e:=Zay) (by rw[List.getElem?_replicate,Gx u])
theorem Zzd:Zaf Zng=4:=rfl
theorem Zup:FacC Zng:=λh=>absurd h.1 (by decide)
section
variable{A B:Option Addr}
theorem Zqq:ofE [⟨A,2,2,[1,1]⟩] [1]=22:=by
 have d:∀ i j:Nat,i<2->j<2->Zee [⟨A,2,2,[1,1]⟩] [1] 1 i j=1:=λi j hi hj=>by
  rcases(show i=0 \/ i=1 by omega)with rfl|rfl <;> rcases(show j=0 \/ j=1 by omega)with rfl|rfl <;> rfl
 have e:Zau 2 (Zee [⟨A,2,2,[1,1]⟩] [1] 1)=0:=by
  rw[Za4 (N:=λ_ _=>1) (λi j hi hj=>d i j hi hj)];decide +kernel
 exact Zpy rfl (by show Zdx [⟨A,2,2,[1,1]⟩] [0] [1]=0;rfl) e
theorem Zpx:ofE [⟨A,7,7,Qk 7 0⟩] [1]=4:=Zmj rfl
theorem Zyr:ofE [] []=8:=by
 refine Zpp rfl (E:=8) ?_ (by decide);rfl
theorem mod_one{A:Option Addr}{n c:Nat}{l:List Int}(hn:n<=4){k:Nat}(hk:k<=300):ModI [⟨A,n,c,l⟩] 1 0 k:=by
 refine⟨λj r _ _ hr=>?_,by omega,by omega,by omega,hk⟩;rcases j with _|j;cases hr;exact⟨.inl hn,show n<=15 by omega⟩;cases hr
theorem mod_nil:ModI [] 0 0 0:=⟨λj r hj _ _=>absurd hj (Nat.not_lt_zero _),by omega,by omega,by omega,by omega⟩
end
section
variable{rs:List RX}
theorem Zjk(h:Zaf rs=0)(hl:rs.length=2):Zfl rs [0,0]=8/\Zfl rs []=8/\Zfl rs [1]=0:=
 ⟨Zd5 h (by rw[hl];decide),Zd5 h (by rw[hl];decide),Zsq h (by rw[hl];decide)⟩
theorem Zkl(h:Zaf rs=0)(hl:rs.length=2):Zft rs [[1]]=8/\Zft rs [[1,1],[1,1]]=0/\Zft rs [[1,1]]=0:=by
 unfold Zft;rw[Gx h,Gx h,Gx h,hl];decide
theorem Zi4(hq:qM rs=exQ)(hl:rs.length=2):Zgg (Zh (qM rs)) rs.length [[1,1],[1,1]]=[[1250000,1250000],[1250000,1250000]]/\Zgg (Zh (qM rs)) rs.length [[1,1]]=[[1250000]]:=by
 rw[hq,hl];decide +kernel
theorem Zof(h:Zaf rs=0)(hl:rs.length=2):Zr8 rs 0 2=8/\Zr8 rs 0 1=0:=
 ⟨Zm1 h (by rw[hl];decide),Zu0 h (by rw[hl];decide)⟩
theorem Zua(hq:qM rs=[[2,1],[1,2]]):corV rs 0 1=QM 1 4:=by
 unfold corV;rw[hq];decide +kernel
end
