/- Package frac: the closure of Mul. Package frac: the -/
import Derived.Maps.AppendAt
import Derived.Test.YthappeninglakaaGreatZe06
set_option maxRecDepth 100000
set_option maxHeartbeats 2000000
set_option linter.unusedSimpArgs false
set_option linter.unusedVariables false
namespace Go.Proofs.YthappeninglakaaGreat
open Go.RowKit
open Act renaming put→Qa
open List renaming getElem?_eq_getElem→Qb,getElem?_map→Qd,getElem?_eq_none→Qg,replicate→Qh,length_append→Qi,eq_nil_of_length_eq_zero→Qo,getElem?_range→Qp,length_map→Qq,range→Qs,getElem?_append_left→Qt,getElem?_replicate→Qw,getElem_mem→Qx,nil_append→Qz,take_left→QM,getElem?_toArray→QN,mem_of_getElem?→QO,ext_getElem?→QT,append_assoc→QU,getElem?_set→QV,length_cons→QY,append_nil→Yc,length_nil→Yd,map_append→Ye
open Nat renaming le_refl→Qc,le_trans→Qe,add_sub_cancel'→Qj,mul_le_mul→Qr,zero_add→QA,gcd→QD,lt_of_lt_of_le→QE,gcd_dvd_right→QG,le_add_right→QH,lt_succ_self→QI,gcd_pos_of_pos_left→QK,lt_irrefl→QP,eq_zero_or_pos→QQ,lt_or_gt_of_ne→QR,zero_le→QX,div_le_self→Yf
open And renaming intro→Qf
open Option renaming getD_some→Qk,map_some→Qn,getD_none→QJ,map_none→QL
open Builtin renaming zeroCells→Ql,append_→Yb
open Rat renaming num_divInt_den→Qm,intCast_mul→Qu,divInt→Qv,intCast_natCast→QC,divInt_eq_div→QW
open World renaming cell?_of_block→Qy
open _root_.Array renaming toList_append→QB
open Int renaming natAbs_natCast→QF
open Ne renaming symm→QS
open Bool renaming and_eq_true→QZ
open Below renaming refl→Ya
attribute [local go_sem] Zg
theorem ResP.code0{w:World}{z:Int}{neg:Bool}{A:Option Addr}{n c:Nat}{code:Int}(h:ResP w z neg A n c code)(hs:z.natAbs<pw 4096):code=0:=by
 rcases h with ⟨_,h,_⟩|⟨h,_⟩;exact h;omega
def Zpb(w:World)(x y:Int)(e:Ending)(w':World):Prop:=
 Below w.heap.size w w'/\∃ na A n c nb B m d,e=.returned (.tuple #[.agg #[.bool na,.slice A n c],.agg #[.bool nb,.slice B m d]])/\Wd w' na A n c x/\Wd w' nb B m d y
theorem Mul1_ok(na nb na' nb':Bool)(A B A' B':Option Addr)(n c m d n' c' m' d':Nat)(a b:Rat)(w:World)(ha:Fr w na A n c nb B m d a)(hb:Fr w na' A' n' c' nb' B' m' d' b)
    (hs:(a.num*b.num).natAbs<pw 4096) (ht:((a.den:Int)*(b.den:Nat)).natAbs<pw 4096) :
    Calls Tryz.prog 131 #[.agg #[.bool na,.slice A n c,.bool nb,.slice B m d],.agg #[.bool na',.slice A' n' c',.bool nb',.slice B' m' d']] w (Zpb w (a.num*b.num) ((a.den:Int)*(b.den:Nat))):=by
 obtain⟨W0,J,I,⟨q0,q1,q2,q3⟩,s0⟩:=Zfs w 41 #[.bool na,.slice A n c,.bool nb,.slice B m d] 41 #[.bool na',.slice A' n' c',.bool nb',.slice B' m' d'] 39 #[.bool false,.slice none 0 0] 39 #[.bool false,.slice none 0 0];have hmx:=Gt;have hA:=Zb (ha.below I);have hD:=Zb (hb.below I);replace hs:=Zb hs;replace ht:=Zb ht;have sz:=Zb I.size;have hB:=Zb I;clear ha hb I s0;replace q0:=Zb q0;replace q1:=Zb q1;replace q2:=Zb q2;replace q3:=Zb q3;obtain⟨a0,a1,a2,a3,-⟩:=q0.out.four;obtain⟨b0,b1,b2,b3,-⟩:=q1.out.four;replace J:=Zb J;go_in;go_wp2_with fail;rw[J.out];clear J;refine Zy [17] (λW'=>W'.cell? ⟨w.heap.size,0,none⟩=some (.bool na)/\W'.cell? ⟨w.heap.size,1,none⟩=some (.slice A n c)/\W'.cell? ⟨w.heap.size,2,none⟩=some (.bool nb)/\W'.cell? ⟨w.heap.size,3,none⟩=some (.slice B m d)/\W'.cell? ⟨w.heap.size+1,0,none⟩=some (.bool na')/\W'.cell? ⟨w.heap.size+1,1,none⟩=some (.slice A' n' c')/\W'.cell? ⟨w.heap.size+1,2,none⟩=some (.bool nb')/\W'.cell? ⟨w.heap.size+1,3,none⟩=some (.slice B' m' d')) hmx ⟨a0,a1,a2,a3,b0,b1,b2,b3⟩ (λ_=>?_);refine Zj9 8 [0,1,2,3,8,9,10,11] rfl Gi ⟨a0,a1,a2,a3,b0,b1,b2,b3⟩ ?_
 iterate 8 (refine tkA ?_;try simp only[Qa,Zhb,Zgo,Zg6,Gr,Gq,Gp])
 refine tk0 ?_;refine wpAnyL_o 4 λK hK=>?_;go_simp;refine(Zjd na na' A A' n c n' c' a.num b.num W0.drew hA.out.1 hD.out.1).mono ?_;rintro e w1 ⟨h,np,P,k,q,code,rfl,hR⟩;replace h:=Zu h;have hP:=Zb (hR.small hs.out);have C:=hR.code0 hs.out;subst C;clear hs hR;replace q0:=Gm h q0;replace q1:=Gm h q1;replace q2:=Gm h q2;replace q3:=Gm h q3;replace hA:=Zb (hA.out.below h);replace hD:=Zb (hD.out.below h);replace hB:=Zb (hB.out.trans (h.mono sz.out));replace sz:=Zb (Qe sz.out h.size);clear a0 a1 a2 a3 b0 b1 b2 b3;obtain⟨a0,a1,a2,a3,-⟩:=q0.out.four;obtain⟨b0,b1,b2,b3,-⟩:=q1.out.four;clear h;refine hK.out _ _ (λ_=>⟨a0,a1,a2,a3,b0,b1,b2,b3⟩) ?_;clear hK K
 try simp only[Qa,Zhb,Zgo,Zg6]
 refine Zj9 2 [5,6] rfl Gi ⟨a0,a1,a2,a3,b0,b1,b2,b3⟩ ?_
 iterate 2 (refine tkA ?_;try simp only[Qa,Zhb,Zgo,Zg6,Gr,Gq,Gp])
 refine tk0 ?_;refine wpAnyL_o 7 λK hK=>?_;go_simp;refine(Zd0 np P k q w1).mono ?_;rintro e w2 ⟨rfl,o⟩;replace hP:=Zb (hP.out.below o);replace q0:=Gm o q0;replace q1:=Gm o q1;replace q2:=Gm o q2;replace q3:=Gm o q3;replace hA:=Zb (hA.out.below o);replace hD:=Zb (hD.out.below o);replace hB:=Zb (hB.out.trans (o.mono sz.out));replace sz:=Zb (Qe sz.out o.size);clear a0 a1 a2 a3 b0 b1 b2 b3;obtain⟨a0,a1,a2,a3,-⟩:=q0.out.four;obtain⟨b0,b1,b2,b3,-⟩:=q1.out.four;clear o;refine hK.out _ _ (λ_=>⟨a0,a1,a2,a3,b0,b1,b2,b3⟩) ?_;clear hK K
 try simp only[Qa,Zhb,Zgo,Zg6]
 refine wpAnyL_o 12 λK hK=>?_;go_simp;refine(Zjd nb nb' B B' m d m' d' a.den b.den w2 hA.out.2 hD.out.2).mono ?_;rintro e w3 ⟨u,O,P',k',q',code,rfl,hR⟩;replace hP:=Zb (hP.out.below u);have y:=Zb (hR.small ht.out);have C:=hR.code0 ht.out;subst C;clear ht hR;replace q0:=Gm u q0;replace q1:=Gm u q1;replace q2:=Gm u q2;replace q3:=Gm u q3;replace hA:=Zb (hA.out.below u);replace hD:=Zb (hD.out.below u);replace hB:=Zb (hB.out.trans (u.mono sz.out));replace sz:=Zb (Qe sz.out u.size);clear a0 a1 a2 a3 b0 b1 b2 b3;obtain⟨a0,a1,a2,a3,-⟩:=q0.out.four;obtain⟨b0,b1,b2,b3,-⟩:=q1.out.four;clear u;refine hK.out _ _ (λ_=>⟨a0,a1,a2,a3,b0,b1,b2,b3⟩) ?_;clear hK K
 try simp only[Qa,Zhb,Zgo,Zg6]
 refine Zj9 2 [13,14] rfl Gi ⟨a0,a1,a2,a3,b0,b1,b2,b3⟩ ?_
 iterate 2 (refine tkA ?_;try simp only[Qa,Zhb,Zgo,Zg6,Gr,Gq,Gp])
 refine tk0 ?_;refine wpAnyL_o 15 λK hK=>?_;go_simp;refine(Zd0 O P' k' q' w3).mono ?_;rintro e w4 ⟨rfl,f⟩;replace hP:=Zb (hP.out.below f);replace y:=Zb (y.out.below f);replace q0:=Gm f q0;replace q1:=Gm f q1;replace q2:=Gm f q2;replace q3:=Gm f q3;replace hA:=Zb (hA.out.below f);replace hD:=Zb (hD.out.below f);replace hB:=Zb (hB.out.trans (f.mono sz.out));replace sz:=Zb (Qe sz.out f.size);clear a0 a1 a2 a3 b0 b1 b2 b3;obtain⟨a0,a1,a2,a3,-⟩:=q0.out.four;obtain⟨b0,b1,b2,b3,-⟩:=q1.out.four;clear f;obtain⟨x0,x1,f0,f1⟩:=q2.out.two;refine hK.out _ _ (λ_=>⟨a0,a1,a2,a3,b0,b1,b2,b3⟩) ?_;clear hK K
 try simp only[Qa,Zhb,Zgo,Zg6]
 refine wpAnyL_o 16 λK hK=>?_;go_simp;obtain⟨W5,V,Y,T,kW,kB,s5⟩:=Zau np P k q hB.out Gk q2.out;rw[V];clear V x0 x1 f0 f1 a0 a1 a2 a3 b0 b1 b2 b3 hA hD;replace q0:=kB _ _ _ Gk q0.out;replace q1:=kB _ _ _ Gk q1.out;obtain⟨a0,a1,a2,a3,-⟩:=q0.four;obtain⟨b0,b1,b2,b3,-⟩:=q1.four;replace q3:=Zb (kB _ _ _ Gk q3.out);replace hP:=Zb (kW _ _ _ _ _ hP.out);replace y:=Zb (kW _ _ _ _ _ y.out);clear kW kB q2 hB q0 q1;obtain⟨y0,y1,g0,g1⟩:=q3.out.two;refine hK.out _ _ (λ_=>⟨a0,a1,a2,a3,b0,b1,b2,b3⟩) ?_;clear hK K
 try simp only[Qa,Zhb,Zgo,Zg6]
 refine Zv (i:=17) rfl Gi Gi (λK hK=>?_);go_simp;obtain⟨W6,U,a5,a4,kW,kB,s6⟩:=Zau O P' k' q' Y Gk q3.out;rw[U];clear U y0 y1 g0 g1 a0 a1 a2 a3 b0 b1 b2 b3;replace T:=kB _ _ _ Gk T;replace hP:=Zb (kW _ _ _ _ _ hP.out);replace y:=Zb (kW _ _ _ _ _ y.out);clear kW kB q3 Y;refine hK.out _ _ ?_;clear hK K
 try simp only[Qa,Zhb,Zgo,Zg6]
 refine wpAnyL_fin ?_;obtain⟨r0,r1,-⟩:=T.two;obtain⟨r2,r3,-⟩:=a4.two;go_wp2_with fail;refine bodyPost_ret (v:=.tuple #[.agg #[.bool np,.slice P k q],.agg #[.bool O,.slice P' k' q']]) (by simp[results,Tryz.results131,go_sem,r0,r1,r2,r3]) rfl ?_;exact⟨a5,_,_,_,_,_,_,_,_,rfl,hP.out,y.out⟩
theorem Sub1_ok(na nb na' nb':Bool)(A B A' B':Option Addr)(n c m d n' c' m' d':Nat)(a b:Rat)(w:World)(ha:Fr w na A n c nb B m d a)(hb:Fr w na' A' n' c' nb' B' m' d' b)
    (h1:(a.num*b.den).natAbs<pw 4096) (h2:(b.num*a.den).natAbs<pw 4096) (hs:(a.num*b.den-b.num*a.den).natAbs<pw 4096) (ht:((a.den:Int)*(b.den:Nat)).natAbs<pw 4096) :
    Calls Tryz.prog 160 #[.agg #[.bool na,.slice A n c,.bool nb,.slice B m d],.agg #[.bool na',.slice A' n' c',.bool nb',.slice B' m' d']] w (Zpb w (a.num*b.den-b.num*a.den) ((a.den:Int)*(b.den:Nat))):=by
 obtain⟨W0,Y,T,⟨q0,q1,q2,q3⟩,s0⟩:=Zfs w 41 #[.bool na,.slice A n c,.bool nb,.slice B m d] 41 #[.bool na',.slice A' n' c',.bool nb',.slice B' m' d'] 39 #[.bool false,.slice none 0 0] 39 #[.bool false,.slice none 0 0];have hmx:=Gt;have hA:=Zb (ha.below T);have hD:=Zb (hb.below T);replace hs:=Zb hs;replace ht:=Zb ht;replace h1:=Zb h1;replace h2:=Zb h2;have sz:=Zb T.size;have hB:=Zb T;clear ha hb T s0;replace q0:=Zb q0;replace q1:=Zb q1;replace q2:=Zb q2;replace q3:=Zb q3;obtain⟨a0,a1,a2,a3,-⟩:=q0.out.four;obtain⟨b0,b1,b2,b3,-⟩:=q1.out.four;replace Y:=Zb Y;go_in;go_wp2_with fail;rw[Y.out];clear Y;refine Zy [19] (λW'=>W'.cell? ⟨w.heap.size,0,none⟩=some (.bool na)/\W'.cell? ⟨w.heap.size,1,none⟩=some (.slice A n c)/\W'.cell? ⟨w.heap.size,2,none⟩=some (.bool nb)/\W'.cell? ⟨w.heap.size,3,none⟩=some (.slice B m d)/\W'.cell? ⟨w.heap.size+1,0,none⟩=some (.bool na')/\W'.cell? ⟨w.heap.size+1,1,none⟩=some (.slice A' n' c')/\W'.cell? ⟨w.heap.size+1,2,none⟩=some (.bool nb')/\W'.cell? ⟨w.heap.size+1,3,none⟩=some (.slice B' m' d')) hmx ⟨a0,a1,a2,a3,b0,b1,b2,b3⟩ (λ_=>?_);refine Zj9 8 [0,1,3,4,10,11,12,13] rfl Gi ⟨a0,a1,a2,a3,b0,b1,b2,b3⟩ ?_
 iterate 8 (refine tkA ?_;try simp only[Qa,Zhb,Zgo,Zg6,Gr,Gq,Gp])
 refine tk0 ?_;refine wpAnyL_o 2 λK hK=>?_;go_simp;refine(Zfg na nb na' nb' A B A' B' n c m d n' c' m' d' a b W0.drew hA.out hD.out h1.out).mono ?_;rintro e w1 ⟨h,nu,U,k1,u,rfl,hU⟩;replace h:=Zu h;replace hU:=Zb hU;replace q0:=Gm h q0;replace q1:=Gm h q1;replace q2:=Gm h q2;replace q3:=Gm h q3;replace hA:=Zb (hA.out.below h);replace hD:=Zb (hD.out.below h);replace hB:=Zb (hB.out.trans (h.mono sz.out));replace sz:=Zb (Qe sz.out h.size);clear a0 a1 a2 a3 b0 b1 b2 b3;obtain⟨a0,a1,a2,a3,-⟩:=q0.out.four;obtain⟨b0,b1,b2,b3,-⟩:=q1.out.four;clear h;refine hK.out _ _ (λ_=>⟨a0,a1,a2,a3,b0,b1,b2,b3⟩) ?_;clear hK K
 try simp only[Qa,Zhb,Zgo,Zg6]
 refine wpAnyL_o 5 λK hK=>?_;go_simp;refine(Zfg na' nb' na nb A' B' A B n' c' m' d' n c m d b a w1 hD.out hA.out h2.out).mono ?_;rintro e w2 ⟨y,nv,V,k2,v,rfl,hV⟩;replace hU:=Zb (hU.out.below y);replace hV:=Zb hV;replace q0:=Gm y q0;replace q1:=Gm y q1;replace q2:=Gm y q2;replace q3:=Gm y q3;replace hA:=Zb (hA.out.below y);replace hD:=Zb (hD.out.below y);replace hB:=Zb (hB.out.trans (y.mono sz.out));replace sz:=Zb (Qe sz.out y.size);clear a0 a1 a2 a3 b0 b1 b2 b3;obtain⟨a0,a1,a2,a3,-⟩:=q0.out.four;obtain⟨b0,b1,b2,b3,-⟩:=q1.out.four;clear y;refine hK.out _ _ (λ_=>⟨a0,a1,a2,a3,b0,b1,b2,b3⟩) ?_;clear hK K
 try simp only[Qa,Zhb,Zgo,Zg6]
 refine wpAnyL_o 6 λK hK=>?_;go_simp;refine(Zup nu nv U V k1 u k2 v _ _ w2 hU.out hV.out).mono ?_;rintro e w3 ⟨I,np,P,k,q,code,rfl,hR⟩;have hP:=Zb (hR.small hs.out);have O:=hR.code0 hs.out;subst O;clear hs hR hU hV;replace q0:=Gm I q0;replace q1:=Gm I q1;replace q2:=Gm I q2;replace q3:=Gm I q3;replace hA:=Zb (hA.out.below I);replace hD:=Zb (hD.out.below I);replace hB:=Zb (hB.out.trans (I.mono sz.out));replace sz:=Zb (Qe sz.out I.size);clear a0 a1 a2 a3 b0 b1 b2 b3;obtain⟨a0,a1,a2,a3,-⟩:=q0.out.four;obtain⟨b0,b1,b2,b3,-⟩:=q1.out.four;clear I;refine hK.out _ _ (λ_=>⟨a0,a1,a2,a3,b0,b1,b2,b3⟩) ?_;clear hK K
 try simp only[Qa,Zhb,Zgo,Zg6]
 refine Zj9 2 [7,8] rfl Gi ⟨a0,a1,a2,a3,b0,b1,b2,b3⟩ ?_
 iterate 2 (refine tkA ?_;try simp only[Qa,Zhb,Zgo,Zg6,Gr,Gq,Gp])
 refine tk0 ?_;refine wpAnyL_o 9 λK hK=>?_;go_simp;refine(Zd0 np P k q w3).mono ?_;rintro e w4 ⟨rfl,C⟩;replace hP:=Zb (hP.out.below C);replace q0:=Gm C q0;replace q1:=Gm C q1;replace q2:=Gm C q2;replace q3:=Gm C q3;replace hA:=Zb (hA.out.below C);replace hD:=Zb (hD.out.below C);replace hB:=Zb (hB.out.trans (C.mono sz.out));replace sz:=Zb (Qe sz.out C.size);clear a0 a1 a2 a3 b0 b1 b2 b3;obtain⟨a0,a1,a2,a3,-⟩:=q0.out.four;obtain⟨b0,b1,b2,b3,-⟩:=q1.out.four;clear C;refine hK.out _ _ (λ_=>⟨a0,a1,a2,a3,b0,b1,b2,b3⟩) ?_;clear hK K
 try simp only[Qa,Zhb,Zgo,Zg6]
 refine wpAnyL_o 14 λK hK=>?_;go_simp;refine(Zjd nb nb' B B' m d m' d' a.den b.den w4 hA.out.2 hD.out.2).mono ?_;rintro e w5 ⟨o,a4,P',k',q',code,rfl,hR⟩;replace hP:=Zb (hP.out.below o);have J:=Zb (hR.small ht.out);have O:=hR.code0 ht.out;subst O;clear ht hR;replace q0:=Gm o q0;replace q1:=Gm o q1;replace q2:=Gm o q2;replace q3:=Gm o q3;replace hA:=Zb (hA.out.below o);replace hD:=Zb (hD.out.below o);replace hB:=Zb (hB.out.trans (o.mono sz.out));replace sz:=Zb (Qe sz.out o.size);clear a0 a1 a2 a3 b0 b1 b2 b3;obtain⟨a0,a1,a2,a3,-⟩:=q0.out.four;obtain⟨b0,b1,b2,b3,-⟩:=q1.out.four;clear o;refine hK.out _ _ (λ_=>⟨a0,a1,a2,a3,b0,b1,b2,b3⟩) ?_;clear hK K
 try simp only[Qa,Zhb,Zgo,Zg6]
 refine Zj9 2 [15,16] rfl Gi ⟨a0,a1,a2,a3,b0,b1,b2,b3⟩ ?_
 iterate 2 (refine tkA ?_;try simp only[Qa,Zhb,Zgo,Zg6,Gr,Gq,Gp])
 refine tk0 ?_;refine wpAnyL_o 17 λK hK=>?_;go_simp;refine(Zd0 a4 P' k' q' w5).mono ?_;rintro e w6 ⟨rfl,f⟩;replace hP:=Zb (hP.out.below f);replace J:=Zb (J.out.below f);replace q0:=Gm f q0;replace q1:=Gm f q1;replace q2:=Gm f q2;replace q3:=Gm f q3;replace hA:=Zb (hA.out.below f);replace hD:=Zb (hD.out.below f);replace hB:=Zb (hB.out.trans (f.mono sz.out));replace sz:=Zb (Qe sz.out f.size);clear a0 a1 a2 a3 b0 b1 b2 b3;obtain⟨a0,a1,a2,a3,-⟩:=q0.out.four;obtain⟨b0,b1,b2,b3,-⟩:=q1.out.four;clear f;obtain⟨x0,x1,f0,f1⟩:=q2.out.two;refine hK.out _ _ (λ_=>⟨a0,a1,a2,a3,b0,b1,b2,b3⟩) ?_;clear hK K
 try simp only[Qa,Zhb,Zgo,Zg6]
 refine wpAnyL_o 18 λK hK=>?_;go_simp;obtain⟨W5,a7,a8,a5,kW,kB,s5⟩:=Zau np P k q hB.out Gk q2.out;rw[a7];clear a7 x0 x1 f0 f1 a0 a1 a2 a3 b0 b1 b2 b3 hA hD;replace q0:=kB _ _ _ Gk q0.out;replace q1:=kB _ _ _ Gk q1.out;obtain⟨a0,a1,a2,a3,-⟩:=q0.four;obtain⟨b0,b1,b2,b3,-⟩:=q1.four;replace q3:=Zb (kB _ _ _ Gk q3.out);replace hP:=Zb (kW _ _ _ _ _ hP.out);replace J:=Zb (kW _ _ _ _ _ J.out);clear kW kB q2 hB q0 q1;obtain⟨y0,y1,g0,g1⟩:=q3.out.two;refine hK.out _ _ (λ_=>⟨a0,a1,a2,a3,b0,b1,b2,b3⟩) ?_;clear hK K
 try simp only[Qa,Zhb,Zgo,Zg6]
 refine Zv (i:=19) rfl Gi Gi (λK hK=>?_);go_simp;obtain⟨W6,a6,b4,a9,kW,kB,s6⟩:=Zau a4 P' k' q' a8 Gk q3.out;rw[a6];clear a6 y0 y1 g0 g1 a0 a1 a2 a3 b0 b1 b2 b3;replace a5:=kB _ _ _ Gk a5;replace hP:=Zb (kW _ _ _ _ _ hP.out);replace J:=Zb (kW _ _ _ _ _ J.out);clear kW kB q3 a8;refine hK.out _ _ ?_;clear hK K
 try simp only[Qa,Zhb,Zgo,Zg6]
 refine wpAnyL_fin ?_;obtain⟨r0,r1,-⟩:=a5.two;obtain⟨r2,r3,-⟩:=a9.two;go_wp2_with fail;refine bodyPost_ret (v:=.tuple #[.agg #[.bool np,.slice P k q],.agg #[.bool a4,.slice P' k' q']]) (by simp[results,Tryz.results160,go_sem,r0,r1,r2,r3]) rfl ?_;exact⟨b4,_,_,_,_,_,_,_,_,rfl,hP.out,J.out⟩
theorem Zeh(na nb:Bool)(A B:Option Addr)(n c m d:Nat)(r:Rat)(w:World)(h:Fr w na A n c nb B m d r) :
    Calls Tryz.prog 110 #[.agg #[.bool na,.slice A n c,.bool nb,.slice B m d]] w λe w'=>e=.returned (.int .i64 0)/\Below w.heap.size w w':=by
 have hn:=h.neg;subst hn;have hl:=Zwi r;exact Zmb na A B n c m d r.num r.den w h.1 h.2 hl.1 true (by rw[hl.2];rfl)
theorem EF{G:Prop}(h:G:=by
 clear kW kB aJ eV eW fg aI;refine leaves_cons (f:=147) (args:=#[.pointer (some ⟨w.heap.size+1+1+1,0,none⟩)]) Gh Gd ?_;refine(Zha _ _).mono ?_;rintro e u' w'' ⟨rfl,rfl,rfl⟩;refine⟨.tuple #[.agg #[.bool nx,.slice Ax kx cx,.bool ny,.slice Ay ky cy],.int .i64 0],by simp[results,Tryz.results130,go_sem,r0,r1,r2,r3,r4],?_⟩;exact⟨aS,_,_,_,_,_,_,_,_,rfl,cb.out,gW.out⟩):G:=h
theorem CC{G:Prop}(h:G:=by
 clear q2 q3;go_wp2_with fail;obtain⟨W5,fg,aJ,q2,kW,kB,s5⟩:=Zaa nx Ax kx cx ny Ay ky cy a9 Gk hq.out.1;have q3:=kB _ _ _ Gk hq.out.2;have eV:=Zb (kW _ _ _ _ _ hF.1);have eW:=Zb (kW _ _ _ _ _ hF.2);rw[fg];clear kW kB b9 b6 b8 b5 c3 f3 b4 a7 a8 b7 hq hF;obtain⟨W6,aI,aS,q3,kW,kB,s6⟩:=Zao 0 aJ Gk q3;replace q2:=kB _ _ _ Gk q2;have cb:=Zb (kW _ _ _ _ _ eV.out);have gW:=Zb (kW _ _ _ _ _ eW.out);rw[aI];obtain⟨r0,r1,r2,r3,-⟩:=q2.four;have r4:=q3.cell 0;simp at r4;exact EF):G:=h
theorem Zqi(F:FuncId)(na nb na' nb':Bool)(A B A' B':Option Addr)(n c m d n' c' m' d':Nat)(a b:Rat)(X Y:Int)(w:World)(ha:Fr w na A n c nb B m d a)(hb:Fr w na' A' n' c' nb' B' m' d' b)(hY:0<Y)(hcf:∀ (x y:Value) (W:World),(callFunc F #[x,y]).run Tryz.prog W=.ok (.enter F #[x,y]) W)
    (hF:∀ W:World,Fr W na A n c nb B m d a->Fr W na' A' n' c' nb' B' m' d' b->Calls Tryz.prog F #[.agg #[.bool na,.slice A n c,.bool nb,.slice B m d],.agg #[.bool na',.slice A' n' c',.bool nb',.slice B' m' d']] W (Zpb W X Y)) :
    Calls Tryz.prog 130 #[.agg #[.bool na,.slice A n c,.bool nb,.slice B m d],.agg #[.bool na',.slice A' n' c',.bool nb',.slice B' m' d'],.func (.func F) #[] #[]] w (Zfi w (Qv X Y)):=by
 obtain⟨W0,O,C,⟨q0,q1,q2,q3⟩,s0⟩:=Zfs w 41 #[.bool na,.slice A n c,.bool nb,.slice B m d] 41 #[.bool na',.slice A' n' c',.bool nb',.slice B' m' d'] 41 #[.bool false,.slice none 0 0,.bool false,.slice none 0 0] 26 #[.int .i64 0];have hA:=Zb (ha.below C);have hD:=Zb (hb.below C);replace hF:=Zb hF;clear ha hb;replace O:=Zb O;obtain⟨a0,a1,a2,a3,-⟩:=q0.four;have hq:=Zb (Qf q0 (Qf q1 (Qf q2 q3)));clear q0 q1 q2 q3
 go_enter_defers Tryz.func130,Tryz.ntmps130
 have a6:=O.out;go_wp2_with fail;clear O a6;refine(Zeh na nb A B n c m d a W0 hA.out).mono ?_;rintro e w1 ⟨rfl,o⟩;have T:Below w.heap.size w w1:=Gs C o;have s1:W0.heap.size<=w1.heap.size:=o.size;replace hA:=Zb (hA.out.below o);replace hD:=Zb (hD.out.below o);obtain⟨q0,q1,q2,q3⟩:=hq.out;replace q0:=Zc o q0;replace q1:=Zc o q1;replace q2:=Zc o q2;replace q3:=Zc o q3;clear hq o C a0 a1 a2 a3;obtain⟨b0,b1,b2,b3,-⟩:=q1.four;have hq:=Zb (Qf q0 (Qf q1 (Qf q2 q3)));clear q0 q1 q2 q3;go_wp2_with fail;refine(Zfl w1).mono ?_;rintro e w1 ⟨rfl,rfl⟩;go_wp2_with fail;refine(Zeh na' nb' A' B' n' c' m' d' b w1 hD.out).mono ?_;rintro e w2 ⟨rfl,h⟩;have a4:Below w.heap.size w w2:=Gs T h;have s2:w1.heap.size<=w2.heap.size:=h.size;replace hA:=Zb (hA.out.below h);replace hD:=Zb (hD.out.below h);obtain⟨q0,q1,q2,q3⟩:=hq.out;replace q0:=Zc h q0;replace q1:=Zc h q1;replace q2:=Zc h q2;replace q3:=Zc h q3;clear hq h T b0 b1 b2 b3;obtain⟨a0,a1,a2,a3,-⟩:=q0.four;obtain⟨b0,b1,b2,b3,-⟩:=q1.four;have hq:=Zb (Qf q2 q3);clear q0 q1 q2 q3;go_wp2_with fail;refine(Zfl w2).mono ?_;rintro e w2 ⟨rfl,rfl⟩;go_wp2_with fail;refine(hF.out w2 hA.out hD.out).mono ?_;rintro e w3 ⟨J,nu,U,k1,u,nv,V,k2,v,rfl,hU,hV⟩;have a5:Below w.heap.size w w3:=Gs a4 J;have s3:w2.heap.size<=w3.heap.size:=J.size;have hn:nv=false:=by rw[hV.1];simp;omega
 subst hn;have q2:=Zc J hq.out.1;have q3:=Zc J hq.out.2;clear hq J a4 a0 a1 a2 a3 b0 b1 b2 b3 hA hD hF;have hq:=Zb (Qf q2 q3);replace hU:=Zb hU;replace hV:=Zb hV;clear q2 q3;go_wp2_with fail;refine(Zja nu U V k1 u k2 v X Y w3 hU.out hV.out hY).mono ?_;rintro e w4 ⟨I,nx,Ax,kx,cx,ny,Ay,ky,cy,rfl,hF⟩;have a9:Below w.heap.size w w4:=Gs a5 I;have s4:w3.heap.size<=w4.heap.size:=I.size;have q2:=Zc I hq.out.1;have q3:=Zc I hq.out.2;clear hq I hU hV a5;have c2:=Zb q2.four;have c3:=q3.cell 0;have f3:=q3.frozen 0;simp at c3;obtain⟨b9,b6,b8,b5,b4,a7,a8,b7⟩:=c2.out;have hq:=Zb (Qf q2 q3);exact CC
theorem Zvy(x y:Value)(W:World):(callFunc 131 #[x,y]).run Tryz.prog W=.ok (.enter 131 #[x,y]) W:=by simp[go_sem]
theorem Zun(x y:Value)(W:World):(callFunc 160 #[x,y]).run Tryz.prog W=.ok (.enter 160 #[x,y]) W:=by simp[go_sem]
def Sm(r:Rat):Prop:=r.num.natAbs<pw 1000/\r.den<pw 1000
theorem Zc2{x y:Nat}{i j:Nat}(hx:x<pw i)(hy:y<pw j):x*y<pw (i+j):=by
 rw[Zcx];exact Nat.mul_lt_mul'' hx hy
theorem Zjb{x y:Int}(hx:x.natAbs<pw 1000)(hy:y.natAbs<pw 1000):(x*y).natAbs<pw 2000:=by
 rw[Int.natAbs_mul];have h:=Zc2 hx hy;rw[show 1000+1000=2000 from rfl]at h;exact h
theorem Zqh(k:Nat):pw k+pw k<=pw (k+1):=by rw[Za7];generalize pw k=x;omega
theorem Zur:pw 2000+pw 2000<=pw 4096:=Qe (Zqh 2000) (Zb6 Gj)
theorem Zbr{x y:Int}(hx:x.natAbs<pw 1000)(hy:y.natAbs<pw 1000):(x*y).natAbs<pw 4096:=QE (Zjb hx hy) (Zb6 Gj)
theorem IR{G:Prop}(h:G:=by
 have h1:=Zjb hx hy;have h2:=Zjb hz hv;have h3:=Zur;omega):G:=h
theorem Zz7{x y z v:Int}(hx:x.natAbs<pw 1000)(hy:y.natAbs<pw 1000)(hz:z.natAbs<pw 1000)(hv:v.natAbs<pw 1000):(x*y-z*v).natAbs<pw 4096:=by
 exact IR
theorem Sm.dn{r:Rat}(h:Sm r):((r.den:Nat):Int).natAbs<pw 1000:=by simpa using h.2
theorem Zl3(a b:Rat):Qv (a.num*b.num) ((a.den:Int)*(b.den:Nat))=a*b:=by
 rw[<- Rat.divInt_mul_divInt,Qm,Qm]
theorem Zq7(a b:Rat):Qv (a.num*b.den-b.num*a.den) ((a.den:Int)*(b.den:Nat))=a-b:=by
 have ha:((a.den:Nat):Int)≠0:=by have:=a.den_pos;omega
 have hb:((b.den:Nat):Int)≠0:=by have:=b.den_pos;omega
 rw[<- Rat.divInt_sub_divInt _ _ ha hb,Qm,Qm]
theorem Zck(a b:Rat):0<((a.den:Int)*(b.den:Nat)):=Int.mul_pos (by have:=a.den_pos;omega) (by have:=b.den_pos;omega)
theorem FY{G:Prop}(h:G:=by
 exact⟨aJ,_,_,_,_,_,_,_,_,rfl,kW _ _ _ _ _ hX.out.1,kW _ _ _ _ _ hX.out.2⟩):G:=h
theorem Zwr(na nb na' nb':Bool)(A B A' B':Option Addr)(n c m d n' c' m' d':Nat)(a b:Rat)(w:World)(ha:Fr w na A n c nb B m d a)(hb:Fr w na' A' n' c' nb' B' m' d' b)(sa:Sm a)(sb:Sm b) :
    Calls Tryz.prog 116 #[.agg #[.bool na,.slice A n c,.bool nb,.slice B m d],.agg #[.bool na',.slice A' n' c',.bool nb',.slice B' m' d']] w (Zfi w (a-b)):=by
 obtain⟨W0,u,f,⟨q0,q1,q2⟩,s0⟩:=Zcd w 41 #[.bool na,.slice A n c,.bool nb,.slice B m d] 41 #[.bool na',.slice A' n' c',.bool nb',.slice B' m' d'] 41 #[.bool false,.slice none 0 0,.bool false,.slice none 0 0];have hA:=Zb (ha.below f);have hD:=Zb (hb.below f);have hF:=λ(W:World) (h1:Fr W na A n c nb B m d a) (h2:Fr W na' A' n' c' nb' B' m' d' b)=>Sub1_ok na nb na' nb' A B A' B' n c m d n' c' m' d' a b W h1 h2 (Zbr sa.1 sb.dn) (Zbr sb.1 sa.dn) (Zz7 sa.1 sb.dn sb.1 sa.dn) (Zbr sa.dn sb.dn);have hG:=Zb (Zqi 160 na nb na' nb' A B A' B' n c m d n' c' m' d' a b _ _ W0 hA.out hD.out (Zck a b) Zun hF);rw[Zq7]at hG;clear hF ha hb sa sb hA hD;obtain⟨a0,a1,a2,a3,-⟩:=q0.four;obtain⟨b0,b1,b2,b3,-⟩:=q1.four;replace q2:=Zb q2;clear q0 q1;go_in;go_wp2_with fail;refine hG.out.mono ?_;rintro e w1 ⟨h,nx,Ax,kx,cx,ny,Ay,ky,cy,rfl,hX⟩;have o:Below w.heap.size w w1:=Gs f h;have s1:W0.heap.size<=w1.heap.size:=h.size;replace q2:=Gm h q2;replace hX:=Zb hX;clear h a0 a1 a2 a3 b0 b1 b2 b3 f hG u;obtain⟨Y,U,V,T,O,C,J,I⟩:=q2.out.four;go_wp2_with fail;obtain⟨W5,y,aJ,q2,kW,-,s5⟩:=Zaa nx Ax kx cx ny Ay ky cy o Gk q2.out;rw[y];obtain⟨r0,r1,r2,r3,-⟩:=q2.four;refine bodyPost_ret (v:=.tuple #[.agg #[.bool nx,.slice Ax kx cx,.bool ny,.slice Ay ky cy],.int .i64 0]) (by simp[results,Tryz.results116,go_sem,r0,r1,r2,r3]) rfl ?_;exact FY
theorem Zwt(na nb na' nb':Bool)(A B A' B':Option Addr)(n c m d n' c' m' d':Nat)(a b:Rat)(w:World)(ha:Fr w na A n c nb B m d a)(hb:Fr w na' A' n' c' nb' B' m' d' b)(sa:Sm a)(sb:Sm b) :
    Calls Tryz.prog 85 #[.agg #[.bool na,.slice A n c,.bool nb,.slice B m d],.agg #[.bool na',.slice A' n' c',.bool nb',.slice B' m' d']] w (Zfi w (a*b)):=by
 obtain⟨W0,u,f,⟨q0,q1,q2⟩,s0⟩:=Zcd w 41 #[.bool na,.slice A n c,.bool nb,.slice B m d] 41 #[.bool na',.slice A' n' c',.bool nb',.slice B' m' d'] 41 #[.bool false,.slice none 0 0,.bool false,.slice none 0 0];have hA:=Zb (ha.below f);have hD:=Zb (hb.below f);have hF:=λ(W:World) (h1:Fr W na A n c nb B m d a) (h2:Fr W na' A' n' c' nb' B' m' d' b)=>Mul1_ok na nb na' nb' A B A' B' n c m d n' c' m' d' a b W h1 h2 (Zbr sa.1 sb.1) (Zbr sa.dn sb.dn);have hG:=Zb (Zqi 131 na nb na' nb' A B A' B' n c m d n' c' m' d' a b _ _ W0 hA.out hD.out (Zck a b) Zvy hF);rw[Zl3]at hG;clear hF ha hb sa sb hA hD;obtain⟨a0,a1,a2,a3,-⟩:=q0.four;obtain⟨b0,b1,b2,b3,-⟩:=q1.four;replace q2:=Zb q2;clear q0 q1;go_in;go_wp2_with fail;refine hG.out.mono ?_;rintro e w1 ⟨h,nx,Ax,kx,cx,ny,Ay,ky,cy,rfl,hX⟩;have o:Below w.heap.size w w1:=Gs f h;have s1:W0.heap.size<=w1.heap.size:=h.size;replace q2:=Gm h q2;replace hX:=Zb hX;clear h a0 a1 a2 a3 b0 b1 b2 b3 f hG u;obtain⟨Y,U,V,T,O,C,J,I⟩:=q2.out.four;go_wp2_with fail;obtain⟨W5,y,aJ,q2,kW,-,s5⟩:=Zaa nx Ax kx cx ny Ay ky cy o Gk q2.out;rw[y];obtain⟨r0,r1,r2,r3,-⟩:=q2.four;refine bodyPost_ret (v:=.tuple #[.agg #[.bool nx,.slice Ax kx cx,.bool ny,.slice Ay ky cy],.int .i64 0]) (by simp[results,Tryz.results85,go_sem,r0,r1,r2,r3]) rfl ?_;exact FY
theorem Zw7(na nb na' nb':Bool)(A B A' B':Option Addr)(n c m d n' c' m' d':Nat)(a b:Rat)(w:World)(ha:Fr w na A n c nb B m d a)(hb:Fr w na' A' n' c' nb' B' m' d' b) :
    Calls Tryz.prog 102 #[.agg #[.bool na,.slice A n c,.bool nb,.slice B m d],.agg #[.bool na',.slice A' n' c',.bool nb',.slice B' m' d']] w λe w'=>e=.returned (.int .i64 0)/\Below w.heap.size w w':=by
 obtain⟨W0,I,f,⟨q0,q1⟩,s0⟩:=Zdb w 41 #[.bool na,.slice A n c,.bool nb,.slice B m d] 41 #[.bool na',.slice A' n' c',.bool nb',.slice B' m' d'];have hA:=Zb (ha.below f);have hD:=Zb (hb.below f);clear ha hb;obtain⟨a0,a1,a2,a3,-⟩:=q0.four;replace q1:=Zb q1;clear q0;go_in;go_wp2_with fail;refine(Zej na nb A B n c m d a W0 hA.out).mono ?_;rintro e w1 ⟨rfl,h⟩;have u:Below w.heap.size w w1:=Gs f h;replace hD:=Zb (hD.out.below h);have o:=Zc h q1.out;obtain⟨b0,b1,b2,b3,-⟩:=o.four;clear I h a0 a1 a2 a3 o q1 hA;go_wp2_with fail;refine(Zej na' nb' A' B' n' c' m' d' b w1 hD.out).mono ?_;rintro e w2 ⟨rfl,C⟩;have y:Below w.heap.size w w2:=Gs u C;go_wp2_with fail;go_ret;exact⟨rfl,y⟩
theorem Zgy(na nb:Bool)(A B:Option Addr)(n c m d:Nat)(za zb:Int)(w:World)(ha:Wd w na A n c za)(hb:Wd w nb B m d zb) :
    Calls Tryz.prog 103 #[.agg #[.bool na,.slice A n c],.agg #[.bool nb,.slice B m d]] w (ResW w (za*zb)):=by
 have Y:=ha.lim;have U:=hb.lim;have hn:=ha.2.1;have hm:=hb.2.1;have u:Below w.heap.size w (((w.alloc (.cells #[.bool na,.slice A n c] 39)).alloc (.cells #[.bool nb,.slice B m d] 39)).alloc (.cells #[.bool false,.slice none 0 0] 39)):=(((Ya w.heap.size w).alloc (Qc _) _).alloc Gh _).alloc Gg _;have u:=Zb u;have I:Hid ((okW na (digits za.natAbs) && okW nb (digits zb.natAbs))=true):=by unfold Hid;rw[ha.ok,hb.ok];rfl
 have a3:=Zb ha.sgEq;have a5:=Zb hb.sgEq;have a8:=Zb hb.lim.len;clear ha hb;go_in;go_wp2_with fail;refine(Ze6 (Y.below u.out) (U.below u.out) I.out).mono ?_;rintro e w1 ⟨rfl,C⟩;obtain⟨y,a4⟩:=Zc0 C;have a7:w.heap.size+1+1<w1.heap.size:=by have:=C.size;simp at this;omega
 have o:Below w.heap.size w w1:=u.out.trans (C.mono Gg);have g0:w1.cell? ⟨w.heap.size,0,none⟩=some (.bool na):=by simp[y,go_sem]
 have g1:w1.cell? ⟨w.heap.size,1,none⟩=some (.slice A n c):=by simp[y,go_sem]
 have g2:w1.cell? ⟨w.heap.size+1,0,none⟩=some (.bool nb):=by simp[y,go_sem]
 have g3:w1.cell? ⟨w.heap.size+1,1,none⟩=some (.slice B m d):=by simp[y,go_sem]
 have g7:Blk w1 (w.heap.size+1+1) 39 #[.bool false,.slice none 0 0]:=by
  refine Zc C ?_;exact Ev
 have g5:=g7.cell 0;have g6:=g7.cell 1;have g8:=g7.frozen 0;have g9:=g7.frozen 1;simp at g5 g6;clear y a4;have T:=Y.below o;have O:=U.below o;go_wp2_with fail
 go_region_held3 (λw'=>w'.cell? ⟨w.heap.size,0,none⟩=some (.bool na)/\w'.cell? ⟨w.heap.size,1,none⟩=some (.slice A n c)/\w'.cell? ⟨w.heap.size+1,0,none⟩=some (.bool nb)/\w'.cell? ⟨w.heap.size+1,1,none⟩=some (.slice B m d))
  (((try dsimp only);(repeat' apply Qf);all_goals (first|go_keep|(simp[*,go_sem];done))))
  (first
   | (go_at_call 145;refine(Zv0 _ _ _ _ _ _ _ _ _ (by exact T) (by exact O) Gk Gk).mono ?_;rintro e w2 ⟨A2,n2,c2,l2,rfl,a1,a0,f⟩;have k0:=Za f g0;have k1:=Za f g1;have j0:=Za f g2;have k2:=Za f g3;have k3:=Za f g5;have k4:=Za f g6;have k5:=Zl f g5 g8;have k6:=Zl f g6 g9;have k7:=Zc f g7)
   | (go_at_call 74;refine(Zbv _ _ _ _ _ _ (by exact a1) (by have:=a1.len;rw[a0.1]at this;omega)).mono ?_;rintro e w3 ⟨h,V,A3,n3,c3,J,rfl,a2⟩;have m0:=Za h k0;have m1:=Za h k1;have i0:=Za h j0;have m2:=Za h k2;have m3:=Za h k3;have m4:=Za h k4;have m5:=Zl h k3 k5;have m6:=Zl h k4 k6;have m7:=Zc h k7))
 have a6:Below w.heap.size w w3:=(o.trans ((Zu f).mono o.size)).trans (h.mono (Qe o.size (Zu f).size))
 go_wp2
 have HZ:sg (na != nb) (val l2)=za*zb:=by
  have h1:=a3.out;have h2:=a5.out;rw[a0.2,Z0o,h1,h2]
 refine bodyPost_ret (v:=.tuple #[.agg #[.bool V,.slice A3 n3 c3],.int .i64 J]) (by simp[results,Tryz.results103,go_sem,m3,m4]) rfl ?_;exact ResW.box (HZ▸a2) a6 Gk m7
theorem alloc5(w:World)(t0:TypeId)(c0:Array Value)(t1:TypeId)(c1:Array Value)(t2:TypeId)(c2:Array Value)(t3:TypeId)(c3:Array Value)(t4:TypeId)(c4:Array Value) :
    ∃ W,((((w.alloc (.cells c0 t0)).alloc (.cells c1 t1)).alloc (.cells c2 t2)).alloc (.cells c3 t3)).alloc (.cells c4 t4)=W/\Below w.heap.size w W/\(Blk W w.heap.size t0 c0/\Blk W (w.heap.size+1) t1 c1/\Blk W (w.heap.size+1+1) t2 c2/\Blk W (w.heap.size+1+1+1) t3 c3/\Blk W (w.heap.size+1+1+1+1) t4 c4)/\W.heap.size=w.heap.size+1+1+1+1+1:=by
 obtain⟨W,hW,h1,h2,h3⟩:=Zfs w t0 c0 t1 c1 t2 c2 t3 c3;refine⟨_,rfl,?_,⟨?_,?_,?_,?_,?_⟩,by rw[hW];simp[h3]⟩ <;> rw[hW];exact h1.alloc Gk _;exact h2.1.alloc _;exact h2.2.1.alloc _;exact h2.2.2.1.alloc _;exact h2.2.2.2.alloc _;rw[<- h3];exact Blk.new _ _ _
theorem rAdd_ok(na nb:Bool)(A B:Option Addr)(n c m d:Nat)(za zb:Int)(w:World)(ha:Wd w na A n c za)(hb:Wd w nb B m d zb) :
    Calls Tryz.prog 143 #[.agg #[.bool na,.slice A n c],.agg #[.bool nb,.slice B m d]] w (ResW w (za+zb)):=by
 have T:=ha.lim;have O:=hb.lim;have hn:=ha.2.1;have hm:=hb.2.1;have f:Below w.heap.size w (((w.alloc (.cells #[.bool na,.slice A n c] 39)).alloc (.cells #[.bool nb,.slice B m d] 39)).alloc (.cells #[.bool false,.slice none 0 0] 39)):=(((Ya w.heap.size w).alloc (Qc _) _).alloc Gh _).alloc Gg _;have f:=Zb f;have C:Hid ((okW na (digits za.natAbs) && okW nb (digits zb.natAbs))=true):=by unfold Hid;rw[ha.ok,hb.ok];rfl
 have Y:=Zb ha.sgEq;have a1:=Zb hb.sgEq;have a3:=Zb hb.lim.len;clear ha hb;go_in;go_wp2_with fail;refine(Ze6 (T.below f.out) (O.below f.out) C.out).mono ?_;rintro e w1 ⟨rfl,u⟩;obtain⟨h,a0⟩:=Zc0 u;have a2:w.heap.size+1+1<w1.heap.size:=by have:=u.size;simp at this;omega
 have o:Below w.heap.size w w1:=f.out.trans (u.mono Gg);have g0:w1.cell? ⟨w.heap.size,0,none⟩=some (.bool na):=by simp[h,go_sem]
 have g1:w1.cell? ⟨w.heap.size,1,none⟩=some (.slice A n c):=by simp[h,go_sem]
 have g2:w1.cell? ⟨w.heap.size+1,0,none⟩=some (.bool nb):=by simp[h,go_sem]
 have g3:w1.cell? ⟨w.heap.size+1,1,none⟩=some (.slice B m d):=by simp[h,go_sem]
 have g7:Blk w1 (w.heap.size+1+1) 39 #[.bool false,.slice none 0 0]:=by
  refine Zc u ?_;exact Ev
 have g5:=g7.cell 0;have g6:=g7.cell 1;have g8:=g7.frozen 0;have g9:=g7.frozen 1;simp at g5 g6;clear h a0;have J:=T.below o;have I:=O.below o;go_wp2_with fail;refine(Ze9 _ _ _ _ _ _ _ _ _ _ _ (by exact J) (by exact I) hn hm).mono ?_;rintro e w2 ⟨V,U,A2,n2,c2,y,rfl,dP⟩;have ax:Below w.heap.size w w2:=Gs o V;have m7:=Zc V g7;have m3:=m7.cell 0;have m4:=m7.cell 1;have m5:=m7.frozen 0;have m6:=m7.frozen 1;simp at m3 m4;have HM:=Zb m7;clear m7;go_wp2_with fail
 have HZ:sg na za.natAbs+sg nb zb.natAbs=za+zb:=by
  have h1:=Y.out;have h2:=a1.out;rw[Zi]at h1 h2;rw[h1,h2]
 refine bodyPost_ret (v:=.tuple #[.agg #[.bool U,.slice A2 n2 c2],.int .i64 y]) (by simp[results,Tryz.results143,go_sem,m3,m4]) rfl ?_;exact Fh
theorem CY{G:Prop}(h:G:=by
 refine bodyPost_ret (v:=.tuple #[.agg #[.bool dW,.slice A2 n2 c2],.int .i64 ce]) (by simp[results,Tryz.results144,go_sem,m3,m4]) rfl ?_;exact ResW.box (HZ▸dP) ax Gk HM.out):G:=h
theorem EY{G:Prop}(h:G:=by
 exact CY):G:=h
theorem Ef{G:Prop}(h:G:=by
 go_wp2_with fail;refine(Ze9 _ _ _ _ _ _ _ _ _ _ _ (by exact dN) (by exact dO) hn hm).mono ?_;rintro e w2 ⟨aa,dW,A2,n2,c2,ce,rfl,dP⟩;have ax:Below w.heap.size w w2:=Gs ae aa;have m7:=Zc aa g7;have m3:=m7.cell 0;have m4:=m7.cell 1;have m5:=m7.frozen 0;have m6:=m7.frozen 1;simp at m3 m4;have HM:=Zb m7;clear m7;go_wp2_with fail
 have HZ:sg na za.natAbs+sg (false) zb.natAbs=za-zb:=by
  have h1:=gK.out;have h2:=gM.out;rw[Zi]at h1 h2;have h3:sg (false) zb.natAbs=- zb:=by have h4:=el.out;unfold sg;simp;omega
  rw[h1,h3];omega
 exact CY):G:=h
theorem rSub_ok(na nb:Bool)(A B:Option Addr)(n c m d:Nat)(za zb:Int)(w:World)(ha:Wd w na A n c za)(hb:Wd w nb B m d zb) :
    Calls Tryz.prog 144 #[.agg #[.bool na,.slice A n c],.agg #[.bool nb,.slice B m d]] w (ResW w (za-zb)):=by
 have C:=ha.lim;have y:=hb.lim;have hn:=ha.2.1;have hm:=hb.2.1;have f:Below w.heap.size w (((w.alloc (.cells #[.bool na,.slice A n c] 39)).alloc (.cells #[.bool nb,.slice B m d] 39)).alloc (.cells #[.bool false,.slice none 0 0] 39)):=(((Ya w.heap.size w).alloc (Qc _) _).alloc Gh _).alloc Gg _;have f:=Zb f;have u:Hid ((okW na (digits za.natAbs) && okW nb (digits zb.natAbs))=true):=by unfold Hid;rw[ha.ok,hb.ok];rfl
 have gK:=Zb ha.sgEq;have gM:=Zb hb.sgEq;have J:=Zb hb.lim.len;clear ha hb;go_in;go_wp2_with fail;refine(Ze6 (C.below f.out) (y.below f.out) u.out).mono ?_;rintro e w1 ⟨rfl,o⟩;obtain⟨h,I⟩:=Zc0 o;have O:w.heap.size+1+1<w1.heap.size:=by have:=o.size;simp at this;omega
 have ae:Below w.heap.size w w1:=f.out.trans (o.mono Gg);have g0:w1.cell? ⟨w.heap.size,0,none⟩=some (.bool na):=by simp[h,go_sem]
 have g1:w1.cell? ⟨w.heap.size,1,none⟩=some (.slice A n c):=by simp[h,go_sem]
 have g2:w1.cell? ⟨w.heap.size+1,0,none⟩=some (.bool nb):=by simp[h,go_sem]
 have g3:w1.cell? ⟨w.heap.size+1,1,none⟩=some (.slice B m d):=by simp[h,go_sem]
 have g7:Blk w1 (w.heap.size+1+1) 39 #[.bool false,.slice none 0 0]:=by
  refine Zc o ?_;exact Ev
 have g5:=g7.cell 0;have g6:=g7.cell 1;have g8:=g7.frozen 0;have g9:=g7.frozen 1;simp at g5 g6;clear h I;have dN:=C.below ae;have dO:=y.below ae;by_cases hm0:0<m
 ·have hd:decide (0<m)=true:=by simpa using hm0
  cases nb
  ·go_wp2_with fail
   refine(Ze9 _ _ _ _ _ _ _ _ _ _ _ (by exact dN) (by exact dO) hn hm).mono ?_;rintro e w2 ⟨aa,dW,A2,n2,c2,ce,rfl,dP⟩;have ax:Below w.heap.size w w2:=Gs ae aa;have m7:=Zc aa g7;have m3:=m7.cell 0;have m4:=m7.cell 1;have m5:=m7.frozen 0;have m6:=m7.frozen 1;simp at m3 m4;have HM:=Zb m7;clear m7;go_wp2_with fail
   have HZ:sg na za.natAbs+sg (true) zb.natAbs=za-zb:=by
    have h1:=gK.out;have h2:=gM.out;rw[Zi]at h1 h2;have h3:sg (true) zb.natAbs=- zb:=by unfold sg at h2 ⊢;simp at h2 ⊢;omega
    rw[h1,h3];omega
   exact EY
  go_wp2_with fail;refine(Ze9 _ _ _ _ _ _ _ _ _ _ _ (by exact dN) (by exact dO) hn hm).mono ?_;rintro e w2 ⟨aa,dW,A2,n2,c2,ce,rfl,dP⟩;have ax:Below w.heap.size w w2:=Gs ae aa;have m7:=Zc aa g7;have m3:=m7.cell 0;have m4:=m7.cell 1;have m5:=m7.frozen 0;have m6:=m7.frozen 1;simp at m3 m4;have HM:=Zb m7;clear m7;go_wp2_with fail
  have HZ:sg na za.natAbs+sg (false) zb.natAbs=za-zb:=by
   have h1:=gK.out;have h2:=gM.out;rw[Zi]at h1 h2;have h3:sg (false) zb.natAbs=- zb:=by unfold sg at h2 ⊢;simp at h2 ⊢;omega
   rw[h1,h3];omega
  exact EY
 obtain rfl:m=0:=Gk;have el:zb.natAbs=0:=by have:=J.out;exact digits_eq_nil.1 (Qo this)
 have el:=Zb el;cases nb;exact Ef;exact Ef
theorem Fr.keep{w W:World}{na:Bool}{A:Option Addr}{n c:Nat}{nb:Bool}{B:Option Addr}{m d:Nat}{r:Rat}(h:Fr w na A n c nb B m d r)(k:∀ na A n c z,Wd w na A n c z->Wd W na A n c z):Fr W na A n c nb B m d r:=⟨k _ _ _ _ _ h.1,k _ _ _ _ _ h.2⟩
theorem sm_add{x y z v:Int}(hx:x.natAbs<pw 1000)(hy:y.natAbs<pw 1000)(hz:z.natAbs<pw 1000)(hv:v.natAbs<pw 1000):(x*y+z*v).natAbs<pw 4096:=by
 exact IR
theorem rat_add(a b:Rat):Qv (a.num*b.den+b.num*a.den) ((a.den:Int)*(b.den:Nat))=a+b:=by
 have ha:((a.den:Nat):Int)≠0:=by have:=a.den_pos;omega
 have hb:((b.den:Nat):Int)≠0:=by have:=b.den_pos;omega
 rw[<- Rat.divInt_add_divInt _ _ ha hb,Qm,Qm]
theorem FW{G:Prop}(h:G:=by
 exact⟨aO,_,_,_,_,_,_,_,_,rfl,kW _ _ _ _ _ hF.out.1,kW _ _ _ _ _ hF.out.2⟩):G:=h
theorem Zvx(na nb na' nb':Bool)(A B A' B':Option Addr)(n c m d n' c' m' d':Nat)(a b:Rat)(w:World)(ha:Fr w na A n c nb B m d a)(hb:Fr w na' A' n' c' nb' B' m' d' b)(sa:Sm a)(sb:Sm b) :
    Calls Tryz.prog 100 #[.agg #[.bool na,.slice A n c,.bool nb,.slice B m d],.agg #[.bool na',.slice A' n' c',.bool nb',.slice B' m' d'],.bool true] w (Zfi w (a-b)):=by
 rw[<- Zq7];have h1:=Zb (Zbr sa.1 sb.dn);have h2:=Zb (Zbr sb.1 sa.dn);have h3:=Zb (Zbr sa.dn sb.dn);have h4:=Zb (sm_add sa.1 sb.dn sb.1 sa.dn);have h5:=Zb (Zz7 sa.1 sb.dn sb.1 sa.dn);have h6:=Zb (Zck a b);obtain⟨W0,d5,T,⟨q0,q1,q2⟩,s0⟩:=Zcd w 41 #[.bool na,.slice A n c,.bool nb,.slice B m d] 41 #[.bool na',.slice A' n' c',.bool nb',.slice B' m' d'] 41 #[.bool false,.slice none 0 0,.bool false,.slice none 0 0];have hA:=Zb (ha.below T);have hD:=Zb (hb.below T);clear ha hb sa sb;generalize hX:a.num*((b.den:Nat):Int)=X at *;generalize hY:b.num*((a.den:Nat):Int)=Y at *;generalize hZ:((a.den:Nat):Int)*((b.den:Nat):Int)=Z at *
 replace hX:=Zb hX;replace hY:=Zb hY;replace hZ:=Zb hZ;obtain⟨a0,a1,a2,a3,-⟩:=q0.four;obtain⟨b0,b1,b2,b3,-⟩:=q1.four;have hq:=Zb (Qf q0 (Qf q1 q2));clear q0 q1 q2;go_in;go_wp2_with fail;have hM:=Zgy na nb' A B' n c m' d' a.num b.den W0 hA.out.1 hD.out.2;rw[hX.out]at hM;refine hM.mono ?_;clear hM;rintro e w1 ⟨J,n1,P1,k1,c1,code,rfl,hR⟩;have h:=Zb (hR.small h1.out);have f:=hR.code0 h1.out;subst f;have b6:Below w.heap.size w w1:=Gs T J;have s1:W0.heap.size<=w1.heap.size:=J.size;replace hA:=Zb (hA.out.below J);replace hD:=Zb (hD.out.below J);obtain⟨q0,q1,q2⟩:=hq.out;replace q0:=Zc J q0;replace q1:=Zc J q1;replace q2:=Zc J q2;clear d5 J a0 a1 a2 a3 b0 b1 b2 b3 hq hR h1 T hX;obtain⟨W1,d4,V,r1,kW,kB,t1⟩:=Zs 39 #[.bool n1,.slice P1 k1 c1] b6 b6.size;replace q0:=kB _ _ _ q0;replace q1:=kB _ _ _ q1;replace q2:=kB _ _ _ q2;replace hA:=Zb (hA.out.keep kW);replace hD:=Zb (hD.out.keep kW);replace h:=Zb (kW _ _ _ _ _ h.out);clear kW kB b6;obtain⟨a0,a1,a2,a3,-⟩:=q0.four;obtain⟨b0,b1,b2,b3,-⟩:=q1.four;have hq:=Zb (Qf q0 (Qf q1 (Qf q2 r1)));clear q0 q1 q2 r1;go_wp2_with fail;have hM:=Zgy na' nb A' B n' c' m d b.num a.den W1 hD.out.1 hA.out.2;rw[hY.out]at hM;refine hM.mono ?_;clear hM;rintro e w2 ⟨C,n2,P2,k2,c2,code,rfl,hR⟩;have o:=Zb (hR.small h2.out);have f:=hR.code0 h2.out;subst f
 have a5:Below w.heap.size w w2:=Gs V C;have s2:W1.heap.size<=w2.heap.size:=C.size;replace hA:=Zb (hA.out.below C);replace hD:=Zb (hD.out.below C);obtain⟨q0,q1,q2,r1⟩:=hq.out;replace q0:=Zc C q0;replace q1:=Zc C q1;replace q2:=Zc C q2;replace r1:=Zc C r1;replace h:=Zb (h.out.below C);clear d4 C a0 a1 a2 a3 b0 b1 b2 b3 hq hR h2 V hY;obtain⟨W2,d3,a7,r2,kW,kB,t2⟩:=Zs 39 #[.bool n2,.slice P2 k2 c2] a5 a5.size;replace q0:=kB _ _ _ q0;replace q1:=kB _ _ _ q1;replace q2:=kB _ _ _ q2;replace r1:=kB _ _ _ r1;replace hA:=Zb (hA.out.keep kW);replace hD:=Zb (hD.out.keep kW);replace h:=Zb (kW _ _ _ _ _ h.out);replace o:=Zb (kW _ _ _ _ _ o.out);clear kW kB a5;obtain⟨a0,a1,a2,a3,-⟩:=q0.four;obtain⟨b0,b1,b2,b3,-⟩:=q1.four;have hq:=Zb (Qf q0 (Qf q1 (Qf q2 (Qf r1 r2))));clear q0 q1 q2 r1 r2;go_wp2_with fail;have hM:=Zgy nb nb' B B' m d m' d' a.den b.den W2 hA.out.2 hD.out.2;rw[hZ.out]at hM;refine hM.mono ?_;clear hM;rintro e w3 ⟨u,n3,P3,k3,c3,code,rfl,hR⟩;have y:=Zb (hR.small h3.out);have f:=hR.code0 h3.out;subst f;have b4:Below w.heap.size w w3:=Gs a7 u;have s3:W2.heap.size<=w3.heap.size:=u.size;replace hA:=Zb (hA.out.below u);replace hD:=Zb (hD.out.below u);obtain⟨q0,q1,q2,r1,r2⟩:=hq.out;replace q0:=Zc u q0;replace q1:=Zc u q1;replace q2:=Zc u q2;replace r1:=Zc u r1;replace r2:=Zc u r2;replace h:=Zb (h.out.below u);replace o:=Zb (o.out.below u);clear d3 u a0 a1 a2 a3 b0 b1 b2 b3 hq hR h3 a7 hZ;have hn:n3=false:=by rw[y.out.1];have:=h6.out;simp;omega
 subst hn;obtain⟨W3,d6,a4,r3,kW,kB,t3⟩:=Zs 39 #[.bool false,.slice P3 k3 c3] b4 b4.size;replace q0:=kB _ _ _ q0;replace q1:=kB _ _ _ q1;replace q2:=kB _ _ _ q2;replace r1:=kB _ _ _ r1;replace r2:=kB _ _ _ r2;replace hA:=Zb (hA.out.keep kW);replace hD:=Zb (hD.out.keep kW);replace h:=Zb (kW _ _ _ _ _ h.out);replace o:=Zb (kW _ _ _ _ _ o.out);replace y:=Zb (kW _ _ _ _ _ y.out);clear kW kB b4;obtain⟨a0,a1,a2,a3,-⟩:=q0.four;obtain⟨b0,b1,b2,b3,-⟩:=q1.four;clear a0 a1 a2 a3 b0 b1 b2 b3 hA hD q0 q1;obtain⟨x0,x1,-⟩:=r1.two;obtain⟨y0,y1,-⟩:=r2.two;have hq:=Zb (Qf q2 (Qf r1 (Qf r2 r3)));clear q2 r1 r2 r3;go_wp2_with fail;refine(rAdd_ok n1 n2 P1 P2 k1 c1 k2 c2 X Y W3 h.out o.out).mono ?_;rintro e w4 ⟨I,n4,P4,k4,c4,code,rfl,hR⟩;have a8:=Zb (hR.small h4.out);have f:=hR.code0 h4.out;subst f;have b5:Below w.heap.size w w4:=Gs a4 I;have s4:W3.heap.size<=w4.heap.size:=I.size;obtain⟨q2,r1,r2,r3⟩:=hq.out;replace q2:=Zc I q2;replace r1:=Zc I r1;replace r2:=Zc I r2;replace r3:=Zc I r3;replace h:=Zb (h.out.below I);replace o:=Zb (o.out.below I);replace y:=Zb (y.out.below I);clear d6 I x0 x1 y0 y1 hq hR h4 a4;obtain⟨W4,c8,a6,r4,kW,kB,t4⟩:=Zs 39 #[.bool n4,.slice P4 k4 c4] b5 b5.size;replace q2:=kB _ _ _ q2;replace r1:=kB _ _ _ r1;replace r2:=kB _ _ _ r2;replace r3:=kB _ _ _ r3;replace h:=Zb (kW _ _ _ _ _ h.out);replace o:=Zb (kW _ _ _ _ _ o.out)
 replace y:=Zb (kW _ _ _ _ _ y.out);replace a8:=Zb (kW _ _ _ _ _ a8.out);clear kW kB b5;obtain⟨x0,x1,-⟩:=r1.two;obtain⟨y0,y1,-⟩:=r2.two;have hq:=Zb (Qf q2 (Qf r3 r4));clear q2 r1 r2 r3 r4 a8;go_wp2_with fail;refine(rSub_ok n1 n2 P1 P2 k1 c1 k2 c2 X Y W4 h.out o.out).mono ?_;rintro e w5 ⟨O,n5,P5,k5,c5,code,rfl,hR⟩;have b7:=Zb (hR.small h5.out);have f:=hR.code0 h5.out;subst f;have a9:Below w.heap.size w w5:=Gs a6 O;have s5:W4.heap.size<=w5.heap.size:=O.size;obtain⟨q2,r3,r4⟩:=hq.out;replace q2:=Zc O q2;replace r3:=Zc O r3;replace r4:=Zc O r4;replace y:=Zb (y.out.below O);clear c8 O x0 x1 y0 y1 hq hR h5 a6 h o;obtain⟨WS,d8,c0,r5,kW,kB,tS⟩:=Zau n5 P5 k5 c5 a9 (by have:=a9.size;omega) r4;obtain⟨-,-,f0,f1⟩:=r4.two;obtain⟨v0,v1,-⟩:=r4.two;have c7:=kB _ _ _ Gk q2;have b9:=kB _ _ _ Gk r3;have b8:=Zb (kW _ _ _ _ _ y.out);have c6:=Zb (kW _ _ _ _ _ b7.out);clear kW kB q2 r3 r4 y b7 a9;obtain⟨x0,x1,-⟩:=r5.two;obtain⟨y0,y1,-⟩:=b9.two;have hq:=Zb c7;clear c7 r5 b9;go_wp2_with fail;refine(Zg0 n5 P5 P3 k5 c5 k3 c3 _ _ WS c6.out b8.out h6.out).mono ?_;rintro e w6 ⟨U,nx,Ax,kx,cx,ny,Ay,ky,cy,rfl,hF⟩;have d0:Below w.heap.size w w6:=Gs c0 U;have s6:WS.heap.size<=w6.heap.size:=U.size;replace hq:=Gm U hq;replace hF:=Zb hF;clear x0 x1 y0 y1 U;obtain⟨e3,e1,d9,e5,e4,d7,e2,e0⟩:=hq.out.four;go_wp2_with fail
 obtain⟨W7,c9,aO,q2,kW,-,s7⟩:=Zaa nx Ax kx cx ny Ay ky cy d0 Gk hq.out;rw[c9];obtain⟨r0,r1,r2,r3,-⟩:=q2.four;refine bodyPost_ret (v:=.tuple #[.agg #[.bool nx,.slice Ax kx cx,.bool ny,.slice Ay ky cy],.int .i64 0]) (by simp[results,Tryz.results100,go_sem,r0,r1,r2,r3]) rfl ?_;exact FW
structure FE where
 na:Bool
 A:Option Addr
 n:Nat
 c:Nat
 nb:Bool
 B:Option Addr
 m:Nat
 d:Nat
 q:Rat
def FE.in_(w:World)(e:FE):Prop:=Fr w e.na e.A e.n e.c e.nb e.B e.m e.d e.q
def Zp:List FE->List Value
 | []=>[]
 | e::l=>.bool e.na :: .slice e.A e.n e.c :: .bool e.nb :: .slice e.B e.m e.d::Zp l
def Z4(es:List FE):Array Value:=(Zp es).toArray
theorem Zt(es:List FE):(Zp es).length=es.length*4:=by
 induction es with
 | nil=>rfl
 | cons e l ih=>simp only[Zp,QY,ih];omega
theorem Zfk{es:List FE}{i:Nat}{e:FE}(h:es[i]?=some e):(Zp es)[i*4]?=some (.bool e.na)/\(Zp es)[i*4+1]?=some (.slice e.A e.n e.c)/\(Zp es)[i*4+2]?=some (.bool e.nb)/\(Zp es)[i*4+3]?=some (.slice e.B e.m e.d):=by
 induction es generalizing i with
 | nil=>simp at h
 | cons x l ih =>
  cases i with
  | zero=>simp at h;subst h;simp[Zp]
  | succ i =>
   have:=ih (by simpa using h);rw[show (i+1)*4=i*4+4 by omega];simpa [Zp]using this
theorem Zow(es:List FE):∀ (i x:Nat),(Zp es)[i]?≠some (limb x):=by
 induction es with
 | nil=>intro i x;simp[Zp]
 | cons e l ih =>
  intro i x
  match i with
  | 0=>simp[Zp]
  | 1=>simp[Zp]
  | 2=>simp[Zp]
  | 3=>simp[Zp]
  | i+4=>simpa [Zp]using ih i x
theorem Zdz{es:List FE}{i:Nat}{e:FE}(h:es[i]?=some e):(Z4 es)[i*4]?=some (.bool e.na)/\(Z4 es)[i*4+1]?=some (.slice e.A e.n e.c)/\(Z4 es)[i*4+2]?=some (.bool e.nb)/\(Z4 es)[i*4+3]?=some (.slice e.B e.m e.d):=by
 simpa [Z4]using Zfk h
theorem Zca(es:List FE):NoLimb (Z4 es):=λi x=>by simpa [Z4]using Zow es i x
def Zax:FE:=⟨false,none,0,0,false,none,0,0,0⟩
theorem Zal(es fs:List FE):Zp (es++fs)=Zp es++Zp fs:=by
 induction es with
 | nil=>rfl
 | cons e l ih=>simp only[List.cons_append,Zp,ih]
theorem Zjl(fs:List FE):∀ u ∈ Zp fs,u.oneCell'=true:=by
 induction fs with
 | nil=>intro u h;simp[Zp]at h
 | cons e l ih =>
  intro u h;simp only[Zp,List.mem_cons]at h;rcases h with rfl|rfl|rfl|rfl|h;rfl;rfl;rfl;rfl;exact ih u h
theorem Zd6(k:Nat):(Ql #[.bool false,.slice none 0 0,.bool false,.slice none 0 0] k).toList=Zp (Qh k Zax):=by
 unfold Ql;apply QT;intro i;by_cases h:i<k*4
 ·have he:(Qh k Zax)[i/4]?=some Zax:=by rw[Qw,Gx Gk]
  have hc:=Zfk he;have h4:i%4=0 \/ i%4=1 \/ i%4=2 \/ i%4=3:=Gk;rcases h4 with h2|h2|h2|h2;rw[show i/4*4=i by omega]at hc;rw[hc.1];simp[h,h2,Zax];rw[show i/4*4+1=i by omega]at hc;rw[hc.2.1];simp[h,h2,Zax];rw[show i/4*4+2=i by omega]at hc;rw[hc.2.2.1];simp[h,h2,Zax];rw[show i/4*4+3=i by omega]at hc;rw[hc.2.2.2];simp[h,h2,Zax]
 rw[Qg Gg,Qg (by rw[Zt];simp;omega)]
def RowF(t:TypeId)(w:World)(base:Nat)(v:Value)(es:List FE):Prop:=
 (v=.slice none 0 0/\es=[]) \/ ∃ g sp,v=.slice (some ⟨g,0,none⟩) es.length (es.length+sp)/\base<=g/\es.length+sp<=maxLen/\Blk w g t (Z4 (es++Qh sp Zax))
section
variable{t:TypeId}{w w':World}{base:Nat}{v:Value}{es:List FE}
theorem RowF.own(h:RowF t w base v es):w.ownsRow base t 4 v es.length (Zp es):=by
 refine⟨Zt es,?_⟩;rcases h with ⟨h1,rfl⟩|⟨g,sp,h1,h2,h3,h4⟩;exact .inl ⟨h1,rfl⟩;refine .inr ⟨g,_,_,h1,h2,h4,QH _ _,h3,?_,?_⟩;simp[Z4,Zt];simp only[Z4];rw[Zal,<- Zt es];exact QM
theorem RowF.row_ge(h:RowF t w base v es):∀ k,v.ownBlock=some k->base<=k:=λk hk=>(h.own.lt k hk).1
theorem RowF.kept(h:RowF t w base v es)(hb:Below w.heap.size w w'):RowF t w' base v es:=by
 exact FJ
theorem RowF.keep(h:RowF t w base v es)(hg:w.grownBy w' v.ownBlock){A:Option Addr}{n c:Nat}{l:List Nat}(hL:Lim w A n c l):Lim w' A n c l:=by
 refine⟨hL.1,hL.2.1,hL.2.2.1,hL.2.2.2.1,λhn=>?_⟩;obtain⟨b,o,e,hc⟩:=hL.2.2.2.2 hn;refine⟨b,o,e,λk hk=>?_⟩;rw[<- hc k hk];refine Qy (hg.block b (Zo (hc k hk)) (λe'=>?_));rcases h with ⟨rfl,_⟩|⟨g,sp,rfl,_,_,h4⟩;cases e';have f:b=g:=by simpa [Value.ownBlock]using e'
 subst f;have h1:=hc k hk;rw[h4.cell]at h1;exact Zca _ _ _ h1
end
section
variable{P:Program}(w:World)
theorem Fi{G:Prop}(h:G:=by
 rw[List.getElem?_append_left (by rw[List.getElem?_eq_some_iff]at hu;exact hu.1)];exact hu):G:=h
theorem EJ{G:Prop}(h:G:=by
 refine(setRow_heap w g _ _ e _ h4).trans ?_;congr 2;unfold Z4;congr 1;rw[eb];have gG:List.replicate sp Zax=List.replicate m Zax++List.replicate (sp-m) Zax:=by rw[List.replicate_append_replicate];congr 1;omega
 have jJ:(Zp fs).length=(Zp (List.replicate m Zax)).length:=by rw[Zt,Zt,hm,List.length_replicate]
 simp only[Zal];rw[List.take_left,jJ,<- List.length_append,gG,Zal,<- List.append_assoc (Zp es),List.drop_left,List.append_assoc]):G:=h
theorem CK{G:Prop}(h:G:=by
 simp[Builtin.append_,run_underlying ht,sizeOf,typeInfo,hi,Builtin.lenOf,Builtin.firstCells,loadCells,loadCellsFrom]):G:=h
theorem CN{G:Prop}(h:G:=by
 simp[Builtin.append_,run_underlying ht,sizeOf,typeInfo,hi,Builtin.lenOf,Builtin.firstCells,loadCells,loadCellsFrom,storeCells]):G:=h
theorem EV{G:Prop}(h:G:=by
 have hf:=run_firstCells_some (P:=P) w i.size 0 ad 0 c [] Gh Gh;rcases ai with ⟨rfl,rfl⟩|⟨g,sp,rfl,h2,h3,h4⟩
 ·refine⟨.slice none 0 0,w,?_,.inl ⟨rfl,rfl⟩,World.grownBy.refl w _⟩
  exact CK
 refine⟨_,w,?_,.inr ⟨g,sp,rfl,h2,h3,h4⟩,World.grownBy.refl w _⟩;exact CN):G:=h
theorem Ea{G:Prop}(h:G:=by
 have:=heap_alloc_new w.drew (.cells ((Zp fs).toArray++Builtin.zeroCells (Value.agg #[.bool false,.slice none 0 0,.bool false,.slice none 0 0]).cells (grownCap w m 0 e-m)) e);unfold Blk;refine this.trans ?_;congr 1
 have hx:(Zp fs).toArray++Builtin.zeroCells (Value.agg #[.bool false,.slice none 0 0,.bool false,.slice none 0 0]).cells (grownCap w m 0 e-m)=Z4 ([]++fs++List.replicate (grownCap w m 0 e-m) Zax):=by
  apply Array.toList_inj.1;rw[Array.toList_append,show (Value.agg #[.bool false,.slice none 0 0,.bool false,.slice none 0 0]).cells=#[.bool false,.slice none 0 0,.bool false,.slice none 0 0] from rfl,Zd6];simp[Z4,Zal]
 rw[hx]):G:=h
theorem Eh{G:Prop}(h:G:=by
 have:=heap_alloc_new w.drew (.cells ((Zp es).toArray++(Zp fs).toArray++Builtin.zeroCells (Value.agg #[.bool false,.slice none 0 0,.bool false,.slice none 0 0]).cells (grownCap w (es.length+m) (es.length+sp) e-(es.length+m))) e);unfold Blk;refine this.trans ?_;congr 1
 have hx:(Zp es).toArray++(Zp fs).toArray++Builtin.zeroCells (Value.agg #[.bool false,.slice none 0 0,.bool false,.slice none 0 0]).cells (grownCap w (es.length+m) (es.length+sp) e-(es.length+m))=Z4 (es++fs++List.replicate (grownCap w (es.length+m) (es.length+sp) e-(es.length+m)) Zax):=by
  apply Array.toList_inj.1;rw[Array.toList_append,Array.toList_append,show (Value.agg #[.bool false,.slice none 0 0,.bool false,.slice none 0 0]).cells=#[.bool false,.slice none 0 0,.bool false,.slice none 0 0] from rfl,Zd6];simp[Z4,Zal]
 rw[hx]):G:=h
theorem Zlx(base:Nat)(t ty e:TypeId)(i:TypeInfo)(ht:P.underlying t=some (.slice e))(hi:P.info? e=some i)(hz:i.zero=some (.agg #[.bool false,.slice none 0 0,.bool false,.slice none 0 0]))
    (hs:i.size=4) (hby:i.bytes=64) (v:Value) (es:List FE) (ai:RowF e w base v es)
    (B:Nat) (A:Option Addr) (m c:Nat) (fs:List FE) (hr:Reads w B 4 A m (Zp fs)) (hm:fs.length=m) (h63:es.length+m<=1000) (hbase:base<=w.heap.size) :
    ∃ v' w',(Yb #[t,t] ty #[v,.slice A m c]).run P w=.ok v' w'/\RowF e w' base v' (es++fs)/\w.grownBy w' v.ownBlock:=by
 rcases QQ m with h0|h0
 ·subst h0
  obtain rfl:fs=[]:=Qo hm;rw[Yc];rcases A with _|ad;exact⟨v,w,Zcj w base t ty e i 4 ht hi v _ _ ai.own c,ai,World.grownBy.refl w _⟩;exact EV
 obtain⟨ad,rfl,_,hc⟩:=hr.2 h0;have hl:(Zp fs).length=m*i.size:=by rw[Zt,hm,hs]
 have eb:es.length*i.size=(Zp es).length:=by rw[Zt,hs]
 rcases ai with ⟨rfl,rfl⟩|⟨g,sp,rfl,h2,h3,h4⟩
 ·have f:=run_append_nil (P:=P) w t ty e i _ ht hi hz ad m c (Zp fs) hl hc h0 Gk (by rw[hby];omega)
  have h:=grownCap_ge w m 0 e;have o:=grownCap_le_maxLen w m 0 e (by unfold maxLen;simp only[Yd]at h63;omega);refine⟨_,_,f,.inr ⟨w.heap.size,grownCap w m 0 e-m,?_,hbase,?_,?_⟩,⟨rfl,rfl,rfl,by simp,λk hk _=>Below.heap_alloc w.drew _ k hk⟩⟩;rw[Qz,hm,Qj h];rw[Qz,hm,Qj h];exact o;exact Ea
 by_cases hroom:m<=sp
 ·have f:=run_append_room (P:=P) w t ty e i ht hi g es.length (es.length+sp) _ h4 ad m c (Zp fs) hl hc (Zjl fs) Gk (by rw[eb,Zt,Zt];simp[Z4,Zt];omega)
  refine⟨_,_,f,.inr ⟨g,sp-m,?_,h2,?_,?_⟩,⟨rfl,rfl,rfl,by simp[World.setRow],λk _ hk=>setRow_other w g k _ (λe'=>hk (by simp[Value.ownBlock,e']))⟩⟩;rw[Qi,hm,show es.length+m+(sp-m)=es.length+sp by omega];rw[Qi,hm];omega;exact EJ
 have y:∀ j u,(Zp es)[j]?=some u->w.cell? ((⟨g,0,none⟩:Addr).add j)=some u:=λj u hu=>by
   rw[Zg,QA,h4.cell];simp only[Z4,QN,Zal];exact Fi
 have f:=run_append_grow (P:=P) w t ty e i _ ht hi hz ⟨g,0,none⟩ es.length (es.length+sp) (Zp es) eb.symm y ad m c (Zp fs) hl hc Gk Gk (growslice_fits Gk (by rw[hby];omega));have h:=grownCap_ge w (es.length+m) (es.length+sp) e;have o:=grownCap_le_maxLen w (es.length+m) (es.length+sp) e (by unfold maxLen;omega);refine⟨_,_,f,.inr ⟨w.heap.size,grownCap w (es.length+m) (es.length+sp) e-(es.length+m),?_,hbase,?_,?_⟩,⟨rfl,rfl,rfl,by simp,λk hk _=>Below.heap_alloc w.drew _ k hk⟩⟩;rw[Qi,hm,Qj h];rw[Qi,hm,Qj h];exact o;exact Eh
end
def OwnF(t:TypeId)(w:World)(base:Nat)(v:Value)(qs:List Rat):Prop:=∃ es,RowF t w base v es/\(∀ e ∈ es,e.in_ w)/\es.map FE.q=qs
theorem Fr.of_keep{w w':World}{na:Bool}{A:Option Addr}{n c:Nat}{nb:Bool}{B:Option Addr}{m d:Nat}{r:Rat}(h:Fr w na A n c nb B m d r)(hk:∀ (A:Option Addr) (n c:Nat) (l:List Nat),Lim w A n c l->Lim w' A n c l):Fr w' na A n c nb B m d r:=⟨⟨h.1.1,h.1.2.1,hk _ _ _ _ h.1.2.2⟩,⟨h.2.1,h.2.2.1,hk _ _ _ _ h.2.2.2⟩⟩
section
variable{t:TypeId}{w w':World}{base:Nat}{v:Value}{qs:List Rat}
theorem OwnF.nil(t:TypeId)(w:World)(base:Nat):OwnF t w base (.slice none 0 0) []:=⟨[],.inl ⟨rfl,rfl⟩,λe h=>by simp at h,rfl⟩
theorem OwnF.kept(h:OwnF t w base v qs)(hb:Below w.heap.size w w'):OwnF t w' base v qs:=by
 obtain⟨es,h1,h2,h3⟩:=h;exact⟨es,h1.kept hb,λe he=>(h2 e he).below hb,h3⟩
theorem OwnF.row_ge(h:OwnF t w base v qs):∀ k,v.ownBlock=some k->base<=k:=by obtain⟨es,h1,_⟩:=h;exact h1.row_ge
def FL(w:World)(A:Option Addr)(n c:Nat)(qs:List Rat):Prop:=
 ∃ es:List FE,es.length=n/\n<=c/\c<=maxLen/\(∀ e ∈ es,e.in_ w)/\es.map FE.q=qs/\(0<n->∃ g o,A=some ⟨g,o,none⟩/\∀ (k:Nat) (e:FE),es[k]?=some e->w.cell? ⟨g,o+k*4,none⟩=some (.bool e.na)/\w.cell? ⟨g,o+(k*4+1),none⟩=some (.slice e.A e.n e.c)/\w.cell? ⟨g,o+(k*4+2),none⟩=some (.bool e.nb)/\w.cell? ⟨g,o+(k*4+3),none⟩=some (.slice e.B e.m e.d))
theorem OwnF.fl(h:OwnF t w base v qs):∃ A c,v=.slice A qs.length c/\FL w A qs.length c qs:=by
 obtain⟨es,h1,h2,rfl⟩:=h;rcases h1 with ⟨rfl,rfl⟩|⟨g,sp,rfl,h4,h5,h6⟩;exact⟨none,0,rfl,[],rfl,Qc _,QX _,λe h=>by simp at h,rfl,λh=>absurd h Gh⟩;rw[Qq];refine⟨_,es.length+sp,rfl,es,rfl,QH _ _,h5,h2,rfl,λ_=>⟨g,0,rfl,λk e he=>?_⟩⟩;have hk:k<es.length:=(List.getElem?_eq_some_iff.1 he).1;have hc:=Zdz (es:=es++Qh sp Zax) (i:=k) (e:=e) (by rw[Qt hk];exact he);simp only[QA,h6.cell];exact hc
theorem FL.below{A:Option Addr}{n c:Nat}(h:FL w A n c qs)(hb:Below w.heap.size w w'):FL w' A n c qs:=by
 obtain⟨es,h1,h2,h3,h4,h5,h6⟩:=h;refine⟨es,h1,h2,h3,λe he=>(h4 e he).below hb,h5,λhn=>?_⟩;obtain⟨g,o,e1,hc⟩:=h6 hn;refine⟨g,o,e1,λk e he=>?_⟩;obtain⟨a,b,c',d⟩:=hc k e he;exact⟨(hb.cell (Zo a)).trans a,(hb.cell (Zo b)).trans b,(hb.cell (Zo c')).trans c',(hb.cell (Zo d)).trans d⟩
end
theorem Zb7{w:World}{g:Nat}{t:TypeId}{na:Bool}{A:Option Addr}{n c:Nat}{nb:Bool}{B:Option Addr}{m d:Nat}(q:Rat)(h:Blk w g t #[.bool na,.slice A n c,.bool nb,.slice B m d]):Reads w (g+1) 4 (some ⟨g,0,none⟩) 1 (Zp [⟨na,A,n,c,nb,B,m,d,q⟩]):=
 ⟨rfl,λ_=>⟨_,rfl,QI _,λj u hu=>by
  rw[Zg,QA,h.cell];simpa [Zp]using hu⟩⟩
section
variable{P:Program}(w:World)
theorem IE{G:Prop}(h:G:=by
 rcases List.mem_append.1 he with he|he;exact(h2 e he).of_keep hk;exact(iC e he).of_keep hk):G:=h
theorem Zhl{o:Oper}{a:Act}{K:Act->World->Prop}{Q:Exit->Act->World->Prop}(s x:Operand)(t:TypeId)
    (ho:o.op=.call { callee:=.builtin .append,args:=#[s,x],argTypes:=#[t,t] })
    (base:Nat) (e:TypeId) (i:TypeInfo) (ht:P.underlying t=some (.slice e)) (hi:P.info? e=some i) (hz:i.zero=some (.agg #[.bool false,.slice none 0 0,.bool false,.slice none 0 0])) (hsi:i.size=4) (hby:i.bytes=64)
    (v:Value) (qs:List Rat) (hs:a.eval s=v) (hown:OwnF e w base v qs)
    (B:Nat) (A:Option Addr) (m c:Nat) (fs:List FE) (hx:a.eval x=.slice A m c) (hr:Reads w B 4 A m (Zp fs)) (hm:fs.length=m) (iC:∀ e ∈ fs,e.in_ w)
    (h63:qs.length+m<=1000) (hbase:base<=w.heap.size)
    (h:∀ v' w',OwnF e w' base v' (qs++fs.map FE.q)->w.grownBy w' v.ownBlock->(∀ (A:Option Addr) (n c:Nat) (l:List Nat),Lim w A n c l->Lim w' A n c l)->K (a.put o.dst v') w'):o.wp P a w K Q:=by
 obtain⟨es,h1,h2,rfl⟩:=hown;rw[Qq]at h63;obtain⟨v',w',f,h3,h4⟩:=Zlx (P:=P) w base t o.type e i ht hi hz hsi hby v es h1 B A m c fs hr hm h63 hbase;unfold Oper.wp execOp;simp only[ho,resolve,invoke,builtin,Sem.run_bind,Sem.run_pure,Result.andThen_ok,List.map_toArray,List.map_cons,List.map_nil,hs,hx,f];have hk:∀ (A:Option Addr) (n c:Nat) (l:List Nat),Lim w A n c l->Lim w' A n c l:=λ_ _ _ _ hL=>h1.keep h4 hL;refine h v' w' ⟨es++fs,h3,λe he=>?_,by rw[Ye]⟩ h4 hk;exact IE
theorem Zdo{ops:Array Oper}{rest:List Oper}{o:Oper}{a:Act}{Q:Exit->Act->World->Prop}(hgd:o.guard=none)(s x:Operand)(t:TypeId)
    (ho:o.op=.call { callee:=.builtin .append,args:=#[s,x],argTypes:=#[t,t] })
    (base:Nat) (e:TypeId) (i:TypeInfo) (ht:P.underlying t=some (.slice e)) (hi:P.info? e=some i) (hz:i.zero=some (.agg #[.bool false,.slice none 0 0,.bool false,.slice none 0 0])) (hsi:i.size=4) (hby:i.bytes=64)
    (v:Value) (qs:List Rat) (hs:a.eval s=v) (hown:OwnF e w base v qs)
    (B:Nat) (A:Option Addr) (m c:Nat) (fs:List FE) (hx:a.eval x=.slice A m c) (hr:Reads w B 4 A m (Zp fs)) (hm:fs.length=m) (hfs:∀ e ∈ fs,e.in_ w)
    (h63:qs.length+m<=1000) (hbase:base<=w.heap.size)
    (h:∀ v' w',OwnF e w' base v' (qs++fs.map FE.q)->w.grownBy w' v.ownBlock->(∀ (A:Option Addr) (n c:Nat) (l:List Nat),Lim w A n c l->Lim w' A n c l)->wpList P ops Q rest (a.put o.dst v') w'):wpList P ops Q (o::rest) a w:=
 wpList_plain hgd λ_ hK=>Zhl w s x t ho base e i ht hi hz hsi hby v qs hs hown B A m c fs hx hr hm hfs h63 hbase λv' w' h2 h3 h4=>hK _ _ (h v' w' h2 h3 h4)
end
def okF(na:Bool)(la:List Nat)(nb:Bool)(lb:List Nat):Bool:=okW na la && okW nb lb && !nb && decide (0<lb.length) && decide (QD (val la) (val lb)=1)
def qOf(na:Bool)(la lb:List Nat):Rat:=Qv (sg na (val la)) (val lb:Nat)
theorem Zk6{w:World}{na nb:Bool}{A B:Option Addr}{n c m d:Nat}{la lb:List Nat}(ha:Lim w A n c la)(hb:Lim w B m d lb)(hk:okF na la nb lb=true):Fr w na A n c nb B m d (qOf na la lb):=by
 simp only[okF,QZ,Bool.not_eq_true',decide_eq_true_eq]at hk;obtain⟨⟨⟨⟨k1,k2⟩,rfl⟩,k4⟩,k5⟩:=hk;have h2:=(Zjv hb.lt).1 k2;have e2:(sg false (val lb)).natAbs=val lb:=Z8 _ _;rw[e2]at h2
 have hp:0<val lb:=by
  rw[h2.2.2]at k4;exact length_digits_pos.1 k4
 have hl:Low (sg na (val la)) (val lb:Nat):=⟨by omega,by rw[Z8,QF];exact k5⟩;obtain⟨r1,r2⟩:=rat_low hl;have w1:=Wd.of_ok ha k1;have w2:=Wd.of_ok hb k2;have e3:sg false (val lb)=(val lb:Nat):=rfl;rw[e3]at w2;refine⟨?_,?_⟩;unfold qOf;rw[r1];exact w1;unfold qOf;rw[r2];exact w2
theorem Zr5(na nb:Bool)(A B:Option Addr)(n c m d:Nat)(la lb:List Nat)(w:World)(ha:Lim w A n c la)(hb:Lim w B m d lb)(hbad:(okW na la && okW nb lb)=false) :
    Calls Tryz.prog 110 #[.agg #[.bool na,.slice A n c,.bool nb,.slice B m d]] w λe w'=>e=.returned (.int .i64 8)/\Below w.heap.size w w':=by
 have hmx:=Gt;obtain⟨W0,u,h,q0,s0⟩:=Zan w 41 #[.bool na,.slice A n c,.bool nb,.slice B m d];have hA:=Zb (ha.below h);have hD:=Zb (hb.below h);clear ha hb;obtain⟨a0,a1,a2,a3,-⟩:=q0.four;replace q0:=Zb q0;go_in;go_wp2_with fail;refine(Gcd_bad na nb A B n c m d la lb W0 hA.out hD.out hbad).mono ?_;rintro e w1 ⟨rfl,o⟩;have f:Below w.heap.size w w1:=Gs h o;clear u a0 a1 a2 a3 o;obtain⟨W4,C,y,q4,kW,kB,s4⟩:=Zs 39 #[.bool false,.slice none 0 0] f f.size;obtain⟨g0,g1,f0,f1⟩:=q4.two;go_wp2_with fail;refine Zy [] (λwx=>True) hmx trivial (λ_=>?_);refine wpAnyL_o 0 λK hK=>?_;go_simp;refine hK.out _ _ (λ_=>trivial) ?_;clear hK K
 try simp only[Qa,Zhb,Zgo,Zg6]
 refine wpAnyL_o 1 λK hK=>?_;go_simp;refine hK.out _ _ (λ_=>trivial) ?_;clear hK K
 try simp only[Qa,Zhb,Zgo,Zg6]
 refine wpAnyL_o 2 λK hK=>?_;go_simp;refine hK.out _ _ (λ_=>trivial) ?_;clear hK K
 try simp only[Qa,Zhb,Zgo,Zg6]
 refine wpAnyL_o 3 λK hK=>?_;go_simp;refine hK.out _ _ (λ_=>trivial) ?_;clear hK K
 try simp only[Qa,Zhb,Zgo,Zg6]
 refine wpAnyL_o 4 λK hK=>?_;go_simp;refine hK.out _ _ (λ_=>trivial) ?_;clear hK K
 try simp only[Qa,Zhb,Zgo,Zg6]
 refine wpAnyL_o 5 λK hK=>?_;go_simp;refine hK.out _ _ (λ_=>trivial) ?_;clear hK K
 try simp only[Qa,Zhb,Zgo,Zg6]
 refine wpAnyL_o 6 λK hK=>?_;go_simp;refine hK.out _ _ (λ_=>trivial) ?_;clear hK K
 try simp only[Qa,Zhb,Zgo,Zg6]
 refine wpAnyL_o 7 λK hK=>?_;go_simp;refine hK.out _ _ (λ_=>trivial) ?_;clear hK K
 try simp only[Qa,Zhb,Zgo,Zg6]
 refine wpAnyL_o 8 λK hK=>?_;go_simp;refine hK.out _ _ (λ_=>trivial) ?_;clear hK K
 try simp only[Qa,Zhb,Zgo,Zg6]
 refine wpAnyL_o 9 λK hK=>?_;go_simp;refine hK.out _ _ (λ_=>trivial) ?_;clear hK K
 try simp only[Qa,Zhb,Zgo,Zg6]
 refine wpAnyL_o 10 λK hK=>?_;go_simp;refine hK.out _ _ (λ_=>trivial) ?_;clear hK K
 try simp only[Qa,Zhb,Zgo,Zg6]
 refine wpAnyL_o 11 λK hK=>?_;go_simp;refine hK.out _ _ (λ_=>trivial) ?_;clear hK K
 try simp only[Qa,Zhb,Zgo,Zg6]
 refine wpAnyL_o 12 λK hK=>?_;go_simp;refine hK.out _ _ (λ_=>trivial) ?_;clear hK K
 try simp only[Qa,Zhb,Zgo,Zg6]
 refine Zd (i:=13) (v:=undef) rfl Gi Gi Gi Gi Gi (Or.inr ⟨by rfl,rfl⟩) trivial ?_
 try simp only[Qa,Zhb,Zgo,Zg6]
 refine wpAnyL_o 14 λK hK=>?_;go_simp;refine hK.out _ _ (λ_=>trivial) ?_;clear hK K
 try simp only[Qa,Zhb,Zgo,Zg6]
 refine wpAnyL_o 15 λK hK=>?_;go_simp;refine hK.out _ _ (λ_=>trivial) ?_;clear hK K
 try simp only[Qa,Zhb,Zgo,Zg6]
 refine wpAnyL_o 16 λK hK=>?_;go_simp;refine hK.out _ _ (λ_=>trivial) ?_;clear hK K
 try simp only[Qa,Zhb,Zgo,Zg6]
 refine wpAnyL_o 17 λK hK=>?_;go_simp;refine hK.out _ _ (λ_=>trivial) ?_;clear hK K
 try simp only[Qa,Zhb,Zgo,Zg6]
 refine wpAnyL_fin ?_;go_wp2_with fail;go_ret;exact⟨rfl,Zf ((y.setCell (p:=⟨w1.heap.size,0,none⟩) f.size (.bool false)).setCell (p:=⟨w1.heap.size,1,none⟩) f.size (.slice none 0 0)) 1⟩
theorem Zrw(na:Bool)(A B:Option Addr)(n c m d:Nat)(za zb:Int)(w:World)(ha:Wd w na A n c za)(hb:Wd w true B m d zb) :
    Calls Tryz.prog 110 #[.agg #[.bool na,.slice A n c,.bool true,.slice B m d]] w λe w'=>e=.returned (.int .i64 8)/\Below w.heap.size w w':=by
 have hmx:=Gt;have O:QD za.natAbs zb.natAbs<pw 4096:=Zdu ha.small hb.small;obtain⟨W0,y,f,q0,s0⟩:=Zan w 41 #[.bool na,.slice A n c,.bool true,.slice B m d];have hA:=Zb (ha.below f);have hD:=Zb (hb.below f);clear ha hb;obtain⟨a0,a1,a2,a3,-⟩:=q0.four;go_in;go_wp2_with fail;refine(Zky na true A B n c m d za zb W0 hA.out hD.out).mono ?_;rintro e w1 ⟨h,ng,Ag,kg,cg,code,rfl,hR⟩;rcases hR with ⟨-,rfl,I⟩|⟨u,-⟩
 case inr=>exact absurd u Gk
 have o:Below w.heap.size w w1:=Gs f h;replace q0:=Zc h q0;clear y a0 a1 a2 a3 h;obtain⟨W4,J,C,q4,kW,kB,s4⟩:=Zs 39 #[.bool ng,.slice Ag kg cg] o o.size;replace q0:=kB _ _ _ q0;obtain⟨g0,g1,f0,f1⟩:=q4.two;obtain⟨a0,a1,a2,a3,-⟩:=q0.four;go_wp2_with fail;refine Zy [] (λwx=>wx.cell? ⟨w.heap.size,2,none⟩=some (.bool true)) hmx a2 (λ_=>?_);refine wpAnyL_o 0 λK hK=>?_;go_simp;refine hK.out _ _ (λ_=>a2) ?_;clear hK K
 try simp only[Qa,Zhb,Zgo,Zg6]
 refine wpAnyL_o 1 λK hK=>?_;go_simp;refine hK.out _ _ (λ_=>a2) ?_;clear hK K
 try simp only[Qa,Zhb,Zgo,Zg6]
 refine wpAnyL_o 2 λK hK=>?_;go_simp;refine hK.out _ _ (λ_=>a2) ?_;clear hK K
 try simp only[Qa,Zhb,Zgo,Zg6]
 refine wpAnyL_o 3 λK hK=>?_;go_simp;refine hK.out _ _ (λ_=>a2) ?_;clear hK K
 try simp only[Qa,Zhb,Zgo,Zg6]
 refine wpAnyL_o 4 λK hK=>?_;go_simp;refine hK.out _ _ (λ_=>a2) ?_;clear hK K
 try simp only[Qa,Zhb,Zgo,Zg6]
 refine wpAnyL_o 5 λK hK=>?_;go_simp;refine hK.out _ _ (λ_=>a2) ?_;clear hK K
 try simp only[Qa,Zhb,Zgo,Zg6]
 refine wpAnyL_o 6 λK hK=>?_;go_simp;refine hK.out _ _ (λ_=>a2) ?_;clear hK K
 try simp only[Qa,Zhb,Zgo,Zg6]
 refine wpAnyL_o 7 λK hK=>?_;go_simp;refine hK.out _ _ (λ_=>a2) ?_;clear hK K
 try simp only[Qa,Zhb,Zgo,Zg6]
 refine wpAnyL_o 8 λK hK=>?_;go_simp;refine hK.out _ _ (λ_=>a2) ?_;clear hK K
 try simp only[Qa,Zhb,Zgo,Zg6]
 refine wpAnyL_o 9 λK hK=>?_;go_simp;refine hK.out _ _ (λ_=>a2) ?_;clear hK K
 try simp only[Qa,Zhb,Zgo,Zg6]
 refine wpAnyL_o 10 λK hK=>?_;go_simp;refine hK.out _ _ (λ_=>a2) ?_;clear hK K
 try simp only[Qa,Zhb,Zgo,Zg6]
 refine wpAnyL_o 11 λK hK=>?_;go_simp;refine hK.out _ _ (λ_=>a2) ?_;clear hK K
 try simp only[Qa,Zhb,Zgo,Zg6]
 refine wpAnyL_o 12 λK hK=>?_;go_simp;refine hK.out _ _ (λ_=>a2) ?_;clear hK K
 try simp only[Qa,Zhb,Zgo,Zg6]
 refine Zd (i:=13) (v:=undef) rfl Gi Gi Gi Gi Gi (Or.inr ⟨by rfl,rfl⟩) a2 ?_
 try simp only[Qa,Zhb,Zgo,Zg6]
 refine wpAnyL_o 14 λK hK=>?_;go_simp;refine hK.out _ _ (λ_=>a2) ?_;clear hK K
 try simp only[Qa,Zhb,Zgo,Zg6]
 refine wpAnyL_o 15 λK hK=>?_;go_simp;refine hK.out _ _ (λ_=>a2) ?_;clear hK K
 try simp only[Qa,Zhb,Zgo,Zg6]
 refine wpAnyL_o 16 λK hK=>?_;go_simp;refine hK.out _ _ (λ_=>a2) ?_;clear hK K
 try simp only[Qa,Zhb,Zgo,Zg6]
 refine wpAnyL_o 17 λK hK=>?_;go_simp;refine hK.out _ _ (λ_=>a2) ?_;clear hK K
 try simp only[Qa,Zhb,Zgo,Zg6]
 refine wpAnyL_fin ?_;go_wp2_with fail;go_ret;exact⟨rfl,Zf C 1⟩
theorem Zrv(na:Bool)(A B:Option Addr)(n c d:Nat)(za:Int)(w:World)(ha:Wd w na A n c za)(hb:Wd w false B 0 d 0) :
    Calls Tryz.prog 110 #[.agg #[.bool na,.slice A n c,.bool false,.slice B 0 d]] w λe w'=>e=.returned (.int .i64 8)/\Below w.heap.size w w':=by
 have hmx:=Gt;have U:QD za.natAbs (Int.natAbs 0)<pw 4096:=Zdu ha.small hb.small;obtain⟨W0,I,h,q0,s0⟩:=Zan w 41 #[.bool na,.slice A n c,.bool false,.slice B 0 d];have hA:=Zb (ha.below h);have hD:=Zb (hb.below h);clear ha hb;obtain⟨a0,a1,a2,a3,-⟩:=q0.four;go_in;go_wp2_with fail;refine(Zky na false A B n c 0 d za 0 W0 hA.out hD.out).mono ?_;rintro e w1 ⟨o,ng,Ag,kg,cg,code,rfl,hR⟩;rcases hR with ⟨-,rfl,O⟩|⟨C,-⟩
 case inr=>exact absurd C Gk
 have u:Below w.heap.size w w1:=Gs h o;replace q0:=Zc o q0;clear I a0 a1 a2 a3 o;obtain⟨W4,T,y,q4,kW,kB,s4⟩:=Zs 39 #[.bool ng,.slice Ag kg cg] u u.size;replace q0:=kB _ _ _ q0;obtain⟨g0,g1,f0,f1⟩:=q4.two;obtain⟨a0,a1,a2,a3,-⟩:=q0.four;go_wp2_with fail;refine Zy [] (λwx=>wx.cell? ⟨w.heap.size,2,none⟩=some (.bool false)/\wx.cell? ⟨w.heap.size,3,none⟩=some (.slice B 0 d)) hmx ⟨a2,a3⟩ (λ_=>?_);refine wpAnyL_o 0 λK hK=>?_;go_simp;refine hK.out _ _ (λ_=>⟨a2,a3⟩) ?_;clear hK K
 try simp only[Qa,Zhb,Zgo,Zg6]
 refine wpAnyL_o 1 λK hK=>?_;go_simp;refine hK.out _ _ (λ_=>⟨a2,a3⟩) ?_;clear hK K
 try simp only[Qa,Zhb,Zgo,Zg6]
 refine wpAnyL_o 2 λK hK=>?_;go_simp;refine hK.out _ _ (λ_=>⟨a2,a3⟩) ?_;clear hK K
 try simp only[Qa,Zhb,Zgo,Zg6]
 refine wpAnyL_o 3 λK hK=>?_;go_simp;refine hK.out _ _ (λ_=>⟨a2,a3⟩) ?_;clear hK K
 try simp only[Qa,Zhb,Zgo,Zg6]
 refine wpAnyL_o 4 λK hK=>?_;go_simp;refine hK.out _ _ (λ_=>⟨a2,a3⟩) ?_;clear hK K
 try simp only[Qa,Zhb,Zgo,Zg6]
 refine wpAnyL_o 5 λK hK=>?_;go_simp;refine hK.out _ _ (λ_=>⟨a2,a3⟩) ?_;clear hK K
 try simp only[Qa,Zhb,Zgo,Zg6]
 refine wpAnyL_o 6 λK hK=>?_;go_simp;refine hK.out _ _ (λ_=>⟨a2,a3⟩) ?_;clear hK K
 try simp only[Qa,Zhb,Zgo,Zg6]
 refine wpAnyL_o 7 λK hK=>?_;go_simp;refine hK.out _ _ (λ_=>⟨a2,a3⟩) ?_;clear hK K
 try simp only[Qa,Zhb,Zgo,Zg6]
 refine wpAnyL_o 8 λK hK=>?_;go_simp;refine hK.out _ _ (λ_=>⟨a2,a3⟩) ?_;clear hK K
 try simp only[Qa,Zhb,Zgo,Zg6]
 refine wpAnyL_o 9 λK hK=>?_;go_simp;refine hK.out _ _ (λ_=>⟨a2,a3⟩) ?_;clear hK K
 try simp only[Qa,Zhb,Zgo,Zg6]
 refine wpAnyL_o 10 λK hK=>?_;go_simp;refine(Zka _ _ _ _ _ Gk true rfl).mono ?_;rintro e w3 ⟨rfl,J⟩;have f:=Zu J;have k2:=Za f a2;have k3:=Za f a3;refine hK.out _ _ (λ_=>⟨k2,k3⟩) ?_;clear hK K
 try simp only[Qa,Zhb,Zgo,Zg6]
 refine wpAnyL_o 11 λK hK=>?_;go_simp;refine hK.out _ _ (λ_=>⟨k2,k3⟩) ?_;clear hK K
 try simp only[Qa,Zhb,Zgo,Zg6]
 refine wpAnyL_o 12 λK hK=>?_;go_simp;refine hK.out _ _ (λ_=>⟨k2,k3⟩) ?_;clear hK K
 try simp only[Qa,Zhb,Zgo,Zg6]
 refine Zd (i:=13) (v:=undef) rfl Gi Gi Gi Gi Gi (Or.inr ⟨by rfl,rfl⟩) ⟨k2,k3⟩ ?_
 try simp only[Qa,Zhb,Zgo,Zg6]
 refine wpAnyL_o 14 λK hK=>?_;go_simp;refine hK.out _ _ (λ_=>⟨k2,k3⟩) ?_;clear hK K
 try simp only[Qa,Zhb,Zgo,Zg6]
 refine wpAnyL_o 15 λK hK=>?_;go_simp;refine hK.out _ _ (λ_=>⟨k2,k3⟩) ?_;clear hK K
 try simp only[Qa,Zhb,Zgo,Zg6]
 refine wpAnyL_o 16 λK hK=>?_;go_simp;refine hK.out _ _ (λ_=>⟨k2,k3⟩) ?_;clear hK K
 try simp only[Qa,Zhb,Zgo,Zg6]
 refine wpAnyL_o 17 λK hK=>?_;go_simp;refine hK.out _ _ (λ_=>⟨k2,k3⟩) ?_;clear hK K
 try simp only[Qa,Zhb,Zgo,Zg6]
 refine wpAnyL_fin ?_;go_wp2_with fail;go_ret;exact⟨rfl,Gs y f⟩
theorem Zme(na nb:Bool)(A B:Option Addr)(n c m d:Nat)(la lb:List Nat)(w:World)(ha:Lim w A n c la)(hb:Lim w B m d lb)(x:Bool)(hx:okF na la nb lb=x) :
    Calls Tryz.prog 110 #[.agg #[.bool na,.slice A n c,.bool nb,.slice B m d]] w λe w'=>e=.returned (.int .i64 (Zfr x))/\Below w.heap.size w w':=by
 cases x
 ·simp only[okF,Bool.and_eq_false_iff,Bool.not_eq_false',decide_eq_false_iff_not]at hx
  by_cases h1:(okW na la && okW nb lb)=true
  ·have h:=h1
   rw[QZ]at h1;have hA:=Wd.of_ok ha h1.1;have hD:=Wd.of_ok hb h1.2;cases nb
   ·by_cases hz:0<lb.length
    ·have e3:sg false (val lb)=(val lb:Nat):=rfl
     rw[e3]at hD;have h2:=(Zjv hb.lt).1 h1.2;have e2:(sg false (val lb)).natAbs=val lb:=Z8 _ _;rw[e2]at h2
     have hp:0<val lb:=by
      rw[h2.2.2]at hz;exact length_digits_pos.1 hz
     refine Zmb na A B n c m d _ _ w hA hD Gk false ?_;rw[Z8,QF];rcases hx with (((hx|hx)|hx)|hx)|hx;rw[h1.1]at hx;cases hx;rw[h1.2]at hx;cases hx;cases hx;omega;simp;omega
    have f:lb=[]:=Qo Gk;subst f;have hm:m=0:=hb.len.symm;subst hm;exact Zrv na A B n c d _ w hA hD
   exact Zrw na A B n c m d _ _ w hA hD
  exact Zr5 na nb A B n c m d la lb w ha hb (by simpa using h1)
 exact Zeh na nb A B n c m d _ w (Zk6 ha hb hx)
structure FX where
 na:Bool
 A:Option Addr
 n:Nat
 c:Nat
 la:List Nat
 nb:Bool
 B:Option Addr
 m:Nat
 d:Nat
 lb:List Nat
def FX.in_(w:World)(e:FX):Prop:=Lim w e.A e.n e.c e.la/\Lim w e.B e.m e.d e.lb
def FX.ok(e:FX):Bool:=okF e.na e.la e.nb e.lb
def FX.q(e:FX):Rat:=qOf e.na e.la e.lb
def FX.few(e:FX):Nat:=max e.n e.m
def At4(w:World)(g o:Nat)(na:Bool)(A:Option Addr)(n c:Nat)(nb:Bool)(B:Option Addr)(m d:Nat):Prop:=
 w.cell? ⟨g,o,none⟩=some (.bool na)/\w.cell? ⟨g,o+1,none⟩=some (.slice A n c)/\w.cell? ⟨g,o+2,none⟩=some (.bool nb)/\w.cell? ⟨g,o+3,none⟩=some (.slice B m d)
theorem At4.below{w w':World}{g o:Nat}{na:Bool}{A:Option Addr}{n c:Nat}{nb:Bool}{B:Option Addr}{m d:Nat}(h:At4 w g o na A n c nb B m d)(hb:Below w.heap.size w w'):At4 w' g o na A n c nb B m d:=
 ⟨Za hb h.1,Za hb h.2.1,Za hb h.2.2.1,Za hb h.2.2.2⟩
def FXL(w:World)(A:Option Addr)(n c:Nat)(es:List FX):Prop:=
 es.length=n/\n<=c/\c<=maxLen/\(∀ e ∈ es,e.in_ w)/\(0<n->∃ g o,A=some ⟨g,o,none⟩/\∀ (k:Nat) (e:FX),es[k]?=some e->At4 w g (o+k*4) e.na e.A e.n e.c e.nb e.B e.m e.d)
section
variable{w w':World}{A:Option Addr}{n c:Nat}{es:List FX}
theorem FX.in_below{e:FX}(h:e.in_ w)(hb:Below w.heap.size w w'):e.in_ w':=⟨h.1.below hb,h.2.below hb⟩
theorem FXL.below(h:FXL w A n c es)(hb:Below w.heap.size w w'):FXL w' A n c es:=by
 obtain⟨h1,h2,h3,h4,h5⟩:=h;refine⟨h1,h2,h3,λe he=>FX.in_below (h4 e he) hb,λhn=>?_⟩;obtain⟨g,o,e1,hc⟩:=h5 hn;exact⟨g,o,e1,λk e he=>(hc k e he).below hb⟩
theorem FXL.at_(h:FXL w A n c es){k:Nat}(hk:k<n):∃ g o e,A=some ⟨g,o,none⟩/\es[k]?=some e/\At4 w g (o+k*4) e.na e.A e.n e.c e.nb e.B e.m e.d/\Lim w e.A e.n e.c e.la/\Lim w e.B e.m e.d e.lb:=by
 obtain⟨h1,-,-,h4,h5⟩:=h;obtain⟨g,o,e1,hc⟩:=h5 Gk;have he:=Qb (l:=es) (i:=k) Gk;have hi:=h4 es[k] (Qx _);exact⟨g,o,es[k],e1,he,hc k _ he,hi.1,hi.2⟩
theorem FXL.fl(h:FXL w A n c es)(hk:∀ e ∈ es,e.ok=true):FL w A n c (es.map FX.q):=by
 obtain⟨h1,h2,h3,h4,h5⟩:=h;refine⟨es.map λe=>⟨e.na,e.A,e.n,e.c,e.nb,e.B,e.m,e.d,e.q⟩,by simp[h1],h2,h3,λe he=>?_,by rw[List.map_map];rfl,λhn=>?_⟩
 ·obtain⟨x,hx,rfl⟩:=List.mem_map.1 he
  exact Zk6 (h4 x hx).1 (h4 x hx).2 (hk x hx)
 obtain⟨g,o,e1,hc⟩:=h5 hn;refine⟨g,o,e1,λk e he=>?_⟩;rw[Qd]at he;obtain⟨x,hx,rfl⟩:=Option.map_eq_some_iff.1 he;exact hc k x hx
end
structure RX where
 A:Option Addr
 n:Nat
 c:Nat
 es:List FX
def MXL(w:World)(A:Option Addr)(n c:Nat)(rs:List RX):Prop:=
 rs.length=n/\n<=c/\c<=maxLen/\(∀ r ∈ rs,FXL w r.A r.n r.c r.es)/\(0<n->∃ g o,A=some ⟨g,o,none⟩/\∀ (k:Nat) (r:RX),rs[k]?=some r->w.cell? ⟨g,o+k,none⟩=some (.slice r.A r.n r.c))
def MFL(w:World)(A:Option Addr)(n c:Nat)(Q:List (List Rat)):Prop:=
 Q.length=n/\n<=c/\c<=maxLen/\(0<n->∃ g o,A=some ⟨g,o,none⟩/\∀ (k:Nat) (q:List Rat),Q[k]?=some q->∃ A' n' c',w.cell? ⟨g,o+k,none⟩=some (.slice A' n' c')/\FL w A' n' c' q)
section
variable{w w':World}{A:Option Addr}{n c:Nat}{rs:List RX}{Q:List (List Rat)}{qs:List Rat}
theorem MXL.below(h:MXL w A n c rs)(hb:Below w.heap.size w w'):MXL w' A n c rs:=by
 obtain⟨h1,h2,h3,h4,h5⟩:=h;refine⟨h1,h2,h3,λr hr=>(h4 r hr).below hb,λhn=>?_⟩;obtain⟨g,o,e1,hc⟩:=h5 hn;exact⟨g,o,e1,λk r hr=>Za hb (hc k r hr)⟩
theorem MXL.at_(h:MXL w A n c rs){k:Nat}(hk:k<n):∃ g o r,A=some ⟨g,o,none⟩/\rs[k]?=some r/\w.cell? ⟨g,o+k,none⟩=some (.slice r.A r.n r.c)/\FXL w r.A r.n r.c r.es:=by
 obtain⟨h1,-,-,h4,h5⟩:=h;obtain⟨g,o,e1,hc⟩:=h5 Gk;have he:=Qb (l:=rs) (i:=k) Gk;exact⟨g,o,rs[k],e1,he,hc k _ he,h4 rs[k] (Qx _)⟩
theorem MXL.mfl(h:MXL w A n c rs)(hk:∀ r ∈ rs,∀ e ∈ r.es,e.ok=true):MFL w A n c (rs.map λr=>r.es.map FX.q):=by
 obtain⟨h1,h2,h3,h4,h5⟩:=h;refine⟨by simp[h1],h2,h3,λhn=>?_⟩;obtain⟨g,o,e1,hc⟩:=h5 hn;refine⟨g,o,e1,λk q hq=>?_⟩;rw[Qd]at hq;obtain⟨r,hr,rfl⟩:=Option.map_eq_some_iff.1 hq;exact⟨r.A,r.n,r.c,hc k r hr,(h4 r (QO hr)).fl (hk r (QO hr))⟩
theorem MFL.below(h:MFL w A n c Q)(hb:Below w.heap.size w w'):MFL w' A n c Q:=by
 obtain⟨h1,h2,h3,h5⟩:=h;refine⟨h1,h2,h3,λhn=>?_⟩;obtain⟨g,o,e1,hc⟩:=h5 hn;refine⟨g,o,e1,λk q hq=>?_⟩;obtain⟨A',n',c',h6,h7⟩:=hc k q hq;exact⟨A',n',c',Za hb h6,h7.below hb⟩
theorem MFL.at_(h:MFL w A n c Q){k:Nat}(hk:k<n):∃ g o A' n' c',A=some ⟨g,o,none⟩/\w.cell? ⟨g,o+k,none⟩=some (.slice A' n' c')/\FL w A' n' c' (Q[k]?.getD []):=by
 obtain⟨h1,-,-,h5⟩:=h;obtain⟨g,o,e1,hc⟩:=h5 Gk;have he:=Qb (l:=Q) (i:=k) Gk;obtain⟨A',n',c',h6,h7⟩:=hc k _ he;rw[he];exact⟨g,o,A',n',c',e1,h6,h7⟩
theorem FL.len(h:FL w A n c qs):qs.length=n:=by obtain⟨es,h1,-,-,-,h5,-⟩:=h;rw[<- h5,Qq,h1]
theorem FL.cap(h:FL w A n c qs):n<=c/\c<=maxLen:=by obtain⟨es,h1,h2,h3,-⟩:=h;exact⟨h2,h3⟩
theorem FL.at_(h:FL w A n c qs){k:Nat}(hk:k<n):∃ g o na A1 n1 c1 nb B m d,A=some ⟨g,o,none⟩/\At4 w g (o+k*4) na A1 n1 c1 nb B m d/\Fr w na A1 n1 c1 nb B m d (qs[k]?.getD 0):=by
 obtain⟨es,h1,-,-,h4,rfl,h5⟩:=h;obtain⟨g,o,e1,hc⟩:=h5 Gk;have he:=Qb (l:=es) (i:=k) Gk;refine⟨g,o,es[k].na,es[k].A,es[k].n,es[k].c,es[k].nb,es[k].B,es[k].m,es[k].d,e1,hc k _ he,?_⟩;rw[Qd,he];exact h4 es[k] (Qx _)
theorem FL.take(h:FL w A n c qs){k:Nat}(hk:k<=n):FL w A k c (qs.take k):=by
 obtain⟨es,h1,h2,h3,h4,rfl,h5⟩:=h;refine⟨es.take k,by rw[List.length_take];omega,by omega,h3,λe he=>h4 e (List.mem_of_mem_take he),by rw[List.map_take],λhn=>?_⟩;obtain⟨g,o,e1,hc⟩:=h5 Gk;refine⟨g,o,e1,λj e he=>?_⟩;rw[List.getElem?_take]at he
 split at he
 exact hc j e he;cases he
end
structure RS where
 A:Option Addr
 n:Nat
 c:Nat
def RS.val(r:RS):Value:=.slice r.A r.n r.c
def Zaq:List RS->List Value
 | []=>[]
 | e::l=>.slice e.A e.n e.c::Zaq l
def Z6(es:List RS):Array Value:=(Zaq es).toArray
def Za3:RS:=⟨none,0,0⟩
theorem Zbk(es:List RS):(Zaq es).length=es.length*1:=by
 induction es with
 | nil=>rfl
 | cons e l ih=>simp only[Zaq,QY,ih];omega
theorem Zco(es:List RS):Zaq es=es.map RS.val:=by
 induction es with
 | nil=>rfl
 | cons e l ih=>simp only[Zaq,List.map_cons,ih];rfl
theorem Zvi{es:List RS}{i:Nat}{e:RS}(h:es[i]?=some e):(Zaq es)[i]?=some (.slice e.A e.n e.c):=by
 rw[Zco,Qd,h];rfl
theorem Zb4{es:List RS}{i:Nat}{e:RS}(h:es[i]?=some e):(Z6 es)[i]?=some (.slice e.A e.n e.c):=by simpa [Z6]using Zvi h
theorem Zon(es:List RS):∀ (i x:Nat),(Zaq es)[i]?≠some (limb x):=by
 intro i x;rw[Zco,Qd];cases es[i]? with
 | none=>simp
 | some e=>simp[RS.val]
theorem Za9(es:List RS):NoLimb (Z6 es):=λi x=>by simpa [Z6]using Zon es i x
theorem Zc3(es fs:List RS):Zaq (es++fs)=Zaq es++Zaq fs:=by simp only[Zco,Ye]
theorem Zvn(fs:List RS):∀ u ∈ Zaq fs,u.oneCell'=true:=by
 intro u h;rw[Zco]at h;obtain⟨r,-,rfl⟩:=List.mem_map.1 h;rfl
theorem Zds{es:List RS}{i:Nat}(e:RS):(Z6 es).setIfInBounds i (.slice e.A e.n e.c)=Z6 (es.set i e):=by
 unfold Z6;rw[Zco,Zco,List.map_set];simp[RS.val]
theorem Ziz(k:Nat):(Ql #[.slice none 0 0] k).toList=Zaq (Qh k Za3):=by
 rw[Zco];unfold Ql;apply QT;intro i;by_cases h:i<k;simp[h,Za3,RS.val,Qw,Nat.mod_one];simp[h,Qw]
def RowS(t:TypeId)(w:World)(base:Nat)(v:Value)(es:List RS):Prop:=
 (v=.slice none 0 0/\es=[]) \/ ∃ g sp,v=.slice (some ⟨g,0,none⟩) es.length (es.length+sp)/\base<=g/\es.length+sp<=maxLen/\Blk w g t (Z6 (es++Qh sp Za3))
section
variable{t:TypeId}{w w':World}{base:Nat}{v:Value}{es:List RS}
theorem RowS.own(h:RowS t w base v es):w.ownsRow base t 1 v es.length (Zaq es):=by
 refine⟨Zbk es,?_⟩;rcases h with ⟨h1,rfl⟩|⟨g,sp,h1,h2,h3,h4⟩;exact .inl ⟨h1,rfl⟩;refine .inr ⟨g,_,_,h1,h2,h4,QH _ _,h3,?_,?_⟩;simp[Z6,Zbk];simp only[Z6];rw[Zc3,<- Zbk es];exact QM
theorem RowS.row_ge(h:RowS t w base v es):∀ k,v.ownBlock=some k->base<=k:=λk hk=>(h.own.lt k hk).1
theorem RowS.kept(h:RowS t w base v es)(hb:Below w.heap.size w w'):RowS t w' base v es:=by
 exact FJ
theorem RowS.keep(h:RowS t w base v es)(hg:w.grownBy w' v.ownBlock){A:Option Addr}{n c:Nat}{l:List Nat}(hL:Lim w A n c l):Lim w' A n c l:=by
 refine⟨hL.1,hL.2.1,hL.2.2.1,hL.2.2.2.1,λhn=>?_⟩;obtain⟨b,o,e,hc⟩:=hL.2.2.2.2 hn;refine⟨b,o,e,λk hk=>?_⟩;rw[<- hc k hk];refine Qy (hg.block b (Zo (hc k hk)) (λe'=>?_));rcases h with ⟨rfl,_⟩|⟨g,sp,rfl,_,_,h4⟩;cases e';have f:b=g:=by simpa [Value.ownBlock]using e'
 subst f;have h1:=hc k hk;rw[h4.cell]at h1;exact Za9 _ _ _ h1
end
section
variable{P:Program}(w:World)
theorem Zm9(base:Nat)(t ty e:TypeId)(i:TypeInfo)(ht:P.underlying t=some (.slice e))(hi:P.info? e=some i)(hz:i.zero=some (.slice none 0 0))
    (hs:i.size=1) (hby:i.bytes=24) (v:Value) (es:List RS) (ai:RowS e w base v es)
    (B:Nat) (A:Option Addr) (m c:Nat) (fs:List RS) (hr:Reads w B 1 A m (Zaq fs)) (hm:fs.length=m) (h63:es.length+m<=1000) (hbase:base<=w.heap.size) :
    ∃ v' w',(Yb #[t,t] ty #[v,.slice A m c]).run P w=.ok v' w'/\RowS e w' base v' (es++fs)/\w.grownBy w' v.ownBlock:=by
 rcases QQ m with h0|h0
 ·subst h0
  obtain rfl:fs=[]:=Qo hm;rw[Yc];rcases A with _|ad;exact⟨v,w,Zcj w base t ty e i 1 ht hi v _ _ ai.own c,ai,World.grownBy.refl w _⟩;exact EV
 obtain⟨ad,rfl,_,hc⟩:=hr.2 h0;have hl:(Zaq fs).length=m*i.size:=by rw[Zbk,hm,hs]
 have y:es.length*i.size=(Zaq es).length:=by rw[Zbk,hs]
 rcases ai with ⟨rfl,rfl⟩|⟨g,sp,rfl,h2,h3,h4⟩
 ·have f:=run_append_nil (P:=P) w t ty e i _ ht hi hz ad m c (Zaq fs) hl hc h0 Gk (by rw[hby];omega)
  have h:=grownCap_ge w m 0 e;have o:=grownCap_le_maxLen w m 0 e (by unfold maxLen;simp only[Yd]at h63;omega);refine⟨_,_,f,.inr ⟨w.heap.size,grownCap w m 0 e-m,?_,hbase,?_,?_⟩,⟨rfl,rfl,rfl,by simp,λk hk _=>Below.heap_alloc w.drew _ k hk⟩⟩;rw[Qz,hm,Qj h];rw[Qz,hm,Qj h];exact o;have:=heap_alloc_new w.drew (.cells ((Zaq fs).toArray++Ql (Value.slice none 0 0).cells (grownCap w m 0 e-m)) e);unfold Blk;refine this.trans ?_;congr 1
  have hx:(Zaq fs).toArray++Ql (Value.slice none 0 0).cells (grownCap w m 0 e-m)=Z6 ([]++fs++Qh (grownCap w m 0 e-m) Za3):=by
   apply Array.toList_inj.1;rw[QB,show (Value.slice none 0 0).cells=#[.slice none 0 0] from rfl,Ziz];simp[Z6,Zc3]
  rw[hx]
 by_cases hroom:m<=sp
 ·have f:=run_append_room (P:=P) w t ty e i ht hi g es.length (es.length+sp) _ h4 ad m c (Zaq fs) hl hc (Zvn fs) Gk (by rw[y,Zbk,Zbk];simp[Z6,Zbk];omega)
  refine⟨_,_,f,.inr ⟨g,sp-m,?_,h2,?_,?_⟩,⟨rfl,rfl,rfl,by simp[World.setRow],λk _ hk=>setRow_other w g k _ (λe'=>hk (by simp[Value.ownBlock,e']))⟩⟩;rw[Qi,hm,show es.length+m+(sp-m)=es.length+sp by omega];rw[Qi,hm];omega;refine(setRow_heap w g _ _ e _ h4).trans ?_;congr 2;unfold Z6;congr 1;rw[y];have I:Qh sp Za3=Qh m Za3++Qh (sp-m) Za3:=by rw[List.replicate_append_replicate];congr 1;omega
  have J:(Zaq fs).length=(Zaq (Qh m Za3)).length:=by rw[Zbk,Zbk,hm,List.length_replicate]
  simp only[Zc3];rw[QM,J,<- Qi,I,Zc3,<- QU (Zaq es),List.drop_left,QU]
 have C:∀ j u,(Zaq es)[j]?=some u->w.cell? ((⟨g,0,none⟩:Addr).add j)=some u:=λj u hu=>by
   rw[Zg,QA,h4.cell];simp only[Z6,QN,Zc3];exact Fi
 have f:=run_append_grow (P:=P) w t ty e i _ ht hi hz ⟨g,0,none⟩ es.length (es.length+sp) (Zaq es) y.symm C ad m c (Zaq fs) hl hc Gk Gk (growslice_fits Gk (by rw[hby];omega));have h:=grownCap_ge w (es.length+m) (es.length+sp) e;have o:=grownCap_le_maxLen w (es.length+m) (es.length+sp) e (by unfold maxLen;omega);refine⟨_,_,f,.inr ⟨w.heap.size,grownCap w (es.length+m) (es.length+sp) e-(es.length+m),?_,hbase,?_,?_⟩,⟨rfl,rfl,rfl,by simp,λk hk _=>Below.heap_alloc w.drew _ k hk⟩⟩;rw[Qi,hm,Qj h];rw[Qi,hm,Qj h];exact o;have:=heap_alloc_new w.drew (.cells ((Zaq es).toArray++(Zaq fs).toArray++Ql (Value.slice none 0 0).cells (grownCap w (es.length+m) (es.length+sp) e-(es.length+m))) e);unfold Blk;refine this.trans ?_;congr 1
 have hx:(Zaq es).toArray++(Zaq fs).toArray++Ql (Value.slice none 0 0).cells (grownCap w (es.length+m) (es.length+sp) e-(es.length+m))=Z6 (es++fs++Qh (grownCap w (es.length+m) (es.length+sp) e-(es.length+m)) Za3):=by
  apply Array.toList_inj.1;rw[QB,QB,show (Value.slice none 0 0).cells=#[.slice none 0 0] from rfl,Ziz];simp[Z6,Zc3]
 rw[hx]
end
structure Kept (G:Nat->Prop) (w w':World):Prop where
 os:w'.os=w.os
 tape:w'.tape=w.tape
 output:w'.output=w.output
 size:w.heap.size<=w'.heap.size
 block:∀ k,k<w.heap.size->¬ G k->w'.heap[k]?=w.heap[k]?
section
variable{G:Nat->Prop}{w w' w'':World}
theorem Kept.refl(G:Nat->Prop)(w:World):Kept G w w:=⟨rfl,rfl,rfl,Qc _,λ_ _ _=>rfl⟩
theorem Kept.trans(h:Kept G w w')(k:Kept G w' w''):Kept G w w'':=
 ⟨k.os.trans h.os,k.tape.trans h.tape,k.output.trans h.output,Qe h.size k.size,λi hi hg=>(k.block i (QE hi h.size) hg).trans (h.block i hi hg)⟩
theorem Kept.of_below(h:Below w.heap.size w w'):Kept G w w':=⟨h.os,h.tape,h.output,h.size,λk hk _=>h.block k hk⟩
theorem Kept.below(h:Kept G w w')(k:Below w'.heap.size w' w''):Kept G w w'':=h.trans (Kept.of_below k)
theorem Kept.drewN(h:Kept G w w')(n:Nat):Kept G w (w'.drewN n):=⟨h.os,h.tape,h.output,h.size,h.block⟩
theorem Kept.set_(h:Kept G w w'){p:Addr}(hp:G p.block \/ w.heap.size<=p.block)(u:Value):Kept G w (w'.setCell p u):=
 ⟨h.os,h.tape,h.output,by simp[World.setCell];exact h.size,λk hk hg=>(Below.heap_setCell w' p u k (by rcases hp with hp|hp;exact λe=>hg (e▸hp);omega)).trans (h.block k hk hg)⟩
theorem Kept.blk(h:Kept G w w'){g:Nat}{t:TypeId}{cs:Array Value}(hb:Blk w g t cs)(hg:¬ G g):Blk w' g t cs:=(h.block g hb.lt hg).trans hb
theorem Kept.to_below{B:Nat}(h:Kept G w w')(hG:∀ k,G k->B<=k)(hB:B<=w.heap.size):Below B w w':=
 ⟨h.os,h.tape,h.output,h.size,λk hk=>h.block k (QE hk hB) (λhg=>by have:=hG k hg;omega)⟩
theorem Kept.mono{G':Nat->Prop}(h:Kept G w w')(hG:∀ k,k<w.heap.size->G k->G' k):Kept G' w w':=⟨h.os,h.tape,h.output,h.size,λk hk hg=>h.block k hk (λh=>hg (hG k hk h))⟩
theorem Kept.lim(h:Kept G w w'){A:Option Addr}{n c:Nat}{l:List Nat}(hl:Lim w A n c l)(hG:∀ k,G k->∃ t cs,Blk w k t cs/\NoLimb cs):Lim w' A n c l:=
 ⟨hl.1,hl.2.1,hl.2.2.1,hl.2.2.2.1,λhn=>by
  obtain⟨b,o,e,hc⟩:=hl.2.2.2.2 hn;refine⟨b,o,e,λk hk=>?_⟩;have h0:=hc k hk;refine(Qy (w:=w) (h.block b (Zo h0) (λhg=>?_))).trans h0;obtain⟨t,cs,h1,h2⟩:=hG b hg;have h3:=h0;rw[h1.cell]at h3;exact h2 _ _ h3⟩
theorem Kept.wd(h:Kept G w w'){neg:Bool}{A:Option Addr}{n c:Nat}{z:Int}(hl:Wd w neg A n c z)(hG:∀ k,G k->∃ t cs,Blk w k t cs/\NoLimb cs):Wd w' neg A n c z:=⟨hl.1,hl.2.1,h.lim hl.2.2 hG⟩
end
section
variable{t:TypeId}{w:World}{g:Nat}{xs zs:List Int}
theorem POwn.box(h:POwn t w g xs):∃ t cs,Blk w g t cs/\NoLimb cs:=by
 obtain⟨es,h1,-,-⟩:=h;exact⟨t,_,h1,Zdl es⟩
theorem POwn.other{t':TypeId}{g':Nat}{ys:List Int}(h:POwn t w g xs)(h':POwn t' w g' ys)(hne:g≠g')(i:Nat)(b:Bool)(A:Option Addr)(n c:Nat) :
    POwn t ((w.setCell ⟨g',i*2,none⟩ (.bool b)).setCell ⟨g',i*2+1,none⟩ (.slice A n c)) g xs:=by
 obtain⟨es,h1,h2,h3⟩:=h;obtain⟨fs,k1,-,-⟩:=h';refine⟨es,(h1.far hne _).far hne _,λe he=>⟨?_,(h2 e he).2⟩,h3⟩;exact((h2 e he).1.set_box k1 (Zdl fs) _ _).set_box (k1.set_ (i*2) (.bool b)) (Zhi _ _ _) _ _
end
theorem Zu2{es:List FE}{i:Nat}(e:FE)(h:i<es.length):((((Zp es).set (i*4) (.bool e.na)).set (i*4+1) (.slice e.A e.n e.c)).set (i*4+2) (.bool e.nb)).set (i*4+3) (.slice e.B e.m e.d)=Zp (es.set i e):=by
 induction es generalizing i with
 | nil=>simp at h
 | cons a l ih =>
  cases i with
  | zero=>rfl
  | succ i =>
   have:=ih (i:=i) (by simpa using h);rw[show (i+1)*4=i*4+1+1+1+1 by omega];simp only[Zp,List.set_cons_succ,this]
theorem Zho{es:List FE}{i:Nat}(e:FE)(h:i<es.length):((((Z4 es).setIfInBounds (i*4) (.bool e.na)).setIfInBounds (i*4+1) (.slice e.A e.n e.c)).setIfInBounds (i*4+2) (.bool e.nb)).setIfInBounds (i*4+3) (.slice e.B e.m e.d)=Z4 (es.set i e):=by
 unfold Z4;rw[<- Zu2 e h];simp
theorem Zgn{cs:Array Value}(h:NoLimb cs)(i:Nat){v:Value}(hv:∀ x,v≠limb x):NoLimb (cs.setIfInBounds i v):=λj x=>by
 rw[Array.getElem?_setIfInBounds]
 split
 ·split
  simpa using hv x;simp
 exact h j x
def Zgf(w:World)(g i:Nat)(na:Bool)(A:Option Addr)(n c:Nat)(nb:Bool)(B:Option Addr)(m d:Nat):World:=
 (((w.setCell ⟨g,i*4,none⟩ (.bool na)).setCell ⟨g,i*4+1,none⟩ (.slice A n c)).setCell ⟨g,i*4+2,none⟩ (.bool nb)).setCell ⟨g,i*4+3,none⟩ (.slice B m d)
section
variable{w:World}{g i:Nat}{na:Bool}{A:Option Addr}{n c:Nat}{nb:Bool}{B:Option Addr}{m d:Nat}
theorem Zgg{A':Option Addr}{n' c':Nat}{l:List Nat}{t:TypeId}{cs:Array Value}(h:Lim w A' n' c' l)(hb:Blk w g t cs)(hcs:NoLimb cs):Lim (Zgf w g i na A n c nb B m d) A' n' c' l:=by
 have h1:=hb.set_ (i*4) (.bool na);have l1:=Zgn hcs (i*4) (v:=.bool na) (λx=>by simp);have h2:=h1.set_ (i*4+1) (.slice A n c);have l2:=Zgn l1 (i*4+1) (v:=.slice A n c) (λx=>by simp);have h3:=h2.set_ (i*4+2) (.bool nb);have l3:=Zgn l2 (i*4+2) (v:=.bool nb) (λx=>by simp);exact(((h.set_box hb hcs _ _).set_box h1 l1 _ _).set_box h2 l2 _ _).set_box h3 l3 _ _
theorem Zil{na':Bool}{A':Option Addr}{n' c':Nat}{nb':Bool}{B':Option Addr}{m' d':Nat}{r:Rat}{t:TypeId}{cs:Array Value}(h:Fr w na' A' n' c' nb' B' m' d' r)(hb:Blk w g t cs)(hcs:NoLimb cs):Fr (Zgf w g i na A n c nb B m d) na' A' n' c' nb' B' m' d' r:=
 ⟨⟨h.1.1,h.1.2.1,Zgg h.1.2.2 hb hcs⟩,⟨h.2.1,h.2.2.1,Zgg h.2.2.2 hb hcs⟩⟩
theorem Zj8{g':Nat}{t:TypeId}{cs:Array Value}(h:Blk w g' t cs)(hg:g'≠g):Blk (Zgf w g i na A n c nb B m d) g' t cs:=(((h.far hg _).far hg _).far hg _).far hg _
theorem Zpt{G:Nat->Prop}{w0:World}(h:Kept G w0 w)(hg:G g \/ w0.heap.size<=g):Kept G w0 (Zgf w g i na A n c nb B m d):=
 (((h.set_ (p:=⟨g,i*4,none⟩) hg _).set_ (p:=⟨g,i*4+1,none⟩) hg _).set_ (p:=⟨g,i*4+2,none⟩) hg _).set_ (p:=⟨g,i*4+3,none⟩) hg _
theorem Zjh{b:Nat}{w0:World}(h:Below b w0 w)(hg:b<=g):Below b w0 (Zgf w g i na A n c nb B m d):=
 (((h.setCell (p:=⟨g,i*4,none⟩) hg _).setCell (p:=⟨g,i*4+1,none⟩) hg _).setCell (p:=⟨g,i*4+2,none⟩) hg _).setCell (p:=⟨g,i*4+3,none⟩) hg _
end
def FRaw(t:TypeId)(w:World)(g n:Nat):Prop:=∃ es:List FE,Blk w g t (Z4 es)/\n<=es.length
def FOwn(t:TypeId)(w:World)(g:Nat)(qs:List Rat):Prop:=∃ es zs:List FE,Blk w g t (Z4 (es++zs))/\(∀ e ∈ es,e.in_ w)/\es.map FE.q=qs
section
variable{t:TypeId}{w w':World}{g:Nat}{qs:List Rat}
theorem FRaw.lt{n:Nat}(h:FRaw t w g n):g<w.heap.size:=by obtain⟨es,h1,h2⟩:=h;exact h1.lt
theorem FRaw.box{n:Nat}(h:FRaw t w g n):∃ t cs,Blk w g t cs/\NoLimb cs:=by obtain⟨es,h1,h2⟩:=h;exact⟨t,_,h1,Zca es⟩
theorem FRaw.cells{n i:Nat}(h:FRaw t w g n)(hi:i<n):∃ na A k c nb B m d,w.cell? ⟨g,i*4,none⟩=some (.bool na)/\w.cell? ⟨g,i*4+1,none⟩=some (.slice A k c)/\w.cell? ⟨g,i*4+2,none⟩=some (.bool nb)/\w.cell? ⟨g,i*4+3,none⟩=some (.slice B m d):=by
 obtain⟨es,h1,hn⟩:=h;have hc:=Zdz (Qb (show i<es.length by omega));exact⟨_,_,_,_,_,_,_,_,by rw[h1.cell];exact hc.1,by rw[h1.cell];exact hc.2.1,by rw[h1.cell];exact hc.2.2.1,by rw[h1.cell];exact hc.2.2.2⟩
theorem FRaw.frozen{n:Nat}(h:FRaw t w g n)(i:Nat):w.frozen? ⟨g,i,none⟩=false:=by obtain⟨es,h1,-⟩:=h;exact h1.frozen i
theorem FOwn.raw(h:FOwn t w g qs):FRaw t w g qs.length:=by obtain⟨es,zs,h1,h2,rfl⟩:=h;exact⟨es++zs,h1,by simp⟩
theorem FOwn.below(h:FOwn t w g qs)(hb:Below w.heap.size w w'):FOwn t w' g qs:=by
 obtain⟨es,zs,h1,h2,h3⟩:=h;exact⟨es,zs,Zc hb h1,λe he=>(h2 e he).below hb,h3⟩
theorem FOwn.lt(h:FOwn t w g qs):g<w.heap.size:=h.raw.lt
theorem FOwn.box(h:FOwn t w g qs):∃ t cs,Blk w g t cs/\NoLimb cs:=h.raw.box
theorem FOwn.frozen(h:FOwn t w g qs)(i:Nat):w.frozen? ⟨g,i,none⟩=false:=h.raw.frozen i
theorem FOwn.at_(h:FOwn t w g qs){i:Nat}(hi:i<qs.length):∃ na A k c nb B m d,w.cell? ⟨g,i*4,none⟩=some (.bool na)/\w.cell? ⟨g,i*4+1,none⟩=some (.slice A k c)/\w.cell? ⟨g,i*4+2,none⟩=some (.bool nb)/\w.cell? ⟨g,i*4+3,none⟩=some (.slice B m d)/\Fr w na A k c nb B m d (qs[i]?.getD 0):=by
 obtain⟨es,zs,h1,h2,rfl⟩:=h;have hl:i<es.length:=by simpa using hi
 have he:=Qb hl;have hc:=Zdz (es:=es++zs) (i:=i) (e:=es[i]) (by rw[Qt hl];exact he);refine⟨_,_,_,_,_,_,_,_,by rw[h1.cell];exact hc.1,by rw[h1.cell];exact hc.2.1,by rw[h1.cell];exact hc.2.2.1,by rw[h1.cell];exact hc.2.2.2,?_⟩;rw[Qd,he];exact h2 _ (Qx hl)
theorem FOwn.set_(h:FOwn t w g qs){i:Nat}(hi:i<qs.length){na:Bool}{A:Option Addr}{k c:Nat}{nb:Bool}{B:Option Addr}{m d:Nat}{r:Rat}(hr:Fr w na A k c nb B m d r):FOwn t (Zgf w g i na A k c nb B m d) g (qs.set i r):=by
 obtain⟨es,zs,h1,h2,rfl⟩:=h;have hl:i<es.length:=by simpa using hi
 have h3:=(((h1.set_ (i*4) (.bool na)).set_ (i*4+1) (.slice A k c)).set_ (i*4+2) (.bool nb)).set_ (i*4+3) (.slice B m d);have hs:=Zho (es:=es++zs) (i:=i) ⟨na,A,k,c,nb,B,m,d,r⟩ (by rw[Qi];omega);dsimp only at hs;rw[hs,List.set_append_left _ _ hl]at h3;refine⟨_,zs,h3,λe he=>?_,by rw[List.map_set]⟩;rcases List.mem_or_eq_of_mem_set he with he|rfl;exact Zil (h2 e he) h1 (Zca _);exact Zil hr h1 (Zca _)
theorem FOwn.other{g' i:Nat}{na:Bool}{A:Option Addr}{k c:Nat}{nb:Bool}{B:Option Addr}{m d:Nat}(h:FOwn t w g qs)(hne:g≠g')(hb:∃ t cs,Blk w g' t cs/\NoLimb cs):FOwn t (Zgf w g' i na A k c nb B m d) g qs:=by
 obtain⟨es,zs,h1,h2,h3⟩:=h;obtain⟨t',cs,hb,f⟩:=hb;exact⟨es,zs,Zj8 h1 hne,λe he=>Zil (h2 e he) hb f,h3⟩
theorem FOwn.fl(h:FOwn t w g qs){c:Nat}(hc:qs.length<=c)(hm:c<=maxLen):FL w (some ⟨g,0,none⟩) qs.length c qs:=by
 obtain⟨es,zs,h1,h2,rfl⟩:=h;rw[Qq]at hc ⊢;refine⟨es,rfl,hc,hm,h2,rfl,λ_=>⟨g,0,rfl,λk e he=>?_⟩⟩;have hk:k<es.length:=(List.getElem?_eq_some_iff.1 he).1;have hc:=Zdz (es:=es++zs) (i:=k) (e:=e) (by rw[Qt hk];exact he);simp only[QA,h1.cell];exact hc
theorem OwnF.fown{base:Nat}{v:Value}(h:OwnF t w base v qs):(v=.slice none 0 0/\qs=[]) \/ ∃ g c,v=.slice (some ⟨g,0,none⟩) qs.length c/\base<=g/\qs.length<=c/\c<=maxLen/\FOwn t w g qs:=by
 obtain⟨es,h1,h2,rfl⟩:=h;rcases h1 with ⟨rfl,rfl⟩|⟨g,sp,rfl,h4,h5,h6⟩;exact .inl ⟨rfl,rfl⟩;exact .inr ⟨g,_,by rw[Qq],h4,by rw[Qq];omega,h5,es,Qh sp Zax,h6,h2,rfl⟩
end
def Zw:Nat->(Nat->Rat)->Rat
 | 0,_=>0
 | n+1,f=>Zw n f+f n
def Zcp(i a:Nat):Nat:=if a<i then a else a+1
def sgnQ(i:Nat):Rat:=if i%2=0 then 1 else -1
def Zat:Nat->(Nat->Nat->Rat)->Rat
 | 0,_=>1
 | n+1,M=>Zw (n+1) λi=>sgnQ i*M i 0*Zat n (λa b=>M (Zcp i a) (b+1))
theorem Zq{n:Nat}{f g:Nat->Rat}(h:∀ i,i<n->f i=g i):Zw n f=Zw n g:=by
 induction n with
 | zero=>rfl
 | succ n ih=>simp only[Zw];rw[ih (λi hi=>h i Gk),h n Gk]
theorem Fe{G:Prop}(h:G:=by
 induction n with
 | zero=>simp only[Zw];grind
 | succ n ih=>simp only[Zw];rw[ih];grind):G:=h
theorem Zeo{n:Nat}(f g:Nat->Rat)(x y:Rat):Zw n (λi=>x*f i+y*g i)=x*Zw n f+y*Zw n g:=by
 exact Fe
theorem Zgi{n:Nat}{f:Nat->Rat}(h:∀ i,i<n->f i=0):Zw n f=0:=by
 induction n with
 | zero=>rfl
 | succ n ih=>simp only[Zw];rw[ih (λi hi=>h i Gk),h n Gk];grind
theorem Zfj{n:Nat}{f:Nat->Rat}(k:Nat)(hk:k<n)(h:∀ i,i<n->i≠k->f i=0):Zw n f=f k:=by
 induction n with
 | zero=>omega
 | succ n ih =>
  simp only[Zw];by_cases hn:k=n
  ·subst hn
   rw[Zgi (λi hi=>h i Gk Gk)];grind
  rw[ih Gk (λi hi=>h i Gk),h n Gk Gk];grind
theorem Z0l{n:Nat}{f:Nat->Rat}(k:Nat)(hk:k+1<n)(h:∀ i,i<n->i≠k->i≠k+1->f i=0):Zw n f=f k+f (k+1):=by
 induction n with
 | zero=>omega
 | succ n ih =>
  simp only[Zw];by_cases hn:k+1=n
  ·subst hn
   rw[Zfj k Gk (λi hi h2=>h i Gk h2 Gk)]
  rw[ih Gk (λi hi=>h i Gk),h n Gk Gk Gk];grind
theorem Zrz{i a n:Nat}(ha:a<n):Zcp i a<n+1:=by unfold Zcp;split <;> omega
theorem Zzp(i a:Nat):Zcp i a≠i:=by unfold Zcp;split <;> omega
theorem Zjf{i k:Nat}(h:k≠i):Zcp i (if k<i then k else k-1)=k:=by
 unfold Zcp;by_cases h1:k<i;rw[Gx h1,Gx h1];rw[Gw h1,Gw Gk];omega
theorem Zyy{i a b:Nat}(h:Zcp i a=Zcp i b):a=b:=by unfold Zcp at h;split at h <;> split at h <;> omega
theorem Za6{n:Nat}{M N:Nat->Nat->Rat}(h:∀ a b,a<n->b<n->M a b=N a b):Zat n M=Zat n N:=by
 induction n generalizing M N with
 | zero=>rfl
 | succ n ih =>
  simp only[Zat];refine Zq λi hi=>?_;rw[h i 0 hi Gk,ih (λa b ha hb=>h _ _ (Zrz ha) Gk)]
def Zah(M:Nat->Nat->Rat)(k:Nat)(r:Nat->Rat):Nat->Nat->Rat:=λa b=>if a=k then r b else M a b
theorem Zfu{M:Nat->Nat->Rat}{k i:Nat}{r:Nat->Rat}(h:k≠i) :
    (λa b=>Zah M k r (Zcp i a) (b+1))=Zah (λa b=>M (Zcp i a) (b+1)) (if k<i then k else k-1) (λb=>r (b+1)):=by
 funext a b
 unfold Zah;by_cases ha:a=(if k<i then k else k-1);rw[Gx ha,ha,Zjf h,Gx rfl];rw[Gw ha,Gw];intro e;exact ha (Zyy (i:=i) (by rw[e,Zjf h]))
theorem Zfv{M:Nat->Nat->Rat}{k:Nat}{r:Nat->Rat}:(λa b=>Zah M k r (Zcp k a) (b+1))=(λa b=>M (Zcp k a) (b+1)):=by
 funext a b
 unfold Zah;rw[Gw (Zzp k a)]
theorem Zhh{n:Nat}(M:Nat->Nat->Rat){k:Nat}(hk:k<n)(r s:Nat->Rat)(x y:Rat) :
    Zat n (Zah M k (λb=>x*r b+y*s b))=x*Zat n (Zah M k r)+y*Zat n (Zah M k s):=by
 induction n generalizing M k r s with
 | zero=>omega
 | succ n ih =>
  simp only[Zat];rw[<- Zeo];refine Zq λi hi=>?_;by_cases h:k=i
  ·subst h
   rw[Zfv,Zfv,Zfv];simp only[Zah,if_true]
   grind
  rw[Zfu h,Zfu h,Zfu h];rw[ih (λa b=>M (Zcp i a) (b+1)) (k:=if k<i then k else k-1) (by split <;> omega) (λb=>r (b+1)) (λb=>s (b+1))];simp only[Zah,Gw (show ¬ i=k from λe=>h e.symm)]
  grind
theorem Zxd(i:Nat):sgnQ (i+1)=- sgnQ i:=by
 unfold sgnQ;rcases Nat.mod_two_eq_zero_or_one i with h|h;rw[Gx h,Gw Gk];rw[Gw (by omega:¬ i%2=0),Gx Gk];grind
theorem Zr6{n:Nat}{M:Nat->Nat->Rat}{k:Nat}(hk:k+1<n)(h:∀ b,M (k+1) b=M k b):Zat n M=0:=by
 induction n generalizing M k with
 | zero=>omega
 | succ n ih =>
  simp only[Zat];rw[Z0l k hk]
  ·have hm:(λa b=>M (Zcp k a) (b+1))=(λa b=>M (Zcp (k+1) a) (b+1)):=by
     funext a b
     by_cases ha:a=k
     ·subst ha
      simp only[Zcp,Gw (QP a),Gx (QI a)];exact h _
     have:Zcp k a=Zcp (k+1) a:=by unfold Zcp;split <;> split <;> omega
     rw[this]
   rw[hm,h 0,Zxd];grind
  intro i hi h1 h2;rw[ih (M:=λa b=>M (Zcp i a) (b+1)) (k:=if k<i then k else k-1)]
  ·grind
  ·split <;> omega
  intro b;have e1:Zcp i (if k<i then k else k-1)=k:=Zjf (QS h1);have e2:Zcp i ((if k<i then k else k-1)+1)=k+1:=by unfold Zcp;split <;> split <;> omega
  rw[e1,e2];exact h _
theorem Zd9(M:Nat->Nat->Rat)(k:Nat):Zah M k (M k)=M:=by
 funext a b;unfold Zah;split
 rename_i h;rw[h];rfl
theorem Zce(M:Nat->Nat->Rat){k l:Nat}(h:k≠l)(r s:Nat->Rat):Zah (Zah M k r) l s=Zah (Zah M l s) k r:=by
 funext a b;unfold Zah
 by_cases h1:a=k;subst h1;simp[h];simp[h1]
theorem Zm5{n:Nat}(M:Nat->Nat->Rat){k:Nat}(hk:k<n)(r s:Nat->Rat) :
    Zat n (Zah M k (λb=>r b+s b))=Zat n (Zah M k r)+Zat n (Zah M k s):=by
 have:=Zhh M hk r s 1 1;rw[show (λb=>r b+s b)=(λb=>1*r b+1*s b) by funext b;grind,this];grind
theorem Zj5{n:Nat}{k l:Nat}(hk:k<n)(hl:l<n)(hne:k≠l)(hz:∀ (M:Nat->Nat->Rat),(∀ b,M k b=M l b)->Zat n M=0)(M:Nat->Nat->Rat)(r s:Nat->Rat) :
    Zat n (Zah (Zah M k r) l s)=- Zat n (Zah (Zah M k s) l r):=by
 have h:=hz (Zah (Zah M k (λb=>r b+s b)) l (λb=>r b+s b)) (λb=>by simp[Zah,hne]);have h1:=hz (Zah (Zah M k r) l r) (λb=>by simp[Zah,hne]);have h2:=hz (Zah (Zah M k s) l s) (λb=>by simp[Zah,hne]);rw[Zm5 _ hl,Zce _ hne,Zce _ hne,Zm5 _ hk,Zm5 _ hk,<- Zce _ hne,<- Zce _ hne,<- Zce _ hne,<- Zce _ hne,h1,h2]at h
 grind
theorem Zlu{n:Nat}:∀ (d:Nat) (M:Nat->Nat->Rat) (k:Nat),k+d+1<n->(∀ b,M k b=M (k+d+1) b)->Zat n M=0:=by
 intro d
 induction d with
 | zero=>intro M k hk h;exact Zr6 hk (λb=>(h b).symm)
 | succ d ih =>
  intro M k hk h;have h1:=Zj5 (n:=n) (k:=k+d+1) (l:=k+d+2) Gk Gk Gk (λM h=>Zr6 (k:=k+d+1) Gk (λb=>(h b).symm)) M (M (k+d+1)) (M (k+d+2));rw[Zd9,Zd9]at h1;rw[h1,ih _ k Gk]
  ·grind
  intro b;have:=h b;rw[show k+(d+1)+1=k+d+2 by omega]at this;simp only[Zah];rw[Gw Gk,Gw Gk,Gw Gk];simpa using this
theorem Zkj{n:Nat}{M:Nat->Nat->Rat}{k l:Nat}(hk:k<n)(hl:l<n)(hne:k≠l)(h:∀ b,M k b=M l b):Zat n M=0:=by
 rcases QR hne with h1|h1;exact Zlu (l-k-1) M k Gk (λb=>by rw[show k+(l-k-1)+1=l by omega];exact h b);exact Zlu (k-l-1) M l Gk (λb=>by rw[show l+(k-l-1)+1=k by omega];exact(h b).symm)
theorem Zym{n:Nat}(M:Nat->Nat->Rat){k l:Nat}(hk:k<n)(hl:l<n)(hne:k≠l):Zat n (Zah (Zah M k (M l)) l (M k))=- Zat n M:=by
 have h:=Zj5 hk hl hne (λM h=>Zkj hk hl hne h) M (M l) (M k);rw[h];congr 1;rw[Zd9];congr 1
 funext a b
 unfold Zah
 split
 rename_i h;rw[h];rfl
theorem Zsu{n:Nat}(M:Nat->Nat->Rat){k l:Nat}(hk:k<n)(hl:l<n)(hne:k≠l)(c:Rat):Zat n (Zah M k (λb=>M k b+c*M l b))=Zat n M:=by
 have h:=Zhh M hk (M k) (M l) 1 c
 rw[show (λb=>M k b+c*M l b)=(λb=>1*M k b+c*M l b) by funext b;grind,h,Zd9,
  Zkj (M:=Zah M k (M l)) hk hl hne (λb=>by simp[Zah,QS hne])]
 grind
theorem Im{G:Prop}(h:G:=by
 by_cases ha:a=l;simp[ha];rw[Gw ha,Gw ha];by_cases h1:a<m;rw[Gx h1,Gx Gk];rw[Gw h1,Gw Gk]):G:=h
theorem FR{G:Prop}(h:G:=by
 unfold Zah;by_cases ha:a=m;subst ha;simp[hml];rw[Gw ha];by_cases bS:a=l;simp[bS];rw[Gw bS];by_cases h1:a<m;rw[Gx Gk];simp[bS,h1];rw[Gw Gk];simp[bS,h1]):G:=h
theorem Znz{n:Nat}(M:Nat->Nat->Rat){l:Nat}(hl:l<n)(c:Nat->Rat):Zat n (λa b=>if a=l then M a b else M a b+c a*M l b)=Zat n M:=by
 have key:∀ m,m<=n->Zat n (λa b=>if a=l then M a b else if a<m then M a b+c a*M l b else M a b)=Zat n M:=by
  intro m
  induction m with
  | zero=>intro _;congr 1;funext a b;split <;> rfl
  | succ m ih =>
   intro hm;have h0:=ih Gk;by_cases hml:m=l
   ·rw[<- h0];congr 1;funext a b
    exact Im
   have h1:=Zsu (n:=n) (λa b=>if a=l then M a b else if a<m then M a b+c a*M l b else M a b) (k:=m) (l:=l) Gk hl hml (c m);rw[h0]at h1;rw[<- h1];congr 1;funext a b;exact FR
 rw[<- key n (Qc _)];exact Za6 λa b ha hb=>by rw[Gx ha]
def Za8:Nat->(Nat->Rat)->Rat
 | 0,_=>1
 | n+1,f=>Za8 n f*f n
theorem Zc9{n:Nat}{f g:Nat->Rat}(h:∀ i,i<n->f i=g i):Za8 n f=Za8 n g:=by
 induction n with
 | zero=>rfl
 | succ n ih=>simp only[Za8];rw[ih (λi hi=>h i Gk),h n Gk]
theorem Zro{n:Nat}(f:Nat->Rat):Za8 (n+1) f=f 0*Za8 n (λi=>f (i+1)):=by
 induction n generalizing f with
 | zero=>simp only[Za8];grind
 | succ n ih=>rw[Za8,ih,Za8];grind
theorem Zkb{n:Nat}{M:Nat->Nat->Rat}(h:∀ a b,a<n->b<a->M a b=0):Zat n M=Za8 n (λi=>M i i):=by
 induction n generalizing M with
 | zero=>rfl
 | succ n ih =>
  simp only[Zat];rw[Zfj 0 Gk]
  ·rw[Zro,ih]
   ·have:sgnQ 0=1:=rfl
    rw[this,Zc9 (g:=λi=>M (i+1) (i+1)) (λi hi=>by simp only[Zcp];rw[Gw Gk])];grind
   intro a b ha hb;simp only[Zcp];rw[Gw Gk];exact h _ _ Gk Gk
  intro i hi h0;rw[h i 0 hi Gk];grind
def Zaf(Z:List (List Int))(i j:Nat):Int:=(Z[i]?.getD [])[j]?.getD 0
def Zh(R:List (List Rat))(i j:Nat):Rat:=(R[i]?.getD [])[j]?.getD 0
def Zag{α:Type}(l:List α)(i j:Nat):List α:=match l[i]?,l[j]? with
 | some x,some y=>(l.set i y).set j x
 | _,_=>l
def Zry(p row:List Int)(col:Nat)(piv last:Int):List Int:=(Qs row.length).map λk=>Int.fdiv (row[k]?.getD 0*piv-row[col]?.getD 0*p[k]?.getD 0) last
def Zdr(Z:List (List Int))(r col:Nat)(last:Int):List (List Int):=
 (Qs Z.length).map λi=>if i<=r then Z[i]?.getD []else Zry (Z[r]?.getD []) (Z[i]?.getD []) col (Zaf Z r col) last
def Zok(p row:List Rat)(col:Nat):List Rat:=(Qs row.length).map λk=>if k<col then row[k]?.getD 0 else row[k]?.getD 0-row[col]?.getD 0/p[col]?.getD 0*p[k]?.getD 0
def Zbq(R:List (List Rat))(r col:Nat):List (List Rat):=(Qs R.length).map λi=>if i<=r then R[i]?.getD []else Zok (R[r]?.getD []) (R[i]?.getD []) col
def Zbo(z:Nat->Bool)(n:Nat):Nat->Nat->Nat
 | 0,k=>k
 | f+1,k=>if k<n/\z k=true then Zbo z n f (k+1)else k
def Zap:Nat->Nat->Nat->List (List Int)->Bool->Int->List (List Int) × Nat × Bool × Int
 | 0,_,r,Z,neg,last=>(Z,r,neg,last)
 | f+1,col,r,Z,neg,last =>
  if r=Z.length then (Z,r,neg,last)
  else if Zbo (λi=>Zaf Z i col == 0) Z.length Z.length r=Z.length then Zap f (col+1) r Z neg last
  else Zap f (col+1) (r+1) (Zdr (Zag Z (Zbo (λi=>Zaf Z i col == 0) Z.length Z.length r) r) r col last) (neg != decide (Zbo (λi=>Zaf Z i col == 0) Z.length Z.length r≠r)) (Zaf Z (Zbo (λi=>Zaf Z i col == 0) Z.length Z.length r) col)
def Zbf:Nat->Nat->Nat->List (List Rat)->Bool->List (List Rat) × Nat × Bool
 | 0,_,r,R,neg=>(R,r,neg)
 | f+1,col,r,R,neg =>
  if r=R.length then (R,r,neg)
  else if Zbo (λi=>Zh R i col == 0) R.length R.length r=R.length then Zbf f (col+1) r R neg
  else Zbf f (col+1) (r+1) (Zbq (Zag R (Zbo (λi=>Zh R i col == 0) R.length R.length r) r) r col) (neg != decide (Zbo (λi=>Zh R i col == 0) R.length R.length r≠r))
theorem Zfe{z:Nat->Bool}{n:Nat}:∀ {f k:Nat},n<=k+f->k<=n->k<=Zbo z n f k/\Zbo z n f k<=n/\(∀ i,k<=i->i<Zbo z n f k->z i=true)/\(Zbo z n f k<n->z (Zbo z n f k)=false)
 | 0,k,h,hk=>by
  obtain rfl:k=n:=Gk;exact⟨Qc _,Qc _,λi h1 h2=>by simp only[Zbo]at h2;omega,λh=>by simp only[Zbo]at h;omega⟩
 | f+1,k,h,hk=>by
  unfold Zbo;by_cases hc:k<n/\z k=true
  ·rw[Gx hc]
   obtain⟨h1,h2,h3,h4⟩:=Zfe (z:=z) (n:=n) (f:=f) (k:=k+1) Gk Gk;refine⟨by omega,h2,λi hi1 hi2=>?_,h4⟩;by_cases hik:i=k;rw[hik];exact hc.2;exact h3 i Gk hi2
  rw[Gw hc];refine⟨Qc _,hk,λi h1 h2=>by omega,λhkn=>?_⟩;cases hz:z k with
  | false=>rfl
  | true=>exact absurd ⟨hkn,hz⟩ hc
theorem Zmg{z:Nat->Bool}{n f k q:Nat}(h:n<=k+f)(hk:k<=q)(hq:q<=n)(h1:∀ i,k<=i->i<q->z i=true)(h2:q<n->z q=false):Zbo z n f k=q:=by
 obtain⟨a,b,c,d⟩:=Zfe (z:=z) h (Qe hk hq);rcases Nat.lt_trichotomy (Zbo z n f k) q with h3|h3|h3;have:=d Gk;rw[h1 _ a h3]at this;cases this;exact h3;have:=c q hk h3;rw[h2 Gk]at this;cases this
theorem Zr7{y z:Nat->Bool}{n f k:Nat}(h:n<=k+f)(hk:k<=n)(he:∀ i,k<=i->i<n->y i=z i):Zbo y n f k=Zbo z n f k:=by
 obtain⟨a,b,c,d⟩:=Zfe (z:=z) h hk;exact Zmg h a b (λi h1 h2=>by rw[he i h1 Gk];exact c i h1 h2) (λh1=>by rw[he _ a h1];exact d h1)
def BndQ(B:Nat)(q:Rat):Prop:=∃ z:Int,q=(z:Rat)/\z.natAbs<=B
theorem BndQ.add{B C:Nat}{p q:Rat}(h:BndQ B p)(k:BndQ C q):BndQ (B+C) (p+q):=by
 obtain⟨a,rfl,h1⟩:=h;obtain⟨b,rfl,h2⟩:=k;exact⟨a+b,by rw[Rat.intCast_add],by omega⟩
theorem BndQ.mul{B C:Nat}{p q:Rat}(h:BndQ B p)(k:BndQ C q):BndQ (B*C) (p*q):=by
 obtain⟨a,rfl,h1⟩:=h;obtain⟨b,rfl,h2⟩:=k;exact⟨a*b,by rw[Qu],by rw[Int.natAbs_mul];exact Qr h1 h2⟩
theorem BndQ.mono{B C:Nat}{q:Rat}(h:BndQ B q)(hBC:B<=C):BndQ C q:=by obtain⟨a,h1,h2⟩:=h;exact⟨a,h1,by omega⟩
def Zbn(B:Nat):Nat->Nat
 | 0=>1
 | n+1=>(n+1)*(B*Zbn B n)
theorem Ztn{B n:Nat}{f:Nat->Rat}(h:∀ i,i<n->BndQ B (f i)):BndQ (n*B) (Zw n f):=by
 induction n with
 | zero=>exact⟨0,rfl,by simp⟩
 | succ n ih=>rw[Nat.succ_mul];exact(ih λi hi=>h i Gk).add (h n Gk)
theorem Z06(i:Nat):BndQ 1 (sgnQ i):=by unfold sgnQ;split;exact⟨1,rfl,by decide⟩;exact⟨-1,rfl,by decide⟩
theorem Zhn{B n:Nat}{M:Nat->Nat->Rat}(h:∀ a b,a<n->b<n->BndQ B (M a b)):BndQ (Zbn B n) (Zat n M):=by
 induction n generalizing M with
 | zero=>exact⟨1,rfl,by simp[Zbn]⟩
 | succ n ih =>
  simp only[Zat,Zbn];refine Ztn λi hi=>?_;have:=((Z06 i).mul (h i 0 hi Gk)).mul (ih (M:=λa b=>M (Zcp i a) (b+1)) λa b ha hb=>h _ _ (Zrz ha) Gk)
  rwa [Nat.one_mul]at this
theorem Zc4{B m n:Nat}(hB:1<=B)(h:m<=n):Zbn B m<=Zbn B n:=by
 induction n with
 | zero=>obtain rfl:m=0:=by omega
         exact Qc _
 | succ n ih =>
  by_cases hm:m=n+1;rw[hm];exact Qc _;refine Qe (ih Gk) ?_;simp only[Zbn]
  calc Zbn B n=1*(1*Zbn B n):=Gh
   _<=(n+1)*(B*Zbn B n):=Qr Gk (Qr hB (Qc _))
def swI(k r i:Nat):Nat:=if i=k then r else if i=r then k else i
theorem Zqu(k r i:Nat):swI k r (swI k r i)=i:=by
 unfold swI;by_cases h1:i=k
 ·subst h1
  by_cases h2:i=r;simp[h2];simp[QS h2]
 by_cases h2:i=r;subst h2;simp[h1];simp[h1,h2]
theorem Zdv{α:Type}{l:List α}{k r:Nat}(hk:k<l.length)(hr:r<l.length)(i:Nat):(Zag l k r)[i]?=l[swI k r i]?:=by
 unfold Zag;rw[Qb hk,Qb hr];simp only;unfold swI;rw[QV,QV,List.length_set];by_cases h1:r=i
 ·subst h1
  rw[Gx rfl,Gx hr];by_cases h2:r=k;subst h2;simp[hr];rw[Gw h2,Gx rfl,Qb hk]
 rw[Gw h1];by_cases h2:k=i;subst h2;simp[hk,hr];rw[Gw h2,Gw (QS h2),Gw (QS h1)]
theorem Zeb{α:Type}(l:List α)(k r:Nat):(Zag l k r).length=l.length:=by unfold Zag;split <;> simp
theorem Zhx{k r i n:Nat}(hk:k<n)(hr:r<n)(hi:i<n):swI k r i<n:=by unfold swI;split <;> (try split) <;> omega
structure EIR (B S n m col r:Nat) (R:List (List Rat)) (pc:Nat->Nat) (G:Nat->Nat->Rat) (s:Nat->Rat):Prop where
 len:R.length=n
 row:∀ i,i<n->(R[i]?.getD []).length=m
 pcl:∀ l,l<r->pc l<col
 inc:∀ l l',l<l'->l'<r->pc l<pc l'
 low:∀ i j,r<=i->i<n->j<col->Zh R i j=0
 bef:∀ l j,l<r->j<pc l->Zh R l j=0
 piv:∀ l,l<r->Zh R l (pc l)≠0
 rn:r<=n
 cm:col<=m
 sB:∀ i,i<n->BndQ S (s i)/\s i≠0
 gB:∀ i j,i<n->BndQ B (G i j)
 det:∀ (N:Nat) (f σ:Nat->Nat),(∀ a,a<N->σ a<n)->(∀ a,a<r->σ a=a)->(∀ a,r<=a->r<=σ a)->Zat N (λa b=>s (σ a)*Zh R (σ a) (f b))=Zat N (λa b=>G (σ a) (f b))
def Zes(R:List (List Rat))(pc:Nat->Nat)(s:Nat->Rat)(l:Nat):Rat:=Za8 l (λi=>s i*Zh R i (pc i))
section
variable{B S n m col r:Nat}{R:List (List Rat)}{pc:Nat->Nat}{G:Nat->Nat->Rat}{s:Nat->Rat}
theorem EIR.minor_eq(h:EIR B S n m col r R pc G s){i:Nat}(hi:i<n)(j:Nat) :
    Zes R pc s (min i r)*(s i*Zh R i j)=Zat (min i r+1) (λa b=>G (if a<min i r then a else i) (if b<min i r then pc b else j)):=by
 obtain⟨q,hq⟩:∃ q,q=min i r:=⟨_,rfl⟩;rw[<- hq];have e:=h.rn
 have hd:=h.det (q+1) (λb=>if b<q then pc b else j) (λa=>if a<r then a else if i<r then a else i)
  (λa ha=>by
   by_cases h1:a<r;rw[Gx h1];omega
   ·rw[Gw h1];by_cases h2:i<r
    omega;rw[Gw h2];exact hi) (λa ha=>by rw[Gx ha]) (λa ha=>by
   rw[Gw Gk];by_cases h2:i<r;rw[Gx h2];exact ha;rw[Gw h2];omega)
 have hσ:∀ a,a<q+1->(if a<r then a else if i<r then a else i)=if a<q then a else i:=by
  intro a ha;by_cases h1:a<q;rw[Gx h1,Gx Gk];rw[Gw h1];by_cases h2:i<r;rw[Gx Gk];omega;rw[Gw Gk,Gw h2]
 rw[<- Za6 (M:=λa b=>G (if a<r then a else if i<r then a else i) (if b<q then pc b else j)) (N:=λa b=>G (if a<q then a else i) (if b<q then pc b else j)) (λa b ha hb=>by rw[hσ a ha])];rw[<- hd,Zkb]
 ·rw[Za8]
  unfold Zes;congr 1
  ·refine Zc9 λa ha=>?_
   rw[Gx ha,Gx Gk]
  rw[Gw (QP q)];have:=hσ q (QI q);rw[Gw (QP q)]at this;rw[this]
 intro a b ha hb;rw[Gx (by omega:b<q),hσ a ha];by_cases h1:a<q;rw[Gx h1,h.bef a (pc b) Gk (h.inc b a hb Gk)];grind;rw[Gw h1];by_cases h2:i<r;rw[h.bef i (pc b) h2 (h.inc b i Gk h2)];grind;rw[h.low i (pc b) Gk hi (h.pcl b Gk)];grind
theorem EIR.minor(h:EIR B S n m col r R pc G s){i:Nat}(hi:i<n)(j:Nat):BndQ (Zbn B (min i r+1)) (Zes R pc s (min i r)*(s i*Zh R i j)):=by
 rw[h.minor_eq hi j];refine Zhn λa b ha hb=>h.gB _ _ ?_
 split <;> omega
theorem EIR.piv_ne(h:EIR B S n m col r R pc G s){l:Nat}(hl:l<=r):Zes R pc s l≠0:=by
 induction l with
 | zero=>unfold Zes Za8;grind
 | succ l ih =>
  have h1:=ih Gk;have h2:=h.piv l Gk;have h3:=(h.sB l (by have:=h.rn;omega)).2;unfold Zes at h1 ⊢;rw[Za8];intro h0;rcases Rat.mul_eq_zero.1 h0 with h0|h0;exact h1 h0;rcases Rat.mul_eq_zero.1 h0 with h0|h0;exact h3 h0;exact h2 h0
theorem EIR.pivL_bnd(h:EIR B S n m col r R pc G s){l:Nat}(hl:l<=r):BndQ (Zbn B l) (Zes R pc s l):=by
 cases l with
 | zero=>exact⟨1,rfl,by simp[Zbn]⟩
 | succ l =>
  have h1:=h.minor (i:=l) (by have:=h.rn;omega) (pc l);rw[show min l r=l by omega]at h1;unfold Zes at h1 ⊢;rw[Za8];exact h1
theorem FI{G:Prop}(h:G:=by
 refine Nat.le_trans (Nat.div_le_self _ _) ?_;rw[Int.natAbs_mul];rcases Int.lt_or_gt_of_ne h with g|g;rw[Int.sign_eq_neg_one_of_neg g];simp;rw[Int.sign_eq_one_of_pos g];simp):G:=h
theorem numQ_le(a b:Int)(h:b≠0):(Qv a b).num.natAbs<=a.natAbs:=by
 rw[Rat.num_divInt,Int.natAbs_ediv_of_dvd];exact FI;exact Int.dvd_trans (Int.gcd_dvd_right _ _) (Int.dvd_mul_left _ _)
theorem Zfn{B C:Nat}{p q:Rat}(h:BndQ B (q*p))(k:BndQ C q)(hq:q≠0):p.num.natAbs<=B/\p.den<=C:=by
 obtain⟨a,h1,h2⟩:=h;obtain⟨b,h3,h4⟩:=k;have hb:b≠0:=by rintro rfl;rw[h3]at hq;exact hq rfl
 have hp:p=Qv a b:=by
  rw[QW,<- h1,h3];have:(b:Rat)≠0:=by rw[<- h3];exact hq
  grind
 rw[hp];constructor;exact Qe (numQ_le a b hb) h2;rw[Rat.den_divInt,Gw hb];exact Qe (Yf _ _) h4
theorem EIR.bound(h:EIR B S n m col r R pc G s)(hB:1<=B){i:Nat}(hi:i<n)(j:Nat):(Zh R i j).num.natAbs<=Zbn B n/\(Zh R i j).den<=Zbn B n*S:=by
 have h1:=h.minor hi j;have h2:=h.pivL_bnd (l:=min i r) Gk;have h3:=h.sB i hi;have h4:=h.piv_ne (l:=min i r) Gk;rw[<- Rat.mul_assoc]at h1
 have h5:=Zfn h1 (h2.mul h3.1) (λh0=>by
  rcases Rat.mul_eq_zero.1 h0 with h0|h0;exact h4 h0;exact h3.2 h0)
 have h6:=Zc4 hB (show min i r+1<=n by omega);have h7:=Zc4 hB (show min i r<=n by omega);exact⟨by omega,Qe h5.2 (Qr h7 (Qc _))⟩
theorem Zie{k r:Nat}(hk:k<R.length)(hr:r<R.length)(i j:Nat):Zh (Zag R k r) i j=Zh R (swI k r i) j:=by
 unfold Zh;rw[Zdv hk hr]
theorem Zms{k r i:Nat}(hk:r<=k)(hi:i<r):swI k r i=i:=by unfold swI;rw[Gw Gk,Gw Gk]
theorem Zq9{k r i:Nat}(hk:r<=k)(hi:r<=i):r<=swI k r i:=by unfold swI;split <;> (try split) <;> omega
theorem EIR.skip(h:EIR B S n m col r R pc G s)(hc:col<m)(hz:∀ i,r<=i->i<n->Zh R i col=0):EIR B S n m (col+1) r R pc G s:=
 { h with
  pcl:=λl hl=>by have:=h.pcl l hl;omega
  cm:=hc
  low:=λi j hi hn hj=>by
   by_cases hjc:j=col;rw[hjc];exact hz i hi hn;exact h.low i j hi hn Gk }
theorem EIR.swap(h:EIR B S n m col r R pc G s){k:Nat}(hk:k<n)(hrk:r<=k):EIR B S n m col r (Zag R k r) pc (λi j=>G (swI k r i) j) (λi=>s (swI k r i)):=by
 have hr:r<n:=Gk;have hl:=h.len;have he:∀ i j,Zh (Zag R k r) i j=Zh R (swI k r i) j:=Zie Gk Gk;have e:∀ {i},i<n->swI k r i<n:=λhi=>Zhx hk hr hi;refine⟨by rw[Zeb];exact hl,λi hi=>by rw[Zdv Gk Gk];exact h.row _ (e hi),h.pcl,h.inc,λi j hi hn hj=>?_,λl j hl' hj=>?_,λl hl'=>?_,h.rn,h.cm,λi hi=>h.sB _ (e hi),λi j hi=>h.gB _ _ (e hi),λN f σ h1 h2 h3=>?_⟩;rw[he];exact h.low _ _ (Zq9 hrk hi) (e hn) hj;rw[he,Zms hrk hl'];exact h.bef l j hl' hj;rw[he,Zms hrk hl'];exact h.piv l hl';have:=h.det N f (λa=>swI k r (σ a)) (λa ha=>e (h1 a ha)) (λa ha=>by rw[h2 a ha,Zms hrk ha]) (λa ha=>Zq9 hrk (h3 a ha));rw[<- this];exact Za6 λa b _ _=>by rw[he]
theorem Zgx(hrow:∀ i,i<R.length->(R[i]?.getD []).length=m)(hlow:∀ j,j<col->Zh R r j=0)(i j:Nat)(hi:i<R.length)(hr:r<R.length) :
    Zh (Zbq R r col) i j=if i<=r then Zh R i j else Zh R i j-Zh R i col/Zh R r col*Zh R r j:=by
 unfold Zbq;show ((List.map _ (Qs R.length))[i]?.getD [])[j]?.getD 0=_;rw[Qd,Qp hi];simp only[Qn,Qk];by_cases h1:i<=r;rw[Gx h1,Gx h1];rfl;rw[Gw h1,Gw h1];unfold Zok;rw[Qd];by_cases hj:j<(R[i]?.getD []).length
 ·rw[Qp hj]
  simp only[Qn,Qk];by_cases hjc:j<col
  ·rw[Gx hjc,hlow j hjc]
   show Zh R i j=_
   grind
  rw[Gw hjc];rfl
 rw[Qg (l:=Qs _) (by simpa using hj)];simp only[QL,QJ];have e1:Zh R i j=0:=by unfold Zh;rw[Qg Gk];rfl
 have e2:Zh R r j=0:=by unfold Zh;rw[Qg (by rw[hrow i hi]at hj;rw[hrow r hr];omega)];rfl
 rw[e1,e2];grind
theorem Ze7:(Zbq R r col).length=R.length:=by unfold Zbq;simp
theorem Znh(i:Nat)(hi:i<R.length):((Zbq R r col)[i]?.getD []).length=(R[i]?.getD []).length:=by
 unfold Zbq;rw[Qd,Qp hi];simp only[Qn,Qk]
 split
 rfl;unfold Zok;simp
theorem EIR.clear(h:EIR B S n m col r R pc G s)(hc:col<m)(hr:r<n)(hp:Zh R r col≠0):EIR B S n m (col+1) (r+1) (Zbq R r col) (λl=>if l=r then col else pc l) G s:=by
 have hl:=h.len
 have he:∀ i j,i<n->Zh (Zbq R r col) i j=if i<=r then Zh R i j else Zh R i j-Zh R i col/Zh R r col*Zh R r j:=
  λi j hi=>Zgx (m:=m) (λi hi=>h.row i Gk) (λj hj=>h.low r j (Qc _) hr hj) i j Gk Gk
 refine⟨by rw[Ze7];exact hl,λi hi=>by rw[Znh i Gk];exact h.row i hi,λl hl'=>?_,λl l' h1 h2=>?_,λi j hi hn hj=>?_,λl j hl' hj=>?_,λl hl'=>?_,hr,hc,h.sB,h.gB,λN f σ h1 h2 h3=>?_⟩
 ·split
  omega;have:=h.pcl l Gk;omega
 ·rw[Gw (by omega:¬ l=r)]
  split
  exact h.pcl l Gk;exact h.inc l l' h1 Gk
 ·rw[he i j hn,Gw Gk]
  by_cases hjc:j=col;rw[hjc];grind;rw[h.low i j Gk hn Gk,h.low r j (Qc _) hr Gk];grind
 ·rw[he l j Gk,Gx Gk]
  by_cases hlr:l=r
  ·rw[hlr];simp only[hlr,if_true]at hj
   exact h.low r j (Qc _) hr hj
  simp only[Gw hlr]at hj;exact h.bef l j Gk hj
 ·rw[he l _ Gk,Gx Gk]
  by_cases hlr:l=r;simp only[hlr,if_true];exact hp;simp only[Gw hlr];exact h.piv l Gk
 rw[<- h.det N f σ h1 (λa ha=>h2 a (by omega)) (λa ha=>by
   by_cases har:a=r;rw[har,h2 r Gk];exact Qc _;have:=h3 a Gk;omega)]
 by_cases hN:N<=r
 ·refine Za6 λa b ha hb=>?_
  rw[he _ _ (h1 a ha),Gx];rw[h2 a Gk];omega
 have hσr:σ r=r:=h2 r Gk;rw[<- Znz (λa b=>s (σ a)*Zh R (σ a) (f b)) (l:=r) (n:=N) Gk (λa=>if a<=r then 0 else-(s (σ a)*Zh R (σ a) col/(s r*Zh R r col)))];refine Za6 λa b ha hb=>?_;rw[he _ _ (h1 a ha)];by_cases har:a<=r
 ·rw[h2 a Gk,Gx har]
  simp only[Gx har]
  split
  rfl
  grind
 have:=h3 a Gk;rw[Gw Gk,Gw Gk,Gw har,hσr];have hs:=(h.sB r hr).2
 grind
structure EIZ (n m r:Nat) (R:List (List Rat)) (pc:Nat->Nat) (s:Nat->Rat) (Z:List (List Int)) (last:Int):Prop where
 len:Z.length=n
 row:∀ i,i<n->(Z[i]?.getD []).length=m
 last:(last:Rat)=Zes R pc s r
 ent:∀ i j,i<n->(Zaf Z i j:Rat)=Zes R pc s (min i r)*(s i*Zh R i j)
theorem Zn2{R':List (List Rat)}{pc':Nat->Nat}{s':Nat->Rat}{l:Nat}(h:∀ i,i<l->s i*Zh R i (pc i)=s' i*Zh R' i (pc' i)):Zes R pc s l=Zes R' pc' s' l:=Zc9 h
theorem Zgr{a b:Int}(h:(a:Rat)=(b:Rat)):a=b:=by exact_mod_cast h
theorem EIZ.last_ne{Z:List (List Int)}{last:Int}(h:EIR B S n m col r R pc G s)(k:EIZ n m r R pc s Z last):last≠0:=by
 rintro rfl;exact h.piv_ne (Qc r) (k.last.symm.trans rfl)
theorem EIZ.last_bnd{Z:List (List Int)}{last:Int}(h:EIR B S n m col r R pc G s)(k:EIZ n m r R pc s Z last)(hB:1<=B):last.natAbs<=Zbn B n:=by
 obtain⟨z,h1,h2⟩:=h.pivL_bnd (Qc r);rw[<- k.last]at h1;rw[Zgr h1];exact Qe h2 (Zc4 hB h.rn)
theorem EIZ.bnd{Z:List (List Int)}{last:Int}(h:EIR B S n m col r R pc G s)(k:EIZ n m r R pc s Z last)(hB:1<=B){i:Nat}(hi:i<n)(j:Nat):(Zaf Z i j).natAbs<=Zbn B n:=by
 obtain⟨z,h1,h2⟩:=h.minor hi j;rw[<- k.ent i j hi]at h1;rw[Zgr h1];exact Qe h2 (Zc4 hB Gk)
theorem EIZ.zero{Z:List (List Int)}{last:Int}(h:EIR B S n m col r R pc G s)(k:EIZ n m r R pc s Z last){i:Nat}(hi:i<n)(j:Nat):(Zaf Z i j == 0)=(Zh R i j == 0):=by
 have h1:=k.ent i j hi;have h2:=h.piv_ne (l:=min i r) Gk;have h3:=(h.sB i hi).2;by_cases h0:Zh R i j=0
 ·rw[h0]at h1 ⊢
  have:Zaf Z i j=0:=Zgr (by rw[h1];grind);rw[this];rfl
 have:Zaf Z i j≠0:=by
   intro hz;rw[hz]at h1;rcases Rat.mul_eq_zero.1 h1.symm with h4|h4;exact h2 h4;rcases Rat.mul_eq_zero.1 h4 with h4|h4;exact h3 h4;exact h0 h4
 rw[beq_eq_false_iff_ne.2 this,beq_eq_false_iff_ne.2 h0]
theorem Zh7{Z:List (List Int)}{k r:Nat}(hk:k<Z.length)(hr:r<Z.length)(i j:Nat):Zaf (Zag Z k r) i j=Zaf Z (swI k r i) j:=by
 unfold Zaf;rw[Zdv hk hr]
theorem EIZ.swap{Z:List (List Int)}{last:Int}(h:EIR B S n m col r R pc G s)(q:EIZ n m r R pc s Z last){k:Nat}(hk:k<n)(hrk:r<=k):EIZ n m r (Zag R k r) pc (λi=>s (swI k r i)) (Zag Z k r) last:=by
 have hr:r<n:=Gk;have hl:=h.len;have e:=q.len;have he:∀ i j,Zh (Zag R k r) i j=Zh R (swI k r i) j:=Zie Gk Gk;have hp:∀ l,l<=r->Zes (Zag R k r) pc (λi=>s (swI k r i)) l=Zes R pc s l:=λl hl=>Zn2 λi hi=>by rw[he,Zms hrk Gk]
 refine⟨by rw[Zeb];exact e,λi hi=>by rw[Zdv Gk Gk];exact q.row _ (Zhx hk hr hi),?_,λi j hi=>?_⟩;rw[hp r (Qc r)];exact q.last;rw[hp _ Gk,he,Zh7 Gk Gk,q.ent _ j (Zhx hk hr hi)]
 have:min (swI k r i) r=min i r:=by
  by_cases hir:i<r;rw[Zms hrk hir];have:=Zq9 (i:=i) hrk Gk;omega
 rw[this]
theorem Zuz{Z:List (List Int)}{last:Int}(hrow:∀ i,i<Z.length->(Z[i]?.getD []).length=m)(i j:Nat)(hi:i<Z.length) :
    Zaf (Zdr Z r col last) i j=if i<=r then Zaf Z i j else if j<m then Int.fdiv (Zaf Z i j*Zaf Z r col-Zaf Z i col*Zaf Z r j) last else 0:=by
 unfold Zdr;show ((List.map _ (Qs Z.length))[i]?.getD [])[j]?.getD 0=_;rw[Qd,Qp hi];simp only[Qn,Qk];by_cases h1:i<=r;rw[Gx h1,Gx h1];rfl;rw[Gw h1,Gw h1];unfold Zry;rw[Qd];by_cases hj:j<(Z[i]?.getD []).length;rw[Qp hj,Gx (by rw[hrow i hi]at hj;exact hj)];rfl;rw[Qg (l:=Qs _) (by simpa using hj),Gw (by rw[hrow i hi]at hj;exact hj)];rfl
theorem Zi6{Z:List (List Int)}{last:Int}:(Zdr Z r col last).length=Z.length:=by unfold Zdr;simp
theorem Zvl{Z:List (List Int)}{last:Int}(i:Nat)(hi:i<Z.length):((Zdr Z r col last)[i]?.getD []).length=(Z[i]?.getD []).length:=by
 unfold Zdr;rw[Qd,Qp hi];simp only[Qn,Qk]
 split
 rfl;unfold Zry;simp
theorem Zsg(hrow:∀ i,i<n->(R[i]?.getD []).length=m){i j:Nat}(hi:i<n)(hj:m<=j):Zh R i j=0:=by
 unfold Zh;rw[Qg (by rw[hrow i hi];exact hj)];rfl
theorem EIZ.clear{Z:List (List Int)}{last:Int}(h:EIR B S n m col r R pc G s)(q:EIZ n m r R pc s Z last)(hc:col<m)(hr:r<n)(hp:Zh R r col≠0) :
    EIZ n m (r+1) (Zbq R r col) (λl=>if l=r then col else pc l) s (Zdr Z r col last) (Zaf Z r col):=by
 have hl:=h.len;have C:=q.len;have h':=h.clear hc hr hp
 have he:∀ i j,i<n->Zh (Zbq R r col) i j=if i<=r then Zh R i j else Zh R i j-Zh R i col/Zh R r col*Zh R r j:=
  λi j hi=>Zgx (m:=m) (λi hi=>h.row i Gk) (λj hj=>h.low r j (Qc _) hr hj) i j Gk Gk
 have u:∀ l,l<=r->Zes (Zbq R r col) (λl=>if l=r then col else pc l) s l=Zes R pc s l:=λl hl=>Zn2 λi hi=>by
  rw[he _ _ Gk,Gx Gk,Gw Gk]
 have e:Zes (Zbq R r col) (λl=>if l=r then col else pc l) s (r+1)=Zes R pc s r*(s r*Zh R r col):=by
  rw[Zes,Za8];have:=u r (Qc r);unfold Zes at this;rw[this,he _ _ hr,Gx (Qc r),Gx rfl];rfl
 refine⟨by rw[Zi6];exact C,λi hi=>by rw[Zvl i Gk];exact q.row i hi,?_,λi j hi=>?_⟩;rw[e,q.ent r col hr,show min r r=r by omega];rw[Zuz (m:=m) (λi hi=>q.row i Gk) i j Gk];by_cases hir:i<=r;rw[Gx hir,u _ Gk,he _ _ hi,Gx hir,q.ent i j hi,show min i (r+1)=min i r by omega];rw[Gw hir];by_cases hj:j<m
 ·rw[Gx hj]
  obtain⟨z,f,-⟩:=h'.minor hi j;rw[show min i (r+1)=r+1 by omega,e,he _ _ hi,Gw hir]at f;have y:=q.last_ne h;have e1:=q.ent i j hi;have e2:=q.ent r col hr;have e3:=q.ent i col hi;have e4:=q.ent r j hr;have e5:=q.last;rw[show min i r=r by omega]at e1 e3;rw[show min r r=r by omega]at e2 e4
  have o:Zaf Z i j*Zaf Z r col-Zaf Z i col*Zaf Z r j=last*z:=Zgr (by
   rw[Rat.intCast_sub,Qu,Qu,Qu,e1,e2,e3,e4,e5,<- f]
   grind)
  rw[o,Int.mul_comm,Int.mul_fdiv_cancel _ y,<- f,show min i (r+1)=r+1 by omega,e,he _ _ hi,Gw hir]
 rw[Gw hj,Zsg (n:=n) h'.row hi Gk];have:((0:Int):Rat)=0:=rfl;rw[this];grind
end
def BdZ(C m:Nat)(Z:List (List Int)):Prop:=(∀ i,i<Z.length->(Z[i]?.getD []).length=m)/\∀ i j,(Zaf Z i j).natAbs<C
def BdR(C D m:Nat)(R:List (List Rat)):Prop:=(∀ i,i<R.length->(R[i]?.getD []).length=m)/\∀ i j,(Zh R i j).num.natAbs<C/\(Zh R i j).den<D
def okZ(C m:Nat):Nat->Nat->Nat->List (List Int)->Int->Prop
 | 0,_,_,Z,last=>BdZ C m Z/\last≠0/\last.natAbs<C
 | f+1,col,r,Z,last=>BdZ C m Z/\(last≠0/\last.natAbs<C)/\(r=Z.length \/
     (Zbo (λi=>Zaf Z i col == 0) Z.length Z.length r=Z.length->okZ C m f (col+1) r Z last) /\
     (Zbo (λi=>Zaf Z i col == 0) Z.length Z.length r≠Z.length->okZ C m f (col+1) (r+1) (Zdr (Zag Z (Zbo (λi=>Zaf Z i col == 0) Z.length Z.length r) r) r col last) (Zaf Z (Zbo (λi=>Zaf Z i col == 0) Z.length Z.length r) col)))
def okR(C D m:Nat):Nat->Nat->Nat->List (List Rat)->Prop
 | 0,_,_,R=>BdR C D m R
 | f+1,col,r,R=>BdR C D m R/\(r=R.length \/
     (Zbo (λi=>Zh R i col == 0) R.length R.length r=R.length->okR C D m f (col+1) r R) /\
     (Zbo (λi=>Zh R i col == 0) R.length R.length r≠R.length->okR C D m f (col+1) (r+1) (Zbq (Zag R (Zbo (λi=>Zh R i col == 0) R.length R.length r) r) r col)))
def sgB(b:Bool):Rat:=if b then -1 else 1
theorem Zx1{n k r:Nat}(f:Nat->Rat)(hk:k<n)(hr:r<n):Za8 n (λi=>f (swI k r i))=Za8 n f:=by
 by_cases e:k=r
 ·subst e;refine Zc9 λi _=>?_
  unfold swI;split;rename_i h;rw[h];rfl
 have key:∀ n (f:Nat->Rat) k r,k<r->r<n->Za8 n (λi=>f (swI k r i))=Za8 n f:=by
   intro n
   induction n with
   | zero=>intro f k r _ h;omega
   | succ n ih =>
    intro f k r e hr;by_cases hrn:r=n
    ·subst hrn
     have o:∀ (m:Nat) (g h:Nat->Rat),k<m->(∀ i,i<m->i≠k->g i=h i)->Za8 m g*h k=Za8 m h*g k:=by
      intro m
      induction m with
      | zero=>intro g h hk _;omega
      | succ m ihm =>
       intro g h hk he;simp only[Za8];by_cases hkm:k=m
       ·subst hkm
        rw[Zc9 (f:=g) (g:=h) (λi hi=>he i Gk Gk)];grind
       have:=ihm g h Gk (λi hi=>he i Gk);rw[he m Gk Gk];grind
     simp only[Za8];have e1:swI k r r=k:=by unfold swI;rw[Gw Gk,Gx rfl]
     have e2:swI k r k=r:=by unfold swI;rw[Gx rfl]
     have:=o r (λi=>f (swI k r i)) f e (λi hi hik=>by unfold swI;rw[Gw hik,Gw Gk]);simp only[e2]at this;rw[e1];exact this
    simp only[Za8];rw[ih f k r e Gk];have:swI k r n=n:=by unfold swI;rw[Gw Gk,Gw Gk]
    rw[this]
 rcases QR e with h|h;exact key n f k r h hr;have:∀ i,swI k r i=swI r k i:=λi=>by unfold swI;split <;> split <;> omega
 rw[<- key n f r k h hk];exact Zc9 λi _=>by rw[this]
theorem Z08{n k r:Nat}(M:Nat->Nat->Rat)(hk:k<n)(hr:r<n):Zat n (λa b=>M (swI k r a) b)=if k=r then Zat n M else-Zat n M:=by
 by_cases hkr:k=r
 ·subst hkr
  rw[Gx rfl];refine Za6 λa b _ _=>?_;unfold swI;split;rename_i h;rw[h];rfl
 rw[Gw hkr,<- Zym M hk hr hkr];congr 1
 funext a b
 unfold swI Zah;by_cases h1:a=k;subst h1;rw[Gx rfl,Gw hkr,Gx rfl];rw[Gw h1];by_cases h2:a=r;rw[Gx h2,Gx h2];rw[Gw h2,Gw h2,Gw h1]
theorem EIR.bdR{B S n m col r:Nat}{R:List (List Rat)}{pc:Nat->Nat}{G:Nat->Nat->Rat}{s:Nat->Rat}(h:EIR B S n m col r R pc G s)(hB:1<=B)(hS:1<=S):BdR (Zbn B n+1) (Zbn B n*S+1) m R:=by
 have hl:=h.len;refine⟨λi hi=>h.row i Gk,λi j=>?_⟩;by_cases hi:i<n;have:=h.bound hB hi j;omega;have:Zh R i j=0:=by unfold Zh;rw[Qg (l:=R) Gk];rfl
 have h1:1<=Zbn B n:=Zc4 (m:=0) hB Gk;have h2:1*1<=Zbn B n*S:=Qr h1 hS;rw[this];refine⟨by simp,?_⟩;rw[show (0:Rat).den=1 from rfl];omega
theorem EIZ.bdZ{B S n m col r:Nat}{R:List (List Rat)}{pc:Nat->Nat}{G:Nat->Nat->Rat}{s:Nat->Rat}{Z:List (List Int)}{last:Int}(h:EIR B S n m col r R pc G s)(k:EIZ n m r R pc s Z last)(hB:1<=B):BdZ (Zbn B n+1) m Z:=by
 have hl:=k.len;refine⟨λi hi=>k.row i Gk,λi j=>?_⟩;by_cases hi:i<n;have:=k.bnd h hB hi j;omega;have:Zaf Z i j=0:=by unfold Zaf;rw[Qg (l:=Z) Gk];rfl
 rw[this];simp
theorem Zk5{B S n m:Nat}(hB:1<=B)(hS:1<=S):∀ (f col r:Nat) (R:List (List Rat)) (pc:Nat->Nat) (G:Nat->Nat->Rat) (s:Nat->Rat) (Z:List (List Int)) (neg:Bool) (last:Int),
    EIR B S n m col r R pc G s->EIZ n m r R pc s Z last->col+f<=m ->
    okZ (Zbn B n+1) m f col r Z last/\okR (Zbn B n+1) (Zbn B n*S+1) m f col r R /\
    (Zap f col r Z neg last).2.1=(Zbf f col r R neg).2.1/\(Zap f col r Z neg last).2.2.1=(Zbf f col r R neg).2.2 /\
    ∃ e u G' s',EIR B S n m e (Zbf f col r R neg).2.1 (Zbf f col r R neg).1 u G' s'/\EIZ n m (Zbf f col r R neg).2.1 (Zbf f col r R neg).1 u s' (Zap f col r Z neg last).1 (Zap f col r Z neg last).2.2.2 /\
     (e=col+f \/ (Zbf f col r R neg).2.1=n/\e<=col+f)/\Za8 n s'=Za8 n s/\(∀ φ:Nat->Nat,sgB (Zbf f col r R neg).2.2*Zat n (λa b=>G' a (φ b))=sgB neg*Zat n (λa b=>G a (φ b)))
 | 0,col,r,R,pc,G,s,Z,neg,last,h,k,hm=>by
  have h1:=k.last_bnd h hB;exact⟨⟨k.bdZ h hB,k.last_ne h,by omega⟩,h.bdR hB hS,rfl,rfl,col,pc,G,s,h,k,.inl rfl,rfl,λφ=>rfl⟩
 | f+1,col,r,R,pc,G,s,Z,neg,last,h,k,hm=>by
  have y:=h.len;have T:=k.len;have h1:=k.last_bnd h hB;have U:=h.rn
  have C:Zbo (λi=>Zaf Z i col == 0) Z.length Z.length r=Zbo (λi=>Zh R i col == 0) R.length R.length r:=by
   rw[y,T];exact Zr7 Gk U (λi h1 h2=>k.zero h h2 col)
  unfold Zap Zbf okZ okR;simp only[C];rw[y]at C ⊢;simp only[T];by_cases hr:r=n
  ·simp only[Gx hr]
   exact⟨⟨k.bdZ h hB,⟨k.last_ne h,by omega⟩,.inl hr⟩,⟨h.bdR hB hS,.inl hr⟩,(by trivial),(by trivial),col,pc,G,s,h,k,.inr ⟨hr,by omega⟩,rfl,λφ=>rfl⟩
  simp only[Gw hr];obtain⟨q,hq⟩:∃ q,Zbo (λi=>Zh R i col == 0) n n r=q:=⟨_,rfl⟩;obtain⟨p1,p2,p3,p4⟩:=Zfe (z:=λi=>Zh R i col == 0) (n:=n) (f:=n) (k:=r) Gk Gk;rw[hq]at p1 p2 p3 p4;simp only[hq];by_cases hqn:q=n
  ·simp only[Gx hqn]
   have hz:∀ i,r<=i->i<n->Zh R i col=0:=λi h1 h2=>by simpa using p3 i h1 Gk
   obtain⟨o1,o2,o3,o4,e,u,G',s',o5,o6,o7,o8,o9⟩:=Zk5 hB hS f (col+1) r R pc G s Z neg last (h.skip Gk hz) k Gk;exact⟨⟨k.bdZ h hB,⟨k.last_ne h,by omega⟩,.inr ⟨λ_=>o1,λhn=>absurd hqn hn⟩⟩,⟨h.bdR hB hS,.inr ⟨λ_=>o2,λhn=>absurd hqn hn⟩⟩,o3,o4,e,u,G',s',o5,o6,by omega,o8,o9⟩
  simp only[Gw hqn];have o:q<n:=Gk;have J:Zh R q col≠0:=by simpa using p4 o
  have O:=h.swap o p1;have ksw:=k.swap h o p1
  have I:Zh (Zag R q r) r col=Zh R q col:=by
   rw[Zie Gk Gk];congr 1;unfold swI;split;rename_i h;exact h;rw[Gx rfl]
  have V:Zaf (Zag Z q r) r col=Zaf Z q col:=by
   rw[Zh7 Gk Gk];congr 1;unfold swI;split;rename_i h;exact h;rw[Gx rfl]
  have Y:=O.clear Gk Gk (by rw[I];exact J);have kcl:=ksw.clear O Gk Gk (by rw[I];exact J);rw[V]at kcl;obtain⟨o1,o2,o3,o4,e,u,G',s',o5,o6,o7,o8,o9⟩:=Zk5 hB hS f (col+1) (r+1) _ _ _ _ _ (neg != decide (q≠r)) _ Y kcl Gk;refine⟨⟨k.bdZ h hB,⟨k.last_ne h,by omega⟩,.inr ⟨λhn=>absurd hn hqn,λ_=>o1⟩⟩,⟨h.bdR hB hS,.inr ⟨λhn=>absurd hn hqn,λ_=>o2⟩⟩,o3,o4,e,u,G',s',o5,o6,by omega,?_,λφ=>?_⟩;rw[o8,Zx1 s o Gk];rw[o9,Z08 (λa b=>G a (φ b)) o Gk];by_cases hqr:q=r
  ·rw[Gx hqr]
   have:decide (q≠r)=false:=by simp[hqr]
   rw[this];cases neg <;> rfl
  rw[Gw hqr];have:decide (q≠r)=true:=by simp[hqr]
  rw[this];cases neg <;> simp[sgB] <;> grind
def denTo(row:List Rat):Nat->Nat
 | 0=>1
 | k+1=>denTo row k*((row[k]?.getD 0).den/QD (denTo row k) (row[k]?.getD 0).den)
def Zd3(row:List Rat):List Int:=row.map λf=>f.num*((denTo row row.length/f.den:Nat):Int)
def Z7(R:List (List Rat)):List (List Int):=R.map Zd3
def denAt(R:List (List Rat))(i:Nat):Nat:=denTo (R[i]?.getD []) (R[i]?.getD []).length
theorem Zec(row:List Rat)(k:Nat):0<denTo row k:=by
 induction k with
 | zero=>exact Nat.one_pos
 | succ k ih =>
  refine Nat.mul_pos ih (Nat.div_pos (Nat.le_of_dvd (Rat.den_pos _) (QG _ _)) (QK _ ih))
theorem Znl(row:List Rat)(k:Nat):denTo row k ∣ denTo row (k+1)/\(row[k]?.getD 0).den ∣ denTo row (k+1):=by
 refine⟨⟨_,rfl⟩,?_⟩;obtain⟨c,hc⟩:=Nat.gcd_dvd_left (denTo row k) (row[k]?.getD 0).den;refine⟨c,?_⟩;simp only[denTo];obtain⟨d,hd⟩:=QG (denTo row k) (row[k]?.getD 0).den;have hg:0<QD (denTo row k) (row[k]?.getD 0).den:=QK _ (Zec row k)
 have e:(row[k]?.getD 0).den/QD (denTo row k) (row[k]?.getD 0).den=d:=by
  rw[Nat.div_eq_iff_eq_mul_left hg (QG _ _),Nat.mul_comm];exact hd
 rw[e]
 calc denTo row k*d=(QD (denTo row k) (row[k]?.getD 0).den*c)*d:=by rw[<- hc]
  _=(QD (denTo row k) (row[k]?.getD 0).den*d)*c:=by rw[Nat.mul_assoc,Nat.mul_assoc,Nat.mul_comm c d]
  _=(row[k]?.getD 0).den*c:=by rw[<- hd]
theorem Zld(row:List Rat){j:Nat}:∀ {k:Nat},j<k->(row[j]?.getD 0).den ∣ denTo row k
 | 0,h=>by omega
 | k+1,h=>by
  by_cases hj:j=k;rw[hj];exact(Znl row k).2;exact Nat.dvd_trans (Zld row (j:=j) (k:=k) Gk) (Znl row k).1
theorem Zrr(row:List Rat){D:Nat}(h:∀ j:Nat,(row[j]?.getD 0).den<=D)(k:Nat):denTo row k<=D^k:=by
 induction k with
 | zero=>exact Qc _
 | succ k ih =>
  rw[Nat.pow_succ];exact Qr ih (Qe (Yf _ _) (h k))
theorem Zkq(row:List Rat):(Zd3 row).length=row.length:=by unfold Zd3;simp
theorem Zq2(row:List Rat)(j:Nat):(((Zd3 row)[j]?.getD 0:Int):Rat)=(denTo row row.length:Nat)*row[j]?.getD 0:=by
 unfold Zd3;rw[Qd];by_cases hj:j<row.length
 ·rw[Qb hj]
  simp only[Qn,Qk];have hd:=Zld row hj;rw[Qb hj]at hd;simp only[Qk]at hd;obtain⟨c,hc⟩:=hd;rw[hc,Nat.mul_div_cancel_left _ (Rat.den_pos _),Qu,QC,Rat.natCast_mul];have e0:((row[j].num:Int):Rat)/((row[j].den:Nat):Rat)=row[j]:=by have:=Qm row[j];rw[QW,QC]at this;exact this
  have e1:((row[j].den:Nat):Rat)≠0:=by
   intro h;have:row[j].den=0:=by exact_mod_cast h
   have:=row[j].den_pos;omega
  have e2:((row[j].num:Int):Rat)=row[j]*((row[j].den:Nat):Rat):=by rw[<- e0];grind
  rw[e2];grind
 rw[Qg Gk];simp only[QL,QJ];have:((0:Int):Rat)=0:=rfl;rw[this];grind
theorem Zgv(R:List (List Rat))(i j:Nat):((Zaf (Z7 R) i j:Int):Rat)=(denAt R i:Nat)*Zh R i j:=by
 unfold Zaf Z7 Zh denAt;rw[Qd];cases h:R[i]? with
 | none=>simp only[Option.map_none,Option.getD_none,List.getElem?_nil];have:((0:Int):Rat)=0:=rfl
         rw[this];grind
 | some row=>simp only[Qn,Qk];exact Zq2 row j
theorem Znv{B S n m:Nat}(R:List (List Rat))(hl:R.length=n)(hrow:∀ i,i<n->(R[i]?.getD []).length=m)(hS:∀ i,i<n->denAt R i<=S)(hBd:∀ i j,i<n->(Zaf (Z7 R) i j).natAbs<=B) :
    EIR B S n m 0 0 R (λ_=>0) (λi j=>(denAt R i:Nat)*Zh R i j) (λi=>(denAt R i:Nat))/\EIZ n m 0 R (λ_=>0) (λi=>(denAt R i:Nat)) (Z7 R) 1:=by
 refine⟨⟨hl,hrow,λl h=>by omega,λl l' _ h=>by omega,λi j _ _ h=>by omega,λl j h=>by omega,λl h=>by omega,QX _,QX _,λi hi=>⟨⟨(denAt R i:Nat),by rw[QC],by rw[QF];exact hS i hi⟩,λh0=>?_⟩,λi j hi=>⟨_,(Zgv R i j).symm,hBd i j hi⟩,λN f σ _ _ _=>rfl⟩,⟨by unfold Z7;simp[hl],λi hi=>?_,rfl,λi j hi=>?_⟩⟩
 ·have:denAt R i=0:=by exact_mod_cast h0
  have:=Zec (R[i]?.getD []) (R[i]?.getD []).length;unfold denAt at *;omega
 ·unfold Z7
  rw[Qd,Qb Gk];simp only[Qn,Qk];rw[Zkq];have:=hrow i hi;rw[Qb Gk]at this;exact this
 rw[Zgv];have:Zes R (λ_=>0) (λi=>((denAt R i:Nat):Rat)) (min i 0)=1:=by rw[show min i 0=0 by omega];rfl
 rw[this];grind
