/- Package frac: the closure of Mul. Package frac: the -/
import Derived.Maps.AppendAt
import Derived.Test.YthappeninglakaaGreatZa06
set_option maxRecDepth 100000
set_option maxHeartbeats 2000000
set_option linter.unusedSimpArgs false
set_option linter.unusedVariables false
namespace Go.Proofs.YthappeninglakaaGreat
open Go.RowKit
open List renaming mem_cons_of_mem→Qa,mem_cons_self→Qc,replicate→Qg,all_eq_true→Qi,length_append→Qn,length_map→Qo,length_cons→Qr,getElem?_append_left→Qt,getElem?_eq_getElem→Qu,filter_cons_of_neg→Qw,filter_cons_of_pos→Qx,getElem?_eq_none→Qz,eq_nil_of_length_eq_zero→QD,mem_or_eq_of_mem_set→QG,getElem?_replicate→QI,set_cons_succ→QL,ext_getElem?→QO,getElem?_map→QP,getElem_mem→QR,nil_append→QT,foldl_cons→QU,mem_filter→QV
open _root_.Array renaming getD_eq_getD_getElem?→Qb,getElem?_eq_getElem→Qf,getElem?_setIfInBounds_self→Qm,getElem?_eq_none→Qp,getElem?_setIfInBounds→Qq,setIfInBounds_comm→Qv
open And renaming intro→Qd
open Bool renaming and_eq_true→Qe,not_eq_true'→Qk,or_eq_true→QC
open Act renaming put→Qh
open Nat renaming le_trans→Qj,add_sub_cancel'→Qs,le_refl→Qy,zero_add→QB,lt_of_lt_of_le→QE,lt_or_ge→QH,add_right_comm→QM,le_add_right→QQ
open Rat renaming num_divInt_den→Ql,divInt→QJ
open Ne renaming symm→QA
open Below renaming refl→QF
open World renaming cell?_of_block→QK
open Builtin renaming zeroCells→QN
open Option renaming getD_some→QS
attribute [local go_sem] Zi
theorem ResP.code0{w:World}{z:Int}{neg:Bool}{A:Option Addr}{n c:Nat}{code:Int}(h:ResP w z neg A n c code)(hs:z.natAbs<pw 4096):code=0:=by
 rcases h with ⟨_,h,_⟩|⟨h,_⟩;exact h;omega
def Zo8(w:World)(x y:Int)(e:Ending)(w':World):Prop:=
 Below w.heap.size w w'/\∃ na A n c nb B m d,e=.returned (.tuple #[.agg #[.bool na,.slice A n c],.agg #[.bool nb,.slice B m d]])/\Wd w' na A n c x/\Wd w' nb B m d y
theorem Mul1_ok(na nb na' nb':Bool)(A B A' B':Option Addr)(n c m d n' c' m' d':Nat)(a b:Rat)(w:World)(ha:Fr w na A n c nb B m d a)(hb:Fr w na' A' n' c' nb' B' m' d' b)
    (hs:(a.num*b.num).natAbs<pw 4096) (ht:((a.den:Int)*(b.den:Nat)).natAbs<pw 4096) :
    Calls Tryz.prog 131 #[.agg #[.bool na,.slice A n c,.bool nb,.slice B m d],.agg #[.bool na',.slice A' n' c',.bool nb',.slice B' m' d']] w (Zo8 w (a.num*b.num) ((a.den:Int)*(b.den:Nat))):=by
 obtain⟨W0,J,I,⟨q0,q1,q2,q3⟩,s0⟩:=Zfr w 41 #[.bool na,.slice A n c,.bool nb,.slice B m d] 41 #[.bool na',.slice A' n' c',.bool nb',.slice B' m' d'] 39 #[.bool false,.slice none 0 0] 39 #[.bool false,.slice none 0 0];have hmx:=Gt;have hA:=Zd (ha.below I);have hD:=Zd (hb.below I);replace hs:=Zd hs;replace ht:=Zd ht;have sz:=Zd I.size;have hB:=Zd I;clear ha hb I s0;replace q0:=Zd q0;replace q1:=Zd q1;replace q2:=Zd q2;replace q3:=Zd q3;obtain⟨a0,a1,a2,a3,-⟩:=q0.out.four;obtain⟨b0,b1,b2,b3,-⟩:=q1.out.four;replace J:=Zd J;go_in;go_wp2_with fail;rw[J.out];clear J;refine Zz [17] (λW'=>W'.cell? ⟨w.heap.size,0,none⟩=some (.bool na)/\W'.cell? ⟨w.heap.size,1,none⟩=some (.slice A n c)/\W'.cell? ⟨w.heap.size,2,none⟩=some (.bool nb)/\W'.cell? ⟨w.heap.size,3,none⟩=some (.slice B m d)/\W'.cell? ⟨w.heap.size+1,0,none⟩=some (.bool na')/\W'.cell? ⟨w.heap.size+1,1,none⟩=some (.slice A' n' c')/\W'.cell? ⟨w.heap.size+1,2,none⟩=some (.bool nb')/\W'.cell? ⟨w.heap.size+1,3,none⟩=some (.slice B' m' d')) hmx ⟨a0,a1,a2,a3,b0,b1,b2,b3⟩ (λ_=>?_);refine Zkb 8 [0,1,2,3,8,9,10,11] rfl Gi ⟨a0,a1,a2,a3,b0,b1,b2,b3⟩ ?_
 iterate 8 (refine tkA ?_;try simp only[Qh,Zg9,Zgn,Zg3,Gr,Gq,Gp])
 refine tk0 ?_;refine wpAnyL_o 4 λK hK=>?_;go_simp;refine(Zjd na na' A A' n c n' c' a.num b.num W0.drew hA.out.1 hD.out.1).mono ?_;rintro e w1 ⟨h,np,P,k,q,code,rfl,hR⟩;replace h:=Zv h;have hP:=Zd (hR.small hs.out);have C:=hR.code0 hs.out;subst C;clear hs hR;replace q0:=Gm h q0;replace q1:=Gm h q1;replace q2:=Gm h q2;replace q3:=Gm h q3;replace hA:=Zd (hA.out.below h);replace hD:=Zd (hD.out.below h);replace hB:=Zd (hB.out.trans (h.mono sz.out));replace sz:=Zd (Qj sz.out h.size);clear a0 a1 a2 a3 b0 b1 b2 b3;obtain⟨a0,a1,a2,a3,-⟩:=q0.out.four;obtain⟨b0,b1,b2,b3,-⟩:=q1.out.four;clear h;refine hK.out _ _ (λ_=>⟨a0,a1,a2,a3,b0,b1,b2,b3⟩) ?_;clear hK K
 try simp only[Qh,Zg9,Zgn,Zg3]
 refine Zkb 2 [5,6] rfl Gi ⟨a0,a1,a2,a3,b0,b1,b2,b3⟩ ?_
 iterate 2 (refine tkA ?_;try simp only[Qh,Zg9,Zgn,Zg3,Gr,Gq,Gp])
 refine tk0 ?_;refine wpAnyL_o 7 λK hK=>?_;go_simp;refine(Zd5 np P k q w1).mono ?_;rintro e w2 ⟨rfl,o⟩;replace hP:=Zd (hP.out.below o);replace q0:=Gm o q0;replace q1:=Gm o q1;replace q2:=Gm o q2;replace q3:=Gm o q3;replace hA:=Zd (hA.out.below o);replace hD:=Zd (hD.out.below o);replace hB:=Zd (hB.out.trans (o.mono sz.out));replace sz:=Zd (Qj sz.out o.size);clear a0 a1 a2 a3 b0 b1 b2 b3;obtain⟨a0,a1,a2,a3,-⟩:=q0.out.four;obtain⟨b0,b1,b2,b3,-⟩:=q1.out.four;clear o;refine hK.out _ _ (λ_=>⟨a0,a1,a2,a3,b0,b1,b2,b3⟩) ?_;clear hK K
 try simp only[Qh,Zg9,Zgn,Zg3]
 refine wpAnyL_o 12 λK hK=>?_;go_simp;refine(Zjd nb nb' B B' m d m' d' a.den b.den w2 hA.out.2 hD.out.2).mono ?_;rintro e w3 ⟨u,O,P',k',q',code,rfl,hR⟩;replace hP:=Zd (hP.out.below u);have y:=Zd (hR.small ht.out);have C:=hR.code0 ht.out;subst C;clear ht hR;replace q0:=Gm u q0;replace q1:=Gm u q1;replace q2:=Gm u q2;replace q3:=Gm u q3;replace hA:=Zd (hA.out.below u);replace hD:=Zd (hD.out.below u);replace hB:=Zd (hB.out.trans (u.mono sz.out));replace sz:=Zd (Qj sz.out u.size);clear a0 a1 a2 a3 b0 b1 b2 b3;obtain⟨a0,a1,a2,a3,-⟩:=q0.out.four;obtain⟨b0,b1,b2,b3,-⟩:=q1.out.four;clear u;refine hK.out _ _ (λ_=>⟨a0,a1,a2,a3,b0,b1,b2,b3⟩) ?_;clear hK K
 try simp only[Qh,Zg9,Zgn,Zg3]
 refine Zkb 2 [13,14] rfl Gi ⟨a0,a1,a2,a3,b0,b1,b2,b3⟩ ?_
 iterate 2 (refine tkA ?_;try simp only[Qh,Zg9,Zgn,Zg3,Gr,Gq,Gp])
 refine tk0 ?_;refine wpAnyL_o 15 λK hK=>?_;go_simp;refine(Zd5 O P' k' q' w3).mono ?_;rintro e w4 ⟨rfl,f⟩;replace hP:=Zd (hP.out.below f);replace y:=Zd (y.out.below f);replace q0:=Gm f q0;replace q1:=Gm f q1;replace q2:=Gm f q2;replace q3:=Gm f q3;replace hA:=Zd (hA.out.below f);replace hD:=Zd (hD.out.below f);replace hB:=Zd (hB.out.trans (f.mono sz.out));replace sz:=Zd (Qj sz.out f.size);clear a0 a1 a2 a3 b0 b1 b2 b3;obtain⟨a0,a1,a2,a3,-⟩:=q0.out.four;obtain⟨b0,b1,b2,b3,-⟩:=q1.out.four;clear f;obtain⟨x0,x1,f0,f1⟩:=q2.out.two;refine hK.out _ _ (λ_=>⟨a0,a1,a2,a3,b0,b1,b2,b3⟩) ?_;clear hK K
 try simp only[Qh,Zg9,Zgn,Zg3]
 refine wpAnyL_o 16 λK hK=>?_;go_simp;obtain⟨W5,V,Y,T,kW,kB,s5⟩:=Zaz np P k q hB.out Gk q2.out;rw[V];clear V x0 x1 f0 f1 a0 a1 a2 a3 b0 b1 b2 b3 hA hD;replace q0:=kB _ _ _ Gk q0.out;replace q1:=kB _ _ _ Gk q1.out;obtain⟨a0,a1,a2,a3,-⟩:=q0.four;obtain⟨b0,b1,b2,b3,-⟩:=q1.four;replace q3:=Zd (kB _ _ _ Gk q3.out);replace hP:=Zd (kW _ _ _ _ _ hP.out);replace y:=Zd (kW _ _ _ _ _ y.out);clear kW kB q2 hB q0 q1;obtain⟨y0,y1,g0,g1⟩:=q3.out.two;refine hK.out _ _ (λ_=>⟨a0,a1,a2,a3,b0,b1,b2,b3⟩) ?_;clear hK K
 try simp only[Qh,Zg9,Zgn,Zg3]
 refine Zy (i:=17) rfl Gi Gi (λK hK=>?_);go_simp;obtain⟨W6,U,a5,a4,kW,kB,s6⟩:=Zaz O P' k' q' Y Gk q3.out;rw[U];clear U y0 y1 g0 g1 a0 a1 a2 a3 b0 b1 b2 b3;replace T:=kB _ _ _ Gk T;replace hP:=Zd (kW _ _ _ _ _ hP.out);replace y:=Zd (kW _ _ _ _ _ y.out);clear kW kB q3 Y;refine hK.out _ _ ?_;clear hK K
 try simp only[Qh,Zg9,Zgn,Zg3]
 refine wpAnyL_fin ?_;obtain⟨r0,r1,-⟩:=T.two;obtain⟨r2,r3,-⟩:=a4.two;go_wp2_with fail;refine bodyPost_ret (v:=.tuple #[.agg #[.bool np,.slice P k q],.agg #[.bool O,.slice P' k' q']]) (by simp[results,Tryz.results131,go_sem,r0,r1,r2,r3]) rfl ?_;exact⟨a5,_,_,_,_,_,_,_,_,rfl,hP.out,y.out⟩
theorem Sub1_ok(na nb na' nb':Bool)(A B A' B':Option Addr)(n c m d n' c' m' d':Nat)(a b:Rat)(w:World)(ha:Fr w na A n c nb B m d a)(hb:Fr w na' A' n' c' nb' B' m' d' b)
    (h1:(a.num*b.den).natAbs<pw 4096) (h2:(b.num*a.den).natAbs<pw 4096) (hs:(a.num*b.den-b.num*a.den).natAbs<pw 4096) (ht:((a.den:Int)*(b.den:Nat)).natAbs<pw 4096) :
    Calls Tryz.prog 160 #[.agg #[.bool na,.slice A n c,.bool nb,.slice B m d],.agg #[.bool na',.slice A' n' c',.bool nb',.slice B' m' d']] w (Zo8 w (a.num*b.den-b.num*a.den) ((a.den:Int)*(b.den:Nat))):=by
 obtain⟨W0,Y,T,⟨q0,q1,q2,q3⟩,s0⟩:=Zfr w 41 #[.bool na,.slice A n c,.bool nb,.slice B m d] 41 #[.bool na',.slice A' n' c',.bool nb',.slice B' m' d'] 39 #[.bool false,.slice none 0 0] 39 #[.bool false,.slice none 0 0];have hmx:=Gt;have hA:=Zd (ha.below T);have hD:=Zd (hb.below T);replace hs:=Zd hs;replace ht:=Zd ht;replace h1:=Zd h1;replace h2:=Zd h2;have sz:=Zd T.size;have hB:=Zd T;clear ha hb T s0;replace q0:=Zd q0;replace q1:=Zd q1;replace q2:=Zd q2;replace q3:=Zd q3;obtain⟨a0,a1,a2,a3,-⟩:=q0.out.four;obtain⟨b0,b1,b2,b3,-⟩:=q1.out.four;replace Y:=Zd Y;go_in;go_wp2_with fail;rw[Y.out];clear Y;refine Zz [19] (λW'=>W'.cell? ⟨w.heap.size,0,none⟩=some (.bool na)/\W'.cell? ⟨w.heap.size,1,none⟩=some (.slice A n c)/\W'.cell? ⟨w.heap.size,2,none⟩=some (.bool nb)/\W'.cell? ⟨w.heap.size,3,none⟩=some (.slice B m d)/\W'.cell? ⟨w.heap.size+1,0,none⟩=some (.bool na')/\W'.cell? ⟨w.heap.size+1,1,none⟩=some (.slice A' n' c')/\W'.cell? ⟨w.heap.size+1,2,none⟩=some (.bool nb')/\W'.cell? ⟨w.heap.size+1,3,none⟩=some (.slice B' m' d')) hmx ⟨a0,a1,a2,a3,b0,b1,b2,b3⟩ (λ_=>?_);refine Zkb 8 [0,1,3,4,10,11,12,13] rfl Gi ⟨a0,a1,a2,a3,b0,b1,b2,b3⟩ ?_
 iterate 8 (refine tkA ?_;try simp only[Qh,Zg9,Zgn,Zg3,Gr,Gq,Gp])
 refine tk0 ?_;refine wpAnyL_o 2 λK hK=>?_;go_simp;refine(Zfe na nb na' nb' A B A' B' n c m d n' c' m' d' a b W0.drew hA.out hD.out h1.out).mono ?_;rintro e w1 ⟨h,nu,U,k1,u,rfl,hU⟩;replace h:=Zv h;replace hU:=Zd hU;replace q0:=Gm h q0;replace q1:=Gm h q1;replace q2:=Gm h q2;replace q3:=Gm h q3;replace hA:=Zd (hA.out.below h);replace hD:=Zd (hD.out.below h);replace hB:=Zd (hB.out.trans (h.mono sz.out));replace sz:=Zd (Qj sz.out h.size);clear a0 a1 a2 a3 b0 b1 b2 b3;obtain⟨a0,a1,a2,a3,-⟩:=q0.out.four;obtain⟨b0,b1,b2,b3,-⟩:=q1.out.four;clear h;refine hK.out _ _ (λ_=>⟨a0,a1,a2,a3,b0,b1,b2,b3⟩) ?_;clear hK K
 try simp only[Qh,Zg9,Zgn,Zg3]
 refine wpAnyL_o 5 λK hK=>?_;go_simp;refine(Zfe na' nb' na nb A' B' A B n' c' m' d' n c m d b a w1 hD.out hA.out h2.out).mono ?_;rintro e w2 ⟨y,nv,V,k2,v,rfl,hV⟩;replace hU:=Zd (hU.out.below y);replace hV:=Zd hV;replace q0:=Gm y q0;replace q1:=Gm y q1;replace q2:=Gm y q2;replace q3:=Gm y q3;replace hA:=Zd (hA.out.below y);replace hD:=Zd (hD.out.below y);replace hB:=Zd (hB.out.trans (y.mono sz.out));replace sz:=Zd (Qj sz.out y.size);clear a0 a1 a2 a3 b0 b1 b2 b3;obtain⟨a0,a1,a2,a3,-⟩:=q0.out.four;obtain⟨b0,b1,b2,b3,-⟩:=q1.out.four;clear y;refine hK.out _ _ (λ_=>⟨a0,a1,a2,a3,b0,b1,b2,b3⟩) ?_;clear hK K
 try simp only[Qh,Zg9,Zgn,Zg3]
 refine wpAnyL_o 6 λK hK=>?_;go_simp;refine(Zus nu nv U V k1 u k2 v _ _ w2 hU.out hV.out).mono ?_;rintro e w3 ⟨I,np,P,k,q,code,rfl,hR⟩;have hP:=Zd (hR.small hs.out);have O:=hR.code0 hs.out;subst O;clear hs hR hU hV;replace q0:=Gm I q0;replace q1:=Gm I q1;replace q2:=Gm I q2;replace q3:=Gm I q3;replace hA:=Zd (hA.out.below I);replace hD:=Zd (hD.out.below I);replace hB:=Zd (hB.out.trans (I.mono sz.out));replace sz:=Zd (Qj sz.out I.size);clear a0 a1 a2 a3 b0 b1 b2 b3;obtain⟨a0,a1,a2,a3,-⟩:=q0.out.four;obtain⟨b0,b1,b2,b3,-⟩:=q1.out.four;clear I;refine hK.out _ _ (λ_=>⟨a0,a1,a2,a3,b0,b1,b2,b3⟩) ?_;clear hK K
 try simp only[Qh,Zg9,Zgn,Zg3]
 refine Zkb 2 [7,8] rfl Gi ⟨a0,a1,a2,a3,b0,b1,b2,b3⟩ ?_
 iterate 2 (refine tkA ?_;try simp only[Qh,Zg9,Zgn,Zg3,Gr,Gq,Gp])
 refine tk0 ?_;refine wpAnyL_o 9 λK hK=>?_;go_simp;refine(Zd5 np P k q w3).mono ?_;rintro e w4 ⟨rfl,C⟩;replace hP:=Zd (hP.out.below C);replace q0:=Gm C q0;replace q1:=Gm C q1;replace q2:=Gm C q2;replace q3:=Gm C q3;replace hA:=Zd (hA.out.below C);replace hD:=Zd (hD.out.below C);replace hB:=Zd (hB.out.trans (C.mono sz.out));replace sz:=Zd (Qj sz.out C.size);clear a0 a1 a2 a3 b0 b1 b2 b3;obtain⟨a0,a1,a2,a3,-⟩:=q0.out.four;obtain⟨b0,b1,b2,b3,-⟩:=q1.out.four;clear C;refine hK.out _ _ (λ_=>⟨a0,a1,a2,a3,b0,b1,b2,b3⟩) ?_;clear hK K
 try simp only[Qh,Zg9,Zgn,Zg3]
 refine wpAnyL_o 14 λK hK=>?_;go_simp;refine(Zjd nb nb' B B' m d m' d' a.den b.den w4 hA.out.2 hD.out.2).mono ?_;rintro e w5 ⟨o,a4,P',k',q',code,rfl,hR⟩;replace hP:=Zd (hP.out.below o);have J:=Zd (hR.small ht.out);have O:=hR.code0 ht.out;subst O;clear ht hR;replace q0:=Gm o q0;replace q1:=Gm o q1;replace q2:=Gm o q2;replace q3:=Gm o q3;replace hA:=Zd (hA.out.below o);replace hD:=Zd (hD.out.below o);replace hB:=Zd (hB.out.trans (o.mono sz.out));replace sz:=Zd (Qj sz.out o.size);clear a0 a1 a2 a3 b0 b1 b2 b3;obtain⟨a0,a1,a2,a3,-⟩:=q0.out.four;obtain⟨b0,b1,b2,b3,-⟩:=q1.out.four;clear o;refine hK.out _ _ (λ_=>⟨a0,a1,a2,a3,b0,b1,b2,b3⟩) ?_;clear hK K
 try simp only[Qh,Zg9,Zgn,Zg3]
 refine Zkb 2 [15,16] rfl Gi ⟨a0,a1,a2,a3,b0,b1,b2,b3⟩ ?_
 iterate 2 (refine tkA ?_;try simp only[Qh,Zg9,Zgn,Zg3,Gr,Gq,Gp])
 refine tk0 ?_;refine wpAnyL_o 17 λK hK=>?_;go_simp;refine(Zd5 a4 P' k' q' w5).mono ?_;rintro e w6 ⟨rfl,f⟩;replace hP:=Zd (hP.out.below f);replace J:=Zd (J.out.below f);replace q0:=Gm f q0;replace q1:=Gm f q1;replace q2:=Gm f q2;replace q3:=Gm f q3;replace hA:=Zd (hA.out.below f);replace hD:=Zd (hD.out.below f);replace hB:=Zd (hB.out.trans (f.mono sz.out));replace sz:=Zd (Qj sz.out f.size);clear a0 a1 a2 a3 b0 b1 b2 b3;obtain⟨a0,a1,a2,a3,-⟩:=q0.out.four;obtain⟨b0,b1,b2,b3,-⟩:=q1.out.four;clear f;obtain⟨x0,x1,f0,f1⟩:=q2.out.two;refine hK.out _ _ (λ_=>⟨a0,a1,a2,a3,b0,b1,b2,b3⟩) ?_;clear hK K
 try simp only[Qh,Zg9,Zgn,Zg3]
 refine wpAnyL_o 18 λK hK=>?_;go_simp;obtain⟨W5,a7,a8,a5,kW,kB,s5⟩:=Zaz np P k q hB.out Gk q2.out;rw[a7];clear a7 x0 x1 f0 f1 a0 a1 a2 a3 b0 b1 b2 b3 hA hD;replace q0:=kB _ _ _ Gk q0.out;replace q1:=kB _ _ _ Gk q1.out;obtain⟨a0,a1,a2,a3,-⟩:=q0.four;obtain⟨b0,b1,b2,b3,-⟩:=q1.four;replace q3:=Zd (kB _ _ _ Gk q3.out);replace hP:=Zd (kW _ _ _ _ _ hP.out);replace J:=Zd (kW _ _ _ _ _ J.out);clear kW kB q2 hB q0 q1;obtain⟨y0,y1,g0,g1⟩:=q3.out.two;refine hK.out _ _ (λ_=>⟨a0,a1,a2,a3,b0,b1,b2,b3⟩) ?_;clear hK K
 try simp only[Qh,Zg9,Zgn,Zg3]
 refine Zy (i:=19) rfl Gi Gi (λK hK=>?_);go_simp;obtain⟨W6,a6,b4,a9,kW,kB,s6⟩:=Zaz a4 P' k' q' a8 Gk q3.out;rw[a6];clear a6 y0 y1 g0 g1 a0 a1 a2 a3 b0 b1 b2 b3;replace a5:=kB _ _ _ Gk a5;replace hP:=Zd (kW _ _ _ _ _ hP.out);replace J:=Zd (kW _ _ _ _ _ J.out);clear kW kB q3 a8;refine hK.out _ _ ?_;clear hK K
 try simp only[Qh,Zg9,Zgn,Zg3]
 refine wpAnyL_fin ?_;obtain⟨r0,r1,-⟩:=a5.two;obtain⟨r2,r3,-⟩:=a9.two;go_wp2_with fail;refine bodyPost_ret (v:=.tuple #[.agg #[.bool np,.slice P k q],.agg #[.bool a4,.slice P' k' q']]) (by simp[results,Tryz.results160,go_sem,r0,r1,r2,r3]) rfl ?_;exact⟨b4,_,_,_,_,_,_,_,_,rfl,hP.out,J.out⟩
theorem Zek(na nb:Bool)(A B:Option Addr)(n c m d:Nat)(r:Rat)(w:World)(h:Fr w na A n c nb B m d r) :
    Calls Tryz.prog 110 #[.agg #[.bool na,.slice A n c,.bool nb,.slice B m d]] w λe w'=>e=.returned (.int .i64 0)/\Below w.heap.size w w':=by
 have hn:=h.neg;subst hn;have hl:=Zwj r;exact Zmh na A B n c m d r.num r.den w h.1 h.2 hl.1 true (by rw[hl.2];rfl)
theorem EG{G:Prop}(h:G:=by
 clear kW kB aJ eM eN eU aI;refine leaves_cons (f:=147) (args:=#[.pointer (some ⟨w.heap.size+1+1+1,0,none⟩)]) Gh Gd ?_;refine(Zg8 _ _).mono ?_;rintro e u' w'' ⟨rfl,rfl,rfl⟩;refine⟨.tuple #[.agg #[.bool nx,.slice Ax kx cx,.bool ny,.slice Ay ky cy],.int .i64 0],by simp[results,Tryz.results130,go_sem,r0,r1,r2,r3,r4],?_⟩;exact⟨aM,_,_,_,_,_,_,_,_,rfl,cf.out,gM.out⟩):G:=h
theorem Bz{G:Prop}(h:G:=by
 clear q2 q3;go_wp2_with fail;obtain⟨W5,eU,aJ,q2,kW,kB,s5⟩:=Z5 nx Ax kx cx ny Ay ky cy a9 Gk hq.out.1;have q3:=kB _ _ _ Gk hq.out.2;have eM:=Zd (kW _ _ _ _ _ hF.1);have eN:=Zd (kW _ _ _ _ _ hF.2);rw[eU];clear kW kB b9 b6 b8 b5 c3 f3 b4 a7 a8 b7 hq hF;obtain⟨W6,aI,aM,q3,kW,kB,s6⟩:=Zak 0 aJ Gk q3;replace q2:=kB _ _ _ Gk q2;have cf:=Zd (kW _ _ _ _ _ eM.out);have gM:=Zd (kW _ _ _ _ _ eN.out);rw[aI];obtain⟨r0,r1,r2,r3,-⟩:=q2.four;have r4:=q3.cell 0;simp at r4;exact EG):G:=h
theorem Zqj(F:FuncId)(na nb na' nb':Bool)(A B A' B':Option Addr)(n c m d n' c' m' d':Nat)(a b:Rat)(X Y:Int)(w:World)(ha:Fr w na A n c nb B m d a)(hb:Fr w na' A' n' c' nb' B' m' d' b)(hY:0<Y)(hcf:∀ (x y:Value) (W:World),(callFunc F #[x,y]).run Tryz.prog W=.ok (.enter F #[x,y]) W)
    (hF:∀ W:World,Fr W na A n c nb B m d a->Fr W na' A' n' c' nb' B' m' d' b->Calls Tryz.prog F #[.agg #[.bool na,.slice A n c,.bool nb,.slice B m d],.agg #[.bool na',.slice A' n' c',.bool nb',.slice B' m' d']] W (Zo8 W X Y)) :
    Calls Tryz.prog 130 #[.agg #[.bool na,.slice A n c,.bool nb,.slice B m d],.agg #[.bool na',.slice A' n' c',.bool nb',.slice B' m' d'],.func (.func F) #[] #[]] w (Zev w (QJ X Y)):=by
 obtain⟨W0,O,C,⟨q0,q1,q2,q3⟩,s0⟩:=Zfr w 41 #[.bool na,.slice A n c,.bool nb,.slice B m d] 41 #[.bool na',.slice A' n' c',.bool nb',.slice B' m' d'] 41 #[.bool false,.slice none 0 0,.bool false,.slice none 0 0] 26 #[.int .i64 0];have hA:=Zd (ha.below C);have hD:=Zd (hb.below C);replace hF:=Zd hF;clear ha hb;replace O:=Zd O;obtain⟨a0,a1,a2,a3,-⟩:=q0.four;have hq:=Zd (Qd q0 (Qd q1 (Qd q2 q3)));clear q0 q1 q2 q3
 go_enter_defers Tryz.func130,Tryz.ntmps130
 have a6:=O.out;go_wp2_with fail;clear O a6;refine(Zek na nb A B n c m d a W0 hA.out).mono ?_;rintro e w1 ⟨rfl,o⟩;have T:Below w.heap.size w w1:=Gs C o;have s1:W0.heap.size<=w1.heap.size:=o.size;replace hA:=Zd (hA.out.below o);replace hD:=Zd (hD.out.below o);obtain⟨q0,q1,q2,q3⟩:=hq.out;replace q0:=Ze o q0;replace q1:=Ze o q1;replace q2:=Ze o q2;replace q3:=Ze o q3;clear hq o C a0 a1 a2 a3;obtain⟨b0,b1,b2,b3,-⟩:=q1.four;have hq:=Zd (Qd q0 (Qd q1 (Qd q2 q3)));clear q0 q1 q2 q3;go_wp2_with fail;refine(Zfj w1).mono ?_;rintro e w1 ⟨rfl,rfl⟩;go_wp2_with fail;refine(Zek na' nb' A' B' n' c' m' d' b w1 hD.out).mono ?_;rintro e w2 ⟨rfl,h⟩;have a4:Below w.heap.size w w2:=Gs T h;have s2:w1.heap.size<=w2.heap.size:=h.size;replace hA:=Zd (hA.out.below h);replace hD:=Zd (hD.out.below h);obtain⟨q0,q1,q2,q3⟩:=hq.out;replace q0:=Ze h q0;replace q1:=Ze h q1;replace q2:=Ze h q2;replace q3:=Ze h q3;clear hq h T b0 b1 b2 b3;obtain⟨a0,a1,a2,a3,-⟩:=q0.four;obtain⟨b0,b1,b2,b3,-⟩:=q1.four;have hq:=Zd (Qd q2 q3);clear q0 q1 q2 q3;go_wp2_with fail;refine(Zfj w2).mono ?_;rintro e w2 ⟨rfl,rfl⟩;go_wp2_with fail;refine(hF.out w2 hA.out hD.out).mono ?_;rintro e w3 ⟨J,nu,U,k1,u,nv,V,k2,v,rfl,hU,hV⟩;have a5:Below w.heap.size w w3:=Gs a4 J;have s3:w2.heap.size<=w3.heap.size:=J.size;have hn:nv=false:=by rw[hV.1];simp;omega
 subst hn;have q2:=Ze J hq.out.1;have q3:=Ze J hq.out.2;clear hq J a4 a0 a1 a2 a3 b0 b1 b2 b3 hA hD hF;have hq:=Zd (Qd q2 q3);replace hU:=Zd hU;replace hV:=Zd hV;clear q2 q3;go_wp2_with fail;refine(Zja nu U V k1 u k2 v X Y w3 hU.out hV.out hY).mono ?_;rintro e w4 ⟨I,nx,Ax,kx,cx,ny,Ay,ky,cy,rfl,hF⟩;have a9:Below w.heap.size w w4:=Gs a5 I;have s4:w3.heap.size<=w4.heap.size:=I.size;have q2:=Ze I hq.out.1;have q3:=Ze I hq.out.2;clear hq I hU hV a5;have c2:=Zd q2.four;have c3:=q3.cell 0;have f3:=q3.frozen 0;simp at c3;obtain⟨b9,b6,b8,b5,b4,a7,a8,b7⟩:=c2.out;have hq:=Zd (Qd q2 q3);exact Bz
theorem Zv1(x y:Value)(W:World):(callFunc 131 #[x,y]).run Tryz.prog W=.ok (.enter 131 #[x,y]) W:=by simp[go_sem]
theorem Zuq(x y:Value)(W:World):(callFunc 160 #[x,y]).run Tryz.prog W=.ok (.enter 160 #[x,y]) W:=by simp[go_sem]
def Sm(r:Rat):Prop:=r.num.natAbs<pw 1000/\r.den<pw 1000
theorem Zc4{x y:Nat}{i j:Nat}(hx:x<pw i)(hy:y<pw j):x*y<pw (i+j):=by
 rw[Zdw];exact Nat.mul_lt_mul'' hx hy
theorem Zjb{x y:Int}(hx:x.natAbs<pw 1000)(hy:y.natAbs<pw 1000):(x*y).natAbs<pw 2000:=by
 rw[Int.natAbs_mul];have h:=Zc4 hx hy;rw[show 1000+1000=2000 from rfl]at h;exact h
theorem Zqi(k:Nat):pw k+pw k<=pw (k+1):=by rw[Za6];generalize pw k=x;omega
theorem Zuu:pw 2000+pw 2000<=pw 4096:=Qj (Zqi 2000) (Zca Gj)
theorem Zbm{x y:Int}(hx:x.natAbs<pw 1000)(hy:y.natAbs<pw 1000):(x*y).natAbs<pw 4096:=QE (Zjb hx hy) (Zca Gj)
theorem IP{G:Prop}(h:G:=by
 have h1:=Zjb hx hy;have h2:=Zjb hz hv;have h3:=Zuu;omega):G:=h
theorem Zul{x y z v:Int}(hx:x.natAbs<pw 1000)(hy:y.natAbs<pw 1000)(hz:z.natAbs<pw 1000)(hv:v.natAbs<pw 1000):(x*y-z*v).natAbs<pw 4096:=by
 exact IP
theorem Sm.dn{r:Rat}(h:Sm r):((r.den:Nat):Int).natAbs<pw 1000:=by simpa using h.2
theorem Zql(a b:Rat):QJ (a.num*b.num) ((a.den:Int)*(b.den:Nat))=a*b:=by
 rw[<- Rat.divInt_mul_divInt,Ql,Ql]
theorem Zq8(a b:Rat):QJ (a.num*b.den-b.num*a.den) ((a.den:Int)*(b.den:Nat))=a-b:=by
 have ha:((a.den:Nat):Int)≠0:=by have:=a.den_pos;omega
 have hb:((b.den:Nat):Int)≠0:=by have:=b.den_pos;omega
 rw[<- Rat.divInt_sub_divInt _ _ ha hb,Ql,Ql]
theorem Zcj(a b:Rat):0<((a.den:Int)*(b.den:Nat)):=Int.mul_pos (by have:=a.den_pos;omega) (by have:=b.den_pos;omega)
theorem FW{G:Prop}(h:G:=by
 exact⟨aJ,_,_,_,_,_,_,_,_,rfl,kW _ _ _ _ _ hX.out.1,kW _ _ _ _ _ hX.out.2⟩):G:=h
theorem Zws(na nb na' nb':Bool)(A B A' B':Option Addr)(n c m d n' c' m' d':Nat)(a b:Rat)(w:World)(ha:Fr w na A n c nb B m d a)(hb:Fr w na' A' n' c' nb' B' m' d' b)(sa:Sm a)(sb:Sm b) :
    Calls Tryz.prog 116 #[.agg #[.bool na,.slice A n c,.bool nb,.slice B m d],.agg #[.bool na',.slice A' n' c',.bool nb',.slice B' m' d']] w (Zev w (a-b)):=by
 obtain⟨W0,u,f,⟨q0,q1,q2⟩,s0⟩:=Zb2 w 41 #[.bool na,.slice A n c,.bool nb,.slice B m d] 41 #[.bool na',.slice A' n' c',.bool nb',.slice B' m' d'] 41 #[.bool false,.slice none 0 0,.bool false,.slice none 0 0];have hA:=Zd (ha.below f);have hD:=Zd (hb.below f);have hF:=λ(W:World) (h1:Fr W na A n c nb B m d a) (h2:Fr W na' A' n' c' nb' B' m' d' b)=>Sub1_ok na nb na' nb' A B A' B' n c m d n' c' m' d' a b W h1 h2 (Zbm sa.1 sb.dn) (Zbm sb.1 sa.dn) (Zul sa.1 sb.dn sb.1 sa.dn) (Zbm sa.dn sb.dn);have hG:=Zd (Zqj 160 na nb na' nb' A B A' B' n c m d n' c' m' d' a b _ _ W0 hA.out hD.out (Zcj a b) Zuq hF);rw[Zq8]at hG;clear hF ha hb sa sb hA hD;obtain⟨a0,a1,a2,a3,-⟩:=q0.four;obtain⟨b0,b1,b2,b3,-⟩:=q1.four;replace q2:=Zd q2;clear q0 q1;go_in;go_wp2_with fail;refine hG.out.mono ?_;rintro e w1 ⟨h,nx,Ax,kx,cx,ny,Ay,ky,cy,rfl,hX⟩;have o:Below w.heap.size w w1:=Gs f h;have s1:W0.heap.size<=w1.heap.size:=h.size;replace q2:=Gm h q2;replace hX:=Zd hX;clear h a0 a1 a2 a3 b0 b1 b2 b3 f hG u;obtain⟨Y,U,V,T,O,C,J,I⟩:=q2.out.four;go_wp2_with fail;obtain⟨W5,y,aJ,q2,kW,-,s5⟩:=Z5 nx Ax kx cx ny Ay ky cy o Gk q2.out;rw[y];obtain⟨r0,r1,r2,r3,-⟩:=q2.four;refine bodyPost_ret (v:=.tuple #[.agg #[.bool nx,.slice Ax kx cx,.bool ny,.slice Ay ky cy],.int .i64 0]) (by simp[results,Tryz.results116,go_sem,r0,r1,r2,r3]) rfl ?_;exact FW
theorem Zwt(na nb na' nb':Bool)(A B A' B':Option Addr)(n c m d n' c' m' d':Nat)(a b:Rat)(w:World)(ha:Fr w na A n c nb B m d a)(hb:Fr w na' A' n' c' nb' B' m' d' b)(sa:Sm a)(sb:Sm b) :
    Calls Tryz.prog 85 #[.agg #[.bool na,.slice A n c,.bool nb,.slice B m d],.agg #[.bool na',.slice A' n' c',.bool nb',.slice B' m' d']] w (Zev w (a*b)):=by
 obtain⟨W0,u,f,⟨q0,q1,q2⟩,s0⟩:=Zb2 w 41 #[.bool na,.slice A n c,.bool nb,.slice B m d] 41 #[.bool na',.slice A' n' c',.bool nb',.slice B' m' d'] 41 #[.bool false,.slice none 0 0,.bool false,.slice none 0 0];have hA:=Zd (ha.below f);have hD:=Zd (hb.below f);have hF:=λ(W:World) (h1:Fr W na A n c nb B m d a) (h2:Fr W na' A' n' c' nb' B' m' d' b)=>Mul1_ok na nb na' nb' A B A' B' n c m d n' c' m' d' a b W h1 h2 (Zbm sa.1 sb.1) (Zbm sa.dn sb.dn);have hG:=Zd (Zqj 131 na nb na' nb' A B A' B' n c m d n' c' m' d' a b _ _ W0 hA.out hD.out (Zcj a b) Zv1 hF);rw[Zql]at hG;clear hF ha hb sa sb hA hD;obtain⟨a0,a1,a2,a3,-⟩:=q0.four;obtain⟨b0,b1,b2,b3,-⟩:=q1.four;replace q2:=Zd q2;clear q0 q1;go_in;go_wp2_with fail;refine hG.out.mono ?_;rintro e w1 ⟨h,nx,Ax,kx,cx,ny,Ay,ky,cy,rfl,hX⟩;have o:Below w.heap.size w w1:=Gs f h;have s1:W0.heap.size<=w1.heap.size:=h.size;replace q2:=Gm h q2;replace hX:=Zd hX;clear h a0 a1 a2 a3 b0 b1 b2 b3 f hG u;obtain⟨Y,U,V,T,O,C,J,I⟩:=q2.out.four;go_wp2_with fail;obtain⟨W5,y,aJ,q2,kW,-,s5⟩:=Z5 nx Ax kx cx ny Ay ky cy o Gk q2.out;rw[y];obtain⟨r0,r1,r2,r3,-⟩:=q2.four;refine bodyPost_ret (v:=.tuple #[.agg #[.bool nx,.slice Ax kx cx,.bool ny,.slice Ay ky cy],.int .i64 0]) (by simp[results,Tryz.results85,go_sem,r0,r1,r2,r3]) rfl ?_;exact FW
theorem Zw8(na nb na' nb':Bool)(A B A' B':Option Addr)(n c m d n' c' m' d':Nat)(a b:Rat)(w:World)(ha:Fr w na A n c nb B m d a)(hb:Fr w na' A' n' c' nb' B' m' d' b) :
    Calls Tryz.prog 102 #[.agg #[.bool na,.slice A n c,.bool nb,.slice B m d],.agg #[.bool na',.slice A' n' c',.bool nb',.slice B' m' d']] w λe w'=>e=.returned (.int .i64 0)/\Below w.heap.size w w':=by
 obtain⟨W0,I,f,⟨q0,q1⟩,s0⟩:=Zda w 41 #[.bool na,.slice A n c,.bool nb,.slice B m d] 41 #[.bool na',.slice A' n' c',.bool nb',.slice B' m' d'];have hA:=Zd (ha.below f);have hD:=Zd (hb.below f);clear ha hb;obtain⟨a0,a1,a2,a3,-⟩:=q0.four;replace q1:=Zd q1;clear q0;go_in;go_wp2_with fail;refine(Zjw na nb A B n c m d a W0 hA.out).mono ?_;rintro e w1 ⟨rfl,h⟩;have u:Below w.heap.size w w1:=Gs f h;replace hD:=Zd (hD.out.below h);have o:=Ze h q1.out;obtain⟨b0,b1,b2,b3,-⟩:=o.four;clear I h a0 a1 a2 a3 o q1 hA;go_wp2_with fail;refine(Zjw na' nb' A' B' n' c' m' d' b w1 hD.out).mono ?_;rintro e w2 ⟨rfl,C⟩;have y:Below w.heap.size w w2:=Gs u C;go_wp2_with fail;go_ret;exact⟨rfl,y⟩
theorem Zen(na nb:Bool)(A B:Option Addr)(n c m d:Nat)(za zb:Int)(w:World)(ha:Wd w na A n c za)(hb:Wd w nb B m d zb) :
    Calls Tryz.prog 103 #[.agg #[.bool na,.slice A n c],.agg #[.bool nb,.slice B m d]] w (ResW w (za*zb)):=by
 have Y:=ha.lim;have U:=hb.lim;have hn:=ha.2.1;have hm:=hb.2.1;have u:Below w.heap.size w (((w.alloc (.cells #[.bool na,.slice A n c] 39)).alloc (.cells #[.bool nb,.slice B m d] 39)).alloc (.cells #[.bool false,.slice none 0 0] 39)):=(((QF w.heap.size w).alloc (Qy _) _).alloc Gh _).alloc Gg _;have u:=Zd u;have I:Hid ((okW na (digits za.natAbs) && okW nb (digits zb.natAbs))=true):=by unfold Hid;rw[ha.ok,hb.ok];rfl
 have a3:=Zd ha.sgEq;have a5:=Zd hb.sgEq;have a8:=Zd hb.lim.len;clear ha hb;go_in;go_wp2_with fail;refine(Ze7 (Y.below u.out) (U.below u.out) I.out).mono ?_;rintro e w1 ⟨rfl,C⟩;obtain⟨y,a4⟩:=Zc1 C;have a7:w.heap.size+1+1<w1.heap.size:=by have:=C.size;simp at this;omega
 have o:Below w.heap.size w w1:=u.out.trans (C.mono Gg);have g0:w1.cell? ⟨w.heap.size,0,none⟩=some (.bool na):=by simp[y,go_sem]
 have g1:w1.cell? ⟨w.heap.size,1,none⟩=some (.slice A n c):=by simp[y,go_sem]
 have g2:w1.cell? ⟨w.heap.size+1,0,none⟩=some (.bool nb):=by simp[y,go_sem]
 have g3:w1.cell? ⟨w.heap.size+1,1,none⟩=some (.slice B m d):=by simp[y,go_sem]
 have g7:Blk w1 (w.heap.size+1+1) 39 #[.bool false,.slice none 0 0]:=by
  refine Ze C ?_;exact Ev
 have g5:=g7.cell 0;have g6:=g7.cell 1;have g8:=g7.frozen 0;have g9:=g7.frozen 1;simp at g5 g6;clear y a4;have T:=Y.below o;have O:=U.below o;go_wp2_with fail
 go_region_held3 (λw'=>w'.cell? ⟨w.heap.size,0,none⟩=some (.bool na)/\w'.cell? ⟨w.heap.size,1,none⟩=some (.slice A n c)/\w'.cell? ⟨w.heap.size+1,0,none⟩=some (.bool nb)/\w'.cell? ⟨w.heap.size+1,1,none⟩=some (.slice B m d))
  (((try dsimp only);(repeat' apply Qd);all_goals (first|go_keep|(simp[*,go_sem];done))))
  (first
   | (go_at_call 145;refine(Zv3 _ _ _ _ _ _ _ _ _ (by exact T) (by exact O) Gk Gk).mono ?_;rintro e w2 ⟨A2,n2,c2,l2,rfl,a1,a0,f⟩;have k0:=Zc f g0;have k1:=Zc f g1;have j0:=Zc f g2;have k2:=Zc f g3;have k3:=Zc f g5;have k4:=Zc f g6;have k5:=Zo f g5 g8;have k6:=Zo f g6 g9;have k7:=Ze f g7)
   | (go_at_call 74;refine(Zb0 _ _ _ _ _ _ (by exact a1) (by have:=a1.len;rw[a0.1]at this;omega)).mono ?_;rintro e w3 ⟨h,V,A3,n3,c3,J,rfl,a2⟩;have m0:=Zc h k0;have m1:=Zc h k1;have i0:=Zc h j0;have m2:=Zc h k2;have m3:=Zc h k3;have m4:=Zc h k4;have m5:=Zo h k3 k5;have m6:=Zo h k4 k6;have m7:=Ze h k7))
 have a6:Below w.heap.size w w3:=(o.trans ((Zv f).mono o.size)).trans (h.mono (Qj o.size (Zv f).size))
 go_wp2
 have HZ:sg (na != nb) (val l2)=za*zb:=by
  have h1:=a3.out;have h2:=a5.out;rw[a0.2,Z0o,h1,h2]
 refine bodyPost_ret (v:=.tuple #[.agg #[.bool V,.slice A3 n3 c3],.int .i64 J]) (by simp[results,Tryz.results103,go_sem,m3,m4]) rfl ?_;exact ResW.box (HZ▸a2) a6 Gk m7
theorem alloc5(w:World)(t0:TypeId)(c0:Array Value)(t1:TypeId)(c1:Array Value)(t2:TypeId)(c2:Array Value)(t3:TypeId)(c3:Array Value)(t4:TypeId)(c4:Array Value) :
    ∃ W,((((w.alloc (.cells c0 t0)).alloc (.cells c1 t1)).alloc (.cells c2 t2)).alloc (.cells c3 t3)).alloc (.cells c4 t4)=W/\Below w.heap.size w W/\(Blk W w.heap.size t0 c0/\Blk W (w.heap.size+1) t1 c1/\Blk W (w.heap.size+1+1) t2 c2/\Blk W (w.heap.size+1+1+1) t3 c3/\Blk W (w.heap.size+1+1+1+1) t4 c4)/\W.heap.size=w.heap.size+1+1+1+1+1:=by
 obtain⟨W,hW,h1,h2,h3⟩:=Zfr w t0 c0 t1 c1 t2 c2 t3 c3;refine⟨_,rfl,?_,⟨?_,?_,?_,?_,?_⟩,by rw[hW];simp[h3]⟩ <;> rw[hW];exact h1.alloc Gk _;exact h2.1.alloc _;exact h2.2.1.alloc _;exact h2.2.2.1.alloc _;exact h2.2.2.2.alloc _;rw[<- h3];exact Blk.new _ _ _
theorem Zw0(na nb:Bool)(A B:Option Addr)(n c m d:Nat)(za zb:Int)(w:World)(ha:Wd w na A n c za)(hb:Wd w nb B m d zb) :
    Calls Tryz.prog 143 #[.agg #[.bool na,.slice A n c],.agg #[.bool nb,.slice B m d]] w (ResW w (za+zb)):=by
 have T:=ha.lim;have O:=hb.lim;have hn:=ha.2.1;have hm:=hb.2.1;have f:Below w.heap.size w (((w.alloc (.cells #[.bool na,.slice A n c] 39)).alloc (.cells #[.bool nb,.slice B m d] 39)).alloc (.cells #[.bool false,.slice none 0 0] 39)):=(((QF w.heap.size w).alloc (Qy _) _).alloc Gh _).alloc Gg _;have f:=Zd f;have C:Hid ((okW na (digits za.natAbs) && okW nb (digits zb.natAbs))=true):=by unfold Hid;rw[ha.ok,hb.ok];rfl
 have Y:=Zd ha.sgEq;have a1:=Zd hb.sgEq;have a3:=Zd hb.lim.len;clear ha hb;go_in;go_wp2_with fail;refine(Ze7 (T.below f.out) (O.below f.out) C.out).mono ?_;rintro e w1 ⟨rfl,u⟩;obtain⟨h,a0⟩:=Zc1 u;have a2:w.heap.size+1+1<w1.heap.size:=by have:=u.size;simp at this;omega
 have o:Below w.heap.size w w1:=f.out.trans (u.mono Gg);have g0:w1.cell? ⟨w.heap.size,0,none⟩=some (.bool na):=by simp[h,go_sem]
 have g1:w1.cell? ⟨w.heap.size,1,none⟩=some (.slice A n c):=by simp[h,go_sem]
 have g2:w1.cell? ⟨w.heap.size+1,0,none⟩=some (.bool nb):=by simp[h,go_sem]
 have g3:w1.cell? ⟨w.heap.size+1,1,none⟩=some (.slice B m d):=by simp[h,go_sem]
 have g7:Blk w1 (w.heap.size+1+1) 39 #[.bool false,.slice none 0 0]:=by
  refine Ze u ?_;exact Ev
 have g5:=g7.cell 0;have g6:=g7.cell 1;have g8:=g7.frozen 0;have g9:=g7.frozen 1;simp at g5 g6;clear h a0;have J:=T.below o;have I:=O.below o;go_wp2_with fail;refine(Ze9 _ _ _ _ _ _ _ _ _ _ _ (by exact J) (by exact I) hn hm).mono ?_;rintro e w2 ⟨V,U,A2,n2,c2,y,rfl,dH⟩;have av:Below w.heap.size w w2:=Gs o V;have m7:=Ze V g7;have m3:=m7.cell 0;have m4:=m7.cell 1;have m5:=m7.frozen 0;have m6:=m7.frozen 1;simp at m3 m4;have HM:=Zd m7;clear m7;go_wp2_with fail
 have HZ:sg na za.natAbs+sg nb zb.natAbs=za+zb:=by
  have h1:=Y.out;have h2:=a1.out;rw[Zk]at h1 h2;rw[h1,h2]
 refine bodyPost_ret (v:=.tuple #[.agg #[.bool U,.slice A2 n2 c2],.int .i64 y]) (by simp[results,Tryz.results143,go_sem,m3,m4]) rfl ?_;exact Ff
theorem CU{G:Prop}(h:G:=by
 refine bodyPost_ret (v:=.tuple #[.agg #[.bool dL,.slice A2 n2 c2],.int .i64 cj]) (by simp[results,Tryz.results144,go_sem,m3,m4]) rfl ?_;exact ResW.box (HZ▸dH) av Gk HM.out):G:=h
theorem EW{G:Prop}(h:G:=by
 exact CU):G:=h
theorem Ee{G:Prop}(h:G:=by
 go_wp2_with fail;refine(Ze9 _ _ _ _ _ _ _ _ _ _ _ (by exact dF) (by exact dG) hn hm).mono ?_;rintro e w2 ⟨aa,dL,A2,n2,c2,cj,rfl,dH⟩;have av:Below w.heap.size w w2:=Gs ae aa;have m7:=Ze aa g7;have m3:=m7.cell 0;have m4:=m7.cell 1;have m5:=m7.frozen 0;have m6:=m7.frozen 1;simp at m3 m4;have HM:=Zd m7;clear m7;go_wp2_with fail
 have HZ:sg na za.natAbs+sg (false) zb.natAbs=za-zb:=by
  have h1:=gE.out;have h2:=gF.out;rw[Zk]at h1 h2;have h3:sg (false) zb.natAbs=- zb:=by have h4:=dW.out;unfold sg;simp;omega
  rw[h1,h3];omega
 exact CU):G:=h
theorem rSub_ok(na nb:Bool)(A B:Option Addr)(n c m d:Nat)(za zb:Int)(w:World)(ha:Wd w na A n c za)(hb:Wd w nb B m d zb) :
    Calls Tryz.prog 144 #[.agg #[.bool na,.slice A n c],.agg #[.bool nb,.slice B m d]] w (ResW w (za-zb)):=by
 have C:=ha.lim;have y:=hb.lim;have hn:=ha.2.1;have hm:=hb.2.1;have f:Below w.heap.size w (((w.alloc (.cells #[.bool na,.slice A n c] 39)).alloc (.cells #[.bool nb,.slice B m d] 39)).alloc (.cells #[.bool false,.slice none 0 0] 39)):=(((QF w.heap.size w).alloc (Qy _) _).alloc Gh _).alloc Gg _;have f:=Zd f;have u:Hid ((okW na (digits za.natAbs) && okW nb (digits zb.natAbs))=true):=by unfold Hid;rw[ha.ok,hb.ok];rfl
 have gE:=Zd ha.sgEq;have gF:=Zd hb.sgEq;have J:=Zd hb.lim.len;clear ha hb;go_in;go_wp2_with fail;refine(Ze7 (C.below f.out) (y.below f.out) u.out).mono ?_;rintro e w1 ⟨rfl,o⟩;obtain⟨h,I⟩:=Zc1 o;have O:w.heap.size+1+1<w1.heap.size:=by have:=o.size;simp at this;omega
 have ae:Below w.heap.size w w1:=f.out.trans (o.mono Gg);have g0:w1.cell? ⟨w.heap.size,0,none⟩=some (.bool na):=by simp[h,go_sem]
 have g1:w1.cell? ⟨w.heap.size,1,none⟩=some (.slice A n c):=by simp[h,go_sem]
 have g2:w1.cell? ⟨w.heap.size+1,0,none⟩=some (.bool nb):=by simp[h,go_sem]
 have g3:w1.cell? ⟨w.heap.size+1,1,none⟩=some (.slice B m d):=by simp[h,go_sem]
 have g7:Blk w1 (w.heap.size+1+1) 39 #[.bool false,.slice none 0 0]:=by
  refine Ze o ?_;exact Ev
 have g5:=g7.cell 0;have g6:=g7.cell 1;have g8:=g7.frozen 0;have g9:=g7.frozen 1;simp at g5 g6;clear h I;have dF:=C.below ae;have dG:=y.below ae;by_cases hm0:0<m
 ·have hd:decide (0<m)=true:=by simpa using hm0
  cases nb
  ·go_wp2_with fail
   refine(Ze9 _ _ _ _ _ _ _ _ _ _ _ (by exact dF) (by exact dG) hn hm).mono ?_;rintro e w2 ⟨aa,dL,A2,n2,c2,cj,rfl,dH⟩;have av:Below w.heap.size w w2:=Gs ae aa;have m7:=Ze aa g7;have m3:=m7.cell 0;have m4:=m7.cell 1;have m5:=m7.frozen 0;have m6:=m7.frozen 1;simp at m3 m4;have HM:=Zd m7;clear m7;go_wp2_with fail
   have HZ:sg na za.natAbs+sg (true) zb.natAbs=za-zb:=by
    have h1:=gE.out;have h2:=gF.out;rw[Zk]at h1 h2;have h3:sg (true) zb.natAbs=- zb:=by unfold sg at h2 ⊢;simp at h2 ⊢;omega
    rw[h1,h3];omega
   exact EW
  go_wp2_with fail;refine(Ze9 _ _ _ _ _ _ _ _ _ _ _ (by exact dF) (by exact dG) hn hm).mono ?_;rintro e w2 ⟨aa,dL,A2,n2,c2,cj,rfl,dH⟩;have av:Below w.heap.size w w2:=Gs ae aa;have m7:=Ze aa g7;have m3:=m7.cell 0;have m4:=m7.cell 1;have m5:=m7.frozen 0;have m6:=m7.frozen 1;simp at m3 m4;have HM:=Zd m7;clear m7;go_wp2_with fail
  have HZ:sg na za.natAbs+sg (false) zb.natAbs=za-zb:=by
   have h1:=gE.out;have h2:=gF.out;rw[Zk]at h1 h2;have h3:sg (false) zb.natAbs=- zb:=by unfold sg at h2 ⊢;simp at h2 ⊢;omega
   rw[h1,h3];omega
  exact EW
 obtain rfl:m=0:=Gk;have dW:zb.natAbs=0:=by have:=J.out;exact digits_eq_nil.1 (QD this)
 have dW:=Zd dW;cases nb;exact Ee;exact Ee
theorem Fr.keep{w W:World}{na:Bool}{A:Option Addr}{n c:Nat}{nb:Bool}{B:Option Addr}{m d:Nat}{r:Rat}(h:Fr w na A n c nb B m d r)(k:∀ na A n c z,Wd w na A n c z->Wd W na A n c z):Fr W na A n c nb B m d r:=⟨k _ _ _ _ _ h.1,k _ _ _ _ _ h.2⟩
theorem Z0m{x y z v:Int}(hx:x.natAbs<pw 1000)(hy:y.natAbs<pw 1000)(hz:z.natAbs<pw 1000)(hv:v.natAbs<pw 1000):(x*y+z*v).natAbs<pw 4096:=by
 exact IP
theorem Zwg(a b:Rat):QJ (a.num*b.den+b.num*a.den) ((a.den:Int)*(b.den:Nat))=a+b:=by
 have ha:((a.den:Nat):Int)≠0:=by have:=a.den_pos;omega
 have hb:((b.den:Nat):Int)≠0:=by have:=b.den_pos;omega
 rw[<- Rat.divInt_add_divInt _ _ ha hb,Ql,Ql]
theorem Cb{G:Prop}(h:G:=by
 exact⟨aU,_,_,_,_,_,_,_,_,rfl,kW _ _ _ _ _ hF.out.1,kW _ _ _ _ _ hF.out.2⟩):G:=h
theorem EC{G:Prop}(h:G:=by
 obtain⟨W7,jl,aU,q2,kW,-,s7⟩:=Z5 nx Ax kx cx ny Ay ky cy aM Gk hq.out;rw[jl];obtain⟨r0,r1,r2,r3,-⟩:=q2.four;refine bodyPost_ret (v:=.tuple #[.agg #[.bool nx,.slice Ax kx cx,.bool ny,.slice Ay ky cy],.int .i64 0]) (by simp[results,Tryz.results100,go_sem,r0,r1,r2,r3]) rfl ?_;exact Cb):G:=h
theorem Zu6(na nb na' nb':Bool)(A B A' B':Option Addr)(n c m d n' c' m' d':Nat)(a b:Rat)(w:World)(ha:Fr w na A n c nb B m d a)(hb:Fr w na' A' n' c' nb' B' m' d' b)(sa:Sm a)(sb:Sm b) :
    Calls Tryz.prog 100 #[.agg #[.bool na,.slice A n c,.bool nb,.slice B m d],.agg #[.bool na',.slice A' n' c',.bool nb',.slice B' m' d'],.bool false] w (Zev w (a+b)):=by
 rw[<- Zwg];have h1:=Zd (Zbm sa.1 sb.dn);have h2:=Zd (Zbm sb.1 sa.dn);have h3:=Zd (Zbm sa.dn sb.dn);have h4:=Zd (Z0m sa.1 sb.dn sb.1 sa.dn);have h5:=Zd (Zul sa.1 sb.dn sb.1 sa.dn);have h6:=Zd (Zcj a b);obtain⟨W0,b7,O,⟨q0,q1,q2⟩,s0⟩:=Zb2 w 41 #[.bool na,.slice A n c,.bool nb,.slice B m d] 41 #[.bool na',.slice A' n' c',.bool nb',.slice B' m' d'] 41 #[.bool false,.slice none 0 0,.bool false,.slice none 0 0];have hA:=Zd (ha.below O);have hD:=Zd (hb.below O);clear ha hb sa sb;generalize hX:a.num*((b.den:Nat):Int)=X at *;generalize hY:b.num*((a.den:Nat):Int)=Y at *;generalize hZ:((a.den:Nat):Int)*((b.den:Nat):Int)=Z at *
 replace hX:=Zd hX;replace hY:=Zd hY;replace hZ:=Zd hZ;obtain⟨a0,a1,a2,a3,-⟩:=q0.four;obtain⟨b0,b1,b2,b3,-⟩:=q1.four;have hq:=Zd (Qd q0 (Qd q1 q2));clear q0 q1 q2;go_in;go_wp2_with fail;have hM:=Zen na nb' A B' n c m' d' a.num b.den W0 hA.out.1 hD.out.2;rw[hX.out]at hM;refine hM.mono ?_;clear hM;rintro e w1 ⟨J,n1,P1,k1,c1,code,rfl,hR⟩;have h:=Zd (hR.small h1.out);have f:=hR.code0 h1.out;subst f;have a9:Below w.heap.size w w1:=Gs O J;have s1:W0.heap.size<=w1.heap.size:=J.size;replace hA:=Zd (hA.out.below J);replace hD:=Zd (hD.out.below J);obtain⟨q0,q1,q2⟩:=hq.out;replace q0:=Ze J q0;replace q1:=Ze J q1;replace q2:=Ze J q2;clear b7 J a0 a1 a2 a3 b0 b1 b2 b3 hq hR h1 O hX;obtain⟨W1,b6,U,r1,kW,kB,t1⟩:=Zq 39 #[.bool n1,.slice P1 k1 c1] a9 a9.size;replace q0:=kB _ _ _ q0;replace q1:=kB _ _ _ q1;replace q2:=kB _ _ _ q2;replace hA:=Zd (hA.out.keep kW);replace hD:=Zd (hD.out.keep kW);replace h:=Zd (kW _ _ _ _ _ h.out);clear kW kB a9;obtain⟨a0,a1,a2,a3,-⟩:=q0.four;obtain⟨b0,b1,b2,b3,-⟩:=q1.four;have hq:=Zd (Qd q0 (Qd q1 (Qd q2 r1)));clear q0 q1 q2 r1;go_wp2_with fail;have hM:=Zen na' nb A' B n' c' m d b.num a.den W1 hD.out.1 hA.out.2;rw[hY.out]at hM;refine hM.mono ?_;clear hM;rintro e w2 ⟨y,n2,P2,k2,c2,code,rfl,hR⟩;have u:=Zd (hR.small h2.out);have f:=hR.code0 h2.out;subst f
 have a4:Below w.heap.size w w2:=Gs U y;have s2:W1.heap.size<=w2.heap.size:=y.size;replace hA:=Zd (hA.out.below y);replace hD:=Zd (hD.out.below y);obtain⟨q0,q1,q2,r1⟩:=hq.out;replace q0:=Ze y q0;replace q1:=Ze y q1;replace q2:=Ze y q2;replace r1:=Ze y r1;replace h:=Zd (h.out.below y);clear b6 y a0 a1 a2 a3 b0 b1 b2 b3 hq hR h2 U hY;obtain⟨W2,b5,a5,r2,kW,kB,t2⟩:=Zq 39 #[.bool n2,.slice P2 k2 c2] a4 a4.size;replace q0:=kB _ _ _ q0;replace q1:=kB _ _ _ q1;replace q2:=kB _ _ _ q2;replace r1:=kB _ _ _ r1;replace hA:=Zd (hA.out.keep kW);replace hD:=Zd (hD.out.keep kW);replace h:=Zd (kW _ _ _ _ _ h.out);replace u:=Zd (kW _ _ _ _ _ u.out);clear kW kB a4;obtain⟨a0,a1,a2,a3,-⟩:=q0.four;obtain⟨b0,b1,b2,b3,-⟩:=q1.four;have hq:=Zd (Qd q0 (Qd q1 (Qd q2 (Qd r1 r2))));clear q0 q1 q2 r1 r2;go_wp2_with fail;have hM:=Zen nb nb' B B' m d m' d' a.den b.den W2 hA.out.2 hD.out.2;rw[hZ.out]at hM;refine hM.mono ?_;clear hM;rintro e w3 ⟨o,n3,P3,k3,c3,code,rfl,hR⟩;have I:=Zd (hR.small h3.out);have f:=hR.code0 h3.out;subst f;have a7:Below w.heap.size w w3:=Gs a5 o;have s3:W2.heap.size<=w3.heap.size:=o.size;replace hA:=Zd (hA.out.below o);replace hD:=Zd (hD.out.below o);obtain⟨q0,q1,q2,r1,r2⟩:=hq.out;replace q0:=Ze o q0;replace q1:=Ze o q1;replace q2:=Ze o q2;replace r1:=Ze o r1;replace r2:=Ze o r2;replace h:=Zd (h.out.below o);replace u:=Zd (u.out.below o);clear b5 o a0 a1 a2 a3 b0 b1 b2 b3 hq hR h3 a5 hZ;have hn:n3=false:=by rw[I.out.1];have:=h6.out;simp;omega
 subst hn;obtain⟨W3,b8,V,r3,kW,kB,t3⟩:=Zq 39 #[.bool false,.slice P3 k3 c3] a7 a7.size;replace q0:=kB _ _ _ q0;replace q1:=kB _ _ _ q1;replace q2:=kB _ _ _ q2;replace r1:=kB _ _ _ r1;replace r2:=kB _ _ _ r2;replace hA:=Zd (hA.out.keep kW);replace hD:=Zd (hD.out.keep kW);replace h:=Zd (kW _ _ _ _ _ h.out);replace u:=Zd (kW _ _ _ _ _ u.out);replace I:=Zd (kW _ _ _ _ _ I.out);clear kW kB a7;obtain⟨a0,a1,a2,a3,-⟩:=q0.four;obtain⟨b0,b1,b2,b3,-⟩:=q1.four;clear a0 a1 a2 a3 b0 b1 b2 b3 hA hD q0 q1;obtain⟨x0,x1,-⟩:=r1.two;obtain⟨y0,y1,-⟩:=r2.two;have hq:=Zd (Qd q2 (Qd r1 (Qd r2 r3)));clear q2 r1 r2 r3;go_wp2_with fail;refine(Zw0 n1 n2 P1 P2 k1 c1 k2 c2 X Y W3 h.out u.out).mono ?_;rintro e w4 ⟨C,n4,P4,k4,c4,code,rfl,hR⟩;have a6:=Zd (hR.small h4.out);have f:=hR.code0 h4.out;subst f;have a8:Below w.heap.size w w4:=Gs V C;have s4:W3.heap.size<=w4.heap.size:=C.size;obtain⟨q2,r1,r2,r3⟩:=hq.out;replace q2:=Ze C q2;replace r1:=Ze C r1;replace r2:=Ze C r2;replace r3:=Ze C r3;replace h:=Zd (h.out.below C);replace u:=Zd (u.out.below C);replace I:=Zd (I.out.below C);clear b8 C x0 x1 y0 y1 hq hR h4 V;obtain⟨W4,c6,b4,r4,kW,kB,t4⟩:=Zq 39 #[.bool n4,.slice P4 k4 c4] a8 a8.size;replace q2:=kB _ _ _ q2;replace r1:=kB _ _ _ r1;replace r2:=kB _ _ _ r2;replace r3:=kB _ _ _ r3;replace h:=Zd (kW _ _ _ _ _ h.out);replace u:=Zd (kW _ _ _ _ _ u.out)
 replace I:=Zd (kW _ _ _ _ _ I.out);replace a6:=Zd (kW _ _ _ _ _ a6.out);clear kW kB a8;obtain⟨x0,x1,-⟩:=r4.two;obtain⟨y0,y1,-⟩:=r3.two;have hq:=Zd q2;clear q2 r1 r2 r3 r4;go_wp2_with fail;refine(Zdl n4 P4 P3 k4 c4 k3 c3 _ _ W4 a6.out I.out h6.out).mono ?_;rintro e w6 ⟨T,nx,Ax,kx,cx,ny,Ay,ky,cy,rfl,hF⟩;have aM:Below w.heap.size w w6:=Gs b4 T;have s6:W4.heap.size<=w6.heap.size:=T.size;replace hq:=Gm T hq;replace hF:=Zd hF;clear x0 x1 y0 y1 T;obtain⟨d3,c7,c5,d0,c9,b9,c8,c0⟩:=hq.out.four;go_wp2_with fail;exact EC
theorem Zv0(na nb na' nb':Bool)(A B A' B':Option Addr)(n c m d n' c' m' d':Nat)(a b:Rat)(w:World)(ha:Fr w na A n c nb B m d a)(hb:Fr w na' A' n' c' nb' B' m' d' b)(sa:Sm a)(sb:Sm b) :
    Calls Tryz.prog 100 #[.agg #[.bool na,.slice A n c,.bool nb,.slice B m d],.agg #[.bool na',.slice A' n' c',.bool nb',.slice B' m' d'],.bool true] w (Zev w (a-b)):=by
 rw[<- Zq8];have h1:=Zd (Zbm sa.1 sb.dn);have h2:=Zd (Zbm sb.1 sa.dn);have h3:=Zd (Zbm sa.dn sb.dn);have h4:=Zd (Z0m sa.1 sb.dn sb.1 sa.dn);have h5:=Zd (Zul sa.1 sb.dn sb.1 sa.dn);have h6:=Zd (Zcj a b);obtain⟨W0,d3,T,⟨q0,q1,q2⟩,s0⟩:=Zb2 w 41 #[.bool na,.slice A n c,.bool nb,.slice B m d] 41 #[.bool na',.slice A' n' c',.bool nb',.slice B' m' d'] 41 #[.bool false,.slice none 0 0,.bool false,.slice none 0 0];have hA:=Zd (ha.below T);have hD:=Zd (hb.below T);clear ha hb sa sb;generalize hX:a.num*((b.den:Nat):Int)=X at *;generalize hY:b.num*((a.den:Nat):Int)=Y at *;generalize hZ:((a.den:Nat):Int)*((b.den:Nat):Int)=Z at *
 replace hX:=Zd hX;replace hY:=Zd hY;replace hZ:=Zd hZ;obtain⟨a0,a1,a2,a3,-⟩:=q0.four;obtain⟨b0,b1,b2,b3,-⟩:=q1.four;have hq:=Zd (Qd q0 (Qd q1 q2));clear q0 q1 q2;go_in;go_wp2_with fail;have hM:=Zen na nb' A B' n c m' d' a.num b.den W0 hA.out.1 hD.out.2;rw[hX.out]at hM;refine hM.mono ?_;clear hM;rintro e w1 ⟨J,n1,P1,k1,c1,code,rfl,hR⟩;have h:=Zd (hR.small h1.out);have f:=hR.code0 h1.out;subst f;have b6:Below w.heap.size w w1:=Gs T J;have s1:W0.heap.size<=w1.heap.size:=J.size;replace hA:=Zd (hA.out.below J);replace hD:=Zd (hD.out.below J);obtain⟨q0,q1,q2⟩:=hq.out;replace q0:=Ze J q0;replace q1:=Ze J q1;replace q2:=Ze J q2;clear d3 J a0 a1 a2 a3 b0 b1 b2 b3 hq hR h1 T hX;obtain⟨W1,d0,V,r1,kW,kB,t1⟩:=Zq 39 #[.bool n1,.slice P1 k1 c1] b6 b6.size;replace q0:=kB _ _ _ q0;replace q1:=kB _ _ _ q1;replace q2:=kB _ _ _ q2;replace hA:=Zd (hA.out.keep kW);replace hD:=Zd (hD.out.keep kW);replace h:=Zd (kW _ _ _ _ _ h.out);clear kW kB b6;obtain⟨a0,a1,a2,a3,-⟩:=q0.four;obtain⟨b0,b1,b2,b3,-⟩:=q1.four;have hq:=Zd (Qd q0 (Qd q1 (Qd q2 r1)));clear q0 q1 q2 r1;go_wp2_with fail;have hM:=Zen na' nb A' B n' c' m d b.num a.den W1 hD.out.1 hA.out.2;rw[hY.out]at hM;refine hM.mono ?_;clear hM;rintro e w2 ⟨C,n2,P2,k2,c2,code,rfl,hR⟩;have o:=Zd (hR.small h2.out);have f:=hR.code0 h2.out;subst f
 have a5:Below w.heap.size w w2:=Gs V C;have s2:W1.heap.size<=w2.heap.size:=C.size;replace hA:=Zd (hA.out.below C);replace hD:=Zd (hD.out.below C);obtain⟨q0,q1,q2,r1⟩:=hq.out;replace q0:=Ze C q0;replace q1:=Ze C q1;replace q2:=Ze C q2;replace r1:=Ze C r1;replace h:=Zd (h.out.below C);clear d0 C a0 a1 a2 a3 b0 b1 b2 b3 hq hR h2 V hY;obtain⟨W2,c9,a7,r2,kW,kB,t2⟩:=Zq 39 #[.bool n2,.slice P2 k2 c2] a5 a5.size;replace q0:=kB _ _ _ q0;replace q1:=kB _ _ _ q1;replace q2:=kB _ _ _ q2;replace r1:=kB _ _ _ r1;replace hA:=Zd (hA.out.keep kW);replace hD:=Zd (hD.out.keep kW);replace h:=Zd (kW _ _ _ _ _ h.out);replace o:=Zd (kW _ _ _ _ _ o.out);clear kW kB a5;obtain⟨a0,a1,a2,a3,-⟩:=q0.four;obtain⟨b0,b1,b2,b3,-⟩:=q1.four;have hq:=Zd (Qd q0 (Qd q1 (Qd q2 (Qd r1 r2))));clear q0 q1 q2 r1 r2;go_wp2_with fail;have hM:=Zen nb nb' B B' m d m' d' a.den b.den W2 hA.out.2 hD.out.2;rw[hZ.out]at hM;refine hM.mono ?_;clear hM;rintro e w3 ⟨u,n3,P3,k3,c3,code,rfl,hR⟩;have y:=Zd (hR.small h3.out);have f:=hR.code0 h3.out;subst f;have b4:Below w.heap.size w w3:=Gs a7 u;have s3:W2.heap.size<=w3.heap.size:=u.size;replace hA:=Zd (hA.out.below u);replace hD:=Zd (hD.out.below u);obtain⟨q0,q1,q2,r1,r2⟩:=hq.out;replace q0:=Ze u q0;replace q1:=Ze u q1;replace q2:=Ze u q2;replace r1:=Ze u r1;replace r2:=Ze u r2;replace h:=Zd (h.out.below u);replace o:=Zd (o.out.below u);clear c9 u a0 a1 a2 a3 b0 b1 b2 b3 hq hR h3 a7 hZ;have hn:n3=false:=by rw[y.out.1];have:=h6.out;simp;omega
 subst hn;obtain⟨W3,d4,a4,r3,kW,kB,t3⟩:=Zq 39 #[.bool false,.slice P3 k3 c3] b4 b4.size;replace q0:=kB _ _ _ q0;replace q1:=kB _ _ _ q1;replace q2:=kB _ _ _ q2;replace r1:=kB _ _ _ r1;replace r2:=kB _ _ _ r2;replace hA:=Zd (hA.out.keep kW);replace hD:=Zd (hD.out.keep kW);replace h:=Zd (kW _ _ _ _ _ h.out);replace o:=Zd (kW _ _ _ _ _ o.out);replace y:=Zd (kW _ _ _ _ _ y.out);clear kW kB b4;obtain⟨a0,a1,a2,a3,-⟩:=q0.four;obtain⟨b0,b1,b2,b3,-⟩:=q1.four;clear a0 a1 a2 a3 b0 b1 b2 b3 hA hD q0 q1;obtain⟨x0,x1,-⟩:=r1.two;obtain⟨y0,y1,-⟩:=r2.two;have hq:=Zd (Qd q2 (Qd r1 (Qd r2 r3)));clear q2 r1 r2 r3;go_wp2_with fail;refine(Zw0 n1 n2 P1 P2 k1 c1 k2 c2 X Y W3 h.out o.out).mono ?_;rintro e w4 ⟨I,n4,P4,k4,c4,code,rfl,hR⟩;have a8:=Zd (hR.small h4.out);have f:=hR.code0 h4.out;subst f;have b5:Below w.heap.size w w4:=Gs a4 I;have s4:W3.heap.size<=w4.heap.size:=I.size;obtain⟨q2,r1,r2,r3⟩:=hq.out;replace q2:=Ze I q2;replace r1:=Ze I r1;replace r2:=Ze I r2;replace r3:=Ze I r3;replace h:=Zd (h.out.below I);replace o:=Zd (o.out.below I);replace y:=Zd (y.out.below I);clear d4 I x0 x1 y0 y1 hq hR h4 a4;obtain⟨W4,c8,a6,r4,kW,kB,t4⟩:=Zq 39 #[.bool n4,.slice P4 k4 c4] b5 b5.size;replace q2:=kB _ _ _ q2;replace r1:=kB _ _ _ r1;replace r2:=kB _ _ _ r2;replace r3:=kB _ _ _ r3;replace h:=Zd (kW _ _ _ _ _ h.out);replace o:=Zd (kW _ _ _ _ _ o.out)
 replace y:=Zd (kW _ _ _ _ _ y.out);replace a8:=Zd (kW _ _ _ _ _ a8.out);clear kW kB b5;obtain⟨x0,x1,-⟩:=r1.two;obtain⟨y0,y1,-⟩:=r2.two;have hq:=Zd (Qd q2 (Qd r3 r4));clear q2 r1 r2 r3 r4 a8;go_wp2_with fail;refine(rSub_ok n1 n2 P1 P2 k1 c1 k2 c2 X Y W4 h.out o.out).mono ?_;rintro e w5 ⟨O,n5,P5,k5,c5,code,rfl,hR⟩;have b7:=Zd (hR.small h5.out);have f:=hR.code0 h5.out;subst f;have a9:Below w.heap.size w w5:=Gs a6 O;have s5:W4.heap.size<=w5.heap.size:=O.size;obtain⟨q2,r3,r4⟩:=hq.out;replace q2:=Ze O q2;replace r3:=Ze O r3;replace r4:=Ze O r4;replace y:=Zd (y.out.below O);clear c8 O x0 x1 y0 y1 hq hR h5 a6 h o;obtain⟨WS,d6,c0,r5,kW,kB,tS⟩:=Zaz n5 P5 k5 c5 a9 (by have:=a9.size;omega) r4;obtain⟨-,-,f0,f1⟩:=r4.two;obtain⟨v0,v1,-⟩:=r4.two;have c7:=kB _ _ _ Gk q2;have b9:=kB _ _ _ Gk r3;have b8:=Zd (kW _ _ _ _ _ y.out);have c6:=Zd (kW _ _ _ _ _ b7.out);clear kW kB q2 r3 r4 y b7 a9;obtain⟨x0,x1,-⟩:=r5.two;obtain⟨y0,y1,-⟩:=b9.two;have hq:=Zd c7;clear c7 r5 b9;go_wp2_with fail;refine(Zdl n5 P5 P3 k5 c5 k3 c3 _ _ WS c6.out b8.out h6.out).mono ?_;rintro e w6 ⟨U,nx,Ax,kx,cx,ny,Ay,ky,cy,rfl,hF⟩;have aM:Below w.heap.size w w6:=Gs c0 U;have s6:WS.heap.size<=w6.heap.size:=U.size;replace hq:=Gm U hq;replace hF:=Zd hF;clear x0 x1 y0 y1 U;obtain⟨e3,d9,d8,e2,e1,d5,e0,d7⟩:=hq.out.four;go_wp2_with fail;exact EC
structure FE where
 na:Bool
 A:Option Addr
 n:Nat
 c:Nat
 nb:Bool
 B:Option Addr
 m:Nat
 d:Nat
 q:Rat
def FE.in_(w:World)(e:FE):Prop:=Fr w e.na e.A e.n e.c e.nb e.B e.m e.d e.q
def Zr:List FE->List Value
 | []=>[]
 | e::l=>.bool e.na :: .slice e.A e.n e.c :: .bool e.nb :: .slice e.B e.m e.d::Zr l
def Z0(es:List FE):Array Value:=(Zr es).toArray
theorem Zt(es:List FE):(Zr es).length=es.length*4:=by
 induction es with
 | nil=>rfl
 | cons e l ih=>simp only[Zr,Qr,ih];omega
theorem Zfi{es:List FE}{i:Nat}{e:FE}(h:es[i]?=some e):(Zr es)[i*4]?=some (.bool e.na)/\(Zr es)[i*4+1]?=some (.slice e.A e.n e.c)/\(Zr es)[i*4+2]?=some (.bool e.nb)/\(Zr es)[i*4+3]?=some (.slice e.B e.m e.d):=by
 induction es generalizing i with
 | nil=>simp at h
 | cons x l ih =>
  cases i with
  | zero=>simp at h;subst h;simp[Zr]
  | succ i =>
   have:=ih (by simpa using h);rw[show (i+1)*4=i*4+4 by omega];simpa [Zr]using this
theorem Zot(es:List FE):∀ (i x:Nat),(Zr es)[i]?≠some (limb x):=by
 induction es with
 | nil=>intro i x;simp[Zr]
 | cons e l ih =>
  intro i x
  match i with
  | 0=>simp[Zr]
  | 1=>simp[Zr]
  | 2=>simp[Zr]
  | 3=>simp[Zr]
  | i+4=>simpa [Zr]using ih i x
theorem Zd4{es:List FE}{i:Nat}{e:FE}(h:es[i]?=some e):(Z0 es)[i*4]?=some (.bool e.na)/\(Z0 es)[i*4+1]?=some (.slice e.A e.n e.c)/\(Z0 es)[i*4+2]?=some (.bool e.nb)/\(Z0 es)[i*4+3]?=some (.slice e.B e.m e.d):=by
 simpa [Z0]using Zfi h
theorem Zcd(es:List FE):NoLimb (Z0 es):=λi x=>by simpa [Z0]using Zot es i x
def Zat:FE:=⟨false,none,0,0,false,none,0,0,0⟩
theorem Zap(es fs:List FE):Zr (es++fs)=Zr es++Zr fs:=by
 induction es with
 | nil=>rfl
 | cons e l ih=>simp only[List.cons_append,Zr,ih]
theorem Zjn(fs:List FE):∀ u ∈ Zr fs,u.oneCell'=true:=by
 induction fs with
 | nil=>intro u h;simp[Zr]at h
 | cons e l ih =>
  intro u h;simp only[Zr,List.mem_cons]at h;rcases h with rfl|rfl|rfl|rfl|h;rfl;rfl;rfl;rfl;exact ih u h
theorem Zea(k:Nat):(QN #[.bool false,.slice none 0 0,.bool false,.slice none 0 0] k).toList=Zr (Qg k Zat):=by
 unfold QN;apply QO;intro i;by_cases h:i<k*4
 ·have he:(Qg k Zat)[i/4]?=some Zat:=by rw[QI,Gx Gk]
  have hc:=Zfi he;have h4:i%4=0 \/ i%4=1 \/ i%4=2 \/ i%4=3:=Gk;rcases h4 with h2|h2|h2|h2;rw[show i/4*4=i by omega]at hc;rw[hc.1];simp[h,h2,Zat];rw[show i/4*4+1=i by omega]at hc;rw[hc.2.1];simp[h,h2,Zat];rw[show i/4*4+2=i by omega]at hc;rw[hc.2.2.1];simp[h,h2,Zat];rw[show i/4*4+3=i by omega]at hc;rw[hc.2.2.2];simp[h,h2,Zat]
 rw[Qz Gg,Qz (by rw[Zt];simp;omega)]
def RowF(t:TypeId)(w:World)(base:Nat)(v:Value)(es:List FE):Prop:=
 (v=.slice none 0 0/\es=[]) \/ ∃ g sp,v=.slice (some ⟨g,0,none⟩) es.length (es.length+sp)/\base<=g/\es.length+sp<=maxLen/\Blk w g t (Z0 (es++Qg sp Zat))
section
variable{t:TypeId}{w w':World}{base:Nat}{v:Value}{es:List FE}
theorem RowF.own(h:RowF t w base v es):w.ownsRow base t 4 v es.length (Zr es):=by
 refine⟨Zt es,?_⟩;rcases h with ⟨h1,rfl⟩|⟨g,sp,h1,h2,h3,h4⟩;exact .inl ⟨h1,rfl⟩;refine .inr ⟨g,_,_,h1,h2,h4,QQ _ _,h3,?_,?_⟩;simp[Z0,Zt];simp only[Z0];rw[Zap,<- Zt es];exact List.take_left
theorem RowF.row_ge(h:RowF t w base v es):∀ k,v.ownBlock=some k->base<=k:=λk hk=>(h.own.lt k hk).1
theorem FJ{G:Prop}(h:G:=by
 rcases h with h|⟨g,sp,h1,h2,h3,h4⟩;exact .inl h;exact .inr ⟨g,sp,h1,h2,h3,Ze hb h4⟩):G:=h
theorem RowF.kept(h:RowF t w base v es)(hb:Below w.heap.size w w'):RowF t w' base v es:=by
 exact FJ
theorem RowF.keep(h:RowF t w base v es)(hg:w.grownBy w' v.ownBlock){A:Option Addr}{n c:Nat}{l:List Nat}(hL:Lim w A n c l):Lim w' A n c l:=by
 refine⟨hL.1,hL.2.1,hL.2.2.1,hL.2.2.2.1,λhn=>?_⟩;obtain⟨b,o,e,hc⟩:=hL.2.2.2.2 hn;refine⟨b,o,e,λk hk=>?_⟩;rw[<- hc k hk];refine QK (hg.block b (Zp (hc k hk)) (λe'=>?_));rcases h with ⟨rfl,_⟩|⟨g,sp,rfl,_,_,h4⟩;cases e';have f:b=g:=by simpa [Value.ownBlock]using e'
 subst f;have h1:=hc k hk;rw[h4.cell]at h1;exact Zcd _ _ _ h1
end
section
variable{P:Program}(w:World)
theorem Fg{G:Prop}(h:G:=by
 rw[List.getElem?_append_left (by rw[List.getElem?_eq_some_iff]at hu;exact hu.1)];exact hu):G:=h
theorem EK{G:Prop}(h:G:=by
 refine(setRow_heap w g _ _ e _ h4).trans ?_;congr 2;unfold Z0;congr 1;rw[dS];have gw:List.replicate sp Zat=List.replicate m Zat++List.replicate (sp-m) Zat:=by rw[List.replicate_append_replicate];congr 1;omega
 have ju:(Zr fs).length=(Zr (List.replicate m Zat)).length:=by rw[Zt,Zt,hm,List.length_replicate]
 simp only[Zap];rw[List.take_left,ju,<- List.length_append,gw,Zap,<- List.append_assoc (Zr es),List.drop_left,List.append_assoc]):G:=h
theorem CH{G:Prop}(h:G:=by
 simp[Builtin.append_,run_underlying ht,sizeOf,typeInfo,hi,Builtin.lenOf,Builtin.firstCells,loadCells,loadCellsFrom]):G:=h
theorem CJ{G:Prop}(h:G:=by
 simp[Builtin.append_,run_underlying ht,sizeOf,typeInfo,hi,Builtin.lenOf,Builtin.firstCells,loadCells,loadCellsFrom,storeCells]):G:=h
theorem EU{G:Prop}(h:G:=by
 have hf:=run_firstCells_some (P:=P) w i.size 0 ad 0 c [] Gh Gh;rcases ai with ⟨rfl,rfl⟩|⟨g,sp,rfl,h2,h3,h4⟩
 ·refine⟨.slice none 0 0,w,?_,.inl ⟨rfl,rfl⟩,World.grownBy.refl w _⟩
  exact CH
 refine⟨_,w,?_,.inr ⟨g,sp,rfl,h2,h3,h4⟩,World.grownBy.refl w _⟩;exact CJ):G:=h
theorem EX{G:Prop}(h:G:=by
 have:=heap_alloc_new w.drew (.cells ((Zr fs).toArray++Builtin.zeroCells (Value.agg #[.bool false,.slice none 0 0,.bool false,.slice none 0 0]).cells (grownCap w m 0 e-m)) e);unfold Blk;refine this.trans ?_;congr 1
 have hx:(Zr fs).toArray++Builtin.zeroCells (Value.agg #[.bool false,.slice none 0 0,.bool false,.slice none 0 0]).cells (grownCap w m 0 e-m)=Z0 ([]++fs++List.replicate (grownCap w m 0 e-m) Zat):=by
  apply Array.toList_inj.1;rw[Array.toList_append,show (Value.agg #[.bool false,.slice none 0 0,.bool false,.slice none 0 0]).cells=#[.bool false,.slice none 0 0,.bool false,.slice none 0 0] from rfl,Zea];simp[Z0,Zap]
 rw[hx]):G:=h
theorem Eg{G:Prop}(h:G:=by
 have:=heap_alloc_new w.drew (.cells ((Zr es).toArray++(Zr fs).toArray++Builtin.zeroCells (Value.agg #[.bool false,.slice none 0 0,.bool false,.slice none 0 0]).cells (grownCap w (es.length+m) (es.length+sp) e-(es.length+m))) e);unfold Blk;refine this.trans ?_;congr 1
 have hx:(Zr es).toArray++(Zr fs).toArray++Builtin.zeroCells (Value.agg #[.bool false,.slice none 0 0,.bool false,.slice none 0 0]).cells (grownCap w (es.length+m) (es.length+sp) e-(es.length+m))=Z0 (es++fs++List.replicate (grownCap w (es.length+m) (es.length+sp) e-(es.length+m)) Zat):=by
  apply Array.toList_inj.1;rw[Array.toList_append,Array.toList_append,show (Value.agg #[.bool false,.slice none 0 0,.bool false,.slice none 0 0]).cells=#[.bool false,.slice none 0 0,.bool false,.slice none 0 0] from rfl,Zea];simp[Z0,Zap]
 rw[hx]):G:=h
theorem Zl2(base:Nat)(t ty e:TypeId)(i:TypeInfo)(ht:P.underlying t=some (.slice e))(hi:P.info? e=some i)(hz:i.zero=some (.agg #[.bool false,.slice none 0 0,.bool false,.slice none 0 0]))
    (hs:i.size=4) (hby:i.bytes=64) (v:Value) (es:List FE) (ai:RowF e w base v es)
    (B:Nat) (A:Option Addr) (m c:Nat) (fs:List FE) (hr:Reads w B 4 A m (Zr fs)) (hm:fs.length=m) (h63:es.length+m<=1000) (hbase:base<=w.heap.size) :
    ∃ v' w',(Builtin.append_ #[t,t] ty #[v,.slice A m c]).run P w=.ok v' w'/\RowF e w' base v' (es++fs)/\w.grownBy w' v.ownBlock:=by
 rcases Nat.eq_zero_or_pos m with h0|h0
 ·subst h0
  obtain rfl:fs=[]:=QD hm;rw[List.append_nil];rcases A with _|ad;exact⟨v,w,Zci w base t ty e i 4 ht hi v _ _ ai.own c,ai,World.grownBy.refl w _⟩;exact EU
 obtain⟨ad,rfl,_,hc⟩:=hr.2 h0;have hl:(Zr fs).length=m*i.size:=by rw[Zt,hm,hs]
 have dS:es.length*i.size=(Zr es).length:=by rw[Zt,hs]
 rcases ai with ⟨rfl,rfl⟩|⟨g,sp,rfl,h2,h3,h4⟩
 ·have f:=run_append_nil (P:=P) w t ty e i _ ht hi hz ad m c (Zr fs) hl hc h0 Gk (by rw[hby];omega)
  have h:=grownCap_ge w m 0 e;have o:=grownCap_le_maxLen w m 0 e (by unfold maxLen;simp only[List.length_nil]at h63;omega);refine⟨_,_,f,.inr ⟨w.heap.size,grownCap w m 0 e-m,?_,hbase,?_,?_⟩,⟨rfl,rfl,rfl,by simp,λk hk _=>Below.heap_alloc w.drew _ k hk⟩⟩;rw[QT,hm,Qs h];rw[QT,hm,Qs h];exact o;exact EX
 by_cases hroom:m<=sp
 ·have f:=run_append_room (P:=P) w t ty e i ht hi g es.length (es.length+sp) _ h4 ad m c (Zr fs) hl hc (Zjn fs) Gk (by rw[dS,Zt,Zt];simp[Z0,Zt];omega)
  refine⟨_,_,f,.inr ⟨g,sp-m,?_,h2,?_,?_⟩,⟨rfl,rfl,rfl,by simp[World.setRow],λk _ hk=>setRow_other w g k _ (λe'=>hk (by simp[Value.ownBlock,e']))⟩⟩;rw[Qn,hm,show es.length+m+(sp-m)=es.length+sp by omega];rw[Qn,hm];omega;exact EK
 have y:∀ j u,(Zr es)[j]?=some u->w.cell? ((⟨g,0,none⟩:Addr).add j)=some u:=λj u hu=>by
   rw[Zi,QB,h4.cell];simp only[Z0,List.getElem?_toArray,Zap];exact Fg
 have f:=run_append_grow (P:=P) w t ty e i _ ht hi hz ⟨g,0,none⟩ es.length (es.length+sp) (Zr es) dS.symm y ad m c (Zr fs) hl hc Gk Gk (growslice_fits Gk (by rw[hby];omega));have h:=grownCap_ge w (es.length+m) (es.length+sp) e;have o:=grownCap_le_maxLen w (es.length+m) (es.length+sp) e (by unfold maxLen;omega);refine⟨_,_,f,.inr ⟨w.heap.size,grownCap w (es.length+m) (es.length+sp) e-(es.length+m),?_,hbase,?_,?_⟩,⟨rfl,rfl,rfl,by simp,λk hk _=>Below.heap_alloc w.drew _ k hk⟩⟩;rw[Qn,hm,Qs h];rw[Qn,hm,Qs h];exact o;exact Eg
end
def OwnF(t:TypeId)(w:World)(base:Nat)(v:Value)(qs:List Rat):Prop:=∃ es,RowF t w base v es/\(∀ e ∈ es,e.in_ w)/\es.map FE.q=qs
theorem Fr.of_keep{w w':World}{na:Bool}{A:Option Addr}{n c:Nat}{nb:Bool}{B:Option Addr}{m d:Nat}{r:Rat}(h:Fr w na A n c nb B m d r)(hk:∀ (A:Option Addr) (n c:Nat) (l:List Nat),Lim w A n c l->Lim w' A n c l):Fr w' na A n c nb B m d r:=⟨⟨h.1.1,h.1.2.1,hk _ _ _ _ h.1.2.2⟩,⟨h.2.1,h.2.2.1,hk _ _ _ _ h.2.2.2⟩⟩
section
variable{t:TypeId}{w w':World}{base:Nat}{v:Value}{qs:List Rat}
theorem OwnF.nil(t:TypeId)(w:World)(base:Nat):OwnF t w base (.slice none 0 0) []:=⟨[],.inl ⟨rfl,rfl⟩,λe h=>by simp at h,rfl⟩
theorem OwnF.kept(h:OwnF t w base v qs)(hb:Below w.heap.size w w'):OwnF t w' base v qs:=by
 obtain⟨es,h1,h2,h3⟩:=h;exact⟨es,h1.kept hb,λe he=>(h2 e he).below hb,h3⟩
theorem OwnF.row_ge(h:OwnF t w base v qs):∀ k,v.ownBlock=some k->base<=k:=by obtain⟨es,h1,_⟩:=h;exact h1.row_ge
def FL(w:World)(A:Option Addr)(n c:Nat)(qs:List Rat):Prop:=
 ∃ es:List FE,es.length=n/\n<=c/\c<=maxLen/\(∀ e ∈ es,e.in_ w)/\es.map FE.q=qs/\(0<n->∃ g o,A=some ⟨g,o,none⟩/\∀ (k:Nat) (e:FE),es[k]?=some e->w.cell? ⟨g,o+k*4,none⟩=some (.bool e.na)/\w.cell? ⟨g,o+(k*4+1),none⟩=some (.slice e.A e.n e.c)/\w.cell? ⟨g,o+(k*4+2),none⟩=some (.bool e.nb)/\w.cell? ⟨g,o+(k*4+3),none⟩=some (.slice e.B e.m e.d))
theorem OwnF.fl(h:OwnF t w base v qs):∃ A c,v=.slice A qs.length c/\FL w A qs.length c qs:=by
 obtain⟨es,h1,h2,rfl⟩:=h;rcases h1 with ⟨rfl,rfl⟩|⟨g,sp,rfl,h4,h5,h6⟩;exact⟨none,0,rfl,[],rfl,Qy _,Nat.zero_le _,λe h=>by simp at h,rfl,λh=>absurd h Gh⟩;rw[Qo];refine⟨_,es.length+sp,rfl,es,rfl,QQ _ _,h5,h2,rfl,λ_=>⟨g,0,rfl,λk e he=>?_⟩⟩;have hk:k<es.length:=(List.getElem?_eq_some_iff.1 he).1;have hc:=Zd4 (es:=es++Qg sp Zat) (i:=k) (e:=e) (by rw[Qt hk];exact he);simp only[QB,h6.cell];exact hc
theorem FL.below{A:Option Addr}{n c:Nat}(h:FL w A n c qs)(hb:Below w.heap.size w w'):FL w' A n c qs:=by
 obtain⟨es,h1,h2,h3,h4,h5,h6⟩:=h;refine⟨es,h1,h2,h3,λe he=>(h4 e he).below hb,h5,λhn=>?_⟩;obtain⟨g,o,e1,hc⟩:=h6 hn;refine⟨g,o,e1,λk e he=>?_⟩;obtain⟨a,b,c',d⟩:=hc k e he;exact⟨(hb.cell (Zp a)).trans a,(hb.cell (Zp b)).trans b,(hb.cell (Zp c')).trans c',(hb.cell (Zp d)).trans d⟩
end
theorem Zcn{w:World}{g:Nat}{t:TypeId}{na:Bool}{A:Option Addr}{n c:Nat}{nb:Bool}{B:Option Addr}{m d:Nat}(q:Rat)(h:Blk w g t #[.bool na,.slice A n c,.bool nb,.slice B m d]):Reads w (g+1) 4 (some ⟨g,0,none⟩) 1 (Zr [⟨na,A,n,c,nb,B,m,d,q⟩]):=
 ⟨rfl,λ_=>⟨_,rfl,Nat.lt_succ_self _,λj u hu=>by
  rw[Zi,QB,h.cell];simpa [Zr]using hu⟩⟩
section
variable{P:Program}(w:World)
theorem IC{G:Prop}(h:G:=by
 rcases List.mem_append.1 he with he|he;exact(h2 e he).of_keep hk;exact(iw e he).of_keep hk):G:=h
theorem Zhk{o:Oper}{a:Act}{K:Act->World->Prop}{Q:Exit->Act->World->Prop}(s x:Operand)(t:TypeId)
    (ho:o.op=.call { callee:=.builtin .append,args:=#[s,x],argTypes:=#[t,t] })
    (base:Nat) (e:TypeId) (i:TypeInfo) (ht:P.underlying t=some (.slice e)) (hi:P.info? e=some i) (hz:i.zero=some (.agg #[.bool false,.slice none 0 0,.bool false,.slice none 0 0])) (hsi:i.size=4) (hby:i.bytes=64)
    (v:Value) (qs:List Rat) (hs:a.eval s=v) (hown:OwnF e w base v qs)
    (B:Nat) (A:Option Addr) (m c:Nat) (fs:List FE) (hx:a.eval x=.slice A m c) (hr:Reads w B 4 A m (Zr fs)) (hm:fs.length=m) (iw:∀ e ∈ fs,e.in_ w)
    (h63:qs.length+m<=1000) (hbase:base<=w.heap.size)
    (h:∀ v' w',OwnF e w' base v' (qs++fs.map FE.q)->w.grownBy w' v.ownBlock->(∀ (A:Option Addr) (n c:Nat) (l:List Nat),Lim w A n c l->Lim w' A n c l)->K (a.put o.dst v') w'):o.wp P a w K Q:=by
 obtain⟨es,h1,h2,rfl⟩:=hown;rw[Qo]at h63;obtain⟨v',w',f,h3,h4⟩:=Zl2 (P:=P) w base t o.type e i ht hi hz hsi hby v es h1 B A m c fs hr hm h63 hbase;unfold Oper.wp execOp;simp only[ho,resolve,invoke,builtin,Sem.run_bind,Sem.run_pure,Result.andThen_ok,List.map_toArray,List.map_cons,List.map_nil,hs,hx,f];have hk:∀ (A:Option Addr) (n c:Nat) (l:List Nat),Lim w A n c l->Lim w' A n c l:=λ_ _ _ _ hL=>h1.keep h4 hL;refine h v' w' ⟨es++fs,h3,λe he=>?_,by rw[List.map_append]⟩ h4 hk;exact IC
theorem Zdt{ops:Array Oper}{rest:List Oper}{o:Oper}{a:Act}{Q:Exit->Act->World->Prop}(hgd:o.guard=none)(s x:Operand)(t:TypeId)
    (ho:o.op=.call { callee:=.builtin .append,args:=#[s,x],argTypes:=#[t,t] })
    (base:Nat) (e:TypeId) (i:TypeInfo) (ht:P.underlying t=some (.slice e)) (hi:P.info? e=some i) (hz:i.zero=some (.agg #[.bool false,.slice none 0 0,.bool false,.slice none 0 0])) (hsi:i.size=4) (hby:i.bytes=64)
    (v:Value) (qs:List Rat) (hs:a.eval s=v) (hown:OwnF e w base v qs)
    (B:Nat) (A:Option Addr) (m c:Nat) (fs:List FE) (hx:a.eval x=.slice A m c) (hr:Reads w B 4 A m (Zr fs)) (hm:fs.length=m) (hfs:∀ e ∈ fs,e.in_ w)
    (h63:qs.length+m<=1000) (hbase:base<=w.heap.size)
    (h:∀ v' w',OwnF e w' base v' (qs++fs.map FE.q)->w.grownBy w' v.ownBlock->(∀ (A:Option Addr) (n c:Nat) (l:List Nat),Lim w A n c l->Lim w' A n c l)->wpList P ops Q rest (a.put o.dst v') w'):wpList P ops Q (o::rest) a w:=
 wpList_plain hgd λ_ hK=>Zhk w s x t ho base e i ht hi hz hsi hby v qs hs hown B A m c fs hx hr hm hfs h63 hbase λv' w' h2 h3 h4=>hK _ _ (h v' w' h2 h3 h4)
end
def PolyL(w:World)(A:Option Addr)(n c:Nat)(xs:List Int):Prop:=∃ es,WL w A n c es/\es.map WE.num=xs/\∀ e ∈ es,e.ok=true
theorem WE.wd{w:World}{e:WE}(h:Lim w e.A e.n e.c e.l)(hk:e.ok=true):Wd w e.neg e.A e.n e.c e.num:=Wd.of_ok h hk
def Zal:List WE->List Value
 | []=>[]
 | e::l=>.bool e.neg :: .slice e.A e.n e.c::Zal l
def Zbx(es:List WE):Array Value:=(Zal es).toArray
theorem Zbg(es:List WE):(Zal es).length=es.length*2:=by
 induction es with
 | nil=>rfl
 | cons e l ih=>simp only[Zal,Qr,ih];omega
theorem Znr{es:List WE}{i:Nat}{e:WE}(h:es[i]?=some e):(Zal es)[i*2]?=some (.bool e.neg)/\(Zal es)[i*2+1]?=some (.slice e.A e.n e.c):=by
 induction es generalizing i with
 | nil=>simp at h
 | cons a l ih =>
  cases i with
  | zero=>simp at h;subst h;exact⟨rfl,rfl⟩
  | succ i =>
   have:=ih (i:=i) (by simpa using h);rw[show (i+1)*2=i*2+1+1 by omega];simpa [Zal]using this
theorem Zu9{es:List WE}{i:Nat}(e:WE)(h:i<es.length):((Zal es).set (i*2) (.bool e.neg)).set (i*2+1) (.slice e.A e.n e.c)=Zal (es.set i e):=by
 induction es generalizing i with
 | nil=>simp at h
 | cons a l ih =>
  cases i with
  | zero=>rfl
  | succ i =>
   have:=ih (i:=i) (by simpa using h);rw[show (i+1)*2=i*2+1+1 by omega];simp only[Zal,QL,this]
theorem Zop(es:List WE):∀ (i x:Nat),(Zal es)[i]?≠some (limb x):=by
 induction es with
 | nil=>intro i x;simp[Zal]
 | cons a l ih =>
  intro i x
  match i with
  | 0=>simp[Zal]
  | 1=>simp[Zal]
  | i+2=>simpa [Zal]using ih i x
theorem Zjs{es:List WE}{i:Nat}{e:WE}(h:es[i]?=some e):(Zbx es)[i*2]?=some (.bool e.neg)/\(Zbx es)[i*2+1]?=some (.slice e.A e.n e.c):=by
 simpa [Zbx]using Znr h
theorem Zt8{es:List WE}{i:Nat}(e:WE)(h:i<es.length):((Zbx es).setIfInBounds (i*2) (.bool e.neg)).setIfInBounds (i*2+1) (.slice e.A e.n e.c)=Zbx (es.set i e):=by
 unfold Zbx;rw[<- Zu9 e h];simp
theorem Zdq(es:List WE):NoLimb (Zbx es):=λi x=>by simpa [Zbx]using Zop es i x
theorem Zhh(es:List WE)(i:Nat)(b:Bool):NoLimb ((Zbx es).setIfInBounds i (.bool b)):=λj x=>by
 rw[Qq]
 split
 ·split <;> simp
 exact Zdq es j x
def POwn(t:TypeId)(w:World)(g:Nat)(xs:List Int):Prop:=
 ∃ es:List WE,Blk w g t (Zbx es)/\(∀ e ∈ es,Lim w e.A e.n e.c e.l/\e.ok=true)/\es.map WE.num=xs
section
variable{t:TypeId}{w w':World}{g:Nat}{xs:List Int}
theorem POwn.below(h:POwn t w g xs)(hb:Below w.heap.size w w'):POwn t w' g xs:=by
 obtain⟨es,h1,h2,h3⟩:=h;exact⟨es,Ze hb h1,λe he=>⟨(h2 e he).1.below hb,(h2 e he).2⟩,h3⟩
theorem POwn.lt(h:POwn t w g xs):g<w.heap.size:=by obtain⟨es,h1,_⟩:=h;exact h1.lt
theorem POwn.frozen(h:POwn t w g xs)(i:Nat):w.frozen? ⟨g,i,none⟩=false:=by obtain⟨es,h1,_⟩:=h;exact h1.frozen i
theorem POwn.at_(h:POwn t w g xs){i:Nat}(hi:i<xs.length):∃ neg A n c,w.cell? ⟨g,i*2,none⟩=some (.bool neg)/\w.cell? ⟨g,i*2+1,none⟩=some (.slice A n c)/\Wd w neg A n c (xs[i]?.getD 0):=by
 obtain⟨es,h1,h2,rfl⟩:=h;have hl:i<es.length:=by simpa using hi
 have he:=Qu hl;have hc:=Zjs he;have hm:=h2 es[i] (QR hl);refine⟨es[i].neg,es[i].A,es[i].n,es[i].c,by rw[h1.cell];exact hc.1,by rw[h1.cell];exact hc.2,?_⟩;rw[QP,he];exact WE.wd hm.1 hm.2
theorem POwn.set_(h:POwn t w g xs){i:Nat}(hi:i<xs.length){neg:Bool}{A:Option Addr}{n c:Nat}{z:Int}(hz:Wd w neg A n c z) :
    POwn t ((w.setCell ⟨g,i*2,none⟩ (.bool neg)).setCell ⟨g,i*2+1,none⟩ (.slice A n c)) g (xs.set i z):=by
 obtain⟨es,h1,h2,rfl⟩:=h;have hl:i<es.length:=by simpa using hi
 have f:Blk (w.setCell ⟨g,i*2,none⟩ (.bool neg)) g t ((Zbx es).setIfInBounds (i*2) (.bool neg)):=h1.set_ _ _;have o:=f.set_ (i*2+1) (.slice A n c);have hs:=Zt8 (es:=es) (i:=i) ⟨neg,A,n,c,digits z.natAbs⟩ hl;dsimp only at hs;rw[hs]at o;have keep:∀ (A':Option Addr) (n' c':Nat) (l:List Nat),Lim w A' n' c' l->Lim ((w.setCell ⟨g,i*2,none⟩ (.bool neg)).setCell ⟨g,i*2+1,none⟩ (.slice A n c)) A' n' c' l:=λ_ _ _ _ h=>(h.set_box h1 (Zdq es) _ _).set_box f (Zhh _ _ _) _ _;refine⟨_,o,λe he=>?_,?_⟩
 ·rcases QG he with he|rfl
  exact⟨keep _ _ _ _ (h2 e he).1,(h2 e he).2⟩;exact⟨keep _ _ _ _ hz.2.2,hz.ok⟩
 rw[List.map_set];congr 1;exact hz.sgEq
end
def Zcv:WE:=⟨false,none,0,0,[]⟩
theorem Zlr(n:Nat):Zal (Qg n Zcv)=(madeCells #[.bool false,.slice none 0 0] (n*2)).toList:=by
 apply QO;intro i
 have hm:(madeCells #[.bool false,.slice none 0 0] (n*2)).toList[i]?=if i<n*2 then some ((#[Value.bool false,Value.slice none 0 0])[i%2]!)else none:=by
  unfold madeCells;by_cases h:i<n*2;simp[h];simp[h]
 rw[hm];by_cases h:i<n*2
 ·rw[Gx h]
  have he:(Qg n Zcv)[i/2]?=some Zcv:=by rw[QI,Gx Gk]
  have hc:=Znr he;rcases Nat.mod_two_eq_zero_or_one i with h2|h2;rw[show i/2*2=i by omega]at hc;rw[hc.1,h2];rfl;rw[show i/2*2+1=i by omega]at hc;rw[hc.2,h2];rfl
 rw[Gw h];exact Qz (by rw[Zbg];simp;omega)
theorem makeW{P:Program}(t e:TypeId){i:TypeInfo}(ht:P.underlying t=some (.slice e))(hi:P.info? e=some i)(hz:i.zero=some (.agg #[.bool false,.slice none 0 0]))(hs:i.size=2)(hb:i.bytes=32)
    (x:Int) (n:Nat) (hx:x=n) (hn:n<=1000000000000) (W:World) :
    (Instr.makeSlice t (.int .i64 x) (.int .i64 x)).run P W=.ok (.slice (some ⟨W.heap.size,0,none⟩) n n) (W.alloc (.cells (Zbx (Qg n Zcv)) e)):=by
 subst hx;have hr:=run_make (P:=P) W t e i _ ht hi hz .i64 .i64 n n Gk Gk (by rw[hb];omega) Gk;simp only[Int.toNat_natCast]at hr;rw[hr]
 have:madeCells (Value.agg #[.bool false,.slice none 0 0]).cells (n*i.size)=Zbx (Qg n Zcv):=by
  rw[hs];apply Array.toList_inj.1;unfold Zbx;rw[Zlr];rfl
 rw[this]
theorem POwn.new(t:TypeId)(w:World)(n:Nat):POwn t (w.alloc (.cells (Zbx (Qg n Zcv)) t)) w.heap.size (Qg n 0):=
 ⟨Qg n Zcv,Blk.new _ _ _,λe he=>by rw[(List.mem_replicate.1 he).2];exact⟨Lim.nil _ _ _ (Nat.zero_le _),rfl⟩,by simp[Zcv,WE.num,sg,val]⟩
structure Kept (G:Nat->Prop) (w w':World):Prop where
 os:w'.os=w.os
 tape:w'.tape=w.tape
 output:w'.output=w.output
 size:w.heap.size<=w'.heap.size
 block:∀ k,k<w.heap.size->¬ G k->w'.heap[k]?=w.heap[k]?
section
variable{G:Nat->Prop}{w w' w'':World}
theorem Kept.refl(G:Nat->Prop)(w:World):Kept G w w:=⟨rfl,rfl,rfl,Qy _,λ_ _ _=>rfl⟩
theorem Kept.trans(h:Kept G w w')(k:Kept G w' w''):Kept G w w'':=
 ⟨k.os.trans h.os,k.tape.trans h.tape,k.output.trans h.output,Qj h.size k.size,λi hi hg=>(k.block i (QE hi h.size) hg).trans (h.block i hi hg)⟩
theorem Kept.of_below(h:Below w.heap.size w w'):Kept G w w':=⟨h.os,h.tape,h.output,h.size,λk hk _=>h.block k hk⟩
theorem Kept.below(h:Kept G w w')(k:Below w'.heap.size w' w''):Kept G w w'':=h.trans (Kept.of_below k)
theorem Kept.drewN(h:Kept G w w')(n:Nat):Kept G w (w'.drewN n):=⟨h.os,h.tape,h.output,h.size,h.block⟩
theorem Kept.set_(h:Kept G w w'){p:Addr}(hp:G p.block \/ w.heap.size<=p.block)(u:Value):Kept G w (w'.setCell p u):=
 ⟨h.os,h.tape,h.output,by simp[World.setCell];exact h.size,λk hk hg=>(Below.heap_setCell w' p u k (by rcases hp with hp|hp;exact λe=>hg (e▸hp);omega)).trans (h.block k hk hg)⟩
theorem Kept.blk(h:Kept G w w'){g:Nat}{t:TypeId}{cs:Array Value}(hb:Blk w g t cs)(hg:¬ G g):Blk w' g t cs:=(h.block g hb.lt hg).trans hb
theorem Kept.to_below{B:Nat}(h:Kept G w w')(hG:∀ k,G k->B<=k)(hB:B<=w.heap.size):Below B w w':=
 ⟨h.os,h.tape,h.output,h.size,λk hk=>h.block k (QE hk hB) (λhg=>by have:=hG k hg;omega)⟩
theorem Kept.mono{G':Nat->Prop}(h:Kept G w w')(hG:∀ k,k<w.heap.size->G k->G' k):Kept G' w w':=⟨h.os,h.tape,h.output,h.size,λk hk hg=>h.block k hk (λh=>hg (hG k hk h))⟩
theorem Kept.lim(h:Kept G w w'){A:Option Addr}{n c:Nat}{l:List Nat}(hl:Lim w A n c l)(hG:∀ k,G k->∃ t cs,Blk w k t cs/\NoLimb cs):Lim w' A n c l:=
 ⟨hl.1,hl.2.1,hl.2.2.1,hl.2.2.2.1,λhn=>by
  obtain⟨b,o,e,hc⟩:=hl.2.2.2.2 hn;refine⟨b,o,e,λk hk=>?_⟩;have h0:=hc k hk;refine(QK (w:=w) (h.block b (Zp h0) (λhg=>?_))).trans h0;obtain⟨t,cs,h1,h2⟩:=hG b hg;have h3:=h0;rw[h1.cell]at h3;exact h2 _ _ h3⟩
theorem Kept.wd(h:Kept G w w'){neg:Bool}{A:Option Addr}{n c:Nat}{z:Int}(hl:Wd w neg A n c z)(hG:∀ k,G k->∃ t cs,Blk w k t cs/\NoLimb cs):Wd w' neg A n c z:=⟨hl.1,hl.2.1,h.lim hl.2.2 hG⟩
end
section
variable{t:TypeId}{w:World}{g:Nat}{xs zs:List Int}
theorem POwn.box(h:POwn t w g xs):∃ t cs,Blk w g t cs/\NoLimb cs:=by
 obtain⟨es,h1,-,-⟩:=h;exact⟨t,_,h1,Zdq es⟩
theorem POwn.other{t':TypeId}{g':Nat}{ys:List Int}(h:POwn t w g xs)(h':POwn t' w g' ys)(hne:g≠g')(i:Nat)(b:Bool)(A:Option Addr)(n c:Nat) :
    POwn t ((w.setCell ⟨g',i*2,none⟩ (.bool b)).setCell ⟨g',i*2+1,none⟩ (.slice A n c)) g xs:=by
 obtain⟨es,h1,h2,h3⟩:=h;obtain⟨fs,k1,-,-⟩:=h';refine⟨es,(h1.far hne _).far hne _,λe he=>⟨?_,(h2 e he).2⟩,h3⟩;exact((h2 e he).1.set_box k1 (Zdq fs) _ _).set_box (k1.set_ (i*2) (.bool b)) (Zhh _ _ _) _ _
end
theorem Zu4{es:List FE}{i:Nat}(e:FE)(h:i<es.length):((((Zr es).set (i*4) (.bool e.na)).set (i*4+1) (.slice e.A e.n e.c)).set (i*4+2) (.bool e.nb)).set (i*4+3) (.slice e.B e.m e.d)=Zr (es.set i e):=by
 induction es generalizing i with
 | nil=>simp at h
 | cons a l ih =>
  cases i with
  | zero=>rfl
  | succ i =>
   have:=ih (i:=i) (by simpa using h);rw[show (i+1)*4=i*4+1+1+1+1 by omega];simp only[Zr,QL,this]
theorem Zho{es:List FE}{i:Nat}(e:FE)(h:i<es.length):((((Z0 es).setIfInBounds (i*4) (.bool e.na)).setIfInBounds (i*4+1) (.slice e.A e.n e.c)).setIfInBounds (i*4+2) (.bool e.nb)).setIfInBounds (i*4+3) (.slice e.B e.m e.d)=Z0 (es.set i e):=by
 unfold Z0;rw[<- Zu4 e h];simp
theorem Zgm{cs:Array Value}(h:NoLimb cs)(i:Nat){v:Value}(hv:∀ x,v≠limb x):NoLimb (cs.setIfInBounds i v):=λj x=>by
 rw[Qq]
 split
 ·split
  simpa using hv x;simp
 exact h j x
def Zgg(w:World)(g i:Nat)(na:Bool)(A:Option Addr)(n c:Nat)(nb:Bool)(B:Option Addr)(m d:Nat):World:=
 (((w.setCell ⟨g,i*4,none⟩ (.bool na)).setCell ⟨g,i*4+1,none⟩ (.slice A n c)).setCell ⟨g,i*4+2,none⟩ (.bool nb)).setCell ⟨g,i*4+3,none⟩ (.slice B m d)
section
variable{w:World}{g i:Nat}{na:Bool}{A:Option Addr}{n c:Nat}{nb:Bool}{B:Option Addr}{m d:Nat}
theorem Zgh{A':Option Addr}{n' c':Nat}{l:List Nat}{t:TypeId}{cs:Array Value}(h:Lim w A' n' c' l)(hb:Blk w g t cs)(hcs:NoLimb cs):Lim (Zgg w g i na A n c nb B m d) A' n' c' l:=by
 have h1:=hb.set_ (i*4) (.bool na);have l1:=Zgm hcs (i*4) (v:=.bool na) (λx=>by simp);have h2:=h1.set_ (i*4+1) (.slice A n c);have l2:=Zgm l1 (i*4+1) (v:=.slice A n c) (λx=>by simp);have h3:=h2.set_ (i*4+2) (.bool nb);have l3:=Zgm l2 (i*4+2) (v:=.bool nb) (λx=>by simp);exact(((h.set_box hb hcs _ _).set_box h1 l1 _ _).set_box h2 l2 _ _).set_box h3 l3 _ _
theorem Zin{na':Bool}{A':Option Addr}{n' c':Nat}{nb':Bool}{B':Option Addr}{m' d':Nat}{r:Rat}{t:TypeId}{cs:Array Value}(h:Fr w na' A' n' c' nb' B' m' d' r)(hb:Blk w g t cs)(hcs:NoLimb cs):Fr (Zgg w g i na A n c nb B m d) na' A' n' c' nb' B' m' d' r:=
 ⟨⟨h.1.1,h.1.2.1,Zgh h.1.2.2 hb hcs⟩,⟨h.2.1,h.2.2.1,Zgh h.2.2.2 hb hcs⟩⟩
theorem Zj9{g':Nat}{t:TypeId}{cs:Array Value}(h:Blk w g' t cs)(hg:g'≠g):Blk (Zgg w g i na A n c nb B m d) g' t cs:=(((h.far hg _).far hg _).far hg _).far hg _
theorem Zpt{G:Nat->Prop}{w0:World}(h:Kept G w0 w)(hg:G g \/ w0.heap.size<=g):Kept G w0 (Zgg w g i na A n c nb B m d):=
 (((h.set_ (p:=⟨g,i*4,none⟩) hg _).set_ (p:=⟨g,i*4+1,none⟩) hg _).set_ (p:=⟨g,i*4+2,none⟩) hg _).set_ (p:=⟨g,i*4+3,none⟩) hg _
theorem Zjj{b:Nat}{w0:World}(h:Below b w0 w)(hg:b<=g):Below b w0 (Zgg w g i na A n c nb B m d):=
 (((h.setCell (p:=⟨g,i*4,none⟩) hg _).setCell (p:=⟨g,i*4+1,none⟩) hg _).setCell (p:=⟨g,i*4+2,none⟩) hg _).setCell (p:=⟨g,i*4+3,none⟩) hg _
end
def FRaw(t:TypeId)(w:World)(g n:Nat):Prop:=∃ es:List FE,Blk w g t (Z0 es)/\n<=es.length
def FOwn(t:TypeId)(w:World)(g:Nat)(qs:List Rat):Prop:=∃ es zs:List FE,Blk w g t (Z0 (es++zs))/\(∀ e ∈ es,e.in_ w)/\es.map FE.q=qs
section
variable{t:TypeId}{w w':World}{g:Nat}{qs:List Rat}
theorem FRaw.lt{n:Nat}(h:FRaw t w g n):g<w.heap.size:=by obtain⟨es,h1,h2⟩:=h;exact h1.lt
theorem FRaw.box{n:Nat}(h:FRaw t w g n):∃ t cs,Blk w g t cs/\NoLimb cs:=by obtain⟨es,h1,h2⟩:=h;exact⟨t,_,h1,Zcd es⟩
theorem FRaw.cells{n i:Nat}(h:FRaw t w g n)(hi:i<n):∃ na A k c nb B m d,w.cell? ⟨g,i*4,none⟩=some (.bool na)/\w.cell? ⟨g,i*4+1,none⟩=some (.slice A k c)/\w.cell? ⟨g,i*4+2,none⟩=some (.bool nb)/\w.cell? ⟨g,i*4+3,none⟩=some (.slice B m d):=by
 obtain⟨es,h1,hn⟩:=h;have hc:=Zd4 (Qu (show i<es.length by omega));exact⟨_,_,_,_,_,_,_,_,by rw[h1.cell];exact hc.1,by rw[h1.cell];exact hc.2.1,by rw[h1.cell];exact hc.2.2.1,by rw[h1.cell];exact hc.2.2.2⟩
theorem FRaw.frozen{n:Nat}(h:FRaw t w g n)(i:Nat):w.frozen? ⟨g,i,none⟩=false:=by obtain⟨es,h1,-⟩:=h;exact h1.frozen i
theorem FOwn.raw(h:FOwn t w g qs):FRaw t w g qs.length:=by obtain⟨es,zs,h1,h2,rfl⟩:=h;exact⟨es++zs,h1,by simp⟩
theorem FOwn.below(h:FOwn t w g qs)(hb:Below w.heap.size w w'):FOwn t w' g qs:=by
 obtain⟨es,zs,h1,h2,h3⟩:=h;exact⟨es,zs,Ze hb h1,λe he=>(h2 e he).below hb,h3⟩
theorem FOwn.lt(h:FOwn t w g qs):g<w.heap.size:=h.raw.lt
theorem FOwn.box(h:FOwn t w g qs):∃ t cs,Blk w g t cs/\NoLimb cs:=h.raw.box
theorem FOwn.frozen(h:FOwn t w g qs)(i:Nat):w.frozen? ⟨g,i,none⟩=false:=h.raw.frozen i
theorem FOwn.at_(h:FOwn t w g qs){i:Nat}(hi:i<qs.length):∃ na A k c nb B m d,w.cell? ⟨g,i*4,none⟩=some (.bool na)/\w.cell? ⟨g,i*4+1,none⟩=some (.slice A k c)/\w.cell? ⟨g,i*4+2,none⟩=some (.bool nb)/\w.cell? ⟨g,i*4+3,none⟩=some (.slice B m d)/\Fr w na A k c nb B m d (qs[i]?.getD 0):=by
 obtain⟨es,zs,h1,h2,rfl⟩:=h;have hl:i<es.length:=by simpa using hi
 have he:=Qu hl;have hc:=Zd4 (es:=es++zs) (i:=i) (e:=es[i]) (by rw[Qt hl];exact he);refine⟨_,_,_,_,_,_,_,_,by rw[h1.cell];exact hc.1,by rw[h1.cell];exact hc.2.1,by rw[h1.cell];exact hc.2.2.1,by rw[h1.cell];exact hc.2.2.2,?_⟩;rw[QP,he];exact h2 _ (QR hl)
theorem FOwn.set_(h:FOwn t w g qs){i:Nat}(hi:i<qs.length){na:Bool}{A:Option Addr}{k c:Nat}{nb:Bool}{B:Option Addr}{m d:Nat}{r:Rat}(hr:Fr w na A k c nb B m d r):FOwn t (Zgg w g i na A k c nb B m d) g (qs.set i r):=by
 obtain⟨es,zs,h1,h2,rfl⟩:=h;have hl:i<es.length:=by simpa using hi
 have h3:=(((h1.set_ (i*4) (.bool na)).set_ (i*4+1) (.slice A k c)).set_ (i*4+2) (.bool nb)).set_ (i*4+3) (.slice B m d);have hs:=Zho (es:=es++zs) (i:=i) ⟨na,A,k,c,nb,B,m,d,r⟩ (by rw[Qn];omega);dsimp only at hs;rw[hs,List.set_append_left _ _ hl]at h3;refine⟨_,zs,h3,λe he=>?_,by rw[List.map_set]⟩;rcases QG he with he|rfl;exact Zin (h2 e he) h1 (Zcd _);exact Zin hr h1 (Zcd _)
theorem FOwn.other{g' i:Nat}{na:Bool}{A:Option Addr}{k c:Nat}{nb:Bool}{B:Option Addr}{m d:Nat}(h:FOwn t w g qs)(hne:g≠g')(hb:∃ t cs,Blk w g' t cs/\NoLimb cs):FOwn t (Zgg w g' i na A k c nb B m d) g qs:=by
 obtain⟨es,zs,h1,h2,h3⟩:=h;obtain⟨t',cs,hb,f⟩:=hb;exact⟨es,zs,Zj9 h1 hne,λe he=>Zin (h2 e he) hb f,h3⟩
theorem FOwn.fl(h:FOwn t w g qs){c:Nat}(hc:qs.length<=c)(hm:c<=maxLen):FL w (some ⟨g,0,none⟩) qs.length c qs:=by
 obtain⟨es,zs,h1,h2,rfl⟩:=h;rw[Qo]at hc ⊢;refine⟨es,rfl,hc,hm,h2,rfl,λ_=>⟨g,0,rfl,λk e he=>?_⟩⟩;have hk:k<es.length:=(List.getElem?_eq_some_iff.1 he).1;have hc:=Zd4 (es:=es++zs) (i:=k) (e:=e) (by rw[Qt hk];exact he);simp only[QB,h1.cell];exact hc
theorem OwnF.fown{base:Nat}{v:Value}(h:OwnF t w base v qs):(v=.slice none 0 0/\qs=[]) \/ ∃ g c,v=.slice (some ⟨g,0,none⟩) qs.length c/\base<=g/\qs.length<=c/\c<=maxLen/\FOwn t w g qs:=by
 obtain⟨es,h1,h2,rfl⟩:=h;rcases h1 with ⟨rfl,rfl⟩|⟨g,sp,rfl,h4,h5,h6⟩;exact .inl ⟨rfl,rfl⟩;exact .inr ⟨g,_,by rw[Qo],h4,by rw[Qo];omega,h5,es,Qg sp Zat,h6,h2,rfl⟩
end
theorem Z1f{t:Array Value}{d:Nat}{u:Value}(h:t[d]?=some u):t.setIfInBounds d u=t:=by
 apply Array.ext;simp;intro i h1 h2;rw[Array.getElem_setIfInBounds (by simpa using h1)]
 split
 ·rename_i e
  subst e;rw[Qf h2]at h;injection h with h
  exact h.symm
 rfl
section
variable{P:Program}{ops:Array Oper}{Q:Exit->Act->World->Prop}{md:Region.Mode}{L:List Nat}{S:World->Prop}{f1 f2 d1 d2 F:Nat}{t1 t2:TypeId}{z1 z2:Array Value}
theorem Zn{i:Nat}{o:Oper}{K:Act->World->Prop}{a:Act}{w:World}(ho:ops[i]?=some o)
    (h:∀ K':Act->World->Prop,Shut (∀ a w,K a w->K' a w)->if Region.wanted o (yielded ops a.tmps)=true then Oper.wp P o a w K' Q else K' (a.put o.dst undef) w):wpOp P ops Q i K a w:=
 wpOp_step ho (λK' hK=>h K' hK)
end
def Zbj(md:Region.Mode)(ops:Array Oper)(i:Nat):List Nat:=match ops[i]? with|some o=>(o.after.toList.filter (λe=>Region.binds md e)).map (·.on)|none=>[]
def Zbp(ops:Array Oper)(i:Nat):Nat:=match ops[i]? with|some o=>o.dst.getD 0|none=>0
def Zbw(R:List Nat)(l:Array Bool):Array Bool:=R.foldl (λl i=>l.setIfInBounds i true) l
def clo(md:Region.Mode)(ops:Array Oper):List Nat->List Nat->List Nat
 | [],c=>c
 | r::rs,c=>clo md ops rs (if c.contains r then Zbj md ops r++c else c)
def Zce:List Nat->Bool
 | []=>true
 | x::l=>!l.contains x && Zce l
def Zaj:List Nat->Act->(Nat->Value)->Act
 | [],a,_=>a
 | d::ds,a,ν=>Zaj ds (a.put (some d) (ν d)) ν
def upd(ν:Nat->Value)(d:Nat)(v:Value):Nat->Value:=λk=>if k=d then v else ν k
theorem Zzr{a:Act}{d e:Nat}{u v:Value}(h:d≠e):(a.put (some d) u).put (some e) v=(a.put (some e) v).put (some d) u:=by
 simp only[Qh];rw[Qv _ _ h]
theorem Zw7{ds:List Nat}{a:Act}{ν:Nat->Value}{d:Nat}{v:Value}(h:d ∉ ds):Zaj ds (a.put (some d) v) ν=(Zaj ds a ν).put (some d) v:=by
 induction ds generalizing a with
 | nil=>rfl
 | cons e ds ih =>
  have h1:d≠e:=λh'=>h (h'▸Qc ..);show Zaj ds ((a.put (some d) v).put (some e) (ν e)) ν=_;rw[Zzr h1,ih (λh'=>h (Qa _ h'))];rfl
theorem Zof{ds:List Nat}{a:Act}{ν:Nat->Value}{d:Nat}{v:Value}(h:d ∉ ds):Zaj ds a (upd ν d v)=Zaj ds a ν:=by
 induction ds generalizing a with
 | nil=>rfl
 | cons e ds ih =>
  have h1:e≠d:=λh'=>h (h'▸Qc ..);show Zaj ds (a.put (some e) (upd ν d v e)) (upd ν d v)=Zaj ds (a.put (some e) (ν e)) ν;rw[ih (λh'=>h (Qa _ h'))];simp only[upd,Gw h1]
theorem put_put{a:Act}{d:Nat}{u v:Value}:(a.put (some d) u).put (some d) v=a.put (some d) v:=by
 simp only[Qh];rw[Array.setIfInBounds_setIfInBounds]
theorem Zb9{x:Nat}{l:List Nat}(h:Zce (x::l)=true):x ∉ l/\Zce l=true:=by
 simp only[Zce,Qe,Qk]at h;exact⟨λhx=>by rw[List.contains_iff_mem.2 hx]at h;exact absurd h.1 Gh,h.2⟩
theorem Zlm{ds:List Nat}{a:Act}{ν:Nat->Value}{d:Nat}{v:Value}(h:d ∈ ds)(hn:Zce ds=true):(Zaj ds a ν).put (some d) v=Zaj ds a (upd ν d v):=by
 induction ds generalizing a with
 | nil=>cases h
 | cons e ds ih =>
  obtain⟨h1,h2⟩:=Zb9 hn;show (Zaj ds (a.put (some e) (ν e)) ν).put (some d) v=Zaj ds (a.put (some e) (upd ν d v e)) (upd ν d v);by_cases hd:d=e
  ·subst hd
   rw[<- Zw7 h1,put_put,Zof h1];simp only[upd,if_true]
  rcases List.mem_cons.1 h with h'|h';exact absurd h' hd;rw[ih h' h2];simp only[upd,Gw (QA hd)]
theorem Ztx{ds:List Nat}{a:Act}:Zaj ds a (λd=>a.tmps.getD d undef)=a:=by
 induction ds with
 | nil=>rfl
 | cons d ds ih =>
  show Zaj ds (a.put (some d) (a.tmps.getD d undef)) _=a
  have:a.put (some d) (a.tmps.getD d undef)=a:=by
   cases a with
   | mk t df =>
    simp only[Qh];congr 1;rcases QH d t.size with h|h;exact Z1f (by rw[Qb,Qf h];rfl);exact Array.setIfInBounds_eq_of_size_le h
  rw[this];exact ih
theorem Zcl(R:List Nat)(l:Array Bool)(k:Nat):(Zbw R l).getD k true=if k ∈ R then true else l.getD k true:=by
 unfold Zbw
 induction R generalizing l with
 | nil=>simp
 | cons r R ih =>
  rw[QU,ih];by_cases h1:k ∈ R;rw[Gx h1,Gx (Qa _ h1)];rw[Gw h1];by_cases h2:k=r
  ·subst h2
   rw[Gx (Qc ..)];rw[Qb,Qq]
   split
   ·split <;> rfl
   rename_i h;exact absurd rfl h
  rw[Gw (λh=>by rcases List.mem_cons.1 h with h|h;exact h2 h;exact h1 h),Go.getD_set_ne true (QA h2)]
theorem Zgz(R:List Nat)(l:Array Bool):(Zbw R l).size=l.size:=by
 unfold Zbw
 induction R generalizing l with
 | nil=>rfl
 | cons r R ih=>rw[QU,ih];simp
theorem Zua{l m:Array Bool}(hs:l.size=m.size)(h:∀ k,l.getD k true=m.getD k true):l=m:=by
 apply Array.ext hs;intro i h1 h2;have:=h i;rw[Qb,Qb,Qf h1,Qf h2]at this;exact this
section
variable{P:Program}{ops:Array Oper}{Q:Exit->Act->World->Prop}{md:Region.Mode}{L:List Nat}{S:World->Prop}
theorem Ztr{l:Array Bool}{R:List Nat}(hd:∀ r ∈ R,l.getD r false=true->∀ p ∈ Zbj md ops r,l.getD p false=true) :
    ∀ (rs:List Nat) (c:List Nat),(∀ r ∈ rs,r ∈ R)->(∀ x ∈ c,l.getD x false=true)->∀ x ∈ clo md ops rs c,l.getD x false=true
 | [],c,_,hc,x,hx=>hc x hx
 | r::rs,c,hr,hc,x,hx=>by
  refine Ztr hd rs _ (λy hy=>hr y (Qa _ hy)) (λy hy=>?_) x hx
  split at hy
  ·rename_i h1
   rcases List.mem_append.1 hy with h2|h2;exact hd r (hr r (Qc ..)) (hc r (List.contains_iff_mem.1 h1)) y h2;exact hc y h2
  exact hc y hy
theorem Ze0{l:Array Bool}{k:Nat}(h:l.getD k false=true):l.getD k true=true:=by
 rw[Qb]at h ⊢;cases hk:l[k]? with
 | none=>rfl
 | some b=>rw[hk]at h;exact h
theorem Za3{l:Array Bool}{k j:Nat}(h:l.getD k false=true):(l.setIfInBounds j true).getD k false=true:=by
 by_cases hkj:j=k
 ·subst hkj
  rw[Qb,Qm];rw[Qb]at h
  split
  rfl;rename_i h1;rw[Qp Gk]at h;cases h
 rw[Go.getD_set_ne false hkj];exact h
theorem Zmz{i:Nat}{l:Array Bool}(h:i ∈ Region.ready md ops l):l.getD i true=false/\i<ops.size/\∀ p ∈ Zbj md ops i,l.getD p false=true:=by
 obtain⟨h1,o,ho,h2⟩:=mem_ready.1 h;refine⟨h1,(Array.getElem?_eq_some_iff.1 ho).1,λp hp=>?_⟩;unfold Zbj at hp;rw[ho]at hp;obtain⟨e,he,rfl⟩:=List.mem_map.1 hp;rw[QV]at he;exact h2 e (by simpa using he.1) he.2
theorem Zh0{i:Nat}{l:Array Bool}(h1:l.getD i true=false){o:Oper}(ho:ops[i]?=some o)(h:∀ p ∈ Zbj md ops i,l.getD p false=true):i ∈ Region.ready md ops l:=by
 refine mem_ready.2 ⟨h1,o,ho,λe he hb=>h _ ?_⟩;unfold Zbj;rw[ho];exact List.mem_map.2 ⟨e,List.mem_filter.2 ⟨by simpa using he,hb⟩,rfl⟩
def left(R:List Nat)(l:Array Bool):Nat:=(R.filter λr=>!l.getD r true).length
theorem Zm0{f:Nat->Nat}:∀ {R:List Nat},Zce (R.map f)=true->Zce R=true
 | [],_=>rfl
 | r::R,h=>by
  obtain⟨h1,h2⟩:=Zb9 (x:=f r) (l:=R.map f) h;simp only[Zce,Qe,Qk];refine⟨?_,Zm0 h2⟩;cases hc:R.contains r with
  | false=>rfl
  | true=>exact absurd (List.mem_map.2 ⟨r,List.contains_iff_mem.1 hc,rfl⟩) h1
theorem Zf5{f:Nat->Nat}:∀ {R:List Nat},Zce (R.map f)=true->∀ {r i:Nat},r ∈ R->i ∈ R->r≠i->f r≠f i
 | [],_,_,_,h,_,_=>by cases h
 | x::R,h,r,i,hr,hi,hne=>by
  obtain⟨h1,h2⟩:=Zb9 (x:=f x) (l:=R.map f) h;rcases List.mem_cons.1 hr with u|u
  ·rcases List.mem_cons.1 hi with o|o
   exact absurd (u.trans o.symm) hne;exact λe=>h1 (List.mem_map.2 ⟨i,o,by rw[<- e,u]⟩)
  rcases List.mem_cons.1 hi with o|o;exact λe=>h1 (List.mem_map.2 ⟨r,u,by rw[e,o]⟩);exact Zf5 h2 u o hne
theorem Zxf{R:List Nat}{l:Array Bool}{i:Nat}(hi:i ∉ R):left R (l.setIfInBounds i true)=left R l:=by
 unfold left;congr 1;apply List.filter_congr;intro r hr;rw[Go.getD_set_ne true (λe:i=r=>hi (e▸hr))]
theorem Zmt{R:List Nat}{l:Array Bool}{i:Nat}(hn:Zce R=true)(hi:i ∈ R)(h:l.getD i true=false):left R (l.setIfInBounds i true)+1=left R l:=by
 have f:i<l.size:=by
  rcases QH i l.size with h'|h';exact h';rw[Qb,Qp h']at h;cases h
 have e:(l.setIfInBounds i true).getD i true=true:=by
  rw[Qb,Qm,Gx f];rfl
 induction R with
 | nil=>cases hi
 | cons r R ih =>
  obtain⟨n1,n2⟩:=Zb9 hn;by_cases hr:i=r
  ·subst hr
   have:=Zxf (l:=l) n1;unfold left at this ⊢;rw[Qw (by simp[e]),Qx (by simp[h]),this];rfl
  have o:i ∈ R:=by
    rcases List.mem_cons.1 hi with h'|h';exact absurd h' hr;exact h'
  have:=ih n2 o;unfold left at this ⊢;by_cases hb:l.getD r true=true;rw[Qw (by rw[Go.getD_set_ne true hr];simp[hb]),Qw (by simp[hb])];exact this;rw[Qx (by rw[Go.getD_set_ne true hr];simpa using hb),Qx (by simpa using hb),Qr,Qr,this]
theorem Ztc(R:List (Nat × Nat))(h:R.all (λp=>Zbp ops p.1 == p.2)=true):(R.map (·.1)).map (Zbp ops)=R.map (·.2):=by
 rw[List.map_map];apply List.map_congr_left;intro p hp;rw[Qi]at h;simpa using h p hp
end
section
variable{P:Program}{ops:Array Oper}{Q:Exit->Act->World->Prop}{md:Region.Mode}{L:List Nat}{S:World->Prop}
theorem Zkv{i:Nat}{oi:Oper}{v:Value}(hi:ops[i]?=some oi)(hsel:∀ (j:Nat) (o:Oper) cs b,ops[j]?=some o->o.op ≠ .select cs b)
    (hQ:∀ c a w,Q (.panic c) (a.put oi.dst v) w->Q (.panic c) a w) (hiL:L.contains i=false) :
    ∀ (fuel:Nat) (listed:Array Bool) (a:Act) (w:World),
     (∀ j oj,ops[j]?=some oj->j≠i->listed.getD j true=false->(∀ e ∈ oj.after,Region.binds md e=true->e.on≠i)->oi.apart ops oj=true) ->
     i ∈ Region.ready md ops listed->YieldsIf P ops (λ_=>True) oi v a->(Zc0 L listed=true->S w) ->
     Zab P md ops Q L S fuel (listed.setIfInBounds i true) (a.put oi.dst v) w->Zab P md ops Q L S (fuel+1) listed a w:=by
 have f:i ∉ L:=λh=>by
  rw[List.contains_iff_mem.2 h]at hiL;cases hiL
 intro fuel
 induction fuel with
 | zero =>
  intro listed a w _ hr hy hS H;refine⟨λh=>(by rw[h]at hr;cases hr),λj hj=>?_⟩;by_cases hji:j=i;subst hji;exact hy.wpOp hi trivial ⟨λh=>hS (by rwa [Zdj f]at h),H⟩;have:=ready_mono hj hji;rw[H.1]at this;cases this
 | succ fuel ih =>
  intro listed a w bM hr hy hS H;refine⟨λh=>(by rw[h]at hr;cases hr),λj hj=>?_⟩;by_cases hji:j=i;subst hji;exact hy.wpOp hi trivial ⟨λh=>hS (by rwa [Zdj f]at h),H⟩;have h1:=H.2 j (ready_mono hj hji);obtain⟨dh,oj,y,aw⟩:=mem_ready.1 hj
  have I:∀ e ∈ oj.after,Region.binds md e=true->e.on≠i:=λe he hb heq=>by
   exact FN
  have h2:=wpOp_putIf y (bM j oj y hji dh I) (λcs b=>hsel i oi cs b hi) (λcs b=>hsel j oj cs b y) hQ hy h1
  have u:∀ k ok,ops[k]?=some ok->k≠i->(listed.setIfInBounds j true).getD k true=false ->
      (∀ e ∈ ok.after,Region.binds md e=true->e.on≠i)->oi.apart ops ok=true:=λk ok hk hki hun hno=>by
   exact Id
  refine wpOp_mono (λa' w' h3=>?_) h2
  have C:Zc0 L (listed.setIfInBounds j true)=true->S w':=λh=>h3.2.1 (by
   rw[Qv _ _ (QA hji),Zdj f];exact h)
  refine⟨C,ih (listed.setIfInBounds j true) a' w' u (ready_mono hr (QA hji)) h3.1 C ?_⟩;rw[Qv _ _ hji];exact h3.2.2
theorem Zl{i:Nat}{oi:Oper}{v:Value}{fuel:Nat}{listed:Array Bool}{a:Act}{w:World}(hi:ops[i]?=some oi)
    (hs:Region.noSelect ops=true) (hf:Region.free md ops listed i=true) (hr:(Region.ready md ops listed).contains i=true) (hL:L.contains i=false)
    (hy:YieldsIf P ops (λ_=>True) oi v a) (hS:Zc0 L listed=true->S w)
    (h:Zab P md ops (OnlyNormal Q) L S fuel (listed.setIfInBounds i true) (a.put oi.dst v) w):Zab P md ops (OnlyNormal Q) L S (fuel+1) listed a w:=
 Zkv hi (Region.noSelect_spec hs) (λ_ _ _ h=>(h:False).elim) hL fuel listed a w (Region.free_spec hi hf) (by simpa using hr) hy hS h
end
def Zg2(md:Region.Mode)(ops:Array Oper)(L:List Nat):List Nat->Array Bool->Bool
 | [],_=>true
 | i::is,l=>Region.free md ops l i && (Region.ready md ops l).contains i && !L.contains i && Zg2 md ops L is (l.setIfInBounds i true)
section
variable{P:Program}{ops:Array Oper}{Q:Exit->Act->World->Prop}{md:Region.Mode}{L:List Nat}{S:World->Prop}
theorem Zf7(hs:Region.noSelect ops=true){w:World}(hS:S w):∀ (is:List Nat) (F:Nat) (listed:Array Bool) (a:Act),Zg2 md ops L is listed=true->Zcz P ops (λ_=>True) is a (λa'=>Zab P md ops (OnlyNormal Q) L S F (Zd6 is listed) a' w)->Zab P md ops (OnlyNormal Q) L S (F+is.length) listed a w
 | [],F,l,a,_,h=>h
 | i::is,F,l,a,hc,h=>by
  obtain⟨oi,v,ho,hy,h2⟩:=h;simp only[Zg2,Qe,Qk]at hc;exact Zl ho hs hc.1.1.1 hc.1.1.2 hc.1.2 hy (λ_=>hS) (Zf7 hs hS is F _ _ hc.2 h2)
theorem Zgo{F:Nat}{listed:Array Bool}{a:Act}{w:World}(k:Nat)(is:List Nat)(hk:is.length=k)(hc:(Region.noSelect ops && Zg2 md ops L is listed)=true)(hS:S w)
    (h:Zcz P ops (λ_=>True) is a (λa'=>Zab P md ops (OnlyNormal Q) L S F (Zd6 is listed) a' w)):Zab P md ops (OnlyNormal Q) L S (F+k) listed a w:=by
 rw[Qe]at hc;subst hk;exact Zf7 hc.1 hS is F listed a hc.2 h
end
def Zbn(R:List Nat)(att:Nat->List Nat):List Nat:=R.flatMap λi=>i::att i
def Ziy(md:Region.Mode)(ops:Array Oper)(l:Array Bool)(i:Nat):List Nat->List Nat->Bool
 | [],_=>true
 | u::us,done=>(match ops[u]? with|some o=>o.dst.isSome|none=>false) && (Zbj md ops u).contains i && !l.getD u true && (Zbj md ops u).all (λp=>p == i || done.contains p || l.getD p false || (Zbj md ops i).contains p) &&
     ((List.range ops.size).all λj=>j == u || (j == i || done.contains j || l.getD j false || (Zbj md ops i).contains j) || (Zbj md ops j).contains u || (match ops[u]?,ops[j]? with|some ou,some oj=>ou.apart ops oj|_,_=>true)) && Ziy md ops l i us (u::done)
def Zv8(md:Region.Mode)(ops:Array Oper)(att:Nat->List Nat):List Nat->Array Bool->Bool
 | [],_=>true
 | r::rs,l=>!l.getD r true && (match ops[r]? with|some o=>o.dst.isSome|none=>false) && (Zbj md ops r).all (λp=>l.getD p false) && Zv8 md ops att rs (Zbw (r::att r) l)
def Z0s(md:Region.Mode)(ops:Array Oper)(R F:List Nat)(l:Array Bool):Bool:=
 (List.range ops.size).all λk=>F.contains k || l.getD k true || (Zbj md ops k).any (λp=>!F.contains p && !l.getD p false) || (R.all λr=>(clo md ops F.reverse (Zbj md ops k)).contains r)
def Zmp(md:Region.Mode)(ops:Array Oper)(R:List Nat)(att:Nat->List Nat)(l:Array Bool):Bool:=
 Zv8 md ops att R l && Z0s md ops R (Zbn R att) l && Zce ((Zbn R att).map (Zbp ops)) && decide (l.size=ops.size) && R.all (λi=>Ziy md ops l i (att i) []) && Region.noSelect ops
section
variable{P:Program}{ops:Array Oper}{Q:Exit->Act->World->Prop}{md:Region.Mode}{L:List Nat}{S:World->Prop}
def Zsk(P:Program)(ops:Array Oper)(Φ:Nat->Value->World->Prop)(w:World):List Nat->Act->Prop
 | [],_=>True
 | u::us,a=>∃ o v,ops[u]?=some o/\YieldsIf P ops (λ_=>True) o v a/\Φ u v w/\Zsk P ops Φ w us (a.put o.dst v)
theorem Zhs{l:Array Bool}{i:Nat}(h:i<l.size):(l.setIfInBounds i true).getD i false=true:=by
 rw[Qb,Qm,Gx h];rfl
theorem Zch{us:List Nat}{l:Array Bool}{k:Nat}(h:l.getD k false=true):(Zbw us l).getD k false=true:=by
 induction us generalizing l with
 | nil=>exact h
 | cons u us ih=>exact ih (l:=l.setIfInBounds u true) (Za3 h)
theorem Znm{us:List Nat}{l:Array Bool}{k:Nat}(hk:k ∈ us)(h:k<l.size):(Zbw us l).getD k false=true:=by
 induction us generalizing l with
 | nil=>cases hk
 | cons u us ih =>
  rcases List.mem_cons.1 hk with rfl|hk;exact Zch (us:=us) (Zhs h);exact ih (l:=l.setIfInBounds u true) hk (by simp;exact h)
theorem Zut{Φ:Nat->Value->World->Prop}{l0:Array Bool}{i:Nat}{R:List Nat}{a0:Act}{w:World}{F:Nat}(hns:Region.noSelect ops=true)(hnd:Zce (R.map (Zbp ops))=true)(hiR:i ∈ R) :
    ∀ (us done:List Nat) (l:Array Bool) (ν:Nat->Value),Ziy md ops l0 i us done=true->(∀ u ∈ us,u ∈ R)->(∀ u ∈ us,u ∉ L)->(∀ u ∈ us,l.getD u true=false)->l.size=ops.size->Zce us=true ->
     (∀ p,l0.getD p false=true->l.getD p false=true)->l.getD i false=true->(∀ p ∈ Zbj md ops i,l.getD p false=true)->(∀ u ∈ done,l.getD u false=true)->S w ->
     Zsk P ops Φ w us (Zaj (R.map (Zbp ops)) a0 ν) ->
     (∀ ν',(∀ k,(∀ u ∈ us,Zbp ops u≠k)->ν' k=ν k)->(∀ u ∈ us,Φ u (ν' (Zbp ops u)) w)->Zab P md ops (OnlyNormal Q) L S F (Zbw us l) (Zaj (R.map (Zbp ops)) a0 ν') w) ->
     Zab P md ops (OnlyNormal Q) L S (us.length+F) l (Zaj (R.map (Zbp ops)) a0 ν) w:=by
 intro us
 induction us with
 | nil =>
  intro done l ν _ _ _ _ _ _ _ _ _ _ _ _ h;rw[show ([]:List Nat).length+F=F by simp];exact h ν (λ_ _=>rfl) (λu hu=>by cases hu)
 | cons u us ih =>
  intro done l ν hat hR hL hun hsz hndu hl0 hi hp hdone hS htr h;simp only[Ziy,Qe,Qi]at hat;obtain⟨⟨⟨⟨⟨h1,h2⟩,h3⟩,h4⟩,h5⟩,h6⟩:=hat;obtain⟨o,v,ho,hy,hΦ,C⟩:=htr;obtain⟨n1,n2⟩:=Zb9 hndu;have U:u<ops.size:=(Array.getElem?_eq_some_iff.1 ho).1;have T:=hun u (Qc ..)
  have f:u ∈ Region.ready md ops l:=Zh0 T ho (λp hp2=>by
   have h7:=h4 p hp2;simp only[QC,beq_iff_eq]at h7;rcases h7 with ((h7|h7)|h7)|h7;rw[h7];exact hi;exact hdone p (List.contains_iff_mem.1 h7);exact hl0 p h7;exact hp p (List.contains_iff_mem.1 h7))
  have I:o.dst=some (Zbp ops u):=by
   rw[ho]at h1;obtain⟨d,hd⟩:=Option.isSome_iff_exists.1 h1;unfold Zbp;rw[ho];simp only[hd,QS]
  have J:Zbp ops u ∈ R.map (Zbp ops):=List.mem_map.2 ⟨u,hR u (Qc ..),rfl⟩;rw[Qr,QM]
  refine Zkv ho (Region.noSelect_spec hns) (λ_ _ _ h=>(h:False).elim) (by
   cases hc:L.contains u with
   | false=>rfl
   | true=>exact absurd (List.contains_iff_mem.1 hc) (hL u (Qc ..))) _ l _ w (λj oj hoj hju hjl hnw=>?_) f hy (λ_=>hS) ?_
  ·have h7:=h5 j (List.mem_range.2 (Array.getElem?_eq_some_iff.1 hoj).1)
   simp only[QC,beq_iff_eq]at h7;rcases h7 with ((h7|h7)|h7)|h7;exact absurd h7 hju
   ·exfalso
    have h8:l.getD j false=true:=by
     rcases h7 with ((h7|h7)|h7)|h7;rw[h7];exact hi;exact hdone j (List.contains_iff_mem.1 h7);exact hl0 j h7;exact hp j (List.contains_iff_mem.1 h7)
    rw[Ze0 h8]at hjl;cases hjl
   ·exfalso
    have h8:=List.contains_iff_mem.1 h7;unfold Zbj at h8;rw[hoj]at h8;obtain⟨e,he,O⟩:=List.mem_map.1 h8;rw[QV]at he;exact hnw e (by simpa using he.1) he.2 O
   rw[ho,hoj]at h7;exact h7
  rw[I,Zlm J hnd];refine ih (u::done) (l.setIfInBounds u true) (upd ν (Zbp ops u) v) h6 (λx hx=>hR x (Qa _ hx)) (λx hx=>hL x (Qa _ hx)) (λx hx=>?_) (by simp;exact hsz) n2 (λp hp2=>Za3 (hl0 p hp2)) (Za3 hi) (λp hp2=>Za3 (hp p hp2)) (λx hx=>?_) hS ?_ (λν' k1 k2=>?_)
  ·rw[Go.getD_set_ne true (λe:u=x=>n1 (e▸hx))]
   exact hun x (Qa _ hx)
  ·rcases List.mem_cons.1 hx with rfl|hx
   exact Zhs Gk;exact Za3 (hdone x hx)
  ·rw[I,Zlm J hnd]at C
   exact C
  refine h ν' (λk hk=>?_) (λx hx=>?_)
  ·rw[k1 k (λx hx=>hk x (Qa _ hx))]
   simp only[upd,Gw (QA (hk u (Qc ..)))]
  rcases List.mem_cons.1 hx with rfl|hx
  ·have h9:∀ y ∈ us,Zbp ops y≠Zbp ops x:=λy hy=>Zf5 hnd (hR y (Qa _ hy)) (hR x (Qc ..)) (λe=>n1 (e▸hy))
   rw[k1 _ h9];simp only[upd,if_true];exact hΦ
  exact k2 x hx
theorem Znu{us:List Nat}{l:Array Bool}{k:Nat}(h:(Zbw us l).getD k false=true):k ∈ us \/ l.getD k false=true:=by
 induction us generalizing l with
 | nil=>exact .inr h
 | cons u us ih =>
  rcases ih (l:=l.setIfInBounds u true) h with h1|h1;exact .inl (Qa _ h1);by_cases hk:u=k;exact .inl (hk▸Qc ..);rw[Go.getD_set_ne false hk]at h1;exact .inr h1
theorem Zhq{us:List Nat}{l:Array Bool}{k:Nat}(h:(Zbw us l).getD k true=false):l.getD k true=false:=by
 rw[Zcl]at h
 split at h
 cases h;exact h
theorem Zjv{att:Nat->List Nat}:∀ (R:List Nat) (l0:Array Bool),Zv8 md ops att R l0=true->(∀ r ∈ R,l0.getD r true=false/\∃ o d,ops[r]?=some o/\o.dst=some d) /\
      ∀ l:Array Bool,l.size=l0.size->(∀ k,l0.getD k false=true->l.getD k false=true)->(∀ r ∈ R,l.getD r true=true->∀ u ∈ att r,l.getD u false=true)->(∃ r ∈ R,l.getD r true=false)->∃ r ∈ R,l.getD r true=false/\∀ p ∈ Zbj md ops r,l.getD p false=true
 | [],_,_=>⟨λr hr=>(by cases hr),λl _ _ _ ⟨r,hr,_⟩=>(by cases hr)⟩
 | r::R,l0,h=>by
  simp only[Zv8,Qe,Qk,Qi]at h;obtain⟨⟨⟨h1,h2⟩,h3⟩,h4⟩:=h;obtain⟨k1,k2⟩:=Zjv R _ h4;refine⟨λx hx=>?_,λl hsz hl hat hu=>?_⟩
  ·rcases List.mem_cons.1 hx with rfl|hx
   ·refine⟨h1,?_⟩
    cases ho:ops[x]? with
    | none=>rw[ho]at h2;cases h2
    | some o =>
     rw[ho]at h2;obtain⟨d,hd⟩:=Option.isSome_iff_exists.1 h2;exact⟨o,d,rfl,hd⟩
   obtain⟨m1,m2⟩:=k1 x hx;exact⟨Zhq m1,m2⟩
  by_cases hr:l.getD r true=false;exact⟨r,Qc ..,hr,λp hp=>hl p (h3 p hp)⟩;have e:l.getD r true=true:=by simpa using hr
  have O:r<l0.size:=by
   rcases QH r l0.size with h'|h';exact h';rw[Qb,Qp h']at h1;cases h1
  have I:r<l.size:=Gk
  have J:l.getD r false=true:=by
   rw[Qb,Qf I]at e ⊢;exact e
  obtain⟨x,hx,C⟩:=k2 l (by rw[Zgz];exact hsz) (λk hk=>by
   rcases Znu hk with h5|h5
   ·rcases List.mem_cons.1 h5 with rfl|h5
    exact J;exact hat r (Qc ..) e k h5
   ·exact hl k h5) (λy hy=>hat y (Qa _ hy)) (by
   obtain⟨y,hy,f⟩:=hu;rcases List.mem_cons.1 hy with rfl|hy;exact absurd f hr;exact⟨y,hy,f⟩)
  exact⟨x,Qa _ hx,C⟩
theorem Zqc{R:List Nat}(hn:Zce R=true):∀ (us:List Nat) (l:Array Bool),Zce us=true->(∀ u ∈ us,u ∈ R)->(∀ u ∈ us,l.getD u true=false)->left R (Zbw us l)+us.length=left R l:=by
 intro us
 induction us with
 | nil=>intro l _ _ _;rfl
 | cons u us ih =>
  intro l h1 h2 h3;obtain⟨n1,n2⟩:=Zb9 h1;have h4:=Zmt hn (h2 u (Qc ..)) (h3 u (Qc ..))
  have h5:=ih (l.setIfInBounds u true) n2 (λx hx=>h2 x (Qa _ hx)) (λx hx=>by
   rw[Go.getD_set_ne true (λe:u=x=>n1 (e▸hx))];exact h3 x (Qa _ hx))
  show left R (Zbw us (l.setIfInBounds u true))+(us.length+1)=_;omega
theorem Zez:∀ {a b:List Nat},Zce (a++b)=true->Zce b=true
 | [],_,h=>h
 | _::a,_,h=>Zez (a:=a) (Zb9 h).2
theorem Zfc:∀ {a b:List Nat},Zce (a++b)=true->Zce a=true
 | [],_,_=>rfl
 | x::a,b,h=>by
  obtain⟨h1,h2⟩:=Zb9 (x:=x) (l:=a++b) h;simp only[Zce,Qe,Qk];refine⟨?_,Zfc h2⟩;cases hc:a.contains x with
  | false=>rfl
  | true=>exact absurd (List.mem_append_left _ (List.contains_iff_mem.1 hc)) h1
theorem Zly:∀ {a b:List Nat},Zce (a++b)=true->∀ x,x ∈ a->x ∉ b
 | [],_,_,x,hx=>by cases hx
 | y::a,b,h,x,hx=>by
  obtain⟨h1,h2⟩:=Zb9 (x:=y) (l:=a++b) h;rcases List.mem_cons.1 hx with e|e;intro hb;exact h1 (List.mem_append_right _ (e▸hb));exact Zly h2 x e
theorem Ztb{att:Nat->List Nat}:∀ {R:List Nat},Zce (Zbn R att)=true->∀ r ∈ R,Zce (r::att r)=true/\∀ r' ∈ R,r'≠r->∀ x ∈ r::att r,x ∉ r'::att r'
 | [],_,r,hr=>by cases hr
 | y::R,h,r,hr=>by
  have e:Zbn (y::R) att=(y::att y)++Zbn R att:=rfl;rw[e]at h;have h1:=Zfc h;have h2:=Zez h;have h3:=Zly h;have f:∀ z ∈ R,∀ x ∈ z::att z,x ∈ Zbn R att:=λz hz x hx=>List.mem_flatMap.2 ⟨z,hz,hx⟩;by_cases hry:r=y
  ·subst hry
   refine⟨h1,λr' hr' hne x hx hx2=>?_⟩;rcases List.mem_cons.1 hr' with h4|h4;exact hne h4;exact h3 x hx (f r' h4 x hx2)
  have o:r ∈ R:=by
    rcases List.mem_cons.1 hr with h4|h4;exact absurd h4 hry;exact h4
  obtain⟨k1,k2⟩:=Ztb h2 r o;refine⟨k1,λr' hr' hne x hx hx2=>?_⟩;by_cases hr'y:r'=y
  ·subst hr'y
   exact h3 x hx2 (f r o x hx)
  rcases List.mem_cons.1 hr' with h4|h4;exact hr'y h4;exact k2 r' h4 hne x hx hx2
theorem Z00(R:List Nat)(att:Nat->List Nat)(D:List Nat)(hDR:∀ i ∈ D,i ∈ R)(Φ:Nat->Value->World->Prop){l0:Array Bool}{a0:Act}{w0:World}(hok:Zmp md ops R att l0=true)(hL:∀ u ∈ Zbn R att,u ∉ L)
    (hst:∀ i ∈ Zbn R att,∀ v w w',Below w.heap.size w w'->Φ i v w->Φ i v w') (hS:∀ w',Below w0.heap.size w0 w'->S w') {F:Nat}
    (hop:∀ i ∈ R,∀ (ν:Nat->Value) (w:World),Below w0.heap.size w0 w->(∀ j ∈ Zbn R att,j ∈ Zbj md ops i->Φ j (ν (Zbp ops j)) w) ->
     wpOp P ops (OnlyNormal Q) i (λa' w'=>∃ v,a'=(Zaj ((Zbn R att).map (Zbp ops)) a0 ν).put (some (Zbp ops i)) v/\Φ i v w'/\Below w.heap.size w w'/\Zsk P ops Φ w' (att i) a'/\(i ∈ D->∀ j ∈ D,∀ u,Φ j u w->v≠u)) (Zaj ((Zbn R att).map (Zbp ops)) a0 ν) w)
    (hfin:∀ (ν:Nat->Value) (w:World),Below w0.heap.size w0 w->(∀ i ∈ Zbn R att,Φ i (ν (Zbp ops i)) w)->(∀ i ∈ D,∀ j ∈ D,i≠j->ν (Zbp ops i)≠ν (Zbp ops j))->Zab P md ops (OnlyNormal Q) L S F (Zbw (Zbn R att) l0) (Zaj ((Zbn R att).map (Zbp ops)) a0 ν) w) :
    ∀ (n:Nat) (l:Array Bool) (ν:Nat->Value) (w:World),n=left (Zbn R att) l->l.size=l0.size->(∀ k,k ∉ Zbn R att->l.getD k true=l0.getD k true)->(∀ k,l0.getD k false=true->l.getD k false=true) ->
     (∀ r ∈ Zbn R att,l.getD r false=true->∀ p ∈ Zbj md ops r,l.getD p false=true) ->
     (∀ r ∈ R,∀ u ∈ att r,(l.getD r true=true->l.getD u false=true)/\(l.getD r true=false->l.getD u true=false))->Below w0.heap.size w0 w->(∀ r ∈ Zbn R att,l.getD r true=true->Φ r (ν (Zbp ops r)) w)->(∀ i ∈ D,∀ j ∈ D,i≠j->l.getD i true=true->l.getD j true=true->ν (Zbp ops i)≠ν (Zbp ops j)) ->
     Zab P md ops (OnlyNormal Q) L S (n+F) l (Zaj ((Zbn R att).map (Zbp ops)) a0 ν) w:=by
 simp only[Zmp,Qe,decide_eq_true_eq]at hok;obtain⟨⟨⟨⟨⟨c5,b3⟩,a4⟩,d3⟩,a1⟩,d0⟩:=hok;rw[Qi]at a1;obtain⟨t1,t2⟩:=Zjv R l0 c5;have a2:=Zm0 a4;have I:∀ r ∈ R,r ∈ Zbn R att:=λr hr=>List.mem_flatMap.2 ⟨r,hr,Qc ..⟩;have f:∀ r ∈ R,∀ u ∈ att r,u ∈ Zbn R att:=λr hr u hu=>List.mem_flatMap.2 ⟨r,hr,Qa _ hu⟩
 have a6:∀ r ∈ R,∀ u ∈ att r,r ∈ Zbj md ops u/\(∃ o,ops[u]?=some o):=λr hr=>by
  have:∀ (us done:List Nat),Ziy md ops l0 r us done=true->∀ u ∈ us,r ∈ Zbj md ops u/\(∃ o,ops[u]?=some o):=by
   intro us
   induction us with
   | nil=>intro _ _ u hu;cases hu
   | cons x us ih =>
    intro done h u hu;simp only[Ziy,Qe]at h;rcases List.mem_cons.1 hu with rfl|hu
    ·refine⟨List.contains_iff_mem.1 h.1.1.1.1.2,?_⟩
     cases ho:ops[u]? with
     | none=>have:=h.1.1.1.1.1;rw[ho]at this;cases this
     | some o=>exact⟨o,rfl⟩
    exact ih _ h.2 u hu
  exact this (att r) [] (a1 r hr)
 intro n
 induction n using Nat.strongRecOn with
 | _ n ih =>
  intro l ν w hn hsz hK hM hD hA hb hΦ hNE
  have V:∀ r ∈ Zbn R att,r<l.size:=λx hx=>by
   obtain⟨r,hr,U⟩:=List.mem_flatMap.1 hx;rcases List.mem_cons.1 U with rfl|U
   ·obtain⟨-,o,d,ho,-⟩:=t1 x hr
    have:=(Array.getElem?_eq_some_iff.1 ho).1;omega
   obtain⟨-,o,ho⟩:=a6 r hr x U;have:=(Array.getElem?_eq_some_iff.1 ho).1;omega
  have d4:∀ k,k<l.size->l.getD k true=true->l.getD k false=true:=λk hk h=>by
   rw[Qb,Qf hk]at h ⊢;exact h
  by_cases hex:∃ r ∈ R,l.getD r true=false
  ·obtain⟨r,hr,b5,c3⟩:=t2 l hsz hM (λr hr h u hu=>(hA r hr u hu).1 h) hex
   obtain⟨-,o,d,ho,-⟩:=t1 r hr;have a3:=Zh0 (md:=md) b5 ho c3
   obtain⟨m,rfl⟩:∃ m,n=m+1:=by
    have:=Zmt a2 (I r hr) b5;exact⟨left (Zbn R att) (l.setIfInBounds r true),by omega⟩
   rw[QM];refine⟨λh0=>(by rw[h0]at a3;cases a3),λi hi=>?_⟩;obtain⟨a7,c6,Y⟩:=Zmz hi
   have T:i ∈ Zbn R att:=by
    apply Classical.byContradiction;intro b9;unfold Z0s at b3;rw[Qi]at b3;have h1:=b3 i (List.mem_range.2 c6);simp only[QC,List.any_eq_true,Qi,Qe,Qk]at h1;rcases h1 with ((h1|h1)|⟨p,hp,h2,h3⟩)|h1;exact b9 (List.contains_iff_mem.1 h1);rw[hK i b9,h1]at a7;cases a7
    ·have c8:p ∉ Zbn R att:=λh=>by rw[List.contains_iff_mem.2 h]at h2;cases h2
     have h4:=Y p hp;have h5:=Ze0 h4;rw[hK p c8]at h5
     have d7:p<l.size:=by
      rcases QH p l.size with h'|h';exact h';rw[Qb,Qp h']at h4;cases h4
     rw[Qb,Qf Gk]at h5 h3;simp only[QS]at h5 h3;rw[h5]at h3;cases h3
    have h2:=Ztr (md:=md) (ops:=ops) (l:=l) (R:=Zbn R att) hD (Zbn R att).reverse (Zbj md ops i) (λr hr=>List.mem_reverse.1 hr) Y;have h3:=Ze0 (h2 r (List.contains_iff_mem.1 (h1 r hr)));rw[b5]at h3;cases h3
   have J:i ∈ R:=by
    obtain⟨r',O,hx⟩:=List.mem_flatMap.1 T;rcases List.mem_cons.1 hx with rfl|hx;exact O;exfalso;have h1:=Ze0 (Y r' (a6 r' O i hx).1);have h2:=Ze0 ((hA r' O i hx).1 h1);rw[a7]at h2;cases h2
   have c7:Zbp ops i ∈ (Zbn R att).map (Zbp ops):=List.mem_map.2 ⟨i,T,rfl⟩;obtain⟨c1,b1⟩:=Ztb a2 i J;obtain⟨ni,nus⟩:=Zb9 c1;refine wpOp_mono (λa' w' h=>?_) (hop i J ν w hb λj hj hp=>hΦ j hj (Ze0 (Y j hp)));obtain⟨v,rfl,hv,c2,b8,b7⟩:=h;have b6:=Gs hb c2;refine⟨λ_=>hS _ b6,?_⟩;rw[Zlm c7 a4]at b8 ⊢;have a9:(l.setIfInBounds i true).getD i false=true:=Zhs (V i T)
   have b2:∀ u ∈ att i,(l.setIfInBounds i true).getD u true=false:=λu hu=>by
    rw[Go.getD_set_ne true (λe:i=u=>ni (e▸hu))];exact(hA i J u hu).2 a7
   have d5:=Zmt a2 T a7;have d6:=Zqc a2 (att i) (l.setIfInBounds i true) nus (f i J) b2;have hm:m=(att i).length+left (Zbn R att) (Zbw (att i) (l.setIfInBounds i true)):=Gk;rw[hm,Nat.add_assoc];refine Zut (R:=Zbn R att) d0 a4 T (att i) [] (l.setIfInBounds i true) _ (a1 i J) (f i J) (λu hu=>hL u (f i J u hu)) b2 Gg nus (λp hp=>Za3 (hM p hp)) a9 (λp hp=>Za3 (Y p hp)) (λu hu=>by cases hu) (hS _ b6) b8 (λν' k1 k2=>?_)
   have hνi:ν' (Zbp ops i)=v:=by
    rw[k1 _ (λu hu=>Zf5 a4 (f i J u hu) T (λe=>ni (e▸hu)))];simp only[upd,if_true]
   have hνo:∀ x ∈ Zbn R att,x≠i->x ∉ att i->ν' (Zbp ops x)=ν (Zbp ops x):=λx hx h1 h2=>by
    rw[k1 _ (λu hu=>Zf5 a4 (f i J u hu) hx (λe=>h2 (e▸hu)))];simp only[upd,Gw (Zf5 a4 hx T h1)]
   refine ih _ Gk (Zbw (att i) (l.setIfInBounds i true)) ν' w' rfl (by rw[Zgz];simp;exact hsz) (λk hk=>?_) (λk hk=>Zch (Za3 (hM k hk))) (λx hx hxt p hp=>?_) (λr' O u hu=>?_) b6 (λx hx hxt=>?_) (λa ha b hb' hab hat hbt=>?_)
   ·rw[Zcl,Gw (λh=>hk (f i J k h)),Go.getD_set_ne true (λe:i=k=>hk (e▸T))]
    exact hK k hk
   ·rcases Znu hxt with h1|h1
    ·-- an operation of the train
     have h2:∀ (us done:List Nat),Ziy md ops l0 i us done=true->(∀ u ∈ done,(Zbw (att i) (l.setIfInBounds i true)).getD u false=true)->(∀ u ∈ us,u ∈ att i)->∀ u ∈ us,∀ p ∈ Zbj md ops u,(Zbw (att i) (l.setIfInBounds i true)).getD p false=true:=by
      intro us
      induction us with
      | nil=>intro _ _ _ _ u hu;cases hu
      | cons y us ihu =>
       intro done h hd C u hu p hp;simp only[Ziy,Qe,Qi]at h;rcases List.mem_cons.1 hu with rfl|hu
       ·have h7:=h.1.1.2 p hp
        simp only[QC,beq_iff_eq]at h7;rcases h7 with ((h7|h7)|h7)|h7;rw[h7];exact Zch a9;exact hd p (List.contains_iff_mem.1 h7);exact Zch (Za3 (hM p h7));exact Zch (Za3 (Y p (List.contains_iff_mem.1 h7)))
       refine ihu (y::done) h.2 (λz hz=>?_) (λz hz=>C z (Qa _ hz)) u hu p hp;rcases List.mem_cons.1 hz with rfl|hz;exact Znm (C z (Qc ..)) (by simp;exact V z (f i J z (C z (Qc ..))));exact hd z hz
     exact h2 (att i) [] (a1 i J) (λu hu=>by cases hu) (λu hu=>hu) x h1 p hp
    by_cases hxi:i=x;subst hxi;exact Zch (Za3 (Y p hp));rw[Go.getD_set_ne false hxi]at h1;exact Zch (Za3 (hD x hx h1 p hp))
   ·by_cases hri:r'=i
    ·subst hri
     refine⟨λ_=>Znm hu (by simp;exact V u (f r' O u hu)),λh=>?_⟩;have h1:=Zhq h;rw[Ze0 a9]at h1;cases h1
    have b4:=b1 r' O hri;have c9:u ∉ att i:=λh=>b4 u (Qa _ h) (Qa _ hu);have c4:i≠u:=λh=>b4 i (Qc ..) (h▸Qa _ hu);have b0:r' ∉ att i:=λh=>b4 r' (Qa _ h) (Qc ..);refine⟨λh=>?_,λh=>?_⟩
    ·rw[Zcl,Gw b0,Go.getD_set_ne true (QA hri)]at h
     exact Zch (Za3 ((hA r' O u hu).1 h))
    rw[Zcl,Gw b0,Go.getD_set_ne true (QA hri)]at h;rw[Zcl,Gw c9,Go.getD_set_ne true c4];exact(hA r' O u hu).2 h
   ·by_cases hxi:x=i
    subst hxi;rw[hνi];exact hv;by_cases hxa:x ∈ att i;exact k2 x hxa;rw[hνo x hx hxi hxa];rw[Zcl,Gw hxa,Go.getD_set_ne true (QA hxi)]at hxt;exact hst x hx _ _ _ c2 (hΦ x hx hxt)
   have c0:∀ x ∈ D,x ∉ att i:=λx hx h=>by
     by_cases hxi:x=i;exact ni (hxi▸h);exact b1 x (hDR x hx) hxi x (Qa _ h) (Qc ..)
   have a8:∀ x ∈ D,x≠i->(Zbw (att i) (l.setIfInBounds i true)).getD x true=true->ν' (Zbp ops x)=ν (Zbp ops x)/\l.getD x true=true:=λx hx hxi h=>by
    rw[Zcl,Gw (c0 x hx),Go.getD_set_ne true (QA hxi)]at h;exact⟨hνo x (I x (hDR x hx)) hxi (c0 x hx),h⟩
   by_cases hai:a=i
   ·have a5:b≠i:=λh=>hab (hai.trans h.symm)
    obtain⟨e1,e2⟩:=a8 b hb' a5 hbt;rw[hai,hνi,e1];exact b7 (hai▸ha) b hb' _ (hΦ b (I b (hDR b hb')) e2)
   obtain⟨e1,e2⟩:=a8 a ha hai hat;by_cases a5:b=i
   ·rw[a5,hνi,e1]
    exact λh=>b7 (a5▸hb') a ha _ (hΦ a (I a (hDR a ha)) e2) h.symm
   obtain⟨e3,e4⟩:=a8 b hb' a5 hbt;rw[e1,e3];exact hNE a ha b hb' hab e2 e4
  have C:∀ x ∈ Zbn R att,l.getD x true=true:=λx hx=>by
    obtain⟨r,hr,U⟩:=List.mem_flatMap.1 hx
    have h1:l.getD r true=true:=by
     cases h:l.getD r true with
     | true=>rfl
     | false=>exact absurd ⟨r,hr,h⟩ hex
    rcases List.mem_cons.1 U with rfl|U;exact h1;exact Ze0 ((hA r hr x U).1 h1)
  have h0:left (Zbn R att) l=0:=by
   unfold left;rw[List.length_eq_zero_iff,List.filter_eq_nil_iff];intro r hr;rw[C r hr];simp
  have:l=Zbw (Zbn R att) l0:=by
   refine Zua (by rw[Zgz];exact hsz) λk=>?_;rw[Zcl];by_cases hk:k ∈ Zbn R att;rw[Gx hk];exact C k hk;rw[Gw hk];exact hK k hk
  subst this;rw[hn,h0,QB];exact hfin ν w hb (λi hi=>hΦ i hi (C i hi)) (λi hi j hj hij=>hNE i hi j hj hij (C i (I i (hDR i hi))) (C j (I j (hDR j hj))))
theorem Zlt(DP:List (Nat × Nat))(RP:List (Nat × Nat))(att:Nat->List Nat)(FP:List (Nat × Nat))(Φ:Nat->Value->World->Prop)(F:Nat){l0:Array Bool}{a0:Act}{w0:World}
    (hok:(Zmp md ops (RP.map (·.1)) att l0 && (Zbn (RP.map (·.1)) att == FP.map (·.1)) && FP.all (λp=>Zbp ops p.1 == p.2) && RP.all (λp=>Zbp ops p.1 == p.2) && FP.all (λp=>!L.contains p.1) && DP.all (λp=>RP.contains p))=true)
    (hst:∀ p ∈ FP,∀ v w w',Below w.heap.size w w'->Φ p.1 v w->Φ p.1 v w') (hS:∀ w',Below w0.heap.size w0 w'->S w')
    (hop:∀ p ∈ RP,∀ (ν:Nat->Value) (w:World),Below w0.heap.size w0 w->(∀ q ∈ FP,(Zbj md ops p.1).contains q.1=true->Φ q.1 (ν q.2) w) ->
     wpOp P ops (OnlyNormal Q) p.1 (λa' w'=>∃ v,a'=(Zaj (FP.map (·.2)) a0 ν).put (some p.2) v/\Φ p.1 v w'/\Below w.heap.size w w'/\Zsk P ops Φ w' (att p.1) a'/\(p ∈ DP->∀ q ∈ DP,∀ u,Φ q.1 u w->v≠u)) (Zaj (FP.map (·.2)) a0 ν) w)
    (hfin:∀ (ν:Nat->Value) (w:World),Below w0.heap.size w0 w->(∀ p ∈ FP,Φ p.1 (ν p.2) w)->(∀ p ∈ DP,∀ q ∈ DP,p≠q->ν p.2≠ν q.2)->Zab P md ops (OnlyNormal Q) L S F (Zbw (FP.map (·.1)) l0) (Zaj (FP.map (·.2)) a0 ν) w) :
    Zab P md ops (OnlyNormal Q) L S (FP.length+F) l0 a0 w0:=by
 simp only[Qe,beq_iff_eq]at hok;obtain⟨⟨⟨⟨⟨h1,h2⟩,h3⟩,h4⟩,h5⟩,h6⟩:=hok;rw[Qi]at h6;have hD:=Ztc (ops:=ops) FP h3;rw[<- h2]at hD;rw[Qi]at h3 h4 h5
 have I:∀ i,i ∈ Zbn (RP.map (·.1)) att->∃ p ∈ FP,p.1=i:=λi hi=>by
  rw[h2]at hi;exact List.mem_map.1 hi
 have V:=h1;simp only[Zmp,Qe,decide_eq_true_eq]at h1;obtain⟨⟨⟨⟨⟨Y,-⟩,a3⟩,a2⟩,C⟩,-⟩:=h1;obtain⟨t1,-⟩:=Zjv _ l0 Y
 have f:∀ i ∈ Zbn (RP.map (·.1)) att,l0.getD i true=false:=λx hx=>by
  obtain⟨r,hr,J⟩:=List.mem_flatMap.1 hx;rcases List.mem_cons.1 J with rfl|J;exact(t1 x hr).1;rw[Qi]at C
  have:∀ (us done:List Nat),Ziy md ops l0 r us done=true->∀ u ∈ us,l0.getD u true=false:=by
   intro us
   induction us with
   | nil=>intro _ _ u hu;cases hu
   | cons y us ih =>
    intro done h u hu;simp only[Ziy,Qe,Qk]at h;rcases List.mem_cons.1 hu with rfl|hu;exact h.1.1.1.2;exact ih _ h.2 u hu
  exact this _ _ (C r hr) x J
 have U:left (Zbn (RP.map (·.1)) att) l0=FP.length:=by
  unfold left;rw[List.filter_eq_self.2 (λr hr=>by rw[f r hr];rfl),h2,Qo]
 have h:=Z00 (P:=P) (ops:=ops) (Q:=Q) (md:=md) (L:=L) (S:=S) (RP.map (·.1)) att (DP.map (·.1)) (λi hi=>by
  obtain⟨p,hp,rfl⟩:=List.mem_map.1 hi;exact List.mem_map.2 ⟨p,List.contains_iff_mem.1 (h6 p hp),rfl⟩) Φ (F:=F) (a0:=a0) (w0:=w0) V (λu hu=>by
  obtain⟨p,hp,rfl⟩:=I u hu;have:=h5 p hp;intro hc;rw[List.contains_iff_mem.2 hc]at this;cases this) (λi hi=>by
  obtain⟨p,hp,rfl⟩:=I i hi;exact hst p hp) hS (λi hi ν w hb hP=>by
  obtain⟨p,hp,rfl⟩:=List.mem_map.1 hi
  have:=hop p hp ν w hb (λq hq hc=>by
   have o:=hP q.1 (by rw[h2];exact List.mem_map.2 ⟨q,hq,rfl⟩) (List.contains_iff_mem.1 hc);have e:=h3 q hq;simp only[beq_iff_eq]at e;rw[e]at o;exact o)
  have e:=h4 p hp;simp only[beq_iff_eq]at e;rw[hD,e];refine wpOp_mono (λa' w' h=>?_) this;obtain⟨v,k1,k2,k3,k4,k5⟩:=h;refine⟨v,k1,k2,k3,k4,λhi j hj u hu=>?_⟩;obtain⟨p',T,O⟩:=List.mem_map.1 hi;obtain⟨q',a1,rfl⟩:=List.mem_map.1 hj;have e1:=h4 p' (List.contains_iff_mem.1 (h6 p' T));simp only[beq_iff_eq]at e1;have:p'=p:=Prod.ext O (by rw[<- e1,<- e,O]);exact k5 (this▸T) q' a1 u hu) (λν w hb hf hne=>by
  rw[hD,h2]
  exact hfin ν w hb (λp hp=>by
   have o:=hf p.1 (by rw[h2];exact List.mem_map.2 ⟨p,hp,rfl⟩);have e:=h3 p hp;simp only[beq_iff_eq]at e;rw[e]at o;exact o) (λp hp q hq hpq=>by
   have e1:=h4 p (List.contains_iff_mem.1 (h6 p hp));have e2:=h4 q (List.contains_iff_mem.1 (h6 q hq));simp only[beq_iff_eq]at e1 e2;have:=hne p.1 (List.mem_map.2 ⟨p,hp,rfl⟩) q.1 (List.mem_map.2 ⟨q,hq,rfl⟩) (λh=>hpq (Prod.ext h (by rw[<- e1,<- e2,h])));rw[e1,e2]at this;exact this)) FP.length l0 (λd=>a0.tmps.getD d undef) w0 U.symm rfl (λ_ _=>rfl) (λ_ h=>h)
  (λr hr h=>by have h1:=Ze0 h;rw[f r hr]at h1;cases h1)
  (λr hr u hu=>⟨λh=>(by rw[f r (List.mem_flatMap.2 ⟨r,hr,Qc ..⟩)]at h;cases h),λ_=>f u (List.mem_flatMap.2 ⟨r,hr,Qa _ hu⟩)⟩)
  (QF _ _) (λr hr h=>by rw[f r hr]at h;cases h)
  (λi hi j hj _ h _=>by
   obtain⟨p,hp,rfl⟩:=List.mem_map.1 hi;rw[f p.1 (List.mem_flatMap.2 ⟨p.1,List.mem_map.2 ⟨p,List.contains_iff_mem.1 (h6 p hp),rfl⟩,Qc ..⟩)]at h;cases h)
 rw[Ztx]at h;exact h
theorem Za5(RP:List (Nat × Nat))(att:Nat->List Nat)(FP:List (Nat × Nat))(Φ:Nat->Value->World->Prop)(F:Nat){l0:Array Bool}{a0:Act}{w0:World}
    (hok:(Zmp md ops (RP.map (·.1)) att l0 && (Zbn (RP.map (·.1)) att == FP.map (·.1)) && FP.all (λp=>Zbp ops p.1 == p.2) && RP.all (λp=>Zbp ops p.1 == p.2) && FP.all (λp=>!L.contains p.1))=true)
    (hst:∀ p ∈ FP,∀ v w w',Below w.heap.size w w'->Φ p.1 v w->Φ p.1 v w') (hS:∀ w',Below w0.heap.size w0 w'->S w')
    (hop:∀ p ∈ RP,∀ (ν:Nat->Value) (w:World),Below w0.heap.size w0 w->(∀ q ∈ FP,(Zbj md ops p.1).contains q.1=true->Φ q.1 (ν q.2) w) ->
     wpOp P ops (OnlyNormal Q) p.1 (λa' w'=>∃ v,a'=(Zaj (FP.map (·.2)) a0 ν).put (some p.2) v/\Φ p.1 v w'/\Below w.heap.size w w'/\Zsk P ops Φ w' (att p.1) a') (Zaj (FP.map (·.2)) a0 ν) w)
    (hfin:∀ (ν:Nat->Value) (w:World),Below w0.heap.size w0 w->(∀ p ∈ FP,Φ p.1 (ν p.2) w)->Zab P md ops (OnlyNormal Q) L S F (Zbw (FP.map (·.1)) l0) (Zaj (FP.map (·.2)) a0 ν) w) :
    Zab P md ops (OnlyNormal Q) L S (FP.length+F) l0 a0 w0:=
 Zlt [] RP att FP Φ F (by rw[hok];rfl) hst hS (λp hp ν w hb hP=>wpOp_mono (λa' w' h=>by
  obtain⟨v,k1,k2,k3,k4⟩:=h;exact⟨v,k1,k2,k3,k4,λh=>by cases h⟩) (hop p hp ν w hb hP)) (λν w hb hf _=>hfin ν w hb hf)
end
def Za0(B0:Nat)(q:Rat)(ca mv x0 x1 al as_:Nat)(i:Nat)(v:Value)(w:World):Prop:=
 if i=ca \/ i=mv then ∃ na A n c nb B m d,v=.tuple #[.agg #[.bool na,.slice A n c,.bool nb,.slice B m d],.int .i64 0]/\Fr w na A n c nb B m d q
 else if i=x0 then ∃ na A n c nb B m d,v=.agg #[.bool na,.slice A n c,.bool nb,.slice B m d]/\Fr w na A n c nb B m d q
 else if i=x1 \/ i=as_ then v=.int .i64 0
 else if i=al then ∃ g,v=.pointer (some ⟨g,0,none⟩)/\B0<=g/\Blk w g 41 #[.bool false,.slice none 0 0,.bool false,.slice none 0 0]
 else True
theorem FZ{G:Prop}(h:G:=by
 obtain⟨na,A,n,c,nb,B,m,d,e,hf⟩:=h;exact⟨na,A,n,c,nb,B,m,d,e,hf.below hb⟩):G:=h
theorem Zhm{B0:Nat}{q:Rat}{ca mv x0 x1 al as_ i:Nat}{v:Value}{w w':World}(hb:Below w.heap.size w w')(h:Za0 B0 q ca mv x0 x1 al as_ i v w):Za0 B0 q ca mv x0 x1 al as_ i v w':=by
 unfold Za0 at h ⊢
 split at h
 ·rename_i h1;rw[Gx h1]
  exact FZ
 rename_i h1;rw[Gw h1]
 split at h
 ·rename_i h2;rw[Gx h2]
  exact FZ
 rename_i h2;rw[Gw h2]
 split at h
 rename_i h3;rw[Gx h3];exact h;rename_i h3;rw[Gw h3]
 split at h
 ·rename_i h4;rw[Gx h4]
  obtain⟨g,e,h5,h6⟩:=h;exact⟨g,e,h5,Ze hb h6⟩
 rename_i h4;rw[Gw h4];trivial
theorem FOwn.keptG{t:TypeId}{w w':World}{g:Nat}{qs:List Rat}{G:Nat->Prop}(h:FOwn t w g qs)(hk:Kept G w w')(hg:¬ G g)(hG:∀ k,G k->∃ t cs,Blk w k t cs/\NoLimb cs):FOwn t w' g qs:=by
 obtain⟨es,zs,h1,h2,h3⟩:=h;exact⟨es,zs,hk.blk h1 hg,λe he=>⟨hk.wd (h2 e he).1 hG,hk.wd (h2 e he).2 hG⟩,h3⟩
theorem Fr.zero_iff{w:World}{na:Bool}{A:Option Addr}{n c:Nat}{nb:Bool}{B:Option Addr}{m d:Nat}{r:Rat}(h:Fr w na A n c nb B m d r):n=0 ↔ r=0:=by
 have h1:=h.1.lim.len;have h2:=length_digits_pos (v:=r.num.natAbs);constructor
 ·intro hn
  have:r.num=0:=Gk;exact Rat.num_eq_zero.1 this
 rintro rfl;have:(0:Rat).num.natAbs=0:=rfl;omega
theorem Zk9(na nb:Bool)(A B:Option Addr)(n c m d:Nat)(za zb:Int)(w:World)(ha:Wd w na A n c za)(hb:Wd w nb B m d zb) :
    Calls Tryz.prog 119 #[.agg #[.bool na,.slice A n c],.agg #[.bool nb,.slice B m d]] w (ResW w (za+zb)):=by
 have aS:=ha.lim;have aG:=hb.lim;have hn:=ha.2.1;have hm:=hb.2.1;have y:∀ X Y Z V:Obj,Below w.heap.size w ((((w.alloc X).alloc Y).alloc Z).alloc V):=λX Y Z V=>((((QF w.heap.size w).alloc (Qy _) _).alloc Gh _).alloc Gg _).alloc Gg _
 have hW:∀ X Y Z t,WL ((((w.alloc X).alloc Y).alloc Z).alloc (.cells #[.bool na,.slice A n c,.bool nb,.slice B m d] t)) (some ⟨w.heap.size+1+1+1,0,none⟩) 2 2 [⟨na,A,n,c,digits za.natAbs⟩,⟨nb,B,m,d,digits zb.natAbs⟩]:=λX Y Z t=>by
  exact Cf
 have hW:=Zd hW;have y:=Zd y;have u:Hid (okW na (digits za.natAbs)=true/\okW nb (digits zb.natAbs)=true):=⟨ha.ok,hb.ok⟩;have U:=Zd ha.sgEq;have a0:=Zd hb.sgEq;clear ha hb;go_in;go_wp2_with fail;refine(Zdo (hW.out _ _ _ _) (by have:=u.out;simp[WE.ok,this])).mono ?_;rintro e w1 ⟨rfl,ab⟩;obtain⟨f,T⟩:=Zc1 ab;have a1:w.heap.size+1+1+1<w1.heap.size:=by have:=ab.size;simp at this;omega
 have h:Below w.heap.size w w1:=(y.out _ _ _ _).trans (ab.mono Gg);have g0:w1.cell? ⟨w.heap.size,0,none⟩=some (.bool na):=by simp[f,go_sem]
 have g1:w1.cell? ⟨w.heap.size,1,none⟩=some (.slice A n c):=by simp[f,go_sem]
 have g2:w1.cell? ⟨w.heap.size+1,0,none⟩=some (.bool nb):=by simp[f,go_sem]
 have g3:w1.cell? ⟨w.heap.size+1,1,none⟩=some (.slice B m d):=by simp[f,go_sem]
 have gf:w1.frozen? ⟨w.heap.size+1,0,none⟩=false:=by simp[T,go_sem]
 have gB:Blk w1 (w.heap.size+1) 39 #[.bool nb,.slice B m d]:=by
  exact Ca
 have g7:Blk w1 (w.heap.size+1+1) 39 #[.bool false,.slice none 0 0]:=by
  refine Ze ab (Blk.alloc ?_ _);exact Ev
 have I:=aS.below h;have C:=aG.below h;have HB:=Zd gB;clear gB f T;go_wp2_with fail;refine(Zwu _ _ _ _ _ _ _ _ _ _ _ (by exact I) (by exact C) hn hm).mono ?_;rintro e w2 ⟨O,J,A2,n2,c2,o,rfl,dH⟩;have av:Below w.heap.size w w2:=Gs h O;have m7:=Ze O g7;have m3:=m7.cell 0;have m4:=m7.cell 1;have m5:=m7.frozen 0;have m6:=m7.frozen 1;simp at m3 m4;have HM:=Zd m7;clear m7;go_wp2_with fail
 have HZ:sg na za.natAbs+sg nb zb.natAbs=za+zb:=by
  have h1:=U.out;have h2:=a0.out;rw[Zk]at h1 h2;rw[h1,h2]
 refine bodyPost_ret (v:=.tuple #[.agg #[.bool J,.slice A2 n2 c2],.int .i64 o]) (by simp[results,Tryz.results119,go_sem,m3,m4]) rfl ?_;exact Ff
def NumE(w:World)(z:Int)(e:Ending)(w':World):Prop:=
 Below w.heap.size w w'/\∃ neg A n c,e=.returned (.tuple #[.agg #[.bool neg,.slice A n c],.int .i64 0])/\Wd w' neg A n c z
