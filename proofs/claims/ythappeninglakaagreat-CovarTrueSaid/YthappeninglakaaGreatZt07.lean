/- Package frac: the closure of Mul. Package frac: the -/
import Derived.Maps.AppendAt
import Derived.Test.YthappeninglakaaGreatZt06
set_option maxRecDepth 100000
set_option maxHeartbeats 2000000
set_option linter.unusedSimpArgs false
set_option linter.unusedVariables false
namespace Go.Proofs.YthappeninglakaaGreat
open Go.RowKit
open Act renaming put→Qa
open And renaming intro→Qb
open Nat renaming le_trans→Qc,add_sub_cancel'→Qh,le_refl→Qr,zero_add→Qu,gcd→Qw,zero_le→Qy,le_add_right→Qz
open List renaming eq_nil_of_length_eq_zero→Qd,getElem?_eq_getElem→Qf,mem_of_getElem?→Qg,length_append→Qi,replicate→Qk,getElem?_map→Ql,getElem_mem→Qp,length_map→Qq,getElem?_eq_none→Qs,nil_append→QA
open Rat renaming num_divInt_den→Qe,divInt→Qm
open Int renaming natAbs_natCast→Qj,natAbs→QB
open Below renaming refl→Qn
open Bool renaming and_eq_true→Qo,and_eq_false_iff→Qt,not_eq_false'→Qv
open Builtin renaming zeroCells→Qx
attribute [local go_sem] Zg
theorem ResP.code0{w:World}{z:Int}{neg:Bool}{A:Option Addr}{n c:Nat}{code:Int}(h:ResP w z neg A n c code)(hs:z.natAbs<pw 4096):code=0:=by
 rcases h with ⟨_,h,_⟩|⟨h,_⟩;exact h;omega
def Zoy(w:World)(x y:Int)(e:Ending)(w':World):Prop:=
 Below w.heap.size w w'/\∃ na A n c nb B m d,e=.returned (.tuple #[.agg #[.bool na,.slice A n c],.agg #[.bool nb,.slice B m d]])/\Wd w' na A n c x/\Wd w' nb B m d y
theorem Mul1_ok(na nb na' nb':Bool)(A B A' B':Option Addr)(n c m d n' c' m' d':Nat)(a b:Rat)(w:World)(ha:Fr w na A n c nb B m d a)(hb:Fr w na' A' n' c' nb' B' m' d' b)
    (hs:(a.num*b.num).natAbs<pw 4096) (ht:((a.den:Int)*(b.den:Nat)).natAbs<pw 4096) :
    Calls Tryz.prog 131 #[.agg #[.bool na,.slice A n c,.bool nb,.slice B m d],.agg #[.bool na',.slice A' n' c',.bool nb',.slice B' m' d']] w (Zoy w (a.num*b.num) ((a.den:Int)*(b.den:Nat))):=by
 obtain⟨W0,J,I,⟨q0,q1,q2,q3⟩,s0⟩:=Zfr w 41 #[.bool na,.slice A n c,.bool nb,.slice B m d] 41 #[.bool na',.slice A' n' c',.bool nb',.slice B' m' d'] 39 #[.bool false,.slice none 0 0] 39 #[.bool false,.slice none 0 0];have hmx:=Gt;have hA:=Za (ha.below I);have hD:=Za (hb.below I);replace hs:=Za hs;replace ht:=Za ht;have sz:=Za I.size;have hB:=Za I;clear ha hb I s0;replace q0:=Za q0;replace q1:=Za q1;replace q2:=Za q2;replace q3:=Za q3;obtain⟨a0,a1,a2,a3,-⟩:=q0.out.four;obtain⟨b0,b1,b2,b3,-⟩:=q1.out.four;replace J:=Za J;go_in;go_wp2_with fail;rw[J.out];clear J;refine Zx [17] (λW'=>W'.cell? ⟨w.heap.size,0,none⟩=some (.bool na)/\W'.cell? ⟨w.heap.size,1,none⟩=some (.slice A n c)/\W'.cell? ⟨w.heap.size,2,none⟩=some (.bool nb)/\W'.cell? ⟨w.heap.size,3,none⟩=some (.slice B m d)/\W'.cell? ⟨w.heap.size+1,0,none⟩=some (.bool na')/\W'.cell? ⟨w.heap.size+1,1,none⟩=some (.slice A' n' c')/\W'.cell? ⟨w.heap.size+1,2,none⟩=some (.bool nb')/\W'.cell? ⟨w.heap.size+1,3,none⟩=some (.slice B' m' d')) hmx ⟨a0,a1,a2,a3,b0,b1,b2,b3⟩ (λ_=>?_);refine Zj5 8 [0,1,2,3,8,9,10,11] rfl Gi ⟨a0,a1,a2,a3,b0,b1,b2,b3⟩ ?_
 iterate 8 (refine tkA ?_;try simp only[Qa,Zg7,Zgl,Zg1,Gr,Gq,Gp])
 refine tk0 ?_;refine wpAnyL_o 4 λK hK=>?_;go_simp;refine(Zjb na na' A A' n c n' c' a.num b.num W0.drew hA.out.1 hD.out.1).mono ?_;rintro e w1 ⟨h,np,P,k,q,code,rfl,hR⟩;replace h:=Zs h;have hP:=Za (hR.small hs.out);have C:=hR.code0 hs.out;subst C;clear hs hR;replace q0:=Gm h q0;replace q1:=Gm h q1;replace q2:=Gm h q2;replace q3:=Gm h q3;replace hA:=Za (hA.out.below h);replace hD:=Za (hD.out.below h);replace hB:=Za (hB.out.trans (h.mono sz.out));replace sz:=Za (Qc sz.out h.size);clear a0 a1 a2 a3 b0 b1 b2 b3;obtain⟨a0,a1,a2,a3,-⟩:=q0.out.four;obtain⟨b0,b1,b2,b3,-⟩:=q1.out.four;clear h;refine hK.out _ _ (λ_=>⟨a0,a1,a2,a3,b0,b1,b2,b3⟩) ?_;clear hK K
 try simp only[Qa,Zg7,Zgl,Zg1]
 refine Zj5 2 [5,6] rfl Gi ⟨a0,a1,a2,a3,b0,b1,b2,b3⟩ ?_
 iterate 2 (refine tkA ?_;try simp only[Qa,Zg7,Zgl,Zg1,Gr,Gq,Gp])
 refine tk0 ?_;refine wpAnyL_o 7 λK hK=>?_;go_simp;refine(Zd3 np P k q w1).mono ?_;rintro e w2 ⟨rfl,o⟩;replace hP:=Za (hP.out.below o);replace q0:=Gm o q0;replace q1:=Gm o q1;replace q2:=Gm o q2;replace q3:=Gm o q3;replace hA:=Za (hA.out.below o);replace hD:=Za (hD.out.below o);replace hB:=Za (hB.out.trans (o.mono sz.out));replace sz:=Za (Qc sz.out o.size);clear a0 a1 a2 a3 b0 b1 b2 b3;obtain⟨a0,a1,a2,a3,-⟩:=q0.out.four;obtain⟨b0,b1,b2,b3,-⟩:=q1.out.four;clear o;refine hK.out _ _ (λ_=>⟨a0,a1,a2,a3,b0,b1,b2,b3⟩) ?_;clear hK K
 try simp only[Qa,Zg7,Zgl,Zg1]
 refine wpAnyL_o 12 λK hK=>?_;go_simp;refine(Zjb nb nb' B B' m d m' d' a.den b.den w2 hA.out.2 hD.out.2).mono ?_;rintro e w3 ⟨u,O,P',k',q',code,rfl,hR⟩;replace hP:=Za (hP.out.below u);have y:=Za (hR.small ht.out);have C:=hR.code0 ht.out;subst C;clear ht hR;replace q0:=Gm u q0;replace q1:=Gm u q1;replace q2:=Gm u q2;replace q3:=Gm u q3;replace hA:=Za (hA.out.below u);replace hD:=Za (hD.out.below u);replace hB:=Za (hB.out.trans (u.mono sz.out));replace sz:=Za (Qc sz.out u.size);clear a0 a1 a2 a3 b0 b1 b2 b3;obtain⟨a0,a1,a2,a3,-⟩:=q0.out.four;obtain⟨b0,b1,b2,b3,-⟩:=q1.out.four;clear u;refine hK.out _ _ (λ_=>⟨a0,a1,a2,a3,b0,b1,b2,b3⟩) ?_;clear hK K
 try simp only[Qa,Zg7,Zgl,Zg1]
 refine Zj5 2 [13,14] rfl Gi ⟨a0,a1,a2,a3,b0,b1,b2,b3⟩ ?_
 iterate 2 (refine tkA ?_;try simp only[Qa,Zg7,Zgl,Zg1,Gr,Gq,Gp])
 refine tk0 ?_;refine wpAnyL_o 15 λK hK=>?_;go_simp;refine(Zd3 O P' k' q' w3).mono ?_;rintro e w4 ⟨rfl,f⟩;replace hP:=Za (hP.out.below f);replace y:=Za (y.out.below f);replace q0:=Gm f q0;replace q1:=Gm f q1;replace q2:=Gm f q2;replace q3:=Gm f q3;replace hA:=Za (hA.out.below f);replace hD:=Za (hD.out.below f);replace hB:=Za (hB.out.trans (f.mono sz.out));replace sz:=Za (Qc sz.out f.size);clear a0 a1 a2 a3 b0 b1 b2 b3;obtain⟨a0,a1,a2,a3,-⟩:=q0.out.four;obtain⟨b0,b1,b2,b3,-⟩:=q1.out.four;clear f;obtain⟨x0,x1,f0,f1⟩:=q2.out.two;refine hK.out _ _ (λ_=>⟨a0,a1,a2,a3,b0,b1,b2,b3⟩) ?_;clear hK K
 try simp only[Qa,Zg7,Zgl,Zg1]
 refine wpAnyL_o 16 λK hK=>?_;go_simp;obtain⟨W5,V,Y,T,kW,kB,s5⟩:=Zar np P k q hB.out Gk q2.out;rw[V];clear V x0 x1 f0 f1 a0 a1 a2 a3 b0 b1 b2 b3 hA hD;replace q0:=kB _ _ _ Gk q0.out;replace q1:=kB _ _ _ Gk q1.out;obtain⟨a0,a1,a2,a3,-⟩:=q0.four;obtain⟨b0,b1,b2,b3,-⟩:=q1.four;replace q3:=Za (kB _ _ _ Gk q3.out);replace hP:=Za (kW _ _ _ _ _ hP.out);replace y:=Za (kW _ _ _ _ _ y.out);clear kW kB q2 hB q0 q1;obtain⟨y0,y1,g0,g1⟩:=q3.out.two;refine hK.out _ _ (λ_=>⟨a0,a1,a2,a3,b0,b1,b2,b3⟩) ?_;clear hK K
 try simp only[Qa,Zg7,Zgl,Zg1]
 refine Zv (i:=17) rfl Gi Gi (λK hK=>?_);go_simp;obtain⟨W6,U,a5,a4,kW,kB,s6⟩:=Zar O P' k' q' Y Gk q3.out;rw[U];clear U y0 y1 g0 g1 a0 a1 a2 a3 b0 b1 b2 b3;replace T:=kB _ _ _ Gk T;replace hP:=Za (kW _ _ _ _ _ hP.out);replace y:=Za (kW _ _ _ _ _ y.out);clear kW kB q3 Y;refine hK.out _ _ ?_;clear hK K
 try simp only[Qa,Zg7,Zgl,Zg1]
 refine wpAnyL_fin ?_;obtain⟨r0,r1,-⟩:=T.two;obtain⟨r2,r3,-⟩:=a4.two;go_wp2_with fail;refine bodyPost_ret (v:=.tuple #[.agg #[.bool np,.slice P k q],.agg #[.bool O,.slice P' k' q']]) (by simp[results,Tryz.results131,go_sem,r0,r1,r2,r3]) rfl ?_;exact⟨a5,_,_,_,_,_,_,_,_,rfl,hP.out,y.out⟩
theorem Sub1_ok(na nb na' nb':Bool)(A B A' B':Option Addr)(n c m d n' c' m' d':Nat)(a b:Rat)(w:World)(ha:Fr w na A n c nb B m d a)(hb:Fr w na' A' n' c' nb' B' m' d' b)
    (h1:(a.num*b.den).natAbs<pw 4096) (h2:(b.num*a.den).natAbs<pw 4096) (hs:(a.num*b.den-b.num*a.den).natAbs<pw 4096) (ht:((a.den:Int)*(b.den:Nat)).natAbs<pw 4096) :
    Calls Tryz.prog 160 #[.agg #[.bool na,.slice A n c,.bool nb,.slice B m d],.agg #[.bool na',.slice A' n' c',.bool nb',.slice B' m' d']] w (Zoy w (a.num*b.den-b.num*a.den) ((a.den:Int)*(b.den:Nat))):=by
 obtain⟨W0,Y,T,⟨q0,q1,q2,q3⟩,s0⟩:=Zfr w 41 #[.bool na,.slice A n c,.bool nb,.slice B m d] 41 #[.bool na',.slice A' n' c',.bool nb',.slice B' m' d'] 39 #[.bool false,.slice none 0 0] 39 #[.bool false,.slice none 0 0];have hmx:=Gt;have hA:=Za (ha.below T);have hD:=Za (hb.below T);replace hs:=Za hs;replace ht:=Za ht;replace h1:=Za h1;replace h2:=Za h2;have sz:=Za T.size;have hB:=Za T;clear ha hb T s0;replace q0:=Za q0;replace q1:=Za q1;replace q2:=Za q2;replace q3:=Za q3;obtain⟨a0,a1,a2,a3,-⟩:=q0.out.four;obtain⟨b0,b1,b2,b3,-⟩:=q1.out.four;replace Y:=Za Y;go_in;go_wp2_with fail;rw[Y.out];clear Y;refine Zx [19] (λW'=>W'.cell? ⟨w.heap.size,0,none⟩=some (.bool na)/\W'.cell? ⟨w.heap.size,1,none⟩=some (.slice A n c)/\W'.cell? ⟨w.heap.size,2,none⟩=some (.bool nb)/\W'.cell? ⟨w.heap.size,3,none⟩=some (.slice B m d)/\W'.cell? ⟨w.heap.size+1,0,none⟩=some (.bool na')/\W'.cell? ⟨w.heap.size+1,1,none⟩=some (.slice A' n' c')/\W'.cell? ⟨w.heap.size+1,2,none⟩=some (.bool nb')/\W'.cell? ⟨w.heap.size+1,3,none⟩=some (.slice B' m' d')) hmx ⟨a0,a1,a2,a3,b0,b1,b2,b3⟩ (λ_=>?_);refine Zj5 8 [0,1,3,4,10,11,12,13] rfl Gi ⟨a0,a1,a2,a3,b0,b1,b2,b3⟩ ?_
 iterate 8 (refine tkA ?_;try simp only[Qa,Zg7,Zgl,Zg1,Gr,Gq,Gp])
 refine tk0 ?_;refine wpAnyL_o 2 λK hK=>?_;go_simp;refine(Zfe na nb na' nb' A B A' B' n c m d n' c' m' d' a b W0.drew hA.out hD.out h1.out).mono ?_;rintro e w1 ⟨h,nu,U,k1,u,rfl,hU⟩;replace h:=Zs h;replace hU:=Za hU;replace q0:=Gm h q0;replace q1:=Gm h q1;replace q2:=Gm h q2;replace q3:=Gm h q3;replace hA:=Za (hA.out.below h);replace hD:=Za (hD.out.below h);replace hB:=Za (hB.out.trans (h.mono sz.out));replace sz:=Za (Qc sz.out h.size);clear a0 a1 a2 a3 b0 b1 b2 b3;obtain⟨a0,a1,a2,a3,-⟩:=q0.out.four;obtain⟨b0,b1,b2,b3,-⟩:=q1.out.four;clear h;refine hK.out _ _ (λ_=>⟨a0,a1,a2,a3,b0,b1,b2,b3⟩) ?_;clear hK K
 try simp only[Qa,Zg7,Zgl,Zg1]
 refine wpAnyL_o 5 λK hK=>?_;go_simp;refine(Zfe na' nb' na nb A' B' A B n' c' m' d' n c m d b a w1 hD.out hA.out h2.out).mono ?_;rintro e w2 ⟨y,nv,V,k2,v,rfl,hV⟩;replace hU:=Za (hU.out.below y);replace hV:=Za hV;replace q0:=Gm y q0;replace q1:=Gm y q1;replace q2:=Gm y q2;replace q3:=Gm y q3;replace hA:=Za (hA.out.below y);replace hD:=Za (hD.out.below y);replace hB:=Za (hB.out.trans (y.mono sz.out));replace sz:=Za (Qc sz.out y.size);clear a0 a1 a2 a3 b0 b1 b2 b3;obtain⟨a0,a1,a2,a3,-⟩:=q0.out.four;obtain⟨b0,b1,b2,b3,-⟩:=q1.out.four;clear y;refine hK.out _ _ (λ_=>⟨a0,a1,a2,a3,b0,b1,b2,b3⟩) ?_;clear hK K
 try simp only[Qa,Zg7,Zgl,Zg1]
 refine wpAnyL_o 6 λK hK=>?_;go_simp;refine(Zum nu nv U V k1 u k2 v _ _ w2 hU.out hV.out).mono ?_;rintro e w3 ⟨I,np,P,k,q,code,rfl,hR⟩;have hP:=Za (hR.small hs.out);have O:=hR.code0 hs.out;subst O;clear hs hR hU hV;replace q0:=Gm I q0;replace q1:=Gm I q1;replace q2:=Gm I q2;replace q3:=Gm I q3;replace hA:=Za (hA.out.below I);replace hD:=Za (hD.out.below I);replace hB:=Za (hB.out.trans (I.mono sz.out));replace sz:=Za (Qc sz.out I.size);clear a0 a1 a2 a3 b0 b1 b2 b3;obtain⟨a0,a1,a2,a3,-⟩:=q0.out.four;obtain⟨b0,b1,b2,b3,-⟩:=q1.out.four;clear I;refine hK.out _ _ (λ_=>⟨a0,a1,a2,a3,b0,b1,b2,b3⟩) ?_;clear hK K
 try simp only[Qa,Zg7,Zgl,Zg1]
 refine Zj5 2 [7,8] rfl Gi ⟨a0,a1,a2,a3,b0,b1,b2,b3⟩ ?_
 iterate 2 (refine tkA ?_;try simp only[Qa,Zg7,Zgl,Zg1,Gr,Gq,Gp])
 refine tk0 ?_;refine wpAnyL_o 9 λK hK=>?_;go_simp;refine(Zd3 np P k q w3).mono ?_;rintro e w4 ⟨rfl,C⟩;replace hP:=Za (hP.out.below C);replace q0:=Gm C q0;replace q1:=Gm C q1;replace q2:=Gm C q2;replace q3:=Gm C q3;replace hA:=Za (hA.out.below C);replace hD:=Za (hD.out.below C);replace hB:=Za (hB.out.trans (C.mono sz.out));replace sz:=Za (Qc sz.out C.size);clear a0 a1 a2 a3 b0 b1 b2 b3;obtain⟨a0,a1,a2,a3,-⟩:=q0.out.four;obtain⟨b0,b1,b2,b3,-⟩:=q1.out.four;clear C;refine hK.out _ _ (λ_=>⟨a0,a1,a2,a3,b0,b1,b2,b3⟩) ?_;clear hK K
 try simp only[Qa,Zg7,Zgl,Zg1]
 refine wpAnyL_o 14 λK hK=>?_;go_simp;refine(Zjb nb nb' B B' m d m' d' a.den b.den w4 hA.out.2 hD.out.2).mono ?_;rintro e w5 ⟨o,a4,P',k',q',code,rfl,hR⟩;replace hP:=Za (hP.out.below o);have J:=Za (hR.small ht.out);have O:=hR.code0 ht.out;subst O;clear ht hR;replace q0:=Gm o q0;replace q1:=Gm o q1;replace q2:=Gm o q2;replace q3:=Gm o q3;replace hA:=Za (hA.out.below o);replace hD:=Za (hD.out.below o);replace hB:=Za (hB.out.trans (o.mono sz.out));replace sz:=Za (Qc sz.out o.size);clear a0 a1 a2 a3 b0 b1 b2 b3;obtain⟨a0,a1,a2,a3,-⟩:=q0.out.four;obtain⟨b0,b1,b2,b3,-⟩:=q1.out.four;clear o;refine hK.out _ _ (λ_=>⟨a0,a1,a2,a3,b0,b1,b2,b3⟩) ?_;clear hK K
 try simp only[Qa,Zg7,Zgl,Zg1]
 refine Zj5 2 [15,16] rfl Gi ⟨a0,a1,a2,a3,b0,b1,b2,b3⟩ ?_
 iterate 2 (refine tkA ?_;try simp only[Qa,Zg7,Zgl,Zg1,Gr,Gq,Gp])
 refine tk0 ?_;refine wpAnyL_o 17 λK hK=>?_;go_simp;refine(Zd3 a4 P' k' q' w5).mono ?_;rintro e w6 ⟨rfl,f⟩;replace hP:=Za (hP.out.below f);replace J:=Za (J.out.below f);replace q0:=Gm f q0;replace q1:=Gm f q1;replace q2:=Gm f q2;replace q3:=Gm f q3;replace hA:=Za (hA.out.below f);replace hD:=Za (hD.out.below f);replace hB:=Za (hB.out.trans (f.mono sz.out));replace sz:=Za (Qc sz.out f.size);clear a0 a1 a2 a3 b0 b1 b2 b3;obtain⟨a0,a1,a2,a3,-⟩:=q0.out.four;obtain⟨b0,b1,b2,b3,-⟩:=q1.out.four;clear f;obtain⟨x0,x1,f0,f1⟩:=q2.out.two;refine hK.out _ _ (λ_=>⟨a0,a1,a2,a3,b0,b1,b2,b3⟩) ?_;clear hK K
 try simp only[Qa,Zg7,Zgl,Zg1]
 refine wpAnyL_o 18 λK hK=>?_;go_simp;obtain⟨W5,a7,a8,a5,kW,kB,s5⟩:=Zar np P k q hB.out Gk q2.out;rw[a7];clear a7 x0 x1 f0 f1 a0 a1 a2 a3 b0 b1 b2 b3 hA hD;replace q0:=kB _ _ _ Gk q0.out;replace q1:=kB _ _ _ Gk q1.out;obtain⟨a0,a1,a2,a3,-⟩:=q0.four;obtain⟨b0,b1,b2,b3,-⟩:=q1.four;replace q3:=Za (kB _ _ _ Gk q3.out);replace hP:=Za (kW _ _ _ _ _ hP.out);replace J:=Za (kW _ _ _ _ _ J.out);clear kW kB q2 hB q0 q1;obtain⟨y0,y1,g0,g1⟩:=q3.out.two;refine hK.out _ _ (λ_=>⟨a0,a1,a2,a3,b0,b1,b2,b3⟩) ?_;clear hK K
 try simp only[Qa,Zg7,Zgl,Zg1]
 refine Zv (i:=19) rfl Gi Gi (λK hK=>?_);go_simp;obtain⟨W6,a6,b4,a9,kW,kB,s6⟩:=Zar a4 P' k' q' a8 Gk q3.out;rw[a6];clear a6 y0 y1 g0 g1 a0 a1 a2 a3 b0 b1 b2 b3;replace a5:=kB _ _ _ Gk a5;replace hP:=Za (kW _ _ _ _ _ hP.out);replace J:=Za (kW _ _ _ _ _ J.out);clear kW kB q3 a8;refine hK.out _ _ ?_;clear hK K
 try simp only[Qa,Zg7,Zgl,Zg1]
 refine wpAnyL_fin ?_;obtain⟨r0,r1,-⟩:=a5.two;obtain⟨r2,r3,-⟩:=a9.two;go_wp2_with fail;refine bodyPost_ret (v:=.tuple #[.agg #[.bool np,.slice P k q],.agg #[.bool a4,.slice P' k' q']]) (by simp[results,Tryz.results160,go_sem,r0,r1,r2,r3]) rfl ?_;exact⟨b4,_,_,_,_,_,_,_,_,rfl,hP.out,J.out⟩
theorem Zeg(na nb:Bool)(A B:Option Addr)(n c m d:Nat)(r:Rat)(w:World)(h:Fr w na A n c nb B m d r) :
    Calls Tryz.prog 110 #[.agg #[.bool na,.slice A n c,.bool nb,.slice B m d]] w λe w'=>e=.returned (.int .i64 0)/\Below w.heap.size w w':=by
 have hn:=h.neg;subst hn;have hl:=Zwg r;exact Zl3 na A B n c m d r.num r.den w h.1 h.2 hl.1 true (by rw[hl.2];rfl)
theorem EI{G:Prop}(h:G:=by
 clear kW kB aK eG eH eP aJ;refine leaves_cons (f:=147) (args:=#[.pointer (some ⟨w.heap.size+1+1+1,0,none⟩)]) Gh Gc ?_;refine(Zg6 _ _).mono ?_;rintro e u' w'' ⟨rfl,rfl,rfl⟩;refine⟨.tuple #[.agg #[.bool nx,.slice Ax kx cx,.bool ny,.slice Ay ky cy],.int .i64 0],by simp[results,Tryz.results130,go_sem,r0,r1,r2,r3,r4],?_⟩;exact⟨aS,_,_,_,_,_,_,_,_,rfl,cb.out,fX.out⟩):G:=h
theorem CA{G:Prop}(h:G:=by
 rintro e w4 ⟨I,nx,Ax,kx,cx,ny,Ay,ky,cy,rfl,hF⟩;have a9:Below w.heap.size w w4:=Gs a5 I;have s4:w3.heap.size<=w4.heap.size:=I.size;have q2:=Zc I hq.out.1;have q3:=Zc I hq.out.2;clear hq I hU hV a5;have c2:=Za q2.four;have c3:=q3.cell 0;have f3:=q3.frozen 0;simp at c3;obtain⟨b9,b6,b8,b5,b4,a7,a8,b7⟩:=c2.out;have hq:=Za (Qb q2 q3);clear q2 q3;go_wp2_with fail;obtain⟨W5,eP,aK,q2,kW,kB,s5⟩:=Z7 nx Ax kx cx ny Ay ky cy a9 Gk hq.out.1;have q3:=kB _ _ _ Gk hq.out.2;have eG:=Za (kW _ _ _ _ _ hF.1);have eH:=Za (kW _ _ _ _ _ hF.2);rw[eP];clear kW kB b9 b6 b8 b5 c3 f3 b4 a7 a8 b7 hq hF;obtain⟨W6,aJ,aS,q3,kW,kB,s6⟩:=Za1 0 aK Gk q3;replace q2:=kB _ _ _ Gk q2;have cb:=Za (kW _ _ _ _ _ eG.out);have fX:=Za (kW _ _ _ _ _ eH.out);rw[aJ];obtain⟨r0,r1,r2,r3,-⟩:=q2.four;have r4:=q3.cell 0;simp at r4;exact EI):G:=h
theorem Zp8(F:FuncId)(na nb na' nb':Bool)(A B A' B':Option Addr)(n c m d n' c' m' d':Nat)(a b:Rat)(X Y:Int)(w:World)(ha:Fr w na A n c nb B m d a)(hb:Fr w na' A' n' c' nb' B' m' d' b)(hY:0<Y)(hcf:∀ (x y:Value) (W:World),(callFunc F #[x,y]).run Tryz.prog W=.ok (.enter F #[x,y]) W)
    (hF:∀ W:World,Fr W na A n c nb B m d a->Fr W na' A' n' c' nb' B' m' d' b->Calls Tryz.prog F #[.agg #[.bool na,.slice A n c,.bool nb,.slice B m d],.agg #[.bool na',.slice A' n' c',.bool nb',.slice B' m' d']] W (Zoy W X Y)) :
    Calls Tryz.prog 130 #[.agg #[.bool na,.slice A n c,.bool nb,.slice B m d],.agg #[.bool na',.slice A' n' c',.bool nb',.slice B' m' d'],.func (.func F) #[] #[]] w (Zep w (Qm X Y)):=by
 obtain⟨W0,O,C,⟨q0,q1,q2,q3⟩,s0⟩:=Zfr w 41 #[.bool na,.slice A n c,.bool nb,.slice B m d] 41 #[.bool na',.slice A' n' c',.bool nb',.slice B' m' d'] 41 #[.bool false,.slice none 0 0,.bool false,.slice none 0 0] 26 #[.int .i64 0];have hA:=Za (ha.below C);have hD:=Za (hb.below C);replace hF:=Za hF;clear ha hb;replace O:=Za O;obtain⟨a0,a1,a2,a3,-⟩:=q0.four;have hq:=Za (Qb q0 (Qb q1 (Qb q2 q3)));clear q0 q1 q2 q3
 go_enter_defers Tryz.func130,Tryz.ntmps130
 have a6:=O.out;go_wp2_with fail;clear O a6;refine(Zeg na nb A B n c m d a W0 hA.out).mono ?_;rintro e w1 ⟨rfl,o⟩;have T:Below w.heap.size w w1:=Gs C o;have s1:W0.heap.size<=w1.heap.size:=o.size;replace hA:=Za (hA.out.below o);replace hD:=Za (hD.out.below o);obtain⟨q0,q1,q2,q3⟩:=hq.out;replace q0:=Zc o q0;replace q1:=Zc o q1;replace q2:=Zc o q2;replace q3:=Zc o q3;clear hq o C a0 a1 a2 a3;obtain⟨b0,b1,b2,b3,-⟩:=q1.four;have hq:=Za (Qb q0 (Qb q1 (Qb q2 q3)));clear q0 q1 q2 q3;go_wp2_with fail;refine(Zfk w1).mono ?_;rintro e w1 ⟨rfl,rfl⟩;go_wp2_with fail;refine(Zeg na' nb' A' B' n' c' m' d' b w1 hD.out).mono ?_;rintro e w2 ⟨rfl,h⟩;have a4:Below w.heap.size w w2:=Gs T h;have s2:w1.heap.size<=w2.heap.size:=h.size;replace hA:=Za (hA.out.below h);replace hD:=Za (hD.out.below h);obtain⟨q0,q1,q2,q3⟩:=hq.out;replace q0:=Zc h q0;replace q1:=Zc h q1;replace q2:=Zc h q2;replace q3:=Zc h q3;clear hq h T b0 b1 b2 b3;obtain⟨a0,a1,a2,a3,-⟩:=q0.four;obtain⟨b0,b1,b2,b3,-⟩:=q1.four;have hq:=Za (Qb q2 q3);clear q0 q1 q2 q3;go_wp2_with fail;refine(Zfk w2).mono ?_;rintro e w2 ⟨rfl,rfl⟩;go_wp2_with fail;refine(hF.out w2 hA.out hD.out).mono ?_;rintro e w3 ⟨J,nu,U,k1,u,nv,V,k2,v,rfl,hU,hV⟩;have a5:Below w.heap.size w w3:=Gs a4 J;have s3:w2.heap.size<=w3.heap.size:=J.size;have hn:nv=false:=by rw[hV.1];simp;omega
 subst hn;have q2:=Zc J hq.out.1;have q3:=Zc J hq.out.2;clear hq J a4 a0 a1 a2 a3 b0 b1 b2 b3 hA hD hF;have hq:=Za (Qb q2 q3);replace hU:=Za hU;replace hV:=Za hV;clear q2 q3;go_wp2_with fail;refine(Zi8 nu U V k1 u k2 v X Y w3 hU.out hV.out hY).mono ?_;exact CA
theorem Zvx(x y:Value)(W:World):(callFunc 131 #[x,y]).run Tryz.prog W=.ok (.enter 131 #[x,y]) W:=by simp[go_sem]
theorem Zuk(x y:Value)(W:World):(callFunc 160 #[x,y]).run Tryz.prog W=.ok (.enter 160 #[x,y]) W:=by simp[go_sem]
def Sm(r:Rat):Prop:=r.num.natAbs<pw 1000/\r.den<pw 1000
theorem Zc1{x y:Nat}{i j:Nat}(hx:x<pw i)(hy:y<pw j):x*y<pw (i+j):=by
 rw[Zc8];exact Nat.mul_lt_mul'' hx hy
theorem Zi9{x y:Int}(hx:x.natAbs<pw 1000)(hy:y.natAbs<pw 1000):(x*y).natAbs<pw 2000:=by
 rw[Int.natAbs_mul];have h:=Zc1 hx hy;rw[show 1000+1000=2000 from rfl]at h;exact h
theorem Zp7(k:Nat):pw k+pw k<=pw (k+1):=by rw[Za2];generalize pw k=x;omega
theorem Zuo:pw 2000+pw 2000<=pw 4096:=Qc (Zp7 2000) (Zbm Gj)
theorem Zbh{x y:Int}(hx:x.natAbs<pw 1000)(hy:y.natAbs<pw 1000):(x*y).natAbs<pw 4096:=Nat.lt_of_lt_of_le (Zi9 hx hy) (Zbm Gj)
theorem IR{G:Prop}(h:G:=by
 have h1:=Zi9 hx hy;have h2:=Zi9 hz hv;have h3:=Zuo;omega):G:=h
theorem Zug{x y z v:Int}(hx:x.natAbs<pw 1000)(hy:y.natAbs<pw 1000)(hz:z.natAbs<pw 1000)(hv:v.natAbs<pw 1000):(x*y-z*v).natAbs<pw 4096:=by
 exact IR
theorem Sm.dn{r:Rat}(h:Sm r):((r.den:Nat):Int).natAbs<pw 1000:=by simpa using h.2
theorem Zqb(a b:Rat):Qm (a.num*b.num) ((a.den:Int)*(b.den:Nat))=a*b:=by
 rw[<- Rat.divInt_mul_divInt,Qe,Qe]
theorem Zqz(a b:Rat):Qm (a.num*b.den-b.num*a.den) ((a.den:Int)*(b.den:Nat))=a-b:=by
 have ha:((a.den:Nat):Int)≠0:=by have:=a.den_pos;omega
 have hb:((b.den:Nat):Int)≠0:=by have:=b.den_pos;omega
 rw[<- Rat.divInt_sub_divInt _ _ ha hb,Qe,Qe]
theorem Zci(a b:Rat):0<((a.den:Int)*(b.den:Nat)):=Int.mul_pos (by have:=a.den_pos;omega) (by have:=b.den_pos;omega)
theorem FY{G:Prop}(h:G:=by
 exact⟨aK,_,_,_,_,_,_,_,_,rfl,kW _ _ _ _ _ hX.out.1,kW _ _ _ _ _ hX.out.2⟩):G:=h
theorem Zwp(na nb na' nb':Bool)(A B A' B':Option Addr)(n c m d n' c' m' d':Nat)(a b:Rat)(w:World)(ha:Fr w na A n c nb B m d a)(hb:Fr w na' A' n' c' nb' B' m' d' b)(sa:Sm a)(sb:Sm b) :
    Calls Tryz.prog 116 #[.agg #[.bool na,.slice A n c,.bool nb,.slice B m d],.agg #[.bool na',.slice A' n' c',.bool nb',.slice B' m' d']] w (Zep w (a-b)):=by
 obtain⟨W0,u,f,⟨q0,q1,q2⟩,s0⟩:=Zb1 w 41 #[.bool na,.slice A n c,.bool nb,.slice B m d] 41 #[.bool na',.slice A' n' c',.bool nb',.slice B' m' d'] 41 #[.bool false,.slice none 0 0,.bool false,.slice none 0 0];have hA:=Za (ha.below f);have hD:=Za (hb.below f);have hF:=λ(W:World) (h1:Fr W na A n c nb B m d a) (h2:Fr W na' A' n' c' nb' B' m' d' b)=>Sub1_ok na nb na' nb' A B A' B' n c m d n' c' m' d' a b W h1 h2 (Zbh sa.1 sb.dn) (Zbh sb.1 sa.dn) (Zug sa.1 sb.dn sb.1 sa.dn) (Zbh sa.dn sb.dn);have hG:=Za (Zp8 160 na nb na' nb' A B A' B' n c m d n' c' m' d' a b _ _ W0 hA.out hD.out (Zci a b) Zuk hF);rw[Zqz]at hG;clear hF ha hb sa sb hA hD;obtain⟨a0,a1,a2,a3,-⟩:=q0.four;obtain⟨b0,b1,b2,b3,-⟩:=q1.four;replace q2:=Za q2;clear q0 q1;go_in;go_wp2_with fail;refine hG.out.mono ?_;rintro e w1 ⟨h,nx,Ax,kx,cx,ny,Ay,ky,cy,rfl,hX⟩;have o:Below w.heap.size w w1:=Gs f h;have s1:W0.heap.size<=w1.heap.size:=h.size;replace q2:=Gm h q2;replace hX:=Za hX;clear h a0 a1 a2 a3 b0 b1 b2 b3 f hG u;obtain⟨Y,U,V,T,O,C,J,I⟩:=q2.out.four;go_wp2_with fail;obtain⟨W5,y,aK,q2,kW,-,s5⟩:=Z7 nx Ax kx cx ny Ay ky cy o Gk q2.out;rw[y];obtain⟨r0,r1,r2,r3,-⟩:=q2.four;refine bodyPost_ret (v:=.tuple #[.agg #[.bool nx,.slice Ax kx cx,.bool ny,.slice Ay ky cy],.int .i64 0]) (by simp[results,Tryz.results116,go_sem,r0,r1,r2,r3]) rfl ?_;exact FY
theorem Zwr(na nb na' nb':Bool)(A B A' B':Option Addr)(n c m d n' c' m' d':Nat)(a b:Rat)(w:World)(ha:Fr w na A n c nb B m d a)(hb:Fr w na' A' n' c' nb' B' m' d' b)(sa:Sm a)(sb:Sm b) :
    Calls Tryz.prog 85 #[.agg #[.bool na,.slice A n c,.bool nb,.slice B m d],.agg #[.bool na',.slice A' n' c',.bool nb',.slice B' m' d']] w (Zep w (a*b)):=by
 obtain⟨W0,u,f,⟨q0,q1,q2⟩,s0⟩:=Zb1 w 41 #[.bool na,.slice A n c,.bool nb,.slice B m d] 41 #[.bool na',.slice A' n' c',.bool nb',.slice B' m' d'] 41 #[.bool false,.slice none 0 0,.bool false,.slice none 0 0];have hA:=Za (ha.below f);have hD:=Za (hb.below f);have hF:=λ(W:World) (h1:Fr W na A n c nb B m d a) (h2:Fr W na' A' n' c' nb' B' m' d' b)=>Mul1_ok na nb na' nb' A B A' B' n c m d n' c' m' d' a b W h1 h2 (Zbh sa.1 sb.1) (Zbh sa.dn sb.dn);have hG:=Za (Zp8 131 na nb na' nb' A B A' B' n c m d n' c' m' d' a b _ _ W0 hA.out hD.out (Zci a b) Zvx hF);rw[Zqb]at hG;clear hF ha hb sa sb hA hD;obtain⟨a0,a1,a2,a3,-⟩:=q0.four;obtain⟨b0,b1,b2,b3,-⟩:=q1.four;replace q2:=Za q2;clear q0 q1;go_in;go_wp2_with fail;refine hG.out.mono ?_;rintro e w1 ⟨h,nx,Ax,kx,cx,ny,Ay,ky,cy,rfl,hX⟩;have o:Below w.heap.size w w1:=Gs f h;have s1:W0.heap.size<=w1.heap.size:=h.size;replace q2:=Gm h q2;replace hX:=Za hX;clear h a0 a1 a2 a3 b0 b1 b2 b3 f hG u;obtain⟨Y,U,V,T,O,C,J,I⟩:=q2.out.four;go_wp2_with fail;obtain⟨W5,y,aK,q2,kW,-,s5⟩:=Z7 nx Ax kx cx ny Ay ky cy o Gk q2.out;rw[y];obtain⟨r0,r1,r2,r3,-⟩:=q2.four;refine bodyPost_ret (v:=.tuple #[.agg #[.bool nx,.slice Ax kx cx,.bool ny,.slice Ay ky cy],.int .i64 0]) (by simp[results,Tryz.results85,go_sem,r0,r1,r2,r3]) rfl ?_;exact FY
theorem Zw7(na nb na' nb':Bool)(A B A' B':Option Addr)(n c m d n' c' m' d':Nat)(a b:Rat)(w:World)(ha:Fr w na A n c nb B m d a)(hb:Fr w na' A' n' c' nb' B' m' d' b) :
    Calls Tryz.prog 102 #[.agg #[.bool na,.slice A n c,.bool nb,.slice B m d],.agg #[.bool na',.slice A' n' c',.bool nb',.slice B' m' d']] w λe w'=>e=.returned (.int .i64 0)/\Below w.heap.size w w':=by
 obtain⟨W0,I,f,⟨q0,q1⟩,s0⟩:=Zdl w 41 #[.bool na,.slice A n c,.bool nb,.slice B m d] 41 #[.bool na',.slice A' n' c',.bool nb',.slice B' m' d'];have hA:=Za (ha.below f);have hD:=Za (hb.below f);clear ha hb;obtain⟨a0,a1,a2,a3,-⟩:=q0.four;replace q1:=Za q1;clear q0;go_in;go_wp2_with fail;refine(Zg8 na nb A B n c m d a W0 hA.out).mono ?_;rintro e w1 ⟨rfl,h⟩;have u:Below w.heap.size w w1:=Gs f h;replace hD:=Za (hD.out.below h);have o:=Zc h q1.out;obtain⟨b0,b1,b2,b3,-⟩:=o.four;clear I h a0 a1 a2 a3 o q1 hA;go_wp2_with fail;refine(Zg8 na' nb' A' B' n' c' m' d' b w1 hD.out).mono ?_;rintro e w2 ⟨rfl,C⟩;have y:Below w.heap.size w w2:=Gs u C;go_wp2_with fail;go_ret;exact⟨rfl,y⟩
theorem Zej(na nb:Bool)(A B:Option Addr)(n c m d:Nat)(za zb:Int)(w:World)(ha:Wd w na A n c za)(hb:Wd w nb B m d zb) :
    Calls Tryz.prog 103 #[.agg #[.bool na,.slice A n c],.agg #[.bool nb,.slice B m d]] w (ResW w (za*zb)):=by
 have Y:=ha.lim;have U:=hb.lim;have hn:=ha.2.1;have hm:=hb.2.1;have u:Below w.heap.size w (((w.alloc (.cells #[.bool na,.slice A n c] 39)).alloc (.cells #[.bool nb,.slice B m d] 39)).alloc (.cells #[.bool false,.slice none 0 0] 39)):=(((Qn w.heap.size w).alloc (Qr _) _).alloc Gh _).alloc Gg _;have u:=Za u;have I:Hid ((okW na (digits za.natAbs) && okW nb (digits zb.natAbs))=true):=by unfold Hid;rw[ha.ok,hb.ok];rfl
 have a3:=Za ha.sgEq;have a5:=Za hb.sgEq;have a8:=Za hb.lim.len;clear ha hb;go_in;go_wp2_with fail;refine(Ze4 (Y.below u.out) (U.below u.out) I.out).mono ?_;rintro e w1 ⟨rfl,C⟩;obtain⟨y,a4⟩:=Zcz C;have a7:w.heap.size+1+1<w1.heap.size:=by have:=C.size;simp at this;omega
 have o:Below w.heap.size w w1:=u.out.trans (C.mono Gg);have g0:w1.cell? ⟨w.heap.size,0,none⟩=some (.bool na):=by simp[y,go_sem]
 have g1:w1.cell? ⟨w.heap.size,1,none⟩=some (.slice A n c):=by simp[y,go_sem]
 have g2:w1.cell? ⟨w.heap.size+1,0,none⟩=some (.bool nb):=by simp[y,go_sem]
 have g3:w1.cell? ⟨w.heap.size+1,1,none⟩=some (.slice B m d):=by simp[y,go_sem]
 have g7:Blk w1 (w.heap.size+1+1) 39 #[.bool false,.slice none 0 0]:=by
  refine Zc C ?_;exact Ew
 have g5:=g7.cell 0;have g6:=g7.cell 1;have g8:=g7.frozen 0;have g9:=g7.frozen 1;simp at g5 g6;clear y a4;have T:=Y.below o;have O:=U.below o;go_wp2_with fail
 go_region_held3 (λw'=>w'.cell? ⟨w.heap.size,0,none⟩=some (.bool na)/\w'.cell? ⟨w.heap.size,1,none⟩=some (.slice A n c)/\w'.cell? ⟨w.heap.size+1,0,none⟩=some (.bool nb)/\w'.cell? ⟨w.heap.size+1,1,none⟩=some (.slice B m d))
  (((try dsimp only);(repeat' apply Qb);all_goals (first|go_keep|(simp[*,go_sem];done))))
  (first
   | (go_at_call 145;refine(Zvz _ _ _ _ _ _ _ _ _ (by exact T) (by exact O) Gk Gk).mono ?_;rintro e w2 ⟨A2,n2,c2,l2,rfl,a1,a0,f⟩;have k0:=Zb f g0;have k1:=Zb f g1;have j0:=Zb f g2;have k2:=Zb f g3;have k3:=Zb f g5;have k4:=Zb f g6;have k5:=Zl f g5 g8;have k6:=Zl f g6 g9;have k7:=Zc f g7)
   | (go_at_call 74;refine(Zby _ _ _ _ _ _ (by exact a1) (by have:=a1.len;rw[a0.1]at this;omega)).mono ?_;rintro e w3 ⟨h,V,A3,n3,c3,J,rfl,a2⟩;have m0:=Zb h k0;have m1:=Zb h k1;have i0:=Zb h j0;have m2:=Zb h k2;have m3:=Zb h k3;have m4:=Zb h k4;have m5:=Zl h k3 k5;have m6:=Zl h k4 k6;have m7:=Zc h k7))
 have a6:Below w.heap.size w w3:=(o.trans ((Zs f).mono o.size)).trans (h.mono (Qc o.size (Zs f).size))
 go_wp2
 have HZ:sg (na != nb) (val l2)=za*zb:=by
  have h1:=a3.out;have h2:=a5.out;rw[a0.2,Z0o,h1,h2]
 refine bodyPost_ret (v:=.tuple #[.agg #[.bool V,.slice A3 n3 c3],.int .i64 J]) (by simp[results,Tryz.results103,go_sem,m3,m4]) rfl ?_;exact ResW.box (HZ▸a2) a6 Gk m7
theorem alloc5(w:World)(t0:TypeId)(c0:Array Value)(t1:TypeId)(c1:Array Value)(t2:TypeId)(c2:Array Value)(t3:TypeId)(c3:Array Value)(t4:TypeId)(c4:Array Value) :
    ∃ W,((((w.alloc (.cells c0 t0)).alloc (.cells c1 t1)).alloc (.cells c2 t2)).alloc (.cells c3 t3)).alloc (.cells c4 t4)=W/\Below w.heap.size w W/\(Blk W w.heap.size t0 c0/\Blk W (w.heap.size+1) t1 c1/\Blk W (w.heap.size+1+1) t2 c2/\Blk W (w.heap.size+1+1+1) t3 c3/\Blk W (w.heap.size+1+1+1+1) t4 c4)/\W.heap.size=w.heap.size+1+1+1+1+1:=by
 obtain⟨W,hW,h1,h2,h3⟩:=Zfr w t0 c0 t1 c1 t2 c2 t3 c3;refine⟨_,rfl,?_,⟨?_,?_,?_,?_,?_⟩,by rw[hW];simp[h3]⟩ <;> rw[hW];exact h1.alloc Gk _;exact h2.1.alloc _;exact h2.2.1.alloc _;exact h2.2.2.1.alloc _;exact h2.2.2.2.alloc _;rw[<- h3];exact Blk.new _ _ _
theorem Zwy(na nb:Bool)(A B:Option Addr)(n c m d:Nat)(za zb:Int)(w:World)(ha:Wd w na A n c za)(hb:Wd w nb B m d zb) :
    Calls Tryz.prog 143 #[.agg #[.bool na,.slice A n c],.agg #[.bool nb,.slice B m d]] w (ResW w (za+zb)):=by
 have T:=ha.lim;have O:=hb.lim;have hn:=ha.2.1;have hm:=hb.2.1;have f:Below w.heap.size w (((w.alloc (.cells #[.bool na,.slice A n c] 39)).alloc (.cells #[.bool nb,.slice B m d] 39)).alloc (.cells #[.bool false,.slice none 0 0] 39)):=(((Qn w.heap.size w).alloc (Qr _) _).alloc Gh _).alloc Gg _;have f:=Za f;have C:Hid ((okW na (digits za.natAbs) && okW nb (digits zb.natAbs))=true):=by unfold Hid;rw[ha.ok,hb.ok];rfl
 have Y:=Za ha.sgEq;have a1:=Za hb.sgEq;have a3:=Za hb.lim.len;clear ha hb;go_in;go_wp2_with fail;refine(Ze4 (T.below f.out) (O.below f.out) C.out).mono ?_;rintro e w1 ⟨rfl,u⟩;obtain⟨h,a0⟩:=Zcz u;have a2:w.heap.size+1+1<w1.heap.size:=by have:=u.size;simp at this;omega
 have o:Below w.heap.size w w1:=f.out.trans (u.mono Gg);have g0:w1.cell? ⟨w.heap.size,0,none⟩=some (.bool na):=by simp[h,go_sem]
 have g1:w1.cell? ⟨w.heap.size,1,none⟩=some (.slice A n c):=by simp[h,go_sem]
 have g2:w1.cell? ⟨w.heap.size+1,0,none⟩=some (.bool nb):=by simp[h,go_sem]
 have g3:w1.cell? ⟨w.heap.size+1,1,none⟩=some (.slice B m d):=by simp[h,go_sem]
 have g7:Blk w1 (w.heap.size+1+1) 39 #[.bool false,.slice none 0 0]:=by
  refine Zc u ?_;exact Ew
 have g5:=g7.cell 0;have g6:=g7.cell 1;have g8:=g7.frozen 0;have g9:=g7.frozen 1;simp at g5 g6;clear h a0;have J:=T.below o;have I:=O.below o;go_wp2_with fail;refine(Ze7 _ _ _ _ _ _ _ _ _ _ _ (by exact J) (by exact I) hn hm).mono ?_;rintro e w2 ⟨V,U,A2,n2,c2,y,rfl,dG⟩;have aD:Below w.heap.size w w2:=Gs o V;have m7:=Zc V g7;have m3:=m7.cell 0;have m4:=m7.cell 1;have m5:=m7.frozen 0;have m6:=m7.frozen 1;simp at m3 m4;have HM:=Za m7;clear m7;go_wp2_with fail
 have HZ:sg na za.natAbs+sg nb zb.natAbs=za+zb:=by
  have h1:=Y.out;have h2:=a1.out;rw[Zh]at h1 h2;rw[h1,h2]
 refine bodyPost_ret (v:=.tuple #[.agg #[.bool U,.slice A2 n2 c2],.int .i64 y]) (by simp[results,Tryz.results143,go_sem,m3,m4]) rfl ?_;exact Fg
theorem CW{G:Prop}(h:G:=by
 refine bodyPost_ret (v:=.tuple #[.agg #[.bool dL,.slice A2 n2 c2],.int .i64 ce]) (by simp[results,Tryz.results144,go_sem,m3,m4]) rfl ?_;exact ResW.box (HZ▸dG) aD Gk HM.out):G:=h
theorem EZ{G:Prop}(h:G:=by
 exact CW):G:=h
theorem Eg{G:Prop}(h:G:=by
 go_wp2_with fail;refine(Ze7 _ _ _ _ _ _ _ _ _ _ _ (by exact dD) (by exact dE) hn hm).mono ?_;rintro e w2 ⟨aa,dL,A2,n2,c2,ce,rfl,dG⟩;have aD:Below w.heap.size w w2:=Gs ai aa;have m7:=Zc aa g7;have m3:=m7.cell 0;have m4:=m7.cell 1;have m5:=m7.frozen 0;have m6:=m7.frozen 1;simp at m3 m4;have HM:=Za m7;clear m7;go_wp2_with fail
 have HZ:sg na za.natAbs+sg (false) zb.natAbs=za-zb:=by
  have h1:=fQ.out;have h2:=fR.out;rw[Zh]at h1 h2;have h3:sg (false) zb.natAbs=- zb:=by have h4:=dV.out;unfold sg;simp;omega
  rw[h1,h3];omega
 exact CW):G:=h
theorem rSub_ok(na nb:Bool)(A B:Option Addr)(n c m d:Nat)(za zb:Int)(w:World)(ha:Wd w na A n c za)(hb:Wd w nb B m d zb) :
    Calls Tryz.prog 144 #[.agg #[.bool na,.slice A n c],.agg #[.bool nb,.slice B m d]] w (ResW w (za-zb)):=by
 have C:=ha.lim;have y:=hb.lim;have hn:=ha.2.1;have hm:=hb.2.1;have f:Below w.heap.size w (((w.alloc (.cells #[.bool na,.slice A n c] 39)).alloc (.cells #[.bool nb,.slice B m d] 39)).alloc (.cells #[.bool false,.slice none 0 0] 39)):=(((Qn w.heap.size w).alloc (Qr _) _).alloc Gh _).alloc Gg _;have f:=Za f;have u:Hid ((okW na (digits za.natAbs) && okW nb (digits zb.natAbs))=true):=by unfold Hid;rw[ha.ok,hb.ok];rfl
 have fQ:=Za ha.sgEq;have fR:=Za hb.sgEq;have J:=Za hb.lim.len;clear ha hb;go_in;go_wp2_with fail;refine(Ze4 (C.below f.out) (y.below f.out) u.out).mono ?_;rintro e w1 ⟨rfl,o⟩;obtain⟨h,I⟩:=Zcz o;have O:w.heap.size+1+1<w1.heap.size:=by have:=o.size;simp at this;omega
 have ai:Below w.heap.size w w1:=f.out.trans (o.mono Gg);have g0:w1.cell? ⟨w.heap.size,0,none⟩=some (.bool na):=by simp[h,go_sem]
 have g1:w1.cell? ⟨w.heap.size,1,none⟩=some (.slice A n c):=by simp[h,go_sem]
 have g2:w1.cell? ⟨w.heap.size+1,0,none⟩=some (.bool nb):=by simp[h,go_sem]
 have g3:w1.cell? ⟨w.heap.size+1,1,none⟩=some (.slice B m d):=by simp[h,go_sem]
 have g7:Blk w1 (w.heap.size+1+1) 39 #[.bool false,.slice none 0 0]:=by
  refine Zc o ?_;exact Ew
 have g5:=g7.cell 0;have g6:=g7.cell 1;have g8:=g7.frozen 0;have g9:=g7.frozen 1;simp at g5 g6;clear h I;have dD:=C.below ai;have dE:=y.below ai;by_cases hm0:0<m
 ·have hd:decide (0<m)=true:=by simpa using hm0
  cases nb
  ·go_wp2_with fail
   refine(Ze7 _ _ _ _ _ _ _ _ _ _ _ (by exact dD) (by exact dE) hn hm).mono ?_;rintro e w2 ⟨aa,dL,A2,n2,c2,ce,rfl,dG⟩;have aD:Below w.heap.size w w2:=Gs ai aa;have m7:=Zc aa g7;have m3:=m7.cell 0;have m4:=m7.cell 1;have m5:=m7.frozen 0;have m6:=m7.frozen 1;simp at m3 m4;have HM:=Za m7;clear m7;go_wp2_with fail
   have HZ:sg na za.natAbs+sg (true) zb.natAbs=za-zb:=by
    have h1:=fQ.out;have h2:=fR.out;rw[Zh]at h1 h2;have h3:sg (true) zb.natAbs=- zb:=by unfold sg at h2 ⊢;simp at h2 ⊢;omega
    rw[h1,h3];omega
   exact EZ
  go_wp2_with fail;refine(Ze7 _ _ _ _ _ _ _ _ _ _ _ (by exact dD) (by exact dE) hn hm).mono ?_;rintro e w2 ⟨aa,dL,A2,n2,c2,ce,rfl,dG⟩;have aD:Below w.heap.size w w2:=Gs ai aa;have m7:=Zc aa g7;have m3:=m7.cell 0;have m4:=m7.cell 1;have m5:=m7.frozen 0;have m6:=m7.frozen 1;simp at m3 m4;have HM:=Za m7;clear m7;go_wp2_with fail
  have HZ:sg na za.natAbs+sg (false) zb.natAbs=za-zb:=by
   have h1:=fQ.out;have h2:=fR.out;rw[Zh]at h1 h2;have h3:sg (false) zb.natAbs=- zb:=by unfold sg at h2 ⊢;simp at h2 ⊢;omega
   rw[h1,h3];omega
  exact EZ
 obtain rfl:m=0:=Gk;have dV:zb.natAbs=0:=by have:=J.out;exact digits_eq_nil.1 (Qd this)
 have dV:=Za dV;cases nb;exact Eg;exact Eg
theorem Fr.keep{w W:World}{na:Bool}{A:Option Addr}{n c:Nat}{nb:Bool}{B:Option Addr}{m d:Nat}{r:Rat}(h:Fr w na A n c nb B m d r)(k:∀ na A n c z,Wd w na A n c z->Wd W na A n c z):Fr W na A n c nb B m d r:=⟨k _ _ _ _ _ h.1,k _ _ _ _ _ h.2⟩
theorem Z0m{x y z v:Int}(hx:x.natAbs<pw 1000)(hy:y.natAbs<pw 1000)(hz:z.natAbs<pw 1000)(hv:v.natAbs<pw 1000):(x*y+z*v).natAbs<pw 4096:=by
 exact IR
theorem Zwd(a b:Rat):Qm (a.num*b.den+b.num*a.den) ((a.den:Int)*(b.den:Nat))=a+b:=by
 have ha:((a.den:Nat):Int)≠0:=by have:=a.den_pos;omega
 have hb:((b.den:Nat):Int)≠0:=by have:=b.den_pos;omega
 rw[<- Rat.divInt_add_divInt _ _ ha hb,Qe,Qe]
theorem Cd{G:Prop}(h:G:=by
 exact⟨aU,_,_,_,_,_,_,_,_,rfl,kW _ _ _ _ _ hF.out.1,kW _ _ _ _ _ hF.out.2⟩):G:=h
theorem ED{G:Prop}(h:G:=by
 obtain⟨W7,iY,aU,q2,kW,-,s7⟩:=Z7 nx Ax kx cx ny Ay ky cy aS Gk hq.out;rw[iY];obtain⟨r0,r1,r2,r3,-⟩:=q2.four;refine bodyPost_ret (v:=.tuple #[.agg #[.bool nx,.slice Ax kx cx,.bool ny,.slice Ay ky cy],.int .i64 0]) (by simp[results,Tryz.results100,go_sem,r0,r1,r2,r3]) rfl ?_;exact Cd):G:=h
theorem Zu3(na nb na' nb':Bool)(A B A' B':Option Addr)(n c m d n' c' m' d':Nat)(a b:Rat)(w:World)(ha:Fr w na A n c nb B m d a)(hb:Fr w na' A' n' c' nb' B' m' d' b)(sa:Sm a)(sb:Sm b) :
    Calls Tryz.prog 100 #[.agg #[.bool na,.slice A n c,.bool nb,.slice B m d],.agg #[.bool na',.slice A' n' c',.bool nb',.slice B' m' d'],.bool false] w (Zep w (a+b)):=by
 rw[<- Zwd];have h1:=Za (Zbh sa.1 sb.dn);have h2:=Za (Zbh sb.1 sa.dn);have h3:=Za (Zbh sa.dn sb.dn);have h4:=Za (Z0m sa.1 sb.dn sb.1 sa.dn);have h5:=Za (Zug sa.1 sb.dn sb.1 sa.dn);have h6:=Za (Zci a b);obtain⟨W0,b7,O,⟨q0,q1,q2⟩,s0⟩:=Zb1 w 41 #[.bool na,.slice A n c,.bool nb,.slice B m d] 41 #[.bool na',.slice A' n' c',.bool nb',.slice B' m' d'] 41 #[.bool false,.slice none 0 0,.bool false,.slice none 0 0];have hA:=Za (ha.below O);have hD:=Za (hb.below O);clear ha hb sa sb;generalize hX:a.num*((b.den:Nat):Int)=X at *;generalize hY:b.num*((a.den:Nat):Int)=Y at *;generalize hZ:((a.den:Nat):Int)*((b.den:Nat):Int)=Z at *
 replace hX:=Za hX;replace hY:=Za hY;replace hZ:=Za hZ;obtain⟨a0,a1,a2,a3,-⟩:=q0.four;obtain⟨b0,b1,b2,b3,-⟩:=q1.four;have hq:=Za (Qb q0 (Qb q1 q2));clear q0 q1 q2;go_in;go_wp2_with fail;have hM:=Zej na nb' A B' n c m' d' a.num b.den W0 hA.out.1 hD.out.2;rw[hX.out]at hM;refine hM.mono ?_;clear hM;rintro e w1 ⟨J,n1,P1,k1,c1,code,rfl,hR⟩;have h:=Za (hR.small h1.out);have f:=hR.code0 h1.out;subst f;have a9:Below w.heap.size w w1:=Gs O J;have s1:W0.heap.size<=w1.heap.size:=J.size;replace hA:=Za (hA.out.below J);replace hD:=Za (hD.out.below J);obtain⟨q0,q1,q2⟩:=hq.out;replace q0:=Zc J q0;replace q1:=Zc J q1;replace q2:=Zc J q2;clear b7 J a0 a1 a2 a3 b0 b1 b2 b3 hq hR h1 O hX;obtain⟨W1,b6,U,r1,kW,kB,t1⟩:=Zp 39 #[.bool n1,.slice P1 k1 c1] a9 a9.size;replace q0:=kB _ _ _ q0;replace q1:=kB _ _ _ q1;replace q2:=kB _ _ _ q2;replace hA:=Za (hA.out.keep kW);replace hD:=Za (hD.out.keep kW);replace h:=Za (kW _ _ _ _ _ h.out);clear kW kB a9;obtain⟨a0,a1,a2,a3,-⟩:=q0.four;obtain⟨b0,b1,b2,b3,-⟩:=q1.four;have hq:=Za (Qb q0 (Qb q1 (Qb q2 r1)));clear q0 q1 q2 r1;go_wp2_with fail;have hM:=Zej na' nb A' B n' c' m d b.num a.den W1 hD.out.1 hA.out.2;rw[hY.out]at hM;refine hM.mono ?_;clear hM;rintro e w2 ⟨y,n2,P2,k2,c2,code,rfl,hR⟩;have u:=Za (hR.small h2.out);have f:=hR.code0 h2.out;subst f
 have a4:Below w.heap.size w w2:=Gs U y;have s2:W1.heap.size<=w2.heap.size:=y.size;replace hA:=Za (hA.out.below y);replace hD:=Za (hD.out.below y);obtain⟨q0,q1,q2,r1⟩:=hq.out;replace q0:=Zc y q0;replace q1:=Zc y q1;replace q2:=Zc y q2;replace r1:=Zc y r1;replace h:=Za (h.out.below y);clear b6 y a0 a1 a2 a3 b0 b1 b2 b3 hq hR h2 U hY;obtain⟨W2,b5,a5,r2,kW,kB,t2⟩:=Zp 39 #[.bool n2,.slice P2 k2 c2] a4 a4.size;replace q0:=kB _ _ _ q0;replace q1:=kB _ _ _ q1;replace q2:=kB _ _ _ q2;replace r1:=kB _ _ _ r1;replace hA:=Za (hA.out.keep kW);replace hD:=Za (hD.out.keep kW);replace h:=Za (kW _ _ _ _ _ h.out);replace u:=Za (kW _ _ _ _ _ u.out);clear kW kB a4;obtain⟨a0,a1,a2,a3,-⟩:=q0.four;obtain⟨b0,b1,b2,b3,-⟩:=q1.four;have hq:=Za (Qb q0 (Qb q1 (Qb q2 (Qb r1 r2))));clear q0 q1 q2 r1 r2;go_wp2_with fail;have hM:=Zej nb nb' B B' m d m' d' a.den b.den W2 hA.out.2 hD.out.2;rw[hZ.out]at hM;refine hM.mono ?_;clear hM;rintro e w3 ⟨o,n3,P3,k3,c3,code,rfl,hR⟩;have I:=Za (hR.small h3.out);have f:=hR.code0 h3.out;subst f;have a7:Below w.heap.size w w3:=Gs a5 o;have s3:W2.heap.size<=w3.heap.size:=o.size;replace hA:=Za (hA.out.below o);replace hD:=Za (hD.out.below o);obtain⟨q0,q1,q2,r1,r2⟩:=hq.out;replace q0:=Zc o q0;replace q1:=Zc o q1;replace q2:=Zc o q2;replace r1:=Zc o r1;replace r2:=Zc o r2;replace h:=Za (h.out.below o);replace u:=Za (u.out.below o);clear b5 o a0 a1 a2 a3 b0 b1 b2 b3 hq hR h3 a5 hZ;have hn:n3=false:=by rw[I.out.1];have:=h6.out;simp;omega
 subst hn;obtain⟨W3,b8,V,r3,kW,kB,t3⟩:=Zp 39 #[.bool false,.slice P3 k3 c3] a7 a7.size;replace q0:=kB _ _ _ q0;replace q1:=kB _ _ _ q1;replace q2:=kB _ _ _ q2;replace r1:=kB _ _ _ r1;replace r2:=kB _ _ _ r2;replace hA:=Za (hA.out.keep kW);replace hD:=Za (hD.out.keep kW);replace h:=Za (kW _ _ _ _ _ h.out);replace u:=Za (kW _ _ _ _ _ u.out);replace I:=Za (kW _ _ _ _ _ I.out);clear kW kB a7;obtain⟨a0,a1,a2,a3,-⟩:=q0.four;obtain⟨b0,b1,b2,b3,-⟩:=q1.four;clear a0 a1 a2 a3 b0 b1 b2 b3 hA hD q0 q1;obtain⟨x0,x1,-⟩:=r1.two;obtain⟨y0,y1,-⟩:=r2.two;have hq:=Za (Qb q2 (Qb r1 (Qb r2 r3)));clear q2 r1 r2 r3;go_wp2_with fail;refine(Zwy n1 n2 P1 P2 k1 c1 k2 c2 X Y W3 h.out u.out).mono ?_;rintro e w4 ⟨C,n4,P4,k4,c4,code,rfl,hR⟩;have a6:=Za (hR.small h4.out);have f:=hR.code0 h4.out;subst f;have a8:Below w.heap.size w w4:=Gs V C;have s4:W3.heap.size<=w4.heap.size:=C.size;obtain⟨q2,r1,r2,r3⟩:=hq.out;replace q2:=Zc C q2;replace r1:=Zc C r1;replace r2:=Zc C r2;replace r3:=Zc C r3;replace h:=Za (h.out.below C);replace u:=Za (u.out.below C);replace I:=Za (I.out.below C);clear b8 C x0 x1 y0 y1 hq hR h4 V;obtain⟨W4,c6,b4,r4,kW,kB,t4⟩:=Zp 39 #[.bool n4,.slice P4 k4 c4] a8 a8.size;replace q2:=kB _ _ _ q2;replace r1:=kB _ _ _ r1;replace r2:=kB _ _ _ r2;replace r3:=kB _ _ _ r3;replace h:=Za (kW _ _ _ _ _ h.out);replace u:=Za (kW _ _ _ _ _ u.out)
 replace I:=Za (kW _ _ _ _ _ I.out);replace a6:=Za (kW _ _ _ _ _ a6.out);clear kW kB a8;obtain⟨x0,x1,-⟩:=r4.two;obtain⟨y0,y1,-⟩:=r3.two;have hq:=Za q2;clear q2 r1 r2 r3 r4;go_wp2_with fail;refine(Zey n4 P4 P3 k4 c4 k3 c3 _ _ W4 a6.out I.out h6.out).mono ?_;rintro e w6 ⟨T,nx,Ax,kx,cx,ny,Ay,ky,cy,rfl,hF⟩;have aS:Below w.heap.size w w6:=Gs b4 T;have s6:W4.heap.size<=w6.heap.size:=T.size;replace hq:=Gm T hq;replace hF:=Za hF;clear x0 x1 y0 y1 T;obtain⟨d3,c7,c5,d0,c9,b9,c8,c0⟩:=hq.out.four;go_wp2_with fail;exact ED
theorem Zvw(na nb na' nb':Bool)(A B A' B':Option Addr)(n c m d n' c' m' d':Nat)(a b:Rat)(w:World)(ha:Fr w na A n c nb B m d a)(hb:Fr w na' A' n' c' nb' B' m' d' b)(sa:Sm a)(sb:Sm b) :
    Calls Tryz.prog 100 #[.agg #[.bool na,.slice A n c,.bool nb,.slice B m d],.agg #[.bool na',.slice A' n' c',.bool nb',.slice B' m' d'],.bool true] w (Zep w (a-b)):=by
 rw[<- Zqz];have h1:=Za (Zbh sa.1 sb.dn);have h2:=Za (Zbh sb.1 sa.dn);have h3:=Za (Zbh sa.dn sb.dn);have h4:=Za (Z0m sa.1 sb.dn sb.1 sa.dn);have h5:=Za (Zug sa.1 sb.dn sb.1 sa.dn);have h6:=Za (Zci a b);obtain⟨W0,d3,T,⟨q0,q1,q2⟩,s0⟩:=Zb1 w 41 #[.bool na,.slice A n c,.bool nb,.slice B m d] 41 #[.bool na',.slice A' n' c',.bool nb',.slice B' m' d'] 41 #[.bool false,.slice none 0 0,.bool false,.slice none 0 0];have hA:=Za (ha.below T);have hD:=Za (hb.below T);clear ha hb sa sb;generalize hX:a.num*((b.den:Nat):Int)=X at *;generalize hY:b.num*((a.den:Nat):Int)=Y at *;generalize hZ:((a.den:Nat):Int)*((b.den:Nat):Int)=Z at *
 replace hX:=Za hX;replace hY:=Za hY;replace hZ:=Za hZ;obtain⟨a0,a1,a2,a3,-⟩:=q0.four;obtain⟨b0,b1,b2,b3,-⟩:=q1.four;have hq:=Za (Qb q0 (Qb q1 q2));clear q0 q1 q2;go_in;go_wp2_with fail;have hM:=Zej na nb' A B' n c m' d' a.num b.den W0 hA.out.1 hD.out.2;rw[hX.out]at hM;refine hM.mono ?_;clear hM;rintro e w1 ⟨J,n1,P1,k1,c1,code,rfl,hR⟩;have h:=Za (hR.small h1.out);have f:=hR.code0 h1.out;subst f;have b6:Below w.heap.size w w1:=Gs T J;have s1:W0.heap.size<=w1.heap.size:=J.size;replace hA:=Za (hA.out.below J);replace hD:=Za (hD.out.below J);obtain⟨q0,q1,q2⟩:=hq.out;replace q0:=Zc J q0;replace q1:=Zc J q1;replace q2:=Zc J q2;clear d3 J a0 a1 a2 a3 b0 b1 b2 b3 hq hR h1 T hX;obtain⟨W1,d0,V,r1,kW,kB,t1⟩:=Zp 39 #[.bool n1,.slice P1 k1 c1] b6 b6.size;replace q0:=kB _ _ _ q0;replace q1:=kB _ _ _ q1;replace q2:=kB _ _ _ q2;replace hA:=Za (hA.out.keep kW);replace hD:=Za (hD.out.keep kW);replace h:=Za (kW _ _ _ _ _ h.out);clear kW kB b6;obtain⟨a0,a1,a2,a3,-⟩:=q0.four;obtain⟨b0,b1,b2,b3,-⟩:=q1.four;have hq:=Za (Qb q0 (Qb q1 (Qb q2 r1)));clear q0 q1 q2 r1;go_wp2_with fail;have hM:=Zej na' nb A' B n' c' m d b.num a.den W1 hD.out.1 hA.out.2;rw[hY.out]at hM;refine hM.mono ?_;clear hM;rintro e w2 ⟨C,n2,P2,k2,c2,code,rfl,hR⟩;have o:=Za (hR.small h2.out);have f:=hR.code0 h2.out;subst f
 have a5:Below w.heap.size w w2:=Gs V C;have s2:W1.heap.size<=w2.heap.size:=C.size;replace hA:=Za (hA.out.below C);replace hD:=Za (hD.out.below C);obtain⟨q0,q1,q2,r1⟩:=hq.out;replace q0:=Zc C q0;replace q1:=Zc C q1;replace q2:=Zc C q2;replace r1:=Zc C r1;replace h:=Za (h.out.below C);clear d0 C a0 a1 a2 a3 b0 b1 b2 b3 hq hR h2 V hY;obtain⟨W2,c9,a7,r2,kW,kB,t2⟩:=Zp 39 #[.bool n2,.slice P2 k2 c2] a5 a5.size;replace q0:=kB _ _ _ q0;replace q1:=kB _ _ _ q1;replace q2:=kB _ _ _ q2;replace r1:=kB _ _ _ r1;replace hA:=Za (hA.out.keep kW);replace hD:=Za (hD.out.keep kW);replace h:=Za (kW _ _ _ _ _ h.out);replace o:=Za (kW _ _ _ _ _ o.out);clear kW kB a5;obtain⟨a0,a1,a2,a3,-⟩:=q0.four;obtain⟨b0,b1,b2,b3,-⟩:=q1.four;have hq:=Za (Qb q0 (Qb q1 (Qb q2 (Qb r1 r2))));clear q0 q1 q2 r1 r2;go_wp2_with fail;have hM:=Zej nb nb' B B' m d m' d' a.den b.den W2 hA.out.2 hD.out.2;rw[hZ.out]at hM;refine hM.mono ?_;clear hM;rintro e w3 ⟨u,n3,P3,k3,c3,code,rfl,hR⟩;have y:=Za (hR.small h3.out);have f:=hR.code0 h3.out;subst f;have b4:Below w.heap.size w w3:=Gs a7 u;have s3:W2.heap.size<=w3.heap.size:=u.size;replace hA:=Za (hA.out.below u);replace hD:=Za (hD.out.below u);obtain⟨q0,q1,q2,r1,r2⟩:=hq.out;replace q0:=Zc u q0;replace q1:=Zc u q1;replace q2:=Zc u q2;replace r1:=Zc u r1;replace r2:=Zc u r2;replace h:=Za (h.out.below u);replace o:=Za (o.out.below u);clear c9 u a0 a1 a2 a3 b0 b1 b2 b3 hq hR h3 a7 hZ;have hn:n3=false:=by rw[y.out.1];have:=h6.out;simp;omega
 subst hn;obtain⟨W3,d4,a4,r3,kW,kB,t3⟩:=Zp 39 #[.bool false,.slice P3 k3 c3] b4 b4.size;replace q0:=kB _ _ _ q0;replace q1:=kB _ _ _ q1;replace q2:=kB _ _ _ q2;replace r1:=kB _ _ _ r1;replace r2:=kB _ _ _ r2;replace hA:=Za (hA.out.keep kW);replace hD:=Za (hD.out.keep kW);replace h:=Za (kW _ _ _ _ _ h.out);replace o:=Za (kW _ _ _ _ _ o.out);replace y:=Za (kW _ _ _ _ _ y.out);clear kW kB b4;obtain⟨a0,a1,a2,a3,-⟩:=q0.four;obtain⟨b0,b1,b2,b3,-⟩:=q1.four;clear a0 a1 a2 a3 b0 b1 b2 b3 hA hD q0 q1;obtain⟨x0,x1,-⟩:=r1.two;obtain⟨y0,y1,-⟩:=r2.two;have hq:=Za (Qb q2 (Qb r1 (Qb r2 r3)));clear q2 r1 r2 r3;go_wp2_with fail;refine(Zwy n1 n2 P1 P2 k1 c1 k2 c2 X Y W3 h.out o.out).mono ?_;rintro e w4 ⟨I,n4,P4,k4,c4,code,rfl,hR⟩;have a8:=Za (hR.small h4.out);have f:=hR.code0 h4.out;subst f;have b5:Below w.heap.size w w4:=Gs a4 I;have s4:W3.heap.size<=w4.heap.size:=I.size;obtain⟨q2,r1,r2,r3⟩:=hq.out;replace q2:=Zc I q2;replace r1:=Zc I r1;replace r2:=Zc I r2;replace r3:=Zc I r3;replace h:=Za (h.out.below I);replace o:=Za (o.out.below I);replace y:=Za (y.out.below I);clear d4 I x0 x1 y0 y1 hq hR h4 a4;obtain⟨W4,c8,a6,r4,kW,kB,t4⟩:=Zp 39 #[.bool n4,.slice P4 k4 c4] b5 b5.size;replace q2:=kB _ _ _ q2;replace r1:=kB _ _ _ r1;replace r2:=kB _ _ _ r2;replace r3:=kB _ _ _ r3;replace h:=Za (kW _ _ _ _ _ h.out);replace o:=Za (kW _ _ _ _ _ o.out)
 replace y:=Za (kW _ _ _ _ _ y.out);replace a8:=Za (kW _ _ _ _ _ a8.out);clear kW kB b5;obtain⟨x0,x1,-⟩:=r1.two;obtain⟨y0,y1,-⟩:=r2.two;have hq:=Za (Qb q2 (Qb r3 r4));clear q2 r1 r2 r3 r4 a8;go_wp2_with fail;refine(rSub_ok n1 n2 P1 P2 k1 c1 k2 c2 X Y W4 h.out o.out).mono ?_;rintro e w5 ⟨O,n5,P5,k5,c5,code,rfl,hR⟩;have b7:=Za (hR.small h5.out);have f:=hR.code0 h5.out;subst f;have a9:Below w.heap.size w w5:=Gs a6 O;have s5:W4.heap.size<=w5.heap.size:=O.size;obtain⟨q2,r3,r4⟩:=hq.out;replace q2:=Zc O q2;replace r3:=Zc O r3;replace r4:=Zc O r4;replace y:=Za (y.out.below O);clear c8 O x0 x1 y0 y1 hq hR h5 a6 h o;obtain⟨WS,d6,c0,r5,kW,kB,tS⟩:=Zar n5 P5 k5 c5 a9 (by have:=a9.size;omega) r4;obtain⟨-,-,f0,f1⟩:=r4.two;obtain⟨v0,v1,-⟩:=r4.two;have c7:=kB _ _ _ Gk q2;have b9:=kB _ _ _ Gk r3;have b8:=Za (kW _ _ _ _ _ y.out);have c6:=Za (kW _ _ _ _ _ b7.out);clear kW kB q2 r3 r4 y b7 a9;obtain⟨x0,x1,-⟩:=r5.two;obtain⟨y0,y1,-⟩:=b9.two;have hq:=Za c7;clear c7 r5 b9;go_wp2_with fail;refine(Zey n5 P5 P3 k5 c5 k3 c3 _ _ WS c6.out b8.out h6.out).mono ?_;rintro e w6 ⟨U,nx,Ax,kx,cx,ny,Ay,ky,cy,rfl,hF⟩;have aS:Below w.heap.size w w6:=Gs c0 U;have s6:WS.heap.size<=w6.heap.size:=U.size;replace hq:=Gm U hq;replace hF:=Za hF;clear x0 x1 y0 y1 U;obtain⟨e3,d9,d8,e2,e1,d5,e0,d7⟩:=hq.out.four;go_wp2_with fail;exact ED
structure FE where
 na:Bool
 A:Option Addr
 n:Nat
 c:Nat
 nb:Bool
 B:Option Addr
 m:Nat
 d:Nat
 q:Rat
def FE.in_(w:World)(e:FE):Prop:=Fr w e.na e.A e.n e.c e.nb e.B e.m e.d e.q
def Zo:List FE->List Value
 | []=>[]
 | e::l=>.bool e.na :: .slice e.A e.n e.c :: .bool e.nb :: .slice e.B e.m e.d::Zo l
def Z0(es:List FE):Array Value:=(Zo es).toArray
theorem Zq(es:List FE):(Zo es).length=es.length*4:=by
 induction es with
 | nil=>rfl
 | cons e l ih=>simp only[Zo,List.length_cons,ih];omega
theorem Zfj{es:List FE}{i:Nat}{e:FE}(h:es[i]?=some e):(Zo es)[i*4]?=some (.bool e.na)/\(Zo es)[i*4+1]?=some (.slice e.A e.n e.c)/\(Zo es)[i*4+2]?=some (.bool e.nb)/\(Zo es)[i*4+3]?=some (.slice e.B e.m e.d):=by
 induction es generalizing i with
 | nil=>simp at h
 | cons x l ih =>
  cases i with
  | zero=>simp at h;subst h;simp[Zo]
  | succ i =>
   have:=ih (by simpa using h);rw[show (i+1)*4=i*4+4 by omega];simpa [Zo]using this
theorem Zoi(es:List FE):∀ (i x:Nat),(Zo es)[i]?≠some (limb x):=by
 induction es with
 | nil=>intro i x;simp[Zo]
 | cons e l ih =>
  intro i x
  match i with
  | 0=>simp[Zo]
  | 1=>simp[Zo]
  | 2=>simp[Zo]
  | 3=>simp[Zo]
  | i+4=>simpa [Zo]using ih i x
theorem Zd2{es:List FE}{i:Nat}{e:FE}(h:es[i]?=some e):(Z0 es)[i*4]?=some (.bool e.na)/\(Z0 es)[i*4+1]?=some (.slice e.A e.n e.c)/\(Z0 es)[i*4+2]?=some (.bool e.nb)/\(Z0 es)[i*4+3]?=some (.slice e.B e.m e.d):=by
 simpa [Z0]using Zfj h
theorem Zcb(es:List FE):NoLimb (Z0 es):=λi x=>by simpa [Z0]using Zoi es i x
def Zau:FE:=⟨false,none,0,0,false,none,0,0,0⟩
theorem Zaj(es fs:List FE):Zo (es++fs)=Zo es++Zo fs:=by
 induction es with
 | nil=>rfl
 | cons e l ih=>simp only[List.cons_append,Zo,ih]
theorem Zjk(fs:List FE):∀ u ∈ Zo fs,u.oneCell'=true:=by
 induction fs with
 | nil=>intro u h;simp[Zo]at h
 | cons e l ih =>
  intro u h;simp only[Zo,List.mem_cons]at h;rcases h with rfl|rfl|rfl|rfl|h;rfl;rfl;rfl;rfl;exact ih u h
theorem Zd8(k:Nat):(Qx #[.bool false,.slice none 0 0,.bool false,.slice none 0 0] k).toList=Zo (Qk k Zau):=by
 unfold Qx;apply List.ext_getElem?;intro i;by_cases h:i<k*4
 ·have he:(Qk k Zau)[i/4]?=some Zau:=by rw[List.getElem?_replicate,Gx Gk]
  have hc:=Zfj he;have h4:i%4=0 \/ i%4=1 \/ i%4=2 \/ i%4=3:=Gk;rcases h4 with h2|h2|h2|h2;rw[show i/4*4=i by omega]at hc;rw[hc.1];simp[h,h2,Zau];rw[show i/4*4+1=i by omega]at hc;rw[hc.2.1];simp[h,h2,Zau];rw[show i/4*4+2=i by omega]at hc;rw[hc.2.2.1];simp[h,h2,Zau];rw[show i/4*4+3=i by omega]at hc;rw[hc.2.2.2];simp[h,h2,Zau]
 rw[Qs Gg,Qs (by rw[Zq];simp;omega)]
def RowF(t:TypeId)(w:World)(base:Nat)(v:Value)(es:List FE):Prop:=
 (v=.slice none 0 0/\es=[]) \/ ∃ g sp,v=.slice (some ⟨g,0,none⟩) es.length (es.length+sp)/\base<=g/\es.length+sp<=maxLen/\Blk w g t (Z0 (es++Qk sp Zau))
section
variable{t:TypeId}{w w':World}{base:Nat}{v:Value}{es:List FE}
theorem RowF.own(h:RowF t w base v es):w.ownsRow base t 4 v es.length (Zo es):=by
 refine⟨Zq es,?_⟩;rcases h with ⟨h1,rfl⟩|⟨g,sp,h1,h2,h3,h4⟩;exact .inl ⟨h1,rfl⟩;refine .inr ⟨g,_,_,h1,h2,h4,Qz _ _,h3,?_,?_⟩;simp[Z0,Zq];simp only[Z0];rw[Zaj,<- Zq es];exact List.take_left
theorem RowF.row_ge(h:RowF t w base v es):∀ k,v.ownBlock=some k->base<=k:=λk hk=>(h.own.lt k hk).1
theorem FK{G:Prop}(h:G:=by
 rcases h with h|⟨g,sp,h1,h2,h3,h4⟩;exact .inl h;exact .inr ⟨g,sp,h1,h2,h3,Zc hb h4⟩):G:=h
theorem RowF.kept(h:RowF t w base v es)(hb:Below w.heap.size w w'):RowF t w' base v es:=by
 exact FK
theorem RowF.keep(h:RowF t w base v es)(hg:w.grownBy w' v.ownBlock){A:Option Addr}{n c:Nat}{l:List Nat}(hL:Lim w A n c l):Lim w' A n c l:=by
 refine⟨hL.1,hL.2.1,hL.2.2.1,hL.2.2.2.1,λhn=>?_⟩;obtain⟨b,o,e,hc⟩:=hL.2.2.2.2 hn;refine⟨b,o,e,λk hk=>?_⟩;rw[<- hc k hk];refine World.cell?_of_block (hg.block b (Zn (hc k hk)) (λe'=>?_));rcases h with ⟨rfl,_⟩|⟨g,sp,rfl,_,_,h4⟩;cases e';have f:b=g:=by simpa [Value.ownBlock]using e'
 subst f;have h1:=hc k hk;rw[h4.cell]at h1;exact Zcb _ _ _ h1
end
section
variable{P:Program}(w:World)
theorem Fi{G:Prop}(h:G:=by
 rw[List.getElem?_append_left (by rw[List.getElem?_eq_some_iff]at hu;exact hu.1)];exact hu):G:=h
theorem EN{G:Prop}(h:G:=by
 refine(setRow_heap w g _ _ e _ h4).trans ?_;congr 2;unfold Z0;congr 1;rw[dR];have fM:List.replicate sp Zau=List.replicate m Zau++List.replicate (sp-m) Zau:=by rw[List.replicate_append_replicate];congr 1;omega
 have jc:(Zo fs).length=(Zo (List.replicate m Zau)).length:=by rw[Zq,Zq,hm,List.length_replicate]
 simp only[Zaj];rw[List.take_left,jc,<- List.length_append,fM,Zaj,<- List.append_assoc (Zo es),List.drop_left,List.append_assoc]):G:=h
theorem CI{G:Prop}(h:G:=by
 simp[Builtin.append_,run_underlying ht,sizeOf,typeInfo,hi,Builtin.lenOf,Builtin.firstCells,loadCells,loadCellsFrom]):G:=h
theorem CK{G:Prop}(h:G:=by
 simp[Builtin.append_,run_underlying ht,sizeOf,typeInfo,hi,Builtin.lenOf,Builtin.firstCells,loadCells,loadCellsFrom,storeCells]):G:=h
theorem EW{G:Prop}(h:G:=by
 have hf:=run_firstCells_some (P:=P) w i.size 0 ad 0 c [] Gh Gh;rcases aq with ⟨rfl,rfl⟩|⟨g,sp,rfl,h2,h3,h4⟩
 ·refine⟨.slice none 0 0,w,?_,.inl ⟨rfl,rfl⟩,World.grownBy.refl w _⟩
  exact CI
 refine⟨_,w,?_,.inr ⟨g,sp,rfl,h2,h3,h4⟩,World.grownBy.refl w _⟩;exact CK):G:=h
theorem Eb{G:Prop}(h:G:=by
 have:=heap_alloc_new w.drew (.cells ((Zo fs).toArray++Builtin.zeroCells (Value.agg #[.bool false,.slice none 0 0,.bool false,.slice none 0 0]).cells (grownCap w m 0 e-m)) e);unfold Blk;refine this.trans ?_;congr 1
 have hx:(Zo fs).toArray++Builtin.zeroCells (Value.agg #[.bool false,.slice none 0 0,.bool false,.slice none 0 0]).cells (grownCap w m 0 e-m)=Z0 ([]++fs++List.replicate (grownCap w m 0 e-m) Zau):=by
  apply Array.toList_inj.1;rw[Array.toList_append,show (Value.agg #[.bool false,.slice none 0 0,.bool false,.slice none 0 0]).cells=#[.bool false,.slice none 0 0,.bool false,.slice none 0 0] from rfl,Zd8];simp[Z0,Zaj]
 rw[hx]):G:=h
theorem Ej{G:Prop}(h:G:=by
 have:=heap_alloc_new w.drew (.cells ((Zo es).toArray++(Zo fs).toArray++Builtin.zeroCells (Value.agg #[.bool false,.slice none 0 0,.bool false,.slice none 0 0]).cells (grownCap w (es.length+m) (es.length+sp) e-(es.length+m))) e);unfold Blk;refine this.trans ?_;congr 1
 have hx:(Zo es).toArray++(Zo fs).toArray++Builtin.zeroCells (Value.agg #[.bool false,.slice none 0 0,.bool false,.slice none 0 0]).cells (grownCap w (es.length+m) (es.length+sp) e-(es.length+m))=Z0 (es++fs++List.replicate (grownCap w (es.length+m) (es.length+sp) e-(es.length+m)) Zau):=by
  apply Array.toList_inj.1;rw[Array.toList_append,Array.toList_append,show (Value.agg #[.bool false,.slice none 0 0,.bool false,.slice none 0 0]).cells=#[.bool false,.slice none 0 0,.bool false,.slice none 0 0] from rfl,Zd8];simp[Z0,Zaj]
 rw[hx]):G:=h
theorem Zlr(base:Nat)(t ty e:TypeId)(i:TypeInfo)(ht:P.underlying t=some (.slice e))(hi:P.info? e=some i)(hz:i.zero=some (.agg #[.bool false,.slice none 0 0,.bool false,.slice none 0 0]))
    (hs:i.size=4) (hby:i.bytes=64) (v:Value) (es:List FE) (aq:RowF e w base v es)
    (B:Nat) (A:Option Addr) (m c:Nat) (fs:List FE) (hr:Reads w B 4 A m (Zo fs)) (hm:fs.length=m) (h63:es.length+m<=1000) (hbase:base<=w.heap.size) :
    ∃ v' w',(Builtin.append_ #[t,t] ty #[v,.slice A m c]).run P w=.ok v' w'/\RowF e w' base v' (es++fs)/\w.grownBy w' v.ownBlock:=by
 rcases Nat.eq_zero_or_pos m with h0|h0
 ·subst h0
  obtain rfl:fs=[]:=Qd hm;rw[List.append_nil];rcases A with _|ad;exact⟨v,w,Zch w base t ty e i 4 ht hi v _ _ aq.own c,aq,World.grownBy.refl w _⟩;exact EW
 obtain⟨ad,rfl,_,hc⟩:=hr.2 h0;have hl:(Zo fs).length=m*i.size:=by rw[Zq,hm,hs]
 have dR:es.length*i.size=(Zo es).length:=by rw[Zq,hs]
 rcases aq with ⟨rfl,rfl⟩|⟨g,sp,rfl,h2,h3,h4⟩
 ·have f:=run_append_nil (P:=P) w t ty e i _ ht hi hz ad m c (Zo fs) hl hc h0 Gk (by rw[hby];omega)
  have h:=grownCap_ge w m 0 e;have o:=grownCap_le_maxLen w m 0 e (by unfold maxLen;simp only[List.length_nil]at h63;omega);refine⟨_,_,f,.inr ⟨w.heap.size,grownCap w m 0 e-m,?_,hbase,?_,?_⟩,⟨rfl,rfl,rfl,by simp,λk hk _=>Below.heap_alloc w.drew _ k hk⟩⟩;rw[QA,hm,Qh h];rw[QA,hm,Qh h];exact o;exact Eb
 by_cases hroom:m<=sp
 ·have f:=run_append_room (P:=P) w t ty e i ht hi g es.length (es.length+sp) _ h4 ad m c (Zo fs) hl hc (Zjk fs) Gk (by rw[dR,Zq,Zq];simp[Z0,Zq];omega)
  refine⟨_,_,f,.inr ⟨g,sp-m,?_,h2,?_,?_⟩,⟨rfl,rfl,rfl,by simp[World.setRow],λk _ hk=>setRow_other w g k _ (λe'=>hk (by simp[Value.ownBlock,e']))⟩⟩;rw[Qi,hm,show es.length+m+(sp-m)=es.length+sp by omega];rw[Qi,hm];omega;exact EN
 have y:∀ j u,(Zo es)[j]?=some u->w.cell? ((⟨g,0,none⟩:Addr).add j)=some u:=λj u hu=>by
   rw[Zg,Qu,h4.cell];simp only[Z0,List.getElem?_toArray,Zaj];exact Fi
 have f:=run_append_grow (P:=P) w t ty e i _ ht hi hz ⟨g,0,none⟩ es.length (es.length+sp) (Zo es) dR.symm y ad m c (Zo fs) hl hc Gk Gk (growslice_fits Gk (by rw[hby];omega));have h:=grownCap_ge w (es.length+m) (es.length+sp) e;have o:=grownCap_le_maxLen w (es.length+m) (es.length+sp) e (by unfold maxLen;omega);refine⟨_,_,f,.inr ⟨w.heap.size,grownCap w (es.length+m) (es.length+sp) e-(es.length+m),?_,hbase,?_,?_⟩,⟨rfl,rfl,rfl,by simp,λk hk _=>Below.heap_alloc w.drew _ k hk⟩⟩;rw[Qi,hm,Qh h];rw[Qi,hm,Qh h];exact o;exact Ej
end
def OwnF(t:TypeId)(w:World)(base:Nat)(v:Value)(qs:List Rat):Prop:=∃ es,RowF t w base v es/\(∀ e ∈ es,e.in_ w)/\es.map FE.q=qs
theorem Fr.of_keep{w w':World}{na:Bool}{A:Option Addr}{n c:Nat}{nb:Bool}{B:Option Addr}{m d:Nat}{r:Rat}(h:Fr w na A n c nb B m d r)(hk:∀ (A:Option Addr) (n c:Nat) (l:List Nat),Lim w A n c l->Lim w' A n c l):Fr w' na A n c nb B m d r:=⟨⟨h.1.1,h.1.2.1,hk _ _ _ _ h.1.2.2⟩,⟨h.2.1,h.2.2.1,hk _ _ _ _ h.2.2.2⟩⟩
section
variable{t:TypeId}{w w':World}{base:Nat}{v:Value}{qs:List Rat}
theorem OwnF.nil(t:TypeId)(w:World)(base:Nat):OwnF t w base (.slice none 0 0) []:=⟨[],.inl ⟨rfl,rfl⟩,λe h=>by simp at h,rfl⟩
theorem OwnF.kept(h:OwnF t w base v qs)(hb:Below w.heap.size w w'):OwnF t w' base v qs:=by
 obtain⟨es,h1,h2,h3⟩:=h;exact⟨es,h1.kept hb,λe he=>(h2 e he).below hb,h3⟩
theorem OwnF.row_ge(h:OwnF t w base v qs):∀ k,v.ownBlock=some k->base<=k:=by obtain⟨es,h1,_⟩:=h;exact h1.row_ge
def FL(w:World)(A:Option Addr)(n c:Nat)(qs:List Rat):Prop:=
 ∃ es:List FE,es.length=n/\n<=c/\c<=maxLen/\(∀ e ∈ es,e.in_ w)/\es.map FE.q=qs/\(0<n->∃ g o,A=some ⟨g,o,none⟩/\∀ (k:Nat) (e:FE),es[k]?=some e->w.cell? ⟨g,o+k*4,none⟩=some (.bool e.na)/\w.cell? ⟨g,o+(k*4+1),none⟩=some (.slice e.A e.n e.c)/\w.cell? ⟨g,o+(k*4+2),none⟩=some (.bool e.nb)/\w.cell? ⟨g,o+(k*4+3),none⟩=some (.slice e.B e.m e.d))
theorem OwnF.fl(h:OwnF t w base v qs):∃ A c,v=.slice A qs.length c/\FL w A qs.length c qs:=by
 obtain⟨es,h1,h2,rfl⟩:=h;rcases h1 with ⟨rfl,rfl⟩|⟨g,sp,rfl,h4,h5,h6⟩;exact⟨none,0,rfl,[],rfl,Qr _,Qy _,λe h=>by simp at h,rfl,λh=>absurd h Gh⟩;rw[Qq];refine⟨_,es.length+sp,rfl,es,rfl,Qz _ _,h5,h2,rfl,λ_=>⟨g,0,rfl,λk e he=>?_⟩⟩;have hk:k<es.length:=(List.getElem?_eq_some_iff.1 he).1;have hc:=Zd2 (es:=es++Qk sp Zau) (i:=k) (e:=e) (by rw[List.getElem?_append_left hk];exact he);simp only[Qu,h6.cell];exact hc
theorem FL.below{A:Option Addr}{n c:Nat}(h:FL w A n c qs)(hb:Below w.heap.size w w'):FL w' A n c qs:=by
 obtain⟨es,h1,h2,h3,h4,h5,h6⟩:=h;refine⟨es,h1,h2,h3,λe he=>(h4 e he).below hb,h5,λhn=>?_⟩;obtain⟨g,o,e1,hc⟩:=h6 hn;refine⟨g,o,e1,λk e he=>?_⟩;obtain⟨a,b,c',d⟩:=hc k e he;exact⟨(hb.cell (Zn a)).trans a,(hb.cell (Zn b)).trans b,(hb.cell (Zn c')).trans c',(hb.cell (Zn d)).trans d⟩
end
theorem Zcw{w:World}{g:Nat}{t:TypeId}{na:Bool}{A:Option Addr}{n c:Nat}{nb:Bool}{B:Option Addr}{m d:Nat}(q:Rat)(h:Blk w g t #[.bool na,.slice A n c,.bool nb,.slice B m d]):Reads w (g+1) 4 (some ⟨g,0,none⟩) 1 (Zo [⟨na,A,n,c,nb,B,m,d,q⟩]):=
 ⟨rfl,λ_=>⟨_,rfl,Nat.lt_succ_self _,λj u hu=>by
  rw[Zg,Qu,h.cell];simpa [Zo]using hu⟩⟩
section
variable{P:Program}(w:World)
theorem IE{G:Prop}(h:G:=by
 rcases List.mem_append.1 he with he|he;exact(h2 e he).of_keep hk;exact(ib e he).of_keep hk):G:=h
theorem Zhi{o:Oper}{a:Act}{K:Act->World->Prop}{Q:Exit->Act->World->Prop}(s x:Operand)(t:TypeId)
    (ho:o.op=.call { callee:=.builtin .append,args:=#[s,x],argTypes:=#[t,t] })
    (base:Nat) (e:TypeId) (i:TypeInfo) (ht:P.underlying t=some (.slice e)) (hi:P.info? e=some i) (hz:i.zero=some (.agg #[.bool false,.slice none 0 0,.bool false,.slice none 0 0])) (hsi:i.size=4) (hby:i.bytes=64)
    (v:Value) (qs:List Rat) (hs:a.eval s=v) (hown:OwnF e w base v qs)
    (B:Nat) (A:Option Addr) (m c:Nat) (fs:List FE) (hx:a.eval x=.slice A m c) (hr:Reads w B 4 A m (Zo fs)) (hm:fs.length=m) (ib:∀ e ∈ fs,e.in_ w)
    (h63:qs.length+m<=1000) (hbase:base<=w.heap.size)
    (h:∀ v' w',OwnF e w' base v' (qs++fs.map FE.q)->w.grownBy w' v.ownBlock->(∀ (A:Option Addr) (n c:Nat) (l:List Nat),Lim w A n c l->Lim w' A n c l)->K (a.put o.dst v') w'):o.wp P a w K Q:=by
 obtain⟨es,h1,h2,rfl⟩:=hown;rw[Qq]at h63;obtain⟨v',w',f,h3,h4⟩:=Zlr (P:=P) w base t o.type e i ht hi hz hsi hby v es h1 B A m c fs hr hm h63 hbase;unfold Oper.wp execOp;simp only[ho,resolve,invoke,builtin,Sem.run_bind,Sem.run_pure,Result.andThen_ok,List.map_toArray,List.map_cons,List.map_nil,hs,hx,f];have hk:∀ (A:Option Addr) (n c:Nat) (l:List Nat),Lim w A n c l->Lim w' A n c l:=λ_ _ _ _ hL=>h1.keep h4 hL;refine h v' w' ⟨es++fs,h3,λe he=>?_,by rw[List.map_append]⟩ h4 hk;exact IE
theorem Zds{ops:Array Oper}{rest:List Oper}{o:Oper}{a:Act}{Q:Exit->Act->World->Prop}(hgd:o.guard=none)(s x:Operand)(t:TypeId)
    (ho:o.op=.call { callee:=.builtin .append,args:=#[s,x],argTypes:=#[t,t] })
    (base:Nat) (e:TypeId) (i:TypeInfo) (ht:P.underlying t=some (.slice e)) (hi:P.info? e=some i) (hz:i.zero=some (.agg #[.bool false,.slice none 0 0,.bool false,.slice none 0 0])) (hsi:i.size=4) (hby:i.bytes=64)
    (v:Value) (qs:List Rat) (hs:a.eval s=v) (hown:OwnF e w base v qs)
    (B:Nat) (A:Option Addr) (m c:Nat) (fs:List FE) (hx:a.eval x=.slice A m c) (hr:Reads w B 4 A m (Zo fs)) (hm:fs.length=m) (hfs:∀ e ∈ fs,e.in_ w)
    (h63:qs.length+m<=1000) (hbase:base<=w.heap.size)
    (h:∀ v' w',OwnF e w' base v' (qs++fs.map FE.q)->w.grownBy w' v.ownBlock->(∀ (A:Option Addr) (n c:Nat) (l:List Nat),Lim w A n c l->Lim w' A n c l)->wpList P ops Q rest (a.put o.dst v') w'):wpList P ops Q (o::rest) a w:=
 wpList_plain hgd λ_ hK=>Zhi w s x t ho base e i ht hi hz hsi hby v qs hs hown B A m c fs hx hr hm hfs h63 hbase λv' w' h2 h3 h4=>hK _ _ (h v' w' h2 h3 h4)
end
def okF(na:Bool)(la:List Nat)(nb:Bool)(lb:List Nat):Bool:=okW na la && okW nb lb && !nb && decide (0<lb.length) && decide (Qw (val la) (val lb)=1)
def qOf(na:Bool)(la lb:List Nat):Rat:=Qm (sg na (val la)) (val lb:Nat)
theorem Zqq{w:World}{na nb:Bool}{A B:Option Addr}{n c m d:Nat}{la lb:List Nat}(ha:Lim w A n c la)(hb:Lim w B m d lb)(hk:okF na la nb lb=true):Fr w na A n c nb B m d (qOf na la lb):=by
 simp only[okF,Qo,Bool.not_eq_true',decide_eq_true_eq]at hk;obtain⟨⟨⟨⟨k1,k2⟩,rfl⟩,k4⟩,k5⟩:=hk;have h2:=(Zjs hb.lt).1 k2;have e2:(sg false (val lb)).natAbs=val lb:=Z8 _ _;rw[e2]at h2
 have hp:0<val lb:=by
  rw[h2.2.2]at k4;exact length_digits_pos.1 k4
 have hl:Low (sg na (val la)) (val lb:Nat):=⟨by omega,by rw[Z8,Qj];exact k5⟩;obtain⟨r1,r2⟩:=rat_low hl;have w1:=Wd.of_ok ha k1;have w2:=Wd.of_ok hb k2;have e3:sg false (val lb)=(val lb:Nat):=rfl;rw[e3]at w2;refine⟨?_,?_⟩;unfold qOf;rw[r1];exact w1;unfold qOf;rw[r2];exact w2
theorem Zrv(na nb:Bool)(A B:Option Addr)(n c m d:Nat)(la lb:List Nat)(w:World)(ha:Lim w A n c la)(hb:Lim w B m d lb)(hbad:(okW na la && okW nb lb)=false) :
    Calls Tryz.prog 110 #[.agg #[.bool na,.slice A n c,.bool nb,.slice B m d]] w λe w'=>e=.returned (.int .i64 8)/\Below w.heap.size w w':=by
 have hmx:=Gt;obtain⟨W0,u,h,q0,s0⟩:=Zak w 41 #[.bool na,.slice A n c,.bool nb,.slice B m d];have hA:=Za (ha.below h);have hD:=Za (hb.below h);clear ha hb;obtain⟨a0,a1,a2,a3,-⟩:=q0.four;replace q0:=Za q0;go_in;go_wp2_with fail;refine(Gcd_bad na nb A B n c m d la lb W0 hA.out hD.out hbad).mono ?_;rintro e w1 ⟨rfl,o⟩;have f:Below w.heap.size w w1:=Gs h o;clear u a0 a1 a2 a3 o;obtain⟨W4,C,y,q4,kW,kB,s4⟩:=Zp 39 #[.bool false,.slice none 0 0] f f.size;obtain⟨g0,g1,f0,f1⟩:=q4.two;go_wp2_with fail;refine Zx [] (λwx=>True) hmx trivial (λ_=>?_);refine wpAnyL_o 0 λK hK=>?_;go_simp;refine hK.out _ _ (λ_=>trivial) ?_;clear hK K
 try simp only[Qa,Zg7,Zgl,Zg1]
 refine wpAnyL_o 1 λK hK=>?_;go_simp;refine hK.out _ _ (λ_=>trivial) ?_;clear hK K
 try simp only[Qa,Zg7,Zgl,Zg1]
 refine wpAnyL_o 2 λK hK=>?_;go_simp;refine hK.out _ _ (λ_=>trivial) ?_;clear hK K
 try simp only[Qa,Zg7,Zgl,Zg1]
 refine wpAnyL_o 3 λK hK=>?_;go_simp;refine hK.out _ _ (λ_=>trivial) ?_;clear hK K
 try simp only[Qa,Zg7,Zgl,Zg1]
 refine wpAnyL_o 4 λK hK=>?_;go_simp;refine hK.out _ _ (λ_=>trivial) ?_;clear hK K
 try simp only[Qa,Zg7,Zgl,Zg1]
 refine wpAnyL_o 5 λK hK=>?_;go_simp;refine hK.out _ _ (λ_=>trivial) ?_;clear hK K
 try simp only[Qa,Zg7,Zgl,Zg1]
 refine wpAnyL_o 6 λK hK=>?_;go_simp;refine hK.out _ _ (λ_=>trivial) ?_;clear hK K
 try simp only[Qa,Zg7,Zgl,Zg1]
 refine wpAnyL_o 7 λK hK=>?_;go_simp;refine hK.out _ _ (λ_=>trivial) ?_;clear hK K
 try simp only[Qa,Zg7,Zgl,Zg1]
 refine wpAnyL_o 8 λK hK=>?_;go_simp;refine hK.out _ _ (λ_=>trivial) ?_;clear hK K
 try simp only[Qa,Zg7,Zgl,Zg1]
 refine wpAnyL_o 9 λK hK=>?_;go_simp;refine hK.out _ _ (λ_=>trivial) ?_;clear hK K
 try simp only[Qa,Zg7,Zgl,Zg1]
 refine wpAnyL_o 10 λK hK=>?_;go_simp;refine hK.out _ _ (λ_=>trivial) ?_;clear hK K
 try simp only[Qa,Zg7,Zgl,Zg1]
 refine wpAnyL_o 11 λK hK=>?_;go_simp;refine hK.out _ _ (λ_=>trivial) ?_;clear hK K
 try simp only[Qa,Zg7,Zgl,Zg1]
 refine wpAnyL_o 12 λK hK=>?_;go_simp;refine hK.out _ _ (λ_=>trivial) ?_;clear hK K
 try simp only[Qa,Zg7,Zgl,Zg1]
 refine Zd (i:=13) (v:=undef) rfl Gi Gi Gi Gi Gi (Or.inr ⟨by rfl,rfl⟩) trivial ?_
 try simp only[Qa,Zg7,Zgl,Zg1]
 refine wpAnyL_o 14 λK hK=>?_;go_simp;refine hK.out _ _ (λ_=>trivial) ?_;clear hK K
 try simp only[Qa,Zg7,Zgl,Zg1]
 refine wpAnyL_o 15 λK hK=>?_;go_simp;refine hK.out _ _ (λ_=>trivial) ?_;clear hK K
 try simp only[Qa,Zg7,Zgl,Zg1]
 refine wpAnyL_o 16 λK hK=>?_;go_simp;refine hK.out _ _ (λ_=>trivial) ?_;clear hK K
 try simp only[Qa,Zg7,Zgl,Zg1]
 refine wpAnyL_o 17 λK hK=>?_;go_simp;refine hK.out _ _ (λ_=>trivial) ?_;clear hK K
 try simp only[Qa,Zg7,Zgl,Zg1]
 refine wpAnyL_fin ?_;go_wp2_with fail;go_ret;exact⟨rfl,Zf ((y.setCell (p:=⟨w1.heap.size,0,none⟩) f.size (.bool false)).setCell (p:=⟨w1.heap.size,1,none⟩) f.size (.slice none 0 0)) 1⟩
theorem Zrm(na:Bool)(A B:Option Addr)(n c m d:Nat)(za zb:Int)(w:World)(ha:Wd w na A n c za)(hb:Wd w true B m d zb) :
    Calls Tryz.prog 110 #[.agg #[.bool na,.slice A n c,.bool true,.slice B m d]] w λe w'=>e=.returned (.int .i64 8)/\Below w.heap.size w w':=by
 have hmx:=Gt;have O:Qw za.natAbs zb.natAbs<pw 4096:=Zdx ha.small hb.small;obtain⟨W0,y,f,q0,s0⟩:=Zak w 41 #[.bool na,.slice A n c,.bool true,.slice B m d];have hA:=Za (ha.below f);have hD:=Za (hb.below f);clear ha hb;obtain⟨a0,a1,a2,a3,-⟩:=q0.four;go_in;go_wp2_with fail;refine(Zku na true A B n c m d za zb W0 hA.out hD.out).mono ?_;rintro e w1 ⟨h,ng,Ag,kg,cg,code,rfl,hR⟩;rcases hR with ⟨-,rfl,I⟩|⟨u,-⟩
 case inr=>exact absurd u Gk
 have o:Below w.heap.size w w1:=Gs f h;replace q0:=Zc h q0;clear y a0 a1 a2 a3 h;obtain⟨W4,J,C,q4,kW,kB,s4⟩:=Zp 39 #[.bool ng,.slice Ag kg cg] o o.size;replace q0:=kB _ _ _ q0;obtain⟨g0,g1,f0,f1⟩:=q4.two;obtain⟨a0,a1,a2,a3,-⟩:=q0.four;go_wp2_with fail;refine Zx [] (λwx=>wx.cell? ⟨w.heap.size,2,none⟩=some (.bool true)) hmx a2 (λ_=>?_);refine wpAnyL_o 0 λK hK=>?_;go_simp;refine hK.out _ _ (λ_=>a2) ?_;clear hK K
 try simp only[Qa,Zg7,Zgl,Zg1]
 refine wpAnyL_o 1 λK hK=>?_;go_simp;refine hK.out _ _ (λ_=>a2) ?_;clear hK K
 try simp only[Qa,Zg7,Zgl,Zg1]
 refine wpAnyL_o 2 λK hK=>?_;go_simp;refine hK.out _ _ (λ_=>a2) ?_;clear hK K
 try simp only[Qa,Zg7,Zgl,Zg1]
 refine wpAnyL_o 3 λK hK=>?_;go_simp;refine hK.out _ _ (λ_=>a2) ?_;clear hK K
 try simp only[Qa,Zg7,Zgl,Zg1]
 refine wpAnyL_o 4 λK hK=>?_;go_simp;refine hK.out _ _ (λ_=>a2) ?_;clear hK K
 try simp only[Qa,Zg7,Zgl,Zg1]
 refine wpAnyL_o 5 λK hK=>?_;go_simp;refine hK.out _ _ (λ_=>a2) ?_;clear hK K
 try simp only[Qa,Zg7,Zgl,Zg1]
 refine wpAnyL_o 6 λK hK=>?_;go_simp;refine hK.out _ _ (λ_=>a2) ?_;clear hK K
 try simp only[Qa,Zg7,Zgl,Zg1]
 refine wpAnyL_o 7 λK hK=>?_;go_simp;refine hK.out _ _ (λ_=>a2) ?_;clear hK K
 try simp only[Qa,Zg7,Zgl,Zg1]
 refine wpAnyL_o 8 λK hK=>?_;go_simp;refine hK.out _ _ (λ_=>a2) ?_;clear hK K
 try simp only[Qa,Zg7,Zgl,Zg1]
 refine wpAnyL_o 9 λK hK=>?_;go_simp;refine hK.out _ _ (λ_=>a2) ?_;clear hK K
 try simp only[Qa,Zg7,Zgl,Zg1]
 refine wpAnyL_o 10 λK hK=>?_;go_simp;refine hK.out _ _ (λ_=>a2) ?_;clear hK K
 try simp only[Qa,Zg7,Zgl,Zg1]
 refine wpAnyL_o 11 λK hK=>?_;go_simp;refine hK.out _ _ (λ_=>a2) ?_;clear hK K
 try simp only[Qa,Zg7,Zgl,Zg1]
 refine wpAnyL_o 12 λK hK=>?_;go_simp;refine hK.out _ _ (λ_=>a2) ?_;clear hK K
 try simp only[Qa,Zg7,Zgl,Zg1]
 refine Zd (i:=13) (v:=undef) rfl Gi Gi Gi Gi Gi (Or.inr ⟨by rfl,rfl⟩) a2 ?_
 try simp only[Qa,Zg7,Zgl,Zg1]
 refine wpAnyL_o 14 λK hK=>?_;go_simp;refine hK.out _ _ (λ_=>a2) ?_;clear hK K
 try simp only[Qa,Zg7,Zgl,Zg1]
 refine wpAnyL_o 15 λK hK=>?_;go_simp;refine hK.out _ _ (λ_=>a2) ?_;clear hK K
 try simp only[Qa,Zg7,Zgl,Zg1]
 refine wpAnyL_o 16 λK hK=>?_;go_simp;refine hK.out _ _ (λ_=>a2) ?_;clear hK K
 try simp only[Qa,Zg7,Zgl,Zg1]
 refine wpAnyL_o 17 λK hK=>?_;go_simp;refine hK.out _ _ (λ_=>a2) ?_;clear hK K
 try simp only[Qa,Zg7,Zgl,Zg1]
 refine wpAnyL_fin ?_;go_wp2_with fail;go_ret;exact⟨rfl,Zf C 1⟩
theorem Zrk(na:Bool)(A B:Option Addr)(n c d:Nat)(za:Int)(w:World)(ha:Wd w na A n c za)(hb:Wd w false B 0 d 0) :
    Calls Tryz.prog 110 #[.agg #[.bool na,.slice A n c,.bool false,.slice B 0 d]] w λe w'=>e=.returned (.int .i64 8)/\Below w.heap.size w w':=by
 have hmx:=Gt;have U:Qw za.natAbs (QB 0)<pw 4096:=Zdx ha.small hb.small;obtain⟨W0,I,h,q0,s0⟩:=Zak w 41 #[.bool na,.slice A n c,.bool false,.slice B 0 d];have hA:=Za (ha.below h);have hD:=Za (hb.below h);clear ha hb;obtain⟨a0,a1,a2,a3,-⟩:=q0.four;go_in;go_wp2_with fail;refine(Zku na false A B n c 0 d za 0 W0 hA.out hD.out).mono ?_;rintro e w1 ⟨o,ng,Ag,kg,cg,code,rfl,hR⟩;rcases hR with ⟨-,rfl,O⟩|⟨C,-⟩
 case inr=>exact absurd C Gk
 have u:Below w.heap.size w w1:=Gs h o;replace q0:=Zc o q0;clear I a0 a1 a2 a3 o;obtain⟨W4,T,y,q4,kW,kB,s4⟩:=Zp 39 #[.bool ng,.slice Ag kg cg] u u.size;replace q0:=kB _ _ _ q0;obtain⟨g0,g1,f0,f1⟩:=q4.two;obtain⟨a0,a1,a2,a3,-⟩:=q0.four;go_wp2_with fail;refine Zx [] (λwx=>wx.cell? ⟨w.heap.size,2,none⟩=some (.bool false)/\wx.cell? ⟨w.heap.size,3,none⟩=some (.slice B 0 d)) hmx ⟨a2,a3⟩ (λ_=>?_);refine wpAnyL_o 0 λK hK=>?_;go_simp;refine hK.out _ _ (λ_=>⟨a2,a3⟩) ?_;clear hK K
 try simp only[Qa,Zg7,Zgl,Zg1]
 refine wpAnyL_o 1 λK hK=>?_;go_simp;refine hK.out _ _ (λ_=>⟨a2,a3⟩) ?_;clear hK K
 try simp only[Qa,Zg7,Zgl,Zg1]
 refine wpAnyL_o 2 λK hK=>?_;go_simp;refine hK.out _ _ (λ_=>⟨a2,a3⟩) ?_;clear hK K
 try simp only[Qa,Zg7,Zgl,Zg1]
 refine wpAnyL_o 3 λK hK=>?_;go_simp;refine hK.out _ _ (λ_=>⟨a2,a3⟩) ?_;clear hK K
 try simp only[Qa,Zg7,Zgl,Zg1]
 refine wpAnyL_o 4 λK hK=>?_;go_simp;refine hK.out _ _ (λ_=>⟨a2,a3⟩) ?_;clear hK K
 try simp only[Qa,Zg7,Zgl,Zg1]
 refine wpAnyL_o 5 λK hK=>?_;go_simp;refine hK.out _ _ (λ_=>⟨a2,a3⟩) ?_;clear hK K
 try simp only[Qa,Zg7,Zgl,Zg1]
 refine wpAnyL_o 6 λK hK=>?_;go_simp;refine hK.out _ _ (λ_=>⟨a2,a3⟩) ?_;clear hK K
 try simp only[Qa,Zg7,Zgl,Zg1]
 refine wpAnyL_o 7 λK hK=>?_;go_simp;refine hK.out _ _ (λ_=>⟨a2,a3⟩) ?_;clear hK K
 try simp only[Qa,Zg7,Zgl,Zg1]
 refine wpAnyL_o 8 λK hK=>?_;go_simp;refine hK.out _ _ (λ_=>⟨a2,a3⟩) ?_;clear hK K
 try simp only[Qa,Zg7,Zgl,Zg1]
 refine wpAnyL_o 9 λK hK=>?_;go_simp;refine hK.out _ _ (λ_=>⟨a2,a3⟩) ?_;clear hK K
 try simp only[Qa,Zg7,Zgl,Zg1]
 refine wpAnyL_o 10 λK hK=>?_;go_simp;refine(Zj6 _ _ _ _ _ Gk true rfl).mono ?_;rintro e w3 ⟨rfl,J⟩;have f:=Zs J;have k2:=Zb f a2;have k3:=Zb f a3;refine hK.out _ _ (λ_=>⟨k2,k3⟩) ?_;clear hK K
 try simp only[Qa,Zg7,Zgl,Zg1]
 refine wpAnyL_o 11 λK hK=>?_;go_simp;refine hK.out _ _ (λ_=>⟨k2,k3⟩) ?_;clear hK K
 try simp only[Qa,Zg7,Zgl,Zg1]
 refine wpAnyL_o 12 λK hK=>?_;go_simp;refine hK.out _ _ (λ_=>⟨k2,k3⟩) ?_;clear hK K
 try simp only[Qa,Zg7,Zgl,Zg1]
 refine Zd (i:=13) (v:=undef) rfl Gi Gi Gi Gi Gi (Or.inr ⟨by rfl,rfl⟩) ⟨k2,k3⟩ ?_
 try simp only[Qa,Zg7,Zgl,Zg1]
 refine wpAnyL_o 14 λK hK=>?_;go_simp;refine hK.out _ _ (λ_=>⟨k2,k3⟩) ?_;clear hK K
 try simp only[Qa,Zg7,Zgl,Zg1]
 refine wpAnyL_o 15 λK hK=>?_;go_simp;refine hK.out _ _ (λ_=>⟨k2,k3⟩) ?_;clear hK K
 try simp only[Qa,Zg7,Zgl,Zg1]
 refine wpAnyL_o 16 λK hK=>?_;go_simp;refine hK.out _ _ (λ_=>⟨k2,k3⟩) ?_;clear hK K
 try simp only[Qa,Zg7,Zgl,Zg1]
 refine wpAnyL_o 17 λK hK=>?_;go_simp;refine hK.out _ _ (λ_=>⟨k2,k3⟩) ?_;clear hK K
 try simp only[Qa,Zg7,Zgl,Zg1]
 refine wpAnyL_fin ?_;go_wp2_with fail;go_ret;exact⟨rfl,Gs y f⟩
theorem Zl5(na nb:Bool)(A B:Option Addr)(n c m d:Nat)(la lb:List Nat)(w:World)(ha:Lim w A n c la)(hb:Lim w B m d lb)(x:Bool)(hx:okF na la nb lb=x) :
    Calls Tryz.prog 110 #[.agg #[.bool na,.slice A n c,.bool nb,.slice B m d]] w λe w'=>e=.returned (.int .i64 (Zfq x))/\Below w.heap.size w w':=by
 cases x
 ·simp only[okF,Qt,Qv,decide_eq_false_iff_not]at hx
  by_cases h1:(okW na la && okW nb lb)=true
  ·have h:=h1
   rw[Qo]at h1;have hA:=Wd.of_ok ha h1.1;have hD:=Wd.of_ok hb h1.2;cases nb
   ·by_cases hz:0<lb.length
    ·have e3:sg false (val lb)=(val lb:Nat):=rfl
     rw[e3]at hD;have h2:=(Zjs hb.lt).1 h1.2;have e2:(sg false (val lb)).natAbs=val lb:=Z8 _ _;rw[e2]at h2
     have hp:0<val lb:=by
      rw[h2.2.2]at hz;exact length_digits_pos.1 hz
     refine Zl3 na A B n c m d _ _ w hA hD Gk false ?_;rw[Z8,Qj];rcases hx with (((hx|hx)|hx)|hx)|hx;rw[h1.1]at hx;cases hx;rw[h1.2]at hx;cases hx;cases hx;omega;simp;omega
    have f:lb=[]:=Qd Gk;subst f;have hm:m=0:=hb.len.symm;subst hm;exact Zrk na A B n c d _ w hA hD
   exact Zrm na A B n c m d _ _ w hA hD
  exact Zrv na nb A B n c m d la lb w ha hb (by simpa using h1)
 exact Zeg na nb A B n c m d _ w (Zqq ha hb hx)
structure FX where
 na:Bool
 A:Option Addr
 n:Nat
 c:Nat
 la:List Nat
 nb:Bool
 B:Option Addr
 m:Nat
 d:Nat
 lb:List Nat
def FX.in_(w:World)(e:FX):Prop:=Lim w e.A e.n e.c e.la/\Lim w e.B e.m e.d e.lb
def FX.ok(e:FX):Bool:=okF e.na e.la e.nb e.lb
def FX.q(e:FX):Rat:=qOf e.na e.la e.lb
def FX.few(e:FX):Nat:=max e.n e.m
def At4(w:World)(g o:Nat)(na:Bool)(A:Option Addr)(n c:Nat)(nb:Bool)(B:Option Addr)(m d:Nat):Prop:=
 w.cell? ⟨g,o,none⟩=some (.bool na)/\w.cell? ⟨g,o+1,none⟩=some (.slice A n c)/\w.cell? ⟨g,o+2,none⟩=some (.bool nb)/\w.cell? ⟨g,o+3,none⟩=some (.slice B m d)
theorem At4.below{w w':World}{g o:Nat}{na:Bool}{A:Option Addr}{n c:Nat}{nb:Bool}{B:Option Addr}{m d:Nat}(h:At4 w g o na A n c nb B m d)(hb:Below w.heap.size w w'):At4 w' g o na A n c nb B m d:=
 ⟨Zb hb h.1,Zb hb h.2.1,Zb hb h.2.2.1,Zb hb h.2.2.2⟩
def FXL(w:World)(A:Option Addr)(n c:Nat)(es:List FX):Prop:=
 es.length=n/\n<=c/\c<=maxLen/\(∀ e ∈ es,e.in_ w)/\(0<n->∃ g o,A=some ⟨g,o,none⟩/\∀ (k:Nat) (e:FX),es[k]?=some e->At4 w g (o+k*4) e.na e.A e.n e.c e.nb e.B e.m e.d)
section
variable{w w':World}{A:Option Addr}{n c:Nat}{es:List FX}
theorem FX.in_below{e:FX}(h:e.in_ w)(hb:Below w.heap.size w w'):e.in_ w':=⟨h.1.below hb,h.2.below hb⟩
theorem FXL.below(h:FXL w A n c es)(hb:Below w.heap.size w w'):FXL w' A n c es:=by
 obtain⟨h1,h2,h3,h4,h5⟩:=h;refine⟨h1,h2,h3,λe he=>FX.in_below (h4 e he) hb,λhn=>?_⟩;obtain⟨g,o,e1,hc⟩:=h5 hn;exact⟨g,o,e1,λk e he=>(hc k e he).below hb⟩
theorem FXL.at_(h:FXL w A n c es){k:Nat}(hk:k<n):∃ g o e,A=some ⟨g,o,none⟩/\es[k]?=some e/\At4 w g (o+k*4) e.na e.A e.n e.c e.nb e.B e.m e.d/\Lim w e.A e.n e.c e.la/\Lim w e.B e.m e.d e.lb:=by
 obtain⟨h1,-,-,h4,h5⟩:=h;obtain⟨g,o,e1,hc⟩:=h5 Gk;have he:=Qf (l:=es) (i:=k) Gk;have hi:=h4 es[k] (Qp _);exact⟨g,o,es[k],e1,he,hc k _ he,hi.1,hi.2⟩
theorem FXL.fl(h:FXL w A n c es)(hk:∀ e ∈ es,e.ok=true):FL w A n c (es.map FX.q):=by
 obtain⟨h1,h2,h3,h4,h5⟩:=h;refine⟨es.map λe=>⟨e.na,e.A,e.n,e.c,e.nb,e.B,e.m,e.d,e.q⟩,by simp[h1],h2,h3,λe he=>?_,by rw[List.map_map];rfl,λhn=>?_⟩
 ·obtain⟨x,hx,rfl⟩:=List.mem_map.1 he
  exact Zqq (h4 x hx).1 (h4 x hx).2 (hk x hx)
 obtain⟨g,o,e1,hc⟩:=h5 hn;refine⟨g,o,e1,λk e he=>?_⟩;rw[Ql]at he;obtain⟨x,hx,rfl⟩:=Option.map_eq_some_iff.1 he;exact hc k x hx
end
structure RX where
 A:Option Addr
 n:Nat
 c:Nat
 es:List FX
def MXL(w:World)(A:Option Addr)(n c:Nat)(rs:List RX):Prop:=
 rs.length=n/\n<=c/\c<=maxLen/\(∀ r ∈ rs,FXL w r.A r.n r.c r.es)/\(0<n->∃ g o,A=some ⟨g,o,none⟩/\∀ (k:Nat) (r:RX),rs[k]?=some r->w.cell? ⟨g,o+k,none⟩=some (.slice r.A r.n r.c))
def MFL(w:World)(A:Option Addr)(n c:Nat)(Q:List (List Rat)):Prop:=
 Q.length=n/\n<=c/\c<=maxLen/\(0<n->∃ g o,A=some ⟨g,o,none⟩/\∀ (k:Nat) (q:List Rat),Q[k]?=some q->∃ A' n' c',w.cell? ⟨g,o+k,none⟩=some (.slice A' n' c')/\FL w A' n' c' q)
section
variable{w w':World}{A:Option Addr}{n c:Nat}{rs:List RX}{Q:List (List Rat)}{qs:List Rat}
theorem MXL.below(h:MXL w A n c rs)(hb:Below w.heap.size w w'):MXL w' A n c rs:=by
 obtain⟨h1,h2,h3,h4,h5⟩:=h;refine⟨h1,h2,h3,λr hr=>(h4 r hr).below hb,λhn=>?_⟩;obtain⟨g,o,e1,hc⟩:=h5 hn;exact⟨g,o,e1,λk r hr=>Zb hb (hc k r hr)⟩
theorem MXL.at_(h:MXL w A n c rs){k:Nat}(hk:k<n):∃ g o r,A=some ⟨g,o,none⟩/\rs[k]?=some r/\w.cell? ⟨g,o+k,none⟩=some (.slice r.A r.n r.c)/\FXL w r.A r.n r.c r.es:=by
 obtain⟨h1,-,-,h4,h5⟩:=h;obtain⟨g,o,e1,hc⟩:=h5 Gk;have he:=Qf (l:=rs) (i:=k) Gk;exact⟨g,o,rs[k],e1,he,hc k _ he,h4 rs[k] (Qp _)⟩
theorem MXL.mfl(h:MXL w A n c rs)(hk:∀ r ∈ rs,∀ e ∈ r.es,e.ok=true):MFL w A n c (rs.map λr=>r.es.map FX.q):=by
 obtain⟨h1,h2,h3,h4,h5⟩:=h;refine⟨by simp[h1],h2,h3,λhn=>?_⟩;obtain⟨g,o,e1,hc⟩:=h5 hn;refine⟨g,o,e1,λk q hq=>?_⟩;rw[Ql]at hq;obtain⟨r,hr,rfl⟩:=Option.map_eq_some_iff.1 hq;exact⟨r.A,r.n,r.c,hc k r hr,(h4 r (Qg hr)).fl (hk r (Qg hr))⟩
theorem MFL.below(h:MFL w A n c Q)(hb:Below w.heap.size w w'):MFL w' A n c Q:=by
 obtain⟨h1,h2,h3,h5⟩:=h;refine⟨h1,h2,h3,λhn=>?_⟩;obtain⟨g,o,e1,hc⟩:=h5 hn;refine⟨g,o,e1,λk q hq=>?_⟩;obtain⟨A',n',c',h6,h7⟩:=hc k q hq;exact⟨A',n',c',Zb hb h6,h7.below hb⟩
theorem MFL.at_(h:MFL w A n c Q){k:Nat}(hk:k<n):∃ g o A' n' c',A=some ⟨g,o,none⟩/\w.cell? ⟨g,o+k,none⟩=some (.slice A' n' c')/\FL w A' n' c' (Q[k]?.getD []):=by
 obtain⟨h1,-,-,h5⟩:=h;obtain⟨g,o,e1,hc⟩:=h5 Gk;have he:=Qf (l:=Q) (i:=k) Gk;obtain⟨A',n',c',h6,h7⟩:=hc k _ he;rw[he];exact⟨g,o,A',n',c',e1,h6,h7⟩
theorem FL.len(h:FL w A n c qs):qs.length=n:=by obtain⟨es,h1,-,-,-,h5,-⟩:=h;rw[<- h5,Qq,h1]
theorem FL.cap(h:FL w A n c qs):n<=c/\c<=maxLen:=by obtain⟨es,h1,h2,h3,-⟩:=h;exact⟨h2,h3⟩
theorem FL.at_(h:FL w A n c qs){k:Nat}(hk:k<n):∃ g o na A1 n1 c1 nb B m d,A=some ⟨g,o,none⟩/\At4 w g (o+k*4) na A1 n1 c1 nb B m d/\Fr w na A1 n1 c1 nb B m d (qs[k]?.getD 0):=by
 obtain⟨es,h1,-,-,h4,rfl,h5⟩:=h;obtain⟨g,o,e1,hc⟩:=h5 Gk;have he:=Qf (l:=es) (i:=k) Gk;refine⟨g,o,es[k].na,es[k].A,es[k].n,es[k].c,es[k].nb,es[k].B,es[k].m,es[k].d,e1,hc k _ he,?_⟩;rw[Ql,he];exact h4 es[k] (Qp _)
theorem FL.take(h:FL w A n c qs){k:Nat}(hk:k<=n):FL w A k c (qs.take k):=by
 obtain⟨es,h1,h2,h3,h4,rfl,h5⟩:=h;refine⟨es.take k,by rw[List.length_take];omega,by omega,h3,λe he=>h4 e (List.mem_of_mem_take he),by rw[List.map_take],λhn=>?_⟩;obtain⟨g,o,e1,hc⟩:=h5 Gk;refine⟨g,o,e1,λj e he=>?_⟩;rw[List.getElem?_take]at he
 split at he
 exact hc j e he;cases he
end
theorem Zpm{x y:Int}{na nb:Bool}(ha:na=decide (x<0))(hb:nb=decide (y<0)):Zga na nb (digits x.natAbs) (digits y.natAbs)=decide (x=y):=by
 unfold Zga;rw[Zde,ha,hb];by_cases h:x=y;subst h;simp[Zcq];rw[Gu h];unfold Zcq;by_cases h1:(decide (x<0) == decide (y<0))=true
 ·have:x.natAbs≠y.natAbs:=by
    intro e;rw[beq_iff_eq,decide_eq_decide]at h1;omega
  rcases Nat.lt_or_gt_of_ne this with h2|h2;rw[Gx Gk];simp;rw[Gw Gk,Gx Gk];simp
 rw[Bool.not_eq_true]at h1;rw[h1];rfl
def Fz(w:World)(na:Bool)(A:Option Addr)(n c:Nat)(nb:Bool)(B:Option Addr)(m d:Nat)(q:Int × Int):Prop:=Wd w na A n c q.1/\Wd w nb B m d q.2
theorem Fz.below{w w':World}{na:Bool}{A:Option Addr}{n c:Nat}{nb:Bool}{B:Option Addr}{m d:Nat}{r:Int × Int}(h:Fz w na A n c nb B m d r)(hb:Below w.heap.size w w'):Fz w' na A n c nb B m d r:=⟨h.1.below hb,h.2.below hb⟩
def prQ(r:Rat):Int × Int:=(r.num,(r.den:Nat))
theorem Fr.fz{w:World}{na:Bool}{A:Option Addr}{n c:Nat}{nb:Bool}{B:Option Addr}{m d:Nat}{r:Rat}(h:Fr w na A n c nb B m d r):Fz w na A n c nb B m d (prQ r):=h
theorem It{G:Prop}(h:G:=by
 rintro e w2 ⟨rfl,aa⟩;have aD:Below w.heap.size w w2:=Gs ai aa;go_wp2_with fail;go_ret;exact⟨by simp,aD⟩):G:=h
theorem Zy3(na nb na' nb':Bool)(A B A' B':Option Addr)(n c m d n' c' m' d':Nat)(a b:Int × Int)(w:World)(ha:Fz w na A n c nb B m d a)(hb:Fz w na' A' n' c' nb' B' m' d' b)(s:Bool)(hs:decide (a=b)=s) :
    Calls Tryz.prog 21 #[.agg #[.bool na,.slice A n c,.bool nb,.slice B m d],.agg #[.bool na',.slice A' n' c',.bool nb',.slice B' m' d']] w λe w'=>e=.returned (.bool s)/\Below w.heap.size w w':=by
 obtain⟨W0,o,h,⟨q0,q1⟩,s0⟩:=Zdl w 41 #[.bool na,.slice A n c,.bool nb,.slice B m d] 41 #[.bool na',.slice A' n' c',.bool nb',.slice B' m' d'];have hA:=Za (ha.below h);have hD:=Za (hb.below h);have e1:=Za (Zpm ha.1.1 hb.1.1);have e2:=Za (Zpm ha.2.1 hb.2.1);clear ha hb;obtain⟨x,hx⟩:∃ x,decide (a.1=b.1)=x:=⟨_,rfl⟩;obtain⟨y,hy⟩:∃ y,decide (a.2=b.2)=y:=⟨_,rfl⟩
 have u:s=(x && y):=by
  rw[<- hs,<- hx,<- hy,Bool.eq_iff_iff];simp only[decide_eq_true_eq,Qo];constructor;rintro rfl;exact⟨rfl,rfl⟩;rintro⟨h1,h2⟩;exact Prod.ext h1 h2
 subst u;rw[hx]at e1;rw[hy]at e2;clear hs hx hy;obtain⟨a0,a1,a2,a3,-⟩:=q0.four;obtain⟨b0,b1,b2,b3,-⟩:=q1.four;have hq:=Za (Qb q0 q1);clear q0 q1;go_in;go_wp2_with fail;refine(Zd0 na na' A A' n c n' c' _ _ W0 hA.out.1.lim hD.out.1.lim).mono ?_;rw[e1.out];rintro e w1 ⟨rfl,f⟩;have ai:Below w.heap.size w w1:=Gs h f;replace hA:=Za (hA.out.below f);replace hD:=Za (hD.out.below f);obtain⟨q0,q1⟩:=hq.out;replace q0:=Zc f q0;replace q1:=Zc f q1;clear o f a0 a1 a2 a3 b0 b1 b2 b3 hq h;obtain⟨a0,a1,a2,a3,-⟩:=q0.four;obtain⟨b0,b1,b2,b3,-⟩:=q1.four;clear q0 q1;cases x
 ·go_wp2_with fail
  go_ret;exact⟨rfl,ai⟩
 go_wp2_with fail;refine(Zd0 nb nb' B B' m d m' d' _ _ w1 hA.out.2.lim hD.out.2.lim).mono ?_;rw[e2.out];exact It
theorem prQ_inj{a b:Rat}:prQ a=prQ b ↔ a=b:=by
 constructor
 ·intro h
  have h1:=congrArg Prod.fst h;have h2:=congrArg Prod.snd h;simp only[prQ]at h1 h2;exact Rat.ext h1 Gk
 rintro rfl;rfl
theorem Zjn(na nb na' nb':Bool)(A B A' B':Option Addr)(n c m d n' c' m' d':Nat)(a b:Rat)(w:World)(ha:Fr w na A n c nb B m d a)(hb:Fr w na' A' n' c' nb' B' m' d' b)(s:Bool)(hs:decide (a=b)=s) :
    Calls Tryz.prog 21 #[.agg #[.bool na,.slice A n c,.bool nb,.slice B m d],.agg #[.bool na',.slice A' n' c',.bool nb',.slice B' m' d']] w λe w'=>e=.returned (.bool s)/\Below w.heap.size w w':=
 Zy3 na nb na' nb' A B A' B' n c m d n' c' m' d' (prQ a) (prQ b) w ha.fz hb.fz s (by rw[<- hs];exact decide_eq_decide.2 prQ_inj)
def Zoj(a b:Rat):Int:=if a<b then -1 else if b<a then 1 else 0
theorem Zsk(a b:Rat):Zcq (a.num*b.den) (b.num*a.den)=Zoj a b:=by
 unfold Zcq Zoj;simp only[Rat.lt_iff]
theorem Zzx(na nb na' nb':Bool)(A B A' B':Option Addr)(n c m d n' c' m' d':Nat)(a b:Rat)(w:World)(ha:Fr w na A n c nb B m d a)(hb:Fr w na' A' n' c' nb' B' m' d' b)(sa:Sm a)(sb:Sm b) :
    Calls Tryz.prog 63 #[.agg #[.bool na,.slice A n c,.bool nb,.slice B m d],.agg #[.bool na',.slice A' n' c',.bool nb',.slice B' m' d']] w λe w'=>e=.returned (.tuple #[.int .i64 (Zoj a b),.int .i64 0])/\Below w.heap.size w w':=by
 rw[<- Zsk];have h1:=Za (Zbh sa.1 sb.dn);have h2:=Za (Zbh sb.1 sa.dn);obtain⟨W0,a5,y,⟨q0,q1⟩,s0⟩:=Zdl w 41 #[.bool na,.slice A n c,.bool nb,.slice B m d] 41 #[.bool na',.slice A' n' c',.bool nb',.slice B' m' d'];have hA:=Za (ha.below y);have hD:=Za (hb.below y);clear ha hb sa sb;generalize hX:a.num*((b.den:Nat):Int)=X at *;generalize hY:b.num*((a.den:Nat):Int)=Y at *
 replace hX:=Za hX;replace hY:=Za hY;obtain⟨a0,a1,a2,a3,-⟩:=q0.four;obtain⟨b0,b1,b2,b3,-⟩:=q1.four;have hq:=Za (Qb q0 q1);clear q0 q1;go_in;go_wp2_with fail;refine(Zw7 na nb na' nb' A B A' B' n c m d n' c' m' d' a b W0 hA.out hD.out).mono ?_;rintro e w1 ⟨rfl,u⟩;have I:Below w.heap.size w w1:=Gs y u;replace hA:=Za (hA.out.below u);replace hD:=Za (hD.out.below u);obtain⟨q0,q1⟩:=hq.out;replace q0:=Zc u q0;replace q1:=Zc u q1;clear a5 u a0 a1 a2 a3 b0 b1 b2 b3 hq y;obtain⟨a0,a1,a2,a3,-⟩:=q0.four;obtain⟨b0,b1,b2,b3,-⟩:=q1.four;have hq:=Za (Qb q0 q1);clear q0 q1;go_wp2_with fail;have hM:=Zej na nb' A B' n c m' d' a.num b.den w1 hA.out.1 hD.out.2;rw[hX.out]at hM;refine hM.mono ?_;clear hM;rintro e w2 ⟨o,n1,P1,k1,c1,code,rfl,hR⟩;have f:=Za (hR.small h1.out);have h:=hR.code0 h1.out;subst h;have J:Below w.heap.size w w2:=Gs I o;replace hA:=Za (hA.out.below o);replace hD:=Za (hD.out.below o);obtain⟨q0,q1⟩:=hq.out;replace q0:=Zc o q0;replace q1:=Zc o q1;clear o a0 a1 a2 a3 b0 b1 b2 b3 hq I hR h1 hX;obtain⟨W2,a4,U,r1,kW,kB,t2⟩:=Zp 39 #[.bool n1,.slice P1 k1 c1] J J.size;replace q0:=kB _ _ _ q0;replace q1:=kB _ _ _ q1;replace hA:=Za (hA.out.keep kW);replace hD:=Za (hD.out.keep kW);replace f:=Za (kW _ _ _ _ _ f.out);clear kW kB J;obtain⟨a0,a1,a2,a3,-⟩:=q0.four;obtain⟨b0,b1,b2,b3,-⟩:=q1.four;clear q0 q1;replace r1:=Za r1
 go_wp2_with fail;have hM:=Zej na' nb A' B n' c' m d b.num a.den W2 hD.out.1 hA.out.2;rw[hY.out]at hM;refine hM.mono ?_;clear hM;rintro e w3 ⟨C,n2,P2,k2,c2,code,rfl,hR⟩;have T:=Za (hR.small h2.out);have h:=hR.code0 h2.out;subst h;have O:Below w.heap.size w w3:=Gs U C;replace r1:=Zc C r1.out;replace f:=Za (f.out.below C);clear C a0 a1 a2 a3 b0 b1 b2 b3 U hR h2 hY hA hD a4;obtain⟨W3,a8,V,r2,kW,kB,t3⟩:=Zp 39 #[.bool n2,.slice P2 k2 c2] O O.size;replace r1:=kB _ _ _ r1;replace f:=Za (kW _ _ _ _ _ f.out);replace T:=Za (kW _ _ _ _ _ T.out);clear kW kB O;obtain⟨x0,x1,-⟩:=r1.two;obtain⟨y0,y1,-⟩:=r2.two;clear r1 r2;go_wp2_with fail;refine(Zp2 n1 n2 P1 P2 k1 c1 k2 c2 X Y W3 f.out T.out).mono ?_;rintro e w4 ⟨rfl,a7⟩;have a6:Below w.heap.size w w4:=Gs V a7;go_wp2_with fail
 go_ret2
 exact⟨rfl,a6⟩
theorem Zq2(na nb:Bool)(A B:Option Addr)(n c m d:Nat)(la lb:List Nat)(w:World)(ha:Lim w A n c la)(hb:Lim w B m d lb)(hbad:okW na la=false) :
    Calls Tryz.prog 17 #[.agg #[.bool na,.slice A n c,.bool nb,.slice B m d]] w λe w'=>e=.returned (.int .i64 8)/\Below w.heap.size w w':=by
 have hmx:=Gt;obtain⟨W0,u,f,q0,s0⟩:=Zak w 41 #[.bool na,.slice A n c,.bool nb,.slice B m d];have hA:=Za (ha.below f);clear ha hb;obtain⟨a0,a1,a2,a3,-⟩:=q0.four;go_in;go_wp2_with fail;refine(Zl1 hA.out hbad).mono ?_;rintro e w1 ⟨rfl,h⟩;have o:Below w.heap.size w w1:=Gs f h;clear u a0 a1 a2 a3;obtain⟨a0,a1,a2,a3,-⟩:=(Zc h q0).four;go_wp2_with fail;go_ret;exact⟨rfl,o⟩
theorem EJ{G:Prop}(h:G:=by
 rintro e w2 ⟨rfl,aa⟩;have aD:Below w.heap.size w w2:=Gs ai aa;replace q0:=Zc aa q0;clear a0 a1 a2 a3 aa;obtain⟨a0,a1,a2,a3,-⟩:=q0.four;go_wp2_with fail;go_ret;exact⟨rfl,aD⟩):G:=h
theorem Zp3(na nb:Bool)(A B:Option Addr)(n c m d:Nat)(la lb:List Nat)(w:World)(ha:Lim w A n c la)(hb:Lim w B m d lb)(hk:okW na la=true)(hbad:okW nb lb=false) :
    Calls Tryz.prog 17 #[.agg #[.bool na,.slice A n c,.bool nb,.slice B m d]] w λe w'=>e=.returned (.int .i64 8)/\Below w.heap.size w w':=by
 have hmx:=Gt;obtain⟨W0,o,h,q0,s0⟩:=Zak w 41 #[.bool na,.slice A n c,.bool nb,.slice B m d];have hA:=Za (ha.below h);have hD:=Za (hb.below h);clear ha hb;obtain⟨a0,a1,a2,a3,-⟩:=q0.four;go_in;go_wp2_with fail;refine(Zbz hA.out hk).mono ?_;rintro e w1 ⟨rfl,f⟩;have ai:Below w.heap.size w w1:=Gs h f;replace q0:=Zc f q0;replace hA:=Za (hA.out.below f);replace hD:=Za (hD.out.below f);clear o a0 a1 a2 a3 f;obtain⟨a0,a1,a2,a3,-⟩:=q0.four;go_wp2_with fail;refine(Zl1 hD.out hbad).mono ?_;exact EJ
theorem Zpy(na:Bool)(A B:Option Addr)(n c m d:Nat)(la lb:List Nat)(w:World)(ha:Lim w A n c la)(hb:Lim w B m d lb)(hk:okW na la=true)(hk2:okW true lb=true) :
    Calls Tryz.prog 17 #[.agg #[.bool na,.slice A n c,.bool true,.slice B m d]] w λe w'=>e=.returned (.int .i64 8)/\Below w.heap.size w w':=by
 have hmx:=Gt;obtain⟨W0,o,h,q0,s0⟩:=Zak w 41 #[.bool na,.slice A n c,.bool true,.slice B m d];have hA:=Za (ha.below h);have hD:=Za (hb.below h);clear ha hb;obtain⟨a0,a1,a2,a3,-⟩:=q0.four;go_in;go_wp2_with fail;refine(Zbz hA.out hk).mono ?_;rintro e w1 ⟨rfl,f⟩;have ai:Below w.heap.size w w1:=Gs h f;replace q0:=Zc f q0;replace hA:=Za (hA.out.below f);replace hD:=Za (hD.out.below f);clear o a0 a1 a2 a3 f;obtain⟨a0,a1,a2,a3,-⟩:=q0.four;go_wp2_with fail;refine(Zbz hD.out hk2).mono ?_;exact EJ
theorem Zqx(na:Bool)(A B:Option Addr)(n c d:Nat)(la:List Nat)(w:World)(ha:Lim w A n c la)(hb:Lim w B 0 d [])(hk:okW na la=true) :
    Calls Tryz.prog 17 #[.agg #[.bool na,.slice A n c,.bool false,.slice B 0 d]] w λe w'=>e=.returned (.int .i64 8)/\Below w.heap.size w w':=by
 have hmx:=Gt;obtain⟨W0,o,h,q0,s0⟩:=Zak w 41 #[.bool na,.slice A n c,.bool false,.slice B 0 d];have hA:=Za (ha.below h);have hD:=Za (hb.below h);clear ha hb;obtain⟨a0,a1,a2,a3,-⟩:=q0.four;go_in;go_wp2_with fail;refine(Zbz hA.out hk).mono ?_;rintro e w1 ⟨rfl,f⟩;have ai:Below w.heap.size w w1:=Gs h f;replace q0:=Zc f q0;replace hA:=Za (hA.out.below f);replace hD:=Za (hD.out.below f);clear o a0 a1 a2 a3 f;obtain⟨a0,a1,a2,a3,-⟩:=q0.four;go_wp2_with fail;refine(Zbz hD.out Gj).mono ?_;exact EJ
theorem Zq6(na:Bool)(A B:Option Addr)(n c m d:Nat)(za zb:Int)(w:World)(h1:Wd w na A n c za)(h2:Wd w false B m d zb)(hp:0<zb)(hg:Nat.gcd za.natAbs zb.natAbs≠1) :
    Calls Tryz.prog 17 #[.agg #[.bool na,.slice A n c,.bool false,.slice B m d]] w λe w'=>e=.returned (.int .i64 8)/\Below w.heap.size w w':=by
 have hmx:=Gt;have a4:0<m:=by rw[<- h2.lim.len];exact length_digits_pos.2 Gk
 have Y:((m:Int) == 0)=false:=by simp;omega
 have hm:=h2.2.1;have O:=Zdx h1.small h2.small;obtain⟨G,J⟩:=Gz (Qw za.natAbs zb.natAbs);rw[J]at hg O;replace hg:=Za hg;obtain⟨W0,U,h,q0,s0⟩:=Zak w 41 #[.bool na,.slice A n c,.bool false,.slice B m d];have hA:=Za (Qb (h1.below h) (h2.below h));clear h1 h2;obtain⟨a0,a1,a2,a3,-⟩:=q0.four;replace q0:=Za q0;go_in;go_wp2_with fail;refine(Zbz hA.out.1.lim hA.out.1.ok).mono ?_;rintro e w1 ⟨rfl,u⟩;have y:Below w.heap.size w w1:=Gs h u;replace hA:=Za (Qb (hA.out.1.below u) (hA.out.2.below u));replace q0:=Gm u q0;clear a0 a1 a2 a3 u h U;obtain⟨a0,a1,a2,a3,-⟩:=q0.out.four;go_wp2_with fail;refine(Zbz hA.out.2.lim hA.out.2.ok).mono ?_;rintro e w2 ⟨rfl,o⟩;have C:Below w.heap.size w w2:=Gs y o;replace hA:=Za (Qb (hA.out.1.below o) (hA.out.2.below o));replace q0:=Gm o q0;clear a0 a1 a2 a3 o y;obtain⟨a0,a1,a2,a3,-⟩:=q0.out.four;go_wp2_with fail;refine(Zlz na false A B n c m d za zb w2 hA.out.1 hA.out.2).mono ?_;rw[J];rintro e w3 ⟨T,ng,Ag,kg,cg,code,rfl,hR⟩;have hG:=Za (hR.small (by rw[Qj];exact O));have I:Below w.heap.size w w3:=Gs C T;clear a0 a1 a2 a3 T C q0 hA hR;obtain⟨W4,a5,V,q4,kW,kB,s4⟩:=Zp 39 #[.bool ng,.slice Ag kg cg] I I.size;replace hG:=Za (kW _ _ _ _ _ hG.out);clear kW kB;obtain⟨g0,g1,-⟩:=q4.two;replace q4:=Za q4;go_wp2_with fail;refine Zx [] (λW'=>W'.cell? ⟨w3.heap.size,0,none⟩=some (.bool ng)/\W'.cell? ⟨w3.heap.size,1,none⟩=some (.slice Ag kg cg)) hmx ⟨g0,g1⟩ (λ_=>?_);refine Zj5 1 [0] rfl Gi ⟨g0,g1⟩ ?_
 (refine tkA ?_;try simp only[Qa,Zg7,Zgl,Zg1,Gr,Gq,Gp])
 refine tk0 ?_;refine wpAnyL_o 1 λK hK=>?_;go_simp;refine(Zdi 1 W4.drew Gk Gk).mono ?_;rintro e w5 ⟨f,n1,A1,k1,c1,rfl,hO⟩;replace f:=Zs f;have aK:Below w.heap.size w w5:=V.trans (f.mono (by show w.heap.size<=W4.heap.size;have:=I.size;omega));replace hG:=Za (hG.out.below f);replace q4:=Gm f q4;clear g0 g1;obtain⟨g0,g1,-⟩:=q4.out.two;refine hK.out _ _ (λ_=>⟨g0,g1⟩) ?_;clear hK K
 try simp only[Qa,Zg7,Zgl,Zg1]
 refine wpAnyL_o 2 λK hK=>?_;go_simp;refine(Zd0 ng n1 Ag A1 kg cg k1 c1 _ _ w5 hG.out.lim hO.lim).mono ?_;have io:Zga ng n1 (digits (QB ((G:Nat):Int))) (digits (QB 1))=false:=by have h1:=hG.out.1;have h2:=hO.1;rw[h1,h2];unfold Zga;have:=hg.out;simp[Zde,Zcq];omega
 exact EO
theorem Zsg(na nb:Bool)(A B:Option Addr)(n c m d:Nat)(la lb:List Nat)(w:World)(ha:Lim w A n c la)(hb:Lim w B m d lb)(x:Bool)(hx:okF na la nb lb=x) :
    Calls Tryz.prog 17 #[.agg #[.bool na,.slice A n c,.bool nb,.slice B m d]] w λe w'=>e=.returned (.int .i64 (Zfq x))/\Below w.heap.size w w':=by
 cases x
 ·simp only[okF,Qt,Qv,decide_eq_false_iff_not]at hx
  by_cases h1:okW na la=true
  case neg=>exact Zq2 na nb A B n c m d la lb w ha hb (by simpa using h1)
  by_cases h2:okW nb lb=true
  case neg=>exact Zp3 na nb A B n c m d la lb w ha hb h1 (by simpa using h2)
  have hA:=Wd.of_ok ha h1;have hD:=Wd.of_ok hb h2;cases nb
  ·by_cases hz:0<lb.length
   ·have e3:sg false (val lb)=(val lb:Nat):=rfl
    rw[e3]at hD;have f:=(Zjs hb.lt).1 h2;have e2:(sg false (val lb)).natAbs=val lb:=Z8 _ _;rw[e2]at f
    have hp:0<val lb:=by
     rw[f.2.2]at hz;exact length_digits_pos.1 hz
    refine Zq6 na A B n c m d _ _ w hA hD Gk ?_;rw[Z8,Qj];rcases hx with (((hx|hx)|hx)|hx)|hx;rw[h1]at hx;cases hx;rw[h2]at hx;cases hx;cases hx;omega;exact hx
   have h:lb=[]:=Qd Gk;subst h;have hm:m=0:=hb.len.symm;subst hm;exact Zqx na A B n c d la w ha hb h1
  exact Zpy na A B n c m d la lb w ha hb h1 h2
 exact Zg8 na nb A B n c m d _ w (Zqq ha hb hx)
theorem Iu{G:Prop}(h:G:=by
 go_wp2_with fail;go_ret;exact⟨rfl,(by first|exact aw|exact Zf aw _)⟩):G:=h
theorem Few_any(na nb:Bool)(A B:Option Addr)(n c m d:Nat)(w:World)(hn:n<=maxLen)(hm:m<=maxLen) :
    Calls Tryz.prog 24 #[.agg #[.bool na,.slice A n c,.bool nb,.slice B m d]] w λe w'=>e=.returned (.int .i64 (max n m:Nat))/\Below w.heap.size w w':=by
 unfold maxLen at hn hm;obtain⟨W0,f,aw,q0,s0⟩:=Zak w 41 #[.bool na,.slice A n c,.bool nb,.slice B m d];obtain⟨a0,a1,a2,a3,-⟩:=q0.four;have hx:max (n:Int) (m:Int)=((max n m:Nat):Int):=Gk
 go_in;exact Iu
def FX.fine(e:FX):Bool:=decide (e.few<=8) && e.ok
def Zet(es:List FX):Bool:=es.all FX.fine
def IdxB(w:World)(b:Bool)(e:Ending)(w':World):Prop:=∃ i:Int,e=.returned (.int .i64 i)/\decide (0<=i)=b/\Below w.heap.size w w'
theorem EC{G:Prop}(h:G:=by
 go_wp2_with fail;go_ret;exact⟨rfl,(by first|exact Gs aw ae|exact(Zf aw _).trans (ae.mono aw.size))⟩):G:=h
theorem CM{G:Prop}(h:G:=by
 go_wp2_with fail;refine(hC.out _ (by first|exact aw|exact Zf aw _)).mono ?_;rintro e w1 ⟨rfl,ae⟩;simp only[Zfq,if_true];exact EC):G:=h
theorem CQ{G:Prop}(h:G:=by
 go_wp2_with fail;refine(hC.out _ (by first|exact aw|exact Zf aw _)).mono ?_;rintro e w1 ⟨rfl,ae⟩;simp only[Zfq,Bool.false_eq_true,if_false];exact EC):G:=h
theorem Z0x(na nb:Bool)(A B:Option Addr)(n c m d:Nat)(la lb:List Nat)(w:World)(ha:Lim w A n c la)(hb:Lim w B m d lb)(b:Bool)(hx:(decide (max n m<=8) && okF na la nb lb)=b) :
    Calls Tryz.prog 192 #[.agg #[.bool na,.slice A n c,.bool nb,.slice B m d]] w λe w'=>e=.returned (.bool (!b))/\Below w.heap.size w w':=by
 obtain⟨W0,C,aw,q0,s0⟩:=Zak w 41 #[.bool na,.slice A n c,.bool nb,.slice B m d];obtain⟨a0,a1,a2,a3,-⟩:=q0.four;have u:=Qc ha.2.1 ha.2.2.1;have o:=Qc hb.2.1 hb.2.2.1;unfold maxLen at u o;obtain⟨y,hy⟩:=Gz (okF na la nb lb);rw[hy]at hx;have hC:=Za (λW1 (h1:Below w.heap.size w W1)=>Zl5 na nb A B n c m d la lb W1 (ha.below h1) (hb.below h1) y hy);clear ha hb hy;have hmx:max (n:Int) (m:Int)=((max n m:Nat):Int):=Gk;by_cases h8:max n m<=8
 ·have t1:decide ((8:Int)<((max n m:Nat):Int))=false:=Gu Gk
  have h:decide (8<max n m)=false:=Gu Gk;have f:decide ((8:Int)<max (n:Int) (m:Int))=false:=Gu Gk;rw[Gv h8,Bool.true_and]at hx;subst hx;cases y
  ·go_in
   exact CQ
  go_in
  exact CM
 have t1:decide ((8:Int)<((max n m:Nat):Int))=true:=Gv Gk;have h:decide (8<max n m)=true:=Gv Gk;have f:decide ((8:Int)<max (n:Int) (m:Int))=true:=Gv Gk;rw[Gu h8,Bool.false_and]at hx;subst hx;go_in;exact Iu
theorem Fj{G:Prop}(h:G:=by
 go_wp2_with fail;go_ret;exact⟨-1,rfl,rfl,ah⟩):G:=h
theorem Ek{G:Prop}(h:G:=by
 rw[List.all_eq_true];intro e he;obtain⟨j,hj,dK⟩:=List.getElem_of_mem he;exact au.out j e (by rw[hl.out]at hj;exact hj) (by rw[List.getElem?_eq_getElem hj,dK])):G:=h
theorem Em{G:Prop}(h:G:=by
 rintro e' w1 ⟨rfl,ae⟩;go_wp2_with fail;go_ret;exact⟨i,rfl,by simp,(by first|exact Gs ah ae|exact(Zf ah _).trans (ae.mono ah.size))⟩):G:=h
theorem Er{G:Prop}(h:G:=by
 rintro e' w1 ⟨rfl,ae⟩;go_wp2_with fail
 go_roundw
 case rel=>exact⟨i+1,by omega,by go_num,az,(by first|exact Gs ah ae|exact(Zf ah _).trans (ae.mono ah.size))⟩
 case measure=>simp[intOf];omega):G:=h
theorem CO{G:Prop}(h:G:=by
 replace he:=Za he;clear hx;go_wp2_with fail;refine(hC.out _ (by first|exact Below.refl _ _|exact Zf (Below.refl _ _) _)).mono ?_;exact Er):G:=h
theorem CP{G:Prop}(h:G:=by
 replace he:=Za he;clear hx;go_wp2_with fail;refine(hC.out _ (by first|exact Below.refl _ _|exact Zf (Below.refl _ _) _)).mono ?_;exact Em):G:=h
theorem Zzy(A:Option Addr)(n c:Nat)(es:List FX)(w:World)(h:FXL w A n c es)(b:Bool)(hb:Zet es=b) :
    Calls Tryz.prog 150 #[.slice A n c,.func (.func 192) #[] #[]] w (IdxB w (!b)):=by
 have hl:=h.1;have I:=h.2.1;have y:=h.2.2.1;unfold maxLen at y;replace hl:=Za hl;replace hb:=Za hb;replace h:=Za h;go_in;go_wp2_with fail
 go_loopw [8] (λiv wr=>∃ i:Nat,i<=n/\iv=.int .i64 i/\Hid (∀ j e,j<i->es[j]?=some e->e.fine=true)/\Below w.heap.size w wr) (λiv _=>n-(intOf iv).toNat)
 case atStart=>exact⟨0,Qy _,rfl,Za (λj e hj=>by omega),Qn _ _⟩
 case round =>
  obtain⟨i,J,rfl,au,ah⟩:=hrel;by_cases hin:i<n
  case neg =>
   obtain rfl:n=i:=Gk;have C:decide ((n:Int)<(n:Int))=false:=Gh
   obtain rfl:b=true:=by
    rw[<- hb.out];unfold Zet;exact Ek
   exact Fj
  have C:decide ((i:Int)<(n:Int))=true:=Gv Gk;obtain⟨g,o,e,rfl,he,hc,f,u⟩:=(h.out.below ah).at_ hin;obtain⟨c0,c1,c2,c3⟩:=hc;obtain⟨x,hx⟩:=Gz e.fine;have hC:=Za (λW1 (hb:Below wr.heap.size wr W1)=>Z0x e.na e.nb e.A e.B e.n e.c e.m e.d e.la e.lb W1 (f.below hb) (u.below hb) x hx);clear f u;cases x
  ·obtain rfl:b=false:=by
     rw[<- hb.out];unfold Zet;rw[List.all_eq_false];exact⟨e,Qg he,by rw[hx];decide⟩
   exact CP
  have az:Hid (∀ j e,j<i+1->es[j]?=some e->e.fine=true):=Za (λj e' hj he'=>by
    rcases Nat.lt_or_ge j i with h'|h';exact au.out j e' h' he';obtain rfl:j=i:=Gk;rw[he]at he';cases he';exact hx)
  exact CO
theorem EY{G:Prop}(h:G:=by
 rintro e w1 ⟨i,rfl,hi,ae⟩;replace hi:=Za hi;go_wp2_with fail;go_ret;exact⟨Ze6 hi.out,ae⟩):G:=h
theorem Zxq(A:Option Addr)(n c:Nat)(es:List FX)(w:World)(h:FXL w A n c es)(b:Bool)(hb:Zet es=b) :
    Calls Tryz.prog 108 #[.slice A n c,.func (.func 192) #[] #[]] w λe w'=>e=.returned (.bool (!b))/\Below w.heap.size w w':=by
 go_in;go_wp2_with fail;refine(Zzy A n c es w h b hb).mono ?_;exact EY
theorem Zrf(A:Option Addr)(n c:Nat)(es:List FX)(w:World)(h:FXL w A n c es)(b:Bool)(hb:Zet es=b) :
    Calls Tryz.prog 172 #[.slice A n c] w λe w'=>e=.returned (.bool b)/\Below w.heap.size w w':=by
 go_in;go_wp2_with fail;refine(Zxq A n c es w h b hb).mono ?_;rintro e w1 ⟨rfl,f⟩;go_wp2_with fail;go_ret;exact⟨by simp,f⟩
def RX.long(r:RX):Bool:=decide (12<r.n)
theorem Fu{G:Prop}(h:G:=by
 go_wp2_with fail;go_ret;exact⟨by first|rfl|simp[hd],by first|exact Below.refl _ _|exact Zf (Below.refl _ _) _⟩):G:=h
theorem Bz{G:Prop}(h:G:=by
 unfold maxLen at hn;have hd:decide ((12:Int)<(n:Int))=decide (12<n):=decide_eq_decide.2 Gk;go_in;exact Fu):G:=h
theorem Zw5(A:Option Addr)(n c:Nat)(w:World)(hn:n<=maxLen) :
    Calls Tryz.prog 171 #[.slice A n c] w λe w'=>e=.returned (.bool (decide (12<n)))/\Below w.heap.size w w':=by
 exact Bz
theorem FXL.nlen{w:World}{A:Option Addr}{n c:Nat}{es:List FX}(h:FXL w A n c es):n<=maxLen:=Qc h.2.1 h.2.2.1
theorem Eo{G:Prop}(h:G:=by
 obtain rfl:n=i:=Gk;have fg:decide ((n:Int)<(n:Int))=false:=Gh
 obtain rfl:b=false:=by
  rw[<- hb.out,List.any_eq_false];intro e he;obtain⟨j,hj,dK⟩:=List.getElem_of_mem he;have:=au.out j e (by rw[hl.out]at hj;exact hj) (by rw[List.getElem?_eq_getElem hj,dK]);rw[this];decide
 go_wp2_with fail;go_ret;exact⟨-1,rfl,rfl,ah⟩):G:=h
theorem Ca{G:Prop}(h:G:=by
 rw[Gv hx]at hC;replace he:=Za he;go_wp2_with fail;refine(hC.out _).mono ?_;exact Em):G:=h
theorem Cb{G:Prop}(h:G:=by
 rw[Gu hx]at hC;replace he:=Za he;go_wp2_with fail;refine(hC.out _).mono ?_;exact Er):G:=h
theorem Zw2(A:Option Addr)(n c:Nat)(rs:List RX)(w:World)(h:MXL w A n c rs)(b:Bool)(hb:rs.any RX.long=b) :
    Calls Tryz.prog 146 #[.slice A n c,.func (.func 171) #[] #[]] w (IdxB w b):=by
 have hl:=h.1;have u:=h.2.1;have f:=h.2.2.1;unfold maxLen at f;replace hl:=Za hl;replace hb:=Za hb;replace h:=Za h;go_in;go_wp2_with fail
 go_loopw [8] (λiv wr=>∃ i:Nat,i<=n/\iv=.int .i64 i/\Hid (∀ j e,j<i->rs[j]?=some e->e.long=false)/\Below w.heap.size w wr) (λiv _=>n-(intOf iv).toNat)
 case atStart=>exact⟨0,Qy _,rfl,Za (λj e hj=>by omega),Qn _ _⟩
 case round =>
  obtain⟨i,y,rfl,au,ah⟩:=hrel;by_cases hin:i<n
  case neg =>
   exact Eo
  have fg:decide ((i:Int)<(n:Int))=true:=Gv Gk;obtain⟨g,o,r,rfl,he,c0,hL⟩:=(h.out.below ah).at_ hin;have hC:=Za (λW1=>Zw5 r.A r.n r.c W1 hL.nlen);clear hL;by_cases hx:12<r.n
  ·obtain rfl:b=true:=by
     rw[<- hb.out,List.any_eq_true];exact⟨r,Qg he,by unfold RX.long;simpa using hx⟩
   exact Ca
  have az:Hid (∀ j e,j<i+1->rs[j]?=some e->e.long=false):=Za (λj e' hj he'=>by
    rcases Nat.lt_or_ge j i with h'|h';exact au.out j e' h' he';obtain rfl:j=i:=Gk;rw[he]at he';cases he';unfold RX.long;simpa using hx)
  exact Cb
theorem Zt7(A:Option Addr)(n c:Nat)(rs:List RX)(w:World)(h:MXL w A n c rs)(b:Bool)(hb:rs.any RX.long=b) :
    Calls Tryz.prog 105 #[.slice A n c,.func (.func 171) #[] #[]] w λe w'=>e=.returned (.bool b)/\Below w.heap.size w w':=by
 go_in;go_wp2_with fail;refine(Zw2 A n c rs w h b hb).mono ?_;exact EY
