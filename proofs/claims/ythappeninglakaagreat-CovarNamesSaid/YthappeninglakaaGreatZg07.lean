/- Package frac: the closure of Mul. Package frac: the -/
import Derived.Maps.AppendAt
import Derived.Test.YthappeninglakaaGreatZg06
set_option maxRecDepth 100000
set_option maxHeartbeats 2000000
set_option linter.unusedSimpArgs false
set_option linter.unusedVariables false
namespace Go.Proofs.YthappeninglakaaGreat
open Go.RowKit
open Act renaming put→Qa
open Nat renaming le_trans→Qb,add_sub_cancel'→Qk,zero_add→Qw,zero_le→Qz,le_add_right→QA
open List renaming getElem?_eq_getElem→Qc,replicate→Qd,length_append→Qh,mem_of_getElem?→Qi,eq_nil_of_length_eq_zero→Ql,getElem?_map→Qn,getElem?_append_left→Qp,getElem_mem→Qr,length_map→Qt,getElem?_eq_none→Qu,getElem_of_mem→Qv,append_assoc→Qy,nil_append→QB,take_left→QC
open Rat renaming num_divInt_den→Qe,divInt→Qo
open Builtin renaming zeroCells→Qf,append_→Qs
open And renaming intro→Qg
open Below renaming refl→Qj
open _root_.Array renaming toList_append→Qm
open Bool renaming and_eq_true→Qq
open Int renaming natAbs_natCast→Qx
attribute [local go_sem] Zg
theorem ResP.code0{w:World}{z:Int}{neg:Bool}{A:Option Addr}{n c:Nat}{code:Int}(h:ResP w z neg A n c code)(hs:z.natAbs<pw 4096):code=0:=by
 rcases h with ⟨_,h,_⟩|⟨h,_⟩;exact h;omega
def Zoj(w:World)(x y:Int)(e:Ending)(w':World):Prop:=
 Below w.heap.size w w'/\∃ na A n c nb B m d,e=.returned (.tuple #[.agg #[.bool na,.slice A n c],.agg #[.bool nb,.slice B m d]])/\Wd w' na A n c x/\Wd w' nb B m d y
theorem Mul1_ok(na nb na' nb':Bool)(A B A' B':Option Addr)(n c m d n' c' m' d':Nat)(a b:Rat)(w:World)(ha:Fr w na A n c nb B m d a)(hb:Fr w na' A' n' c' nb' B' m' d' b)
    (hs:(a.num*b.num).natAbs<pw 4096) (ht:((a.den:Int)*(b.den:Nat)).natAbs<pw 4096) :
    Calls Tryz.prog 131 #[.agg #[.bool na,.slice A n c,.bool nb,.slice B m d],.agg #[.bool na',.slice A' n' c',.bool nb',.slice B' m' d']] w (Zoj w (a.num*b.num) ((a.den:Int)*(b.den:Nat))):=by
 obtain⟨W0,J,I,⟨q0,q1,q2,q3⟩,s0⟩:=Zgf w 41 #[.bool na,.slice A n c,.bool nb,.slice B m d] 41 #[.bool na',.slice A' n' c',.bool nb',.slice B' m' d'] 39 #[.bool false,.slice none 0 0] 39 #[.bool false,.slice none 0 0];have hmx:=Gt
 have hA:=Za (ha.below I);have hD:=Za (hb.below I);replace hs:=Za hs;replace ht:=Za ht;have sz:=Za I.size;have hB:=Za I;clear ha hb I s0;replace q0:=Za q0;replace q1:=Za q1;replace q2:=Za q2;replace q3:=Za q3;obtain⟨a0,a1,a2,a3,-⟩:=q0.out.four;obtain⟨b0,b1,b2,b3,-⟩:=q1.out.four;replace J:=Za J;go_enter Tryz.func131,Tryz.ntmps131;go_wp2_with fail;rw[J.out];clear J;refine Z7 [17] (λW'=>W'.cell? ⟨w.heap.size,0,none⟩=some (.bool na)/\W'.cell? ⟨w.heap.size,1,none⟩=some (.slice A n c)/\W'.cell? ⟨w.heap.size,2,none⟩=some (.bool nb)/\W'.cell? ⟨w.heap.size,3,none⟩=some (.slice B m d)/\W'.cell? ⟨w.heap.size+1,0,none⟩=some (.bool na')/\W'.cell? ⟨w.heap.size+1,1,none⟩=some (.slice A' n' c')/\W'.cell? ⟨w.heap.size+1,2,none⟩=some (.bool nb')/\W'.cell? ⟨w.heap.size+1,3,none⟩=some (.slice B' m' d')) hmx ⟨a0,a1,a2,a3,b0,b1,b2,b3⟩ (λ_=>?_);refine Zjw 8 [0,1,2,3,8,9,10,11] rfl (by kernel_rfl) ⟨a0,a1,a2,a3,b0,b1,b2,b3⟩ ?_
 iterate 8 (refine tkA ?_;try simp only[Qa,Zg4,Zgk,Zgx,Gr,Gq,Gp])
 refine tk0 ?_;refine wpAnyL_o 4 λK hK=>?_;go_simp;refine(Zi3 na na' A A' n c n' c' a.num b.num W0.drew hA.out.1 hD.out.1).mono ?_;rintro e w1 ⟨h,np,P,k,q,code,rfl,hR⟩;replace h:=Zv h;have hP:=Za (hR.small hs.out);have y:=hR.code0 hs.out;subst y;clear hs hR;replace q0:=Za (Zc h q0.out);replace q1:=Za (Zc h q1.out);replace q2:=Za (Zc h q2.out);replace q3:=Za (Zc h q3.out);replace hA:=Za (hA.out.below h);replace hD:=Za (hD.out.below h);replace hB:=Za (hB.out.trans (h.mono sz.out));replace sz:=Za (Qb sz.out h.size);clear a0 a1 a2 a3 b0 b1 b2 b3;obtain⟨a0,a1,a2,a3,-⟩:=q0.out.four;obtain⟨b0,b1,b2,b3,-⟩:=q1.out.four;clear h;refine hK.out _ _ (λ_=>⟨a0,a1,a2,a3,b0,b1,b2,b3⟩) ?_;clear hK K
 try simp only[Qa,Zg4,Zgk,Zgx]
 refine Zjw 2 [5,6] rfl (by kernel_rfl) ⟨a0,a1,a2,a3,b0,b1,b2,b3⟩ ?_
 iterate 2 (refine tkA ?_;try simp only[Qa,Zg4,Zgk,Zgx,Gr,Gq,Gp])
 refine tk0 ?_;refine wpAnyL_o 7 λK hK=>?_;go_simp;refine(Zdy np P k q w1).mono ?_;rintro e w2 ⟨rfl,o⟩;replace hP:=Za (hP.out.below o);replace q0:=Za (Zc o q0.out);replace q1:=Za (Zc o q1.out);replace q2:=Za (Zc o q2.out);replace q3:=Za (Zc o q3.out);replace hA:=Za (hA.out.below o);replace hD:=Za (hD.out.below o);replace hB:=Za (hB.out.trans (o.mono sz.out));replace sz:=Za (Qb sz.out o.size);clear a0 a1 a2 a3 b0 b1 b2 b3;obtain⟨a0,a1,a2,a3,-⟩:=q0.out.four;obtain⟨b0,b1,b2,b3,-⟩:=q1.out.four;clear o;refine hK.out _ _ (λ_=>⟨a0,a1,a2,a3,b0,b1,b2,b3⟩) ?_;clear hK K
 try simp only[Qa,Zg4,Zgk,Zgx]
 refine wpAnyL_o 12 λK hK=>?_;go_simp;refine(Zi3 nb nb' B B' m d m' d' a.den b.den w2 hA.out.2 hD.out.2).mono ?_;rintro e w3 ⟨u,T,P',k',q',code,rfl,hR⟩;replace hP:=Za (hP.out.below u);have C:=Za (hR.small ht.out);have y:=hR.code0 ht.out;subst y;clear ht hR;replace q0:=Za (Zc u q0.out);replace q1:=Za (Zc u q1.out);replace q2:=Za (Zc u q2.out);replace q3:=Za (Zc u q3.out);replace hA:=Za (hA.out.below u);replace hD:=Za (hD.out.below u);replace hB:=Za (hB.out.trans (u.mono sz.out));replace sz:=Za (Qb sz.out u.size);clear a0 a1 a2 a3 b0 b1 b2 b3;obtain⟨a0,a1,a2,a3,-⟩:=q0.out.four;obtain⟨b0,b1,b2,b3,-⟩:=q1.out.four;clear u;refine hK.out _ _ (λ_=>⟨a0,a1,a2,a3,b0,b1,b2,b3⟩) ?_;clear hK K
 try simp only[Qa,Zg4,Zgk,Zgx]
 refine Zjw 2 [13,14] rfl (by kernel_rfl) ⟨a0,a1,a2,a3,b0,b1,b2,b3⟩ ?_
 iterate 2 (refine tkA ?_;try simp only[Qa,Zg4,Zgk,Zgx,Gr,Gq,Gp])
 refine tk0 ?_;refine wpAnyL_o 15 λK hK=>?_;go_simp;refine(Zdy T P' k' q' w3).mono ?_;rintro e w4 ⟨rfl,f⟩;replace hP:=Za (hP.out.below f);replace C:=Za (C.out.below f);replace q0:=Za (Zc f q0.out);replace q1:=Za (Zc f q1.out);replace q2:=Za (Zc f q2.out);replace q3:=Za (Zc f q3.out);replace hA:=Za (hA.out.below f);replace hD:=Za (hD.out.below f);replace hB:=Za (hB.out.trans (f.mono sz.out));replace sz:=Za (Qb sz.out f.size);clear a0 a1 a2 a3 b0 b1 b2 b3;obtain⟨a0,a1,a2,a3,-⟩:=q0.out.four;obtain⟨b0,b1,b2,b3,-⟩:=q1.out.four;clear f;obtain⟨x0,x1,f0,f1⟩:=q2.out.two;refine hK.out _ _ (λ_=>⟨a0,a1,a2,a3,b0,b1,b2,b3⟩) ?_;clear hK K
 try simp only[Qa,Zg4,Zgk,Zgx]
 refine wpAnyL_o 16 λK hK=>?_;go_simp;obtain⟨W5,V,Y,O,kW,kB,s5⟩:=Zas np P k q hB.out (by omega) q2.out;rw[V];clear V x0 x1 f0 f1 a0 a1 a2 a3 b0 b1 b2 b3 hA hD;replace q0:=kB _ _ _ (by omega) q0.out;replace q1:=kB _ _ _ (by omega) q1.out;obtain⟨a0,a1,a2,a3,-⟩:=q0.four;obtain⟨b0,b1,b2,b3,-⟩:=q1.four;replace q3:=Za (kB _ _ _ (by omega) q3.out);replace hP:=Za (kW _ _ _ _ _ hP.out);replace C:=Za (kW _ _ _ _ _ C.out);clear kW kB q2 hB q0 q1;obtain⟨y0,y1,g0,g1⟩:=q3.out.two;refine hK.out _ _ (λ_=>⟨a0,a1,a2,a3,b0,b1,b2,b3⟩) ?_;clear hK K
 try simp only[Qa,Zg4,Zgk,Zgx]
 refine Zm (i:=17) rfl (by kernel_rfl) (by kernel_rfl) (λK hK=>?_);go_simp;obtain⟨W6,U,a5,a4,kW,kB,s6⟩:=Zas T P' k' q' Y (by omega) q3.out;rw[U];clear U y0 y1 g0 g1 a0 a1 a2 a3 b0 b1 b2 b3;replace O:=kB _ _ _ (by omega) O;replace hP:=Za (kW _ _ _ _ _ hP.out);replace C:=Za (kW _ _ _ _ _ C.out);clear kW kB q3 Y;refine hK.out _ _ ?_;clear hK K
 try simp only[Qa,Zg4,Zgk,Zgx]
 refine wpAnyL_fin ?_;obtain⟨r0,r1,-⟩:=O.two;obtain⟨r2,r3,-⟩:=a4.two;go_wp2_with fail;refine bodyPost_ret (v:=.tuple #[.agg #[.bool np,.slice P k q],.agg #[.bool T,.slice P' k' q']]) (by simp[results,Tryz.results131,go_sem,r0,r1,r2,r3]) rfl ?_;exact⟨a5,_,_,_,_,_,_,_,_,rfl,hP.out,C.out⟩
theorem Sub1_ok(na nb na' nb':Bool)(A B A' B':Option Addr)(n c m d n' c' m' d':Nat)(a b:Rat)(w:World)(ha:Fr w na A n c nb B m d a)(hb:Fr w na' A' n' c' nb' B' m' d' b)
    (h1:(a.num*b.den).natAbs<pw 4096) (h2:(b.num*a.den).natAbs<pw 4096) (hs:(a.num*b.den-b.num*a.den).natAbs<pw 4096) (ht:((a.den:Int)*(b.den:Nat)).natAbs<pw 4096) :
    Calls Tryz.prog 160 #[.agg #[.bool na,.slice A n c,.bool nb,.slice B m d],.agg #[.bool na',.slice A' n' c',.bool nb',.slice B' m' d']] w (Zoj w (a.num*b.den-b.num*a.den) ((a.den:Int)*(b.den:Nat))):=by
 obtain⟨W0,Y,T,⟨q0,q1,q2,q3⟩,s0⟩:=Zgf w 41 #[.bool na,.slice A n c,.bool nb,.slice B m d] 41 #[.bool na',.slice A' n' c',.bool nb',.slice B' m' d'] 39 #[.bool false,.slice none 0 0] 39 #[.bool false,.slice none 0 0];have hmx:=Gt
 have hA:=Za (ha.below T);have hD:=Za (hb.below T);replace hs:=Za hs;replace ht:=Za ht;replace h1:=Za h1;replace h2:=Za h2;have sz:=Za T.size;have hB:=Za T;clear ha hb T s0;replace q0:=Za q0;replace q1:=Za q1;replace q2:=Za q2;replace q3:=Za q3;obtain⟨a0,a1,a2,a3,-⟩:=q0.out.four;obtain⟨b0,b1,b2,b3,-⟩:=q1.out.four;replace Y:=Za Y;go_enter Tryz.func160,Tryz.ntmps160;go_wp2_with fail;rw[Y.out];clear Y;refine Z7 [19] (λW'=>W'.cell? ⟨w.heap.size,0,none⟩=some (.bool na)/\W'.cell? ⟨w.heap.size,1,none⟩=some (.slice A n c)/\W'.cell? ⟨w.heap.size,2,none⟩=some (.bool nb)/\W'.cell? ⟨w.heap.size,3,none⟩=some (.slice B m d)/\W'.cell? ⟨w.heap.size+1,0,none⟩=some (.bool na')/\W'.cell? ⟨w.heap.size+1,1,none⟩=some (.slice A' n' c')/\W'.cell? ⟨w.heap.size+1,2,none⟩=some (.bool nb')/\W'.cell? ⟨w.heap.size+1,3,none⟩=some (.slice B' m' d')) hmx ⟨a0,a1,a2,a3,b0,b1,b2,b3⟩ (λ_=>?_);refine Zjw 8 [0,1,3,4,10,11,12,13] rfl (by kernel_rfl) ⟨a0,a1,a2,a3,b0,b1,b2,b3⟩ ?_
 iterate 8 (refine tkA ?_;try simp only[Qa,Zg4,Zgk,Zgx,Gr,Gq,Gp])
 refine tk0 ?_;refine wpAnyL_o 2 λK hK=>?_;go_simp;refine(Zff na nb na' nb' A B A' B' n c m d n' c' m' d' a b W0.drew hA.out hD.out h1.out).mono ?_;rintro e w1 ⟨f,nu,U,k1,u,rfl,hU⟩;replace f:=Zv f;replace hU:=Za hU;replace q0:=Za (Zc f q0.out);replace q1:=Za (Zc f q1.out);replace q2:=Za (Zc f q2.out);replace q3:=Za (Zc f q3.out);replace hA:=Za (hA.out.below f);replace hD:=Za (hD.out.below f);replace hB:=Za (hB.out.trans (f.mono sz.out));replace sz:=Za (Qb sz.out f.size);clear a0 a1 a2 a3 b0 b1 b2 b3;obtain⟨a0,a1,a2,a3,-⟩:=q0.out.four;obtain⟨b0,b1,b2,b3,-⟩:=q1.out.four;clear f;refine hK.out _ _ (λ_=>⟨a0,a1,a2,a3,b0,b1,b2,b3⟩) ?_;clear hK K
 try simp only[Qa,Zg4,Zgk,Zgx]
 refine wpAnyL_o 5 λK hK=>?_;go_simp;refine(Zff na' nb' na nb A' B' A B n' c' m' d' n c m d b a w1 hD.out hA.out h2.out).mono ?_;rintro e w2 ⟨C,nv,V,k2,v,rfl,hV⟩;replace hU:=Za (hU.out.below C);replace hV:=Za hV;replace q0:=Za (Zc C q0.out);replace q1:=Za (Zc C q1.out);replace q2:=Za (Zc C q2.out);replace q3:=Za (Zc C q3.out);replace hA:=Za (hA.out.below C);replace hD:=Za (hD.out.below C);replace hB:=Za (hB.out.trans (C.mono sz.out));replace sz:=Za (Qb sz.out C.size);clear a0 a1 a2 a3 b0 b1 b2 b3;obtain⟨a0,a1,a2,a3,-⟩:=q0.out.four;obtain⟨b0,b1,b2,b3,-⟩:=q1.out.four;clear C;refine hK.out _ _ (λ_=>⟨a0,a1,a2,a3,b0,b1,b2,b3⟩) ?_;clear hK K
 try simp only[Qa,Zg4,Zgk,Zgx]
 refine wpAnyL_o 6 λK hK=>?_;go_simp;refine(Ztp nu nv U V k1 u k2 v _ _ w2 hU.out hV.out).mono ?_;rintro e w3 ⟨I,np,P,k,q,code,rfl,hR⟩;have hP:=Za (hR.small hs.out);have J:=hR.code0 hs.out;subst J;clear hs hR hU hV;replace q0:=Za (Zc I q0.out);replace q1:=Za (Zc I q1.out);replace q2:=Za (Zc I q2.out);replace q3:=Za (Zc I q3.out);replace hA:=Za (hA.out.below I);replace hD:=Za (hD.out.below I);replace hB:=Za (hB.out.trans (I.mono sz.out));replace sz:=Za (Qb sz.out I.size);clear a0 a1 a2 a3 b0 b1 b2 b3;obtain⟨a0,a1,a2,a3,-⟩:=q0.out.four;obtain⟨b0,b1,b2,b3,-⟩:=q1.out.four;clear I;refine hK.out _ _ (λ_=>⟨a0,a1,a2,a3,b0,b1,b2,b3⟩) ?_;clear hK K
 try simp only[Qa,Zg4,Zgk,Zgx]
 refine Zjw 2 [7,8] rfl (by kernel_rfl) ⟨a0,a1,a2,a3,b0,b1,b2,b3⟩ ?_
 iterate 2 (refine tkA ?_;try simp only[Qa,Zg4,Zgk,Zgx,Gr,Gq,Gp])
 refine tk0 ?_;refine wpAnyL_o 9 λK hK=>?_;go_simp;refine(Zdy np P k q w3).mono ?_;rintro e w4 ⟨rfl,o⟩;replace hP:=Za (hP.out.below o);replace q0:=Za (Zc o q0.out);replace q1:=Za (Zc o q1.out);replace q2:=Za (Zc o q2.out);replace q3:=Za (Zc o q3.out);replace hA:=Za (hA.out.below o);replace hD:=Za (hD.out.below o);replace hB:=Za (hB.out.trans (o.mono sz.out));replace sz:=Za (Qb sz.out o.size);clear a0 a1 a2 a3 b0 b1 b2 b3;obtain⟨a0,a1,a2,a3,-⟩:=q0.out.four;obtain⟨b0,b1,b2,b3,-⟩:=q1.out.four;clear o;refine hK.out _ _ (λ_=>⟨a0,a1,a2,a3,b0,b1,b2,b3⟩) ?_;clear hK K
 try simp only[Qa,Zg4,Zgk,Zgx]
 refine wpAnyL_o 14 λK hK=>?_;go_simp;refine(Zi3 nb nb' B B' m d m' d' a.den b.den w4 hA.out.2 hD.out.2).mono ?_;rintro e w5 ⟨y,a4,P',k',q',code,rfl,hR⟩;replace hP:=Za (hP.out.below y);have O:=Za (hR.small ht.out);have J:=hR.code0 ht.out;subst J;clear ht hR;replace q0:=Za (Zc y q0.out);replace q1:=Za (Zc y q1.out);replace q2:=Za (Zc y q2.out);replace q3:=Za (Zc y q3.out);replace hA:=Za (hA.out.below y);replace hD:=Za (hD.out.below y);replace hB:=Za (hB.out.trans (y.mono sz.out));replace sz:=Za (Qb sz.out y.size);clear a0 a1 a2 a3 b0 b1 b2 b3;obtain⟨a0,a1,a2,a3,-⟩:=q0.out.four;obtain⟨b0,b1,b2,b3,-⟩:=q1.out.four;clear y;refine hK.out _ _ (λ_=>⟨a0,a1,a2,a3,b0,b1,b2,b3⟩) ?_;clear hK K
 try simp only[Qa,Zg4,Zgk,Zgx]
 refine Zjw 2 [15,16] rfl (by kernel_rfl) ⟨a0,a1,a2,a3,b0,b1,b2,b3⟩ ?_
 iterate 2 (refine tkA ?_;try simp only[Qa,Zg4,Zgk,Zgx,Gr,Gq,Gp])
 refine tk0 ?_;refine wpAnyL_o 17 λK hK=>?_;go_simp;refine(Zdy a4 P' k' q' w5).mono ?_;rintro e w6 ⟨rfl,h⟩;replace hP:=Za (hP.out.below h);replace O:=Za (O.out.below h);replace q0:=Za (Zc h q0.out);replace q1:=Za (Zc h q1.out);replace q2:=Za (Zc h q2.out);replace q3:=Za (Zc h q3.out);replace hA:=Za (hA.out.below h);replace hD:=Za (hD.out.below h);replace hB:=Za (hB.out.trans (h.mono sz.out));replace sz:=Za (Qb sz.out h.size);clear a0 a1 a2 a3 b0 b1 b2 b3;obtain⟨a0,a1,a2,a3,-⟩:=q0.out.four;obtain⟨b0,b1,b2,b3,-⟩:=q1.out.four;clear h;obtain⟨x0,x1,f0,f1⟩:=q2.out.two;refine hK.out _ _ (λ_=>⟨a0,a1,a2,a3,b0,b1,b2,b3⟩) ?_;clear hK K
 try simp only[Qa,Zg4,Zgk,Zgx]
 refine wpAnyL_o 18 λK hK=>?_;go_simp;obtain⟨W5,a8,a6,a5,kW,kB,s5⟩:=Zas np P k q hB.out (by omega) q2.out;rw[a8];clear a8 x0 x1 f0 f1 a0 a1 a2 a3 b0 b1 b2 b3 hA hD;replace q0:=kB _ _ _ (by omega) q0.out;replace q1:=kB _ _ _ (by omega) q1.out;obtain⟨a0,a1,a2,a3,-⟩:=q0.four;obtain⟨b0,b1,b2,b3,-⟩:=q1.four;replace q3:=Za (kB _ _ _ (by omega) q3.out);replace hP:=Za (kW _ _ _ _ _ hP.out);replace O:=Za (kW _ _ _ _ _ O.out);clear kW kB q2 hB q0 q1;obtain⟨y0,y1,g0,g1⟩:=q3.out.two;refine hK.out _ _ (λ_=>⟨a0,a1,a2,a3,b0,b1,b2,b3⟩) ?_;clear hK K
 try simp only[Qa,Zg4,Zgk,Zgx]
 refine Zm (i:=19) rfl (by kernel_rfl) (by kernel_rfl) (λK hK=>?_);go_simp;obtain⟨W6,a7,b4,a9,kW,kB,s6⟩:=Zas a4 P' k' q' a6 (by omega) q3.out;rw[a7];clear a7 y0 y1 g0 g1 a0 a1 a2 a3 b0 b1 b2 b3;replace a5:=kB _ _ _ (by omega) a5;replace hP:=Za (kW _ _ _ _ _ hP.out);replace O:=Za (kW _ _ _ _ _ O.out);clear kW kB q3 a6;refine hK.out _ _ ?_;clear hK K
 try simp only[Qa,Zg4,Zgk,Zgx]
 refine wpAnyL_fin ?_;obtain⟨r0,r1,-⟩:=a5.two;obtain⟨r2,r3,-⟩:=a9.two;go_wp2_with fail;refine bodyPost_ret (v:=.tuple #[.agg #[.bool np,.slice P k q],.agg #[.bool a4,.slice P' k' q']]) (by simp[results,Tryz.results160,go_sem,r0,r1,r2,r3]) rfl ?_;exact⟨b4,_,_,_,_,_,_,_,_,rfl,hP.out,O.out⟩
theorem Zei(na nb:Bool)(A B:Option Addr)(n c m d:Nat)(r:Rat)(w:World)(h:Fr w na A n c nb B m d r) :
    Calls Tryz.prog 110 #[.agg #[.bool na,.slice A n c,.bool nb,.slice B m d]] w λe w'=>e=.returned (.int .i64 0)/\Below w.heap.size w w':=by
 have hn:=h.neg;subst hn;have hl:=low_rat r;exact Zlx na A B n c m d r.num r.den w h.1 h.2 hl.1 true (by rw[hl.2];rfl)
theorem Zpv(F:FuncId)(na nb na' nb':Bool)(A B A' B':Option Addr)(n c m d n' c' m' d':Nat)(a b:Rat)(X Y:Int)(w:World)(ha:Fr w na A n c nb B m d a)(hb:Fr w na' A' n' c' nb' B' m' d' b)(hY:0<Y)(hcf:∀ (x y:Value) (W:World),(callFunc F #[x,y]).run Tryz.prog W=.ok (.enter F #[x,y]) W)
    (hF:∀ W:World,Fr W na A n c nb B m d a->Fr W na' A' n' c' nb' B' m' d' b->Calls Tryz.prog F #[.agg #[.bool na,.slice A n c,.bool nb,.slice B m d],.agg #[.bool na',.slice A' n' c',.bool nb',.slice B' m' d']] W (Zoj W X Y)) :
    Calls Tryz.prog 130 #[.agg #[.bool na,.slice A n c,.bool nb,.slice B m d],.agg #[.bool na',.slice A' n' c',.bool nb',.slice B' m' d'],.func (.func F) #[] #[]] w (Zir w (Qo X Y)):=by
 obtain⟨W0,O,I,⟨q0,q1,q2,q3⟩,s0⟩:=Zgf w 41 #[.bool na,.slice A n c,.bool nb,.slice B m d] 41 #[.bool na',.slice A' n' c',.bool nb',.slice B' m' d'] 41 #[.bool false,.slice none 0 0,.bool false,.slice none 0 0] 26 #[.int .i64 0];have hA:=Za (ha.below I);have hD:=Za (hb.below I);replace hF:=Za hF;clear ha hb;replace O:=Za O;obtain⟨a0,a1,a2,a3,-⟩:=q0.four;have hq:=Za (Qg q0 (Qg q1 (Qg q2 q3)));clear q0 q1 q2 q3
 go_enter_defers Tryz.func130,Tryz.ntmps130
 have b4:=O.out;go_wp2_with fail;clear O b4;refine(Zei na nb A B n c m d a W0 hA.out).mono ?_;rintro e w1 ⟨rfl,h⟩;have a4:Below w.heap.size w w1:=I.trans (h.mono I.size);have s1:W0.heap.size<=w1.heap.size:=h.size;replace hA:=Za (hA.out.below h);replace hD:=Za (hD.out.below h);obtain⟨q0,q1,q2,q3⟩:=hq.out;replace q0:=Zc h q0;replace q1:=Zc h q1;replace q2:=Zc h q2;replace q3:=Zc h q3;clear hq h I a0 a1 a2 a3;obtain⟨b0,b1,b2,b3,-⟩:=q1.four;have hq:=Za (Qg q0 (Qg q1 (Qg q2 q3)));clear q0 q1 q2 q3;go_wp2_with fail;refine(Zfk w1).mono ?_;rintro e w1 ⟨rfl,rfl⟩;go_wp2_with fail;refine(Zei na' nb' A' B' n' c' m' d' b w1 hD.out).mono ?_;rintro e w2 ⟨rfl,o⟩;have T:Below w.heap.size w w2:=a4.trans (o.mono a4.size);have s2:w1.heap.size<=w2.heap.size:=o.size;replace hA:=Za (hA.out.below o);replace hD:=Za (hD.out.below o);obtain⟨q0,q1,q2,q3⟩:=hq.out;replace q0:=Zc o q0;replace q1:=Zc o q1;replace q2:=Zc o q2;replace q3:=Zc o q3;clear hq o a4 b0 b1 b2 b3;obtain⟨a0,a1,a2,a3,-⟩:=q0.four;obtain⟨b0,b1,b2,b3,-⟩:=q1.four;have hq:=Za (Qg q2 q3);clear q0 q1 q2 q3;go_wp2_with fail;refine(Zfk w2).mono ?_;rintro e w2 ⟨rfl,rfl⟩;go_wp2_with fail;refine(hF.out w2 hA.out hD.out).mono ?_;rintro e w3 ⟨J,nu,U,k1,u,nv,V,k2,v,rfl,hU,hV⟩;have a5:Below w.heap.size w w3:=T.trans (J.mono T.size);have s3:w2.heap.size<=w3.heap.size:=J.size;have hn:nv=false:=by rw[hV.1];simp;omega
 subst hn;have q2:=Zc J hq.out.1;have q3:=Zc J hq.out.2;clear hq J T a0 a1 a2 a3 b0 b1 b2 b3 hA hD hF;have hq:=Za (Qg q2 q3);replace hU:=Za hU;replace hV:=Za hV;clear q2 q3;go_wp2_with fail;refine(Zi1 nu U V k1 u k2 v X Y w3 hU.out hV.out hY).mono ?_;rintro e w4 ⟨C,nx,Ax,kx,cx,ny,Ay,ky,cy,rfl,hF⟩;have c4:Below w.heap.size w w4:=a5.trans (C.mono a5.size);have s4:w3.heap.size<=w4.heap.size:=C.size;have q2:=Zc C hq.out.1;have q3:=Zc C hq.out.2;clear hq C hU hV a5;have c2:=Za q2.four;have c3:=q3.cell 0;have f3:=q3.frozen 0;simp at c3;obtain⟨c6,c7,b9,c9,b7,b6,c1,c5⟩:=c2.out;have hq:=Za (Qg q2 q3);clear q2 q3;go_wp2_with fail;obtain⟨W5,b5,a8,q2,kW,kB,s5⟩:=Zal nx Ax kx cx ny Ay ky cy c4 (by omega) hq.out.1;have q3:=kB _ _ _ (by omega) hq.out.2;have a6:=Za (kW _ _ _ _ _ hF.1);have a7:=Za (kW _ _ _ _ _ hF.2);rw[b5];clear kW kB c6 c7 b9 c9 c3 f3 b7 b6 c1 c5 hq hF;obtain⟨W6,a9,c8,q3,kW,kB,s6⟩:=Zy 0 a8 (by omega) q3;replace q2:=kB _ _ _ (by omega) q2;have c0:=Za (kW _ _ _ _ _ a6.out);have b8:=Za (kW _ _ _ _ _ a7.out);rw[a9];obtain⟨r0,r1,r2,r3,-⟩:=q2.four;have r4:=q3.cell 0;simp at r4
 clear kW kB a8 a6 a7 b5 a9;refine leaves_cons (f:=147) (args:=#[.pointer (some ⟨w.heap.size+1+1+1,0,none⟩)]) (by simp) (by simp[go_sem]) ?_;refine(Zg2 _ _).mono ?_;rintro e u' w'' ⟨rfl,rfl,rfl⟩;refine⟨.tuple #[.agg #[.bool nx,.slice Ax kx cx,.bool ny,.slice Ay ky cy],.int .i64 0],by simp[results,Tryz.results130,go_sem,r0,r1,r2,r3,r4],?_⟩;exact⟨c8,_,_,_,_,_,_,_,_,rfl,c0.out,b8.out⟩
theorem Zuw(x y:Value)(W:World):(callFunc 131 #[x,y]).run Tryz.prog W=.ok (.enter 131 #[x,y]) W:=by simp[go_sem]
theorem Zto(x y:Value)(W:World):(callFunc 160 #[x,y]).run Tryz.prog W=.ok (.enter 160 #[x,y]) W:=by simp[go_sem]
def Sm(r:Rat):Prop:=r.num.natAbs<pw 1000/\r.den<pw 1000
theorem Zcw{x y:Nat}{i j:Nat}(hx:x<pw i)(hy:y<pw j):x*y<pw (i+j):=by
 rw[Zcs];exact Nat.mul_lt_mul'' hx hy
theorem Zme{x y:Int}(hx:x.natAbs<pw 1000)(hy:y.natAbs<pw 1000):(x*y).natAbs<pw 2000:=by
 rw[Int.natAbs_mul];have h:=Zcw hx hy;rw[show 1000+1000=2000 from rfl]at h;exact h
theorem Zpu(k:Nat):pw k+pw k<=pw (k+1):=by rw[Za3];generalize pw k=x;omega
theorem Zzt:pw 2000+pw 2000<=pw 4096:=Qb (Zpu 2000) (Zb4 (by decide))
theorem Zdk{x y:Int}(hx:x.natAbs<pw 1000)(hy:y.natAbs<pw 1000):(x*y).natAbs<pw 4096:=Nat.lt_of_lt_of_le (Zme hx hy) (Zb4 (by decide))
theorem sm_sub{x y z v:Int}(hx:x.natAbs<pw 1000)(hy:y.natAbs<pw 1000)(hz:z.natAbs<pw 1000)(hv:v.natAbs<pw 1000):(x*y-z*v).natAbs<pw 4096:=by
 have h1:=Zme hx hy;have h2:=Zme hz hv;have h3:=Zzt;omega
theorem Sm.dn{r:Rat}(h:Sm r):((r.den:Nat):Int).natAbs<pw 1000:=by simpa using h.2
theorem Zvp(a b:Rat):Qo (a.num*b.num) ((a.den:Int)*(b.den:Nat))=a*b:=by
 rw[<- Rat.divInt_mul_divInt,Qe,Qe]
theorem Zvx(a b:Rat):Qo (a.num*b.den-b.num*a.den) ((a.den:Int)*(b.den:Nat))=a-b:=by
 have ha:((a.den:Nat):Int)≠0:=by have:=a.den_pos;omega
 have hb:((b.den:Nat):Int)≠0:=by have:=b.den_pos;omega
 rw[<- Rat.divInt_sub_divInt _ _ ha hb,Qe,Qe]
theorem Zdt(a b:Rat):0<((a.den:Int)*(b.den:Nat)):=Int.mul_pos (by have:=a.den_pos;omega) (by have:=b.den_pos;omega)
theorem Zvt(na nb na' nb':Bool)(A B A' B':Option Addr)(n c m d n' c' m' d':Nat)(a b:Rat)(w:World)(ha:Fr w na A n c nb B m d a)(hb:Fr w na' A' n' c' nb' B' m' d' b)(sa:Sm a)(sb:Sm b) :
    Calls Tryz.prog 116 #[.agg #[.bool na,.slice A n c,.bool nb,.slice B m d],.agg #[.bool na',.slice A' n' c',.bool nb',.slice B' m' d']] w (Zir w (a-b)):=by
 obtain⟨W0,u,f,⟨q0,q1,q2⟩,s0⟩:=Zd0 w 41 #[.bool na,.slice A n c,.bool nb,.slice B m d] 41 #[.bool na',.slice A' n' c',.bool nb',.slice B' m' d'] 41 #[.bool false,.slice none 0 0,.bool false,.slice none 0 0];have hA:=Za (ha.below f);have hD:=Za (hb.below f);have hF:=λ(W:World) (h1:Fr W na A n c nb B m d a) (h2:Fr W na' A' n' c' nb' B' m' d' b)=>Sub1_ok na nb na' nb' A B A' B' n c m d n' c' m' d' a b W h1 h2 (Zdk sa.1 sb.dn) (Zdk sb.1 sa.dn) (sm_sub sa.1 sb.dn sb.1 sa.dn) (Zdk sa.dn sb.dn);have hG:=Za (Zpv 160 na nb na' nb' A B A' B' n c m d n' c' m' d' a b _ _ W0 hA.out hD.out (Zdt a b) Zto hF);rw[Zvx]at hG;clear hF ha hb sa sb hA hD;obtain⟨a0,a1,a2,a3,-⟩:=q0.four;obtain⟨b0,b1,b2,b3,-⟩:=q1.four;replace q2:=Za q2;clear q0 q1;go_enter Tryz.func116,Tryz.ntmps116;go_wp2_with fail;refine hG.out.mono ?_;rintro e w1 ⟨h,nx,Ax,kx,cx,ny,Ay,ky,cy,rfl,hX⟩;have C:Below w.heap.size w w1:=f.trans (h.mono f.size);have s1:W0.heap.size<=w1.heap.size:=h.size;replace q2:=Za (Zc h q2.out);replace hX:=Za hX;clear h a0 a1 a2 a3 b0 b1 b2 b3 f hG u;obtain⟨Y,V,U,a4,O,J,I,T⟩:=q2.out.four;go_wp2_with fail;obtain⟨W5,o,y,q2,kW,-,s5⟩:=Zal nx Ax kx cx ny Ay ky cy C (by omega) q2.out;rw[o];obtain⟨r0,r1,r2,r3,-⟩:=q2.four;refine bodyPost_ret (v:=.tuple #[.agg #[.bool nx,.slice Ax kx cx,.bool ny,.slice Ay ky cy],.int .i64 0]) (by simp[results,Tryz.results116,go_sem,r0,r1,r2,r3]) rfl ?_;exact⟨y,_,_,_,_,_,_,_,_,rfl,kW _ _ _ _ _ hX.out.1,kW _ _ _ _ _ hX.out.2⟩
theorem Zvv(na nb na' nb':Bool)(A B A' B':Option Addr)(n c m d n' c' m' d':Nat)(a b:Rat)(w:World)(ha:Fr w na A n c nb B m d a)(hb:Fr w na' A' n' c' nb' B' m' d' b)(sa:Sm a)(sb:Sm b) :
    Calls Tryz.prog 85 #[.agg #[.bool na,.slice A n c,.bool nb,.slice B m d],.agg #[.bool na',.slice A' n' c',.bool nb',.slice B' m' d']] w (Zir w (a*b)):=by
 obtain⟨W0,u,f,⟨q0,q1,q2⟩,s0⟩:=Zd0 w 41 #[.bool na,.slice A n c,.bool nb,.slice B m d] 41 #[.bool na',.slice A' n' c',.bool nb',.slice B' m' d'] 41 #[.bool false,.slice none 0 0,.bool false,.slice none 0 0];have hA:=Za (ha.below f);have hD:=Za (hb.below f);have hF:=λ(W:World) (h1:Fr W na A n c nb B m d a) (h2:Fr W na' A' n' c' nb' B' m' d' b)=>Mul1_ok na nb na' nb' A B A' B' n c m d n' c' m' d' a b W h1 h2 (Zdk sa.1 sb.1) (Zdk sa.dn sb.dn);have hG:=Za (Zpv 131 na nb na' nb' A B A' B' n c m d n' c' m' d' a b _ _ W0 hA.out hD.out (Zdt a b) Zuw hF);rw[Zvp]at hG;clear hF ha hb sa sb hA hD;obtain⟨a0,a1,a2,a3,-⟩:=q0.four;obtain⟨b0,b1,b2,b3,-⟩:=q1.four;replace q2:=Za q2;clear q0 q1;go_enter Tryz.func85,Tryz.ntmps85;go_wp2_with fail;refine hG.out.mono ?_;rintro e w1 ⟨h,nx,Ax,kx,cx,ny,Ay,ky,cy,rfl,hX⟩;have C:Below w.heap.size w w1:=f.trans (h.mono f.size);have s1:W0.heap.size<=w1.heap.size:=h.size;replace q2:=Za (Zc h q2.out);replace hX:=Za hX;clear h a0 a1 a2 a3 b0 b1 b2 b3 f hG u;obtain⟨Y,V,U,a4,O,J,I,T⟩:=q2.out.four;go_wp2_with fail;obtain⟨W5,o,y,q2,kW,-,s5⟩:=Zal nx Ax kx cx ny Ay ky cy C (by omega) q2.out;rw[o];obtain⟨r0,r1,r2,r3,-⟩:=q2.four;refine bodyPost_ret (v:=.tuple #[.agg #[.bool nx,.slice Ax kx cx,.bool ny,.slice Ay ky cy],.int .i64 0]) (by simp[results,Tryz.results85,go_sem,r0,r1,r2,r3]) rfl ?_;exact⟨y,_,_,_,_,_,_,_,_,rfl,kW _ _ _ _ _ hX.out.1,kW _ _ _ _ _ hX.out.2⟩
theorem Fr.keep{w W:World}{na:Bool}{A:Option Addr}{n c:Nat}{nb:Bool}{B:Option Addr}{m d:Nat}{r:Rat}(h:Fr w na A n c nb B m d r)(k:∀ na A n c z,Wd w na A n c z->Wd W na A n c z):Fr W na A n c nb B m d r:=⟨k _ _ _ _ _ h.1,k _ _ _ _ _ h.2⟩
theorem rat_add(a b:Rat):Qo (a.num*b.den+b.num*a.den) ((a.den:Int)*(b.den:Nat))=a+b:=by
 have ha:((a.den:Nat):Int)≠0:=by have:=a.den_pos;omega
 have hb:((b.den:Nat):Int)≠0:=by have:=b.den_pos;omega
 rw[<- Rat.divInt_add_divInt _ _ ha hb,Qe,Qe]
structure FE where
 na:Bool
 A:Option Addr
 n:Nat
 c:Nat
 nb:Bool
 B:Option Addr
 m:Nat
 d:Nat
 q:Rat
def FE.in_(w:World)(e:FE):Prop:=Fr w e.na e.A e.n e.c e.nb e.B e.m e.d e.q
def Zp:List FE->List Value
 | []=>[]
 | e::l=>.bool e.na :: .slice e.A e.n e.c :: .bool e.nb :: .slice e.B e.m e.d::Zp l
def Zz(es:List FE):Array Value:=(Zp es).toArray
theorem Zt(es:List FE):(Zp es).length=es.length*4:=by
 induction es with
 | nil=>rfl
 | cons e l ih=>simp only[Zp,List.length_cons,ih];omega
theorem Zg3{es:List FE}{i:Nat}{e:FE}(h:es[i]?=some e):(Zp es)[i*4]?=some (.bool e.na)/\(Zp es)[i*4+1]?=some (.slice e.A e.n e.c)/\(Zp es)[i*4+2]?=some (.bool e.nb)/\(Zp es)[i*4+3]?=some (.slice e.B e.m e.d):=by
 induction es generalizing i with
 | nil=>simp at h
 | cons x l ih =>
  cases i with
  | zero=>simp at h;subst h;simp[Zp]
  | succ i =>
   have:=ih (by simpa using h);rw[show (i+1)*4=i*4+4 by omega];simpa [Zp]using this
theorem Zn4(es:List FE):∀ (i x:Nat),(Zp es)[i]?≠some (limb x):=by
 induction es with
 | nil=>intro i x;simp[Zp]
 | cons e l ih =>
  intro i x
  match i with
  | 0=>simp[Zp]
  | 1=>simp[Zp]
  | 2=>simp[Zp]
  | 3=>simp[Zp]
  | i+4=>simpa [Zp]using ih i x
theorem Zfs{es:List FE}{i:Nat}{e:FE}(h:es[i]?=some e):(Zz es)[i*4]?=some (.bool e.na)/\(Zz es)[i*4+1]?=some (.slice e.A e.n e.c)/\(Zz es)[i*4+2]?=some (.bool e.nb)/\(Zz es)[i*4+3]?=some (.slice e.B e.m e.d):=by
 simpa [Zz]using Zg3 h
theorem Zcl(es:List FE):NoLimb (Zz es):=λi x=>by simpa [Zz]using Zn4 es i x
def Zaw:FE:=⟨false,none,0,0,false,none,0,0,0⟩
theorem Zaq(es fs:List FE):Zp (es++fs)=Zp es++Zp fs:=by
 induction es with
 | nil=>rfl
 | cons e l ih=>simp only[List.cons_append,Zp,ih]
theorem Zjd(fs:List FE):∀ u ∈ Zp fs,u.oneCell'=true:=by
 induction fs with
 | nil=>intro u h;simp[Zp]at h
 | cons e l ih =>
  intro u h;simp only[Zp,List.mem_cons]at h;rcases h with rfl|rfl|rfl|rfl|h;rfl;rfl;rfl;rfl;exact ih u h
theorem Zd4(k:Nat):(Qf #[.bool false,.slice none 0 0,.bool false,.slice none 0 0] k).toList=Zp (Qd k Zaw):=by
 unfold Qf;apply List.ext_getElem?;intro i;by_cases h:i<k*4
 ·have he:(Qd k Zaw)[i/4]?=some Zaw:=by rw[List.getElem?_replicate,Gx (by omega)]
  have hc:=Zg3 he;have h4:i%4=0 \/ i%4=1 \/ i%4=2 \/ i%4=3:=by omega
  rcases h4 with h2|h2|h2|h2;rw[show i/4*4=i by omega]at hc;rw[hc.1];simp[h,h2,Zaw];rw[show i/4*4+1=i by omega]at hc;rw[hc.2.1];simp[h,h2,Zaw];rw[show i/4*4+2=i by omega]at hc;rw[hc.2.2.1];simp[h,h2,Zaw];rw[show i/4*4+3=i by omega]at hc;rw[hc.2.2.2];simp[h,h2,Zaw]
 rw[Qu (by simp;omega),Qu (by rw[Zt];simp;omega)]
def RowF(t:TypeId)(w:World)(base:Nat)(v:Value)(es:List FE):Prop:=
 (v=.slice none 0 0/\es=[]) \/ ∃ g sp,v=.slice (some ⟨g,0,none⟩) es.length (es.length+sp)/\base<=g/\es.length+sp<=maxLen/\Blk w g t (Zz (es++Qd sp Zaw))
section
variable{t:TypeId}{w w':World}{base:Nat}{v:Value}{es:List FE}
theorem RowF.own(h:RowF t w base v es):w.ownsRow base t 4 v es.length (Zp es):=by
 refine⟨Zt es,?_⟩;rcases h with ⟨h1,rfl⟩|⟨g,sp,h1,h2,h3,h4⟩;exact .inl ⟨h1,rfl⟩
 ·refine .inr ⟨g,_,_,h1,h2,h4,QA _ _,h3,?_,?_⟩
  simp[Zz,Zt]
  ·simp only[Zz]
   rw[Zaq,<- Zt es];exact QC
theorem RowF.row_ge(h:RowF t w base v es):∀ k,v.ownBlock=some k->base<=k:=λk hk=>(h.own.lt k hk).1
theorem RowF.kept(h:RowF t w base v es)(hb:Below w.heap.size w w'):RowF t w' base v es:=by
 rcases h with h|⟨g,sp,h1,h2,h3,h4⟩;exact .inl h;exact .inr ⟨g,sp,h1,h2,h3,Zc hb h4⟩
theorem RowF.keep(h:RowF t w base v es)(hg:w.grownBy w' v.ownBlock){A:Option Addr}{n c:Nat}{l:List Nat}(hL:Lim w A n c l):Lim w' A n c l:=by
 refine⟨hL.1,hL.2.1,hL.2.2.1,hL.2.2.2.1,λhn=>?_⟩;obtain⟨b,o,e,hc⟩:=hL.2.2.2.2 hn;refine⟨b,o,e,λk hk=>?_⟩;rw[<- hc k hk];refine World.cell?_of_block (hg.block b (Zo (hc k hk)) (λe'=>?_));rcases h with ⟨rfl,_⟩|⟨g,sp,rfl,_,_,h4⟩;cases e'
 ·have f:b=g:=by simpa [Value.ownBlock]using e'
  subst f;have h1:=hc k hk;rw[h4.cell]at h1;exact Zcl _ _ _ h1
end
section
variable{P:Program}(w:World)
theorem Zlf(base:Nat)(t ty e:TypeId)(i:TypeInfo)(ht:P.underlying t=some (.slice e))(hi:P.info? e=some i)(hz:i.zero=some (.agg #[.bool false,.slice none 0 0,.bool false,.slice none 0 0]))
    (hs:i.size=4) (hby:i.bytes=64) (v:Value) (es:List FE) (hown:RowF e w base v es)
    (B:Nat) (A:Option Addr) (m c:Nat) (fs:List FE) (hr:Reads w B 4 A m (Zp fs)) (hm:fs.length=m) (h63:es.length+m<=1000) (hbase:base<=w.heap.size) :
    ∃ v' w',(Qs #[t,t] ty #[v,.slice A m c]).run P w=.ok v' w'/\RowF e w' base v' (es++fs)/\w.grownBy w' v.ownBlock:=by
 rcases Nat.eq_zero_or_pos m with h0|h0
 ·subst h0
  obtain rfl:fs=[]:=Ql hm;rw[List.append_nil];rcases A with _|ad;exact⟨v,w,Zcg w base t ty e i 4 ht hi v _ _ hown.own c,hown,World.grownBy.refl w _⟩
  ·have hf:=run_firstCells_some (P:=P) w i.size 0 ad 0 c [] (by simp) (by simp)
   rcases hown with ⟨rfl,rfl⟩|⟨g,sp,rfl,h2,h3,h4⟩
   ·refine⟨.slice none 0 0,w,?_,.inl ⟨rfl,rfl⟩,World.grownBy.refl w _⟩
    simp[Qs,run_underlying ht,sizeOf,typeInfo,hi,Builtin.lenOf,Builtin.firstCells,loadCells,loadCellsFrom]
   ·refine⟨_,w,?_,.inr ⟨g,sp,rfl,h2,h3,h4⟩,World.grownBy.refl w _⟩
    simp[Qs,run_underlying ht,sizeOf,typeInfo,hi,Builtin.lenOf,Builtin.firstCells,loadCells,loadCellsFrom,storeCells]
 ·obtain⟨ad,rfl,_,hc⟩:=hr.2 h0
  have hl:(Zp fs).length=m*i.size:=by rw[Zt,hm,hs]
  have o:es.length*i.size=(Zp es).length:=by rw[Zt,hs]
  rcases hown with ⟨rfl,rfl⟩|⟨g,sp,rfl,h2,h3,h4⟩
  ·have f:=run_append_nil (P:=P) w t ty e i _ ht hi hz ad m c (Zp fs) hl hc h0 (by omega) (by rw[hby];omega)
   have h:=grownCap_ge w m 0 e;have y:=grownCap_le_maxLen w m 0 e (by unfold maxLen;simp only[List.length_nil]at h63;omega);refine⟨_,_,f,.inr ⟨w.heap.size,grownCap w m 0 e-m,?_,hbase,?_,?_⟩,⟨rfl,rfl,rfl,by simp,λk hk _=>Below.heap_alloc w.drew _ k hk⟩⟩;rw[QB,hm,Qk h];rw[QB,hm,Qk h];exact y
   ·have:=heap_alloc_new w.drew (.cells ((Zp fs).toArray++Qf (Value.agg #[.bool false,.slice none 0 0,.bool false,.slice none 0 0]).cells (grownCap w m 0 e-m)) e)
    unfold Blk;refine this.trans ?_;congr 1
    have hx:(Zp fs).toArray++Qf (Value.agg #[.bool false,.slice none 0 0,.bool false,.slice none 0 0]).cells (grownCap w m 0 e-m)=Zz ([]++fs++Qd (grownCap w m 0 e-m) Zaw):=by
     apply Array.toList_inj.1;rw[Qm,show (Value.agg #[.bool false,.slice none 0 0,.bool false,.slice none 0 0]).cells=#[.bool false,.slice none 0 0,.bool false,.slice none 0 0] from rfl,Zd4];simp[Zz,Zaq]
    rw[hx]
  ·by_cases hroom:m<=sp
   ·have f:=run_append_room (P:=P) w t ty e i ht hi g es.length (es.length+sp) _ h4 ad m c (Zp fs) hl hc (Zjd fs) (by omega) (by rw[o,Zt,Zt];simp[Zz,Zt];omega)
    refine⟨_,_,f,.inr ⟨g,sp-m,?_,h2,?_,?_⟩,⟨rfl,rfl,rfl,by simp[World.setRow],λk _ hk=>setRow_other w g k _ (λe'=>hk (by simp[Value.ownBlock,e']))⟩⟩;rw[Qh,hm,show es.length+m+(sp-m)=es.length+sp by omega];rw[Qh,hm];omega
    ·refine(setRow_heap w g _ _ e _ h4).trans ?_
     congr 2;unfold Zz;congr 1;rw[o];have I:Qd sp Zaw=Qd m Zaw++Qd (sp-m) Zaw:=by rw[List.replicate_append_replicate];congr 1;omega
     have J:(Zp fs).length=(Zp (Qd m Zaw)).length:=by rw[Zt,Zt,hm,List.length_replicate]
     simp only[Zaq];rw[QC,J,<- Qh,I,Zaq,<- Qy (Zp es),List.drop_left,Qy]
   ·have C:∀ j u,(Zp es)[j]?=some u->w.cell? ((⟨g,0,none⟩:Addr).add j)=some u:=λj u hu=>by
      rw[Zg,Qw,h4.cell];simp only[Zz,List.getElem?_toArray,Zaq];rw[Qp (by rw[List.getElem?_eq_some_iff]at hu;exact hu.1)];exact hu
    have f:=run_append_grow (P:=P) w t ty e i _ ht hi hz ⟨g,0,none⟩ es.length (es.length+sp) (Zp es) o.symm C ad m c (Zp fs) hl hc (by omega) (by omega) (growslice_fits (by omega) (by rw[hby];omega));have h:=grownCap_ge w (es.length+m) (es.length+sp) e;have y:=grownCap_le_maxLen w (es.length+m) (es.length+sp) e (by unfold maxLen;omega);refine⟨_,_,f,.inr ⟨w.heap.size,grownCap w (es.length+m) (es.length+sp) e-(es.length+m),?_,hbase,?_,?_⟩,⟨rfl,rfl,rfl,by simp,λk hk _=>Below.heap_alloc w.drew _ k hk⟩⟩;rw[Qh,hm,Qk h];rw[Qh,hm,Qk h];exact y
    ·have:=heap_alloc_new w.drew (.cells ((Zp es).toArray++(Zp fs).toArray++Qf (Value.agg #[.bool false,.slice none 0 0,.bool false,.slice none 0 0]).cells (grownCap w (es.length+m) (es.length+sp) e-(es.length+m))) e)
     unfold Blk;refine this.trans ?_;congr 1
     have hx:(Zp es).toArray++(Zp fs).toArray++Qf (Value.agg #[.bool false,.slice none 0 0,.bool false,.slice none 0 0]).cells (grownCap w (es.length+m) (es.length+sp) e-(es.length+m))=Zz (es++fs++Qd (grownCap w (es.length+m) (es.length+sp) e-(es.length+m)) Zaw):=by
      apply Array.toList_inj.1;rw[Qm,Qm,show (Value.agg #[.bool false,.slice none 0 0,.bool false,.slice none 0 0]).cells=#[.bool false,.slice none 0 0,.bool false,.slice none 0 0] from rfl,Zd4];simp[Zz,Zaq]
     rw[hx]
end
def OwnF(t:TypeId)(w:World)(base:Nat)(v:Value)(qs:List Rat):Prop:=∃ es,RowF t w base v es/\(∀ e ∈ es,e.in_ w)/\es.map FE.q=qs
theorem Fr.of_keep{w w':World}{na:Bool}{A:Option Addr}{n c:Nat}{nb:Bool}{B:Option Addr}{m d:Nat}{r:Rat}(h:Fr w na A n c nb B m d r)(hk:∀ (A:Option Addr) (n c:Nat) (l:List Nat),Lim w A n c l->Lim w' A n c l):Fr w' na A n c nb B m d r:=⟨⟨h.1.1,h.1.2.1,hk _ _ _ _ h.1.2.2⟩,⟨h.2.1,h.2.2.1,hk _ _ _ _ h.2.2.2⟩⟩
section
variable{t:TypeId}{w w':World}{base:Nat}{v:Value}{qs:List Rat}
theorem OwnF.nil(t:TypeId)(w:World)(base:Nat):OwnF t w base (.slice none 0 0) []:=⟨[],.inl ⟨rfl,rfl⟩,λe h=>by simp at h,rfl⟩
theorem OwnF.kept(h:OwnF t w base v qs)(hb:Below w.heap.size w w'):OwnF t w' base v qs:=by
 obtain⟨es,h1,h2,h3⟩:=h;exact⟨es,h1.kept hb,λe he=>(h2 e he).below hb,h3⟩
theorem OwnF.row_ge(h:OwnF t w base v qs):∀ k,v.ownBlock=some k->base<=k:=by obtain⟨es,h1,_⟩:=h;exact h1.row_ge
def FL(w:World)(A:Option Addr)(n c:Nat)(qs:List Rat):Prop:=
 ∃ es:List FE,es.length=n/\n<=c/\c<=maxLen/\(∀ e ∈ es,e.in_ w)/\es.map FE.q=qs/\(0<n->∃ g o,A=some ⟨g,o,none⟩/\∀ (k:Nat) (e:FE),es[k]?=some e->w.cell? ⟨g,o+k*4,none⟩=some (.bool e.na)/\w.cell? ⟨g,o+(k*4+1),none⟩=some (.slice e.A e.n e.c)/\w.cell? ⟨g,o+(k*4+2),none⟩=some (.bool e.nb)/\w.cell? ⟨g,o+(k*4+3),none⟩=some (.slice e.B e.m e.d))
theorem OwnF.fl(h:OwnF t w base v qs):∃ A c,v=.slice A qs.length c/\FL w A qs.length c qs:=by
 obtain⟨es,h1,h2,rfl⟩:=h;rcases h1 with ⟨rfl,rfl⟩|⟨g,sp,rfl,h4,h5,h6⟩;exact⟨none,0,rfl,[],rfl,Nat.le_refl _,Qz _,λe h=>by simp at h,rfl,λh=>absurd h (by simp)⟩
 ·rw[Qt]
  refine⟨_,es.length+sp,rfl,es,rfl,QA _ _,h5,h2,rfl,λ_=>⟨g,0,rfl,λk e he=>?_⟩⟩;have hk:k<es.length:=(List.getElem?_eq_some_iff.1 he).1;have hc:=Zfs (es:=es++Qd sp Zaw) (i:=k) (e:=e) (by rw[Qp hk];exact he);simp only[Qw,h6.cell];exact hc
theorem FL.below{A:Option Addr}{n c:Nat}(h:FL w A n c qs)(hb:Below w.heap.size w w'):FL w' A n c qs:=by
 obtain⟨es,h1,h2,h3,h4,h5,h6⟩:=h;refine⟨es,h1,h2,h3,λe he=>(h4 e he).below hb,h5,λhn=>?_⟩;obtain⟨g,o,e1,hc⟩:=h6 hn;refine⟨g,o,e1,λk e he=>?_⟩;obtain⟨a,b,c',d⟩:=hc k e he;exact⟨(hb.cell (Zo a)).trans a,(hb.cell (Zo b)).trans b,(hb.cell (Zo c')).trans c',(hb.cell (Zo d)).trans d⟩
end
theorem Zbm{w:World}{g:Nat}{t:TypeId}{na:Bool}{A:Option Addr}{n c:Nat}{nb:Bool}{B:Option Addr}{m d:Nat}(q:Rat)(h:Blk w g t #[.bool na,.slice A n c,.bool nb,.slice B m d]):Reads w (g+1) 4 (some ⟨g,0,none⟩) 1 (Zp [⟨na,A,n,c,nb,B,m,d,q⟩]):=
 ⟨rfl,λ_=>⟨_,rfl,Nat.lt_succ_self _,λj u hu=>by
  rw[Zg,Qw,h.cell];simpa [Zp]using hu⟩⟩
section
variable{P:Program}(w:World)
theorem Zhg{o:Oper}{a:Act}{K:Act->World->Prop}{Q:Exit->Act->World->Prop}(s x:Operand)(t:TypeId)
    (ho:o.op=.call { callee:=.builtin .append,args:=#[s,x],argTypes:=#[t,t] })
    (base:Nat) (e:TypeId) (i:TypeInfo) (ht:P.underlying t=some (.slice e)) (hi:P.info? e=some i) (hz:i.zero=some (.agg #[.bool false,.slice none 0 0,.bool false,.slice none 0 0])) (hsi:i.size=4) (hby:i.bytes=64)
    (v:Value) (qs:List Rat) (hs:a.eval s=v) (hown:OwnF e w base v qs)
    (B:Nat) (A:Option Addr) (m c:Nat) (fs:List FE) (hx:a.eval x=.slice A m c) (hr:Reads w B 4 A m (Zp fs)) (hm:fs.length=m) (hfs:∀ e ∈ fs,e.in_ w)
    (h63:qs.length+m<=1000) (hbase:base<=w.heap.size)
    (h:∀ v' w',OwnF e w' base v' (qs++fs.map FE.q)->w.grownBy w' v.ownBlock->(∀ (A:Option Addr) (n c:Nat) (l:List Nat),Lim w A n c l->Lim w' A n c l)->K (a.put o.dst v') w'):o.wp P a w K Q:=by
 obtain⟨es,h1,h2,rfl⟩:=hown;rw[Qt]at h63;obtain⟨v',w',f,h3,h4⟩:=Zlf (P:=P) w base t o.type e i ht hi hz hsi hby v es h1 B A m c fs hr hm h63 hbase;unfold Oper.wp execOp;simp only[ho,resolve,invoke,builtin,Sem.run_bind,Sem.run_pure,Result.andThen_ok,List.map_toArray,List.map_cons,List.map_nil,hs,hx,f];have hk:∀ (A:Option Addr) (n c:Nat) (l:List Nat),Lim w A n c l->Lim w' A n c l:=λ_ _ _ _ hL=>h1.keep h4 hL;refine h v' w' ⟨es++fs,h3,λe he=>?_,by rw[List.map_append]⟩ h4 hk;rcases List.mem_append.1 he with he|he;exact(h2 e he).of_keep hk;exact(hfs e he).of_keep hk
theorem Zdl{ops:Array Oper}{rest:List Oper}{o:Oper}{a:Act}{Q:Exit->Act->World->Prop}(hgd:o.guard=none)(s x:Operand)(t:TypeId)
    (ho:o.op=.call { callee:=.builtin .append,args:=#[s,x],argTypes:=#[t,t] })
    (base:Nat) (e:TypeId) (i:TypeInfo) (ht:P.underlying t=some (.slice e)) (hi:P.info? e=some i) (hz:i.zero=some (.agg #[.bool false,.slice none 0 0,.bool false,.slice none 0 0])) (hsi:i.size=4) (hby:i.bytes=64)
    (v:Value) (qs:List Rat) (hs:a.eval s=v) (hown:OwnF e w base v qs)
    (B:Nat) (A:Option Addr) (m c:Nat) (fs:List FE) (hx:a.eval x=.slice A m c) (hr:Reads w B 4 A m (Zp fs)) (hm:fs.length=m) (hfs:∀ e ∈ fs,e.in_ w)
    (h63:qs.length+m<=1000) (hbase:base<=w.heap.size)
    (h:∀ v' w',OwnF e w' base v' (qs++fs.map FE.q)->w.grownBy w' v.ownBlock->(∀ (A:Option Addr) (n c:Nat) (l:List Nat),Lim w A n c l->Lim w' A n c l)->wpList P ops Q rest (a.put o.dst v') w'):wpList P ops Q (o::rest) a w:=
 wpList_plain hgd λ_ hK=>Zhg w s x t ho base e i ht hi hz hsi hby v qs hs hown B A m c fs hx hr hm hfs h63 hbase λv' w' h2 h3 h4=>hK _ _ (h v' w' h2 h3 h4)
end
def okF(na:Bool)(la:List Nat)(nb:Bool)(lb:List Nat):Bool:=okW na la && okW nb lb && !nb && decide (0<lb.length) && decide (Nat.gcd (val la) (val lb)=1)
def qOf(na:Bool)(la lb:List Nat):Rat:=Qo (sg na (val la)) (val lb:Nat)
theorem Zt5{w:World}{na nb:Bool}{A B:Option Addr}{n c m d:Nat}{la lb:List Nat}(ha:Lim w A n c la)(hb:Lim w B m d lb)(hk:okF na la nb lb=true):Fr w na A n c nb B m d (qOf na la lb):=by
 simp only[okF,Qq,Bool.not_eq_true',decide_eq_true_eq]at hk;obtain⟨⟨⟨⟨k1,k2⟩,rfl⟩,k4⟩,k5⟩:=hk;have h2:=(Zll hb.lt).1 k2;have e2:(sg false (val lb)).natAbs=val lb:=Zab _ _;rw[e2]at h2
 have hp:0<val lb:=by
  rw[h2.2.2]at k4;exact length_digits_pos.1 k4
 have hl:Low (sg na (val la)) (val lb:Nat):=⟨by omega,by rw[Zab,Qx];exact k5⟩;obtain⟨r1,r2⟩:=rat_low hl;have w1:=Wd.of_ok ha k1;have w2:=Wd.of_ok hb k2;have e3:sg false (val lb)=(val lb:Nat):=rfl;rw[e3]at w2;refine⟨?_,?_⟩;unfold qOf;rw[r1];exact w1;unfold qOf;rw[r2];exact w2
theorem Zra(na nb:Bool)(A B:Option Addr)(n c m d:Nat)(la lb:List Nat)(w:World)(ha:Lim w A n c la)(hb:Lim w B m d lb)(hbad:(okW na la && okW nb lb)=false) :
    Calls Tryz.prog 110 #[.agg #[.bool na,.slice A n c,.bool nb,.slice B m d]] w λe w'=>e=.returned (.int .i64 8)/\Below w.heap.size w w':=by
 have hmx:=Gt
 obtain⟨W0,y,f,q0,s0⟩:=Zbe w 41 #[.bool na,.slice A n c,.bool nb,.slice B m d];have hA:=Za (ha.below f);have hD:=Za (hb.below f);clear ha hb;obtain⟨a0,a1,a2,a3,-⟩:=q0.four;replace q0:=Za q0;go_enter Tryz.func110,Tryz.ntmps110;go_wp2_with fail;refine(Gcd_bad na nb A B n c m d la lb W0 hA.out hD.out hbad).mono ?_;rintro e w1 ⟨rfl,o⟩;have h:Below w.heap.size w w1:=f.trans (o.mono f.size);clear y a0 a1 a2 a3 o;obtain⟨W4,C,u,q4,kW,kB,s4⟩:=Zr 39 #[.bool false,.slice none 0 0] h h.size;obtain⟨g0,g1,f0,f1⟩:=q4.two;go_wp2_with fail;refine Z7 [] (λwx=>True) hmx trivial (λ_=>?_);refine wpAnyL_o 0 λK hK=>?_;go_simp;refine hK.out _ _ (λ_=>trivial) ?_;clear hK K
 try simp only[Qa,Zg4,Zgk,Zgx]
 refine wpAnyL_o 1 λK hK=>?_;go_simp;refine hK.out _ _ (λ_=>trivial) ?_;clear hK K
 try simp only[Qa,Zg4,Zgk,Zgx]
 refine wpAnyL_o 2 λK hK=>?_;go_simp;refine hK.out _ _ (λ_=>trivial) ?_;clear hK K
 try simp only[Qa,Zg4,Zgk,Zgx]
 refine wpAnyL_o 3 λK hK=>?_;go_simp;refine hK.out _ _ (λ_=>trivial) ?_;clear hK K
 try simp only[Qa,Zg4,Zgk,Zgx]
 refine wpAnyL_o 4 λK hK=>?_;go_simp;refine hK.out _ _ (λ_=>trivial) ?_;clear hK K
 try simp only[Qa,Zg4,Zgk,Zgx]
 refine wpAnyL_o 5 λK hK=>?_;go_simp;refine hK.out _ _ (λ_=>trivial) ?_;clear hK K
 try simp only[Qa,Zg4,Zgk,Zgx]
 refine wpAnyL_o 6 λK hK=>?_;go_simp;refine hK.out _ _ (λ_=>trivial) ?_;clear hK K
 try simp only[Qa,Zg4,Zgk,Zgx]
 refine wpAnyL_o 7 λK hK=>?_;go_simp;refine hK.out _ _ (λ_=>trivial) ?_;clear hK K
 try simp only[Qa,Zg4,Zgk,Zgx]
 refine wpAnyL_o 8 λK hK=>?_;go_simp;refine hK.out _ _ (λ_=>trivial) ?_;clear hK K
 try simp only[Qa,Zg4,Zgk,Zgx]
 refine wpAnyL_o 9 λK hK=>?_;go_simp;refine hK.out _ _ (λ_=>trivial) ?_;clear hK K
 try simp only[Qa,Zg4,Zgk,Zgx]
 refine wpAnyL_o 10 λK hK=>?_;go_simp;refine hK.out _ _ (λ_=>trivial) ?_;clear hK K
 try simp only[Qa,Zg4,Zgk,Zgx]
 refine wpAnyL_o 11 λK hK=>?_;go_simp;refine hK.out _ _ (λ_=>trivial) ?_;clear hK K
 try simp only[Qa,Zg4,Zgk,Zgx]
 refine wpAnyL_o 12 λK hK=>?_;go_simp;refine hK.out _ _ (λ_=>trivial) ?_;clear hK K
 try simp only[Qa,Zg4,Zgk,Zgx]
 refine Zd (i:=13) (v:=undef) rfl (by kernel_rfl) (by kernel_rfl) (by kernel_rfl) (by kernel_rfl) (by kernel_rfl) (Or.inr ⟨by rfl,rfl⟩) trivial ?_
 try simp only[Qa,Zg4,Zgk,Zgx]
 refine wpAnyL_o 14 λK hK=>?_;go_simp;refine hK.out _ _ (λ_=>trivial) ?_;clear hK K
 try simp only[Qa,Zg4,Zgk,Zgx]
 refine wpAnyL_o 15 λK hK=>?_;go_simp;refine hK.out _ _ (λ_=>trivial) ?_;clear hK K
 try simp only[Qa,Zg4,Zgk,Zgx]
 refine wpAnyL_o 16 λK hK=>?_;go_simp;refine hK.out _ _ (λ_=>trivial) ?_;clear hK K
 try simp only[Qa,Zg4,Zgk,Zgx]
 refine wpAnyL_o 17 λK hK=>?_;go_simp;refine hK.out _ _ (λ_=>trivial) ?_;clear hK K
 try simp only[Qa,Zg4,Zgk,Zgx]
 refine wpAnyL_fin ?_;go_wp2_with fail;go_ret;exact⟨rfl,Zf ((u.setCell (p:=⟨w1.heap.size,0,none⟩) h.size (.bool false)).setCell (p:=⟨w1.heap.size,1,none⟩) h.size (.slice none 0 0)) 1⟩
theorem Zq3(na:Bool)(A B:Option Addr)(n c m d:Nat)(za zb:Int)(w:World)(ha:Wd w na A n c za)(hb:Wd w true B m d zb) :
    Calls Tryz.prog 110 #[.agg #[.bool na,.slice A n c,.bool true,.slice B m d]] w λe w'=>e=.returned (.int .i64 8)/\Below w.heap.size w w':=by
 have hmx:=Gt
 have J:Nat.gcd za.natAbs zb.natAbs<pw 4096:=Ze3 ha.small hb.small;obtain⟨W0,C,f,q0,s0⟩:=Zbe w 41 #[.bool na,.slice A n c,.bool true,.slice B m d];have hA:=Za (ha.below f);have hD:=Za (hb.below f);clear ha hb;obtain⟨a0,a1,a2,a3,-⟩:=q0.four;go_enter Tryz.func110,Tryz.ntmps110;go_wp2_with fail;refine(Zkj na true A B n c m d za zb W0 hA.out hD.out).mono ?_;rintro e w1 ⟨h,ng,Ag,kg,cg,code,rfl,hR⟩;rcases hR with ⟨-,rfl,I⟩|⟨o,-⟩
 case inr=>exact absurd o (by omega)
 have u:Below w.heap.size w w1:=f.trans (h.mono f.size);replace q0:=Zc h q0;clear C a0 a1 a2 a3 h;obtain⟨W4,O,y,q4,kW,kB,s4⟩:=Zr 39 #[.bool ng,.slice Ag kg cg] u u.size;replace q0:=kB _ _ _ q0;obtain⟨g0,g1,f0,f1⟩:=q4.two;obtain⟨a0,a1,a2,a3,-⟩:=q0.four;go_wp2_with fail;refine Z7 [] (λwx=>wx.cell? ⟨w.heap.size,2,none⟩=some (.bool true)) hmx a2 (λ_=>?_);refine wpAnyL_o 0 λK hK=>?_;go_simp;refine hK.out _ _ (λ_=>a2) ?_;clear hK K
 try simp only[Qa,Zg4,Zgk,Zgx]
 refine wpAnyL_o 1 λK hK=>?_;go_simp;refine hK.out _ _ (λ_=>a2) ?_;clear hK K
 try simp only[Qa,Zg4,Zgk,Zgx]
 refine wpAnyL_o 2 λK hK=>?_;go_simp;refine hK.out _ _ (λ_=>a2) ?_;clear hK K
 try simp only[Qa,Zg4,Zgk,Zgx]
 refine wpAnyL_o 3 λK hK=>?_;go_simp;refine hK.out _ _ (λ_=>a2) ?_;clear hK K
 try simp only[Qa,Zg4,Zgk,Zgx]
 refine wpAnyL_o 4 λK hK=>?_;go_simp;refine hK.out _ _ (λ_=>a2) ?_;clear hK K
 try simp only[Qa,Zg4,Zgk,Zgx]
 refine wpAnyL_o 5 λK hK=>?_;go_simp;refine hK.out _ _ (λ_=>a2) ?_;clear hK K
 try simp only[Qa,Zg4,Zgk,Zgx]
 refine wpAnyL_o 6 λK hK=>?_;go_simp;refine hK.out _ _ (λ_=>a2) ?_;clear hK K
 try simp only[Qa,Zg4,Zgk,Zgx]
 refine wpAnyL_o 7 λK hK=>?_;go_simp;refine hK.out _ _ (λ_=>a2) ?_;clear hK K
 try simp only[Qa,Zg4,Zgk,Zgx]
 refine wpAnyL_o 8 λK hK=>?_;go_simp;refine hK.out _ _ (λ_=>a2) ?_;clear hK K
 try simp only[Qa,Zg4,Zgk,Zgx]
 refine wpAnyL_o 9 λK hK=>?_;go_simp;refine hK.out _ _ (λ_=>a2) ?_;clear hK K
 try simp only[Qa,Zg4,Zgk,Zgx]
 refine wpAnyL_o 10 λK hK=>?_;go_simp;refine hK.out _ _ (λ_=>a2) ?_;clear hK K
 try simp only[Qa,Zg4,Zgk,Zgx]
 refine wpAnyL_o 11 λK hK=>?_;go_simp;refine hK.out _ _ (λ_=>a2) ?_;clear hK K
 try simp only[Qa,Zg4,Zgk,Zgx]
 refine wpAnyL_o 12 λK hK=>?_;go_simp;refine hK.out _ _ (λ_=>a2) ?_;clear hK K
 try simp only[Qa,Zg4,Zgk,Zgx]
 refine Zd (i:=13) (v:=undef) rfl (by kernel_rfl) (by kernel_rfl) (by kernel_rfl) (by kernel_rfl) (by kernel_rfl) (Or.inr ⟨by rfl,rfl⟩) a2 ?_
 try simp only[Qa,Zg4,Zgk,Zgx]
 refine wpAnyL_o 14 λK hK=>?_;go_simp;refine hK.out _ _ (λ_=>a2) ?_;clear hK K
 try simp only[Qa,Zg4,Zgk,Zgx]
 refine wpAnyL_o 15 λK hK=>?_;go_simp;refine hK.out _ _ (λ_=>a2) ?_;clear hK K
 try simp only[Qa,Zg4,Zgk,Zgx]
 refine wpAnyL_o 16 λK hK=>?_;go_simp;refine hK.out _ _ (λ_=>a2) ?_;clear hK K
 try simp only[Qa,Zg4,Zgk,Zgx]
 refine wpAnyL_o 17 λK hK=>?_;go_simp;refine hK.out _ _ (λ_=>a2) ?_;clear hK K
 try simp only[Qa,Zg4,Zgk,Zgx]
 refine wpAnyL_fin ?_;go_wp2_with fail;go_ret;exact⟨rfl,Zf y 1⟩
theorem Zq1(na:Bool)(A B:Option Addr)(n c d:Nat)(za:Int)(w:World)(ha:Wd w na A n c za)(hb:Wd w false B 0 d 0) :
    Calls Tryz.prog 110 #[.agg #[.bool na,.slice A n c,.bool false,.slice B 0 d]] w λe w'=>e=.returned (.int .i64 8)/\Below w.heap.size w w':=by
 have hmx:=Gt
 have T:Nat.gcd za.natAbs (Int.natAbs 0)<pw 4096:=Ze3 ha.small hb.small;obtain⟨W0,I,h,q0,s0⟩:=Zbe w 41 #[.bool na,.slice A n c,.bool false,.slice B 0 d];have hA:=Za (ha.below h);have hD:=Za (hb.below h);clear ha hb;obtain⟨a0,a1,a2,a3,-⟩:=q0.four;go_enter Tryz.func110,Tryz.ntmps110;go_wp2_with fail;refine(Zkj na false A B n c 0 d za 0 W0 hA.out hD.out).mono ?_;rintro e w1 ⟨o,ng,Ag,kg,cg,code,rfl,hR⟩;rcases hR with ⟨-,rfl,O⟩|⟨y,-⟩
 case inr=>exact absurd y (by omega)
 have C:Below w.heap.size w w1:=h.trans (o.mono h.size);replace q0:=Zc o q0;clear I a0 a1 a2 a3 o;obtain⟨W4,U,u,q4,kW,kB,s4⟩:=Zr 39 #[.bool ng,.slice Ag kg cg] C C.size;replace q0:=kB _ _ _ q0;obtain⟨g0,g1,f0,f1⟩:=q4.two;obtain⟨a0,a1,a2,a3,-⟩:=q0.four;go_wp2_with fail;refine Z7 [] (λwx=>wx.cell? ⟨w.heap.size,2,none⟩=some (.bool false)/\wx.cell? ⟨w.heap.size,3,none⟩=some (.slice B 0 d)) hmx ⟨a2,a3⟩ (λ_=>?_);refine wpAnyL_o 0 λK hK=>?_;go_simp;refine hK.out _ _ (λ_=>⟨a2,a3⟩) ?_;clear hK K
 try simp only[Qa,Zg4,Zgk,Zgx]
 refine wpAnyL_o 1 λK hK=>?_;go_simp;refine hK.out _ _ (λ_=>⟨a2,a3⟩) ?_;clear hK K
 try simp only[Qa,Zg4,Zgk,Zgx]
 refine wpAnyL_o 2 λK hK=>?_;go_simp;refine hK.out _ _ (λ_=>⟨a2,a3⟩) ?_;clear hK K
 try simp only[Qa,Zg4,Zgk,Zgx]
 refine wpAnyL_o 3 λK hK=>?_;go_simp;refine hK.out _ _ (λ_=>⟨a2,a3⟩) ?_;clear hK K
 try simp only[Qa,Zg4,Zgk,Zgx]
 refine wpAnyL_o 4 λK hK=>?_;go_simp;refine hK.out _ _ (λ_=>⟨a2,a3⟩) ?_;clear hK K
 try simp only[Qa,Zg4,Zgk,Zgx]
 refine wpAnyL_o 5 λK hK=>?_;go_simp;refine hK.out _ _ (λ_=>⟨a2,a3⟩) ?_;clear hK K
 try simp only[Qa,Zg4,Zgk,Zgx]
 refine wpAnyL_o 6 λK hK=>?_;go_simp;refine hK.out _ _ (λ_=>⟨a2,a3⟩) ?_;clear hK K
 try simp only[Qa,Zg4,Zgk,Zgx]
 refine wpAnyL_o 7 λK hK=>?_;go_simp;refine hK.out _ _ (λ_=>⟨a2,a3⟩) ?_;clear hK K
 try simp only[Qa,Zg4,Zgk,Zgx]
 refine wpAnyL_o 8 λK hK=>?_;go_simp;refine hK.out _ _ (λ_=>⟨a2,a3⟩) ?_;clear hK K
 try simp only[Qa,Zg4,Zgk,Zgx]
 refine wpAnyL_o 9 λK hK=>?_;go_simp;refine hK.out _ _ (λ_=>⟨a2,a3⟩) ?_;clear hK K
 try simp only[Qa,Zg4,Zgk,Zgx]
 refine wpAnyL_o 10 λK hK=>?_;go_simp;refine(Zjx _ _ _ _ _ (by omega) true rfl).mono ?_;rintro e w3 ⟨rfl,J⟩;have f:=Zv J;have k2:=Zb f a2;have k3:=Zb f a3;refine hK.out _ _ (λ_=>⟨k2,k3⟩) ?_;clear hK K
 try simp only[Qa,Zg4,Zgk,Zgx]
 refine wpAnyL_o 11 λK hK=>?_;go_simp;refine hK.out _ _ (λ_=>⟨k2,k3⟩) ?_;clear hK K
 try simp only[Qa,Zg4,Zgk,Zgx]
 refine wpAnyL_o 12 λK hK=>?_;go_simp;refine hK.out _ _ (λ_=>⟨k2,k3⟩) ?_;clear hK K
 try simp only[Qa,Zg4,Zgk,Zgx]
 refine Zd (i:=13) (v:=undef) rfl (by kernel_rfl) (by kernel_rfl) (by kernel_rfl) (by kernel_rfl) (by kernel_rfl) (Or.inr ⟨by rfl,rfl⟩) ⟨k2,k3⟩ ?_
 try simp only[Qa,Zg4,Zgk,Zgx]
 refine wpAnyL_o 14 λK hK=>?_;go_simp;refine hK.out _ _ (λ_=>⟨k2,k3⟩) ?_;clear hK K
 try simp only[Qa,Zg4,Zgk,Zgx]
 refine wpAnyL_o 15 λK hK=>?_;go_simp;refine hK.out _ _ (λ_=>⟨k2,k3⟩) ?_;clear hK K
 try simp only[Qa,Zg4,Zgk,Zgx]
 refine wpAnyL_o 16 λK hK=>?_;go_simp;refine hK.out _ _ (λ_=>⟨k2,k3⟩) ?_;clear hK K
 try simp only[Qa,Zg4,Zgk,Zgx]
 refine wpAnyL_o 17 λK hK=>?_;go_simp;refine hK.out _ _ (λ_=>⟨k2,k3⟩) ?_;clear hK K
 try simp only[Qa,Zg4,Zgk,Zgx]
 refine wpAnyL_fin ?_;go_wp2_with fail;go_ret;exact⟨rfl,u.trans (f.mono u.size)⟩
theorem Zlz(na nb:Bool)(A B:Option Addr)(n c m d:Nat)(la lb:List Nat)(w:World)(ha:Lim w A n c la)(hb:Lim w B m d lb)(x:Bool)(hx:okF na la nb lb=x) :
    Calls Tryz.prog 110 #[.agg #[.bool na,.slice A n c,.bool nb,.slice B m d]] w λe w'=>e=.returned (.int .i64 (Zhy x))/\Below w.heap.size w w':=by
 cases x
 ·simp only[okF,Bool.and_eq_false_iff,Bool.not_eq_false',decide_eq_false_iff_not]at hx
  by_cases h1:(okW na la && okW nb lb)=true
  ·have h:=h1
   rw[Qq]at h1;have hA:=Wd.of_ok ha h1.1;have hD:=Wd.of_ok hb h1.2;cases nb
   ·by_cases hz:0<lb.length
    ·have e3:sg false (val lb)=(val lb:Nat):=rfl
     rw[e3]at hD;have h2:=(Zll hb.lt).1 h1.2;have e2:(sg false (val lb)).natAbs=val lb:=Zab _ _;rw[e2]at h2
     have hp:0<val lb:=by
      rw[h2.2.2]at hz;exact length_digits_pos.1 hz
     refine Zlx na A B n c m d _ _ w hA hD (by omega) false ?_;rw[Zab,Qx];rcases hx with (((hx|hx)|hx)|hx)|hx;rw[h1.1]at hx;cases hx;rw[h1.2]at hx;cases hx;cases hx;omega;simp;omega
    ·have f:lb=[]:=Ql (by omega)
     subst f;have hm:m=0:=hb.len.symm;subst hm;exact Zq1 na A B n c d _ w hA hD
   exact Zq3 na A B n c m d _ _ w hA hD
  exact Zra na nb A B n c m d la lb w ha hb (by simpa using h1)
 exact Zei na nb A B n c m d _ w (Zt5 ha hb hx)
structure FX where
 na:Bool
 A:Option Addr
 n:Nat
 c:Nat
 la:List Nat
 nb:Bool
 B:Option Addr
 m:Nat
 d:Nat
 lb:List Nat
def FX.in_(w:World)(e:FX):Prop:=Lim w e.A e.n e.c e.la/\Lim w e.B e.m e.d e.lb
def FX.ok(e:FX):Bool:=okF e.na e.la e.nb e.lb
def FX.q(e:FX):Rat:=qOf e.na e.la e.lb
def FX.few(e:FX):Nat:=max e.n e.m
def At4(w:World)(g o:Nat)(na:Bool)(A:Option Addr)(n c:Nat)(nb:Bool)(B:Option Addr)(m d:Nat):Prop:=
 w.cell? ⟨g,o,none⟩=some (.bool na)/\w.cell? ⟨g,o+1,none⟩=some (.slice A n c)/\w.cell? ⟨g,o+2,none⟩=some (.bool nb)/\w.cell? ⟨g,o+3,none⟩=some (.slice B m d)
theorem At4.below{w w':World}{g o:Nat}{na:Bool}{A:Option Addr}{n c:Nat}{nb:Bool}{B:Option Addr}{m d:Nat}(h:At4 w g o na A n c nb B m d)(hb:Below w.heap.size w w'):At4 w' g o na A n c nb B m d:=
 ⟨Zb hb h.1,Zb hb h.2.1,Zb hb h.2.2.1,Zb hb h.2.2.2⟩
def FXL(w:World)(A:Option Addr)(n c:Nat)(es:List FX):Prop:=
 es.length=n/\n<=c/\c<=maxLen/\(∀ e ∈ es,e.in_ w)/\(0<n->∃ g o,A=some ⟨g,o,none⟩/\∀ (k:Nat) (e:FX),es[k]?=some e->At4 w g (o+k*4) e.na e.A e.n e.c e.nb e.B e.m e.d)
section
variable{w w':World}{A:Option Addr}{n c:Nat}{es:List FX}
theorem FX.in_below{e:FX}(h:e.in_ w)(hb:Below w.heap.size w w'):e.in_ w':=⟨h.1.below hb,h.2.below hb⟩
theorem FXL.below(h:FXL w A n c es)(hb:Below w.heap.size w w'):FXL w' A n c es:=by
 obtain⟨h1,h2,h3,h4,h5⟩:=h;refine⟨h1,h2,h3,λe he=>FX.in_below (h4 e he) hb,λhn=>?_⟩;obtain⟨g,o,e1,hc⟩:=h5 hn;exact⟨g,o,e1,λk e he=>(hc k e he).below hb⟩
theorem FXL.at_(h:FXL w A n c es){k:Nat}(hk:k<n):∃ g o e,A=some ⟨g,o,none⟩/\es[k]?=some e/\At4 w g (o+k*4) e.na e.A e.n e.c e.nb e.B e.m e.d/\Lim w e.A e.n e.c e.la/\Lim w e.B e.m e.d e.lb:=by
 obtain⟨h1,-,-,h4,h5⟩:=h;obtain⟨g,o,e1,hc⟩:=h5 (by omega);have he:=Qc (l:=es) (i:=k) (by omega);have hi:=h4 es[k] (Qr _);exact⟨g,o,es[k],e1,he,hc k _ he,hi.1,hi.2⟩
theorem FXL.fl(h:FXL w A n c es)(hk:∀ e ∈ es,e.ok=true):FL w A n c (es.map FX.q):=by
 obtain⟨h1,h2,h3,h4,h5⟩:=h;refine⟨es.map λe=>⟨e.na,e.A,e.n,e.c,e.nb,e.B,e.m,e.d,e.q⟩,by simp[h1],h2,h3,λe he=>?_,by rw[List.map_map];rfl,λhn=>?_⟩
 ·obtain⟨x,hx,rfl⟩:=List.mem_map.1 he
  exact Zt5 (h4 x hx).1 (h4 x hx).2 (hk x hx)
 ·obtain⟨g,o,e1,hc⟩:=h5 hn
  refine⟨g,o,e1,λk e he=>?_⟩;rw[Qn]at he;obtain⟨x,hx,rfl⟩:=Option.map_eq_some_iff.1 he;exact hc k x hx
end
structure RX where
 A:Option Addr
 n:Nat
 c:Nat
 es:List FX
def MXL(w:World)(A:Option Addr)(n c:Nat)(rs:List RX):Prop:=
 rs.length=n/\n<=c/\c<=maxLen/\(∀ r ∈ rs,FXL w r.A r.n r.c r.es)/\(0<n->∃ g o,A=some ⟨g,o,none⟩/\∀ (k:Nat) (r:RX),rs[k]?=some r->w.cell? ⟨g,o+k,none⟩=some (.slice r.A r.n r.c))
def MFL(w:World)(A:Option Addr)(n c:Nat)(Q:List (List Rat)):Prop:=
 Q.length=n/\n<=c/\c<=maxLen/\(0<n->∃ g o,A=some ⟨g,o,none⟩/\∀ (k:Nat) (q:List Rat),Q[k]?=some q->∃ A' n' c',w.cell? ⟨g,o+k,none⟩=some (.slice A' n' c')/\FL w A' n' c' q)
section
variable{w w':World}{A:Option Addr}{n c:Nat}{rs:List RX}{Q:List (List Rat)}{qs:List Rat}
theorem MXL.below(h:MXL w A n c rs)(hb:Below w.heap.size w w'):MXL w' A n c rs:=by
 obtain⟨h1,h2,h3,h4,h5⟩:=h;refine⟨h1,h2,h3,λr hr=>(h4 r hr).below hb,λhn=>?_⟩;obtain⟨g,o,e1,hc⟩:=h5 hn;exact⟨g,o,e1,λk r hr=>Zb hb (hc k r hr)⟩
theorem MXL.at_(h:MXL w A n c rs){k:Nat}(hk:k<n):∃ g o r,A=some ⟨g,o,none⟩/\rs[k]?=some r/\w.cell? ⟨g,o+k,none⟩=some (.slice r.A r.n r.c)/\FXL w r.A r.n r.c r.es:=by
 obtain⟨h1,-,-,h4,h5⟩:=h;obtain⟨g,o,e1,hc⟩:=h5 (by omega);have he:=Qc (l:=rs) (i:=k) (by omega);exact⟨g,o,rs[k],e1,he,hc k _ he,h4 rs[k] (Qr _)⟩
theorem MXL.mfl(h:MXL w A n c rs)(hk:∀ r ∈ rs,∀ e ∈ r.es,e.ok=true):MFL w A n c (rs.map λr=>r.es.map FX.q):=by
 obtain⟨h1,h2,h3,h4,h5⟩:=h;refine⟨by simp[h1],h2,h3,λhn=>?_⟩;obtain⟨g,o,e1,hc⟩:=h5 hn;refine⟨g,o,e1,λk q hq=>?_⟩;rw[Qn]at hq;obtain⟨r,hr,rfl⟩:=Option.map_eq_some_iff.1 hq;exact⟨r.A,r.n,r.c,hc k r hr,(h4 r (Qi hr)).fl (hk r (Qi hr))⟩
theorem MFL.below(h:MFL w A n c Q)(hb:Below w.heap.size w w'):MFL w' A n c Q:=by
 obtain⟨h1,h2,h3,h5⟩:=h;refine⟨h1,h2,h3,λhn=>?_⟩;obtain⟨g,o,e1,hc⟩:=h5 hn;refine⟨g,o,e1,λk q hq=>?_⟩;obtain⟨A',n',c',h6,h7⟩:=hc k q hq;exact⟨A',n',c',Zb hb h6,h7.below hb⟩
theorem MFL.at_(h:MFL w A n c Q){k:Nat}(hk:k<n):∃ g o A' n' c',A=some ⟨g,o,none⟩/\w.cell? ⟨g,o+k,none⟩=some (.slice A' n' c')/\FL w A' n' c' (Q[k]?.getD []):=by
 obtain⟨h1,-,-,h5⟩:=h;obtain⟨g,o,e1,hc⟩:=h5 (by omega);have he:=Qc (l:=Q) (i:=k) (by omega);obtain⟨A',n',c',h6,h7⟩:=hc k _ he;rw[he];exact⟨g,o,A',n',c',e1,h6,h7⟩
theorem FL.len(h:FL w A n c qs):qs.length=n:=by obtain⟨es,h1,-,-,-,h5,-⟩:=h;rw[<- h5,Qt,h1]
theorem FL.cap(h:FL w A n c qs):n<=c/\c<=maxLen:=by obtain⟨es,h1,h2,h3,-⟩:=h;exact⟨h2,h3⟩
theorem FL.at_(h:FL w A n c qs){k:Nat}(hk:k<n):∃ g o na A1 n1 c1 nb B m d,A=some ⟨g,o,none⟩/\At4 w g (o+k*4) na A1 n1 c1 nb B m d/\Fr w na A1 n1 c1 nb B m d (qs[k]?.getD 0):=by
 obtain⟨es,h1,-,-,h4,rfl,h5⟩:=h;obtain⟨g,o,e1,hc⟩:=h5 (by omega);have he:=Qc (l:=es) (i:=k) (by omega);refine⟨g,o,es[k].na,es[k].A,es[k].n,es[k].c,es[k].nb,es[k].B,es[k].m,es[k].d,e1,hc k _ he,?_⟩;rw[Qn,he];exact h4 es[k] (Qr _)
theorem FL.take(h:FL w A n c qs){k:Nat}(hk:k<=n):FL w A k c (qs.take k):=by
 obtain⟨es,h1,h2,h3,h4,rfl,h5⟩:=h;refine⟨es.take k,by rw[List.length_take];omega,by omega,h3,λe he=>h4 e (List.mem_of_mem_take he),by rw[List.map_take],λhn=>?_⟩;obtain⟨g,o,e1,hc⟩:=h5 (by omega);refine⟨g,o,e1,λj e he=>?_⟩;rw[List.getElem?_take]at he
 split at he
 exact hc j e he;cases he
end
theorem Zo7{x y:Int}{na nb:Bool}(ha:na=decide (x<0))(hb:nb=decide (y<0)):Zj2 na nb (digits x.natAbs) (digits y.natAbs)=decide (x=y):=by
 unfold Zj2;rw[Zho,ha,hb];by_cases h:x=y;subst h;simp[Zda]
 ·rw[Gu h]
  unfold Zda;by_cases h1:(decide (x<0) == decide (y<0))=true
  ·have:x.natAbs≠y.natAbs:=by
     intro e;rw[beq_iff_eq,decide_eq_decide]at h1;omega
   rcases Nat.lt_or_gt_of_ne this with h2|h2;rw[Gx (by omega)];simp;rw[Gw (by omega),Gx (by omega)];simp
  rw[Bool.not_eq_true]at h1;rw[h1];rfl
def Fz(w:World)(na:Bool)(A:Option Addr)(n c:Nat)(nb:Bool)(B:Option Addr)(m d:Nat)(q:Int × Int):Prop:=Wd w na A n c q.1/\Wd w nb B m d q.2
theorem Fz.below{w w':World}{na:Bool}{A:Option Addr}{n c:Nat}{nb:Bool}{B:Option Addr}{m d:Nat}{r:Int × Int}(h:Fz w na A n c nb B m d r)(hb:Below w.heap.size w w'):Fz w' na A n c nb B m d r:=⟨h.1.below hb,h.2.below hb⟩
def prQ(r:Rat):Int × Int:=(r.num,(r.den:Nat))
theorem Fr.fz{w:World}{na:Bool}{A:Option Addr}{n c:Nat}{nb:Bool}{B:Option Addr}{m d:Nat}{r:Rat}(h:Fr w na A n c nb B m d r):Fz w na A n c nb B m d (prQ r):=h
theorem Zx7(na nb na' nb':Bool)(A B A' B':Option Addr)(n c m d n' c' m' d':Nat)(a b:Int × Int)(w:World)(ha:Fz w na A n c nb B m d a)(hb:Fz w na' A' n' c' nb' B' m' d' b)(s:Bool)(hs:decide (a=b)=s) :
    Calls Tryz.prog 21 #[.agg #[.bool na,.slice A n c,.bool nb,.slice B m d],.agg #[.bool na',.slice A' n' c',.bool nb',.slice B' m' d']] w λe w'=>e=.returned (.bool s)/\Below w.heap.size w w':=by
 obtain⟨W0,u,h,⟨q0,q1⟩,s0⟩:=Zdb w 41 #[.bool na,.slice A n c,.bool nb,.slice B m d] 41 #[.bool na',.slice A' n' c',.bool nb',.slice B' m' d'];have hA:=Za (ha.below h);have hD:=Za (hb.below h);have e1:=Za (Zo7 ha.1.1 hb.1.1);have e2:=Za (Zo7 ha.2.1 hb.2.1);clear ha hb;obtain⟨x,hx⟩:∃ x,decide (a.1=b.1)=x:=⟨_,rfl⟩;obtain⟨y,hy⟩:∃ y,decide (a.2=b.2)=y:=⟨_,rfl⟩
 have J:s=(x && y):=by
  rw[<- hs,<- hx,<- hy,Bool.eq_iff_iff];simp only[decide_eq_true_eq,Qq];constructor;rintro rfl;exact⟨rfl,rfl⟩;rintro⟨h1,h2⟩;exact Prod.ext h1 h2
 subst J;rw[hx]at e1;rw[hy]at e2;clear hs hx hy;obtain⟨a0,a1,a2,a3,-⟩:=q0.four;obtain⟨b0,b1,b2,b3,-⟩:=q1.four;have hq:=Za (Qg q0 q1);clear q0 q1;go_enter Tryz.func21,Tryz.ntmps21;go_wp2_with fail;refine(Ze4 na na' A A' n c n' c' _ _ W0 hA.out.1.lim hD.out.1.lim).mono ?_;rw[e1.out];rintro e w1 ⟨rfl,f⟩;have o:Below w.heap.size w w1:=h.trans (f.mono h.size);replace hA:=Za (hA.out.below f);replace hD:=Za (hD.out.below f);obtain⟨q0,q1⟩:=hq.out;replace q0:=Zc f q0;replace q1:=Zc f q1;clear u f a0 a1 a2 a3 b0 b1 b2 b3 hq h;obtain⟨a0,a1,a2,a3,-⟩:=q0.four;obtain⟨b0,b1,b2,b3,-⟩:=q1.four;clear q0 q1;cases x
 ·go_wp2_with fail
  go_ret;exact⟨rfl,o⟩
 ·go_wp2_with fail
  refine(Ze4 nb nb' B B' m d m' d' _ _ w1 hA.out.2.lim hD.out.2.lim).mono ?_;rw[e2.out];rintro e w2 ⟨rfl,C⟩;have I:Below w.heap.size w w2:=o.trans (C.mono o.size);go_wp2_with fail;go_ret;exact⟨by simp,I⟩
theorem prQ_inj{a b:Rat}:prQ a=prQ b ↔ a=b:=by
 constructor
 ·intro h
  have h1:=congrArg Prod.fst h;have h2:=congrArg Prod.snd h;simp only[prQ]at h1 h2;exact Rat.ext h1 (by omega)
 rintro rfl;rfl
theorem Zt7(na nb na' nb':Bool)(A B A' B':Option Addr)(n c m d n' c' m' d':Nat)(a b:Rat)(w:World)(ha:Fr w na A n c nb B m d a)(hb:Fr w na' A' n' c' nb' B' m' d' b)(s:Bool)(hs:decide (a=b)=s) :
    Calls Tryz.prog 21 #[.agg #[.bool na,.slice A n c,.bool nb,.slice B m d],.agg #[.bool na',.slice A' n' c',.bool nb',.slice B' m' d']] w λe w'=>e=.returned (.bool s)/\Below w.heap.size w w':=
 Zx7 na nb na' nb' A B A' B' n c m d n' c' m' d' (prQ a) (prQ b) w ha.fz hb.fz s (by rw[<- hs];exact decide_eq_decide.2 prQ_inj)
def cmpQ(a b:Rat):Int:=if a<b then -1 else if b<a then 1 else 0
theorem Zzz(a b:Rat):Zda (a.num*b.den) (b.num*a.den)=cmpQ a b:=by
 unfold Zda cmpQ;simp only[Rat.lt_iff]
def FX.fine(e:FX):Bool:=decide (e.few<=8) && e.ok
def Zex(es:List FX):Bool:=es.all FX.fine
def IdxB(w:World)(b:Bool)(e:Ending)(w':World):Prop:=∃ i:Int,e=.returned (.int .i64 i)/\decide (0<=i)=b/\Below w.heap.size w w'
theorem Zz4(na nb:Bool)(A B:Option Addr)(n c m d:Nat)(la lb:List Nat)(w:World)(ha:Lim w A n c la)(hb:Lim w B m d lb)(b:Bool)(hx:(decide (max n m<=8) && okF na la nb lb)=b) :
    Calls Tryz.prog 192 #[.agg #[.bool na,.slice A n c,.bool nb,.slice B m d]] w λe w'=>e=.returned (.bool (!b))/\Below w.heap.size w w':=by
 obtain⟨W0,J,f,q0,s0⟩:=Zbe w 41 #[.bool na,.slice A n c,.bool nb,.slice B m d];obtain⟨a0,a1,a2,a3,-⟩:=q0.four;have I:=Qb ha.2.1 ha.2.2.1;have C:=Qb hb.2.1 hb.2.2.1;unfold maxLen at I C;obtain⟨y,hy⟩:=Gz (okF na la nb lb);rw[hy]at hx;have hC:=Za (λW1 (h1:Below w.heap.size w W1)=>Zlz na nb A B n c m d la lb W1 (ha.below h1) (hb.below h1) y hy);clear ha hb hy;have hmx:max (n:Int) (m:Int)=((max n m:Nat):Int):=by omega
 by_cases h8:max n m<=8
 ·have t1:decide ((8:Int)<((max n m:Nat):Int))=false:=Gu (by omega)
  have u:decide (8<max n m)=false:=Gu (by omega);have o:decide ((8:Int)<max (n:Int) (m:Int))=false:=Gu (by omega);rw[Gv h8,Bool.true_and]at hx;subst hx;cases y
  ·go_enter Tryz.func192,Tryz.ntmps192
   go_wp2_with fail;refine(hC.out _ (by first|exact f|exact Zf f _)).mono ?_;rintro e w1 ⟨rfl,h⟩;simp only[Zhy,Bool.false_eq_true,if_false];go_wp2_with fail;go_ret;exact⟨rfl,(by first|exact f.trans (h.mono f.size)|exact(Zf f _).trans (h.mono f.size))⟩
  ·go_enter Tryz.func192,Tryz.ntmps192
   go_wp2_with fail;refine(hC.out _ (by first|exact f|exact Zf f _)).mono ?_;rintro e w1 ⟨rfl,h⟩;simp only[Zhy,if_true];go_wp2_with fail;go_ret;exact⟨rfl,(by first|exact f.trans (h.mono f.size)|exact(Zf f _).trans (h.mono f.size))⟩
 ·have t1:decide ((8:Int)<((max n m:Nat):Int))=true:=Gv (by omega)
  have u:decide (8<max n m)=true:=Gv (by omega);have o:decide ((8:Int)<max (n:Int) (m:Int))=true:=Gv (by omega);rw[Gu h8,Bool.false_and]at hx;subst hx;go_enter Tryz.func192,Tryz.ntmps192;go_wp2_with fail;go_ret;exact⟨rfl,(by first|exact f|exact Zf f _)⟩
theorem Zy3(A:Option Addr)(n c:Nat)(es:List FX)(w:World)(h:FXL w A n c es)(b:Bool)(hb:Zex es=b) :
    Calls Tryz.prog 150 #[.slice A n c,.func (.func 192) #[] #[]] w (IdxB w (!b)):=by
 have hl:=h.1;have Y:=h.2.1;have O:=h.2.2.1;unfold maxLen at O;replace hl:=Za hl;replace hb:=Za hb;replace h:=Za h;go_enter Tryz.func150,Tryz.ntmps150;go_wp2_with fail
 go_loopw [8] (λiv wr=>∃ i:Nat,i<=n/\iv=.int .i64 i/\Hid (∀ j e,j<i->es[j]?=some e->e.fine=true)/\Below w.heap.size w wr) (λiv _=>n-(intOf iv).toNat)
 case atStart=>exact⟨0,Qz _,rfl,Za (λj e hj=>by omega),Qj _ _⟩
 case round =>
  obtain⟨i,V,rfl,y,f⟩:=hrel;by_cases hin:i<n
  case neg =>
   obtain rfl:n=i:=by omega
   have T:decide ((n:Int)<(n:Int))=false:=by simp
   obtain rfl:b=true:=by
    rw[<- hb.out];unfold Zex;rw[List.all_eq_true];intro e he;obtain⟨j,hj,U⟩:=Qv he;exact y.out j e (by rw[hl.out]at hj;exact hj) (by rw[Qc hj,U])
   go_wp2_with fail;go_ret;exact⟨-1,rfl,rfl,f⟩
  have T:decide ((i:Int)<(n:Int))=true:=Gv (by omega);obtain⟨g,o,e,rfl,he,hc,J,I⟩:=(h.out.below f).at_ hin;obtain⟨c0,c1,c2,c3⟩:=hc;obtain⟨x,hx⟩:=Gz e.fine;have hC:=Za (λW1 (hb:Below wr.heap.size wr W1)=>Zz4 e.na e.nb e.A e.B e.n e.c e.m e.d e.la e.lb W1 (J.below hb) (I.below hb) x hx);clear J I;cases x
  ·obtain rfl:b=false:=by
     rw[<- hb.out];unfold Zex;rw[List.all_eq_false];exact⟨e,Qi he,by rw[hx];decide⟩
   replace he:=Za he;clear hx;go_wp2_with fail;refine(hC.out _ (by first|exact Qj _ _|exact Zf (Qj _ _) _)).mono ?_;rintro e' w1 ⟨rfl,u⟩;go_wp2_with fail;go_ret;exact⟨i,rfl,by simp,(by first|exact f.trans (u.mono f.size)|exact(Zf f _).trans (u.mono f.size))⟩
  ·have C:Hid (∀ j e,j<i+1->es[j]?=some e->e.fine=true):=Za (λj e' hj he'=>by
     rcases Nat.lt_or_ge j i with h'|h';exact y.out j e' h' he'
     ·obtain rfl:j=i:=by omega
      rw[he]at he';cases he';exact hx)
   replace he:=Za he;clear hx;go_wp2_with fail;refine(hC.out _ (by first|exact Qj _ _|exact Zf (Qj _ _) _)).mono ?_;rintro e' w1 ⟨rfl,u⟩;go_wp2_with fail
   go_roundw
   case rel=>exact⟨i+1,by omega,by go_num,C,(by first|exact f.trans (u.mono f.size)|exact(Zf f _).trans (u.mono f.size))⟩
   case measure=>simp[intOf];omega
theorem Zwr(A:Option Addr)(n c:Nat)(es:List FX)(w:World)(h:FXL w A n c es)(b:Bool)(hb:Zex es=b) :
    Calls Tryz.prog 108 #[.slice A n c,.func (.func 192) #[] #[]] w λe w'=>e=.returned (.bool (!b))/\Below w.heap.size w w':=by
 go_enter Tryz.func108,Tryz.ntmps108;go_wp2_with fail;refine(Zy3 A n c es w h b hb).mono ?_;rintro e w1 ⟨i,rfl,hi,f⟩;replace hi:=Za hi;go_wp2_with fail;go_ret;exact⟨Zdz hi.out,f⟩
theorem Zqw(A:Option Addr)(n c:Nat)(es:List FX)(w:World)(h:FXL w A n c es)(b:Bool)(hb:Zex es=b) :
    Calls Tryz.prog 172 #[.slice A n c] w λe w'=>e=.returned (.bool b)/\Below w.heap.size w w':=by
 go_enter Tryz.func172,Tryz.ntmps172;go_wp2_with fail;refine(Zwr A n c es w h b hb).mono ?_;rintro e w1 ⟨rfl,f⟩;go_wp2_with fail;go_ret;exact⟨by simp,f⟩
def RX.long(r:RX):Bool:=decide (12<r.n)
theorem Zv7(A:Option Addr)(n c:Nat)(w:World)(hn:n<=maxLen) :
    Calls Tryz.prog 171 #[.slice A n c] w λe w'=>e=.returned (.bool (decide (12<n)))/\Below w.heap.size w w':=by
 unfold maxLen at hn;have hd:decide ((12:Int)<(n:Int))=decide (12<n):=decide_eq_decide.2 (by omega);go_enter Tryz.func171,Tryz.ntmps171;go_wp2_with fail;go_ret;exact⟨by first|rfl|simp[hd],by first|exact Qj _ _|exact Zf (Qj _ _) _⟩
theorem FXL.nlen{w:World}{A:Option Addr}{n c:Nat}{es:List FX}(h:FXL w A n c es):n<=maxLen:=Qb h.2.1 h.2.2.1
theorem Zv3(A:Option Addr)(n c:Nat)(rs:List RX)(w:World)(h:MXL w A n c rs)(b:Bool)(hb:rs.any RX.long=b) :
    Calls Tryz.prog 146 #[.slice A n c,.func (.func 171) #[] #[]] w (IdxB w b):=by
 have hl:=h.1;have U:=h.2.1;have I:=h.2.2.1;unfold maxLen at I;replace hl:=Za hl;replace hb:=Za hb;replace h:=Za h;go_enter Tryz.func146,Tryz.ntmps146;go_wp2_with fail
 go_loopw [8] (λiv wr=>∃ i:Nat,i<=n/\iv=.int .i64 i/\Hid (∀ j e,j<i->rs[j]?=some e->e.long=false)/\Below w.heap.size w wr) (λiv _=>n-(intOf iv).toNat)
 case atStart=>exact⟨0,Qz _,rfl,Za (λj e hj=>by omega),Qj _ _⟩
 case round =>
  obtain⟨i,T,rfl,y,f⟩:=hrel;by_cases hin:i<n
  case neg =>
   obtain rfl:n=i:=by omega
   have J:decide ((n:Int)<(n:Int))=false:=by simp
   obtain rfl:b=false:=by
    rw[<- hb.out,List.any_eq_false];intro e he;obtain⟨j,hj,O⟩:=Qv he;have:=y.out j e (by rw[hl.out]at hj;exact hj) (by rw[Qc hj,O]);rw[this];decide
   go_wp2_with fail;go_ret;exact⟨-1,rfl,rfl,f⟩
  have J:decide ((i:Int)<(n:Int))=true:=Gv (by omega);obtain⟨g,o,r,rfl,he,c0,hL⟩:=(h.out.below f).at_ hin;have hC:=Za (λW1=>Zv7 r.A r.n r.c W1 hL.nlen);clear hL;by_cases hx:12<r.n
  ·obtain rfl:b=true:=by
     rw[<- hb.out,List.any_eq_true];exact⟨r,Qi he,by unfold RX.long;simpa using hx⟩
   rw[Gv hx]at hC;replace he:=Za he;go_wp2_with fail;refine(hC.out _).mono ?_;rintro e' w1 ⟨rfl,u⟩;go_wp2_with fail;go_ret;exact⟨i,rfl,by simp,(by first|exact f.trans (u.mono f.size)|exact(Zf f _).trans (u.mono f.size))⟩
  ·have C:Hid (∀ j e,j<i+1->rs[j]?=some e->e.long=false):=Za (λj e' hj he'=>by
     rcases Nat.lt_or_ge j i with h'|h';exact y.out j e' h' he'
     ·obtain rfl:j=i:=by omega
      rw[he]at he';cases he';unfold RX.long;simpa using hx)
   rw[Gu hx]at hC;replace he:=Za he;go_wp2_with fail;refine(hC.out _).mono ?_;rintro e' w1 ⟨rfl,u⟩;go_wp2_with fail
   go_roundw
   case rel=>exact⟨i+1,by omega,by go_num,C,(by first|exact f.trans (u.mono f.size)|exact(Zf f _).trans (u.mono f.size))⟩
   case measure=>simp[intOf];omega
theorem Ztd(A:Option Addr)(n c:Nat)(rs:List RX)(w:World)(h:MXL w A n c rs)(b:Bool)(hb:rs.any RX.long=b) :
    Calls Tryz.prog 105 #[.slice A n c,.func (.func 171) #[] #[]] w λe w'=>e=.returned (.bool b)/\Below w.heap.size w w':=by
 go_enter Tryz.func105,Tryz.ntmps105;go_wp2_with fail;refine(Zv3 A n c rs w h b hb).mono ?_;rintro e w1 ⟨i,rfl,hi,f⟩;replace hi:=Za hi;go_wp2_with fail;go_ret;exact⟨Zdz hi.out,f⟩
