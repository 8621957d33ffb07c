/- Package frac: the closure of Mul. Package frac: the -/
import Derived.Maps.AppendAt
import Derived.Test.YthappeninglakaaGreatZd06
set_option maxRecDepth 100000
set_option maxHeartbeats 2000000
set_option linter.unusedSimpArgs false
set_option linter.unusedVariables false
namespace Go.Proofs.YthappeninglakaaGreat
open Go.RowKit
open Act renaming put→Qa
open And renaming intro→Qb
open Nat renaming le_trans→Qc,add_sub_cancel'→Ql,le_refl→Qx,zero_add→QC,gcd→QE,zero_le→QG,le_add_right→QH
open List renaming getElem?_eq_getElem→Qd,replicate→Qe,eq_nil_of_length_eq_zero→Qf,length_append→Qj,mem_of_getElem?→Qk,getElem?_map→Qp,getElem?_append_left→Qq,getElem_mem→Qu,length_map→Qw,getElem?_eq_none→Qy,getElem_of_mem→QB,append_assoc→QF,nil_append→QI,take_left→QL
open Below renaming refl→Qg
open OnlyNormal renaming normal→Qh
open Builtin renaming zeroCells→Qi,append_→Qv
open Rat renaming num_divInt_den→Qm,divInt→QA
open Int renaming natAbs_natCast→Qn,natAbs→QJ
open _root_.Array renaming toList_append→Qo
open Or renaming inl→Qr
open World renaming size_alloc→Qs
open Bool renaming and_eq_true→Qt,and_eq_false_iff→Qz,not_eq_false'→QD
open Blk renaming new→QK
attribute [local go_sem] Zh
theorem ResP.code0{w:World}{z:Int}{neg:Bool}{A:Option Addr}{n c:Nat}{code:Int}(h:ResP w z neg A n c code)(hs:z.natAbs<pw 4096):code=0:=by
 rcases h with ⟨_,h,_⟩|⟨h,_⟩;exact h;omega
def Zp4(w:World)(x y:Int)(e:Ending)(w':World):Prop:=
 Below w.heap.size w w'/\∃ na A n c nb B m d,e=.returned (.tuple #[.agg #[.bool na,.slice A n c],.agg #[.bool nb,.slice B m d]])/\Wd w' na A n c x/\Wd w' nb B m d y
theorem Mul1_ok(na nb na' nb':Bool)(A B A' B':Option Addr)(n c m d n' c' m' d':Nat)(a b:Rat)(w:World)(ha:Fr w na A n c nb B m d a)(hb:Fr w na' A' n' c' nb' B' m' d' b)
    (hs:(a.num*b.num).natAbs<pw 4096) (ht:((a.den:Int)*(b.den:Nat)).natAbs<pw 4096) :
    Calls Tryz.prog 131 #[.agg #[.bool na,.slice A n c,.bool nb,.slice B m d],.agg #[.bool na',.slice A' n' c',.bool nb',.slice B' m' d']] w (Zp4 w (a.num*b.num) ((a.den:Int)*(b.den:Nat))):=by
 obtain⟨W0,J,I,⟨q0,q1,q2,q3⟩,s0⟩:=Zg2 w 41 #[.bool na,.slice A n c,.bool nb,.slice B m d] 41 #[.bool na',.slice A' n' c',.bool nb',.slice B' m' d'] 39 #[.bool false,.slice none 0 0] 39 #[.bool false,.slice none 0 0];have hmx:Tryz.prog.follows .mixedOrders=true:=by kernel_rfl
 have hA:=Za (ha.below I);have hD:=Za (hb.below I);replace hs:=Za hs;replace ht:=Za ht;have sz:=Za I.size;have hB:=Za I;clear ha hb I s0;replace q0:=Za q0;replace q1:=Za q1;replace q2:=Za q2;replace q3:=Za q3;obtain⟨a0,a1,a2,a3,-⟩:=q0.out.four;obtain⟨b0,b1,b2,b3,-⟩:=q1.out.four;replace J:=Za J;go_enter Tryz.func131,Tryz.ntmps131;go_wp2_with fail;rw[J.out];clear J;refine Z0 [17] (λW'=>W'.cell? ⟨w.heap.size,0,none⟩=some (.bool na)/\W'.cell? ⟨w.heap.size,1,none⟩=some (.slice A n c)/\W'.cell? ⟨w.heap.size,2,none⟩=some (.bool nb)/\W'.cell? ⟨w.heap.size,3,none⟩=some (.slice B m d)/\W'.cell? ⟨w.heap.size+1,0,none⟩=some (.bool na')/\W'.cell? ⟨w.heap.size+1,1,none⟩=some (.slice A' n' c')/\W'.cell? ⟨w.heap.size+1,2,none⟩=some (.bool nb')/\W'.cell? ⟨w.heap.size+1,3,none⟩=some (.slice B' m' d')) hmx ⟨a0,a1,a2,a3,b0,b1,b2,b3⟩ (λ_=>?_);refine Zje 8 [0,1,2,3,8,9,10,11] rfl (by kernel_rfl) ⟨a0,a1,a2,a3,b0,b1,b2,b3⟩ ?_
 iterate 8 (refine tk1 (v:=?_) rfl (Qr ⟨by kernel_rfl,?_⟩) ?_;rotate_left;(· intro W2 hSw;(try dsimp only at hSw);go_simp;try with_reducible rfl);try simp only[Qa,Zgy,Zge,Zgs,putG_a,putG_s,putG_z])
 refine tk0 ?_;refine Ze (i:=4) rfl (by kernel_rfl) (λK hK=>?_);go_simp;refine(Zj5 na na' A A' n c n' c' a.num b.num W0.drew hA.out.1 hD.out.1).mono ?_;rintro e w1 ⟨f,np,P,k,q,code,rfl,hR⟩;replace f:=Zr f;have hP:=Za (hR.small hs.out);have C:=hR.code0 hs.out;subst C;clear hs hR;replace q0:=Za (Zd f q0.out);replace q1:=Za (Zd f q1.out);replace q2:=Za (Zd f q2.out);replace q3:=Za (Zd f q3.out);replace hA:=Za (hA.out.below f);replace hD:=Za (hD.out.below f);replace hB:=Za (hB.out.trans (f.mono sz.out));replace sz:=Za (Qc sz.out f.size);clear a0 a1 a2 a3 b0 b1 b2 b3;obtain⟨a0,a1,a2,a3,-⟩:=q0.out.four;obtain⟨b0,b1,b2,b3,-⟩:=q1.out.four;clear f;refine hK.out _ _ (λ_=>⟨a0,a1,a2,a3,b0,b1,b2,b3⟩) ?_;clear hK K
 try simp only[Qa,Zgy,Zge,Zgs]
 refine Zje 2 [5,6] rfl (by kernel_rfl) ⟨a0,a1,a2,a3,b0,b1,b2,b3⟩ ?_
 iterate 2 (refine tk1 (v:=?_) rfl (Qr ⟨by kernel_rfl,?_⟩) ?_;rotate_left;(· intro W2 hSw;(try dsimp only at hSw);go_simp;try with_reducible rfl);try simp only[Qa,Zgy,Zge,Zgs,putG_a,putG_s,putG_z])
 refine tk0 ?_;refine Ze (i:=7) rfl (by kernel_rfl) (λK hK=>?_);go_simp;refine(Zer np P k q w1).mono ?_;rintro e w2 ⟨rfl,o⟩;replace hP:=Za (hP.out.below o);replace q0:=Za (Zd o q0.out);replace q1:=Za (Zd o q1.out);replace q2:=Za (Zd o q2.out);replace q3:=Za (Zd o q3.out);replace hA:=Za (hA.out.below o);replace hD:=Za (hD.out.below o);replace hB:=Za (hB.out.trans (o.mono sz.out));replace sz:=Za (Qc sz.out o.size);clear a0 a1 a2 a3 b0 b1 b2 b3;obtain⟨a0,a1,a2,a3,-⟩:=q0.out.four;obtain⟨b0,b1,b2,b3,-⟩:=q1.out.four;clear o;refine hK.out _ _ (λ_=>⟨a0,a1,a2,a3,b0,b1,b2,b3⟩) ?_;clear hK K
 try simp only[Qa,Zgy,Zge,Zgs]
 refine Ze (i:=12) rfl (by kernel_rfl) (λK hK=>?_);go_simp;refine(Zj5 nb nb' B B' m d m' d' a.den b.den w2 hA.out.2 hD.out.2).mono ?_;rintro e w3 ⟨u,T,P',k',q',code,rfl,hR⟩;replace hP:=Za (hP.out.below u);have y:=Za (hR.small ht.out);have C:=hR.code0 ht.out;subst C;clear ht hR;replace q0:=Za (Zd u q0.out);replace q1:=Za (Zd u q1.out);replace q2:=Za (Zd u q2.out);replace q3:=Za (Zd u q3.out);replace hA:=Za (hA.out.below u);replace hD:=Za (hD.out.below u);replace hB:=Za (hB.out.trans (u.mono sz.out));replace sz:=Za (Qc sz.out u.size);clear a0 a1 a2 a3 b0 b1 b2 b3;obtain⟨a0,a1,a2,a3,-⟩:=q0.out.four;obtain⟨b0,b1,b2,b3,-⟩:=q1.out.four;clear u;refine hK.out _ _ (λ_=>⟨a0,a1,a2,a3,b0,b1,b2,b3⟩) ?_;clear hK K
 try simp only[Qa,Zgy,Zge,Zgs]
 refine Zje 2 [13,14] rfl (by kernel_rfl) ⟨a0,a1,a2,a3,b0,b1,b2,b3⟩ ?_
 iterate 2 (refine tk1 (v:=?_) rfl (Qr ⟨by kernel_rfl,?_⟩) ?_;rotate_left;(· intro W2 hSw;(try dsimp only at hSw);go_simp;try with_reducible rfl);try simp only[Qa,Zgy,Zge,Zgs,putG_a,putG_s,putG_z])
 refine tk0 ?_;refine Ze (i:=15) rfl (by kernel_rfl) (λK hK=>?_);go_simp;refine(Zer T P' k' q' w3).mono ?_;rintro e w4 ⟨rfl,h⟩;replace hP:=Za (hP.out.below h);replace y:=Za (y.out.below h);replace q0:=Za (Zd h q0.out);replace q1:=Za (Zd h q1.out);replace q2:=Za (Zd h q2.out);replace q3:=Za (Zd h q3.out);replace hA:=Za (hA.out.below h);replace hD:=Za (hD.out.below h);replace hB:=Za (hB.out.trans (h.mono sz.out));replace sz:=Za (Qc sz.out h.size);clear a0 a1 a2 a3 b0 b1 b2 b3;obtain⟨a0,a1,a2,a3,-⟩:=q0.out.four;obtain⟨b0,b1,b2,b3,-⟩:=q1.out.four;clear h;obtain⟨x0,x1,f0,f1⟩:=q2.out.two;refine hK.out _ _ (λ_=>⟨a0,a1,a2,a3,b0,b1,b2,b3⟩) ?_;clear hK K
 try simp only[Qa,Zgy,Zge,Zgs]
 refine Ze (i:=16) rfl (by kernel_rfl) (λK hK=>?_);go_simp;obtain⟨W5,U,V,O,kW,kB,s5⟩:=Zbe np P k q hB.out (by omega) q2.out;rw[U];clear U x0 x1 f0 f1 a0 a1 a2 a3 b0 b1 b2 b3 hA hD;replace q0:=kB _ _ _ (by omega) q0.out;replace q1:=kB _ _ _ (by omega) q1.out;obtain⟨a0,a1,a2,a3,-⟩:=q0.four;obtain⟨b0,b1,b2,b3,-⟩:=q1.four;replace q3:=Za (kB _ _ _ (by omega) q3.out);replace hP:=Za (kW _ _ _ _ _ hP.out);replace y:=Za (kW _ _ _ _ _ y.out);clear kW kB q2 hB q0 q1;obtain⟨y0,y1,g0,g1⟩:=q3.out.two;refine hK.out _ _ (λ_=>⟨a0,a1,a2,a3,b0,b1,b2,b3⟩) ?_;clear hK K
 try simp only[Qa,Zgy,Zge,Zgs]
 refine Zm (i:=17) rfl (by kernel_rfl) (by kernel_rfl) (λK hK=>?_);go_simp;obtain⟨W6,Y,a4,a5,kW,kB,s6⟩:=Zbe T P' k' q' V (by omega) q3.out;rw[Y];clear Y y0 y1 g0 g1 a0 a1 a2 a3 b0 b1 b2 b3;replace O:=kB _ _ _ (by omega) O;replace hP:=Za (kW _ _ _ _ _ hP.out);replace y:=Za (kW _ _ _ _ _ y.out);clear kW kB q3 V;refine hK.out _ _ ?_;clear hK K
 try simp only[Qa,Zgy,Zge,Zgs]
 refine Zj (by kernel_rfl) ?_ _;refine Qh ?_;obtain⟨r0,r1,-⟩:=O.two;obtain⟨r2,r3,-⟩:=a5.two;go_wp2_with fail;refine bodyPost_ret (v:=.tuple #[.agg #[.bool np,.slice P k q],.agg #[.bool T,.slice P' k' q']]) (by simp[results,Tryz.results131,go_sem,r0,r1,r2,r3]) rfl ?_;exact⟨a4,_,_,_,_,_,_,_,_,rfl,hP.out,y.out⟩
theorem Sub1_ok(na nb na' nb':Bool)(A B A' B':Option Addr)(n c m d n' c' m' d':Nat)(a b:Rat)(w:World)(ha:Fr w na A n c nb B m d a)(hb:Fr w na' A' n' c' nb' B' m' d' b)
    (h1:(a.num*b.den).natAbs<pw 4096) (h2:(b.num*a.den).natAbs<pw 4096) (hs:(a.num*b.den-b.num*a.den).natAbs<pw 4096) (ht:((a.den:Int)*(b.den:Nat)).natAbs<pw 4096) :
    Calls Tryz.prog 160 #[.agg #[.bool na,.slice A n c,.bool nb,.slice B m d],.agg #[.bool na',.slice A' n' c',.bool nb',.slice B' m' d']] w (Zp4 w (a.num*b.den-b.num*a.den) ((a.den:Int)*(b.den:Nat))):=by
 obtain⟨W0,Y,T,⟨q0,q1,q2,q3⟩,s0⟩:=Zg2 w 41 #[.bool na,.slice A n c,.bool nb,.slice B m d] 41 #[.bool na',.slice A' n' c',.bool nb',.slice B' m' d'] 39 #[.bool false,.slice none 0 0] 39 #[.bool false,.slice none 0 0];have hmx:Tryz.prog.follows .mixedOrders=true:=by kernel_rfl
 have hA:=Za (ha.below T);have hD:=Za (hb.below T);replace hs:=Za hs;replace ht:=Za ht;replace h1:=Za h1;replace h2:=Za h2;have sz:=Za T.size;have hB:=Za T;clear ha hb T s0;replace q0:=Za q0;replace q1:=Za q1;replace q2:=Za q2;replace q3:=Za q3;obtain⟨a0,a1,a2,a3,-⟩:=q0.out.four;obtain⟨b0,b1,b2,b3,-⟩:=q1.out.four;replace Y:=Za Y;go_enter Tryz.func160,Tryz.ntmps160;go_wp2_with fail;rw[Y.out];clear Y;refine Z0 [19] (λW'=>W'.cell? ⟨w.heap.size,0,none⟩=some (.bool na)/\W'.cell? ⟨w.heap.size,1,none⟩=some (.slice A n c)/\W'.cell? ⟨w.heap.size,2,none⟩=some (.bool nb)/\W'.cell? ⟨w.heap.size,3,none⟩=some (.slice B m d)/\W'.cell? ⟨w.heap.size+1,0,none⟩=some (.bool na')/\W'.cell? ⟨w.heap.size+1,1,none⟩=some (.slice A' n' c')/\W'.cell? ⟨w.heap.size+1,2,none⟩=some (.bool nb')/\W'.cell? ⟨w.heap.size+1,3,none⟩=some (.slice B' m' d')) hmx ⟨a0,a1,a2,a3,b0,b1,b2,b3⟩ (λ_=>?_);refine Zje 8 [0,1,3,4,10,11,12,13] rfl (by kernel_rfl) ⟨a0,a1,a2,a3,b0,b1,b2,b3⟩ ?_
 iterate 8 (refine tk1 (v:=?_) rfl (Qr ⟨by kernel_rfl,?_⟩) ?_;rotate_left;(· intro W2 hSw;(try dsimp only at hSw);go_simp;try with_reducible rfl);try simp only[Qa,Zgy,Zge,Zgs,putG_a,putG_s,putG_z])
 refine tk0 ?_;refine Ze (i:=2) rfl (by kernel_rfl) (λK hK=>?_);go_simp;refine(Zhh na nb na' nb' A B A' B' n c m d n' c' m' d' a b W0.drew hA.out hD.out h1.out).mono ?_;rintro e w1 ⟨h,nu,U,k1,u,rfl,hU⟩;replace h:=Zr h;replace hU:=Za hU;replace q0:=Za (Zd h q0.out);replace q1:=Za (Zd h q1.out);replace q2:=Za (Zd h q2.out);replace q3:=Za (Zd h q3.out);replace hA:=Za (hA.out.below h);replace hD:=Za (hD.out.below h);replace hB:=Za (hB.out.trans (h.mono sz.out));replace sz:=Za (Qc sz.out h.size);clear a0 a1 a2 a3 b0 b1 b2 b3;obtain⟨a0,a1,a2,a3,-⟩:=q0.out.four;obtain⟨b0,b1,b2,b3,-⟩:=q1.out.four;clear h;refine hK.out _ _ (λ_=>⟨a0,a1,a2,a3,b0,b1,b2,b3⟩) ?_;clear hK K
 try simp only[Qa,Zgy,Zge,Zgs]
 refine Ze (i:=5) rfl (by kernel_rfl) (λK hK=>?_);go_simp;refine(Zhh na' nb' na nb A' B' A B n' c' m' d' n c m d b a w1 hD.out hA.out h2.out).mono ?_;rintro e w2 ⟨y,nv,V,k2,v,rfl,hV⟩;replace hU:=Za (hU.out.below y);replace hV:=Za hV;replace q0:=Za (Zd y q0.out);replace q1:=Za (Zd y q1.out);replace q2:=Za (Zd y q2.out);replace q3:=Za (Zd y q3.out);replace hA:=Za (hA.out.below y);replace hD:=Za (hD.out.below y);replace hB:=Za (hB.out.trans (y.mono sz.out));replace sz:=Za (Qc sz.out y.size);clear a0 a1 a2 a3 b0 b1 b2 b3;obtain⟨a0,a1,a2,a3,-⟩:=q0.out.four;obtain⟨b0,b1,b2,b3,-⟩:=q1.out.four;clear y;refine hK.out _ _ (λ_=>⟨a0,a1,a2,a3,b0,b1,b2,b3⟩) ?_;clear hK K
 try simp only[Qa,Zgy,Zge,Zgs]
 refine Ze (i:=6) rfl (by kernel_rfl) (λK hK=>?_);go_simp;refine(Zxo nu nv U V k1 u k2 v _ _ w2 hU.out hV.out).mono ?_;rintro e w3 ⟨I,np,P,k,q,code,rfl,hR⟩;have hP:=Za (hR.small hs.out);have O:=hR.code0 hs.out;subst O;clear hs hR hU hV;replace q0:=Za (Zd I q0.out);replace q1:=Za (Zd I q1.out);replace q2:=Za (Zd I q2.out);replace q3:=Za (Zd I q3.out);replace hA:=Za (hA.out.below I);replace hD:=Za (hD.out.below I);replace hB:=Za (hB.out.trans (I.mono sz.out));replace sz:=Za (Qc sz.out I.size);clear a0 a1 a2 a3 b0 b1 b2 b3;obtain⟨a0,a1,a2,a3,-⟩:=q0.out.four;obtain⟨b0,b1,b2,b3,-⟩:=q1.out.four;clear I;refine hK.out _ _ (λ_=>⟨a0,a1,a2,a3,b0,b1,b2,b3⟩) ?_;clear hK K
 try simp only[Qa,Zgy,Zge,Zgs]
 refine Zje 2 [7,8] rfl (by kernel_rfl) ⟨a0,a1,a2,a3,b0,b1,b2,b3⟩ ?_
 iterate 2 (refine tk1 (v:=?_) rfl (Qr ⟨by kernel_rfl,?_⟩) ?_;rotate_left;(· intro W2 hSw;(try dsimp only at hSw);go_simp;try with_reducible rfl);try simp only[Qa,Zgy,Zge,Zgs,putG_a,putG_s,putG_z])
 refine tk0 ?_;refine Ze (i:=9) rfl (by kernel_rfl) (λK hK=>?_);go_simp;refine(Zer np P k q w3).mono ?_;rintro e w4 ⟨rfl,o⟩;replace hP:=Za (hP.out.below o);replace q0:=Za (Zd o q0.out);replace q1:=Za (Zd o q1.out);replace q2:=Za (Zd o q2.out);replace q3:=Za (Zd o q3.out);replace hA:=Za (hA.out.below o);replace hD:=Za (hD.out.below o);replace hB:=Za (hB.out.trans (o.mono sz.out));replace sz:=Za (Qc sz.out o.size);clear a0 a1 a2 a3 b0 b1 b2 b3;obtain⟨a0,a1,a2,a3,-⟩:=q0.out.four;obtain⟨b0,b1,b2,b3,-⟩:=q1.out.four;clear o;refine hK.out _ _ (λ_=>⟨a0,a1,a2,a3,b0,b1,b2,b3⟩) ?_;clear hK K
 try simp only[Qa,Zgy,Zge,Zgs]
 refine Ze (i:=14) rfl (by kernel_rfl) (λK hK=>?_);go_simp;refine(Zj5 nb nb' B B' m d m' d' a.den b.den w4 hA.out.2 hD.out.2).mono ?_;rintro e w5 ⟨C,a4,P',k',q',code,rfl,hR⟩;replace hP:=Za (hP.out.below C);have J:=Za (hR.small ht.out);have O:=hR.code0 ht.out;subst O;clear ht hR;replace q0:=Za (Zd C q0.out);replace q1:=Za (Zd C q1.out);replace q2:=Za (Zd C q2.out);replace q3:=Za (Zd C q3.out);replace hA:=Za (hA.out.below C);replace hD:=Za (hD.out.below C);replace hB:=Za (hB.out.trans (C.mono sz.out));replace sz:=Za (Qc sz.out C.size);clear a0 a1 a2 a3 b0 b1 b2 b3;obtain⟨a0,a1,a2,a3,-⟩:=q0.out.four;obtain⟨b0,b1,b2,b3,-⟩:=q1.out.four;clear C;refine hK.out _ _ (λ_=>⟨a0,a1,a2,a3,b0,b1,b2,b3⟩) ?_;clear hK K
 try simp only[Qa,Zgy,Zge,Zgs]
 refine Zje 2 [15,16] rfl (by kernel_rfl) ⟨a0,a1,a2,a3,b0,b1,b2,b3⟩ ?_
 iterate 2 (refine tk1 (v:=?_) rfl (Qr ⟨by kernel_rfl,?_⟩) ?_;rotate_left;(· intro W2 hSw;(try dsimp only at hSw);go_simp;try with_reducible rfl);try simp only[Qa,Zgy,Zge,Zgs,putG_a,putG_s,putG_z])
 refine tk0 ?_;refine Ze (i:=17) rfl (by kernel_rfl) (λK hK=>?_);go_simp;refine(Zer a4 P' k' q' w5).mono ?_;rintro e w6 ⟨rfl,f⟩;replace hP:=Za (hP.out.below f);replace J:=Za (J.out.below f);replace q0:=Za (Zd f q0.out);replace q1:=Za (Zd f q1.out);replace q2:=Za (Zd f q2.out);replace q3:=Za (Zd f q3.out);replace hA:=Za (hA.out.below f);replace hD:=Za (hD.out.below f);replace hB:=Za (hB.out.trans (f.mono sz.out));replace sz:=Za (Qc sz.out f.size);clear a0 a1 a2 a3 b0 b1 b2 b3;obtain⟨a0,a1,a2,a3,-⟩:=q0.out.four;obtain⟨b0,b1,b2,b3,-⟩:=q1.out.four;clear f;obtain⟨x0,x1,f0,f1⟩:=q2.out.two;refine hK.out _ _ (λ_=>⟨a0,a1,a2,a3,b0,b1,b2,b3⟩) ?_;clear hK K
 try simp only[Qa,Zgy,Zge,Zgs]
 refine Ze (i:=18) rfl (by kernel_rfl) (λK hK=>?_);go_simp;obtain⟨W5,a7,a8,a5,kW,kB,s5⟩:=Zbe np P k q hB.out (by omega) q2.out;rw[a7];clear a7 x0 x1 f0 f1 a0 a1 a2 a3 b0 b1 b2 b3 hA hD;replace q0:=kB _ _ _ (by omega) q0.out;replace q1:=kB _ _ _ (by omega) q1.out;obtain⟨a0,a1,a2,a3,-⟩:=q0.four;obtain⟨b0,b1,b2,b3,-⟩:=q1.four;replace q3:=Za (kB _ _ _ (by omega) q3.out);replace hP:=Za (kW _ _ _ _ _ hP.out);replace J:=Za (kW _ _ _ _ _ J.out);clear kW kB q2 hB q0 q1;obtain⟨y0,y1,g0,g1⟩:=q3.out.two;refine hK.out _ _ (λ_=>⟨a0,a1,a2,a3,b0,b1,b2,b3⟩) ?_;clear hK K
 try simp only[Qa,Zgy,Zge,Zgs]
 refine Zm (i:=19) rfl (by kernel_rfl) (by kernel_rfl) (λK hK=>?_);go_simp;obtain⟨W6,a6,b4,a9,kW,kB,s6⟩:=Zbe a4 P' k' q' a8 (by omega) q3.out;rw[a6];clear a6 y0 y1 g0 g1 a0 a1 a2 a3 b0 b1 b2 b3;replace a5:=kB _ _ _ (by omega) a5;replace hP:=Za (kW _ _ _ _ _ hP.out);replace J:=Za (kW _ _ _ _ _ J.out);clear kW kB q3 a8;refine hK.out _ _ ?_;clear hK K
 try simp only[Qa,Zgy,Zge,Zgs]
 refine Zj (by kernel_rfl) ?_ _;refine Qh ?_;obtain⟨r0,r1,-⟩:=a5.two;obtain⟨r2,r3,-⟩:=a9.two;go_wp2_with fail;refine bodyPost_ret (v:=.tuple #[.agg #[.bool np,.slice P k q],.agg #[.bool a4,.slice P' k' q']]) (by simp[results,Tryz.results160,go_sem,r0,r1,r2,r3]) rfl ?_;exact⟨b4,_,_,_,_,_,_,_,_,rfl,hP.out,J.out⟩
theorem Zd9(na nb:Bool)(A B:Option Addr)(n c m d:Nat)(r:Rat)(w:World)(h:Fr w na A n c nb B m d r) :
    Calls Tryz.prog 110 #[.agg #[.bool na,.slice A n c,.bool nb,.slice B m d]] w λe w'=>e=.returned (.int .i64 0)/\Below w.heap.size w w':=by
 have hn:=h.neg;subst hn;have hl:=Zt5 r;exact Zlf na A B n c m d r.num r.den w h.1 h.2 hl.1 true (by rw[hl.2];rfl)
theorem Zt7(F:FuncId)(na nb na' nb':Bool)(A B A' B':Option Addr)(n c m d n' c' m' d':Nat)(a b:Rat)(X Y:Int)(w:World)(ha:Fr w na A n c nb B m d a)(hb:Fr w na' A' n' c' nb' B' m' d' b)(hY:0<Y)(hcf:∀ (x y:Value) (W:World),(callFunc F #[x,y]).run Tryz.prog W=.ok (.enter F #[x,y]) W)
    (hF:∀ W:World,Fr W na A n c nb B m d a->Fr W na' A' n' c' nb' B' m' d' b->Calls Tryz.prog F #[.agg #[.bool na,.slice A n c,.bool nb,.slice B m d],.agg #[.bool na',.slice A' n' c',.bool nb',.slice B' m' d']] W (Zp4 W X Y)) :
    Calls Tryz.prog 130 #[.agg #[.bool na,.slice A n c,.bool nb,.slice B m d],.agg #[.bool na',.slice A' n' c',.bool nb',.slice B' m' d'],.func (.func F) #[] #[]] w (Zgz w (QA X Y)):=by
 obtain⟨W0,O,J,⟨q0,q1,q2,q3⟩,s0⟩:=Zg2 w 41 #[.bool na,.slice A n c,.bool nb,.slice B m d] 41 #[.bool na',.slice A' n' c',.bool nb',.slice B' m' d'] 41 #[.bool false,.slice none 0 0,.bool false,.slice none 0 0] 26 #[.int .i64 0];have hA:=Za (ha.below J);have hD:=Za (hb.below J);replace hF:=Za hF;clear ha hb;replace O:=Za O;obtain⟨a0,a1,a2,a3,-⟩:=q0.four;have hq:=Za (Qb q0 (Qb q1 (Qb q2 q3)));clear q0 q1 q2 q3
 go_enter_defers Tryz.func130,Tryz.ntmps130
 have b5:=O.out;go_wp2_with fail;clear O b5;refine(Zd9 na nb A B n c m d a W0 hA.out).mono ?_;rintro e w1 ⟨rfl,h⟩;have a5:Below w.heap.size w w1:=J.trans (h.mono J.size);have s1:W0.heap.size<=w1.heap.size:=h.size;replace hA:=Za (hA.out.below h);replace hD:=Za (hD.out.below h);obtain⟨q0,q1,q2,q3⟩:=hq.out;replace q0:=Zd h q0;replace q1:=Zd h q1;replace q2:=Zd h q2;replace q3:=Zd h q3;clear hq h J a0 a1 a2 a3;obtain⟨b0,b1,b2,b3,-⟩:=q1.four;have hq:=Za (Qb q0 (Qb q1 (Qb q2 q3)));clear q0 q1 q2 q3;go_wp2_with fail;refine(Zfk w1).mono ?_;rintro e w1 ⟨rfl,rfl⟩;go_wp2_with fail;refine(Zd9 na' nb' A' B' n' c' m' d' b w1 hD.out).mono ?_;rintro e w2 ⟨rfl,o⟩;have a4:Below w.heap.size w w2:=a5.trans (o.mono a5.size);have s2:w1.heap.size<=w2.heap.size:=o.size;replace hA:=Za (hA.out.below o);replace hD:=Za (hD.out.below o);obtain⟨q0,q1,q2,q3⟩:=hq.out;replace q0:=Zd o q0;replace q1:=Zd o q1;replace q2:=Zd o q2;replace q3:=Zd o q3;clear hq o a5 b0 b1 b2 b3;obtain⟨a0,a1,a2,a3,-⟩:=q0.four;obtain⟨b0,b1,b2,b3,-⟩:=q1.four;have hq:=Za (Qb q2 q3);clear q0 q1 q2 q3;go_wp2_with fail;refine(Zfk w2).mono ?_;rintro e w2 ⟨rfl,rfl⟩;go_wp2_with fail;refine(hF.out w2 hA.out hD.out).mono ?_;rintro e w3 ⟨I,nu,U,k1,u,nv,V,k2,v,rfl,hU,hV⟩;have T:Below w.heap.size w w3:=a4.trans (I.mono a4.size);have s3:w2.heap.size<=w3.heap.size:=I.size;have hn:nv=false:=by rw[hV.1];simp;omega
 subst hn;have q2:=Zd I hq.out.1;have q3:=Zd I hq.out.2;clear hq I a4 a0 a1 a2 a3 b0 b1 b2 b3 hA hD hF;have hq:=Za (Qb q2 q3);replace hU:=Za hU;replace hV:=Za hV;clear q2 q3;go_wp2_with fail;refine(Zin nu U V k1 u k2 v X Y w3 hU.out hV.out hY).mono ?_;rintro e w4 ⟨C,nx,Ax,kx,cx,ny,Ay,ky,cy,rfl,hF⟩;have c0:Below w.heap.size w w4:=T.trans (C.mono T.size);have s4:w3.heap.size<=w4.heap.size:=C.size;have q2:=Zd C hq.out.1;have q3:=Zd C hq.out.2;clear hq C hU hV T;have c2:=Za q2.four;have c3:=q3.cell 0;have f3:=q3.frozen 0;simp at c3;obtain⟨c4,b6,c9,c5,c1,b7,c7,b9⟩:=c2.out;have hq:=Za (Qb q2 q3);clear q2 q3;go_wp2_with fail;obtain⟨W5,a8,a9,q2,kW,kB,s5⟩:=Zaa nx Ax kx cx ny Ay ky cy c0 (by omega) hq.out.1;have q3:=kB _ _ _ (by omega) hq.out.2;have b4:=Za (kW _ _ _ _ _ hF.1);have a6:=Za (kW _ _ _ _ _ hF.2);rw[a8];clear kW kB c4 b6 c9 c5 c3 f3 c1 b7 c7 b9 hq hF;obtain⟨W6,a7,c8,q3,kW,kB,s6⟩:=Zbr 0 a9 (by omega) q3;replace q2:=kB _ _ _ (by omega) q2;have c6:=Za (kW _ _ _ _ _ b4.out);have b8:=Za (kW _ _ _ _ _ a6.out);rw[a7];obtain⟨r0,r1,r2,r3,-⟩:=q2.four;have r4:=q3.cell 0;simp at r4
 clear kW kB a9 b4 a6 a8 a7;refine leaves_cons (f:=147) (args:=#[.pointer (some ⟨w.heap.size+1+1+1,0,none⟩)]) (by simp) (by simp[go_sem]) ?_;refine(Zgx _ _).mono ?_;rintro e u' w'' ⟨rfl,rfl,rfl⟩;refine⟨.tuple #[.agg #[.bool nx,.slice Ax kx cx,.bool ny,.slice Ay ky cy],.int .i64 0],by simp[results,Tryz.results130,go_sem,r0,r1,r2,r3,r4],?_⟩;exact⟨c8,_,_,_,_,_,_,_,_,rfl,c6.out,b8.out⟩
theorem Ztp(x y:Value)(W:World):(callFunc 131 #[x,y]).run Tryz.prog W=.ok (.enter 131 #[x,y]) W:=by simp[go_sem]
theorem Zse(x y:Value)(W:World):(callFunc 160 #[x,y]).run Tryz.prog W=.ok (.enter 160 #[x,y]) W:=by simp[go_sem]
def Sm(r:Rat):Prop:=r.num.natAbs<pw 1000/\r.den<pw 1000
theorem Zev{x y:Nat}{i j:Nat}(hx:x<pw i)(hy:y<pw j):x*y<pw (i+j):=by
 rw[Zhd];exact Nat.mul_lt_mul'' hx hy
theorem Zls{x y:Int}(hx:x.natAbs<pw 1000)(hy:y.natAbs<pw 1000):(x*y).natAbs<pw 2000:=by
 rw[Int.natAbs_mul];have h:=Zev hx hy;rw[show 1000+1000=2000 from rfl]at h;exact h
theorem Zsd(k:Nat):pw k+pw k<=pw (k+1):=by rw[Zbh];generalize pw k=x;omega
theorem Zxt:pw 2000+pw 2000<=pw 4096:=Qc (Zsd 2000) (Zcn (by decide))
theorem Zcd{x y:Int}(hx:x.natAbs<pw 1000)(hy:y.natAbs<pw 1000):(x*y).natAbs<pw 4096:=Nat.lt_of_lt_of_le (Zls hx hy) (Zcn (by decide))
theorem Zxd{x y z v:Int}(hx:x.natAbs<pw 1000)(hy:y.natAbs<pw 1000)(hz:z.natAbs<pw 1000)(hv:v.natAbs<pw 1000):(x*y-z*v).natAbs<pw 4096:=by
 have h1:=Zls hx hy;have h2:=Zls hz hv;have h3:=Zxt;omega
theorem Sm.dn{r:Rat}(h:Sm r):((r.den:Nat):Int).natAbs<pw 1000:=by simpa using h.2
theorem Zo5(a b:Rat):QA (a.num*b.num) ((a.den:Int)*(b.den:Nat))=a*b:=by
 rw[<- Rat.divInt_mul_divInt,Qm,Qm]
theorem Zuh(a b:Rat):QA (a.num*b.den-b.num*a.den) ((a.den:Int)*(b.den:Nat))=a-b:=by
 have ha:((a.den:Nat):Int)≠0:=by have:=a.den_pos;omega
 have hb:((b.den:Nat):Int)≠0:=by have:=b.den_pos;omega
 rw[<- Rat.divInt_sub_divInt _ _ ha hb,Qm,Qm]
theorem Zek(a b:Rat):0<((a.den:Int)*(b.den:Nat)):=Int.mul_pos (by have:=a.den_pos;omega) (by have:=b.den_pos;omega)
theorem Zuc(na nb na' nb':Bool)(A B A' B':Option Addr)(n c m d n' c' m' d':Nat)(a b:Rat)(w:World)(ha:Fr w na A n c nb B m d a)(hb:Fr w na' A' n' c' nb' B' m' d' b)(sa:Sm a)(sb:Sm b) :
    Calls Tryz.prog 116 #[.agg #[.bool na,.slice A n c,.bool nb,.slice B m d],.agg #[.bool na',.slice A' n' c',.bool nb',.slice B' m' d']] w (Zgz w (a-b)):=by
 obtain⟨W0,o,f,⟨q0,q1,q2⟩,s0⟩:=Zcu w 41 #[.bool na,.slice A n c,.bool nb,.slice B m d] 41 #[.bool na',.slice A' n' c',.bool nb',.slice B' m' d'] 41 #[.bool false,.slice none 0 0,.bool false,.slice none 0 0];have hA:=Za (ha.below f);have hD:=Za (hb.below f);have hF:=λ(W:World) (h1:Fr W na A n c nb B m d a) (h2:Fr W na' A' n' c' nb' B' m' d' b)=>Sub1_ok na nb na' nb' A B A' B' n c m d n' c' m' d' a b W h1 h2 (Zcd sa.1 sb.dn) (Zcd sb.1 sa.dn) (Zxd sa.1 sb.dn sb.1 sa.dn) (Zcd sa.dn sb.dn);have hG:=Za (Zt7 160 na nb na' nb' A B A' B' n c m d n' c' m' d' a b _ _ W0 hA.out hD.out (Zek a b) Zse hF);rw[Zuh]at hG;clear hF ha hb sa sb hA hD;obtain⟨a0,a1,a2,a3,-⟩:=q0.four;obtain⟨b0,b1,b2,b3,-⟩:=q1.four;replace q2:=Za q2;clear q0 q1;go_enter Tryz.func116,Tryz.ntmps116;go_wp2_with fail;refine hG.out.mono ?_;rintro e w1 ⟨h,nx,Ax,kx,cx,ny,Ay,ky,cy,rfl,hX⟩;have C:Below w.heap.size w w1:=f.trans (h.mono f.size);have s1:W0.heap.size<=w1.heap.size:=h.size;replace q2:=Za (Zd h q2.out);replace hX:=Za hX;clear h a0 a1 a2 a3 b0 b1 b2 b3 f hG o;obtain⟨T,I,a4,Y,J,O,U,V⟩:=q2.out.four;go_wp2_with fail;obtain⟨W5,u,y,q2,kW,-,s5⟩:=Zaa nx Ax kx cx ny Ay ky cy C (by omega) q2.out;rw[u];obtain⟨r0,r1,r2,r3,-⟩:=q2.four;refine bodyPost_ret (v:=.tuple #[.agg #[.bool nx,.slice Ax kx cx,.bool ny,.slice Ay ky cy],.int .i64 0]) (by simp[results,Tryz.results116,go_sem,r0,r1,r2,r3]) rfl ?_;exact⟨y,_,_,_,_,_,_,_,_,rfl,kW _ _ _ _ _ hX.out.1,kW _ _ _ _ _ hX.out.2⟩
theorem Zud(na nb na' nb':Bool)(A B A' B':Option Addr)(n c m d n' c' m' d':Nat)(a b:Rat)(w:World)(ha:Fr w na A n c nb B m d a)(hb:Fr w na' A' n' c' nb' B' m' d' b)(sa:Sm a)(sb:Sm b) :
    Calls Tryz.prog 85 #[.agg #[.bool na,.slice A n c,.bool nb,.slice B m d],.agg #[.bool na',.slice A' n' c',.bool nb',.slice B' m' d']] w (Zgz w (a*b)):=by
 obtain⟨W0,o,f,⟨q0,q1,q2⟩,s0⟩:=Zcu w 41 #[.bool na,.slice A n c,.bool nb,.slice B m d] 41 #[.bool na',.slice A' n' c',.bool nb',.slice B' m' d'] 41 #[.bool false,.slice none 0 0,.bool false,.slice none 0 0];have hA:=Za (ha.below f);have hD:=Za (hb.below f);have hF:=λ(W:World) (h1:Fr W na A n c nb B m d a) (h2:Fr W na' A' n' c' nb' B' m' d' b)=>Mul1_ok na nb na' nb' A B A' B' n c m d n' c' m' d' a b W h1 h2 (Zcd sa.1 sb.1) (Zcd sa.dn sb.dn);have hG:=Za (Zt7 131 na nb na' nb' A B A' B' n c m d n' c' m' d' a b _ _ W0 hA.out hD.out (Zek a b) Ztp hF);rw[Zo5]at hG;clear hF ha hb sa sb hA hD;obtain⟨a0,a1,a2,a3,-⟩:=q0.four;obtain⟨b0,b1,b2,b3,-⟩:=q1.four;replace q2:=Za q2;clear q0 q1;go_enter Tryz.func85,Tryz.ntmps85;go_wp2_with fail;refine hG.out.mono ?_;rintro e w1 ⟨h,nx,Ax,kx,cx,ny,Ay,ky,cy,rfl,hX⟩;have C:Below w.heap.size w w1:=f.trans (h.mono f.size);have s1:W0.heap.size<=w1.heap.size:=h.size;replace q2:=Za (Zd h q2.out);replace hX:=Za hX;clear h a0 a1 a2 a3 b0 b1 b2 b3 f hG o;obtain⟨T,I,a4,Y,J,O,U,V⟩:=q2.out.four;go_wp2_with fail;obtain⟨W5,u,y,q2,kW,-,s5⟩:=Zaa nx Ax kx cx ny Ay ky cy C (by omega) q2.out;rw[u];obtain⟨r0,r1,r2,r3,-⟩:=q2.four;refine bodyPost_ret (v:=.tuple #[.agg #[.bool nx,.slice Ax kx cx,.bool ny,.slice Ay ky cy],.int .i64 0]) (by simp[results,Tryz.results85,go_sem,r0,r1,r2,r3]) rfl ?_;exact⟨y,_,_,_,_,_,_,_,_,rfl,kW _ _ _ _ _ hX.out.1,kW _ _ _ _ _ hX.out.2⟩
theorem Zgm(na nb:Bool)(A B:Option Addr)(n c m d:Nat)(za zb:Int)(w:World)(ha:Wd w na A n c za)(hb:Wd w nb B m d zb) :
    Calls Tryz.prog 103 #[.agg #[.bool na,.slice A n c],.agg #[.bool nb,.slice B m d]] w (ResW w (za*zb)):=by
 have a1:=ha.lim;have T:=hb.lim;have hn:=ha.2.1;have hm:=hb.2.1;have y:Below w.heap.size w (((w.alloc (.cells #[.bool na,.slice A n c] 39)).alloc (.cells #[.bool nb,.slice B m d] 39)).alloc (.cells #[.bool false,.slice none 0 0] 39)):=(((Qg w.heap.size w).alloc (Qx _) _).alloc (by simp) _).alloc (by simp;omega) _;have y:=Za y;have J:Hid ((okW na (digits za.natAbs) && okW nb (digits zb.natAbs))=true):=by unfold Hid;rw[ha.ok,hb.ok];rfl
 have a3:=Za ha.sgEq;have a2:=Za hb.sgEq;have a8:=Za hb.lim.len;clear ha hb;go_enter Tryz.func103,Tryz.ntmps103;go_wp2_with fail;refine(Ze5 (a1.below y.out) (T.below y.out) J.out).mono ?_;rintro e w1 ⟨rfl,C⟩;obtain⟨o,a6⟩:=Zcp C;have a7:w.heap.size+1+1<w1.heap.size:=by have:=C.size;simp at this;omega
 have u:Below w.heap.size w w1:=y.out.trans (C.mono (by simp;omega));have g0:w1.cell? ⟨w.heap.size,0,none⟩=some (.bool na):=by simp[o,go_sem]
 have g1:w1.cell? ⟨w.heap.size,1,none⟩=some (.slice A n c):=by simp[o,go_sem]
 have g2:w1.cell? ⟨w.heap.size+1,0,none⟩=some (.bool nb):=by simp[o,go_sem]
 have g3:w1.cell? ⟨w.heap.size+1,1,none⟩=some (.slice B m d):=by simp[o,go_sem]
 have g7:Blk w1 (w.heap.size+1+1) 39 #[.bool false,.slice none 0 0]:=by
  refine Zd C ?_;have:=QK ((w.alloc (.cells #[.bool na,.slice A n c] 39)).alloc (.cells #[.bool nb,.slice B m d] 39)) 39 #[.bool false,.slice none 0 0];simp only[Qs]at this;exact this
 have g5:=g7.cell 0;have g6:=g7.cell 1;have g8:=g7.frozen 0;have g9:=g7.frozen 1;simp at g5 g6;clear o a6;have U:=a1.below u;have O:=T.below u;go_wp2_with fail
 go_region_held3 (λw'=>w'.cell? ⟨w.heap.size,0,none⟩=some (.bool na)/\w'.cell? ⟨w.heap.size,1,none⟩=some (.slice A n c)/\w'.cell? ⟨w.heap.size+1,0,none⟩=some (.bool nb)/\w'.cell? ⟨w.heap.size+1,1,none⟩=some (.slice B m d))
  (((try dsimp only);(repeat' apply Qb);all_goals (first|go_keep|(simp[*,go_sem];done))))
  (first
   | (go_at_call 145;refine(Zts _ _ _ _ _ _ _ _ _ (by exact U) (by exact O) (by omega) (by omega)).mono ?_;rintro e w2 ⟨A2,n2,c2,l2,rfl,a0,Y,f⟩;have k0:=Zb f g0;have k1:=Zb f g1;have j0:=Zb f g2;have k2:=Zb f g3;have k3:=Zb f g5;have k4:=Zb f g6;have k5:=Zk f g5 g8;have k6:=Zk f g6 g9;have k7:=Zd f g7)
   | (go_at_call 74;refine(Zbm _ _ _ _ _ _ (by exact a0) (by have:=a0.len;rw[Y.1]at this;omega)).mono ?_;rintro e w3 ⟨h,V,A3,n3,c3,I,rfl,a5⟩;have m0:=Zb h k0;have m1:=Zb h k1;have i0:=Zb h j0;have m2:=Zb h k2;have m3:=Zb h k3;have m4:=Zb h k4;have m5:=Zk h k3 k5;have m6:=Zk h k4 k6;have m7:=Zd h k7))
 have a4:Below w.heap.size w w3:=(u.trans ((Zr f).mono u.size)).trans (h.mono (Qc u.size (Zr f).size))
 go_wp2
 have HZ:sg (na != nb) (val l2)=za*zb:=by
  have h1:=a3.out;have h2:=a2.out;rw[Y.2,Zxs,h1,h2]
 refine bodyPost_ret (v:=.tuple #[.agg #[.bool V,.slice A3 n3 c3],.int .i64 I]) (by simp[results,Tryz.results103,go_sem,m3,m4]) rfl ?_;exact ResW.box (HZ▸a5) a4 (by omega) m7
theorem alloc5(w:World)(t0:TypeId)(c0:Array Value)(t1:TypeId)(c1:Array Value)(t2:TypeId)(c2:Array Value)(t3:TypeId)(c3:Array Value)(t4:TypeId)(c4:Array Value) :
    ∃ W,((((w.alloc (.cells c0 t0)).alloc (.cells c1 t1)).alloc (.cells c2 t2)).alloc (.cells c3 t3)).alloc (.cells c4 t4)=W/\Below w.heap.size w W/\(Blk W w.heap.size t0 c0/\Blk W (w.heap.size+1) t1 c1/\Blk W (w.heap.size+1+1) t2 c2/\Blk W (w.heap.size+1+1+1) t3 c3/\Blk W (w.heap.size+1+1+1+1) t4 c4)/\W.heap.size=w.heap.size+1+1+1+1+1:=by
 obtain⟨W,hW,h1,h2,h3⟩:=Zg2 w t0 c0 t1 c1 t2 c2 t3 c3;refine⟨_,rfl,?_,⟨?_,?_,?_,?_,?_⟩,by rw[hW];simp[h3]⟩ <;> rw[hW];exact h1.alloc (by omega) _;exact h2.1.alloc _;exact h2.2.1.alloc _;exact h2.2.2.1.alloc _;exact h2.2.2.2.alloc _;rw[<- h3];exact QK _ _ _
theorem Zui(na nb:Bool)(A B:Option Addr)(n c m d:Nat)(za zb:Int)(w:World)(ha:Wd w na A n c za)(hb:Wd w nb B m d zb) :
    Calls Tryz.prog 143 #[.agg #[.bool na,.slice A n c],.agg #[.bool nb,.slice B m d]] w (ResW w (za+zb)):=by
 have V:=ha.lim;have O:=hb.lim;have hn:=ha.2.1;have hm:=hb.2.1;have h:Below w.heap.size w (((w.alloc (.cells #[.bool na,.slice A n c] 39)).alloc (.cells #[.bool nb,.slice B m d] 39)).alloc (.cells #[.bool false,.slice none 0 0] 39)):=(((Qg w.heap.size w).alloc (Qx _) _).alloc (by simp) _).alloc (by simp;omega) _;have h:=Za h;have C:Hid ((okW na (digits za.natAbs) && okW nb (digits zb.natAbs))=true):=by unfold Hid;rw[ha.ok,hb.ok];rfl
 have a0:=Za ha.sgEq;have Y:=Za hb.sgEq;have a5:=Za hb.lim.len;clear ha hb;go_enter Tryz.func143,Tryz.ntmps143;go_wp2_with fail;refine(Ze5 (V.below h.out) (O.below h.out) C.out).mono ?_;rintro e w1 ⟨rfl,o⟩;obtain⟨f,a2⟩:=Zcp o;have a4:w.heap.size+1+1<w1.heap.size:=by have:=o.size;simp at this;omega
 have u:Below w.heap.size w w1:=h.out.trans (o.mono (by simp;omega));have g0:w1.cell? ⟨w.heap.size,0,none⟩=some (.bool na):=by simp[f,go_sem]
 have g1:w1.cell? ⟨w.heap.size,1,none⟩=some (.slice A n c):=by simp[f,go_sem]
 have g2:w1.cell? ⟨w.heap.size+1,0,none⟩=some (.bool nb):=by simp[f,go_sem]
 have g3:w1.cell? ⟨w.heap.size+1,1,none⟩=some (.slice B m d):=by simp[f,go_sem]
 have g7:Blk w1 (w.heap.size+1+1) 39 #[.bool false,.slice none 0 0]:=by
  refine Zd o ?_;have:=QK ((w.alloc (.cells #[.bool na,.slice A n c] 39)).alloc (.cells #[.bool nb,.slice B m d] 39)) 39 #[.bool false,.slice none 0 0];simp only[Qs]at this;exact this
 have g5:=g7.cell 0;have g6:=g7.cell 1;have g8:=g7.frozen 0;have g9:=g7.frozen 1;simp at g5 g6;clear f a2;have T:=V.below u;have I:=O.below u;go_wp2_with fail;refine(Ze8 _ _ _ _ _ _ _ _ _ _ _ (by exact T) (by exact I) hn hm).mono ?_;rintro e w2 ⟨U,J,A2,n2,c2,y,rfl,a3⟩;have a1:Below w.heap.size w w2:=u.trans (U.mono u.size);have m7:=Zd U g7;have m3:=m7.cell 0;have m4:=m7.cell 1;have m5:=m7.frozen 0;have m6:=m7.frozen 1;simp at m3 m4;have HM:=Za m7;clear m7;go_wp2_with fail
 have HZ:sg na za.natAbs+sg nb zb.natAbs=za+zb:=by
  have h1:=a0.out;have h2:=Y.out;rw[Zi]at h1 h2;rw[h1,h2]
 refine bodyPost_ret (v:=.tuple #[.agg #[.bool J,.slice A2 n2 c2],.int .i64 y]) (by simp[results,Tryz.results143,go_sem,m3,m4]) rfl ?_;exact ResW.box (HZ▸a3) a1 (by omega) HM.out
theorem rSub_ok(na nb:Bool)(A B:Option Addr)(n c m d:Nat)(za zb:Int)(w:World)(ha:Wd w na A n c za)(hb:Wd w nb B m d zb) :
    Calls Tryz.prog 144 #[.agg #[.bool na,.slice A n c],.agg #[.bool nb,.slice B m d]] w (ResW w (za-zb)):=by
 have a3:=ha.lim;have a2:=hb.lim;have hn:=ha.2.1;have hm:=hb.2.1;have T:Below w.heap.size w (((w.alloc (.cells #[.bool na,.slice A n c] 39)).alloc (.cells #[.bool nb,.slice B m d] 39)).alloc (.cells #[.bool false,.slice none 0 0] 39)):=(((Qg w.heap.size w).alloc (Qx _) _).alloc (by simp) _).alloc (by simp;omega) _;have T:=Za T;have a1:Hid ((okW na (digits za.natAbs) && okW nb (digits zb.natAbs))=true):=by unfold Hid;rw[ha.ok,hb.ok];rfl
 have Y:=Za ha.sgEq;have U:=Za hb.sgEq;have a4:=Za hb.lim.len;clear ha hb;go_enter Tryz.func144,Tryz.ntmps144;go_wp2_with fail;refine(Ze5 (a3.below T.out) (a2.below T.out) a1.out).mono ?_;rintro e w1 ⟨rfl,V⟩;obtain⟨O,a5⟩:=Zcp V;have a6:w.heap.size+1+1<w1.heap.size:=by have:=V.size;simp at this;omega
 have u:Below w.heap.size w w1:=T.out.trans (V.mono (by simp;omega));have g0:w1.cell? ⟨w.heap.size,0,none⟩=some (.bool na):=by simp[O,go_sem]
 have g1:w1.cell? ⟨w.heap.size,1,none⟩=some (.slice A n c):=by simp[O,go_sem]
 have g2:w1.cell? ⟨w.heap.size+1,0,none⟩=some (.bool nb):=by simp[O,go_sem]
 have g3:w1.cell? ⟨w.heap.size+1,1,none⟩=some (.slice B m d):=by simp[O,go_sem]
 have g7:Blk w1 (w.heap.size+1+1) 39 #[.bool false,.slice none 0 0]:=by
  refine Zd V ?_;have:=QK ((w.alloc (.cells #[.bool na,.slice A n c] 39)).alloc (.cells #[.bool nb,.slice B m d] 39)) 39 #[.bool false,.slice none 0 0];simp only[Qs]at this;exact this
 have g5:=g7.cell 0;have g6:=g7.cell 1;have g8:=g7.frozen 0;have g9:=g7.frozen 1;simp at g5 g6;clear O a5;have J:=a3.below u;have I:=a2.below u;by_cases hm0:0<m
 ·have hd:decide (0<m)=true:=by simpa using hm0
  cases nb
  ·go_wp2_with fail
   refine(Ze8 _ _ _ _ _ _ _ _ _ _ _ (by exact J) (by exact I) hn hm).mono ?_;rintro e w2 ⟨o,h,A2,n2,c2,f,rfl,C⟩;have y:Below w.heap.size w w2:=u.trans (o.mono u.size);have m7:=Zd o g7;have m3:=m7.cell 0;have m4:=m7.cell 1;have m5:=m7.frozen 0;have m6:=m7.frozen 1;simp at m3 m4;have HM:=Za m7;clear m7;go_wp2_with fail
   have HZ:sg na za.natAbs+sg (true) zb.natAbs=za-zb:=by
    have h1:=Y.out;have h2:=U.out;rw[Zi]at h1 h2;have h3:sg (true) zb.natAbs=- zb:=by unfold sg at h2 ⊢;simp at h2 ⊢;omega
    rw[h1,h3];omega
   refine bodyPost_ret (v:=.tuple #[.agg #[.bool h,.slice A2 n2 c2],.int .i64 f]) (by simp[results,Tryz.results144,go_sem,m3,m4]) rfl ?_;exact ResW.box (HZ▸C) y (by omega) HM.out
  ·go_wp2_with fail
   refine(Ze8 _ _ _ _ _ _ _ _ _ _ _ (by exact J) (by exact I) hn hm).mono ?_;rintro e w2 ⟨o,h,A2,n2,c2,f,rfl,C⟩;have y:Below w.heap.size w w2:=u.trans (o.mono u.size);have m7:=Zd o g7;have m3:=m7.cell 0;have m4:=m7.cell 1;have m5:=m7.frozen 0;have m6:=m7.frozen 1;simp at m3 m4;have HM:=Za m7;clear m7;go_wp2_with fail
   have HZ:sg na za.natAbs+sg (false) zb.natAbs=za-zb:=by
    have h1:=Y.out;have h2:=U.out;rw[Zi]at h1 h2;have h3:sg (false) zb.natAbs=- zb:=by unfold sg at h2 ⊢;simp at h2 ⊢;omega
    rw[h1,h3];omega
   refine bodyPost_ret (v:=.tuple #[.agg #[.bool h,.slice A2 n2 c2],.int .i64 f]) (by simp[results,Tryz.results144,go_sem,m3,m4]) rfl ?_;exact ResW.box (HZ▸C) y (by omega) HM.out
 ·obtain rfl:m=0:=by omega
  have a0:zb.natAbs=0:=by have:=a4.out;exact digits_eq_nil.1 (Qf this)
  have a0:=Za a0;cases nb
  ·go_wp2_with fail
   refine(Ze8 _ _ _ _ _ _ _ _ _ _ _ (by exact J) (by exact I) hn hm).mono ?_;rintro e w2 ⟨o,h,A2,n2,c2,f,rfl,C⟩;have y:Below w.heap.size w w2:=u.trans (o.mono u.size);have m7:=Zd o g7;have m3:=m7.cell 0;have m4:=m7.cell 1;have m5:=m7.frozen 0;have m6:=m7.frozen 1;simp at m3 m4;have HM:=Za m7;clear m7;go_wp2_with fail
   have HZ:sg na za.natAbs+sg (false) zb.natAbs=za-zb:=by
    have h1:=Y.out;have h2:=U.out;rw[Zi]at h1 h2;have h3:sg (false) zb.natAbs=- zb:=by have h4:=a0.out;unfold sg;simp;omega
    rw[h1,h3];omega
   refine bodyPost_ret (v:=.tuple #[.agg #[.bool h,.slice A2 n2 c2],.int .i64 f]) (by simp[results,Tryz.results144,go_sem,m3,m4]) rfl ?_;exact ResW.box (HZ▸C) y (by omega) HM.out
  ·go_wp2_with fail
   refine(Ze8 _ _ _ _ _ _ _ _ _ _ _ (by exact J) (by exact I) hn hm).mono ?_;rintro e w2 ⟨o,h,A2,n2,c2,f,rfl,C⟩;have y:Below w.heap.size w w2:=u.trans (o.mono u.size);have m7:=Zd o g7;have m3:=m7.cell 0;have m4:=m7.cell 1;have m5:=m7.frozen 0;have m6:=m7.frozen 1;simp at m3 m4;have HM:=Za m7;clear m7;go_wp2_with fail
   have HZ:sg na za.natAbs+sg (false) zb.natAbs=za-zb:=by
    have h1:=Y.out;have h2:=U.out;rw[Zi]at h1 h2;have h3:sg (false) zb.natAbs=- zb:=by have h4:=a0.out;unfold sg;simp;omega
    rw[h1,h3];omega
   refine bodyPost_ret (v:=.tuple #[.agg #[.bool h,.slice A2 n2 c2],.int .i64 f]) (by simp[results,Tryz.results144,go_sem,m3,m4]) rfl ?_;exact ResW.box (HZ▸C) y (by omega) HM.out
theorem Fr.keep{w W:World}{na:Bool}{A:Option Addr}{n c:Nat}{nb:Bool}{B:Option Addr}{m d:Nat}{r:Rat}(h:Fr w na A n c nb B m d r)(k:∀ na A n c z,Wd w na A n c z->Wd W na A n c z):Fr W na A n c nb B m d r:=⟨k _ _ _ _ _ h.1,k _ _ _ _ _ h.2⟩
theorem sm_add{x y z v:Int}(hx:x.natAbs<pw 1000)(hy:y.natAbs<pw 1000)(hz:z.natAbs<pw 1000)(hv:v.natAbs<pw 1000):(x*y+z*v).natAbs<pw 4096:=by
 have h1:=Zls hx hy;have h2:=Zls hz hv;have h3:=Zxt;omega
theorem Ztn(na nb na' nb':Bool)(A B A' B':Option Addr)(n c m d n' c' m' d':Nat)(a b:Rat)(w:World)(ha:Fr w na A n c nb B m d a)(hb:Fr w na' A' n' c' nb' B' m' d' b)(sa:Sm a)(sb:Sm b) :
    Calls Tryz.prog 100 #[.agg #[.bool na,.slice A n c,.bool nb,.slice B m d],.agg #[.bool na',.slice A' n' c',.bool nb',.slice B' m' d'],.bool true] w (Zgz w (a-b)):=by
 rw[<- Zuh];have h1:=Za (Zcd sa.1 sb.dn);have h2:=Za (Zcd sb.1 sa.dn);have h3:=Za (Zcd sa.dn sb.dn);have h4:=Za (sm_add sa.1 sb.dn sb.1 sa.dn);have h5:=Za (Zxd sa.1 sb.dn sb.1 sa.dn);have h6:=Za (Zek a b);obtain⟨W0,c8,T,⟨q0,q1,q2⟩,s0⟩:=Zcu w 41 #[.bool na,.slice A n c,.bool nb,.slice B m d] 41 #[.bool na',.slice A' n' c',.bool nb',.slice B' m' d'] 41 #[.bool false,.slice none 0 0,.bool false,.slice none 0 0];have hA:=Za (ha.below T);have hD:=Za (hb.below T);clear ha hb sa sb;generalize hX:a.num*((b.den:Nat):Int)=X at *;generalize hY:b.num*((a.den:Nat):Int)=Y at *;generalize hZ:((a.den:Nat):Int)*((b.den:Nat):Int)=Z at *
 replace hX:=Za hX;replace hY:=Za hY;replace hZ:=Za hZ;obtain⟨a0,a1,a2,a3,-⟩:=q0.four;obtain⟨b0,b1,b2,b3,-⟩:=q1.four;have hq:=Za (Qb q0 (Qb q1 q2));clear q0 q1 q2;go_enter Tryz.func100,Tryz.ntmps100;go_wp2_with fail;have hM:=Zgm na nb' A B' n c m' d' a.num b.den W0 hA.out.1 hD.out.2;rw[hX.out]at hM;refine hM.mono ?_;clear hM;rintro e w1 ⟨J,n1,P1,k1,c1,code,rfl,hR⟩;have h:=Za (hR.small h1.out);have f:=hR.code0 h1.out;subst f;have a6:Below w.heap.size w w1:=T.trans (J.mono T.size);have s1:W0.heap.size<=w1.heap.size:=J.size;replace hA:=Za (hA.out.below J);replace hD:=Za (hD.out.below J);obtain⟨q0,q1,q2⟩:=hq.out;replace q0:=Zd J q0;replace q1:=Zd J q1;replace q2:=Zd J q2;clear c8 J a0 a1 a2 a3 b0 b1 b2 b3 hq hR h1 T hX;obtain⟨W1,d7,a8,r1,kW,kB,t1⟩:=Zt 39 #[.bool n1,.slice P1 k1 c1] a6 a6.size;replace q0:=kB _ _ _ q0;replace q1:=kB _ _ _ q1;replace q2:=kB _ _ _ q2;replace hA:=Za (hA.out.keep kW);replace hD:=Za (hD.out.keep kW);replace h:=Za (kW _ _ _ _ _ h.out);clear kW kB a6;obtain⟨a0,a1,a2,a3,-⟩:=q0.four;obtain⟨b0,b1,b2,b3,-⟩:=q1.four;have hq:=Za (Qb q0 (Qb q1 (Qb q2 r1)));clear q0 q1 q2 r1;go_wp2_with fail;have hM:=Zgm na' nb A' B n' c' m d b.num a.den W1 hD.out.1 hA.out.2;rw[hY.out]at hM;refine hM.mono ?_;clear hM;rintro e w2 ⟨I,n2,P2,k2,c2,code,rfl,hR⟩;have o:=Za (hR.small h2.out);have f:=hR.code0 h2.out;subst f
 have b6:Below w.heap.size w w2:=a8.trans (I.mono a8.size);have s2:W1.heap.size<=w2.heap.size:=I.size;replace hA:=Za (hA.out.below I);replace hD:=Za (hD.out.below I);obtain⟨q0,q1,q2,r1⟩:=hq.out;replace q0:=Zd I q0;replace q1:=Zd I q1;replace q2:=Zd I q2;replace r1:=Zd I r1;replace h:=Za (h.out.below I);clear d7 I a0 a1 a2 a3 b0 b1 b2 b3 hq hR h2 a8 hY;obtain⟨W2,c9,a5,r2,kW,kB,t2⟩:=Zt 39 #[.bool n2,.slice P2 k2 c2] b6 b6.size;replace q0:=kB _ _ _ q0;replace q1:=kB _ _ _ q1;replace q2:=kB _ _ _ q2;replace r1:=kB _ _ _ r1;replace hA:=Za (hA.out.keep kW);replace hD:=Za (hD.out.keep kW);replace h:=Za (kW _ _ _ _ _ h.out);replace o:=Za (kW _ _ _ _ _ o.out);clear kW kB b6;obtain⟨a0,a1,a2,a3,-⟩:=q0.four;obtain⟨b0,b1,b2,b3,-⟩:=q1.four;have hq:=Za (Qb q0 (Qb q1 (Qb q2 (Qb r1 r2))));clear q0 q1 q2 r1 r2;go_wp2_with fail;have hM:=Zgm nb nb' B B' m d m' d' a.den b.den W2 hA.out.2 hD.out.2;rw[hZ.out]at hM;refine hM.mono ?_;clear hM;rintro e w3 ⟨u,n3,P3,k3,c3,code,rfl,hR⟩;have y:=Za (hR.small h3.out);have f:=hR.code0 h3.out;subst f;have a7:Below w.heap.size w w3:=a5.trans (u.mono a5.size);have s3:W2.heap.size<=w3.heap.size:=u.size;replace hA:=Za (hA.out.below u);replace hD:=Za (hD.out.below u);obtain⟨q0,q1,q2,r1,r2⟩:=hq.out;replace q0:=Zd u q0;replace q1:=Zd u q1;replace q2:=Zd u q2;replace r1:=Zd u r1;replace r2:=Zd u r2;replace h:=Za (h.out.below u)
 replace o:=Za (o.out.below u);clear c9 u a0 a1 a2 a3 b0 b1 b2 b3 hq hR h3 a5 hZ;have hn:n3=false:=by rw[y.out.1];have:=h6.out;simp;omega
 subst hn;obtain⟨W3,d3,V,r3,kW,kB,t3⟩:=Zt 39 #[.bool false,.slice P3 k3 c3] a7 a7.size;replace q0:=kB _ _ _ q0;replace q1:=kB _ _ _ q1;replace q2:=kB _ _ _ q2;replace r1:=kB _ _ _ r1;replace r2:=kB _ _ _ r2;replace hA:=Za (hA.out.keep kW);replace hD:=Za (hD.out.keep kW);replace h:=Za (kW _ _ _ _ _ h.out);replace o:=Za (kW _ _ _ _ _ o.out);replace y:=Za (kW _ _ _ _ _ y.out);clear kW kB a7;obtain⟨a0,a1,a2,a3,-⟩:=q0.four;obtain⟨b0,b1,b2,b3,-⟩:=q1.four;clear a0 a1 a2 a3 b0 b1 b2 b3 hA hD q0 q1;obtain⟨x0,x1,-⟩:=r1.two;obtain⟨y0,y1,-⟩:=r2.two;have hq:=Za (Qb q2 (Qb r1 (Qb r2 r3)));clear q2 r1 r2 r3;go_wp2_with fail;refine(Zui n1 n2 P1 P2 k1 c1 k2 c2 X Y W3 h.out o.out).mono ?_;rintro e w4 ⟨C,n4,P4,k4,c4,code,rfl,hR⟩;have b4:=Za (hR.small h4.out);have f:=hR.code0 h4.out;subst f;have b5:Below w.heap.size w w4:=V.trans (C.mono V.size);have s4:W3.heap.size<=w4.heap.size:=C.size;obtain⟨q2,r1,r2,r3⟩:=hq.out;replace q2:=Zd C q2;replace r1:=Zd C r1;replace r2:=Zd C r2;replace r3:=Zd C r3;replace h:=Za (h.out.below C);replace o:=Za (o.out.below C);replace y:=Za (y.out.below C);clear d3 C x0 x1 y0 y1 hq hR h4 V;obtain⟨W4,d4,a4,r4,kW,kB,t4⟩:=Zt 39 #[.bool n4,.slice P4 k4 c4] b5 b5.size;replace q2:=kB _ _ _ q2;replace r1:=kB _ _ _ r1;replace r2:=kB _ _ _ r2;replace r3:=kB _ _ _ r3;replace h:=Za (kW _ _ _ _ _ h.out);replace o:=Za (kW _ _ _ _ _ o.out)
 replace y:=Za (kW _ _ _ _ _ y.out);replace b4:=Za (kW _ _ _ _ _ b4.out);clear kW kB b5;obtain⟨x0,x1,-⟩:=r1.two;obtain⟨y0,y1,-⟩:=r2.two;have hq:=Za (Qb q2 (Qb r3 r4));clear q2 r1 r2 r3 r4 b4;go_wp2_with fail;refine(rSub_ok n1 n2 P1 P2 k1 c1 k2 c2 X Y W4 h.out o.out).mono ?_;rintro e w5 ⟨O,n5,P5,k5,c5,code,rfl,hR⟩;have c6:=Za (hR.small h5.out);have f:=hR.code0 h5.out;subst f;have a9:Below w.heap.size w w5:=a4.trans (O.mono a4.size);have s5:W4.heap.size<=w5.heap.size:=O.size;obtain⟨q2,r3,r4⟩:=hq.out;replace q2:=Zd O q2;replace r3:=Zd O r3;replace r4:=Zd O r4;replace y:=Za (y.out.below O);clear d4 O x0 x1 y0 y1 hq hR h5 a4 h o;obtain⟨WS,e2,b8,r5,kW,kB,tS⟩:=Zbe n5 P5 k5 c5 a9 (by have:=a9.size;omega) r4;obtain⟨-,-,f0,f1⟩:=r4.two;obtain⟨v0,v1,-⟩:=r4.two;have b9:=kB _ _ _ (by omega) q2;have b7:=kB _ _ _ (by omega) r3;have c0:=Za (kW _ _ _ _ _ y.out);have c7:=Za (kW _ _ _ _ _ c6.out);clear kW kB q2 r3 r4 y c6 a9;obtain⟨x0,x1,-⟩:=r5.two;obtain⟨y0,y1,-⟩:=b7.two;have hq:=Za b9;clear b9 r5 b7;go_wp2_with fail;refine(Zjn n5 P5 P3 k5 c5 k3 c3 _ _ WS c7.out c0.out h6.out).mono ?_;rintro e w6 ⟨U,nx,Ax,kx,cx,ny,Ay,ky,cy,rfl,hF⟩;have d5:Below w.heap.size w w6:=b8.trans (U.mono b8.size);have s6:WS.heap.size<=w6.heap.size:=U.size;replace hq:=Za (Zd U hq.out);replace hF:=Za hF;clear x0 x1 y0 y1 U;obtain⟨e3,d8,e6,e4,e1,d9,e5,e0⟩:=hq.out.four;go_wp2_with fail
 obtain⟨W7,d0,d6,q2,kW,-,s7⟩:=Zaa nx Ax kx cx ny Ay ky cy d5 (by omega) hq.out;rw[d0];obtain⟨r0,r1,r2,r3,-⟩:=q2.four;refine bodyPost_ret (v:=.tuple #[.agg #[.bool nx,.slice Ax kx cx,.bool ny,.slice Ay ky cy],.int .i64 0]) (by simp[results,Tryz.results100,go_sem,r0,r1,r2,r3]) rfl ?_;exact⟨d6,_,_,_,_,_,_,_,_,rfl,kW _ _ _ _ _ hF.out.1,kW _ _ _ _ _ hF.out.2⟩
structure FE where
 na:Bool
 A:Option Addr
 n:Nat
 c:Nat
 nb:Bool
 B:Option Addr
 m:Nat
 d:Nat
 q:Rat
def FE.in_(w:World)(e:FE):Prop:=Fr w e.na e.A e.n e.c e.nb e.B e.m e.d e.q
def Zp:List FE->List Value
 | []=>[]
 | e::l=>.bool e.na :: .slice e.A e.n e.c :: .bool e.nb :: .slice e.B e.m e.d::Zp l
def Zz(es:List FE):Array Value:=(Zp es).toArray
theorem Zq(es:List FE):(Zp es).length=es.length*4:=by
 induction es with
 | nil=>rfl
 | cons e l ih=>simp only[Zp,List.length_cons,ih];omega
theorem Zfh{es:List FE}{i:Nat}{e:FE}(h:es[i]?=some e):(Zp es)[i*4]?=some (.bool e.na)/\(Zp es)[i*4+1]?=some (.slice e.A e.n e.c)/\(Zp es)[i*4+2]?=some (.bool e.nb)/\(Zp es)[i*4+3]?=some (.slice e.B e.m e.d):=by
 induction es generalizing i with
 | nil=>simp at h
 | cons x l ih =>
  cases i with
  | zero=>simp at h;subst h;simp[Zp]
  | succ i =>
   have:=ih (by simpa using h);rw[show (i+1)*4=i*4+4 by omega];simpa [Zp]using this
theorem Znn(es:List FE):∀ (i x:Nat),(Zp es)[i]?≠some (limb x):=by
 induction es with
 | nil=>intro i x;simp[Zp]
 | cons e l ih =>
  intro i x
  match i with
  | 0=>simp[Zp]
  | 1=>simp[Zp]
  | 2=>simp[Zp]
  | 3=>simp[Zp]
  | i+4=>simpa [Zp]using ih i x
theorem Zds{es:List FE}{i:Nat}{e:FE}(h:es[i]?=some e):(Zz es)[i*4]?=some (.bool e.na)/\(Zz es)[i*4+1]?=some (.slice e.A e.n e.c)/\(Zz es)[i*4+2]?=some (.bool e.nb)/\(Zz es)[i*4+3]?=some (.slice e.B e.m e.d):=by
 simpa [Zz]using Zfh h
theorem Zb0(es:List FE):NoLimb (Zz es):=λi x=>by simpa [Zz]using Znn es i x
def Zau:FE:=⟨false,none,0,0,false,none,0,0,0⟩
theorem Zaj(es fs:List FE):Zp (es++fs)=Zp es++Zp fs:=by
 induction es with
 | nil=>rfl
 | cons e l ih=>simp only[List.cons_append,Zp,ih]
theorem Zix(fs:List FE):∀ u ∈ Zp fs,u.oneCell'=true:=by
 induction fs with
 | nil=>intro u h;simp[Zp]at h
 | cons e l ih =>
  intro u h;simp only[Zp,List.mem_cons]at h;rcases h with rfl|rfl|rfl|rfl|h;rfl;rfl;rfl;rfl;exact ih u h
theorem Zdy(k:Nat):(Qi #[.bool false,.slice none 0 0,.bool false,.slice none 0 0] k).toList=Zp (Qe k Zau):=by
 unfold Qi;apply List.ext_getElem?;intro i;by_cases h:i<k*4
 ·have he:(Qe k Zau)[i/4]?=some Zau:=by rw[List.getElem?_replicate,if_pos (by omega)]
  have hc:=Zfh he;have h4:i%4=0 \/ i%4=1 \/ i%4=2 \/ i%4=3:=by omega
  rcases h4 with h2|h2|h2|h2;rw[show i/4*4=i by omega]at hc;rw[hc.1];simp[h,h2,Zau];rw[show i/4*4+1=i by omega]at hc;rw[hc.2.1];simp[h,h2,Zau];rw[show i/4*4+2=i by omega]at hc;rw[hc.2.2.1];simp[h,h2,Zau];rw[show i/4*4+3=i by omega]at hc;rw[hc.2.2.2];simp[h,h2,Zau]
 rw[Qy (by simp;omega),Qy (by rw[Zq];simp;omega)]
def RowF(t:TypeId)(w:World)(base:Nat)(v:Value)(es:List FE):Prop:=
 (v=.slice none 0 0/\es=[]) \/ ∃ g sp,v=.slice (some ⟨g,0,none⟩) es.length (es.length+sp)/\base<=g/\es.length+sp<=maxLen/\Blk w g t (Zz (es++Qe sp Zau))
section
variable{t:TypeId}{w w':World}{base:Nat}{v:Value}{es:List FE}
theorem RowF.own(h:RowF t w base v es):w.ownsRow base t 4 v es.length (Zp es):=by
 refine⟨Zq es,?_⟩;rcases h with ⟨h1,rfl⟩|⟨g,sp,h1,h2,h3,h4⟩;exact .inl ⟨h1,rfl⟩
 ·refine .inr ⟨g,_,_,h1,h2,h4,QH _ _,h3,?_,?_⟩
  simp[Zz,Zq]
  ·simp only[Zz]
   rw[Zaj,<- Zq es];exact QL
theorem RowF.row_ge(h:RowF t w base v es):∀ k,v.ownBlock=some k->base<=k:=λk hk=>(h.own.lt k hk).1
theorem RowF.kept(h:RowF t w base v es)(hb:Below w.heap.size w w'):RowF t w' base v es:=by
 rcases h with h|⟨g,sp,h1,h2,h3,h4⟩;exact .inl h;exact .inr ⟨g,sp,h1,h2,h3,Zd hb h4⟩
theorem RowF.keep(h:RowF t w base v es)(hg:w.grownBy w' v.ownBlock){A:Option Addr}{n c:Nat}{l:List Nat}(hL:Lim w A n c l):Lim w' A n c l:=by
 refine⟨hL.1,hL.2.1,hL.2.2.1,hL.2.2.2.1,λhn=>?_⟩;obtain⟨b,o,e,hc⟩:=hL.2.2.2.2 hn;refine⟨b,o,e,λk hk=>?_⟩;rw[<- hc k hk];refine World.cell?_of_block (hg.block b (Zo (hc k hk)) (λe'=>?_));rcases h with ⟨rfl,_⟩|⟨g,sp,rfl,_,_,h4⟩;cases e'
 ·have f:b=g:=by simpa [Value.ownBlock]using e'
  subst f;have h1:=hc k hk;rw[h4.cell]at h1;exact Zb0 _ _ _ h1
end
section
variable{P:Program}(w:World)
theorem Zk3(base:Nat)(t ty e:TypeId)(i:TypeInfo)(ht:P.underlying t=some (.slice e))(hi:P.info? e=some i)(hz:i.zero=some (.agg #[.bool false,.slice none 0 0,.bool false,.slice none 0 0]))
    (hs:i.size=4) (hby:i.bytes=64) (v:Value) (es:List FE) (hown:RowF e w base v es)
    (B:Nat) (A:Option Addr) (m c:Nat) (fs:List FE) (hr:Reads w B 4 A m (Zp fs)) (hm:fs.length=m) (h63:es.length+m<=1000) (hbase:base<=w.heap.size) :
    ∃ v' w',(Qv #[t,t] ty #[v,.slice A m c]).run P w=.ok v' w'/\RowF e w' base v' (es++fs)/\w.grownBy w' v.ownBlock:=by
 rcases Nat.eq_zero_or_pos m with h0|h0
 ·subst h0
  obtain rfl:fs=[]:=Qf hm;rw[List.append_nil];rcases A with _|ad;exact⟨v,w,Zb6 w base t ty e i 4 ht hi v _ _ hown.own c,hown,World.grownBy.refl w _⟩
  ·have hf:=run_firstCells_some (P:=P) w i.size 0 ad 0 c [] (by simp) (by simp)
   rcases hown with ⟨rfl,rfl⟩|⟨g,sp,rfl,h2,h3,h4⟩
   ·refine⟨.slice none 0 0,w,?_,.inl ⟨rfl,rfl⟩,World.grownBy.refl w _⟩
    simp[Qv,run_underlying ht,sizeOf,typeInfo,hi,Builtin.lenOf,Builtin.firstCells,loadCells,loadCellsFrom]
   ·refine⟨_,w,?_,.inr ⟨g,sp,rfl,h2,h3,h4⟩,World.grownBy.refl w _⟩
    simp[Qv,run_underlying ht,sizeOf,typeInfo,hi,Builtin.lenOf,Builtin.firstCells,loadCells,loadCellsFrom,storeCells]
 ·obtain⟨ad,rfl,_,hc⟩:=hr.2 h0
  have hl:(Zp fs).length=m*i.size:=by rw[Zq,hm,hs]
  have C:es.length*i.size=(Zp es).length:=by rw[Zq,hs]
  rcases hown with ⟨rfl,rfl⟩|⟨g,sp,rfl,h2,h3,h4⟩
  ·have f:=run_append_nil (P:=P) w t ty e i _ ht hi hz ad m c (Zp fs) hl hc h0 (by omega) (by rw[hby];omega)
   have h:=grownCap_ge w m 0 e;have o:=grownCap_le_maxLen w m 0 e (by unfold maxLen;simp only[List.length_nil]at h63;omega);refine⟨_,_,f,.inr ⟨w.heap.size,grownCap w m 0 e-m,?_,hbase,?_,?_⟩,⟨rfl,rfl,rfl,by simp,λk hk _=>Below.heap_alloc w.drew _ k hk⟩⟩;rw[QI,hm,Ql h];rw[QI,hm,Ql h];exact o
   ·have:=heap_alloc_new w.drew (.cells ((Zp fs).toArray++Qi (Value.agg #[.bool false,.slice none 0 0,.bool false,.slice none 0 0]).cells (grownCap w m 0 e-m)) e)
    unfold Blk;refine this.trans ?_;congr 1
    have hx:(Zp fs).toArray++Qi (Value.agg #[.bool false,.slice none 0 0,.bool false,.slice none 0 0]).cells (grownCap w m 0 e-m)=Zz ([]++fs++Qe (grownCap w m 0 e-m) Zau):=by
     apply Array.toList_inj.1;rw[Qo,show (Value.agg #[.bool false,.slice none 0 0,.bool false,.slice none 0 0]).cells=#[.bool false,.slice none 0 0,.bool false,.slice none 0 0] from rfl,Zdy];simp[Zz,Zaj]
    rw[hx]
  ·by_cases hroom:m<=sp
   ·have f:=run_append_room (P:=P) w t ty e i ht hi g es.length (es.length+sp) _ h4 ad m c (Zp fs) hl hc (Zix fs) (by omega) (by rw[C,Zq,Zq];simp[Zz,Zq];omega)
    refine⟨_,_,f,.inr ⟨g,sp-m,?_,h2,?_,?_⟩,⟨rfl,rfl,rfl,by simp[World.setRow],λk _ hk=>setRow_other w g k _ (λe'=>hk (by simp[Value.ownBlock,e']))⟩⟩;rw[Qj,hm,show es.length+m+(sp-m)=es.length+sp by omega];rw[Qj,hm];omega
    ·refine(setRow_heap w g _ _ e _ h4).trans ?_
     congr 2;unfold Zz;congr 1;rw[C];have I:Qe sp Zau=Qe m Zau++Qe (sp-m) Zau:=by rw[List.replicate_append_replicate];congr 1;omega
     have J:(Zp fs).length=(Zp (Qe m Zau)).length:=by rw[Zq,Zq,hm,List.length_replicate]
     simp only[Zaj];rw[QL,J,<- Qj,I,Zaj,<- QF (Zp es),List.drop_left,QF]
   ·have y:∀ j u,(Zp es)[j]?=some u->w.cell? ((⟨g,0,none⟩:Addr).add j)=some u:=λj u hu=>by
      rw[Zh,QC,h4.cell];simp only[Zz,List.getElem?_toArray,Zaj];rw[Qq (by rw[List.getElem?_eq_some_iff]at hu;exact hu.1)];exact hu
    have f:=run_append_grow (P:=P) w t ty e i _ ht hi hz ⟨g,0,none⟩ es.length (es.length+sp) (Zp es) C.symm y ad m c (Zp fs) hl hc (by omega) (by omega) (growslice_fits (by omega) (by rw[hby];omega));have h:=grownCap_ge w (es.length+m) (es.length+sp) e;have o:=grownCap_le_maxLen w (es.length+m) (es.length+sp) e (by unfold maxLen;omega);refine⟨_,_,f,.inr ⟨w.heap.size,grownCap w (es.length+m) (es.length+sp) e-(es.length+m),?_,hbase,?_,?_⟩,⟨rfl,rfl,rfl,by simp,λk hk _=>Below.heap_alloc w.drew _ k hk⟩⟩;rw[Qj,hm,Ql h];rw[Qj,hm,Ql h];exact o
    ·have:=heap_alloc_new w.drew (.cells ((Zp es).toArray++(Zp fs).toArray++Qi (Value.agg #[.bool false,.slice none 0 0,.bool false,.slice none 0 0]).cells (grownCap w (es.length+m) (es.length+sp) e-(es.length+m))) e)
     unfold Blk;refine this.trans ?_;congr 1
     have hx:(Zp es).toArray++(Zp fs).toArray++Qi (Value.agg #[.bool false,.slice none 0 0,.bool false,.slice none 0 0]).cells (grownCap w (es.length+m) (es.length+sp) e-(es.length+m))=Zz (es++fs++Qe (grownCap w (es.length+m) (es.length+sp) e-(es.length+m)) Zau):=by
      apply Array.toList_inj.1;rw[Qo,Qo,show (Value.agg #[.bool false,.slice none 0 0,.bool false,.slice none 0 0]).cells=#[.bool false,.slice none 0 0,.bool false,.slice none 0 0] from rfl,Zdy];simp[Zz,Zaj]
     rw[hx]
end
def OwnF(t:TypeId)(w:World)(base:Nat)(v:Value)(qs:List Rat):Prop:=∃ es,RowF t w base v es/\(∀ e ∈ es,e.in_ w)/\es.map FE.q=qs
theorem Fr.of_keep{w w':World}{na:Bool}{A:Option Addr}{n c:Nat}{nb:Bool}{B:Option Addr}{m d:Nat}{r:Rat}(h:Fr w na A n c nb B m d r)(hk:∀ (A:Option Addr) (n c:Nat) (l:List Nat),Lim w A n c l->Lim w' A n c l):Fr w' na A n c nb B m d r:=⟨⟨h.1.1,h.1.2.1,hk _ _ _ _ h.1.2.2⟩,⟨h.2.1,h.2.2.1,hk _ _ _ _ h.2.2.2⟩⟩
section
variable{t:TypeId}{w w':World}{base:Nat}{v:Value}{qs:List Rat}
theorem OwnF.nil(t:TypeId)(w:World)(base:Nat):OwnF t w base (.slice none 0 0) []:=⟨[],.inl ⟨rfl,rfl⟩,λe h=>by simp at h,rfl⟩
theorem OwnF.kept(h:OwnF t w base v qs)(hb:Below w.heap.size w w'):OwnF t w' base v qs:=by
 obtain⟨es,h1,h2,h3⟩:=h;exact⟨es,h1.kept hb,λe he=>(h2 e he).below hb,h3⟩
theorem OwnF.row_ge(h:OwnF t w base v qs):∀ k,v.ownBlock=some k->base<=k:=by obtain⟨es,h1,_⟩:=h;exact h1.row_ge
def FL(w:World)(A:Option Addr)(n c:Nat)(qs:List Rat):Prop:=
 ∃ es:List FE,es.length=n/\n<=c/\c<=maxLen/\(∀ e ∈ es,e.in_ w)/\es.map FE.q=qs/\(0<n->∃ g o,A=some ⟨g,o,none⟩/\∀ (k:Nat) (e:FE),es[k]?=some e->w.cell? ⟨g,o+k*4,none⟩=some (.bool e.na)/\w.cell? ⟨g,o+(k*4+1),none⟩=some (.slice e.A e.n e.c)/\w.cell? ⟨g,o+(k*4+2),none⟩=some (.bool e.nb)/\w.cell? ⟨g,o+(k*4+3),none⟩=some (.slice e.B e.m e.d))
theorem OwnF.fl(h:OwnF t w base v qs):∃ A c,v=.slice A qs.length c/\FL w A qs.length c qs:=by
 obtain⟨es,h1,h2,rfl⟩:=h;rcases h1 with ⟨rfl,rfl⟩|⟨g,sp,rfl,h4,h5,h6⟩;exact⟨none,0,rfl,[],rfl,Qx _,QG _,λe h=>by simp at h,rfl,λh=>absurd h (by simp)⟩
 ·rw[Qw]
  refine⟨_,es.length+sp,rfl,es,rfl,QH _ _,h5,h2,rfl,λ_=>⟨g,0,rfl,λk e he=>?_⟩⟩;have hk:k<es.length:=(List.getElem?_eq_some_iff.1 he).1;have hc:=Zds (es:=es++Qe sp Zau) (i:=k) (e:=e) (by rw[Qq hk];exact he);simp only[QC,h6.cell];exact hc
theorem FL.below{A:Option Addr}{n c:Nat}(h:FL w A n c qs)(hb:Below w.heap.size w w'):FL w' A n c qs:=by
 obtain⟨es,h1,h2,h3,h4,h5,h6⟩:=h;refine⟨es,h1,h2,h3,λe he=>(h4 e he).below hb,h5,λhn=>?_⟩;obtain⟨g,o,e1,hc⟩:=h6 hn;refine⟨g,o,e1,λk e he=>?_⟩;obtain⟨a,b,c',d⟩:=hc k e he;exact⟨(hb.cell (Zo a)).trans a,(hb.cell (Zo b)).trans b,(hb.cell (Zo c')).trans c',(hb.cell (Zo d)).trans d⟩
end
theorem Zay{w:World}{g:Nat}{t:TypeId}{na:Bool}{A:Option Addr}{n c:Nat}{nb:Bool}{B:Option Addr}{m d:Nat}(q:Rat)(h:Blk w g t #[.bool na,.slice A n c,.bool nb,.slice B m d]):Reads w (g+1) 4 (some ⟨g,0,none⟩) 1 (Zp [⟨na,A,n,c,nb,B,m,d,q⟩]):=
 ⟨rfl,λ_=>⟨_,rfl,Nat.lt_succ_self _,λj u hu=>by
  rw[Zh,QC,h.cell];simpa [Zp]using hu⟩⟩
section
variable{P:Program}(w:World)
theorem Zg8{o:Oper}{a:Act}{K:Act->World->Prop}{Q:Exit->Act->World->Prop}(s x:Operand)(t:TypeId)
    (ho:o.op=.call { callee:=.builtin .append,args:=#[s,x],argTypes:=#[t,t] })
    (base:Nat) (e:TypeId) (i:TypeInfo) (ht:P.underlying t=some (.slice e)) (hi:P.info? e=some i) (hz:i.zero=some (.agg #[.bool false,.slice none 0 0,.bool false,.slice none 0 0])) (hsi:i.size=4) (hby:i.bytes=64)
    (v:Value) (qs:List Rat) (hs:a.eval s=v) (hown:OwnF e w base v qs)
    (B:Nat) (A:Option Addr) (m c:Nat) (fs:List FE) (hx:a.eval x=.slice A m c) (hr:Reads w B 4 A m (Zp fs)) (hm:fs.length=m) (hfs:∀ e ∈ fs,e.in_ w)
    (h63:qs.length+m<=1000) (hbase:base<=w.heap.size)
    (h:∀ v' w',OwnF e w' base v' (qs++fs.map FE.q)->w.grownBy w' v.ownBlock->(∀ (A:Option Addr) (n c:Nat) (l:List Nat),Lim w A n c l->Lim w' A n c l)->K (a.put o.dst v') w'):o.wp P a w K Q:=by
 obtain⟨es,h1,h2,rfl⟩:=hown;rw[Qw]at h63;obtain⟨v',w',f,h3,h4⟩:=Zk3 (P:=P) w base t o.type e i ht hi hz hsi hby v es h1 B A m c fs hr hm h63 hbase;unfold Oper.wp execOp;simp only[ho,resolve,invoke,builtin,Sem.run_bind,Sem.run_pure,Result.andThen_ok,List.map_toArray,List.map_cons,List.map_nil,hs,hx,f];have hk:∀ (A:Option Addr) (n c:Nat) (l:List Nat),Lim w A n c l->Lim w' A n c l:=λ_ _ _ _ hL=>h1.keep h4 hL;refine h v' w' ⟨es++fs,h3,λe he=>?_,by rw[List.map_append]⟩ h4 hk;rcases List.mem_append.1 he with he|he;exact(h2 e he).of_keep hk;exact(hfs e he).of_keep hk
theorem Zby{ops:Array Oper}{rest:List Oper}{o:Oper}{a:Act}{Q:Exit->Act->World->Prop}(hgd:o.guard=none)(s x:Operand)(t:TypeId)
    (ho:o.op=.call { callee:=.builtin .append,args:=#[s,x],argTypes:=#[t,t] })
    (base:Nat) (e:TypeId) (i:TypeInfo) (ht:P.underlying t=some (.slice e)) (hi:P.info? e=some i) (hz:i.zero=some (.agg #[.bool false,.slice none 0 0,.bool false,.slice none 0 0])) (hsi:i.size=4) (hby:i.bytes=64)
    (v:Value) (qs:List Rat) (hs:a.eval s=v) (hown:OwnF e w base v qs)
    (B:Nat) (A:Option Addr) (m c:Nat) (fs:List FE) (hx:a.eval x=.slice A m c) (hr:Reads w B 4 A m (Zp fs)) (hm:fs.length=m) (hfs:∀ e ∈ fs,e.in_ w)
    (h63:qs.length+m<=1000) (hbase:base<=w.heap.size)
    (h:∀ v' w',OwnF e w' base v' (qs++fs.map FE.q)->w.grownBy w' v.ownBlock->(∀ (A:Option Addr) (n c:Nat) (l:List Nat),Lim w A n c l->Lim w' A n c l)->wpList P ops Q rest (a.put o.dst v') w'):wpList P ops Q (o::rest) a w:=
 wpList_plain hgd λ_ hK=>Zg8 w s x t ho base e i ht hi hz hsi hby v qs hs hown B A m c fs hx hr hm hfs h63 hbase λv' w' h2 h3 h4=>hK _ _ (h v' w' h2 h3 h4)
end
def okF(na:Bool)(la:List Nat)(nb:Bool)(lb:List Nat):Bool:=okW na la && okW nb lb && !nb && decide (0<lb.length) && decide (QE (val la) (val lb)=1)
def qOf(na:Bool)(la lb:List Nat):Rat:=QA (sg na (val la)) (val lb:Nat)
theorem Zph{w:World}{na nb:Bool}{A B:Option Addr}{n c m d:Nat}{la lb:List Nat}(ha:Lim w A n c la)(hb:Lim w B m d lb)(hk:okF na la nb lb=true):Fr w na A n c nb B m d (qOf na la lb):=by
 simp only[okF,Qt,Bool.not_eq_true',decide_eq_true_eq]at hk;obtain⟨⟨⟨⟨k1,k2⟩,rfl⟩,k4⟩,k5⟩:=hk;have h2:=(Zi4 hb.lt).1 k2;have e2:(sg false (val lb)).natAbs=val lb:=Z4 _ _;rw[e2]at h2
 have hp:0<val lb:=by
  rw[h2.2.2]at k4;exact length_digits_pos.1 k4
 have hl:Low (sg na (val la)) (val lb:Nat):=⟨by omega,by rw[Z4,Qn];exact k5⟩;obtain⟨r1,r2⟩:=rat_low hl;have w1:=Wd.of_ok ha k1;have w2:=Wd.of_ok hb k2;have e3:sg false (val lb)=(val lb:Nat):=rfl;rw[e3]at w2;refine⟨?_,?_⟩;unfold qOf;rw[r1];exact w1;unfold qOf;rw[r2];exact w2
theorem Zp9(na nb:Bool)(A B:Option Addr)(n c m d:Nat)(la lb:List Nat)(w:World)(ha:Lim w A n c la)(hb:Lim w B m d lb)(hbad:(okW na la && okW nb lb)=false) :
    Calls Tryz.prog 110 #[.agg #[.bool na,.slice A n c,.bool nb,.slice B m d]] w λe w'=>e=.returned (.int .i64 8)/\Below w.heap.size w w':=by
 have hmx:Tryz.prog.follows .mixedOrders=true:=by kernel_rfl
 obtain⟨W0,u,h,q0,s0⟩:=Zax w 41 #[.bool na,.slice A n c,.bool nb,.slice B m d];have hA:=Za (ha.below h);have hD:=Za (hb.below h);clear ha hb;obtain⟨a0,a1,a2,a3,-⟩:=q0.four;replace q0:=Za q0;go_enter Tryz.func110,Tryz.ntmps110;go_wp2_with fail;refine(Gcd_bad na nb A B n c m d la lb W0 hA.out hD.out hbad).mono ?_;rintro e w1 ⟨rfl,o⟩;have f:Below w.heap.size w w1:=h.trans (o.mono h.size);clear u a0 a1 a2 a3 o;obtain⟨W4,C,y,q4,kW,kB,s4⟩:=Zt 39 #[.bool false,.slice none 0 0] f f.size;obtain⟨g0,g1,f0,f1⟩:=q4.two;go_wp2_with fail;refine Z0 [] (λwx=>True) hmx trivial (λ_=>?_);refine Ze (i:=0) rfl (by kernel_rfl) (λK hK=>?_);go_simp;refine hK.out _ _ (λ_=>trivial) ?_;clear hK K
 try simp only[Qa,Zgy,Zge,Zgs]
 refine Ze (i:=1) rfl (by kernel_rfl) (λK hK=>?_);go_simp;refine hK.out _ _ (λ_=>trivial) ?_;clear hK K
 try simp only[Qa,Zgy,Zge,Zgs]
 refine Ze (i:=2) rfl (by kernel_rfl) (λK hK=>?_);go_simp;refine hK.out _ _ (λ_=>trivial) ?_;clear hK K
 try simp only[Qa,Zgy,Zge,Zgs]
 refine Ze (i:=3) rfl (by kernel_rfl) (λK hK=>?_);go_simp;refine hK.out _ _ (λ_=>trivial) ?_;clear hK K
 try simp only[Qa,Zgy,Zge,Zgs]
 refine Ze (i:=4) rfl (by kernel_rfl) (λK hK=>?_);go_simp;refine hK.out _ _ (λ_=>trivial) ?_;clear hK K
 try simp only[Qa,Zgy,Zge,Zgs]
 refine Ze (i:=5) rfl (by kernel_rfl) (λK hK=>?_);go_simp;refine hK.out _ _ (λ_=>trivial) ?_;clear hK K
 try simp only[Qa,Zgy,Zge,Zgs]
 refine Ze (i:=6) rfl (by kernel_rfl) (λK hK=>?_);go_simp;refine hK.out _ _ (λ_=>trivial) ?_;clear hK K
 try simp only[Qa,Zgy,Zge,Zgs]
 refine Ze (i:=7) rfl (by kernel_rfl) (λK hK=>?_);go_simp;refine hK.out _ _ (λ_=>trivial) ?_;clear hK K
 try simp only[Qa,Zgy,Zge,Zgs]
 refine Ze (i:=8) rfl (by kernel_rfl) (λK hK=>?_);go_simp;refine hK.out _ _ (λ_=>trivial) ?_;clear hK K
 try simp only[Qa,Zgy,Zge,Zgs]
 refine Ze (i:=9) rfl (by kernel_rfl) (λK hK=>?_);go_simp;refine hK.out _ _ (λ_=>trivial) ?_;clear hK K
 try simp only[Qa,Zgy,Zge,Zgs]
 refine Ze (i:=10) rfl (by kernel_rfl) (λK hK=>?_);go_simp;refine hK.out _ _ (λ_=>trivial) ?_;clear hK K
 try simp only[Qa,Zgy,Zge,Zgs]
 refine Ze (i:=11) rfl (by kernel_rfl) (λK hK=>?_);go_simp;refine hK.out _ _ (λ_=>trivial) ?_;clear hK K
 try simp only[Qa,Zgy,Zge,Zgs]
 refine Ze (i:=12) rfl (by kernel_rfl) (λK hK=>?_);go_simp;refine hK.out _ _ (λ_=>trivial) ?_;clear hK K
 try simp only[Qa,Zgy,Zge,Zgs]
 refine Zc (i:=13) (v:=undef) rfl (by kernel_rfl) (by kernel_rfl) (by kernel_rfl) (by kernel_rfl) (by kernel_rfl) (Or.inr ⟨by rfl,rfl⟩) trivial ?_
 try simp only[Qa,Zgy,Zge,Zgs]
 refine Ze (i:=14) rfl (by kernel_rfl) (λK hK=>?_);go_simp;refine hK.out _ _ (λ_=>trivial) ?_;clear hK K
 try simp only[Qa,Zgy,Zge,Zgs]
 refine Ze (i:=15) rfl (by kernel_rfl) (λK hK=>?_);go_simp;refine hK.out _ _ (λ_=>trivial) ?_;clear hK K
 try simp only[Qa,Zgy,Zge,Zgs]
 refine Ze (i:=16) rfl (by kernel_rfl) (λK hK=>?_);go_simp;refine hK.out _ _ (λ_=>trivial) ?_;clear hK K
 try simp only[Qa,Zgy,Zge,Zgs]
 refine Ze (i:=17) rfl (by kernel_rfl) (λK hK=>?_);go_simp;refine hK.out _ _ (λ_=>trivial) ?_;clear hK K
 try simp only[Qa,Zgy,Zge,Zgs]
 refine Zj (by kernel_rfl) ?_ _;refine Qh ?_;go_wp2_with fail;go_ret;exact⟨rfl,Zf ((y.setCell (p:=⟨w1.heap.size,0,none⟩) f.size (.bool false)).setCell (p:=⟨w1.heap.size,1,none⟩) f.size (.slice none 0 0)) 1⟩
theorem Zp2(na:Bool)(A B:Option Addr)(n c m d:Nat)(za zb:Int)(w:World)(ha:Wd w na A n c za)(hb:Wd w true B m d zb) :
    Calls Tryz.prog 110 #[.agg #[.bool na,.slice A n c,.bool true,.slice B m d]] w λe w'=>e=.returned (.int .i64 8)/\Below w.heap.size w w':=by
 have hmx:Tryz.prog.follows .mixedOrders=true:=by kernel_rfl
 have J:QE za.natAbs zb.natAbs<pw 4096:=Zdn ha.small hb.small;obtain⟨W0,y,f,q0,s0⟩:=Zax w 41 #[.bool na,.slice A n c,.bool true,.slice B m d];have hA:=Za (ha.below f);have hD:=Za (hb.below f);clear ha hb;obtain⟨a0,a1,a2,a3,-⟩:=q0.four;go_enter Tryz.func110,Tryz.ntmps110;go_wp2_with fail;refine(Zj3 na true A B n c m d za zb W0 hA.out hD.out).mono ?_;rintro e w1 ⟨h,ng,Ag,kg,cg,code,rfl,hR⟩;rcases hR with ⟨-,rfl,O⟩|⟨o,-⟩
 case inr=>exact absurd o (by omega)
 have u:Below w.heap.size w w1:=f.trans (h.mono f.size);replace q0:=Zd h q0;clear y a0 a1 a2 a3 h;obtain⟨W4,I,C,q4,kW,kB,s4⟩:=Zt 39 #[.bool ng,.slice Ag kg cg] u u.size;replace q0:=kB _ _ _ q0;obtain⟨g0,g1,f0,f1⟩:=q4.two;obtain⟨a0,a1,a2,a3,-⟩:=q0.four;go_wp2_with fail;refine Z0 [] (λwx=>wx.cell? ⟨w.heap.size,2,none⟩=some (.bool true)) hmx a2 (λ_=>?_);refine Ze (i:=0) rfl (by kernel_rfl) (λK hK=>?_);go_simp;refine hK.out _ _ (λ_=>a2) ?_;clear hK K
 try simp only[Qa,Zgy,Zge,Zgs]
 refine Ze (i:=1) rfl (by kernel_rfl) (λK hK=>?_);go_simp;refine hK.out _ _ (λ_=>a2) ?_;clear hK K
 try simp only[Qa,Zgy,Zge,Zgs]
 refine Ze (i:=2) rfl (by kernel_rfl) (λK hK=>?_);go_simp;refine hK.out _ _ (λ_=>a2) ?_;clear hK K
 try simp only[Qa,Zgy,Zge,Zgs]
 refine Ze (i:=3) rfl (by kernel_rfl) (λK hK=>?_);go_simp;refine hK.out _ _ (λ_=>a2) ?_;clear hK K
 try simp only[Qa,Zgy,Zge,Zgs]
 refine Ze (i:=4) rfl (by kernel_rfl) (λK hK=>?_);go_simp;refine hK.out _ _ (λ_=>a2) ?_;clear hK K
 try simp only[Qa,Zgy,Zge,Zgs]
 refine Ze (i:=5) rfl (by kernel_rfl) (λK hK=>?_);go_simp;refine hK.out _ _ (λ_=>a2) ?_;clear hK K
 try simp only[Qa,Zgy,Zge,Zgs]
 refine Ze (i:=6) rfl (by kernel_rfl) (λK hK=>?_);go_simp;refine hK.out _ _ (λ_=>a2) ?_;clear hK K
 try simp only[Qa,Zgy,Zge,Zgs]
 refine Ze (i:=7) rfl (by kernel_rfl) (λK hK=>?_);go_simp;refine hK.out _ _ (λ_=>a2) ?_;clear hK K
 try simp only[Qa,Zgy,Zge,Zgs]
 refine Ze (i:=8) rfl (by kernel_rfl) (λK hK=>?_);go_simp;refine hK.out _ _ (λ_=>a2) ?_;clear hK K
 try simp only[Qa,Zgy,Zge,Zgs]
 refine Ze (i:=9) rfl (by kernel_rfl) (λK hK=>?_);go_simp;refine hK.out _ _ (λ_=>a2) ?_;clear hK K
 try simp only[Qa,Zgy,Zge,Zgs]
 refine Ze (i:=10) rfl (by kernel_rfl) (λK hK=>?_);go_simp;refine hK.out _ _ (λ_=>a2) ?_;clear hK K
 try simp only[Qa,Zgy,Zge,Zgs]
 refine Ze (i:=11) rfl (by kernel_rfl) (λK hK=>?_);go_simp;refine hK.out _ _ (λ_=>a2) ?_;clear hK K
 try simp only[Qa,Zgy,Zge,Zgs]
 refine Ze (i:=12) rfl (by kernel_rfl) (λK hK=>?_);go_simp;refine hK.out _ _ (λ_=>a2) ?_;clear hK K
 try simp only[Qa,Zgy,Zge,Zgs]
 refine Zc (i:=13) (v:=undef) rfl (by kernel_rfl) (by kernel_rfl) (by kernel_rfl) (by kernel_rfl) (by kernel_rfl) (Or.inr ⟨by rfl,rfl⟩) a2 ?_
 try simp only[Qa,Zgy,Zge,Zgs]
 refine Ze (i:=14) rfl (by kernel_rfl) (λK hK=>?_);go_simp;refine hK.out _ _ (λ_=>a2) ?_;clear hK K
 try simp only[Qa,Zgy,Zge,Zgs]
 refine Ze (i:=15) rfl (by kernel_rfl) (λK hK=>?_);go_simp;refine hK.out _ _ (λ_=>a2) ?_;clear hK K
 try simp only[Qa,Zgy,Zge,Zgs]
 refine Ze (i:=16) rfl (by kernel_rfl) (λK hK=>?_);go_simp;refine hK.out _ _ (λ_=>a2) ?_;clear hK K
 try simp only[Qa,Zgy,Zge,Zgs]
 refine Ze (i:=17) rfl (by kernel_rfl) (λK hK=>?_);go_simp;refine hK.out _ _ (λ_=>a2) ?_;clear hK K
 try simp only[Qa,Zgy,Zge,Zgs]
 refine Zj (by kernel_rfl) ?_ _;refine Qh ?_;go_wp2_with fail;go_ret;exact⟨rfl,Zf C 1⟩
theorem Zp0(na:Bool)(A B:Option Addr)(n c d:Nat)(za:Int)(w:World)(ha:Wd w na A n c za)(hb:Wd w false B 0 d 0) :
    Calls Tryz.prog 110 #[.agg #[.bool na,.slice A n c,.bool false,.slice B 0 d]] w λe w'=>e=.returned (.int .i64 8)/\Below w.heap.size w w':=by
 have hmx:Tryz.prog.follows .mixedOrders=true:=by kernel_rfl
 have T:QE za.natAbs (QJ 0)<pw 4096:=Zdn ha.small hb.small;obtain⟨W0,I,h,q0,s0⟩:=Zax w 41 #[.bool na,.slice A n c,.bool false,.slice B 0 d];have hA:=Za (ha.below h);have hD:=Za (hb.below h);clear ha hb;obtain⟨a0,a1,a2,a3,-⟩:=q0.four;go_enter Tryz.func110,Tryz.ntmps110;go_wp2_with fail;refine(Zj3 na false A B n c 0 d za 0 W0 hA.out hD.out).mono ?_;rintro e w1 ⟨o,ng,Ag,kg,cg,code,rfl,hR⟩;rcases hR with ⟨-,rfl,U⟩|⟨u,-⟩
 case inr=>exact absurd u (by omega)
 have C:Below w.heap.size w w1:=h.trans (o.mono h.size);replace q0:=Zd o q0;clear I a0 a1 a2 a3 o;obtain⟨W4,O,y,q4,kW,kB,s4⟩:=Zt 39 #[.bool ng,.slice Ag kg cg] C C.size;replace q0:=kB _ _ _ q0;obtain⟨g0,g1,f0,f1⟩:=q4.two;obtain⟨a0,a1,a2,a3,-⟩:=q0.four;go_wp2_with fail;refine Z0 [] (λwx=>wx.cell? ⟨w.heap.size,2,none⟩=some (.bool false)/\wx.cell? ⟨w.heap.size,3,none⟩=some (.slice B 0 d)) hmx ⟨a2,a3⟩ (λ_=>?_);refine Ze (i:=0) rfl (by kernel_rfl) (λK hK=>?_);go_simp;refine hK.out _ _ (λ_=>⟨a2,a3⟩) ?_;clear hK K
 try simp only[Qa,Zgy,Zge,Zgs]
 refine Ze (i:=1) rfl (by kernel_rfl) (λK hK=>?_);go_simp;refine hK.out _ _ (λ_=>⟨a2,a3⟩) ?_;clear hK K
 try simp only[Qa,Zgy,Zge,Zgs]
 refine Ze (i:=2) rfl (by kernel_rfl) (λK hK=>?_);go_simp;refine hK.out _ _ (λ_=>⟨a2,a3⟩) ?_;clear hK K
 try simp only[Qa,Zgy,Zge,Zgs]
 refine Ze (i:=3) rfl (by kernel_rfl) (λK hK=>?_);go_simp;refine hK.out _ _ (λ_=>⟨a2,a3⟩) ?_;clear hK K
 try simp only[Qa,Zgy,Zge,Zgs]
 refine Ze (i:=4) rfl (by kernel_rfl) (λK hK=>?_);go_simp;refine hK.out _ _ (λ_=>⟨a2,a3⟩) ?_;clear hK K
 try simp only[Qa,Zgy,Zge,Zgs]
 refine Ze (i:=5) rfl (by kernel_rfl) (λK hK=>?_);go_simp;refine hK.out _ _ (λ_=>⟨a2,a3⟩) ?_;clear hK K
 try simp only[Qa,Zgy,Zge,Zgs]
 refine Ze (i:=6) rfl (by kernel_rfl) (λK hK=>?_);go_simp;refine hK.out _ _ (λ_=>⟨a2,a3⟩) ?_;clear hK K
 try simp only[Qa,Zgy,Zge,Zgs]
 refine Ze (i:=7) rfl (by kernel_rfl) (λK hK=>?_);go_simp;refine hK.out _ _ (λ_=>⟨a2,a3⟩) ?_;clear hK K
 try simp only[Qa,Zgy,Zge,Zgs]
 refine Ze (i:=8) rfl (by kernel_rfl) (λK hK=>?_);go_simp;refine hK.out _ _ (λ_=>⟨a2,a3⟩) ?_;clear hK K
 try simp only[Qa,Zgy,Zge,Zgs]
 refine Ze (i:=9) rfl (by kernel_rfl) (λK hK=>?_);go_simp;refine hK.out _ _ (λ_=>⟨a2,a3⟩) ?_;clear hK K
 try simp only[Qa,Zgy,Zge,Zgs]
 refine Ze (i:=10) rfl (by kernel_rfl) (λK hK=>?_);go_simp;refine(Zjf _ _ _ _ _ (by omega) true rfl).mono ?_;rintro e w3 ⟨rfl,J⟩;have f:=Zr J;have k2:=Zb f a2;have k3:=Zb f a3;refine hK.out _ _ (λ_=>⟨k2,k3⟩) ?_;clear hK K
 try simp only[Qa,Zgy,Zge,Zgs]
 refine Ze (i:=11) rfl (by kernel_rfl) (λK hK=>?_);go_simp;refine hK.out _ _ (λ_=>⟨k2,k3⟩) ?_;clear hK K
 try simp only[Qa,Zgy,Zge,Zgs]
 refine Ze (i:=12) rfl (by kernel_rfl) (λK hK=>?_);go_simp;refine hK.out _ _ (λ_=>⟨k2,k3⟩) ?_;clear hK K
 try simp only[Qa,Zgy,Zge,Zgs]
 refine Zc (i:=13) (v:=undef) rfl (by kernel_rfl) (by kernel_rfl) (by kernel_rfl) (by kernel_rfl) (by kernel_rfl) (Or.inr ⟨by rfl,rfl⟩) ⟨k2,k3⟩ ?_
 try simp only[Qa,Zgy,Zge,Zgs]
 refine Ze (i:=14) rfl (by kernel_rfl) (λK hK=>?_);go_simp;refine hK.out _ _ (λ_=>⟨k2,k3⟩) ?_;clear hK K
 try simp only[Qa,Zgy,Zge,Zgs]
 refine Ze (i:=15) rfl (by kernel_rfl) (λK hK=>?_);go_simp;refine hK.out _ _ (λ_=>⟨k2,k3⟩) ?_;clear hK K
 try simp only[Qa,Zgy,Zge,Zgs]
 refine Ze (i:=16) rfl (by kernel_rfl) (λK hK=>?_);go_simp;refine hK.out _ _ (λ_=>⟨k2,k3⟩) ?_;clear hK K
 try simp only[Qa,Zgy,Zge,Zgs]
 refine Ze (i:=17) rfl (by kernel_rfl) (λK hK=>?_);go_simp;refine hK.out _ _ (λ_=>⟨k2,k3⟩) ?_;clear hK K
 try simp only[Qa,Zgy,Zge,Zgs]
 refine Zj (by kernel_rfl) ?_ _;refine Qh ?_;go_wp2_with fail;go_ret;exact⟨rfl,y.trans (f.mono y.size)⟩
theorem Zlg(na nb:Bool)(A B:Option Addr)(n c m d:Nat)(la lb:List Nat)(w:World)(ha:Lim w A n c la)(hb:Lim w B m d lb)(x:Bool)(hx:okF na la nb lb=x) :
    Calls Tryz.prog 110 #[.agg #[.bool na,.slice A n c,.bool nb,.slice B m d]] w λe w'=>e=.returned (.int .i64 (Zfr x))/\Below w.heap.size w w':=by
 cases x
 ·simp only[okF,Qz,QD,decide_eq_false_iff_not]at hx
  by_cases h1:(okW na la && okW nb lb)=true
  ·have h:=h1
   rw[Qt]at h1;have hA:=Wd.of_ok ha h1.1;have hD:=Wd.of_ok hb h1.2;cases nb
   ·by_cases hz:0<lb.length
    ·have e3:sg false (val lb)=(val lb:Nat):=rfl
     rw[e3]at hD;have h2:=(Zi4 hb.lt).1 h1.2;have e2:(sg false (val lb)).natAbs=val lb:=Z4 _ _;rw[e2]at h2
     have hp:0<val lb:=by
      rw[h2.2.2]at hz;exact length_digits_pos.1 hz
     refine Zlf na A B n c m d _ _ w hA hD (by omega) false ?_;rw[Z4,Qn];rcases hx with (((hx|hx)|hx)|hx)|hx;rw[h1.1]at hx;cases hx;rw[h1.2]at hx;cases hx;cases hx;omega;simp;omega
    ·have f:lb=[]:=Qf (by omega)
     subst f;have hm:m=0:=hb.len.symm;subst hm;exact Zp0 na A B n c d _ w hA hD
   exact Zp2 na A B n c m d _ _ w hA hD
  exact Zp9 na nb A B n c m d la lb w ha hb (by simpa using h1)
 exact Zd9 na nb A B n c m d _ w (Zph ha hb hx)
structure FX where
 na:Bool
 A:Option Addr
 n:Nat
 c:Nat
 la:List Nat
 nb:Bool
 B:Option Addr
 m:Nat
 d:Nat
 lb:List Nat
def FX.in_(w:World)(e:FX):Prop:=Lim w e.A e.n e.c e.la/\Lim w e.B e.m e.d e.lb
def FX.ok(e:FX):Bool:=okF e.na e.la e.nb e.lb
def FX.q(e:FX):Rat:=qOf e.na e.la e.lb
def FX.few(e:FX):Nat:=max e.n e.m
def At4(w:World)(g o:Nat)(na:Bool)(A:Option Addr)(n c:Nat)(nb:Bool)(B:Option Addr)(m d:Nat):Prop:=
 w.cell? ⟨g,o,none⟩=some (.bool na)/\w.cell? ⟨g,o+1,none⟩=some (.slice A n c)/\w.cell? ⟨g,o+2,none⟩=some (.bool nb)/\w.cell? ⟨g,o+3,none⟩=some (.slice B m d)
theorem At4.below{w w':World}{g o:Nat}{na:Bool}{A:Option Addr}{n c:Nat}{nb:Bool}{B:Option Addr}{m d:Nat}(h:At4 w g o na A n c nb B m d)(hb:Below w.heap.size w w'):At4 w' g o na A n c nb B m d:=
 ⟨Zb hb h.1,Zb hb h.2.1,Zb hb h.2.2.1,Zb hb h.2.2.2⟩
def FXL(w:World)(A:Option Addr)(n c:Nat)(es:List FX):Prop:=
 es.length=n/\n<=c/\c<=maxLen/\(∀ e ∈ es,e.in_ w)/\(0<n->∃ g o,A=some ⟨g,o,none⟩/\∀ (k:Nat) (e:FX),es[k]?=some e->At4 w g (o+k*4) e.na e.A e.n e.c e.nb e.B e.m e.d)
section
variable{w w':World}{A:Option Addr}{n c:Nat}{es:List FX}
theorem FX.in_below{e:FX}(h:e.in_ w)(hb:Below w.heap.size w w'):e.in_ w':=⟨h.1.below hb,h.2.below hb⟩
theorem FXL.below(h:FXL w A n c es)(hb:Below w.heap.size w w'):FXL w' A n c es:=by
 obtain⟨h1,h2,h3,h4,h5⟩:=h;refine⟨h1,h2,h3,λe he=>FX.in_below (h4 e he) hb,λhn=>?_⟩;obtain⟨g,o,e1,hc⟩:=h5 hn;exact⟨g,o,e1,λk e he=>(hc k e he).below hb⟩
theorem FXL.at_(h:FXL w A n c es){k:Nat}(hk:k<n):∃ g o e,A=some ⟨g,o,none⟩/\es[k]?=some e/\At4 w g (o+k*4) e.na e.A e.n e.c e.nb e.B e.m e.d/\Lim w e.A e.n e.c e.la/\Lim w e.B e.m e.d e.lb:=by
 obtain⟨h1,-,-,h4,h5⟩:=h;obtain⟨g,o,e1,hc⟩:=h5 (by omega);have he:=Qd (l:=es) (i:=k) (by omega);have hi:=h4 es[k] (Qu _);exact⟨g,o,es[k],e1,he,hc k _ he,hi.1,hi.2⟩
theorem FXL.fl(h:FXL w A n c es)(hk:∀ e ∈ es,e.ok=true):FL w A n c (es.map FX.q):=by
 obtain⟨h1,h2,h3,h4,h5⟩:=h;refine⟨es.map λe=>⟨e.na,e.A,e.n,e.c,e.nb,e.B,e.m,e.d,e.q⟩,by simp[h1],h2,h3,λe he=>?_,by rw[List.map_map];rfl,λhn=>?_⟩
 ·obtain⟨x,hx,rfl⟩:=List.mem_map.1 he
  exact Zph (h4 x hx).1 (h4 x hx).2 (hk x hx)
 ·obtain⟨g,o,e1,hc⟩:=h5 hn
  refine⟨g,o,e1,λk e he=>?_⟩;rw[Qp]at he;obtain⟨x,hx,rfl⟩:=Option.map_eq_some_iff.1 he;exact hc k x hx
end
structure RX where
 A:Option Addr
 n:Nat
 c:Nat
 es:List FX
def MXL(w:World)(A:Option Addr)(n c:Nat)(rs:List RX):Prop:=
 rs.length=n/\n<=c/\c<=maxLen/\(∀ r ∈ rs,FXL w r.A r.n r.c r.es)/\(0<n->∃ g o,A=some ⟨g,o,none⟩/\∀ (k:Nat) (r:RX),rs[k]?=some r->w.cell? ⟨g,o+k,none⟩=some (.slice r.A r.n r.c))
def MFL(w:World)(A:Option Addr)(n c:Nat)(Q:List (List Rat)):Prop:=
 Q.length=n/\n<=c/\c<=maxLen/\(0<n->∃ g o,A=some ⟨g,o,none⟩/\∀ (k:Nat) (q:List Rat),Q[k]?=some q->∃ A' n' c',w.cell? ⟨g,o+k,none⟩=some (.slice A' n' c')/\FL w A' n' c' q)
section
variable{w w':World}{A:Option Addr}{n c:Nat}{rs:List RX}{Q:List (List Rat)}{qs:List Rat}
theorem MXL.below(h:MXL w A n c rs)(hb:Below w.heap.size w w'):MXL w' A n c rs:=by
 obtain⟨h1,h2,h3,h4,h5⟩:=h;refine⟨h1,h2,h3,λr hr=>(h4 r hr).below hb,λhn=>?_⟩;obtain⟨g,o,e1,hc⟩:=h5 hn;exact⟨g,o,e1,λk r hr=>Zb hb (hc k r hr)⟩
theorem MXL.at_(h:MXL w A n c rs){k:Nat}(hk:k<n):∃ g o r,A=some ⟨g,o,none⟩/\rs[k]?=some r/\w.cell? ⟨g,o+k,none⟩=some (.slice r.A r.n r.c)/\FXL w r.A r.n r.c r.es:=by
 obtain⟨h1,-,-,h4,h5⟩:=h;obtain⟨g,o,e1,hc⟩:=h5 (by omega);have he:=Qd (l:=rs) (i:=k) (by omega);exact⟨g,o,rs[k],e1,he,hc k _ he,h4 rs[k] (Qu _)⟩
theorem MXL.mfl(h:MXL w A n c rs)(hk:∀ r ∈ rs,∀ e ∈ r.es,e.ok=true):MFL w A n c (rs.map λr=>r.es.map FX.q):=by
 obtain⟨h1,h2,h3,h4,h5⟩:=h;refine⟨by simp[h1],h2,h3,λhn=>?_⟩;obtain⟨g,o,e1,hc⟩:=h5 hn;refine⟨g,o,e1,λk q hq=>?_⟩;rw[Qp]at hq;obtain⟨r,hr,rfl⟩:=Option.map_eq_some_iff.1 hq;exact⟨r.A,r.n,r.c,hc k r hr,(h4 r (Qk hr)).fl (hk r (Qk hr))⟩
theorem MFL.below(h:MFL w A n c Q)(hb:Below w.heap.size w w'):MFL w' A n c Q:=by
 obtain⟨h1,h2,h3,h5⟩:=h;refine⟨h1,h2,h3,λhn=>?_⟩;obtain⟨g,o,e1,hc⟩:=h5 hn;refine⟨g,o,e1,λk q hq=>?_⟩;obtain⟨A',n',c',h6,h7⟩:=hc k q hq;exact⟨A',n',c',Zb hb h6,h7.below hb⟩
theorem MFL.at_(h:MFL w A n c Q){k:Nat}(hk:k<n):∃ g o A' n' c',A=some ⟨g,o,none⟩/\w.cell? ⟨g,o+k,none⟩=some (.slice A' n' c')/\FL w A' n' c' (Q[k]?.getD []):=by
 obtain⟨h1,-,-,h5⟩:=h;obtain⟨g,o,e1,hc⟩:=h5 (by omega);have he:=Qd (l:=Q) (i:=k) (by omega);obtain⟨A',n',c',h6,h7⟩:=hc k _ he;rw[he];exact⟨g,o,A',n',c',e1,h6,h7⟩
theorem FL.len(h:FL w A n c qs):qs.length=n:=by obtain⟨es,h1,-,-,-,h5,-⟩:=h;rw[<- h5,Qw,h1]
theorem FL.cap(h:FL w A n c qs):n<=c/\c<=maxLen:=by obtain⟨es,h1,h2,h3,-⟩:=h;exact⟨h2,h3⟩
theorem FL.at_(h:FL w A n c qs){k:Nat}(hk:k<n):∃ g o na A1 n1 c1 nb B m d,A=some ⟨g,o,none⟩/\At4 w g (o+k*4) na A1 n1 c1 nb B m d/\Fr w na A1 n1 c1 nb B m d (qs[k]?.getD 0):=by
 obtain⟨es,h1,-,-,h4,rfl,h5⟩:=h;obtain⟨g,o,e1,hc⟩:=h5 (by omega);have he:=Qd (l:=es) (i:=k) (by omega);refine⟨g,o,es[k].na,es[k].A,es[k].n,es[k].c,es[k].nb,es[k].B,es[k].m,es[k].d,e1,hc k _ he,?_⟩;rw[Qp,he];exact h4 es[k] (Qu _)
theorem FL.take(h:FL w A n c qs){k:Nat}(hk:k<=n):FL w A k c (qs.take k):=by
 obtain⟨es,h1,h2,h3,h4,rfl,h5⟩:=h;refine⟨es.take k,by rw[List.length_take];omega,by omega,h3,λe he=>h4 e (List.mem_of_mem_take he),by rw[List.map_take],λhn=>?_⟩;obtain⟨g,o,e1,hc⟩:=h5 (by omega);refine⟨g,o,e1,λj e he=>?_⟩;rw[List.getElem?_take]at he
 split at he
 exact hc j e he;cases he
end
theorem Zof{x y:Int}{na nb:Bool}(ha:na=decide (x<0))(hb:nb=decide (y<0)):Zf4 na nb (digits x.natAbs) (digits y.natAbs)=decide (x=y):=by
 unfold Zf4;rw[Zej,ha,hb];by_cases h:x=y;subst h;simp[Zeh]
 ·rw[decide_eq_false h]
  unfold Zeh;by_cases h1:(decide (x<0) == decide (y<0))=true
  ·have:x.natAbs≠y.natAbs:=by
     intro e;rw[beq_iff_eq,decide_eq_decide]at h1;omega
   rcases Nat.lt_or_gt_of_ne this with h2|h2;rw[if_pos (by omega)];simp;rw[if_neg (by omega),if_pos (by omega)];simp
  rw[Bool.not_eq_true]at h1;rw[h1];rfl
def Fz(w:World)(na:Bool)(A:Option Addr)(n c:Nat)(nb:Bool)(B:Option Addr)(m d:Nat)(q:Int × Int):Prop:=Wd w na A n c q.1/\Wd w nb B m d q.2
theorem Fz.below{w w':World}{na:Bool}{A:Option Addr}{n c:Nat}{nb:Bool}{B:Option Addr}{m d:Nat}{r:Int × Int}(h:Fz w na A n c nb B m d r)(hb:Below w.heap.size w w'):Fz w' na A n c nb B m d r:=⟨h.1.below hb,h.2.below hb⟩
def prQ(r:Rat):Int × Int:=(r.num,(r.den:Nat))
theorem Fr.fz{w:World}{na:Bool}{A:Option Addr}{n c:Nat}{nb:Bool}{B:Option Addr}{m d:Nat}{r:Rat}(h:Fr w na A n c nb B m d r):Fz w na A n c nb B m d (prQ r):=h
theorem Zwd(na nb na' nb':Bool)(A B A' B':Option Addr)(n c m d n' c' m' d':Nat)(a b:Int × Int)(w:World)(ha:Fz w na A n c nb B m d a)(hb:Fz w na' A' n' c' nb' B' m' d' b)(s:Bool)(hs:decide (a=b)=s) :
    Calls Tryz.prog 21 #[.agg #[.bool na,.slice A n c,.bool nb,.slice B m d],.agg #[.bool na',.slice A' n' c',.bool nb',.slice B' m' d']] w λe w'=>e=.returned (.bool s)/\Below w.heap.size w w':=by
 obtain⟨W0,u,h,⟨q0,q1⟩,s0⟩:=Zfa w 41 #[.bool na,.slice A n c,.bool nb,.slice B m d] 41 #[.bool na',.slice A' n' c',.bool nb',.slice B' m' d'];have hA:=Za (ha.below h);have hD:=Za (hb.below h);have e1:=Za (Zof ha.1.1 hb.1.1);have e2:=Za (Zof ha.2.1 hb.2.1);clear ha hb;obtain⟨x,hx⟩:∃ x,decide (a.1=b.1)=x:=⟨_,rfl⟩;obtain⟨y,hy⟩:∃ y,decide (a.2=b.2)=y:=⟨_,rfl⟩
 have I:s=(x && y):=by
  rw[<- hs,<- hx,<- hy,Bool.eq_iff_iff];simp only[decide_eq_true_eq,Qt];constructor;rintro rfl;exact⟨rfl,rfl⟩;rintro⟨h1,h2⟩;exact Prod.ext h1 h2
 subst I;rw[hx]at e1;rw[hy]at e2;clear hs hx hy;obtain⟨a0,a1,a2,a3,-⟩:=q0.four;obtain⟨b0,b1,b2,b3,-⟩:=q1.four;have hq:=Za (Qb q0 q1);clear q0 q1;go_enter Tryz.func21,Tryz.ntmps21;go_wp2_with fail;refine(Zey na na' A A' n c n' c' _ _ W0 hA.out.1.lim hD.out.1.lim).mono ?_;rw[e1.out];rintro e w1 ⟨rfl,f⟩;have o:Below w.heap.size w w1:=h.trans (f.mono h.size);replace hA:=Za (hA.out.below f);replace hD:=Za (hD.out.below f);obtain⟨q0,q1⟩:=hq.out;replace q0:=Zd f q0;replace q1:=Zd f q1;clear u f a0 a1 a2 a3 b0 b1 b2 b3 hq h;obtain⟨a0,a1,a2,a3,-⟩:=q0.four;obtain⟨b0,b1,b2,b3,-⟩:=q1.four;clear q0 q1;cases x
 ·go_wp2_with fail
  go_ret;exact⟨rfl,o⟩
 ·go_wp2_with fail
  refine(Zey nb nb' B B' m d m' d' _ _ w1 hA.out.2.lim hD.out.2.lim).mono ?_;rw[e2.out];rintro e w2 ⟨rfl,J⟩;have C:Below w.heap.size w w2:=o.trans (J.mono o.size);go_wp2_with fail;go_ret;exact⟨by simp,C⟩
theorem prQ_inj{a b:Rat}:prQ a=prQ b ↔ a=b:=by
 constructor
 ·intro h
  have h1:=congrArg Prod.fst h;have h2:=congrArg Prod.snd h;simp only[prQ]at h1 h2;exact Rat.ext h1 (by omega)
 rintro rfl;rfl
theorem Zs0(na nb na' nb':Bool)(A B A' B':Option Addr)(n c m d n' c' m' d':Nat)(a b:Rat)(w:World)(ha:Fr w na A n c nb B m d a)(hb:Fr w na' A' n' c' nb' B' m' d' b)(s:Bool)(hs:decide (a=b)=s) :
    Calls Tryz.prog 21 #[.agg #[.bool na,.slice A n c,.bool nb,.slice B m d],.agg #[.bool na',.slice A' n' c',.bool nb',.slice B' m' d']] w λe w'=>e=.returned (.bool s)/\Below w.heap.size w w':=
 Zwd na nb na' nb' A B A' B' n c m d n' c' m' d' (prQ a) (prQ b) w ha.fz hb.fz s (by rw[<- hs];exact decide_eq_decide.2 prQ_inj)
def cmpQ(a b:Rat):Int:=if a<b then -1 else if b<a then 1 else 0
theorem Zxz(a b:Rat):Zeh (a.num*b.den) (b.num*a.den)=cmpQ a b:=by
 unfold Zeh cmpQ;simp only[Rat.lt_iff]
theorem Zpp(na nb:Bool)(A B:Option Addr)(n c m d:Nat)(la lb:List Nat)(w:World)(ha:Lim w A n c la)(hb:Lim w B m d lb)(hbad:okW na la=false) :
    Calls Tryz.prog 17 #[.agg #[.bool na,.slice A n c,.bool nb,.slice B m d]] w λe w'=>e=.returned (.int .i64 8)/\Below w.heap.size w w':=by
 have hmx:Tryz.prog.follows .mixedOrders=true:=by kernel_rfl
 obtain⟨W0,u,f,q0,s0⟩:=Zax w 41 #[.bool na,.slice A n c,.bool nb,.slice B m d];have hA:=Za (ha.below f);clear ha hb;obtain⟨a0,a1,a2,a3,-⟩:=q0.four;go_enter Tryz.func17,Tryz.ntmps17;go_wp2_with fail;refine(Zld hA.out hbad).mono ?_;rintro e w1 ⟨rfl,h⟩;have o:Below w.heap.size w w1:=f.trans (h.mono f.size);clear u a0 a1 a2 a3;obtain⟨a0,a1,a2,a3,-⟩:=(Zd h q0).four;go_wp2_with fail;go_ret;exact⟨rfl,o⟩
theorem Zox(na nb:Bool)(A B:Option Addr)(n c m d:Nat)(la lb:List Nat)(w:World)(ha:Lim w A n c la)(hb:Lim w B m d lb)(hk:okW na la=true)(hbad:okW nb lb=false) :
    Calls Tryz.prog 17 #[.agg #[.bool na,.slice A n c,.bool nb,.slice B m d]] w λe w'=>e=.returned (.int .i64 8)/\Below w.heap.size w w':=by
 have hmx:Tryz.prog.follows .mixedOrders=true:=by kernel_rfl
 obtain⟨W0,y,h,q0,s0⟩:=Zax w 41 #[.bool na,.slice A n c,.bool nb,.slice B m d];have hA:=Za (ha.below h);have hD:=Za (hb.below h);clear ha hb;obtain⟨a0,a1,a2,a3,-⟩:=q0.four;go_enter Tryz.func17,Tryz.ntmps17;go_wp2_with fail;refine(Zb3 hA.out hk).mono ?_;rintro e w1 ⟨rfl,f⟩;have u:Below w.heap.size w w1:=h.trans (f.mono h.size);replace q0:=Zd f q0;replace hA:=Za (hA.out.below f);replace hD:=Za (hD.out.below f);clear y a0 a1 a2 a3 f;obtain⟨a0,a1,a2,a3,-⟩:=q0.four;go_wp2_with fail;refine(Zld hD.out hbad).mono ?_;rintro e w2 ⟨rfl,o⟩;have C:Below w.heap.size w w2:=u.trans (o.mono u.size);replace q0:=Zd o q0;clear a0 a1 a2 a3 o;obtain⟨a0,a1,a2,a3,-⟩:=q0.four;go_wp2_with fail;go_ret;exact⟨rfl,C⟩
theorem Zop(na:Bool)(A B:Option Addr)(n c m d:Nat)(la lb:List Nat)(w:World)(ha:Lim w A n c la)(hb:Lim w B m d lb)(hk:okW na la=true)(hk2:okW true lb=true) :
    Calls Tryz.prog 17 #[.agg #[.bool na,.slice A n c,.bool true,.slice B m d]] w λe w'=>e=.returned (.int .i64 8)/\Below w.heap.size w w':=by
 have hmx:Tryz.prog.follows .mixedOrders=true:=by kernel_rfl
 obtain⟨W0,y,h,q0,s0⟩:=Zax w 41 #[.bool na,.slice A n c,.bool true,.slice B m d];have hA:=Za (ha.below h);have hD:=Za (hb.below h);clear ha hb;obtain⟨a0,a1,a2,a3,-⟩:=q0.four;go_enter Tryz.func17,Tryz.ntmps17;go_wp2_with fail;refine(Zb3 hA.out hk).mono ?_;rintro e w1 ⟨rfl,f⟩;have u:Below w.heap.size w w1:=h.trans (f.mono h.size);replace q0:=Zd f q0;replace hA:=Za (hA.out.below f);replace hD:=Za (hD.out.below f);clear y a0 a1 a2 a3 f;obtain⟨a0,a1,a2,a3,-⟩:=q0.four;go_wp2_with fail;refine(Zb3 hD.out hk2).mono ?_;rintro e w2 ⟨rfl,o⟩;have C:Below w.heap.size w w2:=u.trans (o.mono u.size);replace q0:=Zd o q0;clear a0 a1 a2 a3 o;obtain⟨a0,a1,a2,a3,-⟩:=q0.four;go_wp2_with fail;go_ret;exact⟨rfl,C⟩
theorem Zpn(na:Bool)(A B:Option Addr)(n c d:Nat)(la:List Nat)(w:World)(ha:Lim w A n c la)(hb:Lim w B 0 d [])(hk:okW na la=true) :
    Calls Tryz.prog 17 #[.agg #[.bool na,.slice A n c,.bool false,.slice B 0 d]] w λe w'=>e=.returned (.int .i64 8)/\Below w.heap.size w w':=by
 have hmx:Tryz.prog.follows .mixedOrders=true:=by kernel_rfl
 obtain⟨W0,y,h,q0,s0⟩:=Zax w 41 #[.bool na,.slice A n c,.bool false,.slice B 0 d];have hA:=Za (ha.below h);have hD:=Za (hb.below h);clear ha hb;obtain⟨a0,a1,a2,a3,-⟩:=q0.four;go_enter Tryz.func17,Tryz.ntmps17;go_wp2_with fail;refine(Zb3 hA.out hk).mono ?_;rintro e w1 ⟨rfl,f⟩;have u:Below w.heap.size w w1:=h.trans (f.mono h.size);replace q0:=Zd f q0;replace hA:=Za (hA.out.below f);replace hD:=Za (hD.out.below f);clear y a0 a1 a2 a3 f;obtain⟨a0,a1,a2,a3,-⟩:=q0.four;go_wp2_with fail;refine(Zb3 hD.out (by decide)).mono ?_;rintro e w2 ⟨rfl,o⟩;have C:Below w.heap.size w w2:=u.trans (o.mono u.size);replace q0:=Zd o q0;clear a0 a1 a2 a3 o;obtain⟨a0,a1,a2,a3,-⟩:=q0.four;go_wp2_with fail;go_ret;exact⟨rfl,C⟩
theorem Zpq(na:Bool)(A B:Option Addr)(n c m d:Nat)(za zb:Int)(w:World)(h1:Wd w na A n c za)(h2:Wd w false B m d zb)(hp:0<zb)(hg:Nat.gcd za.natAbs zb.natAbs≠1) :
    Calls Tryz.prog 17 #[.agg #[.bool na,.slice A n c,.bool false,.slice B m d]] w λe w'=>e=.returned (.int .i64 8)/\Below w.heap.size w w':=by
 have hmx:Tryz.prog.follows .mixedOrders=true:=by kernel_rfl
 have a9:0<m:=by rw[<- h2.lim.len];exact length_digits_pos.2 (by omega)
 have a7:((m:Int) == 0)=false:=by simp;omega
 have hm:=h2.2.1;have J:=Zdn h1.small h2.small;obtain⟨G,O⟩:∃ G,QE za.natAbs zb.natAbs=G:=⟨_,rfl⟩;rw[O]at hg J;replace hg:=Za hg;obtain⟨W0,Y,u,q0,s0⟩:=Zax w 41 #[.bool na,.slice A n c,.bool false,.slice B m d];have hA:=Za (Qb (h1.below u) (h2.below u));clear h1 h2;obtain⟨a0,a1,a2,a3,-⟩:=q0.four;replace q0:=Za q0;go_enter Tryz.func17,Tryz.ntmps17;go_wp2_with fail;refine(Zb3 hA.out.1.lim hA.out.1.ok).mono ?_;rintro e w1 ⟨rfl,f⟩;have I:Below w.heap.size w w1:=u.trans (f.mono u.size);replace hA:=Za (Qb (hA.out.1.below f) (hA.out.2.below f));replace q0:=Za (Zd f q0.out);clear a0 a1 a2 a3 f u Y;obtain⟨a0,a1,a2,a3,-⟩:=q0.out.four;go_wp2_with fail;refine(Zb3 hA.out.2.lim hA.out.2.ok).mono ?_;rintro e w2 ⟨rfl,h⟩;have y:Below w.heap.size w w2:=I.trans (h.mono I.size);replace hA:=Za (Qb (hA.out.1.below h) (hA.out.2.below h));replace q0:=Za (Zd h q0.out);clear a0 a1 a2 a3 h I;obtain⟨a0,a1,a2,a3,-⟩:=q0.out.four;go_wp2_with fail;refine(Zk9 na false A B n c m d za zb w2 hA.out.1 hA.out.2).mono ?_;rw[O];rintro e w3 ⟨V,ng,Ag,kg,cg,code,rfl,hR⟩;have hG:=Za (hR.small (by rw[Qn];exact J));have C:Below w.heap.size w w3:=y.trans (V.mono y.size);clear a0 a1 a2 a3 V y q0 hA hR;obtain⟨W4,a8,a6,q4,kW,kB,s4⟩:=Zt 39 #[.bool ng,.slice Ag kg cg] C C.size;replace hG:=Za (kW _ _ _ _ _ hG.out);clear kW kB;obtain⟨g0,g1,-⟩:=q4.two;replace q4:=Za q4;go_wp2_with fail
 refine Z0 [] (λW'=>W'.cell? ⟨w3.heap.size,0,none⟩=some (.bool ng)/\W'.cell? ⟨w3.heap.size,1,none⟩=some (.slice Ag kg cg)) hmx ⟨g0,g1⟩ (λ_=>?_);refine Zje 1 [0] rfl (by kernel_rfl) ⟨g0,g1⟩ ?_
 (refine tk1 (v:=?_) rfl (Qr ⟨by kernel_rfl,?_⟩) ?_;rotate_left;(· intro W2 hSw;(try dsimp only at hSw);go_simp;try with_reducible rfl);try simp only[Qa,Zgy,Zge,Zgs,putG_a,putG_s,putG_z])
 refine tk0 ?_;refine Ze (i:=1) rfl (by kernel_rfl) (λK hK=>?_);go_simp;refine(Zc6 1 W4.drew (by omega) (by omega)).mono ?_;rintro e w5 ⟨o,n1,A1,k1,c1,rfl,hO⟩;replace o:=Zr o;have U:Below w.heap.size w w5:=a6.trans (o.mono (by show w.heap.size<=W4.heap.size;have:=C.size;omega));replace hG:=Za (hG.out.below o);replace q4:=Za (Zd o q4.out);clear g0 g1;obtain⟨g0,g1,-⟩:=q4.out.two;refine hK.out _ _ (λ_=>⟨g0,g1⟩) ?_;clear hK K
 try simp only[Qa,Zgy,Zge,Zgs]
 refine Ze (i:=2) rfl (by kernel_rfl) (λK hK=>?_);go_simp;refine(Zey ng n1 Ag A1 kg cg k1 c1 _ _ w5 hG.out.lim hO.lim).mono ?_;have a4:Zf4 ng n1 (digits (QJ ((G:Nat):Int))) (digits (QJ 1))=false:=by have h1:=hG.out.1;have h2:=hO.1;rw[h1,h2];unfold Zf4;have:=hg.out;simp[Zej,Zeh];omega
 rw[a4];rintro e w6 ⟨rfl,T⟩;have a5:Below w.heap.size w w6:=U.trans (T.mono U.size);replace q4:=Za (Zd T q4.out);clear g0 g1;obtain⟨g0,g1,-⟩:=q4.out.two;refine hK.out _ _ (λ_=>⟨g0,g1⟩) ?_;clear hK K
 try simp only[Qa,Zgy,Zge,Zgs]
 refine Zje 1 [3] rfl (by kernel_rfl) ⟨g0,g1⟩ ?_
 (refine tk1 (v:=?_) rfl (Qr ⟨by kernel_rfl,?_⟩) ?_;rotate_left;(· intro W2 hSw;(try dsimp only at hSw);go_simp;try with_reducible rfl);try simp only[Qa,Zgy,Zge,Zgs,putG_a,putG_s,putG_z])
 refine tk0 ?_;refine Zj (by kernel_rfl) ?_ _;refine Qh ?_;go_wp2_with fail;go_ret;exact⟨rfl,a5⟩
theorem Zqt(na nb:Bool)(A B:Option Addr)(n c m d:Nat)(la lb:List Nat)(w:World)(ha:Lim w A n c la)(hb:Lim w B m d lb)(x:Bool)(hx:okF na la nb lb=x) :
    Calls Tryz.prog 17 #[.agg #[.bool na,.slice A n c,.bool nb,.slice B m d]] w λe w'=>e=.returned (.int .i64 (Zfr x))/\Below w.heap.size w w':=by
 cases x
 ·simp only[okF,Qz,QD,decide_eq_false_iff_not]at hx
  by_cases h1:okW na la=true
  case neg=>exact Zpp na nb A B n c m d la lb w ha hb (by simpa using h1)
  by_cases h2:okW nb lb=true
  case neg=>exact Zox na nb A B n c m d la lb w ha hb h1 (by simpa using h2)
  have hA:=Wd.of_ok ha h1;have hD:=Wd.of_ok hb h2;cases nb
  ·by_cases hz:0<lb.length
   ·have e3:sg false (val lb)=(val lb:Nat):=rfl
    rw[e3]at hD;have f:=(Zi4 hb.lt).1 h2;have e2:(sg false (val lb)).natAbs=val lb:=Z4 _ _;rw[e2]at f
    have hp:0<val lb:=by
     rw[f.2.2]at hz;exact length_digits_pos.1 hz
    refine Zpq na A B n c m d _ _ w hA hD (by omega) ?_;rw[Z4,Qn];rcases hx with (((hx|hx)|hx)|hx)|hx;rw[h1]at hx;cases hx;rw[h2]at hx;cases hx;cases hx;omega;exact hx
   ·have h:lb=[]:=Qf (by omega)
    subst h;have hm:m=0:=hb.len.symm;subst hm;exact Zpn na A B n c d la w ha hb h1
  exact Zop na A B n c m d la lb w ha hb h1 h2
 exact Ztq na nb A B n c m d _ w (Zph ha hb hx)
theorem Few_any(na nb:Bool)(A B:Option Addr)(n c m d:Nat)(w:World)(hn:n<=maxLen)(hm:m<=maxLen) :
    Calls Tryz.prog 24 #[.agg #[.bool na,.slice A n c,.bool nb,.slice B m d]] w λe w'=>e=.returned (.int .i64 (max n m:Nat))/\Below w.heap.size w w':=by
 unfold maxLen at hn hm;obtain⟨W0,h,f,q0,s0⟩:=Zax w 41 #[.bool na,.slice A n c,.bool nb,.slice B m d];obtain⟨a0,a1,a2,a3,-⟩:=q0.four;have hx:max (n:Int) (m:Int)=((max n m:Nat):Int):=by omega
 go_enter Tryz.func24,Tryz.ntmps24;go_wp2_with fail;go_ret;exact⟨rfl,(by first|exact f|exact Zf f _)⟩
def FX.fine(e:FX):Bool:=decide (e.few<=8) && e.ok
def Zeo(es:List FX):Bool:=es.all FX.fine
def IdxB(w:World)(b:Bool)(e:Ending)(w':World):Prop:=∃ i:Int,e=.returned (.int .i64 i)/\decide (0<=i)=b/\Below w.heap.size w w'
theorem Zx4(na nb:Bool)(A B:Option Addr)(n c m d:Nat)(la lb:List Nat)(w:World)(ha:Lim w A n c la)(hb:Lim w B m d lb)(b:Bool)(hx:(decide (max n m<=8) && okF na la nb lb)=b) :
    Calls Tryz.prog 192 #[.agg #[.bool na,.slice A n c,.bool nb,.slice B m d]] w λe w'=>e=.returned (.bool (!b))/\Below w.heap.size w w':=by
 obtain⟨W0,J,f,q0,s0⟩:=Zax w 41 #[.bool na,.slice A n c,.bool nb,.slice B m d];obtain⟨a0,a1,a2,a3,-⟩:=q0.four;have u:=Qc ha.2.1 ha.2.2.1;have C:=Qc hb.2.1 hb.2.2.1;unfold maxLen at u C;obtain⟨y,hy⟩:∃ y,okF na la nb lb=y:=⟨_,rfl⟩;rw[hy]at hx;have hC:=Za (λW1 (h1:Below w.heap.size w W1)=>Zlg na nb A B n c m d la lb W1 (ha.below h1) (hb.below h1) y hy);clear ha hb hy;have hmx:max (n:Int) (m:Int)=((max n m:Nat):Int):=by omega
 by_cases h8:max n m<=8
 ·have t1:decide ((8:Int)<((max n m:Nat):Int))=false:=decide_eq_false (by omega)
  have I:decide (8<max n m)=false:=decide_eq_false (by omega);have o:decide ((8:Int)<max (n:Int) (m:Int))=false:=decide_eq_false (by omega);rw[decide_eq_true h8,Bool.true_and]at hx;subst hx;cases y
  ·go_enter Tryz.func192,Tryz.ntmps192
   go_wp2_with fail;refine(hC.out _ (by first|exact f|exact Zf f _)).mono ?_;rintro e w1 ⟨rfl,h⟩;simp only[Zfr,Bool.false_eq_true,if_false];go_wp2_with fail;go_ret;exact⟨rfl,(by first|exact f.trans (h.mono f.size)|exact(Zf f _).trans (h.mono f.size))⟩
  ·go_enter Tryz.func192,Tryz.ntmps192
   go_wp2_with fail;refine(hC.out _ (by first|exact f|exact Zf f _)).mono ?_;rintro e w1 ⟨rfl,h⟩;simp only[Zfr,if_true];go_wp2_with fail;go_ret;exact⟨rfl,(by first|exact f.trans (h.mono f.size)|exact(Zf f _).trans (h.mono f.size))⟩
 ·have t1:decide ((8:Int)<((max n m:Nat):Int))=true:=decide_eq_true (by omega)
  have I:decide (8<max n m)=true:=decide_eq_true (by omega);have o:decide ((8:Int)<max (n:Int) (m:Int))=true:=decide_eq_true (by omega);rw[decide_eq_false h8,Bool.false_and]at hx;subst hx;go_enter Tryz.func192,Tryz.ntmps192;go_wp2_with fail;go_ret;exact⟨rfl,(by first|exact f|exact Zf f _)⟩
theorem Zw5(A:Option Addr)(n c:Nat)(es:List FX)(w:World)(h:FXL w A n c es)(b:Bool)(hb:Zeo es=b) :
    Calls Tryz.prog 150 #[.slice A n c,.func (.func 192) #[] #[]] w (IdxB w (!b)):=by
 have hl:=h.1;have Y:=h.2.1;have U:=h.2.2.1;unfold maxLen at U;replace hl:=Za hl;replace hb:=Za hb;replace h:=Za h;go_enter Tryz.func150,Tryz.ntmps150;go_wp2_with fail
 go_loopw [8] (λiv wr=>∃ i:Nat,i<=n/\iv=.int .i64 i/\Hid (∀ j e,j<i->es[j]?=some e->e.fine=true)/\Below w.heap.size w wr) (λiv _=>n-(intOf iv).toNat)
 case atStart=>exact⟨0,QG _,rfl,Za (λj e hj=>by omega),Qg _ _⟩
 case round =>
  obtain⟨i,V,rfl,y,f⟩:=hrel;by_cases hin:i<n
  case neg =>
   obtain rfl:n=i:=by omega
   have T:decide ((n:Int)<(n:Int))=false:=by simp
   obtain rfl:b=true:=by
    rw[<- hb.out];unfold Zeo;rw[List.all_eq_true];intro e he;obtain⟨j,hj,O⟩:=QB he;exact y.out j e (by rw[hl.out]at hj;exact hj) (by rw[Qd hj,O])
   go_wp2_with fail;go_ret;exact⟨-1,rfl,rfl,f⟩
  have T:decide ((i:Int)<(n:Int))=true:=decide_eq_true (by omega);obtain⟨g,o,e,rfl,he,hc,J,I⟩:=(h.out.below f).at_ hin;obtain⟨c0,c1,c2,c3⟩:=hc;obtain⟨x,hx⟩:∃ x,e.fine=x:=⟨_,rfl⟩;have hC:=Za (λW1 (hb:Below wr.heap.size wr W1)=>Zx4 e.na e.nb e.A e.B e.n e.c e.m e.d e.la e.lb W1 (J.below hb) (I.below hb) x hx);clear J I;cases x
  ·obtain rfl:b=false:=by
     rw[<- hb.out];unfold Zeo;rw[List.all_eq_false];exact⟨e,Qk he,by rw[hx];decide⟩
   replace he:=Za he;clear hx;go_wp2_with fail;refine(hC.out _ (by first|exact Qg _ _|exact Zf (Qg _ _) _)).mono ?_;rintro e' w1 ⟨rfl,u⟩;go_wp2_with fail;go_ret;exact⟨i,rfl,by simp,(by first|exact f.trans (u.mono f.size)|exact(Zf f _).trans (u.mono f.size))⟩
  ·have C:Hid (∀ j e,j<i+1->es[j]?=some e->e.fine=true):=Za (λj e' hj he'=>by
     rcases Nat.lt_or_ge j i with h'|h';exact y.out j e' h' he'
     ·obtain rfl:j=i:=by omega
      rw[he]at he';cases he';exact hx)
   replace he:=Za he;clear hx;go_wp2_with fail;refine(hC.out _ (by first|exact Qg _ _|exact Zf (Qg _ _) _)).mono ?_;rintro e' w1 ⟨rfl,u⟩;go_wp2_with fail
   go_roundw
   case rel=>exact⟨i+1,by omega,by go_num,C,(by first|exact f.trans (u.mono f.size)|exact(Zf f _).trans (u.mono f.size))⟩
   case measure=>simp[intOf];omega
theorem Zu6(A:Option Addr)(n c:Nat)(es:List FX)(w:World)(h:FXL w A n c es)(b:Bool)(hb:Zeo es=b) :
    Calls Tryz.prog 108 #[.slice A n c,.func (.func 192) #[] #[]] w λe w'=>e=.returned (.bool (!b))/\Below w.heap.size w w':=by
 go_enter Tryz.func108,Tryz.ntmps108;go_wp2_with fail;refine(Zw5 A n c es w h b hb).mono ?_;rintro e w1 ⟨i,rfl,hi,f⟩;replace hi:=Za hi;go_wp2_with fail;go_ret;exact⟨Ze7 hi.out,f⟩
theorem Zpy(A:Option Addr)(n c:Nat)(es:List FX)(w:World)(h:FXL w A n c es)(b:Bool)(hb:Zeo es=b) :
    Calls Tryz.prog 172 #[.slice A n c] w λe w'=>e=.returned (.bool b)/\Below w.heap.size w w':=by
 go_enter Tryz.func172,Tryz.ntmps172;go_wp2_with fail;refine(Zu6 A n c es w h b hb).mono ?_;rintro e w1 ⟨rfl,f⟩;go_wp2_with fail;go_ret;exact⟨by simp,f⟩
def RX.long(r:RX):Bool:=decide (12<r.n)
theorem Zuq(A:Option Addr)(n c:Nat)(w:World)(hn:n<=maxLen) :
    Calls Tryz.prog 171 #[.slice A n c] w λe w'=>e=.returned (.bool (decide (12<n)))/\Below w.heap.size w w':=by
 unfold maxLen at hn;have hd:decide ((12:Int)<(n:Int))=decide (12<n):=decide_eq_decide.2 (by omega);go_enter Tryz.func171,Tryz.ntmps171;go_wp2_with fail;go_ret;exact⟨by first|rfl|simp[hd],by first|exact Qg _ _|exact Zf (Qg _ _) _⟩
theorem FXL.nlen{w:World}{A:Option Addr}{n c:Nat}{es:List FX}(h:FXL w A n c es):n<=maxLen:=Qc h.2.1 h.2.2.1
theorem Zun(A:Option Addr)(n c:Nat)(rs:List RX)(w:World)(h:MXL w A n c rs)(b:Bool)(hb:rs.any RX.long=b) :
    Calls Tryz.prog 146 #[.slice A n c,.func (.func 171) #[] #[]] w (IdxB w b):=by
 have hl:=h.1;have U:=h.2.1;have O:=h.2.2.1;unfold maxLen at O;replace hl:=Za hl;replace hb:=Za hb;replace h:=Za h;go_enter Tryz.func146,Tryz.ntmps146;go_wp2_with fail
 go_loopw [8] (λiv wr=>∃ i:Nat,i<=n/\iv=.int .i64 i/\Hid (∀ j e,j<i->rs[j]?=some e->e.long=false)/\Below w.heap.size w wr) (λiv _=>n-(intOf iv).toNat)
 case atStart=>exact⟨0,QG _,rfl,Za (λj e hj=>by omega),Qg _ _⟩
 case round =>
  obtain⟨i,T,rfl,y,f⟩:=hrel;by_cases hin:i<n
  case neg =>
   obtain rfl:n=i:=by omega
   have J:decide ((n:Int)<(n:Int))=false:=by simp
   obtain rfl:b=false:=by
    rw[<- hb.out,List.any_eq_false];intro e he;obtain⟨j,hj,I⟩:=QB he;have:=y.out j e (by rw[hl.out]at hj;exact hj) (by rw[Qd hj,I]);rw[this];decide
   go_wp2_with fail;go_ret;exact⟨-1,rfl,rfl,f⟩
  have J:decide ((i:Int)<(n:Int))=true:=decide_eq_true (by omega);obtain⟨g,o,r,rfl,he,c0,hL⟩:=(h.out.below f).at_ hin;have hC:=Za (λW1=>Zuq r.A r.n r.c W1 hL.nlen);clear hL;by_cases hx:12<r.n
  ·obtain rfl:b=true:=by
     rw[<- hb.out,List.any_eq_true];exact⟨r,Qk he,by unfold RX.long;simpa using hx⟩
   rw[decide_eq_true hx]at hC;replace he:=Za he;go_wp2_with fail;refine(hC.out _).mono ?_;rintro e' w1 ⟨rfl,u⟩;go_wp2_with fail;go_ret;exact⟨i,rfl,by simp,(by first|exact f.trans (u.mono f.size)|exact(Zf f _).trans (u.mono f.size))⟩
  ·have C:Hid (∀ j e,j<i+1->rs[j]?=some e->e.long=false):=Za (λj e' hj he'=>by
     rcases Nat.lt_or_ge j i with h'|h';exact y.out j e' h' he'
     ·obtain rfl:j=i:=by omega
      rw[he]at he';cases he';unfold RX.long;simpa using hx)
   rw[decide_eq_false hx]at hC;replace he:=Za he;go_wp2_with fail;refine(hC.out _).mono ?_;rintro e' w1 ⟨rfl,u⟩;go_wp2_with fail
   go_roundw
   case rel=>exact⟨i+1,by omega,by go_num,C,(by first|exact f.trans (u.mono f.size)|exact(Zf f _).trans (u.mono f.size))⟩
   case measure=>simp[intOf];omega
theorem Zr3(A:Option Addr)(n c:Nat)(rs:List RX)(w:World)(h:MXL w A n c rs)(b:Bool)(hb:rs.any RX.long=b) :
    Calls Tryz.prog 105 #[.slice A n c,.func (.func 171) #[] #[]] w λe w'=>e=.returned (.bool b)/\Below w.heap.size w w':=by
 go_enter Tryz.func105,Tryz.ntmps105;go_wp2_with fail;refine(Zun A n c rs w h b hb).mono ?_;rintro e w1 ⟨i,rfl,hi,f⟩;replace hi:=Za hi;go_wp2_with fail;go_ret;exact⟨Ze7 hi.out,f⟩
