/- Predicates for the operations of a drawn region that may -/
import Derived.Deep.LoopGhost
import Derived.Test.YthappeninglakaaGreatZa07
set_option maxRecDepth 100000
set_option maxHeartbeats 2000000
set_option linter.unusedSimpArgs false
set_option linter.unusedVariables false
namespace Go.Proofs.YthappeninglakaaGreat
open Go.RowKit
open Act renaming put→Qa
open Nat renaming le_refl→Qb,le_trans→Qe,mul_le_mul→Qq,add_sub_cancel'→Qs,gcd→Qu,gcd_dvd_right→QA,le_add_right→QC,gcd_pos_of_pos_left→QF,zero_le→QH,lt_irrefl→QL,lt_or_gt_of_ne→QM,lt_succ_self→QR,div_le_self→QV,not_lt_zero→QX
open List renaming getElem?_eq_getElem→Qc,getElem?_map→Qd,getElem?_eq_none→Qf,replicate→Qg,getElem?_range→Ql,length_append→Qp,range→Qr,eq_nil_of_length_eq_zero→Qx,getElem_mem→QB,getElem?_replicate→QE,take_left→QI,mem_of_getElem?→QJ,ext_getElem?→QN,append_assoc→QO,getElem?_set→QP,length_map→QT,nil_append→QU
open Option renaming getD_some→Qh,map_some→Qk,getD_none→QD,map_none→QG
open Builtin renaming zeroCells→Qi
open And renaming intro→Qj
open Rat renaming intCast_natCast→Qm,intCast_mul→Qn,divInt→Qo,num_divInt_den→Qt,divInt_eq_div→Qv,natCast_mul→QW
open Ne renaming symm→Qw
open _root_.Array renaming toList_append→Qy,replicate→QS
open Int renaming natAbs_natCast→Qz
open World renaming cell?_of_block→QK
open Bool renaming and_eq_true→QQ
def frP(q:Rat)(v:Value)(w:World):Prop:=∃ na A n c nb B m d,v=.tuple #[.agg #[.bool na,.slice A n c,.bool nb,.slice B m d],.int .i64 0]/\Fr w na A n c nb B m d q
def frV(q:Rat)(v:Value)(w:World):Prop:=∃ na A n c nb B m d,v=.agg #[.bool na,.slice A n c,.bool nb,.slice B m d]/\Fr w na A n c nb B m d q
def nmT(z:Int)(v:Value)(w:World):Prop:=∃ A n c,v=.agg #[.bool false,.slice A n c]/\Wd w false A n c z
def isV(x v:Value)(_:World):Prop:=v=x
def Zq4(B0:Nat)(t:TypeId)(cs:Array Value)(v:Value)(w:World):Prop:=∃ g,v=.pointer (some ⟨g,0,none⟩)/\B0<=g/\Blk w g t cs
def fl1V(q:Rat)(v:Value)(w:World):Prop:=∃ A c,v=.slice A 1 c/\FL w A 1 c [q]
def fl2V(p q:Rat)(v:Value)(w:World):Prop:=∃ A c,v=.slice A 2 c/\FL w A 2 c [p,q]
def Zah:List (Nat × (Value->World->Prop))->Nat->Value->World->Prop
 | [],_=>λ_ _=>True
 | (j,P)::l,i=>if i=j then P else Zah l i
def Zel(P:Value->World->Prop):Prop:=∀ v w w',Below w.heap.size w w'->P v w->P v w'
section
variable{q:Rat}{z:Int}{x:Value}{B0:Nat}{t:TypeId}{cs:Array Value}
theorem Zo5:Zel (frP q):=λ_ _ _ hb ⟨na,A,n,c,nb,B,m,d,e,h⟩=>⟨na,A,n,c,nb,B,m,d,e,h.below hb⟩
theorem Zbc:Zel (frV q):=λ_ _ _ hb ⟨na,A,n,c,nb,B,m,d,e,h⟩=>⟨na,A,n,c,nb,B,m,d,e,h.below hb⟩
theorem Zx8:Zel (nmT z):=λ_ _ _ hb ⟨A,n,c,e,h⟩=>⟨A,n,c,e,h.below hb⟩
theorem Zxu:Zel (isV x):=λ_ _ _ _ h=>h
theorem Zcy:Zel (Zq4 B0 t cs):=λ_ _ _ hb ⟨g,e,k,h⟩=>⟨g,e,k,Ze hb h⟩
theorem Zgr:Zel (fl1V q):=λ_ _ _ hb ⟨A,c,e,h⟩=>⟨A,c,e,h.below hb⟩
theorem Zn2{p:Rat}:Zel (fl2V p q):=λ_ _ _ hb ⟨A,c,e,h⟩=>⟨A,c,e,h.below hb⟩
theorem Zdy{l:List (Nat × (Value->World->Prop))}(h:∀ p ∈ l,Zel p.2)(i:Nat):Zel (Zah l i):=by
 induction l with
 | nil=>exact λ_ _ _ _ _=>trivial
 | cons p l ih =>
  unfold Zah;by_cases e:i=p.1;rw[Gx e];exact h p List.mem_cons_self;rw[Gw e];exact ih λr hr=>h r (List.mem_cons_of_mem _ hr)
theorem Zej:∀ p ∈ ([]:List (Nat × (Value->World->Prop))),Zel p.2:=λ_ h=>by cases h
theorem Zw{p:Nat × (Value->World->Prop)}{l:List (Nat × (Value->World->Prop))}(h:Zel p.2)(k:∀ p ∈ l,Zel p.2):∀ r ∈ p::l,Zel r.2:=λr hr=>by
 rcases List.mem_cons.1 hr with rfl|h2;exact h;exact k r h2
end
attribute [local go_sem] Zi
theorem sm_addA{x y z v:Int}(hx:x.natAbs<pw 1000)(hy:y.natAbs<pw 1000)(hz:z.natAbs<pw 1000)(hv:v.natAbs<pw 1000):(x*y+z*v).natAbs<pw 4096:=by
 exact IP
theorem Z0d(a b:Rat):Qo (a.num*b.den+b.num*a.den) ((a.den:Int)*(b.den:Nat))=a+b:=by
 have ha:((a.den:Nat):Int)≠0:=by have:=a.den_pos;omega
 have hb:((b.den:Nat):Int)≠0:=by have:=b.den_pos;omega
 rw[<- Rat.divInt_add_divInt _ _ ha hb,Qt,Qt]
theorem Zun(x y:Value)(W:World):(callFunc 159 #[x,y]).run Tryz.prog W=.ok (.enter 159 #[x,y]) W:=by simp[go_sem]
theorem Add1_ok(na nb na' nb':Bool)(A B A' B':Option Addr)(n c m d n' c' m' d':Nat)(a b:Rat)(w:World)(ha:Fr w na A n c nb B m d a)(hb:Fr w na' A' n' c' nb' B' m' d' b)
    (h1:(a.num*b.den).natAbs<pw 4096) (h2:(b.num*a.den).natAbs<pw 4096) (hs:(a.num*b.den+b.num*a.den).natAbs<pw 4096) (ht:((a.den:Int)*(b.den:Nat)).natAbs<pw 4096) :
    Calls Tryz.prog 159 #[.agg #[.bool na,.slice A n c,.bool nb,.slice B m d],.agg #[.bool na',.slice A' n' c',.bool nb',.slice B' m' d']] w (Zo8 w (a.num*b.den+b.num*a.den) ((a.den:Int)*(b.den:Nat))):=by
 obtain⟨W0,Y,T,⟨q0,q1,q2,q3⟩,s0⟩:=Zfr w 41 #[.bool na,.slice A n c,.bool nb,.slice B m d] 41 #[.bool na',.slice A' n' c',.bool nb',.slice B' m' d'] 39 #[.bool false,.slice none 0 0] 39 #[.bool false,.slice none 0 0];have hmx:=Gt;have hA:=Zd (ha.below T);have hD:=Zd (hb.below T);replace hs:=Zd hs;replace ht:=Zd ht;replace h1:=Zd h1;replace h2:=Zd h2;have sz:=Zd T.size;have hB:=Zd T;clear ha hb T s0;replace q0:=Zd q0;replace q1:=Zd q1;replace q2:=Zd q2;replace q3:=Zd q3;obtain⟨a0,a1,a2,a3,-⟩:=q0.out.four;obtain⟨b0,b1,b2,b3,-⟩:=q1.out.four;replace Y:=Zd Y;go_in;go_wp2_with fail;rw[Y.out];clear Y;refine Zz [19] (λW'=>W'.cell? ⟨w.heap.size,0,none⟩=some (.bool na)/\W'.cell? ⟨w.heap.size,1,none⟩=some (.slice A n c)/\W'.cell? ⟨w.heap.size,2,none⟩=some (.bool nb)/\W'.cell? ⟨w.heap.size,3,none⟩=some (.slice B m d)/\W'.cell? ⟨w.heap.size+1,0,none⟩=some (.bool na')/\W'.cell? ⟨w.heap.size+1,1,none⟩=some (.slice A' n' c')/\W'.cell? ⟨w.heap.size+1,2,none⟩=some (.bool nb')/\W'.cell? ⟨w.heap.size+1,3,none⟩=some (.slice B' m' d')) hmx ⟨a0,a1,a2,a3,b0,b1,b2,b3⟩ (λ_=>?_);refine Zkb 8 [0,1,3,4,10,11,12,13] rfl Gi ⟨a0,a1,a2,a3,b0,b1,b2,b3⟩ ?_
 iterate 8 (refine tkA ?_;try simp only[Qa,Zg9,Zgn,Zg3,Gr,Gq,Gp])
 refine tk0 ?_;refine wpAnyL_o 2 λK hK=>?_;go_simp;refine(Zfe na nb na' nb' A B A' B' n c m d n' c' m' d' a b W0.drew hA.out hD.out h1.out).mono ?_;rintro e w1 ⟨h,nu,U,k1,u,rfl,hU⟩;replace h:=Zv h;replace hU:=Zd hU;replace q0:=Gm h q0;replace q1:=Gm h q1;replace q2:=Gm h q2;replace q3:=Gm h q3;replace hA:=Zd (hA.out.below h);replace hD:=Zd (hD.out.below h);replace hB:=Zd (hB.out.trans (h.mono sz.out));replace sz:=Zd (Qe sz.out h.size);clear a0 a1 a2 a3 b0 b1 b2 b3;obtain⟨a0,a1,a2,a3,-⟩:=q0.out.four;obtain⟨b0,b1,b2,b3,-⟩:=q1.out.four;clear h;refine hK.out _ _ (λ_=>⟨a0,a1,a2,a3,b0,b1,b2,b3⟩) ?_;clear hK K
 try simp only[Qa,Zg9,Zgn,Zg3]
 refine wpAnyL_o 5 λK hK=>?_;go_simp;refine(Zfe na' nb' na nb A' B' A B n' c' m' d' n c m d b a w1 hD.out hA.out h2.out).mono ?_;rintro e w2 ⟨y,nv,V,k2,v,rfl,hV⟩;replace hU:=Zd (hU.out.below y);replace hV:=Zd hV;replace q0:=Gm y q0;replace q1:=Gm y q1;replace q2:=Gm y q2;replace q3:=Gm y q3;replace hA:=Zd (hA.out.below y);replace hD:=Zd (hD.out.below y);replace hB:=Zd (hB.out.trans (y.mono sz.out));replace sz:=Zd (Qe sz.out y.size);clear a0 a1 a2 a3 b0 b1 b2 b3;obtain⟨a0,a1,a2,a3,-⟩:=q0.out.four;obtain⟨b0,b1,b2,b3,-⟩:=q1.out.four;clear y;refine hK.out _ _ (λ_=>⟨a0,a1,a2,a3,b0,b1,b2,b3⟩) ?_;clear hK K
 try simp only[Qa,Zg9,Zgn,Zg3]
 refine wpAnyL_o 6 λK hK=>?_;go_simp;refine(Zk9 nu nv U V k1 u k2 v _ _ w2 hU.out hV.out).mono ?_;rintro e w3 ⟨I,np,P,k,q,code,rfl,hR⟩;have hP:=Zd (hR.small hs.out);have O:=hR.code0 hs.out;subst O;clear hs hR hU hV;replace q0:=Gm I q0;replace q1:=Gm I q1;replace q2:=Gm I q2;replace q3:=Gm I q3;replace hA:=Zd (hA.out.below I);replace hD:=Zd (hD.out.below I);replace hB:=Zd (hB.out.trans (I.mono sz.out));replace sz:=Zd (Qe sz.out I.size);clear a0 a1 a2 a3 b0 b1 b2 b3;obtain⟨a0,a1,a2,a3,-⟩:=q0.out.four;obtain⟨b0,b1,b2,b3,-⟩:=q1.out.four;clear I;refine hK.out _ _ (λ_=>⟨a0,a1,a2,a3,b0,b1,b2,b3⟩) ?_;clear hK K
 try simp only[Qa,Zg9,Zgn,Zg3]
 refine Zkb 2 [7,8] rfl Gi ⟨a0,a1,a2,a3,b0,b1,b2,b3⟩ ?_
 iterate 2 (refine tkA ?_;try simp only[Qa,Zg9,Zgn,Zg3,Gr,Gq,Gp])
 refine tk0 ?_;refine wpAnyL_o 9 λK hK=>?_;go_simp;refine(Zd5 np P k q w3).mono ?_;rintro e w4 ⟨rfl,C⟩;replace hP:=Zd (hP.out.below C);replace q0:=Gm C q0;replace q1:=Gm C q1;replace q2:=Gm C q2;replace q3:=Gm C q3;replace hA:=Zd (hA.out.below C);replace hD:=Zd (hD.out.below C);replace hB:=Zd (hB.out.trans (C.mono sz.out));replace sz:=Zd (Qe sz.out C.size);clear a0 a1 a2 a3 b0 b1 b2 b3;obtain⟨a0,a1,a2,a3,-⟩:=q0.out.four;obtain⟨b0,b1,b2,b3,-⟩:=q1.out.four;clear C;refine hK.out _ _ (λ_=>⟨a0,a1,a2,a3,b0,b1,b2,b3⟩) ?_;clear hK K
 try simp only[Qa,Zg9,Zgn,Zg3]
 refine wpAnyL_o 14 λK hK=>?_;go_simp;refine(Zjd nb nb' B B' m d m' d' a.den b.den w4 hA.out.2 hD.out.2).mono ?_;rintro e w5 ⟨o,a4,P',k',q',code,rfl,hR⟩;replace hP:=Zd (hP.out.below o);have J:=Zd (hR.small ht.out);have O:=hR.code0 ht.out;subst O;clear ht hR;replace q0:=Gm o q0;replace q1:=Gm o q1;replace q2:=Gm o q2;replace q3:=Gm o q3;replace hA:=Zd (hA.out.below o);replace hD:=Zd (hD.out.below o);replace hB:=Zd (hB.out.trans (o.mono sz.out));replace sz:=Zd (Qe sz.out o.size);clear a0 a1 a2 a3 b0 b1 b2 b3;obtain⟨a0,a1,a2,a3,-⟩:=q0.out.four;obtain⟨b0,b1,b2,b3,-⟩:=q1.out.four;clear o;refine hK.out _ _ (λ_=>⟨a0,a1,a2,a3,b0,b1,b2,b3⟩) ?_;clear hK K
 try simp only[Qa,Zg9,Zgn,Zg3]
 refine Zkb 2 [15,16] rfl Gi ⟨a0,a1,a2,a3,b0,b1,b2,b3⟩ ?_
 iterate 2 (refine tkA ?_;try simp only[Qa,Zg9,Zgn,Zg3,Gr,Gq,Gp])
 refine tk0 ?_;refine wpAnyL_o 17 λK hK=>?_;go_simp;refine(Zd5 a4 P' k' q' w5).mono ?_;rintro e w6 ⟨rfl,f⟩;replace hP:=Zd (hP.out.below f);replace J:=Zd (J.out.below f);replace q0:=Gm f q0;replace q1:=Gm f q1;replace q2:=Gm f q2;replace q3:=Gm f q3;replace hA:=Zd (hA.out.below f);replace hD:=Zd (hD.out.below f);replace hB:=Zd (hB.out.trans (f.mono sz.out));replace sz:=Zd (Qe sz.out f.size);clear a0 a1 a2 a3 b0 b1 b2 b3;obtain⟨a0,a1,a2,a3,-⟩:=q0.out.four;obtain⟨b0,b1,b2,b3,-⟩:=q1.out.four;clear f;obtain⟨x0,x1,f0,f1⟩:=q2.out.two;refine hK.out _ _ (λ_=>⟨a0,a1,a2,a3,b0,b1,b2,b3⟩) ?_;clear hK K
 try simp only[Qa,Zg9,Zgn,Zg3]
 refine wpAnyL_o 18 λK hK=>?_;go_simp;obtain⟨W5,a7,a8,a5,kW,kB,s5⟩:=Zaz np P k q hB.out Gk q2.out;rw[a7];clear a7 x0 x1 f0 f1 a0 a1 a2 a3 b0 b1 b2 b3 hA hD;replace q0:=kB _ _ _ Gk q0.out;replace q1:=kB _ _ _ Gk q1.out;obtain⟨a0,a1,a2,a3,-⟩:=q0.four;obtain⟨b0,b1,b2,b3,-⟩:=q1.four;replace q3:=Zd (kB _ _ _ Gk q3.out);replace hP:=Zd (kW _ _ _ _ _ hP.out);replace J:=Zd (kW _ _ _ _ _ J.out);clear kW kB q2 hB q0 q1;obtain⟨y0,y1,g0,g1⟩:=q3.out.two;refine hK.out _ _ (λ_=>⟨a0,a1,a2,a3,b0,b1,b2,b3⟩) ?_;clear hK K
 try simp only[Qa,Zg9,Zgn,Zg3]
 refine Zy (i:=19) rfl Gi Gi (λK hK=>?_);go_simp;obtain⟨W6,a6,b4,a9,kW,kB,s6⟩:=Zaz a4 P' k' q' a8 Gk q3.out;rw[a6];clear a6 y0 y1 g0 g1 a0 a1 a2 a3 b0 b1 b2 b3;replace a5:=kB _ _ _ Gk a5;replace hP:=Zd (kW _ _ _ _ _ hP.out);replace J:=Zd (kW _ _ _ _ _ J.out);clear kW kB q3 a8;refine hK.out _ _ ?_;clear hK K
 try simp only[Qa,Zg9,Zgn,Zg3]
 refine wpAnyL_fin ?_;obtain⟨r0,r1,-⟩:=a5.two;obtain⟨r2,r3,-⟩:=a9.two;go_wp2_with fail;refine bodyPost_ret (v:=.tuple #[.agg #[.bool np,.slice P k q],.agg #[.bool a4,.slice P' k' q']]) (by simp[results,Tryz.results159,go_sem,r0,r1,r2,r3]) rfl ?_;exact⟨b4,_,_,_,_,_,_,_,_,rfl,hP.out,J.out⟩
theorem fAdd_ok(na nb na' nb':Bool)(A B A' B':Option Addr)(n c m d n' c' m' d':Nat)(a b:Rat)(w:World)(ha:Fr w na A n c nb B m d a)(hb:Fr w na' A' n' c' nb' B' m' d' b)(sa:Sm a)(sb:Sm b) :
    Calls Tryz.prog 115 #[.agg #[.bool na,.slice A n c,.bool nb,.slice B m d],.agg #[.bool na',.slice A' n' c',.bool nb',.slice B' m' d']] w (Zev w (a+b)):=by
 obtain⟨W0,u,f,⟨q0,q1,q2⟩,s0⟩:=Zb2 w 41 #[.bool na,.slice A n c,.bool nb,.slice B m d] 41 #[.bool na',.slice A' n' c',.bool nb',.slice B' m' d'] 41 #[.bool false,.slice none 0 0,.bool false,.slice none 0 0];have hA:=Zd (ha.below f);have hD:=Zd (hb.below f);have hF:=λ(W:World) (h1:Fr W na A n c nb B m d a) (h2:Fr W na' A' n' c' nb' B' m' d' b)=>Add1_ok na nb na' nb' A B A' B' n c m d n' c' m' d' a b W h1 h2 (Zbm sa.1 sb.dn) (Zbm sb.1 sa.dn) (sm_addA sa.1 sb.dn sb.1 sa.dn) (Zbm sa.dn sb.dn);have hG:=Zd (Zqj 159 na nb na' nb' A B A' B' n c m d n' c' m' d' a b _ _ W0 hA.out hD.out (Zcj a b) Zun hF);rw[Z0d]at hG;clear hF ha hb sa sb hA hD;obtain⟨a0,a1,a2,a3,-⟩:=q0.four;obtain⟨b0,b1,b2,b3,-⟩:=q1.four;replace q2:=Zd q2;clear q0 q1;go_in;go_wp2_with fail;refine hG.out.mono ?_;rintro e w1 ⟨h,nx,Ax,kx,cx,ny,Ay,ky,cy,rfl,hX⟩;have o:Below w.heap.size w w1:=Gs f h;have s1:W0.heap.size<=w1.heap.size:=h.size;replace q2:=Gm h q2;replace hX:=Zd hX;clear h a0 a1 a2 a3 b0 b1 b2 b3 f hG u;obtain⟨Y,U,V,T,O,C,J,I⟩:=q2.out.four;go_wp2_with fail;obtain⟨W5,y,aJ,q2,kW,-,s5⟩:=Z5 nx Ax kx cx ny Ay ky cy o Gk q2.out;rw[y];obtain⟨r0,r1,r2,r3,-⟩:=q2.four;refine bodyPost_ret (v:=.tuple #[.agg #[.bool nx,.slice Ax kx cx,.bool ny,.slice Ay ky cy],.int .i64 0]) (by simp[results,Tryz.results115,go_sem,r0,r1,r2,r3]) rfl ?_;exact FW
theorem El{G:Prop}(h:G:=by
 have ab:Blk (w.setCell ⟨g,0,none⟩ (.bool na)) g t #[.bool na,.slice A0 n0 c0,.bool b0,.slice B0 m0 d0]:=hb.set_ 0 (.bool na);have aa:Blk ((w.setCell ⟨g,0,none⟩ (.bool na)).setCell ⟨g,1,none⟩ (.slice A n c)) g t #[.bool na,.slice A n c,.bool b0,.slice B0 m0 d0]:=ab.set_ 1 (.slice A n c);have ah:Blk (((w.setCell ⟨g,0,none⟩ (.bool na)).setCell ⟨g,1,none⟩ (.slice A n c)).setCell ⟨g,2,none⟩ (.bool nb)) g t #[.bool na,.slice A n c,.bool nb,.slice B0 m0 d0]:=aa.set_ 2 (.bool nb);have cK:Blk ((((w.setCell ⟨g,0,none⟩ (.bool na)).setCell ⟨g,1,none⟩ (.slice A n c)).setCell ⟨g,2,none⟩ (.bool nb)).setCell ⟨g,3,none⟩ (.slice B m d)) g t #[.bool na,.slice A n c,.bool nb,.slice B m d]:=ah.set_ 3 (.slice B m d);have k0:Kept (λk=>k=g) w w:=Kept.refl _ _;exact⟨_,rfl,cK,(((k0.set_ (p:=⟨g,0,none⟩) (.inl rfl) _).set_ (p:=⟨g,1,none⟩) (.inl rfl) _).set_ (p:=⟨g,2,none⟩) (.inl rfl) _).set_ (p:=⟨g,3,none⟩) (.inl rfl) _,by simp⟩):G:=h
theorem Za2{t:TypeId}{w:World}{g:Nat}{a0:Bool}{A0:Option Addr}{n0 c0:Nat}{b0:Bool}{B0:Option Addr}{m0 d0:Nat}(na:Bool)(A:Option Addr)(n c:Nat)(nb:Bool)(B:Option Addr)(m d:Nat)(hb:Blk w g t #[.bool a0,.slice A0 n0 c0,.bool b0,.slice B0 m0 d0]) :
    ∃ W,(((w.setCell ⟨g,0,none⟩ (.bool na)).setCell ⟨g,1,none⟩ (.slice A n c)).setCell ⟨g,2,none⟩ (.bool nb)).setCell ⟨g,3,none⟩ (.slice B m d)=W/\Blk W g t #[.bool na,.slice A n c,.bool nb,.slice B m d]/\Kept (λk=>k=g) w W/\W.heap.size=w.heap.size:=by
 exact El
theorem Fr.keptN{w w':World}{na:Bool}{A:Option Addr}{n c:Nat}{nb:Bool}{B:Option Addr}{m d:Nat}{r:Rat}{g:Nat}{t:TypeId}{cs:Array Value}(h:Fr w na A n c nb B m d r)(hk:Kept (λk=>k=g) w w')(hb:Blk w g t cs)(hn:NoLimb cs):Fr w' na A n c nb B m d r:=
 ⟨hk.wd h.1 (λk e=>by cases e;exact⟨_,_,hb,hn⟩),hk.wd h.2 (λk e=>by cases e;exact⟨_,_,hb,hn⟩)⟩
theorem Zbf(a:Bool)(A:Option Addr)(n c:Nat)(b:Bool)(B:Option Addr)(m d:Nat):NoLimb #[.bool a,.slice A n c,.bool b,.slice B m d]:=λi x=>by
 match i with
 | 0=>simp
 | 1=>simp
 | 2=>simp
 | 3=>simp
 | i+4=>simp
theorem Zb4(x:Int)(w:World) :
    Calls Tryz.prog 40 #[.bool true,.int .i64 x] w λe w'=>e=.returned (.tuple #[])/\w'=w:=by
 go_in;go_wp2_with fail
 go_end0
 exact⟨rfl,rfl⟩
theorem Zax(x:Int)(w:World) :
    Calls Tryz.prog 40 #[.bool false,.int .i64 x] w λe w'=>e=.panicked [{ v:=.iface 117 (.agg #[.int .i64 x]),recovered:=false }]/\w'=w:=by
 go_in;go_wp2_with fail;exact⟨rfl,rfl,rfl⟩
theorem Zeu(p:Addr)(w:World) :
    CallsD Tryz.prog 39 #[.pointer (some p)] .returning w λe u' w'=>e=.returned (.tuple #[])/\u'=.returning/\w'=w:=by
 refine callsD_of_wpS Tryz.func39 rfl λc₀ cs hu=>?_;apply wpS_seq;apply wpS_region;simp[wpOpsS,go_sem,recoverD,hu,Tryz.ntmps39,Exit.thenS];rw[show (#[Value.pointer (some p)]++(QS 14 undef).setIfInBounds 4 Value.nilIface)=#[Value.pointer (some p),undef,undef,undef,undef,Value.nilIface,undef,undef,undef,undef,undef,undef,undef,undef,undef] from rfl];refine wpS_of_wp ?_;go_wp2_with fail;cases c₀
 simp_all [bodyPostS,results,Tryz.results39]
theorem Z0h(x:Int)(w:World):(Instr.typeAssert (.iface 117 (.agg #[.int .i64 x])) 20 117 true).run Tryz.prog w=.ok (.tuple #[.agg #[.int .i64 x],.bool true]) w:=by kernel_rfl
theorem Za4(p:Addr)(x y:Int)(w:World)(hc:w.cell? p=some (.int .i64 y))(hz:w.frozen? p=false) :
    CallsD Tryz.prog 39 #[.pointer (some p)] (.panicking [{ v:=.iface 117 (.agg #[.int .i64 x]),recovered:=false }]) w λe u' w' =>
     e=.returned (.tuple #[])/\u'=.panicking [{ v:=.iface 117 (.agg #[.int .i64 x]),recovered:=true }]/\w'=(w.alloc (.cells #[.int .i64 x] 117)).setCell p (.int .i64 x):=by
 have f:=Zp hc;have o:(w.alloc (.cells #[.int .i64 x] 117)).cell? p=some (.int .i64 y):=by rw[World.cell?_alloc_lt _ _ _ f];exact hc
 have h:(w.alloc (.cells #[.int .i64 x] 117)).frozen? p=false:=by exact((Below.refl w.heap.size w).alloc (Qb _) _ |>.frozen f).trans hz
 have u:=Z0h x;refine callsD_of_wpS Tryz.func39 rfl λc₀ cs hu=>?_;apply wpS_seq;apply wpS_region;simp[wpOpsS,go_sem,recoverD,hu,Tryz.ntmps39,Exit.thenS];rw[show (#[Value.pointer (some p)]++(QS 14 undef).setIfInBounds 4 (Value.iface 117 (.agg #[.int .i64 x])))=#[Value.pointer (some p),undef,undef,undef,undef,Value.iface 117 (.agg #[.int .i64 x]),undef,undef,undef,undef,undef,undef,undef,undef,undef] from rfl];refine wpS_of_wp ?_;go_wp2_with fail;simp[bodyPostS,results,Tryz.results39]
theorem Zf8(na nb:Bool)(A B:Option Addr)(n c m d:Nat)(q:Rat)(w:World)(h:Fr w na A n c nb B m d q) :
    Calls Tryz.prog 84 #[.agg #[.bool na,.slice A n c,.bool nb,.slice B m d],.int .i64 0] w (Zdp w q):=by
 obtain⟨W0,y,o,⟨q0,q1⟩,s0⟩:=Zda w 41 #[.bool na,.slice A n c,.bool nb,.slice B m d] 73 #[.bool false,.slice none 0 0,.bool false,.slice none 0 0];obtain⟨a0,a1,a2,a3,-⟩:=q0.four;obtain⟨gR,u⟩:=Gz (w.heap.size+1);rw[u]at q1;have h0:=h.below o;go_in;go_wp2_with fail;(try rw[y]);refine(Zb4 0 W0).mono ?_;rintro e w1 ⟨rfl,rfl⟩;(try rw[u]);obtain⟨c0,c1,c2,c3,z0,z1,z2,z3⟩:=q1.four;obtain⟨W5,C,q5,f,s5⟩:=Za2 na A n c nb B m d q1;go_wp2_with fail;(try rw[C]);obtain⟨r0,r1,r2,r3,-⟩:=q5.four;refine bodyPost_ret (v:=.agg #[.bool na,.slice A n c,.bool nb,.slice B m d]) (by simp[results,Tryz.results84,go_sem,r0,r1,r2,r3]) rfl ?_;refine⟨?_,_,_,_,_,_,_,_,_,rfl,h0.keptN f q1 (Zbf _ _ _ _ _ _ _ _)⟩;exact o.trans (f.to_below (λk e=>by omega) Gk)
theorem Fe{G:Prop}(h:G:=by
 have av:=aq.trans ((Gs ab aa).mono aq.size);exact av.trans (aK.to_below (λk e=>by omega) av.size)):G:=h
theorem CA{G:Prop}(h:G:=by
 refine⟨?_,_,_,_,_,_,_,_,_,rfl,hr.keptN aK q2 (Zbf _ _ _ _ _ _ _ _)⟩;exact Fe):G:=h
theorem Ze3(na nb na' nb':Bool)(A B A' B':Option Addr)(n c m d n' c' m' d':Nat)(a b:Rat)(w:World)(ha:Fr w na A n c nb B m d a)(hb:Fr w na' A' n' c' nb' B' m' d' b)(sa:Sm a)(sb:Sm b) :
    Calls Tryz.prog 71 #[.agg #[.bool na,.slice A n c,.bool nb,.slice B m d],.agg #[.bool na',.slice A' n' c',.bool nb',.slice B' m' d']] w (Zdp w (a-b)):=by
 obtain⟨W0,h,aq,⟨q0,q1,q2⟩,s0⟩:=Zb2 w 73 #[.bool na,.slice A n c,.bool nb,.slice B m d] 73 #[.bool na',.slice A' n' c',.bool nb',.slice B' m' d'] 73 #[.bool false,.slice none 0 0,.bool false,.slice none 0 0];obtain⟨a0,a1,a2,a3,-⟩:=q0.four;obtain⟨b0,b1,b2,b3,-⟩:=q1.four;obtain⟨gR,f⟩:=Gz (w.heap.size+1+1);rw[f]at q2;have hA:=ha.below aq;have hD:=hb.below aq;go_in;go_wp2_with fail;(try rw[h]);refine(Zws na nb na' nb' A B A' B' n c m d n' c' m' d' a b W0 hA hD sa sb).mono ?_;rintro e w1 ⟨ab,pn,pA,pk,pc,pm,pB,pj,pd,rfl,hf⟩;replace q2:=Ze ab q2;clear a0 a1 a2 a3 b0 b1 b2 b3 q0 q1 hA hD;go_wp2_with fail;refine(Zf8 pn pm pA pB pk pc pj pd _ w1 hf).mono ?_;rintro e w2 ⟨aa,rn,rA,rk,rc,rm,rB,rj,rd,rfl,hr⟩;replace q2:=Ze aa q2;(try rw[f]);obtain⟨c0,c1,c2,c3,z0,z1,z2,z3⟩:=q2.four;obtain⟨W5,o,q5,aK,s5⟩:=Za2 rn rA rk rc rm rB rj rd q2;clear hf;go_wp2_with fail;(try rw[o]);obtain⟨r0,r1,r2,r3,-⟩:=q5.four;refine bodyPost_ret (v:=.agg #[.bool rn,.slice rA rk rc,.bool rm,.slice rB rj rd]) (by simp[results,Tryz.results71,go_sem,r0,r1,r2,r3]) rfl ?_;exact CA
def okF(na:Bool)(la:List Nat)(nb:Bool)(lb:List Nat):Bool:=okW na la && okW nb lb && !nb && decide (0<lb.length) && decide (Qu (val la) (val lb)=1)
def qOf(na:Bool)(la lb:List Nat):Rat:=Qo (sg na (val la)) (val lb:Nat)
theorem Zqy{w:World}{na nb:Bool}{A B:Option Addr}{n c m d:Nat}{la lb:List Nat}(ha:Lim w A n c la)(hb:Lim w B m d lb)(hk:okF na la nb lb=true):Fr w na A n c nb B m d (qOf na la lb):=by
 simp only[okF,QQ,Bool.not_eq_true',decide_eq_true_eq]at hk;obtain⟨⟨⟨⟨k1,k2⟩,rfl⟩,k4⟩,k5⟩:=hk;have h2:=(Zjx hb.lt).1 k2;have e2:(sg false (val lb)).natAbs=val lb:=Zaa _ _;rw[e2]at h2
 have hp:0<val lb:=by
  rw[h2.2.2]at k4;exact length_digits_pos.1 k4
 have hl:Low (sg na (val la)) (val lb:Nat):=⟨by omega,by rw[Zaa,Qz];exact k5⟩;obtain⟨r1,r2⟩:=rat_low hl;have w1:=Wd.of_ok ha k1;have w2:=Wd.of_ok hb k2;have e3:sg false (val lb)=(val lb:Nat):=rfl;rw[e3]at w2;refine⟨?_,?_⟩;unfold qOf;rw[r1];exact w1;unfold qOf;rw[r2];exact w2
theorem Zr4(na nb:Bool)(A B:Option Addr)(n c m d:Nat)(la lb:List Nat)(w:World)(ha:Lim w A n c la)(hb:Lim w B m d lb)(hbad:(okW na la && okW nb lb)=false) :
    Calls Tryz.prog 110 #[.agg #[.bool na,.slice A n c,.bool nb,.slice B m d]] w λe w'=>e=.returned (.int .i64 8)/\Below w.heap.size w w':=by
 have hmx:=Gt;obtain⟨W0,u,h,q0,s0⟩:=Zao w 41 #[.bool na,.slice A n c,.bool nb,.slice B m d];have hA:=Zd (ha.below h);have hD:=Zd (hb.below h);clear ha hb;obtain⟨a0,a1,a2,a3,-⟩:=q0.four;replace q0:=Zd q0;go_in;go_wp2_with fail;refine(Gcd_bad na nb A B n c m d la lb W0 hA.out hD.out hbad).mono ?_;rintro e w1 ⟨rfl,o⟩;have f:Below w.heap.size w w1:=Gs h o;clear u a0 a1 a2 a3 o;obtain⟨W4,C,y,q4,kW,kB,s4⟩:=Zq 39 #[.bool false,.slice none 0 0] f f.size;obtain⟨g0,g1,f0,f1⟩:=q4.two;go_wp2_with fail;refine Zz [] (λwx=>True) hmx trivial (λ_=>?_);refine wpAnyL_o 0 λK hK=>?_;go_simp;refine hK.out _ _ (λ_=>trivial) ?_;clear hK K
 try simp only[Qa,Zg9,Zgn,Zg3]
 refine wpAnyL_o 1 λK hK=>?_;go_simp;refine hK.out _ _ (λ_=>trivial) ?_;clear hK K
 try simp only[Qa,Zg9,Zgn,Zg3]
 refine wpAnyL_o 2 λK hK=>?_;go_simp;refine hK.out _ _ (λ_=>trivial) ?_;clear hK K
 try simp only[Qa,Zg9,Zgn,Zg3]
 refine wpAnyL_o 3 λK hK=>?_;go_simp;refine hK.out _ _ (λ_=>trivial) ?_;clear hK K
 try simp only[Qa,Zg9,Zgn,Zg3]
 refine wpAnyL_o 4 λK hK=>?_;go_simp;refine hK.out _ _ (λ_=>trivial) ?_;clear hK K
 try simp only[Qa,Zg9,Zgn,Zg3]
 refine wpAnyL_o 5 λK hK=>?_;go_simp;refine hK.out _ _ (λ_=>trivial) ?_;clear hK K
 try simp only[Qa,Zg9,Zgn,Zg3]
 refine wpAnyL_o 6 λK hK=>?_;go_simp;refine hK.out _ _ (λ_=>trivial) ?_;clear hK K
 try simp only[Qa,Zg9,Zgn,Zg3]
 refine wpAnyL_o 7 λK hK=>?_;go_simp;refine hK.out _ _ (λ_=>trivial) ?_;clear hK K
 try simp only[Qa,Zg9,Zgn,Zg3]
 refine wpAnyL_o 8 λK hK=>?_;go_simp;refine hK.out _ _ (λ_=>trivial) ?_;clear hK K
 try simp only[Qa,Zg9,Zgn,Zg3]
 refine wpAnyL_o 9 λK hK=>?_;go_simp;refine hK.out _ _ (λ_=>trivial) ?_;clear hK K
 try simp only[Qa,Zg9,Zgn,Zg3]
 refine wpAnyL_o 10 λK hK=>?_;go_simp;refine hK.out _ _ (λ_=>trivial) ?_;clear hK K
 try simp only[Qa,Zg9,Zgn,Zg3]
 refine wpAnyL_o 11 λK hK=>?_;go_simp;refine hK.out _ _ (λ_=>trivial) ?_;clear hK K
 try simp only[Qa,Zg9,Zgn,Zg3]
 refine wpAnyL_o 12 λK hK=>?_;go_simp;refine hK.out _ _ (λ_=>trivial) ?_;clear hK K
 try simp only[Qa,Zg9,Zgn,Zg3]
 refine Zf (i:=13) (v:=undef) rfl Gi Gi Gi Gi Gi (Or.inr ⟨by rfl,rfl⟩) trivial ?_
 try simp only[Qa,Zg9,Zgn,Zg3]
 refine wpAnyL_o 14 λK hK=>?_;go_simp;refine hK.out _ _ (λ_=>trivial) ?_;clear hK K
 try simp only[Qa,Zg9,Zgn,Zg3]
 refine wpAnyL_o 15 λK hK=>?_;go_simp;refine hK.out _ _ (λ_=>trivial) ?_;clear hK K
 try simp only[Qa,Zg9,Zgn,Zg3]
 refine wpAnyL_o 16 λK hK=>?_;go_simp;refine hK.out _ _ (λ_=>trivial) ?_;clear hK K
 try simp only[Qa,Zg9,Zgn,Zg3]
 refine wpAnyL_o 17 λK hK=>?_;go_simp;refine hK.out _ _ (λ_=>trivial) ?_;clear hK K
 try simp only[Qa,Zg9,Zgn,Zg3]
 refine wpAnyL_fin ?_;go_wp2_with fail;go_ret;exact⟨rfl,Zh ((y.setCell (p:=⟨w1.heap.size,0,none⟩) f.size (.bool false)).setCell (p:=⟨w1.heap.size,1,none⟩) f.size (.slice none 0 0)) 1⟩
theorem Zrx(na:Bool)(A B:Option Addr)(n c m d:Nat)(za zb:Int)(w:World)(ha:Wd w na A n c za)(hb:Wd w true B m d zb) :
    Calls Tryz.prog 110 #[.agg #[.bool na,.slice A n c,.bool true,.slice B m d]] w λe w'=>e=.returned (.int .i64 8)/\Below w.heap.size w w':=by
 have hmx:=Gt;have O:Qu za.natAbs zb.natAbs<pw 4096:=Zd0 ha.small hb.small;obtain⟨W0,y,f,q0,s0⟩:=Zao w 41 #[.bool na,.slice A n c,.bool true,.slice B m d];have hA:=Zd (ha.below f);have hD:=Zd (hb.below f);clear ha hb;obtain⟨a0,a1,a2,a3,-⟩:=q0.four;go_in;go_wp2_with fail;refine(Zk2 na true A B n c m d za zb W0 hA.out hD.out).mono ?_;rintro e w1 ⟨h,ng,Ag,kg,cg,code,rfl,hR⟩;rcases hR with ⟨-,rfl,I⟩|⟨u,-⟩
 case inr=>exact absurd u Gk
 have o:Below w.heap.size w w1:=Gs f h;replace q0:=Ze h q0;clear y a0 a1 a2 a3 h;obtain⟨W4,J,C,q4,kW,kB,s4⟩:=Zq 39 #[.bool ng,.slice Ag kg cg] o o.size;replace q0:=kB _ _ _ q0;obtain⟨g0,g1,f0,f1⟩:=q4.two;obtain⟨a0,a1,a2,a3,-⟩:=q0.four;go_wp2_with fail;refine Zz [] (λwx=>wx.cell? ⟨w.heap.size,2,none⟩=some (.bool true)) hmx a2 (λ_=>?_);refine wpAnyL_o 0 λK hK=>?_;go_simp;refine hK.out _ _ (λ_=>a2) ?_;clear hK K
 try simp only[Qa,Zg9,Zgn,Zg3]
 refine wpAnyL_o 1 λK hK=>?_;go_simp;refine hK.out _ _ (λ_=>a2) ?_;clear hK K
 try simp only[Qa,Zg9,Zgn,Zg3]
 refine wpAnyL_o 2 λK hK=>?_;go_simp;refine hK.out _ _ (λ_=>a2) ?_;clear hK K
 try simp only[Qa,Zg9,Zgn,Zg3]
 refine wpAnyL_o 3 λK hK=>?_;go_simp;refine hK.out _ _ (λ_=>a2) ?_;clear hK K
 try simp only[Qa,Zg9,Zgn,Zg3]
 refine wpAnyL_o 4 λK hK=>?_;go_simp;refine hK.out _ _ (λ_=>a2) ?_;clear hK K
 try simp only[Qa,Zg9,Zgn,Zg3]
 refine wpAnyL_o 5 λK hK=>?_;go_simp;refine hK.out _ _ (λ_=>a2) ?_;clear hK K
 try simp only[Qa,Zg9,Zgn,Zg3]
 refine wpAnyL_o 6 λK hK=>?_;go_simp;refine hK.out _ _ (λ_=>a2) ?_;clear hK K
 try simp only[Qa,Zg9,Zgn,Zg3]
 refine wpAnyL_o 7 λK hK=>?_;go_simp;refine hK.out _ _ (λ_=>a2) ?_;clear hK K
 try simp only[Qa,Zg9,Zgn,Zg3]
 refine wpAnyL_o 8 λK hK=>?_;go_simp;refine hK.out _ _ (λ_=>a2) ?_;clear hK K
 try simp only[Qa,Zg9,Zgn,Zg3]
 refine wpAnyL_o 9 λK hK=>?_;go_simp;refine hK.out _ _ (λ_=>a2) ?_;clear hK K
 try simp only[Qa,Zg9,Zgn,Zg3]
 refine wpAnyL_o 10 λK hK=>?_;go_simp;refine hK.out _ _ (λ_=>a2) ?_;clear hK K
 try simp only[Qa,Zg9,Zgn,Zg3]
 refine wpAnyL_o 11 λK hK=>?_;go_simp;refine hK.out _ _ (λ_=>a2) ?_;clear hK K
 try simp only[Qa,Zg9,Zgn,Zg3]
 refine wpAnyL_o 12 λK hK=>?_;go_simp;refine hK.out _ _ (λ_=>a2) ?_;clear hK K
 try simp only[Qa,Zg9,Zgn,Zg3]
 refine Zf (i:=13) (v:=undef) rfl Gi Gi Gi Gi Gi (Or.inr ⟨by rfl,rfl⟩) a2 ?_
 try simp only[Qa,Zg9,Zgn,Zg3]
 refine wpAnyL_o 14 λK hK=>?_;go_simp;refine hK.out _ _ (λ_=>a2) ?_;clear hK K
 try simp only[Qa,Zg9,Zgn,Zg3]
 refine wpAnyL_o 15 λK hK=>?_;go_simp;refine hK.out _ _ (λ_=>a2) ?_;clear hK K
 try simp only[Qa,Zg9,Zgn,Zg3]
 refine wpAnyL_o 16 λK hK=>?_;go_simp;refine hK.out _ _ (λ_=>a2) ?_;clear hK K
 try simp only[Qa,Zg9,Zgn,Zg3]
 refine wpAnyL_o 17 λK hK=>?_;go_simp;refine hK.out _ _ (λ_=>a2) ?_;clear hK K
 try simp only[Qa,Zg9,Zgn,Zg3]
 refine wpAnyL_fin ?_;go_wp2_with fail;go_ret;exact⟨rfl,Zh C 1⟩
theorem Zrv(na:Bool)(A B:Option Addr)(n c d:Nat)(za:Int)(w:World)(ha:Wd w na A n c za)(hb:Wd w false B 0 d 0) :
    Calls Tryz.prog 110 #[.agg #[.bool na,.slice A n c,.bool false,.slice B 0 d]] w λe w'=>e=.returned (.int .i64 8)/\Below w.heap.size w w':=by
 have hmx:=Gt;have U:Qu za.natAbs (Int.natAbs 0)<pw 4096:=Zd0 ha.small hb.small;obtain⟨W0,I,h,q0,s0⟩:=Zao w 41 #[.bool na,.slice A n c,.bool false,.slice B 0 d];have hA:=Zd (ha.below h);have hD:=Zd (hb.below h);clear ha hb;obtain⟨a0,a1,a2,a3,-⟩:=q0.four;go_in;go_wp2_with fail;refine(Zk2 na false A B n c 0 d za 0 W0 hA.out hD.out).mono ?_;rintro e w1 ⟨o,ng,Ag,kg,cg,code,rfl,hR⟩;rcases hR with ⟨-,rfl,O⟩|⟨C,-⟩
 case inr=>exact absurd C Gk
 have u:Below w.heap.size w w1:=Gs h o;replace q0:=Ze o q0;clear I a0 a1 a2 a3 o;obtain⟨W4,T,y,q4,kW,kB,s4⟩:=Zq 39 #[.bool ng,.slice Ag kg cg] u u.size;replace q0:=kB _ _ _ q0;obtain⟨g0,g1,f0,f1⟩:=q4.two;obtain⟨a0,a1,a2,a3,-⟩:=q0.four;go_wp2_with fail;refine Zz [] (λwx=>wx.cell? ⟨w.heap.size,2,none⟩=some (.bool false)/\wx.cell? ⟨w.heap.size,3,none⟩=some (.slice B 0 d)) hmx ⟨a2,a3⟩ (λ_=>?_);refine wpAnyL_o 0 λK hK=>?_;go_simp;refine hK.out _ _ (λ_=>⟨a2,a3⟩) ?_;clear hK K
 try simp only[Qa,Zg9,Zgn,Zg3]
 refine wpAnyL_o 1 λK hK=>?_;go_simp;refine hK.out _ _ (λ_=>⟨a2,a3⟩) ?_;clear hK K
 try simp only[Qa,Zg9,Zgn,Zg3]
 refine wpAnyL_o 2 λK hK=>?_;go_simp;refine hK.out _ _ (λ_=>⟨a2,a3⟩) ?_;clear hK K
 try simp only[Qa,Zg9,Zgn,Zg3]
 refine wpAnyL_o 3 λK hK=>?_;go_simp;refine hK.out _ _ (λ_=>⟨a2,a3⟩) ?_;clear hK K
 try simp only[Qa,Zg9,Zgn,Zg3]
 refine wpAnyL_o 4 λK hK=>?_;go_simp;refine hK.out _ _ (λ_=>⟨a2,a3⟩) ?_;clear hK K
 try simp only[Qa,Zg9,Zgn,Zg3]
 refine wpAnyL_o 5 λK hK=>?_;go_simp;refine hK.out _ _ (λ_=>⟨a2,a3⟩) ?_;clear hK K
 try simp only[Qa,Zg9,Zgn,Zg3]
 refine wpAnyL_o 6 λK hK=>?_;go_simp;refine hK.out _ _ (λ_=>⟨a2,a3⟩) ?_;clear hK K
 try simp only[Qa,Zg9,Zgn,Zg3]
 refine wpAnyL_o 7 λK hK=>?_;go_simp;refine hK.out _ _ (λ_=>⟨a2,a3⟩) ?_;clear hK K
 try simp only[Qa,Zg9,Zgn,Zg3]
 refine wpAnyL_o 8 λK hK=>?_;go_simp;refine hK.out _ _ (λ_=>⟨a2,a3⟩) ?_;clear hK K
 try simp only[Qa,Zg9,Zgn,Zg3]
 refine wpAnyL_o 9 λK hK=>?_;go_simp;refine hK.out _ _ (λ_=>⟨a2,a3⟩) ?_;clear hK K
 try simp only[Qa,Zg9,Zgn,Zg3]
 refine wpAnyL_o 10 λK hK=>?_;go_simp;refine(Zkc _ _ _ _ _ Gk true rfl).mono ?_;rintro e w3 ⟨rfl,J⟩;have f:=Zv J;have k2:=Zc f a2;have k3:=Zc f a3;refine hK.out _ _ (λ_=>⟨k2,k3⟩) ?_;clear hK K
 try simp only[Qa,Zg9,Zgn,Zg3]
 refine wpAnyL_o 11 λK hK=>?_;go_simp;refine hK.out _ _ (λ_=>⟨k2,k3⟩) ?_;clear hK K
 try simp only[Qa,Zg9,Zgn,Zg3]
 refine wpAnyL_o 12 λK hK=>?_;go_simp;refine hK.out _ _ (λ_=>⟨k2,k3⟩) ?_;clear hK K
 try simp only[Qa,Zg9,Zgn,Zg3]
 refine Zf (i:=13) (v:=undef) rfl Gi Gi Gi Gi Gi (Or.inr ⟨by rfl,rfl⟩) ⟨k2,k3⟩ ?_
 try simp only[Qa,Zg9,Zgn,Zg3]
 refine wpAnyL_o 14 λK hK=>?_;go_simp;refine hK.out _ _ (λ_=>⟨k2,k3⟩) ?_;clear hK K
 try simp only[Qa,Zg9,Zgn,Zg3]
 refine wpAnyL_o 15 λK hK=>?_;go_simp;refine hK.out _ _ (λ_=>⟨k2,k3⟩) ?_;clear hK K
 try simp only[Qa,Zg9,Zgn,Zg3]
 refine wpAnyL_o 16 λK hK=>?_;go_simp;refine hK.out _ _ (λ_=>⟨k2,k3⟩) ?_;clear hK K
 try simp only[Qa,Zg9,Zgn,Zg3]
 refine wpAnyL_o 17 λK hK=>?_;go_simp;refine hK.out _ _ (λ_=>⟨k2,k3⟩) ?_;clear hK K
 try simp only[Qa,Zg9,Zgn,Zg3]
 refine wpAnyL_fin ?_;go_wp2_with fail;go_ret;exact⟨rfl,Gs y f⟩
theorem Zmj(na nb:Bool)(A B:Option Addr)(n c m d:Nat)(la lb:List Nat)(w:World)(ha:Lim w A n c la)(hb:Lim w B m d lb)(x:Bool)(hx:okF na la nb lb=x) :
    Calls Tryz.prog 110 #[.agg #[.bool na,.slice A n c,.bool nb,.slice B m d]] w λe w'=>e=.returned (.int .i64 (Zfq x))/\Below w.heap.size w w':=by
 cases x
 ·simp only[okF,Bool.and_eq_false_iff,Bool.not_eq_false',decide_eq_false_iff_not]at hx
  by_cases h1:(okW na la && okW nb lb)=true
  ·have h:=h1
   rw[QQ]at h1;have hA:=Wd.of_ok ha h1.1;have hD:=Wd.of_ok hb h1.2;cases nb
   ·by_cases hz:0<lb.length
    ·have e3:sg false (val lb)=(val lb:Nat):=rfl
     rw[e3]at hD;have h2:=(Zjx hb.lt).1 h1.2;have e2:(sg false (val lb)).natAbs=val lb:=Zaa _ _;rw[e2]at h2
     have hp:0<val lb:=by
      rw[h2.2.2]at hz;exact length_digits_pos.1 hz
     refine Zmh na A B n c m d _ _ w hA hD Gk false ?_;rw[Zaa,Qz];rcases hx with (((hx|hx)|hx)|hx)|hx;rw[h1.1]at hx;cases hx;rw[h1.2]at hx;cases hx;cases hx;omega;simp;omega
    have f:lb=[]:=Qx Gk;subst f;have hm:m=0:=hb.len.symm;subst hm;exact Zrv na A B n c d _ w hA hD
   exact Zrx na A B n c m d _ _ w hA hD
  exact Zr4 na nb A B n c m d la lb w ha hb (by simpa using h1)
 exact Zek na nb A B n c m d _ w (Zqy ha hb hx)
structure FX where
 na:Bool
 A:Option Addr
 n:Nat
 c:Nat
 la:List Nat
 nb:Bool
 B:Option Addr
 m:Nat
 d:Nat
 lb:List Nat
def FX.in_(w:World)(e:FX):Prop:=Lim w e.A e.n e.c e.la/\Lim w e.B e.m e.d e.lb
def FX.ok(e:FX):Bool:=okF e.na e.la e.nb e.lb
def FX.q(e:FX):Rat:=qOf e.na e.la e.lb
def FX.few(e:FX):Nat:=max e.n e.m
def At4(w:World)(g o:Nat)(na:Bool)(A:Option Addr)(n c:Nat)(nb:Bool)(B:Option Addr)(m d:Nat):Prop:=
 w.cell? ⟨g,o,none⟩=some (.bool na)/\w.cell? ⟨g,o+1,none⟩=some (.slice A n c)/\w.cell? ⟨g,o+2,none⟩=some (.bool nb)/\w.cell? ⟨g,o+3,none⟩=some (.slice B m d)
theorem At4.below{w w':World}{g o:Nat}{na:Bool}{A:Option Addr}{n c:Nat}{nb:Bool}{B:Option Addr}{m d:Nat}(h:At4 w g o na A n c nb B m d)(hb:Below w.heap.size w w'):At4 w' g o na A n c nb B m d:=
 ⟨Zc hb h.1,Zc hb h.2.1,Zc hb h.2.2.1,Zc hb h.2.2.2⟩
def FXL(w:World)(A:Option Addr)(n c:Nat)(es:List FX):Prop:=
 es.length=n/\n<=c/\c<=maxLen/\(∀ e ∈ es,e.in_ w)/\(0<n->∃ g o,A=some ⟨g,o,none⟩/\∀ (k:Nat) (e:FX),es[k]?=some e->At4 w g (o+k*4) e.na e.A e.n e.c e.nb e.B e.m e.d)
section
variable{w w':World}{A:Option Addr}{n c:Nat}{es:List FX}
theorem FX.in_below{e:FX}(h:e.in_ w)(hb:Below w.heap.size w w'):e.in_ w':=⟨h.1.below hb,h.2.below hb⟩
theorem FXL.below(h:FXL w A n c es)(hb:Below w.heap.size w w'):FXL w' A n c es:=by
 obtain⟨h1,h2,h3,h4,h5⟩:=h;refine⟨h1,h2,h3,λe he=>FX.in_below (h4 e he) hb,λhn=>?_⟩;obtain⟨g,o,e1,hc⟩:=h5 hn;exact⟨g,o,e1,λk e he=>(hc k e he).below hb⟩
theorem FXL.at_(h:FXL w A n c es){k:Nat}(hk:k<n):∃ g o e,A=some ⟨g,o,none⟩/\es[k]?=some e/\At4 w g (o+k*4) e.na e.A e.n e.c e.nb e.B e.m e.d/\Lim w e.A e.n e.c e.la/\Lim w e.B e.m e.d e.lb:=by
 obtain⟨h1,-,-,h4,h5⟩:=h;obtain⟨g,o,e1,hc⟩:=h5 Gk;have he:=Qc (l:=es) (i:=k) Gk;have hi:=h4 es[k] (QB _);exact⟨g,o,es[k],e1,he,hc k _ he,hi.1,hi.2⟩
theorem FXL.fl(h:FXL w A n c es)(hk:∀ e ∈ es,e.ok=true):FL w A n c (es.map FX.q):=by
 obtain⟨h1,h2,h3,h4,h5⟩:=h;refine⟨es.map λe=>⟨e.na,e.A,e.n,e.c,e.nb,e.B,e.m,e.d,e.q⟩,by simp[h1],h2,h3,λe he=>?_,by rw[List.map_map];rfl,λhn=>?_⟩
 ·obtain⟨x,hx,rfl⟩:=List.mem_map.1 he
  exact Zqy (h4 x hx).1 (h4 x hx).2 (hk x hx)
 obtain⟨g,o,e1,hc⟩:=h5 hn;refine⟨g,o,e1,λk e he=>?_⟩;rw[Qd]at he;obtain⟨x,hx,rfl⟩:=Option.map_eq_some_iff.1 he;exact hc k x hx
end
structure RX where
 A:Option Addr
 n:Nat
 c:Nat
 es:List FX
def MXL(w:World)(A:Option Addr)(n c:Nat)(rs:List RX):Prop:=
 rs.length=n/\n<=c/\c<=maxLen/\(∀ r ∈ rs,FXL w r.A r.n r.c r.es)/\(0<n->∃ g o,A=some ⟨g,o,none⟩/\∀ (k:Nat) (r:RX),rs[k]?=some r->w.cell? ⟨g,o+k,none⟩=some (.slice r.A r.n r.c))
def MFL(w:World)(A:Option Addr)(n c:Nat)(Q:List (List Rat)):Prop:=
 Q.length=n/\n<=c/\c<=maxLen/\(0<n->∃ g o,A=some ⟨g,o,none⟩/\∀ (k:Nat) (q:List Rat),Q[k]?=some q->∃ A' n' c',w.cell? ⟨g,o+k,none⟩=some (.slice A' n' c')/\FL w A' n' c' q)
section
variable{w w':World}{A:Option Addr}{n c:Nat}{rs:List RX}{Q:List (List Rat)}{qs:List Rat}
theorem MXL.below(h:MXL w A n c rs)(hb:Below w.heap.size w w'):MXL w' A n c rs:=by
 obtain⟨h1,h2,h3,h4,h5⟩:=h;refine⟨h1,h2,h3,λr hr=>(h4 r hr).below hb,λhn=>?_⟩;obtain⟨g,o,e1,hc⟩:=h5 hn;exact⟨g,o,e1,λk r hr=>Zc hb (hc k r hr)⟩
theorem MXL.at_(h:MXL w A n c rs){k:Nat}(hk:k<n):∃ g o r,A=some ⟨g,o,none⟩/\rs[k]?=some r/\w.cell? ⟨g,o+k,none⟩=some (.slice r.A r.n r.c)/\FXL w r.A r.n r.c r.es:=by
 obtain⟨h1,-,-,h4,h5⟩:=h;obtain⟨g,o,e1,hc⟩:=h5 Gk;have he:=Qc (l:=rs) (i:=k) Gk;exact⟨g,o,rs[k],e1,he,hc k _ he,h4 rs[k] (QB _)⟩
theorem MXL.mfl(h:MXL w A n c rs)(hk:∀ r ∈ rs,∀ e ∈ r.es,e.ok=true):MFL w A n c (rs.map λr=>r.es.map FX.q):=by
 obtain⟨h1,h2,h3,h4,h5⟩:=h;refine⟨by simp[h1],h2,h3,λhn=>?_⟩;obtain⟨g,o,e1,hc⟩:=h5 hn;refine⟨g,o,e1,λk q hq=>?_⟩;rw[Qd]at hq;obtain⟨r,hr,rfl⟩:=Option.map_eq_some_iff.1 hq;exact⟨r.A,r.n,r.c,hc k r hr,(h4 r (QJ hr)).fl (hk r (QJ hr))⟩
theorem MFL.below(h:MFL w A n c Q)(hb:Below w.heap.size w w'):MFL w' A n c Q:=by
 obtain⟨h1,h2,h3,h5⟩:=h;refine⟨h1,h2,h3,λhn=>?_⟩;obtain⟨g,o,e1,hc⟩:=h5 hn;refine⟨g,o,e1,λk q hq=>?_⟩;obtain⟨A',n',c',h6,h7⟩:=hc k q hq;exact⟨A',n',c',Zc hb h6,h7.below hb⟩
theorem MFL.at_(h:MFL w A n c Q){k:Nat}(hk:k<n):∃ g o A' n' c',A=some ⟨g,o,none⟩/\w.cell? ⟨g,o+k,none⟩=some (.slice A' n' c')/\FL w A' n' c' (Q[k]?.getD []):=by
 obtain⟨h1,-,-,h5⟩:=h;obtain⟨g,o,e1,hc⟩:=h5 Gk;have he:=Qc (l:=Q) (i:=k) Gk;obtain⟨A',n',c',h6,h7⟩:=hc k _ he;rw[he];exact⟨g,o,A',n',c',e1,h6,h7⟩
theorem FL.len(h:FL w A n c qs):qs.length=n:=by obtain⟨es,h1,-,-,-,h5,-⟩:=h;rw[<- h5,QT,h1]
theorem FL.cap(h:FL w A n c qs):n<=c/\c<=maxLen:=by obtain⟨es,h1,h2,h3,-⟩:=h;exact⟨h2,h3⟩
theorem FL.at_(h:FL w A n c qs){k:Nat}(hk:k<n):∃ g o na A1 n1 c1 nb B m d,A=some ⟨g,o,none⟩/\At4 w g (o+k*4) na A1 n1 c1 nb B m d/\Fr w na A1 n1 c1 nb B m d (qs[k]?.getD 0):=by
 obtain⟨es,h1,-,-,h4,rfl,h5⟩:=h;obtain⟨g,o,e1,hc⟩:=h5 Gk;have he:=Qc (l:=es) (i:=k) Gk;refine⟨g,o,es[k].na,es[k].A,es[k].n,es[k].c,es[k].nb,es[k].B,es[k].m,es[k].d,e1,hc k _ he,?_⟩;rw[Qd,he];exact h4 es[k] (QB _)
theorem FL.take(h:FL w A n c qs){k:Nat}(hk:k<=n):FL w A k c (qs.take k):=by
 obtain⟨es,h1,h2,h3,h4,rfl,h5⟩:=h;refine⟨es.take k,by rw[List.length_take];omega,by omega,h3,λe he=>h4 e (List.mem_of_mem_take he),by rw[List.map_take],λhn=>?_⟩;obtain⟨g,o,e1,hc⟩:=h5 Gk;refine⟨g,o,e1,λj e he=>?_⟩;rw[List.getElem?_take]at he
 split at he
 exact hc j e he;cases he
end
theorem FG{G:Prop}(h:G:=by
 have h:=Rat.num_divInt_den ((z:Int):Rat);rw[Rat.num_intCast,Rat.den_intCast]at h;exact h):G:=h
theorem Ztm(z:Int):Qo z 1=(z:Rat):=by
 exact FG
theorem Zqp(z:Int)(w:World)(h1:-9223372036854775808<=z)(h2:z<=9223372036854775807) :
    Calls Tryz.prog 44 #[.int .i64 z] w (Zdp w (z:Rat)):=by
 obtain⟨W0,h,aq,q0,s0⟩:=Zao w 73 #[.bool false,.slice none 0 0,.bool false,.slice none 0 0];obtain⟨gR,f⟩:=Gz w.heap.size;rw[f]at q0;go_in;go_wp2_with fail;(try rw[h]);refine(Zri z 1 W0 h1 h2 Gj Gj).mono ?_;rw[Ztm];rintro e w1 ⟨ab,pn,pA,pk,pc,pm,pB,pj,pd,rfl,hf⟩;replace q0:=Ze ab q0;go_wp2_with fail;refine(Zf8 pn pm pA pB pk pc pj pd _ w1 hf).mono ?_;rintro e w2 ⟨aa,rn,rA,rk,rc,rm,rB,rj,rd,rfl,hr⟩;replace q0:=Ze aa q0;(try rw[f]);obtain⟨c0,c1,c2,c3,z0,z1,z2,z3⟩:=q0.four;obtain⟨W5,o,q5,aK,s5⟩:=Za2 rn rA rk rc rm rB rj rd q0;clear hf;go_wp2_with fail;(try rw[o]);obtain⟨r0,r1,r2,r3,-⟩:=q5.four;refine bodyPost_ret (v:=.agg #[.bool rn,.slice rA rk rc,.bool rm,.slice rB rj rd]) (by simp[results,Tryz.results44,go_sem,r0,r1,r2,r3]) rfl ?_;refine⟨?_,_,_,_,_,_,_,_,_,rfl,hr.keptN aK q0 (Zbf _ _ _ _ _ _ _ _)⟩;exact Fe
theorem Zzc(z:Int)(w:World) :
    Calls Tryz.prog 161 #[.int .i64 z,.int .i64 0] w λe w'=>e=.returned (.int .i64 z)/\w'=w:=by
 go_in;go_wp2_with fail;refine(Zb4 0 w).mono ?_;rintro e w1 ⟨rfl,rfl⟩;go_wp2_with fail;go_returns;exact⟨rfl,rfl⟩
theorem Zy9(na:Bool)(A:Option Addr)(n c:Nat)(z:Int)(w:World)(hz:Wd w na A n c z) :
    Calls Tryz.prog 162 #[.agg #[.bool na,.slice A n c]] w λe w'=>e=.returned (.tuple #[.int .i64 (Zco z 0),.int .i64 0])/\Below w.heap.size w w':=by
 obtain⟨r,hr⟩:=Gz (Zco z 0);rw[hr];obtain⟨W0,o,hB,q,sz⟩:=Zao w 39 #[.bool na,.slice A n c];replace hz:=Zd (hz.below hB);obtain⟨s0,s1,-,-⟩:=q.two;go_in;go_wp2_with fail;refine(Zre na false A none n c 0 0 z 0 W0 hz.out (Wd.zero _)).mono ?_;rintro e w1 ⟨rfl,h⟩;have f:=Gs hB h;rw[hr];replace hr:=Zd hr;go_wp2_with fail;go_returns;exact⟨rfl,f⟩
theorem Zh7(xn:Bool)(xA:Option Addr)(xk xc:Nat)(xm:Bool)(xB:Option Addr)(xj xd:Nat)(q:Rat)(w:World)(h:Fr w xn xA xk xc xm xB xj xd q) :
    Calls Tryz.prog 118 #[.agg #[.bool xn,.slice xA xk xc,.bool xm,.slice xB xj xd]] w λe w'=>e=.returned (.int .i64 (Zco q.num 0))/\Below w.heap.size w w':=by
 obtain⟨W0,o,f,q0,s0⟩:=Zao w 73 #[.bool xn,.slice xA xk xc,.bool xm,.slice xB xj xd];obtain⟨a0,a1,a2,a3,-⟩:=q0.four;have hX:=h.below f;go_in;go_wp2_with fail;(try rw[o]);refine(Zy9 xn xA xk xc q.num W0 hX.1).mono ?_;rintro e w1 ⟨rfl,u⟩;go_wp2_with fail;refine(Zzc _ w1).mono ?_;rintro e w2 ⟨rfl,rfl⟩;go_wp2_with fail;go_returns;exact⟨rfl,Gs f u⟩
def Zi0(a:Rat)(qs:List Rat):Nat->Rat
 | 0=>a
 | j+1=>Zi0 a qs j*(qs[j]?.getD 0)
def sumF(qs:List Rat):Nat->Rat
 | 0=>0
 | j+1=>sumF qs j+(qs[j]?.getD 0)
theorem IA{G:Prop}(h:G:=by
 exact cw.trans (aK.to_below (λk e=>by omega) (by have:=cw.size;have:=hK.size;omega))):G:=h
theorem IR{G:Prop}(h:G:=by
 go_roundg (k-(i+1))
 case measure=>omega
 case rel=>exact⟨i+1,_,_,_,_,_,_,_,_,by omega,by go_num,q5,ik,im⟩):G:=h
theorem Zcs(an:Bool)(aA:Option Addr)(ak ac:Nat)(am:Bool)(aB:Option Addr)(aj ad:Nat)(a:Rat)(L:Option Addr)(k cap:Nat)(qs:List Rat)(w:World)(ha:Fr w an aA ak ac am aB aj ad a)(hl:FL w L k cap qs)(hk:k<=100)(hs:∀ j,j<k->Sm (Zi0 a qs j))(he:∀ j:Nat,j<k->Sm (qs[j]?.getD 0)) :
    Calls Tryz.prog 45 #[.agg #[.bool an,.slice aA ak ac,.bool am,.slice aB aj ad],.slice L k cap] w (Zdp w (Zi0 a qs k)):=by
 have a1:=hl.cap;unfold maxLen at a1;obtain⟨W0,a2,Y,⟨q0,q1⟩,s0⟩:=Zda w 73 #[.bool an,.slice aA ak ac,.bool am,.slice aB aj ad] 73 #[.bool false,.slice none 0 0,.bool false,.slice none 0 0];obtain⟨g0,h⟩:=Gz w.heap.size;obtain⟨gR,I⟩:=Gz (g0+1);rw[h]at q0 q1 s0 Y;rw[I]at q1;have hA:=ha.below (h▸Y);have a5:Hid (W0.heap.size=gR+1):=Zd (by rw[s0];omega);have a7:=Zd hl;have b0:=Zd hs;have b2:=Zd he;have O:=Zd h;clear hl hs he;go_in;go_wp2_with fail;(try rw[a2]);(try rw[h]);(try rw[I]);have a3:=Zd I;clear a2 h I
 go_loopg [9] k (λt iv wr=>∃ (i:Nat) (xn:Bool) (xA:Option Addr) (xk xc:Nat) (xm:Bool) (xB:Option Addr) (xj xd:Nat),i+t=k/\iv=.int .i64 i/\Blk wr g0 73 #[.bool xn,.slice xA xk xc,.bool xm,.slice xB xj xd]/\Hid (Fr wr xn xA xk xc xm xB xj xd (Zi0 a qs i))/\Kept (λk=>k=g0) W0 wr)
 case atStart=>exact⟨0,_,_,_,_,_,_,_,_,by omega,rfl,q0,Zd hA,Kept.refl _ _⟩
 case round =>
  obtain⟨i,xn,xA,xk,xc,xm,xB,xj,xd,d0,rfl,U,hX,hK⟩:=hrel;have b6:=a5.out;have b4:=a3.out;have T:=hK.blk q1 Gk;have cw:Below g0 w wr:=Y.trans (hK.to_below (λk hk=>by omega) Gk);obtain⟨x0,x1,x2,x3,y0,y1,y2,y3⟩:=U.four;cases gk with
  | zero =>
   obtain rfl:i=k:=Gk;have t1:decide ((i:Int)<(i:Int))=false:=Gh;obtain⟨c0,c1,c2,c3,z0,z1,z2,z3⟩:=T.four;obtain⟨W5,V,q5,aK,s5⟩:=Za2 xn xA xk xc xm xB xj xd T;go_wp2_with fail;(try rw[V]);obtain⟨r0,r1,r2,r3,-⟩:=q5.four;refine bodyPost_ret (v:=.agg #[.bool xn,.slice xA xk xc,.bool xm,.slice xB xj xd]) (by simp[results,Tryz.results45,go_sem,r0,r1,r2,r3]) rfl ?_;refine⟨?_,_,_,_,_,_,_,_,_,rfl,hX.out.keptN aK T (Zbf _ _ _ _ _ _ _ _)⟩;rw[O.out];exact IA
  | succ t =>
   obtain rfl:t=k-(i+1):=Gk;have a0:i<k:=Gk;have t1:decide ((i:Int)<(k:Int))=true:=Gv Gk;have bi:(i:Int)<(k:Int):=Gk;obtain⟨gl,o,yn,yA,yk,yc,ym,yB,yj,yd,rfl,⟨c0,c1,c2,c3⟩,hY⟩:=(a7.out.below (O.out▸cw)).at_ a0;obtain⟨W1,c6,f,p1,s1⟩:=Zao wr 73 #[.bool false,.slice none 0 0,.bool false,.slice none 0 0];obtain⟨gn,a6⟩:=Gz wr.heap.size;rw[a6]at p1 s1;have b5:=Ze f U;obtain⟨u0,u1,u2,u3,v0,v1,v2,v3⟩:=p1.four;obtain⟨W2,a9,p2,b3,s2⟩:=Za2 yn yA yk yc ym yB yj yd p1;have C:Below wr.heap.size wr W2:=f.trans (b3.to_below (λk e=>by omega) f.size);have a8:=hX.out.below C;have b1:=hY.below C;have J:=Ze C U;obtain⟨m0,m1,m2,m3,n0,n1,n2,n3⟩:=J.four;obtain⟨o0,o1,o2,o3,-⟩:=p2.four;have e0:=Zc f c0;have e1:=Zc f c1;have e2:=Zc f c2;have e3:=Zc f c3;go_wp2_with fail;(try rw[a9]);go_wp2_with fail;refine(Zwt xn xm yn ym xA xB yA yB xk xc xj xd yk yc yj yd _ _ W2 a8 b1 (b0.out i a0) (b2.out i a0)).mono ?_;rintro e w3 ⟨u,pn,pA,pk,pc,pm,pB,pj,pd,rfl,hf⟩;go_wp2_with fail;refine(Zf8 pn pm pA pB pk pc pj pd _ w3 hf).mono ?_;rintro e w4 ⟨a4,rn,rA,rk,rc,rm,rB,rj,rd,rfl,hr⟩;have y:=Ze a4 (Ze u J);obtain⟨b7,c7,c4,c9,c5,b8,b9,c8⟩:=y.four;obtain⟨W5,V,q5,aK,s5⟩:=Za2 rn rA rk rc rm rB rj rd y;clear x0 x1 x2 x3 y0 y1 y2 y3 m0 m1 m2 m3 n0 n1 n2 n3 o0 o1 o2 o3 u0 u1 u2 u3 v0 v1 v2 v3 e0 e1 e2 e3 c0 c1 c2 c3;go_wp2_with fail;(try rw[V]);have ik:=Zd (hr.keptN aK y (Zbf _ _ _ _ _ _ _ _));have im:Kept (λk=>k=g0) W0 W5:=((hK.below C).below (Gs u a4)).trans aK;exact IR
theorem Zrf(L:Option Addr)(k cap:Nat)(qs:List Rat)(w:World)(hl:FL w L k cap qs)(hk:k<=100)(hs:∀ j,j<k->Sm (sumF qs j))(he:∀ j:Nat,j<k->Sm (qs[j]?.getD 0)) :
    Calls Tryz.prog 70 #[.slice L k cap] w (Zdp w (sumF qs k)):=by
 have a4:=hl.cap;unfold maxLen at a4;obtain⟨W0,a6,a1,q1,s0⟩:=Zao w 73 #[.bool false,.slice none 0 0,.bool false,.slice none 0 0];obtain⟨gR,J⟩:=Gz w.heap.size;rw[J]at q1 s0 a1;have b6:=Zd hl;have b9:=Zd hs;have c6:=Zd he;clear hl hs he;go_in;go_wp2_with fail;(try rw[a6]);(try rw[J]);refine(Zqp 0 W0 Gj Gj).mono ?_;rintro e w1 ⟨C,pn,pA,pk,pc,pm,pB,pj,pd,rfl,hf⟩;replace q1:=Ze C q1;obtain⟨V1,c4,a2,t0,tz⟩:=Zao w1 73 #[.bool false,.slice none 0 0,.bool false,.slice none 0 0];obtain⟨g0,U⟩:=Gz w1.heap.size;rw[U]at t0 tz;obtain⟨u0,u1,u2,u3,v0,v1,v2,v3⟩:=t0.four;obtain⟨V2,a7,p2,a9,s2⟩:=Za2 pn pA pk pc pm pB pj pd t0;have I:Below w1.heap.size w1 V2:=a2.trans (a9.to_below (λk e=>by omega) a2.size);have hA:=Zd (hf.below I);have b4:=Ze I q1;have b0:Hid (Below gR w w1):=Zd (a1.trans (C.mono Gk));have b3:Hid (V2.heap.size=g0+1/\gR<g0):=Zd ⟨by rw[s2,tz],by have:=C.size;omega⟩;have a8:Hid (Below gR w V2):=Zd (b0.out.trans (I.mono (by have:=C.size;omega)));have T:=Zd J;clear hf a2 a9 s2 tz I q1 C a1 s0 a6;go_wp2_with fail;(try rw[U]);(try rw[a7]);clear u0 u1 u2 u3 v0 v1 v2 v3 t0 c4 a7 U J
 go_loopg [9] k (λt iv wr=>∃ (i:Nat) (xn:Bool) (xA:Option Addr) (xk xc:Nat) (xm:Bool) (xB:Option Addr) (xj xd:Nat),i+t=k/\iv=.int .i64 i/\Blk wr g0 73 #[.bool xn,.slice xA xk xc,.bool xm,.slice xB xj xd]/\Hid (Fr wr xn xA xk xc xm xB xj xd (sumF qs i))/\Kept (λk=>k=g0) V2 wr)
 case atStart=>exact⟨0,_,_,_,_,_,_,_,_,by omega,rfl,p2,hA,Kept.refl _ _⟩
 case round =>
  obtain⟨i,xn,xA,xk,xc,xm,xB,xj,xd,e5,rfl,Y,hX,hK⟩:=hrel;have c8:=b3.out;have V:=hK.blk b4 Gk;have cw:Below gR w wr:=a8.out.trans (hK.to_below (λk hk=>by omega) Gk);obtain⟨x0,x1,x2,x3,y0,y1,y2,y3⟩:=Y.four;cases gk with
  | zero =>
   obtain rfl:i=k:=Gk;have t1:decide ((i:Int)<(i:Int))=false:=Gh;obtain⟨c0,c1,c2,c3,z0,z1,z2,z3⟩:=V.four;obtain⟨W5,a0,q5,aK,s5⟩:=Za2 xn xA xk xc xm xB xj xd V;go_wp2_with fail;(try rw[a0]);obtain⟨r0,r1,r2,r3,-⟩:=q5.four;refine bodyPost_ret (v:=.agg #[.bool xn,.slice xA xk xc,.bool xm,.slice xB xj xd]) (by simp[results,Tryz.results70,go_sem,r0,r1,r2,r3]) rfl ?_;refine⟨?_,_,_,_,_,_,_,_,_,rfl,hX.out.keptN aK V (Zbf _ _ _ _ _ _ _ _)⟩;rw[T.out];exact IA
  | succ t =>
   obtain rfl:t=k-(i+1):=Gk;have a3:i<k:=Gk;have t1:decide ((i:Int)<(k:Int))=true:=Gv Gk;have bi:(i:Int)<(k:Int):=Gk;obtain⟨gl,o,yn,yA,yk,yc,ym,yB,yj,yd,rfl,⟨c0,c1,c2,c3⟩,hY⟩:=(b6.out.below (T.out▸cw)).at_ a3;obtain⟨W1,d7,f,p1,s1⟩:=Zao wr 73 #[.bool false,.slice none 0 0,.bool false,.slice none 0 0];obtain⟨gn,b5⟩:=Gz wr.heap.size;rw[b5]at p1 s1;have c7:=Ze f Y;obtain⟨u0,u1,u2,u3,v0,v1,v2,v3⟩:=p1.four;obtain⟨W2,b8,b2,a5,c9⟩:=Za2 yn yA yk yc ym yB yj yd p1;have h:Below wr.heap.size wr W2:=f.trans (a5.to_below (λk e=>by omega) f.size);have b7:=hX.out.below h;have c5:=hY.below h;have O:=Ze h Y;obtain⟨m0,m1,m2,m3,n0,n1,n2,n3⟩:=O.four;obtain⟨o0,o1,o2,o3,-⟩:=b2.four;have e0:=Zc f c0;have e1:=Zc f c1;have e2:=Zc f c2;have e3:=Zc f c3;go_wp2_with fail;(try rw[b8]);go_wp2_with fail;refine(fAdd_ok xn xm yn ym xA xB yA yB xk xc xj xd yk yc yj yd _ _ W2 b7 c5 (b9.out i a3) (c6.out i a3)).mono ?_;rintro e w3 ⟨u,rn,rA,rk,rc,rm,rB,rj,rd,rfl,hf⟩;go_wp2_with fail;refine(Zf8 rn rm rA rB rk rc rj rd _ w3 hf).mono ?_;rintro e w4 ⟨b1,sn,sA,sk,sc,sm,sB,sj,sd,rfl,hr⟩;have y:=Ze b1 (Ze u O);obtain⟨d0,d8,d5,e4,d6,d3,d4,d9⟩:=y.four;obtain⟨W5,a0,q5,aK,s5⟩:=Za2 sn sA sk sc sm sB sj sd y;clear x0 x1 x2 x3 y0 y1 y2 y3 m0 m1 m2 m3 n0 n1 n2 n3 o0 o1 o2 o3 u0 u1 u2 u3 v0 v1 v2 v3 e0 e1 e2 e3 c0 c1 c2 c3;go_wp2_with fail;(try rw[a0]);have ik:=Zd (hr.keptN aK y (Zbf _ _ _ _ _ _ _ _));have im:Kept (λk=>k=g0) V2 W5:=((hK.below h).below (Gs u b1)).trans aK;exact IR
theorem Zc9(es fs:List WE):Zal (es++fs)=Zal es++Zal fs:=by
 induction es with
 | nil=>rfl
 | cons e l ih=>simp only[List.cons_append,Zal,ih]
theorem Zuz(fs:List WE):∀ u ∈ Zal fs,u.oneCell'=true:=by
 induction fs with
 | nil=>intro u h;simp[Zal]at h
 | cons e l ih =>
  intro u h;simp only[Zal,List.mem_cons]at h;rcases h with rfl|rfl|h;rfl;rfl;exact ih u h
theorem Ziu(k:Nat):(Qi #[.bool false,.slice none 0 0] k).toList=Zal (Qg k Zcv):=by
 rw[Zlr];unfold Qi madeCells;apply QN;intro i;by_cases h:i<k*2;simp[h];simp[h]
def RowW(t:TypeId)(w:World)(base:Nat)(v:Value)(es:List WE):Prop:=
 (v=.slice none 0 0/\es=[]) \/ ∃ g sp,v=.slice (some ⟨g,0,none⟩) es.length (es.length+sp)/\base<=g/\es.length+sp<=maxLen/\Blk w g t (Zbx (es++Qg sp Zcv))
section
variable{t:TypeId}{w w':World}{base:Nat}{v:Value}{es:List WE}
theorem RowW.own(h:RowW t w base v es):w.ownsRow base t 2 v es.length (Zal es):=by
 refine⟨Zbg es,?_⟩;rcases h with ⟨h1,rfl⟩|⟨g,sp,h1,h2,h3,h4⟩;exact .inl ⟨h1,rfl⟩;refine .inr ⟨g,_,_,h1,h2,h4,QC _ _,h3,?_,?_⟩;simp[Zbx,Zbg];simp only[Zbx];rw[Zc9,<- Zbg es];exact QI
theorem RowW.row_ge(h:RowW t w base v es):∀ k,v.ownBlock=some k->base<=k:=λk hk=>(h.own.lt k hk).1
theorem RowW.kept(h:RowW t w base v es)(hb:Below w.heap.size w w'):RowW t w' base v es:=by
 exact FJ
theorem RowW.keep(h:RowW t w base v es)(hg:w.grownBy w' v.ownBlock){A:Option Addr}{n c:Nat}{l:List Nat}(hL:Lim w A n c l):Lim w' A n c l:=by
 refine⟨hL.1,hL.2.1,hL.2.2.1,hL.2.2.2.1,λhn=>?_⟩;obtain⟨b,o,e,hc⟩:=hL.2.2.2.2 hn;refine⟨b,o,e,λk hk=>?_⟩;rw[<- hc k hk];refine QK (hg.block b (Zp (hc k hk)) (λe'=>?_));rcases h with ⟨rfl,_⟩|⟨g,sp,rfl,_,_,h4⟩;cases e';have f:b=g:=by simpa [Value.ownBlock]using e'
 subst f;have h1:=hc k hk;rw[h4.cell]at h1;exact Zdq _ _ _ h1
end
section
variable{P:Program}(w:World)
end
def OwnP(t:TypeId)(w:World)(base:Nat)(v:Value)(xs:List Int):Prop:=∃ es,RowW t w base v es/\(∀ e ∈ es,Lim w e.A e.n e.c e.l/\e.ok=true)/\es.map WE.num=xs
section
variable{t:TypeId}{w w':World}{base:Nat}{v:Value}{xs:List Int}
theorem OwnP.nil(t:TypeId)(w:World)(base:Nat):OwnP t w base (.slice none 0 0) []:=⟨[],.inl ⟨rfl,rfl⟩,λe h=>by simp at h,rfl⟩
theorem OwnP.kept(h:OwnP t w base v xs)(hb:Below w.heap.size w w'):OwnP t w' base v xs:=by
 obtain⟨es,h1,h2,h3⟩:=h;exact⟨es,h1.kept hb,λe he=>⟨(h2 e he).1.below hb,(h2 e he).2⟩,h3⟩
theorem OwnP.row_ge(h:OwnP t w base v xs):∀ k,v.ownBlock=some k->base<=k:=by obtain⟨es,h1,_⟩:=h;exact h1.row_ge
theorem OwnP.poly(h:OwnP t w base v xs):∃ A c,v=.slice A xs.length c/\PolyL w A xs.length c xs:=by
 obtain⟨es,h1,h2,rfl⟩:=h;rcases h1 with ⟨rfl,rfl⟩|⟨g,sp,rfl,h4,h5,h6⟩;exact⟨none,0,rfl,[],⟨rfl,Qb _,QH _,λh=>absurd h Gh,λe h=>by simp at h⟩,rfl,λe h=>by simp at h⟩;rw[QT];refine⟨_,es.length+sp,rfl,es,⟨rfl,QC _ _,h5,λ_=>⟨g,0,rfl,λk e he=>?_⟩,λe he=>(h2 e he).1⟩,rfl,λe he=>(h2 e he).2⟩;have hk:k<es.length:=(List.getElem?_eq_some_iff.1 he).1;have hc:=Zjs (es:=es++Qg sp Zcv) (i:=k) (e:=e) (by rw[List.getElem?_append_left hk];exact he);rw[Nat.zero_add,h6.cell,h6.cell];exact hc
theorem Zgl(b:Bool)(A:Option Addr)(n c:Nat):NoLimb #[.bool b,.slice A n c]:=λi x=>by
 match i with
 | 0=>simp
 | 1=>simp
 | i+2=>simp
theorem Wd.of_keep{neg:Bool}{A:Option Addr}{n c:Nat}{z:Int}(hk:∀ (A:Option Addr) (n c:Nat) (l:List Nat),Lim w A n c l->Lim w' A n c l)(h:Wd w neg A n c z):Wd w' neg A n c z:=⟨h.1,h.2.1,hk _ _ _ _ h.2.2⟩
end
theorem OwnP.snoc{t:TypeId}{w:World}{base:Nat}{v:Value}{xs:List Int}{neg:Bool}{A:Option Addr}{n c:Nat}{z:Int}{W:World}(h:OwnP t w base v (xs ++ [⟨neg,A,n,c,digits z.natAbs⟩].map WE.num))(hW:Wd W neg A n c z):OwnP t w base v (xs ++ [z]):=by
 rw[List.map_cons,List.map_nil,show WE.num ⟨neg,A,n,c,digits z.natAbs⟩=z from hW.sgEq]at h;exact h
section
variable{P:Program}(w:World)
end
structure RS where
 A:Option Addr
 n:Nat
 c:Nat
def RS.val(r:RS):Value:=.slice r.A r.n r.c
def Zar:List RS->List Value
 | []=>[]
 | e::l=>.slice e.A e.n e.c::Zar l
def Z7(es:List RS):Array Value:=(Zar es).toArray
def Za8:RS:=⟨none,0,0⟩
theorem Zbo(es:List RS):(Zar es).length=es.length*1:=by
 induction es with
 | nil=>rfl
 | cons e l ih=>simp only[Zar,List.length_cons,ih];omega
theorem Zcp(es:List RS):Zar es=es.map RS.val:=by
 induction es with
 | nil=>rfl
 | cons e l ih=>simp only[Zar,List.map_cons,ih];rfl
theorem Zvl{es:List RS}{i:Nat}{e:RS}(h:es[i]?=some e):(Zar es)[i]?=some (.slice e.A e.n e.c):=by
 rw[Zcp,Qd,h];rfl
theorem Zb8{es:List RS}{i:Nat}{e:RS}(h:es[i]?=some e):(Z7 es)[i]?=some (.slice e.A e.n e.c):=by simpa [Z7]using Zvl h
theorem Zok(es:List RS):∀ (i x:Nat),(Zar es)[i]?≠some (limb x):=by
 intro i x;rw[Zcp,Qd];cases es[i]? with
 | none=>simp
 | some e=>simp[RS.val]
theorem Zbe(es:List RS):NoLimb (Z7 es):=λi x=>by simpa [Z7]using Zok es i x
theorem Zc5(es fs:List RS):Zar (es++fs)=Zar es++Zar fs:=by simp only[Zcp,List.map_append]
theorem Zvr(fs:List RS):∀ u ∈ Zar fs,u.oneCell'=true:=by
 intro u h;rw[Zcp]at h;obtain⟨r,-,rfl⟩:=List.mem_map.1 h;rfl
theorem Zdz{es:List RS}{i:Nat}(e:RS):(Z7 es).setIfInBounds i (.slice e.A e.n e.c)=Z7 (es.set i e):=by
 unfold Z7;rw[Zcp,Zcp,List.map_set];simp[RS.val]
theorem Ziz(k:Nat):(Qi #[.slice none 0 0] k).toList=Zar (Qg k Za8):=by
 rw[Zcp];unfold Qi;apply QN;intro i;by_cases h:i<k;simp[h,Za8,RS.val,QE,Nat.mod_one];simp[h,QE]
def RowS(t:TypeId)(w:World)(base:Nat)(v:Value)(es:List RS):Prop:=
 (v=.slice none 0 0/\es=[]) \/ ∃ g sp,v=.slice (some ⟨g,0,none⟩) es.length (es.length+sp)/\base<=g/\es.length+sp<=maxLen/\Blk w g t (Z7 (es++Qg sp Za8))
section
variable{t:TypeId}{w w':World}{base:Nat}{v:Value}{es:List RS}
theorem RowS.own(h:RowS t w base v es):w.ownsRow base t 1 v es.length (Zar es):=by
 refine⟨Zbo es,?_⟩;rcases h with ⟨h1,rfl⟩|⟨g,sp,h1,h2,h3,h4⟩;exact .inl ⟨h1,rfl⟩;refine .inr ⟨g,_,_,h1,h2,h4,QC _ _,h3,?_,?_⟩;simp[Z7,Zbo];simp only[Z7];rw[Zc5,<- Zbo es];exact QI
theorem RowS.row_ge(h:RowS t w base v es):∀ k,v.ownBlock=some k->base<=k:=λk hk=>(h.own.lt k hk).1
theorem RowS.kept(h:RowS t w base v es)(hb:Below w.heap.size w w'):RowS t w' base v es:=by
 exact FJ
theorem RowS.keep(h:RowS t w base v es)(hg:w.grownBy w' v.ownBlock){A:Option Addr}{n c:Nat}{l:List Nat}(hL:Lim w A n c l):Lim w' A n c l:=by
 refine⟨hL.1,hL.2.1,hL.2.2.1,hL.2.2.2.1,λhn=>?_⟩;obtain⟨b,o,e,hc⟩:=hL.2.2.2.2 hn;refine⟨b,o,e,λk hk=>?_⟩;rw[<- hc k hk];refine QK (hg.block b (Zp (hc k hk)) (λe'=>?_));rcases h with ⟨rfl,_⟩|⟨g,sp,rfl,_,_,h4⟩;cases e';have f:b=g:=by simpa [Value.ownBlock]using e'
 subst f;have h1:=hc k hk;rw[h4.cell]at h1;exact Zbe _ _ _ h1
end
section
variable{P:Program}(w:World)
theorem Znd(base:Nat)(t ty e:TypeId)(i:TypeInfo)(ht:P.underlying t=some (.slice e))(hi:P.info? e=some i)(hz:i.zero=some (.slice none 0 0))
    (hs:i.size=1) (hby:i.bytes=24) (v:Value) (es:List RS) (ai:RowS e w base v es)
    (B:Nat) (A:Option Addr) (m c:Nat) (fs:List RS) (hr:Reads w B 1 A m (Zar fs)) (hm:fs.length=m) (h63:es.length+m<=1000) (hbase:base<=w.heap.size) :
    ∃ v' w',(Builtin.append_ #[t,t] ty #[v,.slice A m c]).run P w=.ok v' w'/\RowS e w' base v' (es++fs)/\w.grownBy w' v.ownBlock:=by
 rcases Nat.eq_zero_or_pos m with h0|h0
 ·subst h0
  obtain rfl:fs=[]:=Qx hm;rw[List.append_nil];rcases A with _|ad;exact⟨v,w,Zci w base t ty e i 1 ht hi v _ _ ai.own c,ai,World.grownBy.refl w _⟩;exact EU
 obtain⟨ad,rfl,_,hc⟩:=hr.2 h0;have hl:(Zar fs).length=m*i.size:=by rw[Zbo,hm,hs]
 have y:es.length*i.size=(Zar es).length:=by rw[Zbo,hs]
 rcases ai with ⟨rfl,rfl⟩|⟨g,sp,rfl,h2,h3,h4⟩
 ·have f:=run_append_nil (P:=P) w t ty e i _ ht hi hz ad m c (Zar fs) hl hc h0 Gk (by rw[hby];omega)
  have h:=grownCap_ge w m 0 e;have o:=grownCap_le_maxLen w m 0 e (by unfold maxLen;simp only[List.length_nil]at h63;omega);refine⟨_,_,f,.inr ⟨w.heap.size,grownCap w m 0 e-m,?_,hbase,?_,?_⟩,⟨rfl,rfl,rfl,by simp,λk hk _=>Below.heap_alloc w.drew _ k hk⟩⟩;rw[QU,hm,Qs h];rw[QU,hm,Qs h];exact o;have:=heap_alloc_new w.drew (.cells ((Zar fs).toArray++Qi (Value.slice none 0 0).cells (grownCap w m 0 e-m)) e);unfold Blk;refine this.trans ?_;congr 1
  have hx:(Zar fs).toArray++Qi (Value.slice none 0 0).cells (grownCap w m 0 e-m)=Z7 ([]++fs++Qg (grownCap w m 0 e-m) Za8):=by
   apply Array.toList_inj.1;rw[Qy,show (Value.slice none 0 0).cells=#[.slice none 0 0] from rfl,Ziz];simp[Z7,Zc5]
  rw[hx]
 by_cases hroom:m<=sp
 ·have f:=run_append_room (P:=P) w t ty e i ht hi g es.length (es.length+sp) _ h4 ad m c (Zar fs) hl hc (Zvr fs) Gk (by rw[y,Zbo,Zbo];simp[Z7,Zbo];omega)
  refine⟨_,_,f,.inr ⟨g,sp-m,?_,h2,?_,?_⟩,⟨rfl,rfl,rfl,by simp[World.setRow],λk _ hk=>setRow_other w g k _ (λe'=>hk (by simp[Value.ownBlock,e']))⟩⟩;rw[Qp,hm,show es.length+m+(sp-m)=es.length+sp by omega];rw[Qp,hm];omega;refine(setRow_heap w g _ _ e _ h4).trans ?_;congr 2;unfold Z7;congr 1;rw[y];have I:Qg sp Za8=Qg m Za8++Qg (sp-m) Za8:=by rw[List.replicate_append_replicate];congr 1;omega
  have J:(Zar fs).length=(Zar (Qg m Za8)).length:=by rw[Zbo,Zbo,hm,List.length_replicate]
  simp only[Zc5];rw[QI,J,<- Qp,I,Zc5,<- QO (Zar es),List.drop_left,QO]
 have C:∀ j u,(Zar es)[j]?=some u->w.cell? ((⟨g,0,none⟩:Addr).add j)=some u:=λj u hu=>by
   rw[Zi,Nat.zero_add,h4.cell];simp only[Z7,List.getElem?_toArray,Zc5];exact Fg
 have f:=run_append_grow (P:=P) w t ty e i _ ht hi hz ⟨g,0,none⟩ es.length (es.length+sp) (Zar es) y.symm C ad m c (Zar fs) hl hc Gk Gk (growslice_fits Gk (by rw[hby];omega));have h:=grownCap_ge w (es.length+m) (es.length+sp) e;have o:=grownCap_le_maxLen w (es.length+m) (es.length+sp) e (by unfold maxLen;omega);refine⟨_,_,f,.inr ⟨w.heap.size,grownCap w (es.length+m) (es.length+sp) e-(es.length+m),?_,hbase,?_,?_⟩,⟨rfl,rfl,rfl,by simp,λk hk _=>Below.heap_alloc w.drew _ k hk⟩⟩;rw[Qp,hm,Qs h];rw[Qp,hm,Qs h];exact o;have:=heap_alloc_new w.drew (.cells ((Zar es).toArray++(Zar fs).toArray++Qi (Value.slice none 0 0).cells (grownCap w (es.length+m) (es.length+sp) e-(es.length+m))) e);unfold Blk;refine this.trans ?_;congr 1
 have hx:(Zar es).toArray++(Zar fs).toArray++Qi (Value.slice none 0 0).cells (grownCap w (es.length+m) (es.length+sp) e-(es.length+m))=Z7 (es++fs++Qg (grownCap w (es.length+m) (es.length+sp) e-(es.length+m)) Za8):=by
  apply Array.toList_inj.1;rw[Qy,Qy,show (Value.slice none 0 0).cells=#[.slice none 0 0] from rfl,Ziz];simp[Z7,Zc5]
 rw[hx]
end
def Za7:Nat->(Nat->Rat)->Rat
 | 0,_=>0
 | n+1,f=>Za7 n f+f n
def Zcq(i a:Nat):Nat:=if a<i then a else a+1
def sgnQ(i:Nat):Rat:=if i%2=0 then 1 else -1
def Zay:Nat->(Nat->Nat->Rat)->Rat
 | 0,_=>1
 | n+1,M=>Za7 (n+1) λi=>sgnQ i*M i 0*Zay n (λa b=>M (Zcq i a) (b+1))
theorem Zam{n:Nat}{f g:Nat->Rat}(h:∀ i,i<n->f i=g i):Za7 n f=Za7 n g:=by
 induction n with
 | zero=>rfl
 | succ n ih=>simp only[Za7];rw[ih (λi hi=>h i Gk),h n Gk]
theorem Ze5{n:Nat}(f g:Nat->Rat)(x y:Rat):Za7 n (λi=>x*f i+y*g i)=x*Za7 n f+y*Za7 n g:=by
 induction n with
 | zero=>simp only[Za7];grind
 | succ n ih=>simp only[Za7];rw[ih];grind
theorem Zld{n:Nat}{f:Nat->Rat}(h:∀ i,i<n->f i=0):Za7 n f=0:=by
 induction n with
 | zero=>rfl
 | succ n ih=>simp only[Za7];rw[ih (λi hi=>h i Gk),h n Gk];grind
theorem Zh1{n:Nat}{f:Nat->Rat}(k:Nat)(hk:k<n)(h:∀ i,i<n->i≠k->f i=0):Za7 n f=f k:=by
 induction n with
 | zero=>omega
 | succ n ih =>
  simp only[Za7];by_cases hn:k=n
  ·subst hn
   rw[Zld (λi hi=>h i Gk Gk)];grind
  rw[ih Gk (λi hi=>h i Gk),h n Gk Gk];grind
theorem Z0l{n:Nat}{f:Nat->Rat}(k:Nat)(hk:k+1<n)(h:∀ i,i<n->i≠k->i≠k+1->f i=0):Za7 n f=f k+f (k+1):=by
 induction n with
 | zero=>omega
 | succ n ih =>
  simp only[Za7];by_cases hn:k+1=n
  ·subst hn
   rw[Zh1 k Gk (λi hi h2=>h i Gk h2 Gk)]
  rw[ih Gk (λi hi=>h i Gk),h n Gk Gk Gk];grind
theorem Zrz{i a n:Nat}(ha:a<n):Zcq i a<n+1:=by unfold Zcq;split <;> omega
theorem Zzq(i a:Nat):Zcq i a≠i:=by unfold Zcq;split <;> omega
theorem Zjf{i k:Nat}(h:k≠i):Zcq i (if k<i then k else k-1)=k:=by
 unfold Zcq;by_cases h1:k<i;rw[Gx h1,Gx h1];rw[Gw h1,Gw Gk];omega
theorem Zy1{i a b:Nat}(h:Zcq i a=Zcq i b):a=b:=by unfold Zcq at h;split at h <;> split at h <;> omega
theorem Zba{n:Nat}{M N:Nat->Nat->Rat}(h:∀ a b,a<n->b<n->M a b=N a b):Zay n M=Zay n N:=by
 induction n generalizing M N with
 | zero=>rfl
 | succ n ih =>
  simp only[Zay];refine Zam λi hi=>?_;rw[h i 0 hi Gk,ih (λa b ha hb=>h _ _ (Zrz ha) Gk)]
def Zai(M:Nat->Nat->Rat)(k:Nat)(r:Nat->Rat):Nat->Nat->Rat:=λa b=>if a=k then r b else M a b
theorem Zft{M:Nat->Nat->Rat}{k i:Nat}{r:Nat->Rat}(h:k≠i) :
    (λa b=>Zai M k r (Zcq i a) (b+1))=Zai (λa b=>M (Zcq i a) (b+1)) (if k<i then k else k-1) (λb=>r (b+1)):=by
 funext a b
 unfold Zai;by_cases ha:a=(if k<i then k else k-1);rw[Gx ha,ha,Zjf h,Gx rfl];rw[Gw ha,Gw];intro e;exact ha (Zy1 (i:=i) (by rw[e,Zjf h]))
theorem Zfu{M:Nat->Nat->Rat}{k:Nat}{r:Nat->Rat}:(λa b=>Zai M k r (Zcq k a) (b+1))=(λa b=>M (Zcq k a) (b+1)):=by
 funext a b
 unfold Zai;rw[Gw (Zzq k a)]
theorem Zhg{n:Nat}(M:Nat->Nat->Rat){k:Nat}(hk:k<n)(r s:Nat->Rat)(x y:Rat) :
    Zay n (Zai M k (λb=>x*r b+y*s b))=x*Zay n (Zai M k r)+y*Zay n (Zai M k s):=by
 induction n generalizing M k r s with
 | zero=>omega
 | succ n ih =>
  simp only[Zay];rw[<- Ze5];refine Zam λi hi=>?_;by_cases h:k=i
  ·subst h
   rw[Zfu,Zfu,Zfu];simp only[Zai,if_true]
   grind
  rw[Zft h,Zft h,Zft h];rw[ih (λa b=>M (Zcq i a) (b+1)) (k:=if k<i then k else k-1) (by split <;> omega) (λb=>r (b+1)) (λb=>s (b+1))];simp only[Zai,Gw (show ¬ i=k from λe=>h e.symm)]
  grind
theorem Zxe(i:Nat):sgnQ (i+1)=- sgnQ i:=by
 unfold sgnQ;rcases Nat.mod_two_eq_zero_or_one i with h|h;rw[Gx h,Gw Gk];rw[Gw (by omega:¬ i%2=0),Gx Gk];grind
theorem Zr5{n:Nat}{M:Nat->Nat->Rat}{k:Nat}(hk:k+1<n)(h:∀ b,M (k+1) b=M k b):Zay n M=0:=by
 induction n generalizing M k with
 | zero=>omega
 | succ n ih =>
  simp only[Zay];rw[Z0l k hk]
  ·have hm:(λa b=>M (Zcq k a) (b+1))=(λa b=>M (Zcq (k+1) a) (b+1)):=by
     funext a b
     by_cases ha:a=k
     ·subst ha
      simp only[Zcq,Gw (QL a),Gx (QR a)];exact h _
     have:Zcq k a=Zcq (k+1) a:=by unfold Zcq;split <;> split <;> omega
     rw[this]
   rw[hm,h 0,Zxe];grind
  intro i hi h1 h2;rw[ih (M:=λa b=>M (Zcq i a) (b+1)) (k:=if k<i then k else k-1)]
  ·grind
  ·split <;> omega
  intro b;have e1:Zcq i (if k<i then k else k-1)=k:=Zjf (Qw h1);have e2:Zcq i ((if k<i then k else k-1)+1)=k+1:=by unfold Zcq;split <;> split <;> omega
  rw[e1,e2];exact h _
theorem Zed(M:Nat->Nat->Rat)(k:Nat):Zai M k (M k)=M:=by
 funext a b;unfold Zai;split
 rename_i h;rw[h];rfl
theorem Zcf(M:Nat->Nat->Rat){k l:Nat}(h:k≠l)(r s:Nat->Rat):Zai (Zai M k r) l s=Zai (Zai M l s) k r:=by
 funext a b;unfold Zai
 by_cases h1:a=k;subst h1;simp[h];simp[h1]
theorem Zm9{n:Nat}(M:Nat->Nat->Rat){k:Nat}(hk:k<n)(r s:Nat->Rat) :
    Zay n (Zai M k (λb=>r b+s b))=Zay n (Zai M k r)+Zay n (Zai M k s):=by
 have:=Zhg M hk r s 1 1;rw[show (λb=>r b+s b)=(λb=>1*r b+1*s b) by funext b;grind,this];grind
theorem Zj6{n:Nat}{k l:Nat}(hk:k<n)(hl:l<n)(hne:k≠l)(hz:∀ (M:Nat->Nat->Rat),(∀ b,M k b=M l b)->Zay n M=0)(M:Nat->Nat->Rat)(r s:Nat->Rat) :
    Zay n (Zai (Zai M k r) l s)=- Zay n (Zai (Zai M k s) l r):=by
 have h:=hz (Zai (Zai M k (λb=>r b+s b)) l (λb=>r b+s b)) (λb=>by simp[Zai,hne]);have h1:=hz (Zai (Zai M k r) l r) (λb=>by simp[Zai,hne]);have h2:=hz (Zai (Zai M k s) l s) (λb=>by simp[Zai,hne]);rw[Zm9 _ hl,Zcf _ hne,Zcf _ hne,Zm9 _ hk,Zm9 _ hk,<- Zcf _ hne,<- Zcf _ hne,<- Zcf _ hne,<- Zcf _ hne,h1,h2]at h
 grind
theorem Zlz{n:Nat}:∀ (d:Nat) (M:Nat->Nat->Rat) (k:Nat),k+d+1<n->(∀ b,M k b=M (k+d+1) b)->Zay n M=0:=by
 intro d
 induction d with
 | zero=>intro M k hk h;exact Zr5 hk (λb=>(h b).symm)
 | succ d ih =>
  intro M k hk h;have h1:=Zj6 (n:=n) (k:=k+d+1) (l:=k+d+2) Gk Gk Gk (λM h=>Zr5 (k:=k+d+1) Gk (λb=>(h b).symm)) M (M (k+d+1)) (M (k+d+2));rw[Zed,Zed]at h1;rw[h1,ih _ k Gk]
  ·grind
  intro b;have:=h b;rw[show k+(d+1)+1=k+d+2 by omega]at this;simp only[Zai];rw[Gw Gk,Gw Gk,Gw Gk];simpa using this
theorem Zkj{n:Nat}{M:Nat->Nat->Rat}{k l:Nat}(hk:k<n)(hl:l<n)(hne:k≠l)(h:∀ b,M k b=M l b):Zay n M=0:=by
 rcases QM hne with h1|h1;exact Zlz (l-k-1) M k Gk (λb=>by rw[show k+(l-k-1)+1=l by omega];exact h b);exact Zlz (k-l-1) M l Gk (λb=>by rw[show l+(k-l-1)+1=k by omega];exact(h b).symm)
theorem Zyn{n:Nat}(M:Nat->Nat->Rat){k l:Nat}(hk:k<n)(hl:l<n)(hne:k≠l):Zay n (Zai (Zai M k (M l)) l (M k))=- Zay n M:=by
 have h:=Zj6 hk hl hne (λM h=>Zkj hk hl hne h) M (M l) (M k);rw[h];congr 1;rw[Zed];congr 1
 funext a b
 unfold Zai
 split
 rename_i h;rw[h];rfl
theorem Zsu{n:Nat}(M:Nat->Nat->Rat){k l:Nat}(hk:k<n)(hl:l<n)(hne:k≠l)(c:Rat):Zay n (Zai M k (λb=>M k b+c*M l b))=Zay n M:=by
 have h:=Zhg M hk (M k) (M l) 1 c
 rw[show (λb=>M k b+c*M l b)=(λb=>1*M k b+c*M l b) by funext b;grind,h,Zed,
  Zkj (M:=Zai M k (M l)) hk hl hne (λb=>by simp[Zai,Qw hne])]
 grind
theorem Ik{G:Prop}(h:G:=by
 by_cases ha:a=l;simp[ha];rw[Gw ha,Gw ha];by_cases h1:a<m;rw[Gx h1,Gx Gk];rw[Gw h1,Gw Gk]):G:=h
theorem FR{G:Prop}(h:G:=by
 unfold Zai;by_cases ha:a=m;subst ha;simp[fo];rw[Gw ha];by_cases bU:a=l;simp[bU];rw[Gw bU];by_cases h1:a<m;rw[Gx Gk];simp[bU,h1];rw[Gw Gk];simp[bU,h1]):G:=h
theorem Znx{n:Nat}(M:Nat->Nat->Rat){l:Nat}(hl:l<n)(c:Nat->Rat):Zay n (λa b=>if a=l then M a b else M a b+c a*M l b)=Zay n M:=by
 have key:∀ m,m<=n->Zay n (λa b=>if a=l then M a b else if a<m then M a b+c a*M l b else M a b)=Zay n M:=by
  intro m
  induction m with
  | zero=>intro _;congr 1;funext a b;split <;> rfl
  | succ m ih =>
   intro hm;have h0:=ih Gk;by_cases fo:m=l
   ·rw[<- h0];congr 1;funext a b
    exact Ik
   have h1:=Zsu (n:=n) (λa b=>if a=l then M a b else if a<m then M a b+c a*M l b else M a b) (k:=m) (l:=l) Gk hl fo (c m);rw[h0]at h1;rw[<- h1];congr 1;funext a b;exact FR
 rw[<- key n (Qb _)];exact Zba λa b ha hb=>by rw[Gx ha]
def Zbd:Nat->(Nat->Rat)->Rat
 | 0,_=>1
 | n+1,f=>Zbd n f*f n
theorem Zdf{n:Nat}{f g:Nat->Rat}(h:∀ i,i<n->f i=g i):Zbd n f=Zbd n g:=by
 induction n with
 | zero=>rfl
 | succ n ih=>simp only[Zbd];rw[ih (λi hi=>h i Gk),h n Gk]
theorem Zrp{n:Nat}(f:Nat->Rat):Zbd (n+1) f=f 0*Zbd n (λi=>f (i+1)):=by
 induction n generalizing f with
 | zero=>simp only[Zbd];grind
 | succ n ih=>rw[Zbd,ih,Zbd];grind
theorem Zkd{n:Nat}{M:Nat->Nat->Rat}(h:∀ a b,a<n->b<a->M a b=0):Zay n M=Zbd n (λi=>M i i):=by
 induction n generalizing M with
 | zero=>rfl
 | succ n ih =>
  simp only[Zay];rw[Zh1 0 Gk]
  ·rw[Zrp,ih]
   ·have:sgnQ 0=1:=rfl
    rw[this,Zdf (g:=λi=>M (i+1) (i+1)) (λi hi=>by simp only[Zcq];rw[Gw Gk])];grind
   intro a b ha hb;simp only[Zcq];rw[Gw Gk];exact h _ _ Gk Gk
  intro i hi h0;rw[h i 0 hi Gk];grind
def Zaf(Z:List (List Int))(i j:Nat):Int:=(Z[i]?.getD [])[j]?.getD 0
def Zj(R:List (List Rat))(i j:Nat):Rat:=(R[i]?.getD [])[j]?.getD 0
def Zag{α:Type}(l:List α)(i j:Nat):List α:=match l[i]?,l[j]? with
 | some x,some y=>(l.set i y).set j x
 | _,_=>l
def Zry(p row:List Int)(col:Nat)(piv last:Int):List Int:=(Qr row.length).map λk=>Int.fdiv (row[k]?.getD 0*piv-row[col]?.getD 0*p[k]?.getD 0) last
def Zdx(Z:List (List Int))(r col:Nat)(last:Int):List (List Int):=
 (Qr Z.length).map λi=>if i<=r then Z[i]?.getD []else Zry (Z[r]?.getD []) (Z[i]?.getD []) col (Zaf Z r col) last
def Zoi(p row:List Rat)(col:Nat):List Rat:=(Qr row.length).map λk=>if k<col then row[k]?.getD 0 else row[k]?.getD 0-row[col]?.getD 0/p[col]?.getD 0*p[k]?.getD 0
def Zbv(R:List (List Rat))(r col:Nat):List (List Rat):=(Qr R.length).map λi=>if i<=r then R[i]?.getD []else Zoi (R[r]?.getD []) (R[i]?.getD []) col
def Zbt(z:Nat->Bool)(n:Nat):Nat->Nat->Nat
 | 0,k=>k
 | f+1,k=>if k<n/\z k=true then Zbt z n f (k+1)else k
def Zas:Nat->Nat->Nat->List (List Int)->Bool->Int->List (List Int) × Nat × Bool × Int
 | 0,_,r,Z,neg,last=>(Z,r,neg,last)
 | f+1,col,r,Z,neg,last =>
  if r=Z.length then (Z,r,neg,last)
  else if Zbt (λi=>Zaf Z i col == 0) Z.length Z.length r=Z.length then Zas f (col+1) r Z neg last
  else Zas f (col+1) (r+1) (Zdx (Zag Z (Zbt (λi=>Zaf Z i col == 0) Z.length Z.length r) r) r col last) (neg != decide (Zbt (λi=>Zaf Z i col == 0) Z.length Z.length r≠r)) (Zaf Z (Zbt (λi=>Zaf Z i col == 0) Z.length Z.length r) col)
def Zbl:Nat->Nat->Nat->List (List Rat)->Bool->List (List Rat) × Nat × Bool
 | 0,_,r,R,neg=>(R,r,neg)
 | f+1,col,r,R,neg =>
  if r=R.length then (R,r,neg)
  else if Zbt (λi=>Zj R i col == 0) R.length R.length r=R.length then Zbl f (col+1) r R neg
  else Zbl f (col+1) (r+1) (Zbv (Zag R (Zbt (λi=>Zj R i col == 0) R.length R.length r) r) r col) (neg != decide (Zbt (λi=>Zj R i col == 0) R.length R.length r≠r))
theorem Zfb{z:Nat->Bool}{n:Nat}:∀ {f k:Nat},n<=k+f->k<=n->k<=Zbt z n f k/\Zbt z n f k<=n/\(∀ i,k<=i->i<Zbt z n f k->z i=true)/\(Zbt z n f k<n->z (Zbt z n f k)=false)
 | 0,k,h,hk=>by
  obtain rfl:k=n:=Gk;exact⟨Qb _,Qb _,λi h1 h2=>by simp only[Zbt]at h2;omega,λh=>by simp only[Zbt]at h;omega⟩
 | f+1,k,h,hk=>by
  unfold Zbt;by_cases hc:k<n/\z k=true
  ·rw[Gx hc]
   obtain⟨h1,h2,h3,h4⟩:=Zfb (z:=z) (n:=n) (f:=f) (k:=k+1) Gk Gk;refine⟨by omega,h2,λi hi1 hi2=>?_,h4⟩;by_cases hik:i=k;rw[hik];exact hc.2;exact h3 i Gk hi2
  rw[Gw hc];refine⟨Qb _,hk,λi h1 h2=>by omega,λhkn=>?_⟩;cases hz:z k with
  | false=>rfl
  | true=>exact absurd ⟨hkn,hz⟩ hc
theorem Zml{z:Nat->Bool}{n f k q:Nat}(h:n<=k+f)(hk:k<=q)(hq:q<=n)(h1:∀ i,k<=i->i<q->z i=true)(h2:q<n->z q=false):Zbt z n f k=q:=by
 obtain⟨a,b,c,d⟩:=Zfb (z:=z) h (Qe hk hq);rcases Nat.lt_trichotomy (Zbt z n f k) q with h3|h3|h3;have:=d Gk;rw[h1 _ a h3]at this;cases this;exact h3;have:=c q hk h3;rw[h2 Gk]at this;cases this
theorem Zr6{y z:Nat->Bool}{n f k:Nat}(h:n<=k+f)(hk:k<=n)(he:∀ i,k<=i->i<n->y i=z i):Zbt y n f k=Zbt z n f k:=by
 obtain⟨a,b,c,d⟩:=Zfb (z:=z) h hk;exact Zml h a b (λi h1 h2=>by rw[he i h1 Gk];exact c i h1 h2) (λh1=>by rw[he _ a h1];exact d h1)
def BndQ(B:Nat)(q:Rat):Prop:=∃ z:Int,q=(z:Rat)/\z.natAbs<=B
theorem BndQ.add{B C:Nat}{p q:Rat}(h:BndQ B p)(k:BndQ C q):BndQ (B+C) (p+q):=by
 obtain⟨a,rfl,h1⟩:=h;obtain⟨b,rfl,h2⟩:=k;exact⟨a+b,by rw[Rat.intCast_add],by omega⟩
theorem BndQ.mul{B C:Nat}{p q:Rat}(h:BndQ B p)(k:BndQ C q):BndQ (B*C) (p*q):=by
 obtain⟨a,rfl,h1⟩:=h;obtain⟨b,rfl,h2⟩:=k;exact⟨a*b,by rw[Qn],by rw[Int.natAbs_mul];exact Qq h1 h2⟩
theorem BndQ.mono{B C:Nat}{q:Rat}(h:BndQ B q)(hBC:B<=C):BndQ C q:=by obtain⟨a,h1,h2⟩:=h;exact⟨a,h1,by omega⟩
def Zbr(B:Nat):Nat->Nat
 | 0=>1
 | n+1=>(n+1)*(B*Zbr B n)
theorem Zto{B n:Nat}{f:Nat->Rat}(h:∀ i,i<n->BndQ B (f i)):BndQ (n*B) (Za7 n f):=by
 induction n with
 | zero=>exact⟨0,rfl,by simp⟩
 | succ n ih=>rw[Nat.succ_mul];exact(ih λi hi=>h i Gk).add (h n Gk)
theorem Z08(i:Nat):BndQ 1 (sgnQ i):=by unfold sgnQ;split;exact⟨1,rfl,by decide⟩;exact⟨-1,rfl,by decide⟩
theorem Zhn{B n:Nat}{M:Nat->Nat->Rat}(h:∀ a b,a<n->b<n->BndQ B (M a b)):BndQ (Zbr B n) (Zay n M):=by
 induction n generalizing M with
 | zero=>exact⟨1,rfl,by simp[Zbr]⟩
 | succ n ih =>
  simp only[Zay,Zbr];refine Zto λi hi=>?_;have:=((Z08 i).mul (h i 0 hi Gk)).mul (ih (M:=λa b=>M (Zcq i a) (b+1)) λa b ha hb=>h _ _ (Zrz ha) Gk)
  rwa [Nat.one_mul]at this
theorem Zc7{B m n:Nat}(hB:1<=B)(h:m<=n):Zbr B m<=Zbr B n:=by
 induction n with
 | zero=>obtain rfl:m=0:=by omega
         exact Qb _
 | succ n ih =>
  by_cases hm:m=n+1;rw[hm];exact Qb _;refine Qe (ih Gk) ?_;simp only[Zbr]
  calc Zbr B n=1*(1*Zbr B n):=Gh
   _<=(n+1)*(B*Zbr B n):=Qq Gk (Qq hB (Qb _))
def swI(k r i:Nat):Nat:=if i=k then r else if i=r then k else i
theorem Zqw(k r i:Nat):swI k r (swI k r i)=i:=by
 unfold swI;by_cases h1:i=k
 ·subst h1
  by_cases h2:i=r;simp[h2];simp[Qw h2]
 by_cases h2:i=r;subst h2;simp[h1];simp[h1,h2]
theorem Zd1{α:Type}{l:List α}{k r:Nat}(hk:k<l.length)(hr:r<l.length)(i:Nat):(Zag l k r)[i]?=l[swI k r i]?:=by
 unfold Zag;rw[Qc hk,Qc hr];simp only;unfold swI;rw[QP,QP,List.length_set];by_cases h1:r=i
 ·subst h1
  rw[Gx rfl,Gx hr];by_cases h2:r=k;subst h2;simp[hr];rw[Gw h2,Gx rfl,Qc hk]
 rw[Gw h1];by_cases h2:k=i;subst h2;simp[hk,hr];rw[Gw h2,Gw (Qw h2),Gw (Qw h1)]
theorem Zef{α:Type}(l:List α)(k r:Nat):(Zag l k r).length=l.length:=by unfold Zag;split <;> simp
theorem Zhy{k r i n:Nat}(hk:k<n)(hr:r<n)(hi:i<n):swI k r i<n:=by unfold swI;split <;> (try split) <;> omega
structure EIR (B S n m col r:Nat) (R:List (List Rat)) (pc:Nat->Nat) (G:Nat->Nat->Rat) (s:Nat->Rat):Prop where
 len:R.length=n
 row:∀ i,i<n->(R[i]?.getD []).length=m
 pcl:∀ l,l<r->pc l<col
 inc:∀ l l',l<l'->l'<r->pc l<pc l'
 low:∀ i j,r<=i->i<n->j<col->Zj R i j=0
 bef:∀ l j,l<r->j<pc l->Zj R l j=0
 piv:∀ l,l<r->Zj R l (pc l)≠0
 rn:r<=n
 cm:col<=m
 sB:∀ i,i<n->BndQ S (s i)/\s i≠0
 gB:∀ i j,i<n->BndQ B (G i j)
 det:∀ (N:Nat) (f σ:Nat->Nat),(∀ a,a<N->σ a<n)->(∀ a,a<r->σ a=a)->(∀ a,r<=a->r<=σ a)->Zay N (λa b=>s (σ a)*Zj R (σ a) (f b))=Zay N (λa b=>G (σ a) (f b))
def Zet(R:List (List Rat))(pc:Nat->Nat)(s:Nat->Rat)(l:Nat):Rat:=Zbd l (λi=>s i*Zj R i (pc i))
section
variable{B S n m col r:Nat}{R:List (List Rat)}{pc:Nat->Nat}{G:Nat->Nat->Rat}{s:Nat->Rat}
theorem EIR.minor_eq(h:EIR B S n m col r R pc G s){i:Nat}(hi:i<n)(j:Nat) :
    Zet R pc s (min i r)*(s i*Zj R i j)=Zay (min i r+1) (λa b=>G (if a<min i r then a else i) (if b<min i r then pc b else j)):=by
 obtain⟨q,hq⟩:∃ q,q=min i r:=⟨_,rfl⟩;rw[<- hq];have e:=h.rn
 have hd:=h.det (q+1) (λb=>if b<q then pc b else j) (λa=>if a<r then a else if i<r then a else i)
  (λa ha=>by
   by_cases h1:a<r;rw[Gx h1];omega
   ·rw[Gw h1];by_cases h2:i<r
    omega;rw[Gw h2];exact hi) (λa ha=>by rw[Gx ha]) (λa ha=>by
   rw[Gw Gk];by_cases h2:i<r;rw[Gx h2];exact ha;rw[Gw h2];omega)
 have hσ:∀ a,a<q+1->(if a<r then a else if i<r then a else i)=if a<q then a else i:=by
  intro a ha;by_cases h1:a<q;rw[Gx h1,Gx Gk];rw[Gw h1];by_cases h2:i<r;rw[Gx Gk];omega;rw[Gw Gk,Gw h2]
 rw[<- Zba (M:=λa b=>G (if a<r then a else if i<r then a else i) (if b<q then pc b else j)) (N:=λa b=>G (if a<q then a else i) (if b<q then pc b else j)) (λa b ha hb=>by rw[hσ a ha])];rw[<- hd,Zkd]
 ·rw[Zbd]
  unfold Zet;congr 1
  ·refine Zdf λa ha=>?_
   rw[Gx ha,Gx Gk]
  rw[Gw (QL q)];have:=hσ q (QR q);rw[Gw (QL q)]at this;rw[this]
 intro a b ha hb;rw[Gx (by omega:b<q),hσ a ha];by_cases h1:a<q;rw[Gx h1,h.bef a (pc b) Gk (h.inc b a hb Gk)];grind;rw[Gw h1];by_cases h2:i<r;rw[h.bef i (pc b) h2 (h.inc b i Gk h2)];grind;rw[h.low i (pc b) Gk hi (h.pcl b Gk)];grind
theorem EIR.minor(h:EIR B S n m col r R pc G s){i:Nat}(hi:i<n)(j:Nat):BndQ (Zbr B (min i r+1)) (Zet R pc s (min i r)*(s i*Zj R i j)):=by
 rw[h.minor_eq hi j];refine Zhn λa b ha hb=>h.gB _ _ ?_
 split <;> omega
theorem EIR.piv_ne(h:EIR B S n m col r R pc G s){l:Nat}(hl:l<=r):Zet R pc s l≠0:=by
 induction l with
 | zero=>unfold Zet Zbd;grind
 | succ l ih =>
  have h1:=ih Gk;have h2:=h.piv l Gk;have h3:=(h.sB l (by have:=h.rn;omega)).2;unfold Zet at h1 ⊢;rw[Zbd];intro h0;rcases Rat.mul_eq_zero.1 h0 with h0|h0;exact h1 h0;rcases Rat.mul_eq_zero.1 h0 with h0|h0;exact h3 h0;exact h2 h0
theorem EIR.pivL_bnd(h:EIR B S n m col r R pc G s){l:Nat}(hl:l<=r):BndQ (Zbr B l) (Zet R pc s l):=by
 cases l with
 | zero=>exact⟨1,rfl,by simp[Zbr]⟩
 | succ l =>
  have h1:=h.minor (i:=l) (by have:=h.rn;omega) (pc l);rw[show min l r=l by omega]at h1;unfold Zet at h1 ⊢;rw[Zbd];exact h1
theorem FI{G:Prop}(h:G:=by
 refine Nat.le_trans (Nat.div_le_self _ _) ?_;rw[Int.natAbs_mul];rcases Int.lt_or_gt_of_ne h with g|g;rw[Int.sign_eq_neg_one_of_neg g];simp;rw[Int.sign_eq_one_of_pos g];simp):G:=h
theorem numQ_le(a b:Int)(h:b≠0):(Qo a b).num.natAbs<=a.natAbs:=by
 rw[Rat.num_divInt,Int.natAbs_ediv_of_dvd];exact FI;exact Int.dvd_trans (Int.gcd_dvd_right _ _) (Int.dvd_mul_left _ _)
theorem Zfl{B C:Nat}{p q:Rat}(h:BndQ B (q*p))(k:BndQ C q)(hq:q≠0):p.num.natAbs<=B/\p.den<=C:=by
 obtain⟨a,h1,h2⟩:=h;obtain⟨b,h3,h4⟩:=k;have hb:b≠0:=by rintro rfl;rw[h3]at hq;exact hq rfl
 have hp:p=Qo a b:=by
  rw[Qv,<- h1,h3];have:(b:Rat)≠0:=by rw[<- h3];exact hq
  grind
 rw[hp];constructor;exact Qe (numQ_le a b hb) h2;rw[Rat.den_divInt,Gw hb];exact Qe (QV _ _) h4
theorem EIR.bound(h:EIR B S n m col r R pc G s)(hB:1<=B){i:Nat}(hi:i<n)(j:Nat):(Zj R i j).num.natAbs<=Zbr B n/\(Zj R i j).den<=Zbr B n*S:=by
 have h1:=h.minor hi j;have h2:=h.pivL_bnd (l:=min i r) Gk;have h3:=h.sB i hi;have h4:=h.piv_ne (l:=min i r) Gk;rw[<- Rat.mul_assoc]at h1
 have h5:=Zfl h1 (h2.mul h3.1) (λh0=>by
  rcases Rat.mul_eq_zero.1 h0 with h0|h0;exact h4 h0;exact h3.2 h0)
 have h6:=Zc7 hB (show min i r+1<=n by omega);have h7:=Zc7 hB (show min i r<=n by omega);exact⟨by omega,Qe h5.2 (Qq h7 (Qb _))⟩
theorem Zig{k r:Nat}(hk:k<R.length)(hr:r<R.length)(i j:Nat):Zj (Zag R k r) i j=Zj R (swI k r i) j:=by
 unfold Zj;rw[Zd1 hk hr]
theorem Zmw{k r i:Nat}(hk:r<=k)(hi:i<r):swI k r i=i:=by unfold swI;rw[Gw Gk,Gw Gk]
theorem Zq9{k r i:Nat}(hk:r<=k)(hi:r<=i):r<=swI k r i:=by unfold swI;split <;> (try split) <;> omega
theorem EIR.skip(h:EIR B S n m col r R pc G s)(hc:col<m)(hz:∀ i,r<=i->i<n->Zj R i col=0):EIR B S n m (col+1) r R pc G s:=
 { h with
  pcl:=λl hl=>by have:=h.pcl l hl;omega
  cm:=hc
  low:=λi j hi hn hj=>by
   by_cases hjc:j=col;rw[hjc];exact hz i hi hn;exact h.low i j hi hn Gk }
theorem EIR.swap(h:EIR B S n m col r R pc G s){k:Nat}(hk:k<n)(hrk:r<=k):EIR B S n m col r (Zag R k r) pc (λi j=>G (swI k r i) j) (λi=>s (swI k r i)):=by
 have hr:r<n:=Gk;have hl:=h.len;have he:∀ i j,Zj (Zag R k r) i j=Zj R (swI k r i) j:=Zig Gk Gk;have e:∀ {i},i<n->swI k r i<n:=λhi=>Zhy hk hr hi;refine⟨by rw[Zef];exact hl,λi hi=>by rw[Zd1 Gk Gk];exact h.row _ (e hi),h.pcl,h.inc,λi j hi hn hj=>?_,λl j hl' hj=>?_,λl hl'=>?_,h.rn,h.cm,λi hi=>h.sB _ (e hi),λi j hi=>h.gB _ _ (e hi),λN f σ h1 h2 h3=>?_⟩;rw[he];exact h.low _ _ (Zq9 hrk hi) (e hn) hj;rw[he,Zmw hrk hl'];exact h.bef l j hl' hj;rw[he,Zmw hrk hl'];exact h.piv l hl';have:=h.det N f (λa=>swI k r (σ a)) (λa ha=>e (h1 a ha)) (λa ha=>by rw[h2 a ha,Zmw hrk ha]) (λa ha=>Zq9 hrk (h3 a ha));rw[<- this];exact Zba λa b _ _=>by rw[he]
theorem Zgv(hrow:∀ i,i<R.length->(R[i]?.getD []).length=m)(hlow:∀ j,j<col->Zj R r j=0)(i j:Nat)(hi:i<R.length)(hr:r<R.length) :
    Zj (Zbv R r col) i j=if i<=r then Zj R i j else Zj R i j-Zj R i col/Zj R r col*Zj R r j:=by
 unfold Zbv;show ((List.map _ (Qr R.length))[i]?.getD [])[j]?.getD 0=_;rw[Qd,Ql hi];simp only[Qk,Qh];by_cases h1:i<=r;rw[Gx h1,Gx h1];rfl;rw[Gw h1,Gw h1];unfold Zoi;rw[Qd];by_cases hj:j<(R[i]?.getD []).length
 ·rw[Ql hj]
  simp only[Qk,Qh];by_cases hjc:j<col
  ·rw[Gx hjc,hlow j hjc]
   show Zj R i j=_
   grind
  rw[Gw hjc];rfl
 rw[Qf (l:=Qr _) (by simpa using hj)];simp only[QG,QD];have e1:Zj R i j=0:=by unfold Zj;rw[Qf Gk];rfl
 have e2:Zj R r j=0:=by unfold Zj;rw[Qf (by rw[hrow i hi]at hj;rw[hrow r hr];omega)];rfl
 rw[e1,e2];grind
theorem Ze8:(Zbv R r col).length=R.length:=by unfold Zbv;simp
theorem Znj(i:Nat)(hi:i<R.length):((Zbv R r col)[i]?.getD []).length=(R[i]?.getD []).length:=by
 unfold Zbv;rw[Qd,Ql hi];simp only[Qk,Qh]
 split
 rfl;unfold Zoi;simp
theorem EIR.clear(h:EIR B S n m col r R pc G s)(hc:col<m)(hr:r<n)(hp:Zj R r col≠0):EIR B S n m (col+1) (r+1) (Zbv R r col) (λl=>if l=r then col else pc l) G s:=by
 have hl:=h.len
 have he:∀ i j,i<n->Zj (Zbv R r col) i j=if i<=r then Zj R i j else Zj R i j-Zj R i col/Zj R r col*Zj R r j:=
  λi j hi=>Zgv (m:=m) (λi hi=>h.row i Gk) (λj hj=>h.low r j (Qb _) hr hj) i j Gk Gk
 refine⟨by rw[Ze8];exact hl,λi hi=>by rw[Znj i Gk];exact h.row i hi,λl hl'=>?_,λl l' h1 h2=>?_,λi j hi hn hj=>?_,λl j hl' hj=>?_,λl hl'=>?_,hr,hc,h.sB,h.gB,λN f σ h1 h2 h3=>?_⟩
 ·split
  omega;have:=h.pcl l Gk;omega
 ·rw[Gw (by omega:¬ l=r)]
  split
  exact h.pcl l Gk;exact h.inc l l' h1 Gk
 ·rw[he i j hn,Gw Gk]
  by_cases hjc:j=col;rw[hjc];grind;rw[h.low i j Gk hn Gk,h.low r j (Qb _) hr Gk];grind
 ·rw[he l j Gk,Gx Gk]
  by_cases hlr:l=r
  ·rw[hlr];simp only[hlr,if_true]at hj
   exact h.low r j (Qb _) hr hj
  simp only[Gw hlr]at hj;exact h.bef l j Gk hj
 ·rw[he l _ Gk,Gx Gk]
  by_cases hlr:l=r;simp only[hlr,if_true];exact hp;simp only[Gw hlr];exact h.piv l Gk
 rw[<- h.det N f σ h1 (λa ha=>h2 a (by omega)) (λa ha=>by
   by_cases har:a=r;rw[har,h2 r Gk];exact Qb _;have:=h3 a Gk;omega)]
 by_cases hN:N<=r
 ·refine Zba λa b ha hb=>?_
  rw[he _ _ (h1 a ha),Gx];rw[h2 a Gk];omega
 have hσr:σ r=r:=h2 r Gk;rw[<- Znx (λa b=>s (σ a)*Zj R (σ a) (f b)) (l:=r) (n:=N) Gk (λa=>if a<=r then 0 else-(s (σ a)*Zj R (σ a) col/(s r*Zj R r col)))];refine Zba λa b ha hb=>?_;rw[he _ _ (h1 a ha)];by_cases har:a<=r
 ·rw[h2 a Gk,Gx har]
  simp only[Gx har]
  split
  rfl
  grind
 have:=h3 a Gk;rw[Gw Gk,Gw Gk,Gw har,hσr];have hs:=(h.sB r hr).2
 grind
structure EIZ (n m r:Nat) (R:List (List Rat)) (pc:Nat->Nat) (s:Nat->Rat) (Z:List (List Int)) (last:Int):Prop where
 len:Z.length=n
 row:∀ i,i<n->(Z[i]?.getD []).length=m
 last:(last:Rat)=Zet R pc s r
 ent:∀ i j,i<n->(Zaf Z i j:Rat)=Zet R pc s (min i r)*(s i*Zj R i j)
theorem Znz{R':List (List Rat)}{pc':Nat->Nat}{s':Nat->Rat}{l:Nat}(h:∀ i,i<l->s i*Zj R i (pc i)=s' i*Zj R' i (pc' i)):Zet R pc s l=Zet R' pc' s' l:=Zdf h
theorem Zgq{a b:Int}(h:(a:Rat)=(b:Rat)):a=b:=by exact_mod_cast h
theorem EIZ.last_ne{Z:List (List Int)}{last:Int}(h:EIR B S n m col r R pc G s)(k:EIZ n m r R pc s Z last):last≠0:=by
 rintro rfl;exact h.piv_ne (Qb r) (k.last.symm.trans rfl)
theorem EIZ.last_bnd{Z:List (List Int)}{last:Int}(h:EIR B S n m col r R pc G s)(k:EIZ n m r R pc s Z last)(hB:1<=B):last.natAbs<=Zbr B n:=by
 obtain⟨z,h1,h2⟩:=h.pivL_bnd (Qb r);rw[<- k.last]at h1;rw[Zgq h1];exact Qe h2 (Zc7 hB h.rn)
theorem EIZ.bnd{Z:List (List Int)}{last:Int}(h:EIR B S n m col r R pc G s)(k:EIZ n m r R pc s Z last)(hB:1<=B){i:Nat}(hi:i<n)(j:Nat):(Zaf Z i j).natAbs<=Zbr B n:=by
 obtain⟨z,h1,h2⟩:=h.minor hi j;rw[<- k.ent i j hi]at h1;rw[Zgq h1];exact Qe h2 (Zc7 hB Gk)
theorem EIZ.zero{Z:List (List Int)}{last:Int}(h:EIR B S n m col r R pc G s)(k:EIZ n m r R pc s Z last){i:Nat}(hi:i<n)(j:Nat):(Zaf Z i j == 0)=(Zj R i j == 0):=by
 have h1:=k.ent i j hi;have h2:=h.piv_ne (l:=min i r) Gk;have h3:=(h.sB i hi).2;by_cases h0:Zj R i j=0
 ·rw[h0]at h1 ⊢
  have:Zaf Z i j=0:=Zgq (by rw[h1];grind);rw[this];rfl
 have:Zaf Z i j≠0:=by
   intro hz;rw[hz]at h1;rcases Rat.mul_eq_zero.1 h1.symm with h4|h4;exact h2 h4;rcases Rat.mul_eq_zero.1 h4 with h4|h4;exact h3 h4;exact h0 h4
 rw[beq_eq_false_iff_ne.2 this,beq_eq_false_iff_ne.2 h0]
theorem Zh8{Z:List (List Int)}{k r:Nat}(hk:k<Z.length)(hr:r<Z.length)(i j:Nat):Zaf (Zag Z k r) i j=Zaf Z (swI k r i) j:=by
 unfold Zaf;rw[Zd1 hk hr]
theorem EIZ.swap{Z:List (List Int)}{last:Int}(h:EIR B S n m col r R pc G s)(q:EIZ n m r R pc s Z last){k:Nat}(hk:k<n)(hrk:r<=k):EIZ n m r (Zag R k r) pc (λi=>s (swI k r i)) (Zag Z k r) last:=by
 have hr:r<n:=Gk;have hl:=h.len;have e:=q.len;have he:∀ i j,Zj (Zag R k r) i j=Zj R (swI k r i) j:=Zig Gk Gk;have hp:∀ l,l<=r->Zet (Zag R k r) pc (λi=>s (swI k r i)) l=Zet R pc s l:=λl hl=>Znz λi hi=>by rw[he,Zmw hrk Gk]
 refine⟨by rw[Zef];exact e,λi hi=>by rw[Zd1 Gk Gk];exact q.row _ (Zhy hk hr hi),?_,λi j hi=>?_⟩;rw[hp r (Qb r)];exact q.last;rw[hp _ Gk,he,Zh8 Gk Gk,q.ent _ j (Zhy hk hr hi)]
 have:min (swI k r i) r=min i r:=by
  by_cases hir:i<r;rw[Zmw hrk hir];have:=Zq9 (i:=i) hrk Gk;omega
 rw[this]
theorem Zu0{Z:List (List Int)}{last:Int}(hrow:∀ i,i<Z.length->(Z[i]?.getD []).length=m)(i j:Nat)(hi:i<Z.length) :
    Zaf (Zdx Z r col last) i j=if i<=r then Zaf Z i j else if j<m then Int.fdiv (Zaf Z i j*Zaf Z r col-Zaf Z i col*Zaf Z r j) last else 0:=by
 unfold Zdx;show ((List.map _ (Qr Z.length))[i]?.getD [])[j]?.getD 0=_;rw[Qd,Ql hi];simp only[Qk,Qh];by_cases h1:i<=r;rw[Gx h1,Gx h1];rfl;rw[Gw h1,Gw h1];unfold Zry;rw[Qd];by_cases hj:j<(Z[i]?.getD []).length;rw[Ql hj,Gx (by rw[hrow i hi]at hj;exact hj)];rfl;rw[Qf (l:=Qr _) (by simpa using hj),Gw (by rw[hrow i hi]at hj;exact hj)];rfl
theorem Zi7{Z:List (List Int)}{last:Int}:(Zdx Z r col last).length=Z.length:=by unfold Zdx;simp
theorem Zvp{Z:List (List Int)}{last:Int}(i:Nat)(hi:i<Z.length):((Zdx Z r col last)[i]?.getD []).length=(Z[i]?.getD []).length:=by
 unfold Zdx;rw[Qd,Ql hi];simp only[Qk,Qh]
 split
 rfl;unfold Zry;simp
theorem Zsc(hrow:∀ i,i<n->(R[i]?.getD []).length=m){i j:Nat}(hi:i<n)(hj:m<=j):Zj R i j=0:=by
 unfold Zj;rw[Qf (by rw[hrow i hi];exact hj)];rfl
theorem EIZ.clear{Z:List (List Int)}{last:Int}(h:EIR B S n m col r R pc G s)(q:EIZ n m r R pc s Z last)(hc:col<m)(hr:r<n)(hp:Zj R r col≠0) :
    EIZ n m (r+1) (Zbv R r col) (λl=>if l=r then col else pc l) s (Zdx Z r col last) (Zaf Z r col):=by
 have hl:=h.len;have C:=q.len;have h':=h.clear hc hr hp
 have he:∀ i j,i<n->Zj (Zbv R r col) i j=if i<=r then Zj R i j else Zj R i j-Zj R i col/Zj R r col*Zj R r j:=
  λi j hi=>Zgv (m:=m) (λi hi=>h.row i Gk) (λj hj=>h.low r j (Qb _) hr hj) i j Gk Gk
 have u:∀ l,l<=r->Zet (Zbv R r col) (λl=>if l=r then col else pc l) s l=Zet R pc s l:=λl hl=>Znz λi hi=>by
  rw[he _ _ Gk,Gx Gk,Gw Gk]
 have e:Zet (Zbv R r col) (λl=>if l=r then col else pc l) s (r+1)=Zet R pc s r*(s r*Zj R r col):=by
  rw[Zet,Zbd];have:=u r (Qb r);unfold Zet at this;rw[this,he _ _ hr,Gx (Qb r),Gx rfl];rfl
 refine⟨by rw[Zi7];exact C,λi hi=>by rw[Zvp i Gk];exact q.row i hi,?_,λi j hi=>?_⟩;rw[e,q.ent r col hr,show min r r=r by omega];rw[Zu0 (m:=m) (λi hi=>q.row i Gk) i j Gk];by_cases hir:i<=r;rw[Gx hir,u _ Gk,he _ _ hi,Gx hir,q.ent i j hi,show min i (r+1)=min i r by omega];rw[Gw hir];by_cases hj:j<m
 ·rw[Gx hj]
  obtain⟨z,f,-⟩:=h'.minor hi j;rw[show min i (r+1)=r+1 by omega,e,he _ _ hi,Gw hir]at f;have y:=q.last_ne h;have e1:=q.ent i j hi;have e2:=q.ent r col hr;have e3:=q.ent i col hi;have e4:=q.ent r j hr;have e5:=q.last;rw[show min i r=r by omega]at e1 e3;rw[show min r r=r by omega]at e2 e4
  have o:Zaf Z i j*Zaf Z r col-Zaf Z i col*Zaf Z r j=last*z:=Zgq (by
   rw[Rat.intCast_sub,Qn,Qn,Qn,e1,e2,e3,e4,e5,<- f]
   grind)
  rw[o,Int.mul_comm,Int.mul_fdiv_cancel _ y,<- f,show min i (r+1)=r+1 by omega,e,he _ _ hi,Gw hir]
 rw[Gw hj,Zsc (n:=n) h'.row hi Gk];have:((0:Int):Rat)=0:=rfl;rw[this];grind
end
def BdZ(C m:Nat)(Z:List (List Int)):Prop:=(∀ i,i<Z.length->(Z[i]?.getD []).length=m)/\∀ i j,(Zaf Z i j).natAbs<C
def BdR(C D m:Nat)(R:List (List Rat)):Prop:=(∀ i,i<R.length->(R[i]?.getD []).length=m)/\∀ i j,(Zj R i j).num.natAbs<C/\(Zj R i j).den<D
def okZ(C m:Nat):Nat->Nat->Nat->List (List Int)->Int->Prop
 | 0,_,_,Z,last=>BdZ C m Z/\last≠0/\last.natAbs<C
 | f+1,col,r,Z,last=>BdZ C m Z/\(last≠0/\last.natAbs<C)/\(r=Z.length \/
     (Zbt (λi=>Zaf Z i col == 0) Z.length Z.length r=Z.length->okZ C m f (col+1) r Z last) /\
     (Zbt (λi=>Zaf Z i col == 0) Z.length Z.length r≠Z.length->okZ C m f (col+1) (r+1) (Zdx (Zag Z (Zbt (λi=>Zaf Z i col == 0) Z.length Z.length r) r) r col last) (Zaf Z (Zbt (λi=>Zaf Z i col == 0) Z.length Z.length r) col)))
def okR(C D m:Nat):Nat->Nat->Nat->List (List Rat)->Prop
 | 0,_,_,R=>BdR C D m R
 | f+1,col,r,R=>BdR C D m R/\(r=R.length \/
     (Zbt (λi=>Zj R i col == 0) R.length R.length r=R.length->okR C D m f (col+1) r R) /\
     (Zbt (λi=>Zj R i col == 0) R.length R.length r≠R.length->okR C D m f (col+1) (r+1) (Zbv (Zag R (Zbt (λi=>Zj R i col == 0) R.length R.length r) r) r col)))
def sgB(b:Bool):Rat:=if b then -1 else 1
theorem Zx3{n k r:Nat}(f:Nat->Rat)(hk:k<n)(hr:r<n):Zbd n (λi=>f (swI k r i))=Zbd n f:=by
 by_cases e:k=r
 ·subst e;refine Zdf λi _=>?_
  unfold swI;split;rename_i h;rw[h];rfl
 have key:∀ n (f:Nat->Rat) k r,k<r->r<n->Zbd n (λi=>f (swI k r i))=Zbd n f:=by
   intro n
   induction n with
   | zero=>intro f k r _ h;omega
   | succ n ih =>
    intro f k r e hr;by_cases hrn:r=n
    ·subst hrn
     have o:∀ (m:Nat) (g h:Nat->Rat),k<m->(∀ i,i<m->i≠k->g i=h i)->Zbd m g*h k=Zbd m h*g k:=by
      intro m
      induction m with
      | zero=>intro g h hk _;omega
      | succ m ihm =>
       intro g h hk he;simp only[Zbd];by_cases hkm:k=m
       ·subst hkm
        rw[Zdf (f:=g) (g:=h) (λi hi=>he i Gk Gk)];grind
       have:=ihm g h Gk (λi hi=>he i Gk);rw[he m Gk Gk];grind
     simp only[Zbd];have e1:swI k r r=k:=by unfold swI;rw[Gw Gk,Gx rfl]
     have e2:swI k r k=r:=by unfold swI;rw[Gx rfl]
     have:=o r (λi=>f (swI k r i)) f e (λi hi hik=>by unfold swI;rw[Gw hik,Gw Gk]);simp only[e2]at this;rw[e1];exact this
    simp only[Zbd];rw[ih f k r e Gk];have:swI k r n=n:=by unfold swI;rw[Gw Gk,Gw Gk]
    rw[this]
 rcases QM e with h|h;exact key n f k r h hr;have:∀ i,swI k r i=swI r k i:=λi=>by unfold swI;split <;> split <;> omega
 rw[<- key n f r k h hk];exact Zdf λi _=>by rw[this]
theorem Z1a{n k r:Nat}(M:Nat->Nat->Rat)(hk:k<n)(hr:r<n):Zay n (λa b=>M (swI k r a) b)=if k=r then Zay n M else-Zay n M:=by
 by_cases hkr:k=r
 ·subst hkr
  rw[Gx rfl];refine Zba λa b _ _=>?_;unfold swI;split;rename_i h;rw[h];rfl
 rw[Gw hkr,<- Zyn M hk hr hkr];congr 1
 funext a b
 unfold swI Zai;by_cases h1:a=k;subst h1;rw[Gx rfl,Gw hkr,Gx rfl];rw[Gw h1];by_cases h2:a=r;rw[Gx h2,Gx h2];rw[Gw h2,Gw h2,Gw h1]
theorem EIR.bdR{B S n m col r:Nat}{R:List (List Rat)}{pc:Nat->Nat}{G:Nat->Nat->Rat}{s:Nat->Rat}(h:EIR B S n m col r R pc G s)(hB:1<=B)(hS:1<=S):BdR (Zbr B n+1) (Zbr B n*S+1) m R:=by
 have hl:=h.len;refine⟨λi hi=>h.row i Gk,λi j=>?_⟩;by_cases hi:i<n;have:=h.bound hB hi j;omega;have:Zj R i j=0:=by unfold Zj;rw[Qf (l:=R) Gk];rfl
 have h1:1<=Zbr B n:=Zc7 (m:=0) hB Gk;have h2:1*1<=Zbr B n*S:=Qq h1 hS;rw[this];refine⟨by simp,?_⟩;rw[show (0:Rat).den=1 from rfl];omega
theorem EIZ.bdZ{B S n m col r:Nat}{R:List (List Rat)}{pc:Nat->Nat}{G:Nat->Nat->Rat}{s:Nat->Rat}{Z:List (List Int)}{last:Int}(h:EIR B S n m col r R pc G s)(k:EIZ n m r R pc s Z last)(hB:1<=B):BdZ (Zbr B n+1) m Z:=by
 have hl:=k.len;refine⟨λi hi=>k.row i Gk,λi j=>?_⟩;by_cases hi:i<n;have:=k.bnd h hB hi j;omega;have:Zaf Z i j=0:=by unfold Zaf;rw[Qf (l:=Z) Gk];rfl
 rw[this];simp
theorem Zk8{B S n m:Nat}(hB:1<=B)(hS:1<=S):∀ (f col r:Nat) (R:List (List Rat)) (pc:Nat->Nat) (G:Nat->Nat->Rat) (s:Nat->Rat) (Z:List (List Int)) (neg:Bool) (last:Int),
    EIR B S n m col r R pc G s->EIZ n m r R pc s Z last->col+f<=m ->
    okZ (Zbr B n+1) m f col r Z last/\okR (Zbr B n+1) (Zbr B n*S+1) m f col r R /\
    (Zas f col r Z neg last).2.1=(Zbl f col r R neg).2.1/\(Zas f col r Z neg last).2.2.1=(Zbl f col r R neg).2.2 /\
    ∃ e u G' s',EIR B S n m e (Zbl f col r R neg).2.1 (Zbl f col r R neg).1 u G' s'/\EIZ n m (Zbl f col r R neg).2.1 (Zbl f col r R neg).1 u s' (Zas f col r Z neg last).1 (Zas f col r Z neg last).2.2.2 /\
     (e=col+f \/ (Zbl f col r R neg).2.1=n/\e<=col+f)/\Zbd n s'=Zbd n s/\(∀ φ:Nat->Nat,sgB (Zbl f col r R neg).2.2*Zay n (λa b=>G' a (φ b))=sgB neg*Zay n (λa b=>G a (φ b)))
 | 0,col,r,R,pc,G,s,Z,neg,last,h,k,hm=>by
  have h1:=k.last_bnd h hB;exact⟨⟨k.bdZ h hB,k.last_ne h,by omega⟩,h.bdR hB hS,rfl,rfl,col,pc,G,s,h,k,.inl rfl,rfl,λφ=>rfl⟩
 | f+1,col,r,R,pc,G,s,Z,neg,last,h,k,hm=>by
  have y:=h.len;have T:=k.len;have h1:=k.last_bnd h hB;have U:=h.rn
  have C:Zbt (λi=>Zaf Z i col == 0) Z.length Z.length r=Zbt (λi=>Zj R i col == 0) R.length R.length r:=by
   rw[y,T];exact Zr6 Gk U (λi h1 h2=>k.zero h h2 col)
  unfold Zas Zbl okZ okR;simp only[C];rw[y]at C ⊢;simp only[T];by_cases hr:r=n
  ·simp only[Gx hr]
   exact⟨⟨k.bdZ h hB,⟨k.last_ne h,by omega⟩,.inl hr⟩,⟨h.bdR hB hS,.inl hr⟩,(by trivial),(by trivial),col,pc,G,s,h,k,.inr ⟨hr,by omega⟩,rfl,λφ=>rfl⟩
  simp only[Gw hr];obtain⟨q,hq⟩:∃ q,Zbt (λi=>Zj R i col == 0) n n r=q:=⟨_,rfl⟩;obtain⟨p1,p2,p3,p4⟩:=Zfb (z:=λi=>Zj R i col == 0) (n:=n) (f:=n) (k:=r) Gk Gk;rw[hq]at p1 p2 p3 p4;simp only[hq];by_cases hqn:q=n
  ·simp only[Gx hqn]
   have hz:∀ i,r<=i->i<n->Zj R i col=0:=λi h1 h2=>by simpa using p3 i h1 Gk
   obtain⟨o1,o2,o3,o4,e,u,G',s',o5,o6,o7,o8,o9⟩:=Zk8 hB hS f (col+1) r R pc G s Z neg last (h.skip Gk hz) k Gk;exact⟨⟨k.bdZ h hB,⟨k.last_ne h,by omega⟩,.inr ⟨λ_=>o1,λhn=>absurd hqn hn⟩⟩,⟨h.bdR hB hS,.inr ⟨λ_=>o2,λhn=>absurd hqn hn⟩⟩,o3,o4,e,u,G',s',o5,o6,by omega,o8,o9⟩
  simp only[Gw hqn];have o:q<n:=Gk;have J:Zj R q col≠0:=by simpa using p4 o
  have O:=h.swap o p1;have ksw:=k.swap h o p1
  have I:Zj (Zag R q r) r col=Zj R q col:=by
   rw[Zig Gk Gk];congr 1;unfold swI;split;rename_i h;exact h;rw[Gx rfl]
  have V:Zaf (Zag Z q r) r col=Zaf Z q col:=by
   rw[Zh8 Gk Gk];congr 1;unfold swI;split;rename_i h;exact h;rw[Gx rfl]
  have Y:=O.clear Gk Gk (by rw[I];exact J);have kcl:=ksw.clear O Gk Gk (by rw[I];exact J);rw[V]at kcl;obtain⟨o1,o2,o3,o4,e,u,G',s',o5,o6,o7,o8,o9⟩:=Zk8 hB hS f (col+1) (r+1) _ _ _ _ _ (neg != decide (q≠r)) _ Y kcl Gk;refine⟨⟨k.bdZ h hB,⟨k.last_ne h,by omega⟩,.inr ⟨λhn=>absurd hn hqn,λ_=>o1⟩⟩,⟨h.bdR hB hS,.inr ⟨λhn=>absurd hn hqn,λ_=>o2⟩⟩,o3,o4,e,u,G',s',o5,o6,by omega,?_,λφ=>?_⟩;rw[o8,Zx3 s o Gk];rw[o9,Z1a (λa b=>G a (φ b)) o Gk];by_cases hqr:q=r
  ·rw[Gx hqr]
   have:decide (q≠r)=false:=by simp[hqr]
   rw[this];cases neg <;> rfl
  rw[Gw hqr];have:decide (q≠r)=true:=by simp[hqr]
  rw[this];cases neg <;> simp[sgB] <;> grind
def denTo(row:List Rat):Nat->Nat
 | 0=>1
 | k+1=>denTo row k*((row[k]?.getD 0).den/Qu (denTo row k) (row[k]?.getD 0).den)
def Zd7(row:List Rat):List Int:=row.map λf=>f.num*((denTo row row.length/f.den:Nat):Int)
def Z8(R:List (List Rat)):List (List Int):=R.map Zd7
def denAt(R:List (List Rat))(i:Nat):Nat:=denTo (R[i]?.getD []) (R[i]?.getD []).length
theorem Zeg(row:List Rat)(k:Nat):0<denTo row k:=by
 induction k with
 | zero=>exact Nat.one_pos
 | succ k ih =>
  refine Nat.mul_pos ih (Nat.div_pos (Nat.le_of_dvd (Rat.den_pos _) (QA _ _)) (QF _ ih))
theorem Znl(row:List Rat)(k:Nat):denTo row k ∣ denTo row (k+1)/\(row[k]?.getD 0).den ∣ denTo row (k+1):=by
 refine⟨⟨_,rfl⟩,?_⟩;obtain⟨c,hc⟩:=Nat.gcd_dvd_left (denTo row k) (row[k]?.getD 0).den;refine⟨c,?_⟩;simp only[denTo];obtain⟨d,hd⟩:=QA (denTo row k) (row[k]?.getD 0).den;have hg:0<Qu (denTo row k) (row[k]?.getD 0).den:=QF _ (Zeg row k)
 have e:(row[k]?.getD 0).den/Qu (denTo row k) (row[k]?.getD 0).den=d:=by
  rw[Nat.div_eq_iff_eq_mul_left hg (QA _ _),Nat.mul_comm];exact hd
 rw[e]
 calc denTo row k*d=(Qu (denTo row k) (row[k]?.getD 0).den*c)*d:=by rw[<- hc]
  _=(Qu (denTo row k) (row[k]?.getD 0).den*d)*c:=by rw[Nat.mul_assoc,Nat.mul_assoc,Nat.mul_comm c d]
  _=(row[k]?.getD 0).den*c:=by rw[<- hd]
theorem Zlh(row:List Rat){j:Nat}:∀ {k:Nat},j<k->(row[j]?.getD 0).den ∣ denTo row k
 | 0,h=>by omega
 | k+1,h=>by
  by_cases hj:j=k;rw[hj];exact(Znl row k).2;exact Nat.dvd_trans (Zlh row (j:=j) (k:=k) Gk) (Znl row k).1
theorem Zrs(row:List Rat){D:Nat}(h:∀ j:Nat,(row[j]?.getD 0).den<=D)(k:Nat):denTo row k<=D^k:=by
 induction k with
 | zero=>exact Qb _
 | succ k ih =>
  rw[Nat.pow_succ];exact Qq ih (Qe (QV _ _) (h k))
theorem Zku(row:List Rat):(Zd7 row).length=row.length:=by unfold Zd7;simp
theorem Zq3(row:List Rat)(j:Nat):(((Zd7 row)[j]?.getD 0:Int):Rat)=(denTo row row.length:Nat)*row[j]?.getD 0:=by
 unfold Zd7;rw[Qd];by_cases hj:j<row.length
 ·rw[Qc hj]
  simp only[Qk,Qh];have hd:=Zlh row hj;rw[Qc hj]at hd;simp only[Qh]at hd;obtain⟨c,hc⟩:=hd;rw[hc,Nat.mul_div_cancel_left _ (Rat.den_pos _),Qn,Qm,QW];have e0:((row[j].num:Int):Rat)/((row[j].den:Nat):Rat)=row[j]:=by have:=Qt row[j];rw[Qv,Qm]at this;exact this
  have e1:((row[j].den:Nat):Rat)≠0:=by
   intro h;have:row[j].den=0:=by exact_mod_cast h
   have:=row[j].den_pos;omega
  have e2:((row[j].num:Int):Rat)=row[j]*((row[j].den:Nat):Rat):=by rw[<- e0];grind
  rw[e2];grind
 rw[Qf Gk];simp only[QG,QD];have:((0:Int):Rat)=0:=rfl;rw[this];grind
theorem Zgu(R:List (List Rat))(i j:Nat):((Zaf (Z8 R) i j:Int):Rat)=(denAt R i:Nat)*Zj R i j:=by
 unfold Zaf Z8 Zj denAt;rw[Qd];cases h:R[i]? with
 | none=>simp only[Option.map_none,Option.getD_none,List.getElem?_nil];have:((0:Int):Rat)=0:=rfl
         rw[this];grind
 | some row=>simp only[Qk,Qh];exact Zq3 row j
theorem Znt{B S n m:Nat}(R:List (List Rat))(hl:R.length=n)(hrow:∀ i,i<n->(R[i]?.getD []).length=m)(hS:∀ i,i<n->denAt R i<=S)(hBd:∀ i j,i<n->(Zaf (Z8 R) i j).natAbs<=B) :
    EIR B S n m 0 0 R (λ_=>0) (λi j=>(denAt R i:Nat)*Zj R i j) (λi=>(denAt R i:Nat))/\EIZ n m 0 R (λ_=>0) (λi=>(denAt R i:Nat)) (Z8 R) 1:=by
 refine⟨⟨hl,hrow,λl h=>by omega,λl l' _ h=>by omega,λi j _ _ h=>by omega,λl j h=>by omega,λl h=>by omega,QH _,QH _,λi hi=>⟨⟨(denAt R i:Nat),by rw[Qm],by rw[Qz];exact hS i hi⟩,λh0=>?_⟩,λi j hi=>⟨_,(Zgu R i j).symm,hBd i j hi⟩,λN f σ _ _ _=>rfl⟩,⟨by unfold Z8;simp[hl],λi hi=>?_,rfl,λi j hi=>?_⟩⟩
 ·have:denAt R i=0:=by exact_mod_cast h0
  have:=Zeg (R[i]?.getD []) (R[i]?.getD []).length;unfold denAt at *;omega
 ·unfold Z8
  rw[Qd,Qc Gk];simp only[Qk,Qh];rw[Zku];have:=hrow i hi;rw[Qc Gk]at this;exact this
 rw[Zgu];have:Zet R (λ_=>0) (λi=>((denAt R i:Nat):Rat)) (min i 0)=1:=by rw[show min i 0=0 by omega];rfl
 rw[this];grind
def byZ(R:List (List Rat)):Nat->Nat
 | 0=>1
 | k+1=>byZ R k*denAt R k
theorem Z07(R:List (List Rat))(k:Nat):((byZ R k:Nat):Rat)=Zbd k (λi=>((denAt R i:Nat):Rat)):=by
 induction k with
 | zero=>rfl
 | succ k ih=>simp only[byZ,Zbd];rw[QW,ih]
theorem byZ_pos(R:List (List Rat))(k:Nat):0<byZ R k:=by
 induction k with
 | zero=>exact Nat.one_pos
 | succ k ih=>exact Nat.mul_pos ih (Zeg _ _)
theorem Zve{n:Nat}{f:Nat->Rat}{k:Nat}(hk:k<n)(h:f k=0):Zbd n f=0:=by
 induction n with
 | zero=>omega
 | succ n ih =>
  simp only[Zbd];by_cases hkn:k=n;rw[<- hkn,h];grind;rw[ih Gk];grind
theorem Zuc{n:Nat}(M:Nat->Nat->Rat)(s:Nat->Rat):Zay n (λa b=>s a*M a b)=Zbd n s*Zay n M:=by
 have key:∀ m,m<=n->Zay n (λa b=>if a<m then s a*M a b else M a b)=Zbd m s*Zay n M:=by
  intro m
  induction m with
  | zero=>intro _;simp only[Zbd];rw[Zba (N:=M) (λa b _ _=>Gw (QX a))];grind
  | succ m ih =>
   intro hm;have h0:=ih Gk;have h1:=Zhg (n:=n) (λa b=>if a<m then s a*M a b else M a b) (k:=m) Gk (M m) (M m) (s m) 0
   have e1:Zai (λa b=>if a<m then s a*M a b else M a b) m (λb=>s m*M m b+0*M m b)=λa b=>if a<m+1 then s a*M a b else M a b:=by
    funext a b
    unfold Zai;by_cases ha:a=m;subst ha;rw[Gx rfl,Gx Gk];grind;rw[Gw ha];by_cases h2:a<m;rw[Gx Gk];simp only[Gx h2];rw[Gw Gk];simp only[Gw h2]
   have e2:Zai (λa b=>if a<m then s a*M a b else M a b) m (M m)=λa b=>if a<m then s a*M a b else M a b:=by
    funext a b
    unfold Zai;by_cases ha:a=m;subst ha;rw[Gx rfl,Gw Gk];rw[Gw ha]
   rw[e1,e2,h0]at h1;rw[h1];simp only[Zbd];grind
 rw[<- key n (Qb _)];exact Zba λa b ha _=>by rw[Gx ha]
section
variable{B S n m:Nat}
theorem EIR.diag{col:Nat}{R:List (List Rat)}{pc:Nat->Nat}{G:Nat->Nat->Rat}{s:Nat->Rat}(h:EIR B S n m col n R pc G s)(hc:col<=n){l:Nat}(hl:l<n):pc l=l:=by
 have h1:∀ l,l<n->l<=pc l:=by
  intro l
  induction l with
  | zero=>intro _;omega
  | succ l ih=>intro hl;have:=ih Gk;have:=h.inc l (l+1) Gk hl;omega
 have h2:∀ d l,l+d+1=n->pc l+d<n:=by
  intro d
  induction d with
  | zero=>intro l hl;have:=h.pcl l Gk;omega
  | succ d ih=>intro l hl;have:=ih (l+1) Gk;have:=h.inc l (l+1) Gk Gk;omega
 have:=h1 l hl;have:=h2 (n-l-1) l Gk;omega
end
structure AltF (n:Nat) (F:(Nat->Nat->Rat)->Rat):Prop where
 congr:∀ {M N:Nat->Nat->Rat},(∀ a b,a<n->b<n->M a b=N a b)->F M=F N
 lin:∀ (M:Nat->Nat->Rat) (k:Nat),k<n->∀ (r s:Nat->Rat) (x y:Rat),F (Zai M k (λb=>x*r b+y*s b))=x*F (Zai M k r)+y*F (Zai M k s)
 two:∀ (M:Nat->Nat->Rat) (k l:Nat),k<n->l<n->k≠l->(∀ b,M k b=M l b)->F M=0
theorem AltF.det(n:Nat):AltF n (Zay n):=⟨Zba,λM _ hk r s x y=>Zhg M hk r s x y,λ_ _ _ hk hl hne h=>Zkj hk hl hne h⟩
section
variable{n:Nat}{F:(Nat->Nat->Rat)->Rat}
theorem AltF.add(h:AltF n F)(M:Nat->Nat->Rat){k:Nat}(hk:k<n)(r s:Nat->Rat):F (Zai M k (λb=>r b+s b))=F (Zai M k r)+F (Zai M k s):=by
 have:=h.lin M k hk r s 1 1;rw[show (λb=>r b+s b)=(λb=>1*r b+1*s b) by funext b;grind,this];grind
theorem AltF.swap(h:AltF n F){k l:Nat}(hk:k<n)(hl:l<n)(hne:k≠l)(M:Nat->Nat->Rat):F (Zai (Zai M k (M l)) l (M k))=- F M:=by
 obtain⟨r,hr⟩:=Gz (M l);obtain⟨s,hs⟩:=Gz (M k);have h0:=h.two (Zai (Zai M k (λb=>r b+s b)) l (λb=>r b+s b)) k l hk hl hne (λb=>by simp[Zai,hne]);have h1:=h.two (Zai (Zai M k r) l r) k l hk hl hne (λb=>by simp[Zai,hne]);have h2:=h.two (Zai (Zai M k s) l s) k l hk hl hne (λb=>by simp[Zai,hne]);rw[h.add _ hl,Zcf _ hne,Zcf _ hne,h.add _ hk,h.add _ hk,<- Zcf _ hne,<- Zcf _ hne,<- Zcf _ hne,<- Zcf _ hne,h1,h2]at h0;rw[hr,hs];have e:Zai (Zai M k s) l r=M:=by rw[<- hs,Zed,<- hr,Zed]
 rw[e]at h0
 grind
theorem AltF.addrow(h:AltF n F)(M:Nat->Nat->Rat){k l:Nat}(hk:k<n)(hl:l<n)(hne:k≠l)(c:Rat):F (Zai M k (λb=>M k b+c*M l b))=F M:=by
 have h1:=h.lin M k hk (M k) (M l) 1 c
 rw[show (λb=>M k b+c*M l b)=(λb=>1*M k b+c*M l b) by funext b;grind,h1,Zed,
  h.two (Zai M k (M l)) k l hk hl hne (λb=>by simp[Zai,Qw hne])]
 grind
theorem AltF.clear(h:AltF n F)(M:Nat->Nat->Rat){l:Nat}(hl:l<n)(c:Nat->Rat):F (λa b=>if a=l then M a b else M a b+c a*M l b)=F M:=by
 have key:∀ m,m<=n->F (λa b=>if a=l then M a b else if a<m then M a b+c a*M l b else M a b)=F M:=by
  intro m
  induction m with
  | zero=>intro _;exact h.congr λa b _ _=>by split <;> rfl
  | succ m ih =>
   intro hm;have h0:=ih Gk;by_cases fo:m=l
   ·rw[<- h0];refine h.congr λa b _ _=>?_
    exact Ik
   have h1:=h.addrow (λa b=>if a=l then M a b else if a<m then M a b+c a*M l b else M a b) (k:=m) (l:=l) Gk hl fo (c m);rw[h0]at h1;rw[<- h1];refine h.congr λa b _ _=>?_;exact FR
 rw[<- key n (Qb _)];exact h.congr λa b ha hb=>by rw[Gx ha]
end
theorem Zz5(n:Nat)(A:Nat->Nat->Rat):∀ c,c<=n->∃ (U:Nat->Nat->Rat) (e:Rat),(∀ i j,i<n->j<c->j<i->U i j=0)/\∀ F,AltF n F->F A=e*F U:=by
 intro c
 induction c with
 | zero=>intro _;exact⟨A,1,λi j _ h=>by omega,λF _=>by grind⟩
 | succ c ih =>
  intro hc;obtain⟨U,e,h1,h2⟩:=ih Gk
  have clr:∀ V:Nat->Nat->Rat,(∀ i j,i<n->j<c->j<i->V i j=0)->V c c≠0->∃ (U:Nat->Nat->Rat),(∀ i j,i<n->j<c+1->j<i->U i j=0)/\∀ F,AltF n F->F V=F U:=by
   intro V hV hp;refine⟨λa b=>if a=c then V a b else V a b+(if a<c then 0 else -(V a c/V c c))*V c b,λi j hi hj hji=>?_,λF hF=>(hF.clear V Gk _).symm⟩;by_cases hic:i=c;subst hic;simp only[if_true];exact hV i j hi Gk hji;simp only[Gw hic];by_cases hlt:i<c;rw[Gx hlt,hV i j hi Gk hji];grind;rw[Gw hlt];by_cases hjc:j=c;subst hjc;grind;rw[hV i j hi Gk hji,hV c j Gk Gk Gk];grind
  by_cases hz:∀ i,c<i->i<n->U i c=0
  ·refine⟨U,e,λi j hi hj hji=>?_,h2⟩
   by_cases hjc:j=c;subst hjc;exact hz i hji hi;exact h1 i j hi Gk hji
  by_cases hp:U c c=0
  ·obtain⟨k,C,u,y⟩:∃ k,c<k/\k<n/\U k c≠0:=by
     refine Classical.byContradiction λhn=>hz λi h1 h2=>Classical.byContradiction λh3=>hn ⟨i,h1,h2,h3⟩
   obtain⟨V,f,o⟩:=clr (Zai (Zai U c (U k)) k (U c)) (λi j hi hj hji=>by
    unfold Zai;by_cases hik:i=k;rw[Gx hik];exact h1 c j Gk hj Gk
    ·rw[Gw hik]
     by_cases hic:i=c;rw[Gx hic];exact h1 k j u hj Gk;rw[Gw hic];exact h1 i j hi hj hji) (by
    unfold Zai;rw[Gw Gk,Gx rfl];exact y)
   refine⟨V,-e,f,λF hF=>?_⟩;rw[h2 F hF,<- o F hF,hF.swap Gk u Gk];grind
  obtain⟨V,f,o⟩:=clr U h1 hp;exact⟨V,e,f,λF hF=>by rw[h2 F hF,o F hF]⟩
def Zbu(a b:Nat):Rat:=if a=b then 1 else 0
theorem AltF.tri{n:Nat}{F:(Nat->Nat->Rat)->Rat}(h:AltF n F):∀ t,t<=n->∀ U:Nat->Nat->Rat,(∀ i j,i<n->j<i->U i j=0)->(∀ i j,t<=i->i<n->U i j=Zbu i j)->F U=Zbd t (λi=>U i i)*F Zbu
 | 0,_,U,_,h2=>by
  rw[h.congr (N:=Zbu) (λa b ha hb=>h2 a b (QH _) ha)];simp only[Zbd];grind
 | t+1,ht,U,h1,h2=>by
  -- row t is cleared by the rows behind it
  have key:∀ c,c<=n->F (Zai U t (λb=>if t<b/\b<c then 0 else U t b))=F U:=by
   intro c
   induction c with
   | zero=>intro _;refine h.congr λa b _ _=>?_
           unfold Zai;by_cases ha:a=t;rw[Gx ha,ha];simp only[QX,and_false,if_false];rw[Gw ha]
   | succ c ih =>
    intro hc;have h0:=ih Gk;by_cases htc:t<c
    ·have h3:=h.addrow (Zai U t (λb=>if t<b/\b<c then 0 else U t b)) (k:=t) (l:=c) Gk Gk Gk (-(U t c))
     rw[h0]at h3;rw[<- h3];refine h.congr λa b _ hb=>?_;unfold Zai;by_cases ha:a=t
     ·subst ha
      simp only[if_true];rw[Gw (by omega:¬ c=a),h2 c b Gk Gk];unfold Zbu;by_cases hbc:c=b;subst hbc;rw[Gx Gk,Gw Gk,Gx rfl];grind;rw[Gw hbc];by_cases hb2:a<b/\b<c;rw[Gx Gk,Gx hb2];grind;rw[Gw Gk,Gw hb2];grind
     rw[Gw ha,Gw ha,Gw ha]
    rw[<- h0];refine h.congr λa b _ _=>?_;unfold Zai;by_cases ha:a=t
    ·rw[Gx ha,Gx ha]
     simp only[Gw (show ¬ (t<b/\b<c+1) by omega),Gw (show ¬ (t<b/\b<c) by omega)]
    rw[Gw ha,Gw ha]
  have hk:=key n (Qb _);have hs:=h.lin U t Gk (Zbu t) (Zbu t) (U t t) 0
  have e1:F (Zai U t (λb=>if t<b/\b<n then 0 else U t b))=F (Zai U t (λb=>U t t*Zbu t b+0*Zbu t b)):=by
   refine h.congr λa b _ hb=>?_;unfold Zai;by_cases ha:a=t
   ·rw[Gx ha,Gx ha]
    unfold Zbu;simp only;by_cases hb1:t=b;subst hb1;rw[Gw Gk,Gx rfl];grind;rw[Gw hb1];by_cases hb2:t<b;rw[Gx ⟨hb2,hb⟩];grind;rw[Gw Gk,h1 t b Gk Gk];grind
   rw[Gw ha,Gw ha]
  have ih:=h.tri t Gk (Zai U t (Zbu t)) (λi j hi hji=>by
   unfold Zai Zbu;split;rw[Gw Gk]
   ·exact h1 i j hi hji) (λi j hti hi=>by
   unfold Zai;split;rename_i h;rw[h];exact h2 i j Gk hi)
  rw[<- hk,e1,hs,ih];rw[Zbd,Zdf (f:=λi=>Zai U t (Zbu t) i i) (g:=λi=>U i i) (λi hi=>by unfold Zai;rw[Gw Gk])]
  grind
theorem Zs5(n:Nat):Zay n Zbu=1:=by
 rw[Zkd (λa b _ h=>by unfold Zbu;rw[Gw Gk])]
 have:∀ m,Zbd m (λi=>Zbu i i)=1:=by
  intro m
  induction m with
  | zero=>rfl
  | succ m ih=>simp only[Zbd];rw[ih];unfold Zbu;rw[Gx rfl];grind
 exact this n
theorem AltF.eq{n:Nat}{F:(Nat->Nat->Rat)->Rat}(h:AltF n F)(A:Nat->Nat->Rat):F A=Zay n A*F Zbu:=by
 obtain⟨U,e,h1,h2⟩:=Zz5 n A n (Qb _);have h3:=h.tri n (Qb _) U (λi j hi hj=>h1 i j hi Gk hj) (λi j h1 h2=>by omega);have h4:=(AltF.det n).tri n (Qb _) U (λi j hi hj=>h1 i j hi Gk hj) (λi j h1 h2=>by omega);rw[h2 F h,h2 _ (AltF.det n),h3,h4,Zs5];grind
def Zth(k:Nat)(A B:Nat->Nat->Rat):Nat->Nat->Rat:=λi j=>Za7 k (λl=>A i l*B l j)
theorem det_mul(n:Nat)(A B:Nat->Nat->Rat):Zay n (Zth n A B)=Zay n A*Zay n B:=by
 have hF:AltF n (λM=>Zay n (Zth n M B)):=by
  refine⟨λ{M N} h=>Zba λa b ha hb=>Zam λl hl=>by rw[h a l ha hl],λM k hk r s x y=>?_,λM k l hk hl hne h=>Zkj hk hl hne (λb=>Zam λi hi=>by rw[h i])⟩
  have e:∀ q:Nat->Rat,Zth n (Zai M k q) B=Zai (Zth n M B) k (λb=>Za7 n (λl=>q l*B l b)):=by
   intro q
   funext a b
   unfold Zth Zai;by_cases ha:a=k
   ·rw[Gx ha];refine Zam λl _=>by rw[Gx ha]
   rw[Gw ha];refine Zam λl _=>by rw[Gw ha]
  rw[e,e,e,<- Zhg (Zth n M B) hk];congr 2
  funext b
  rw[<- Ze5];exact Zam λl _=>by grind
 have:=hF.eq A;rw[this];congr 1;refine Zba λa b ha hb=>?_;unfold Zth;rw[Zh1 a ha (λi _ hi=>by unfold Zbu;rw[Gw (Qw hi)];grind)];unfold Zbu;rw[Gx rfl];grind
theorem Z03{n:Nat}(A:Nat->Nat->Rat)(x y:Nat->Rat)(h:∀ i,i<n->Za7 n (λj=>A i j*x j)=y i){k:Nat}(hk:k<n):Zay n A*x k=Zay n (λa b=>if b=k then y a else A a b):=by
 have hT:Zay n (λa b=>if b=k then x a else Zbu a b)=x k:=by
  -- rows a: unit a+x a at column k;row k: x k at column k
  have h1:=(AltF.det n).lin (λa b=>if b=k then x a else Zbu a b) k hk (Zbu k) (Zbu k) (x k) 0
  have e1:Zai (λa b=>if b=k then x a else Zbu a b) k (λb=>x k*Zbu k b+0*Zbu k b)=(λa b=>if b=k then x a else Zbu a b):=by
   funext a b
   unfold Zai;by_cases ha:a=k
   ·subst ha;rw[Gx rfl];unfold Zbu
    by_cases hb:b=a;subst hb;simp only[if_true];grind;rw[Gw hb,Gw (Qw hb)];grind
   rw[Gw ha]
  rw[e1]at h1;have h2:=Znx (n:=n) (λa b=>Zbu a b) hk x
  have e2:Zay n (Zai (λa b=>if b=k then x a else Zbu a b) k (Zbu k))=Zay n (λa b=>if a=k then Zbu a b else Zbu a b+x a*Zbu k b):=by
   refine Zba λa b _ _=>?_;unfold Zai;by_cases ha:a=k;rw[Gx ha,Gx ha,ha];rw[Gw ha,Gw ha];unfold Zbu;simp only;by_cases hb:b=k;subst hb;rw[Gx rfl,Gw ha,Gx rfl];grind;rw[Gw hb,Gw (Qw hb)];grind
  rw[e2,h2,Zs5]at h1;rw[h1];grind
 have h3:=det_mul n A (λa b=>if b=k then x a else Zbu a b);rw[hT]at h3;rw[<- h3];refine Zba λa b ha hb=>?_;unfold Zth;by_cases hbk:b=k
 ·rw[Gx hbk,<- h a ha]
  exact Zam λl _=>by simp only;rw[Gx hbk]
 rw[Gw hbk,Zh1 b hb (λi _ hi=>by simp only;rw[Gw hbk];unfold Zbu;rw[Gw hi];grind)];simp only;rw[Gw hbk];unfold Zbu;rw[Gx rfl];grind
theorem CQ{G:Prop}(h:G:=by
 have:=Blk.new ((w.alloc (.cells #[.bool na,.slice A n c] 39)).alloc (.cells #[.bool true,.slice B m d] 39)) 41 #[.bool false,.slice none 0 0,.bool false,.slice none 0 0];exact Et):G:=h
theorem CR{G:Prop}(h:G:=by
 have:=(Blk.new (w.alloc (.cells #[.bool na,.slice A n c] 39)) 39 #[.bool true,.slice B m d]).alloc (.cells #[.bool false,.slice none 0 0,.bool false,.slice none 0 0] 41);exact Et):G:=h
theorem Zqs(na:Bool)(A B:Option Addr)(n c m d:Nat)(za zb:Int)(w:World)(ha:Wd w na A n c za)(hb:Wd w true B m d zb)(h0:zb<0) :
    Calls Tryz.prog 33 #[.agg #[.bool na,.slice A n c],.agg #[.bool true,.slice B m d]] w (Zdp w (Qo za zb)):=by
 have d6:=Zd0 ha.small hb.small;have hx:=Zd (Zkf (a:=za) (b:=zb) Gk);have hy:=Zd (Zjy (a:=za) (b:=zb) Gk);have U:=Zd (Zl7 (a:=za) (b:=zb) Gk);have b2:Zgi za zb=-((Qu za.natAbs zb.natAbs:Nat):Int):=by unfold Zgi;rw[Gx Gk]
 rw[b2]at hx hy U;have HA:=Zd ha;have HB:=Zd hb;obtain⟨G,hG⟩:=Gz (Qu za.natAbs zb.natAbs);rw[hG]at hx hy U d6
 have HGc:Hid (∀ W:World,Wd W na A n c za->Wd W true B m d zb->Calls Tryz.prog 59 #[.agg #[.bool na,.slice A n c],.agg #[.bool true,.slice B m d]] W (ResW W (G:Int))):=λW h1 h2=>by
  have:=Zmc na true A B n c m d za zb W h1 h2;rw[hG]at this;exact this
 generalize Qo za zb=R at *;clear ha hb hG b2;have a6:∀ X Y Z:Obj,Below w.heap.size w (((w.alloc X).alloc Y).alloc Z):=λX Y Z=>(((Below.refl w.heap.size w).alloc (Qb _) _).alloc Gh _).alloc Gg _;have a6:=Zd a6;go_in;go_wp2_with fail;have q0:Blk (((w.alloc (.cells #[.bool na,.slice A n c] 39)).alloc (.cells #[.bool true,.slice B m d] 39)).alloc (.cells #[.bool false,.slice none 0 0,.bool false,.slice none 0 0] 41)) w.heap.size 39 #[.bool na,.slice A n c]:=((Blk.new _ _ _).alloc _).alloc _
 have q1:Blk (((w.alloc (.cells #[.bool na,.slice A n c] 39)).alloc (.cells #[.bool true,.slice B m d] 39)).alloc (.cells #[.bool false,.slice none 0 0,.bool false,.slice none 0 0] 41)) (w.heap.size+1) 39 #[.bool true,.slice B m d]:=by
  exact CR
 have q2:Blk (((w.alloc (.cells #[.bool na,.slice A n c] 39)).alloc (.cells #[.bool true,.slice B m d] 39)).alloc (.cells #[.bool false,.slice none 0 0,.bool false,.slice none 0 0] 41)) (w.heap.size+1+1) 41 #[.bool false,.slice none 0 0,.bool false,.slice none 0 0]:=by
  exact CQ
 refine(HGc.out _ (((HA.out.alloc _).alloc _).alloc _) (((HB.out.alloc _).alloc _).alloc _)).mono ?_;rintro e w1 ⟨u,ng,Ag,kg,cg,code,rfl,hR⟩;rcases hR with ⟨-,rfl,a8⟩|⟨J,-⟩
 case inr=>exact absurd J Gk
 have O:Below w.heap.size w w1:=(a6.out _ _ _).trans (u.mono Gg);have a9:=Zd (HA.out.below O);have c4:=Zd (HB.out.below O);have s1:w.heap.size+1+1<w1.heap.size:=by have:=u.size;simp at this;omega
 replace q0:=Ze u q0;replace q1:=Ze u q1;replace q2:=Ze u q2;have b8:=Zd a8;have s2:w.heap.size+1+1<w1.heap.size:=s1;clear u a8;obtain⟨W3,I,b4,q3,kW,kB,s3⟩:=Zq 39 #[.bool ng,.slice Ag kg cg] O Gk;replace q0:=kB _ _ _ q0;replace q1:=kB _ _ _ q1;replace q2:=kB _ _ _ q2;have y:=Zd (kW _ _ _ _ _ a9.out);have C:=Zd (kW _ _ _ _ _ c4.out);have o:=Zd (kW _ _ _ _ _ b8.out);have s4:w.heap.size+1+1<w1.heap.size:=s2;clear kW kB a9 c4 b8 O;have c0:=Zd q0.two;have c1:=Zd q1.two;have c3:=Zd q3.two;rw[<- I]at c0 c1 c3;obtain⟨a1,a2,-,-⟩:=c0.out;obtain⟨aP,aQ,-,-⟩:=c1.out;obtain⟨aX,aY,-,-⟩:=c3.out;have hq:=Zd (Qj q0 (Qj q1 (Qj q2 q3)));clear q0 q1 q2 q3;replace I:=Zd I;go_wp2_with fail;rw[I.out];refine(rNeg_ok ng Ag kg cg (G:Int) _ o.out).mono ?_;rintro e wn ⟨f,n2,A2,k2,c2,code,rfl,hR⟩;have J:¬ pw 4096<=(-(G:Int)).natAbs:=Gk;rcases hR with ⟨-,rfl,T⟩|⟨a3,-⟩
 case inr=>exact absurd a3 J
 have b1:Below w.heap.size w wn:=b4.trans (f.mono Gk);have HAn:=Zd (y.out.below f);have HBn:=Zd (C.out.below f);replace T:=Zd T;have sn:w1.heap.size+1<=wn.heap.size:=by have:=f.size;omega
 have q0:=Ze f hq.out.1;have q1:=Ze f hq.out.2.1;have q2:=Ze f hq.out.2.2.1;have q3:=Ze f hq.out.2.2.2;clear f c0 c1 c3 a1 a2 aP aQ aX aY I y C o b4 hq;have d3:=Zd q3.two;obtain⟨d5,d7,d4,d8⟩:=d3.out;have d0:w.heap.size≠w1.heap.size:=Gk;have b3:w.heap.size+1≠w1.heap.size:=Gk;have b0:w.heap.size+1+1≠w1.heap.size:=Gk;obtain⟨V,hV,c9,a0,kV,-,sV⟩:=Zaz n2 A2 k2 c2 b1 Gk q3;replace q0:Blk V w.heap.size 39 #[.bool na,.slice A n c]:=by rw[<- hV];exact(q0.far d0 _).far d0 _
 replace q1:Blk V (w.heap.size+1) 39 #[.bool true,.slice B m d]:=by rw[<- hV];exact(q1.far b3 _).far b3 _
 replace q2:Blk V (w.heap.size+1+1) 41 #[.bool false,.slice none 0 0,.bool false,.slice none 0 0]:=by rw[<- hV];exact(q2.far b0 _).far b0 _
 have y:=Zd (kV _ _ _ _ _ HAn.out);have C:=Zd (kV _ _ _ _ _ HBn.out);have o:=Zd (kV _ _ _ _ _ T.out);clear kV HAn HBn T b1;have c0:=Zd q0.two;have c1:=Zd q1.two;have c3:=Zd a0.two;rw[<- hV]at c0 c1 c3;obtain⟨a1,a2,-,-⟩:=c0.out;obtain⟨aP,aQ,-,-⟩:=c1.out;obtain⟨aX,aY,-,-⟩:=c3.out;have hq:=Zd (Qj q0 (Qj q1 (Qj q2 a0)));clear q0 q1 q2 q3 a0 d3;replace hV:=Zd hV;go_wp2_with fail;rw[hV.out];have s3:w1.heap.size+1<=V.heap.size:=Gk;refine(Zgt na n2 A A2 n c k2 c2 za (-(G:Int)) _ y.out o.out U.out).mono ?_;rintro e w4 ⟨h,nx,Ax,kx,cx,nr,Ar,kr,cr,rfl,a4,-⟩;rw[hx.out]at a4;have b5:Below w.heap.size w w4:=c9.trans (h.mono Gk);have c6:=Zd (C.out.below h);have b7:=Zd (o.out.below h);have s5:w1.heap.size+1<=w4.heap.size:=by have:=h.size;omega
 have q1:=Ze h hq.out.2.1;have q2:=Ze h hq.out.2.2.1;have q3:=Ze h hq.out.2.2.2;clear h c0 c1 c3 a1 a2 aP aQ aX aY d5 d7 d4 d8 hV y C o c9 hq;obtain⟨W5,a5,b9,q5,kW,kB,s6⟩:=Zq 39 #[.bool nx,.slice Ax kx cx] b5 Gk;replace q1:=kB _ _ _ q1;replace q2:=kB _ _ _ q2;replace q3:=kB _ _ _ q3;have c7:=Zd (kW _ _ _ _ _ c6.out);have a7:=Zd (kW _ _ _ _ _ b7.out);have b6:=Zd (kW _ _ _ _ _ a4);clear kW kB c6 b7 a4 b5;obtain⟨W6,aI,aM,-,kW,kB,s7⟩:=Zq 39 #[.bool nr,.slice Ar kr cr] b9 Gk;replace q1:=kB _ _ _ q1;replace q2:=kB _ _ _ q2;replace q3:=kB _ _ _ q3;replace q5:=kB _ _ _ q5;have cS:=Zd (kW _ _ _ _ _ c7.out);have cU:=Zd (kW _ _ _ _ _ a7.out);have cf:=Zd (kW _ _ _ _ _ b6.out);clear kW kB c7 a7 b6 b9;have c1:=Zd q1.two;have c3:=Zd q3.two;rw[<- aI,<- a5]at c1 c3;obtain⟨aP,aQ,-,-⟩:=c1.out;obtain⟨aX,aY,-,-⟩:=c3.out;have hq:=Zd (Qj q2 q5);clear q1 q2 q3 q5;rw[<- a5]at aI;replace aI:=Zd aI;clear a5;go_wp2_with fail;rw[aI.out];refine(Zgt true n2 B A2 m d k2 c2 zb (-(G:Int)) _ cS.out cU.out U.out).mono ?_;exact Er
theorem Zq2(na nb:Bool)(A B:Option Addr)(n c m d:Nat)(za zb:Int)(w:World)(ha:Wd w na A n c za)(hb:Wd w nb B m d zb)(h0:zb≠0) :
    Calls Tryz.prog 33 #[.agg #[.bool na,.slice A n c],.agg #[.bool nb,.slice B m d]] w (Zdp w (Qo za zb)):=by
 have hn:=hb.1;by_cases hz:zb<0
 ·rw[Gv hz]at hn
  subst hn;exact Zqs na A B n c m d za zb w ha hb hz
 rw[Gu hz]at hn;subst hn;exact Zdl na A B n c m d za zb w ha hb Gk
theorem Zj3(na nb nc nd:Bool)(A B C D:Option Addr)(n c m d n' c' m' d':Nat)(x y u v:Int)(w:World)(ha:Wd w na A n c x)(hb:Wd w nb B m d y)(hc:Wd w nc C n' c' u)(hd:Wd w nd D m' d' v)
    (hs:(x*y).natAbs<pw 4096) (ht:(u*v).natAbs<pw 4096) (h0:u*v≠0) :
    Calls Tryz.prog 101 #[.agg #[.bool na,.slice A n c],.agg #[.bool nb,.slice B m d],.agg #[.bool nc,.slice C n' c'],.agg #[.bool nd,.slice D m' d']] w (Zev w (Qo (x*y) (u*v))):=by
 obtain⟨W0,a3,h,⟨q0,q1,q2,q3,q4⟩,s0⟩:=alloc5 w 39 #[.bool na,.slice A n c] 39 #[.bool nb,.slice B m d] 39 #[.bool nc,.slice C n' c'] 39 #[.bool nd,.slice D m' d'] 41 #[.bool false,.slice none 0 0,.bool false,.slice none 0 0];have hA:=Zd (Qj (ha.below h) (hb.below h));have hC:=Zd (Qj (hc.below h) (hd.below h));replace hs:=Zd hs;replace ht:=Zd ht;replace h0:=Zd h0;clear ha hb hc hd;obtain⟨a0,a1,-⟩:=q0.two;obtain⟨b0,b1,-⟩:=q1.two;have hq:=Zd (Qj q2 (Qj q3 q4));clear q0 q1 q2 q3 q4;go_in;go_wp2_with fail;refine(Zen na nb A B n c m d x y W0 hA.out.1 hA.out.2).mono ?_;rintro e w1 ⟨f,np,P,k,q,code,rfl,hR⟩;have hP:=Zd (hR.small hs.out);have o:=hR.code0 hs.out;subst o;have O:Below w.heap.size w w1:=Gs h f;have s1:W0.heap.size<=w1.heap.size:=f.size;replace hC:=Zd (Qj (hC.out.1.below f) (hC.out.2.below f));obtain⟨q2,q3,q4⟩:=hq.out;replace q2:=Ze f q2;replace q3:=Ze f q3;replace q4:=Ze f q4;clear a3 f a0 a1 b0 b1 hq hR hs h hA;obtain⟨W2,a2,V,q5,kW,kB,s2⟩:=Zq 39 #[.bool np,.slice P k q] O O.size;replace hC:=Zd (Qj (kW _ _ _ _ _ hC.out.1) (kW _ _ _ _ _ hC.out.2));replace hP:=Zd (kW _ _ _ _ _ hP.out);replace q2:=kB _ _ _ q2;replace q3:=kB _ _ _ q3;replace q4:=kB _ _ _ q4;clear kW kB O;obtain⟨a0,a1,-⟩:=q2.two;obtain⟨b0,b1,-⟩:=q3.two;have hq:=Zd (Qj q4 q5);clear q2 q3 q4 q5;go_wp2_with fail
 refine(Zen nc nd C D n' c' m' d' u v W2 hC.out.1 hC.out.2).mono ?_;rintro e w3 ⟨I,nr,R,k2,r,code,rfl,hR⟩;have hQ:=Zd (hR.small ht.out);have o:=hR.code0 ht.out;subst o;have T:Below w.heap.size w w3:=Gs V I;have s3:W2.heap.size<=w3.heap.size:=I.size;obtain⟨q4,q5⟩:=hq.out;replace q4:=Ze I q4;replace q5:=Ze I q5;replace hP:=Zd (hP.out.below I);clear a2 I a0 a1 b0 b1 hq hR ht V hC;obtain⟨W4,a5,U,q6,kW,kB,s4⟩:=Zq 39 #[.bool nr,.slice R k2 r] T T.size;replace hQ:=Zd (kW _ _ _ _ _ hQ.out);replace hP:=Zd (kW _ _ _ _ _ hP.out);replace q4:=kB _ _ _ q4;replace q5:=kB _ _ _ q5;clear kW kB T;obtain⟨a0,a1,-⟩:=q5.two;obtain⟨b0,b1,-⟩:=q6.two;have hq:=Zd q4;clear q4 q5 q6;go_wp2_with fail;refine(Zq2 np nr P R k q k2 r _ _ W4 hP.out hQ.out h0.out).mono ?_;rintro e w5 ⟨J,nx,Ax,kx,cx,ny,Ay,ky,cy,rfl,hF⟩;have a4:Below w.heap.size w w5:=Gs U J;have s5:W4.heap.size<=w5.heap.size:=J.size;replace hq:=Gm J hq;replace hF:=Zd hF;clear a0 a1 b0 b1 a5 J U hP hQ;obtain⟨b3,b6,b2,b5,b4,a7,a8,a9⟩:=hq.out.four;go_wp2_with fail;obtain⟨W6,Y,a6,q2,kW,-,s6⟩:=Z5 nx Ax kx cx ny Ay ky cy a4 Gk hq.out;rw[Y];obtain⟨r0,r1,r2,r3,-⟩:=q2.four;refine bodyPost_ret (v:=.tuple #[.agg #[.bool nx,.slice Ax kx cx,.bool ny,.slice Ay ky cy],.int .i64 0]) (by simp[results,Tryz.results101,go_sem,r0,r1,r2,r3]) rfl ?_;exact⟨a6,_,_,_,_,_,_,_,_,rfl,kW _ _ _ _ _ hF.out.1,kW _ _ _ _ _ hF.out.2⟩
theorem Zhw(a b:Rat)(h:b≠0):Qo (a.num*b.den) ((a.den:Int)*b.num)=a/b:=by
 rw[Qv,Qn,Qn,Qm,Qm]
 have e0:∀ x:Rat,((x.num:Int):Rat)=x*((x.den:Nat):Rat):=λx=>by
  have h1:((x.num:Int):Rat)/((x.den:Nat):Rat)=x:=by have:=Qt x;rw[Qv,Qm]at this;exact this
  have h2:((x.den:Nat):Rat)≠0:=by intro h;have:x.den=0:=by exact_mod_cast h
                                  have:=x.den_pos;omega
  rw[<- h1];grind
 have d:∀ x:Rat,((x.den:Nat):Rat)≠0:=λx h=>by
  have:x.den=0:=by exact_mod_cast h
  have:=x.den_pos;omega
 rw[e0 a,e0 b];have da:=d a;have db:=d b
 grind
theorem Zjg(a b:Rat)(h:b≠0):((a.den:Int)*b.num)≠0:=by
 have h1:=a.den_pos;have h2:b.num≠0:=λe=>h (Rat.num_eq_zero.1 e);exact Int.mul_ne_zero Gk h2
theorem Z05(na nb na' nb':Bool)(A B A' B':Option Addr)(n c m d n' c' m' d':Nat)(a b:Rat)(w:World)(ha:Fr w na A n c nb B m d a)(hb:Fr w na' A' n' c' nb' B' m' d' b)(sa:Sm a)(sb:Sm b)(h0:b≠0) :
    Calls Tryz.prog 137 #[.agg #[.bool na,.slice A n c,.bool nb,.slice B m d],.agg #[.bool na',.slice A' n' c',.bool nb',.slice B' m' d']] w (Zev w (a/b)):=by
 obtain⟨W0,J,f,⟨q0,q1,q2⟩,s0⟩:=Zb2 w 41 #[.bool na,.slice A n c,.bool nb,.slice B m d] 41 #[.bool na',.slice A' n' c',.bool nb',.slice B' m' d'] 41 #[.bool false,.slice none 0 0,.bool false,.slice none 0 0];have hA:=ha.below f;have hD:=hb.below f;clear ha hb;have hG:=Zj3 na nb' nb na' A B' B A' n c m' d' m d n' c' a.num b.den a.den b.num W0 hA.1 hD.2 hA.2 hD.1 (Zbm sa.1 sb.dn) (Zbm sa.dn sb.1) (Zjg a b h0);rw[Zhw a b h0]at hG;replace hG:=Zd hG;clear sa sb hA hD;obtain⟨a0,a1,a2,a3,-⟩:=q0.four;obtain⟨b0,b1,b2,b3,-⟩:=q1.four;replace q2:=Zd q2;clear q0 q1;go_in;go_wp2_with fail;refine hG.out.mono ?_;clear hG;rintro e w2 ⟨h,nx,Ax,kx,cx,ny,Ay,ky,cy,rfl,hF⟩;have o:Below w.heap.size w w2:=Gs f h;have s2:W0.heap.size<=w2.heap.size:=h.size;replace q2:=Gm h q2;replace hF:=Zd hF;clear a0 a1 a2 a3 b0 b1 b2 b3 h;obtain⟨Y,U,V,T,O,y,I,C⟩:=q2.out.four;go_wp2_with fail;obtain⟨W7,u,aU,q3,kW,-,s7⟩:=Z5 nx Ax kx cx ny Ay ky cy o Gk q2.out;rw[u];obtain⟨r0,r1,r2,r3,-⟩:=q3.four;refine bodyPost_ret (v:=.tuple #[.agg #[.bool nx,.slice Ax kx cx,.bool ny,.slice Ay ky cy],.int .i64 0]) (by simp[results,Tryz.results137,go_sem,r0,r1,r2,r3]) rfl ?_;exact Cb
theorem Zox(na nb na' nb':Bool)(A B A' B':Option Addr)(n c m d n' c' m' d':Nat)(a b:Rat)(w:World)(ha:Fr w na A n c nb B m d a)(hb:Fr w na' A' n' c' nb' B' m' d' b)(sa:Sm a)(sb:Sm b) :
    Calls Tryz.prog 62 #[.agg #[.bool na,.slice A n c,.bool nb,.slice B m d],.agg #[.bool na',.slice A' n' c',.bool nb',.slice B' m' d']] w (Zev w (a*b)):=by
 obtain⟨W0,J,f,⟨q0,q1,q2⟩,s0⟩:=Zb2 w 41 #[.bool na,.slice A n c,.bool nb,.slice B m d] 41 #[.bool na',.slice A' n' c',.bool nb',.slice B' m' d'] 41 #[.bool false,.slice none 0 0,.bool false,.slice none 0 0];have hA:=ha.below f;have hD:=hb.below f;clear ha hb;have hG:=Zj3 na na' nb nb' A A' B B' n c n' c' m d m' d' a.num b.num a.den b.den W0 hA.1 hD.1 hA.2 hD.2 (Zbm sa.1 sb.1) (Zbm sa.dn sb.dn) (Int.ne_of_gt (Zcj a b));rw[Zql]at hG;replace hG:=Zd hG;clear sa sb hA hD;obtain⟨a0,a1,a2,a3,-⟩:=q0.four;obtain⟨b0,b1,b2,b3,-⟩:=q1.four;replace q2:=Zd q2;clear q0 q1;go_in;go_wp2_with fail;refine hG.out.mono ?_;clear hG;rintro e w2 ⟨h,nx,Ax,kx,cx,ny,Ay,ky,cy,rfl,hF⟩;have o:Below w.heap.size w w2:=Gs f h;have s2:W0.heap.size<=w2.heap.size:=h.size;replace q2:=Gm h q2;replace hF:=Zd hF;clear a0 a1 a2 a3 b0 b1 b2 b3 h;obtain⟨Y,U,V,T,O,y,I,C⟩:=q2.out.four;go_wp2_with fail;obtain⟨W7,u,aU,q3,kW,-,s7⟩:=Z5 nx Ax kx cx ny Ay ky cy o Gk q2.out;rw[u];obtain⟨r0,r1,r2,r3,-⟩:=q3.four;refine bodyPost_ret (v:=.tuple #[.agg #[.bool nx,.slice Ax kx cx,.bool ny,.slice Ay ky cy],.int .i64 0]) (by simp[results,Tryz.results62,go_sem,r0,r1,r2,r3]) rfl ?_;exact Cb
theorem Zyc(na nb na' nb':Bool)(A B A' B':Option Addr)(n c m d n' c' m' d':Nat)(a b:Rat)(w:World)(ha:Fr w na A n c nb B m d a)(hb:Fr w na' A' n' c' nb' B' m' d' b)(sa:Sm a)(sb:Sm b) :
    Calls Tryz.prog 136 #[.agg #[.bool na,.slice A n c,.bool nb,.slice B m d],.agg #[.bool na',.slice A' n' c',.bool nb',.slice B' m' d']] w (Zev w (a-b)):=by
 obtain⟨W0,J,f,⟨q0,q1,q2⟩,s0⟩:=Zb2 w 41 #[.bool na,.slice A n c,.bool nb,.slice B m d] 41 #[.bool na',.slice A' n' c',.bool nb',.slice B' m' d'] 41 #[.bool false,.slice none 0 0,.bool false,.slice none 0 0];have hA:=ha.below f;have hD:=hb.below f;clear ha hb;have hG:=Zv0 na nb na' nb' A B A' B' n c m d n' c' m' d' a b W0 hA hD sa sb;replace hG:=Zd hG;clear sa sb hA hD;obtain⟨a0,a1,a2,a3,-⟩:=q0.four;obtain⟨b0,b1,b2,b3,-⟩:=q1.four;replace q2:=Zd q2;clear q0 q1;go_in;go_wp2_with fail;refine hG.out.mono ?_;clear hG;rintro e w2 ⟨h,nx,Ax,kx,cx,ny,Ay,ky,cy,rfl,hF⟩;have o:Below w.heap.size w w2:=Gs f h;have s2:W0.heap.size<=w2.heap.size:=h.size;replace q2:=Gm h q2;replace hF:=Zd hF;clear a0 a1 a2 a3 b0 b1 b2 b3 h;obtain⟨Y,U,V,T,O,y,I,C⟩:=q2.out.four;go_wp2_with fail;obtain⟨W7,u,aU,q3,kW,-,s7⟩:=Z5 nx Ax kx cx ny Ay ky cy o Gk q2.out;rw[u];obtain⟨r0,r1,r2,r3,-⟩:=q3.four;refine bodyPost_ret (v:=.tuple #[.agg #[.bool nx,.slice Ax kx cx,.bool ny,.slice Ay ky cy],.int .i64 0]) (by simp[results,Tryz.results136,go_sem,r0,r1,r2,r3]) rfl ?_;exact Cb
theorem Zzo(na nb na' nb':Bool)(A B A' B':Option Addr)(n c m d n' c' m' d':Nat)(a b:Rat)(w:World)(ha:Fr w na A n c nb B m d a)(hb:Fr w na' A' n' c' nb' B' m' d' b)(sa:Sm a)(sb:Sm b) :
    Calls Tryz.prog 61 #[.agg #[.bool na,.slice A n c,.bool nb,.slice B m d],.agg #[.bool na',.slice A' n' c',.bool nb',.slice B' m' d']] w (Zev w (a+b)):=by
 obtain⟨W0,J,f,⟨q0,q1,q2⟩,s0⟩:=Zb2 w 41 #[.bool na,.slice A n c,.bool nb,.slice B m d] 41 #[.bool na',.slice A' n' c',.bool nb',.slice B' m' d'] 41 #[.bool false,.slice none 0 0,.bool false,.slice none 0 0];have hA:=ha.below f;have hD:=hb.below f;clear ha hb;have hG:=Zu6 na nb na' nb' A B A' B' n c m d n' c' m' d' a b W0 hA hD sa sb;replace hG:=Zd hG;clear sa sb hA hD;obtain⟨a0,a1,a2,a3,-⟩:=q0.four;obtain⟨b0,b1,b2,b3,-⟩:=q1.four;replace q2:=Zd q2;clear q0 q1;go_in;go_wp2_with fail;refine hG.out.mono ?_;clear hG;rintro e w2 ⟨h,nx,Ax,kx,cx,ny,Ay,ky,cy,rfl,hF⟩;have o:Below w.heap.size w w2:=Gs f h;have s2:W0.heap.size<=w2.heap.size:=h.size;replace q2:=Gm h q2;replace hF:=Zd hF;clear a0 a1 a2 a3 b0 b1 b2 b3 h;obtain⟨Y,U,V,T,O,y,I,C⟩:=q2.out.four;go_wp2_with fail;obtain⟨W7,u,aU,q3,kW,-,s7⟩:=Z5 nx Ax kx cx ny Ay ky cy o Gk q2.out;rw[u];obtain⟨r0,r1,r2,r3,-⟩:=q3.four;refine bodyPost_ret (v:=.tuple #[.agg #[.bool nx,.slice Ax kx cx,.bool ny,.slice Ay ky cy],.int .i64 0]) (by simp[results,Tryz.results61,go_sem,r0,r1,r2,r3]) rfl ?_;exact Cb
