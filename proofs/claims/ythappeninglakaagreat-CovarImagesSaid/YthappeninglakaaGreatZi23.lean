/- Package covar: Axes. Reference of wide: Shift, upwards. -/
import Derived.Deep.LoopGhost
import Derived.Deep.CutBlock
import Derived.Deep.DeepCutAuto
import Derived.OpenShut
import Derived.Test.YthappeninglakaaGreatZi22
set_option maxRecDepth 100000
set_option maxHeartbeats 8000000
set_option linter.unusedSimpArgs false
set_option linter.unusedVariables false
namespace Go.Proofs.YthappeninglakaaGreat
open Go.RowKit
open Act renaming put→Qa
open Below renaming refl→Qb
open Nat renaming le_refl→Qc,le_trans→Qu,lt_of_le_of_lt→Qw
open List renaming getElem?_eq_none→Qd,getElem?_map→Qe,getElem?_range→Qf,map_cons→Qg,ext_getElem?→Qh,map_nil→Qi,replicate→Qj,getElem?_eq_getElem→Ql,not_mem_nil→Qn,getElem?_replicate→Qp,length_map→Qq,getElem?_set_self→Qr,getElem?_set_ne→Qs,mem_cons→Qt,mem_singleton→Qv,length_set→Qx
open Option renaming map_some→Qk
open Blk renaming new→Qm
open Int renaming tmod→Qo
open Kept renaming refl→Qy
attribute [local go_sem] Zg
def AxPost(E l s:Int)(w:World)(e:Ending)(w':World):Prop:=
 Below w.heap.size w w'/\((E=0/\∃ xn xA xk xc yn yA yk yc,e=.returned (.tuple #[.agg #[.bool xn,.slice xA xk xc],.agg #[.bool yn,.slice yA yk yc],.int .i64 0])/\Wd w' xn xA xk xc l/\Wd w' yn yA yk yc s) \/
  (E≠0/\e=.returned (.tuple #[.agg #[.bool false,.slice none 0 0],.agg #[.bool false,.slice none 0 0],.int .i64 E])))
theorem AxPost.fall{E0 E l s:Int}{w w':World}(hb:Below w.heap.size w w')(h:E0=E)(h0:E≠0):AxPost E0 l s w (.returned (.tuple #[.agg #[.bool false,.slice none 0 0],.agg #[.bool false,.slice none 0 0],.int .i64 E])) w':=by
 subst h;exact⟨hb,.inr ⟨h0,rfl⟩⟩
def axE(rs:List RX):Int:=if Zat rs≠0 then Zat rs else if rs.length=2 then 0 else 8
section
variable{rs:List RX}{E:Int}
theorem axE_cov(h:Zat rs=E)(h0:E≠0):axE rs=E:=by subst h;exact Gx h0
theorem axE_bad(h:Zat rs=0)(hb:rs.length≠2):axE rs=8:=by
 unfold axE;rw[Gw (by simp[h])];exact Gw hb
theorem axE_ok(h:Zat rs=0)(hb:rs.length=2):axE rs=0:=by
 unfold axE;rw[Gw (by simp[h])];exact Gx hb
theorem ax_det(h0:Zat rs=0)(h2:rs.length=2):0<Zh (qM rs) 0 0/\0<Zh (qM rs) 1 1/\0<Zh (qM rs) 0 0*Zh (qM rs) 1 1-Zh (qM rs) 0 1*Zh (qM rs) 0 1/\Zh (qM rs) 1 0=Zh (qM rs) 0 1:=by
 obtain⟨u,h,o⟩:=Zew h0;have hl:(qM rs).length=2:=by unfold qM;rw[Qq];exact h2
 have hs:=symB_iff.1 h 1 0 Gk Gk;have k0:=Znh h0 (k:=0) Gk;have k1:=Znh h0 (k:=1) Gk;have h1:=o 1 Gk;have e:dQ (Zh (qM rs)) 1=Zh (qM rs) 1 1-Zh (qM rs) 1 0/Zh (qM rs) 0 0*Zh (qM rs) 0 1:=rfl;rw[e,hs]at h1;refine⟨k0,k1,?_,hs⟩;have h3:=Rat.mul_pos k0 h1;have f:Zh (qM rs) 0 0≠0:=λe=>by rw[e]at k0;exact absurd k0 Gj
 have e2:Zh (qM rs) 0 0*(Zh (qM rs) 1 1-Zh (qM rs) 0 1/Zh (qM rs) 0 0*Zh (qM rs) 0 1)=Zh (qM rs) 0 0*Zh (qM rs) 1 1-Zh (qM rs) 0 1*Zh (qM rs) 0 1:=by
  have h5:Zh (qM rs) 0 1/Zh (qM rs) 0 0*Zh (qM rs) 0 0=Zh (qM rs) 0 1:=by
   rw[Rat.div_def,Rat.mul_assoc,Rat.inv_mul_cancel _ f,Rat.mul_one]
  grind
 rw[e2]at h3;exact h3
end
theorem FZ{G:Prop}(h:G:=by
 go_simp;exact hK.out _ _ ⟨_,rfl,(by simp only[Za4];exact⟨_,_,rfl,FL.sing1 (Blk.new _ _ _) ((ce.out.below ag).below ((Below.refl _ _).alloc (Nat.le_refl _) _))⟩),(Below.refl _ _).alloc (Nat.le_refl _) _,trivial⟩):G:=h
theorem CY{G:Prop}(h:G:=by
 rintro e w5 ⟨ao,fn,fA,fk,fc,fm,fB,fj,fd,rfl,ax⟩;rw[Zia]at ax;exact Eh):G:=h
theorem Z0j(A:Option Addr)(n c:Nat)(rs:List RX)(w:World)(h:MXL w A n c rs)(hF:FacC rs)(hS:Zat rs=0->∀ a b,SmN 5 5 (Zh (qM rs) a b)) :
    Calls Tryz.prog 28 #[.slice A n c] w (AxPost (axE rs) (axLong (Zh (qM rs) 0 0) (Zh (qM rs) 0 1) (Zh (qM rs) 1 1)) (axShort (Zh (qM rs) 0 0) (Zh (qM rs) 0 1) (Zh (qM rs) 1 1)) w):=by
 have hmx:=Gt;have q4:=Za h.1;have E7:=h.2.1;have x5:=h.2.2.1;unfold maxLen at x5;obtain⟨W0,t5,e7,⟨q0,q1,q2⟩,s0⟩:=Zb0 w 39 #[.bool false,.slice none 0 0] 39 #[.bool false,.slice none 0 0] 26 #[.int .i64 0];have hC:=Za (Zgj A n c rs W0 (h.below e7) hF);have hH:=Za (h.below e7);replace hS:=Za hS;replace q0:=Za q0;replace q1:=Za q1;replace q2:=Za q2;replace e7:=Za e7;clear h hF;replace s0:=Za s0
 go_enter_defers Tryz.func28,Tryz.ntmps28
 go_wp2_with fail;(try rw[t5]);clear t5;refine hC.out.mono ?_;rintro e w1 ⟨a9,⟨h0,v1,v2,L0,rfl,z9⟩|⟨h0,rfl⟩⟩
 case inr =>
  have g2:=Gs e7.out a9;have k0:=Zc a9 q0.out;have k1:=Zc a9 q1.out;have k2:=Zc a9 q2.out;obtain⟨E,hE⟩:=Gz (Zat rs);rw[hE]at h0 ⊢;have r5:=Za h0;have m0:=Za (axE_cov hE h0);replace hE:=Za hE;go_wp2_with fail;refine leaves_cons (f:=39) (args:=#[.pointer (some ⟨w.heap.size+1+1,0,none⟩)]) Gh Ge ?_;have e0:=(k2).cell 0;simp at e0;refine(Zae ⟨w.heap.size+1+1,0,none⟩ E 0 _ e0 ((k2).frozen 0)).mono ?_;rintro e u' w'' ⟨rfl,rfl,hw⟩;obtain⟨V,hV,p9,-,-,hk,sV⟩:=Zn 117 #[.int .i64 E] (g2) ((g2).size);obtain⟨U,hU,n8,q3,-,kq,-⟩:=Z8 E p9 Gk (hk _ _ _ (k2));rw[hV,hU]at hw;subst hw;have r4:=q3.cell 0;simp at r4;obtain⟨d0,d1,-⟩:=(kq _ _ _ Gk (hk _ _ _ (k0))).two;obtain⟨d2,d3,-⟩:=(kq _ _ _ Gk (hk _ _ _ (k1))).two;exact⟨.tuple #[.agg #[.bool false,.slice none 0 0],.agg #[.bool false,.slice none 0 0],.int .i64 E],by simp[results,Tryz.results28,go_sem,r4,d0,d1,d2,d3],AxPost.fall n8 m0.out (by first|decide|assumption|exact r5.out)⟩
 have o2:=Za (hS.out h0);obtain⟨p6,z8,y8⟩:=Zew h0;have g9:=p6.row hH.out;have hM:=Za ((p6.good hH.out).below a9);have g2:=Gn e7 a9;replace q0:=Gm a9 q0;replace q1:=Gm a9 q1;replace q2:=Gm a9 q2;replace h0:=Za h0;replace g9:=Za g9;clear z9 p6 z8 y8 hC hH e7 a9 L0 hS;by_cases n6:n=2
 case neg =>
  have t1:((n:Int) == 2)=false:=by simp;omega
  have E0:decide ((n:Int)=2)=false:=Gu Gk;have A4:decide (n=2)=false:=Gu n6;have m0:=Za (axE_bad h0.out (by rw[q4.out];exact n6));replace n6:=Za n6;go_wp2_with fail;refine(Zai 8 w1).mono ?_;rintro e w6 ⟨rfl,rfl⟩;go_wp2_with fail;refine leaves_cons (f:=39) (args:=#[.pointer (some ⟨w.heap.size+1+1,0,none⟩)]) Gh Ge ?_;have e0:=(q2.out).cell 0;simp at e0;refine(Zae ⟨w.heap.size+1+1,0,none⟩ 8 0 _ e0 ((q2.out).frozen 0)).mono ?_;rintro e u' w'' ⟨rfl,rfl,hw⟩;obtain⟨V,hV,p9,-,-,hk,sV⟩:=Zn 117 #[.int .i64 8] (g2.out) ((g2.out).size);obtain⟨U,hU,n8,q3,-,kq,-⟩:=Z8 8 p9 Gk (hk _ _ _ (q2.out));rw[hV,hU]at hw;subst hw;have r4:=q3.cell 0;simp at r4;obtain⟨d0,d1,-⟩:=(kq _ _ _ Gk (hk _ _ _ (q0.out))).two;obtain⟨d2,d3,-⟩:=(kq _ _ _ Gk (hk _ _ _ (q1.out))).two;exact⟨.tuple #[.agg #[.bool false,.slice none 0 0],.agg #[.bool false,.slice none 0 0],.int .i64 8],by simp[results,Tryz.results28,go_sem,r4,d0,d1,d2,d3],AxPost.fall n8 m0.out (by first|decide|assumption|exact r5.out)⟩
 subst n6;have m0:=Za (axE_ok h0.out q4.out);obtain⟨p1,p2,p3,-⟩:=ax_det h0.out q4.out;obtain⟨g,o,-,-,-,rfl,-,-⟩:=hM.out.at_ (k:=0) Gj;obtain⟨gi,oi,ci,rI,C7,r7,p8⟩:=hM.out.ents g9.out (I:=0) Gj;obtain⟨gk,ok,ck,rK,C8,t9,r3⟩:=hM.out.ents g9.out (I:=1) Gj;unfold maxLen at r7 t9;obtain⟨an,aA,ak,ac,am,aB,aj,ad,⟨a0,a1,a2,a3⟩,b7⟩:=p8 0 Gj;obtain⟨bn,bA,bk,bc,bm,bB,bj,bd,⟨b0,b1,b2,b3⟩,b5⟩:=p8 1 Gj;obtain⟨dn,dA,dk,dc,dm,dB,dj,dd,⟨d0,d1,d2,d3⟩,b6⟩:=r3 1 Gj;have sx:=o2.out 0 0;have sy:=o2.out 0 1;have sz:=o2.out 1 1;obtain⟨x,hx⟩:=Gz (Zh (qM rs) 0 0);obtain⟨y,hy⟩:=Gz (Zh (qM rs) 0 1);obtain⟨z,hz⟩:=Gz (Zh (qM rs) 1 1);rw[hx]at b7 sx p1 p3;rw[hy]at b5 sy p3;rw[hz]at b6 sz p2 p3;have r2:=Za hx;have v5:=Za hy;have w7:=Za hz;have eL:=Za (Zvk sx sy sz p1 p2);have eS:=Za (Ztr sx sy sz p1 p2 p3);have s1:Hid (Sm x):=Za (sx.sm Gj Gj);have s2:Hid (Sm y):=Za (sy.sm Gj Gj);have s3:Hid (Sm z):=Za (sz.sm Gj Gj);have s4:Hid (Sm (axT x z)):=Za ((sz_t sx sz).sm Gj Gj);have s5:Hid (Sm (axD x z)):=Za ((sz_d sx sz).sm Gj Gj);have s6:Hid (Sm (Zfc x z)):=Za ((Zod sx sz).sm Gj Gj);have s7:Hid (Sm (Zfc x z*Zfc x z)):=Za (((Zod sx sz).mulN (Zod sx sz)).sm Gj Gj);have s8:Hid (Sm (y*y)):=Za ((sy.mulN sy).sm Gj Gj);have sH:Hid (Sm axH):=Za (smH.sm Gj Gj);clear sx sy sz hx hy hz p8 r3 o2 p1 p2 p3 g9 hM h0;replace b7:=Za b7;replace b5:=Za b5;replace b6:=Za b6;have tt:((2:Int) == 2)=true:=Gj;have E1:(0:Int)<((2:Nat):Int):=Gj;have F9:(1:Int)<((2:Nat):Int):=Gj
 replace rI:w1.cell? ⟨g,o,none⟩=some (.slice (some ⟨gi,oi,none⟩) 2 ci):=rI;replace rK:w1.cell? ⟨g,o+1,none⟩=some (.slice (some ⟨gk,ok,none⟩) 2 ck):=rK;replace a0:w1.cell? ⟨gi,oi,none⟩=some (.bool an):=a0;replace a1:w1.cell? ⟨gi,oi+1,none⟩=some (.slice aA ak ac):=a1;replace a2:w1.cell? ⟨gi,oi+2,none⟩=some (.bool am):=a2;replace a3:w1.cell? ⟨gi,oi+3,none⟩=some (.slice aB aj ad):=a3;replace b0:w1.cell? ⟨gi,oi+4,none⟩=some (.bool bn):=b0;replace b1:w1.cell? ⟨gi,oi+4+1,none⟩=some (.slice bA bk bc):=b1;replace b2:w1.cell? ⟨gi,oi+4+2,none⟩=some (.bool bm):=b2;replace b3:w1.cell? ⟨gi,oi+4+3,none⟩=some (.slice bB bj bd):=b3;replace d0:w1.cell? ⟨gk,ok+4,none⟩=some (.bool dn):=d0;replace d1:w1.cell? ⟨gk,ok+4+1,none⟩=some (.slice dA dk dc):=d1;replace d2:w1.cell? ⟨gk,ok+4+2,none⟩=some (.bool dm):=d2;replace d3:w1.cell? ⟨gk,ok+4+3,none⟩=some (.slice dB dj dd):=d3
 have n9:Hid (∀ W9,Below w1.heap.size w1 W9->(W9.cell? ⟨g,o,none⟩=some (.slice (some ⟨gi,oi,none⟩) 2 ci))/\(W9.cell? ⟨g,o+1,none⟩=some (.slice (some ⟨gk,ok,none⟩) 2 ck))/\(W9.cell? ⟨gi,oi,none⟩=some (.bool an))/\(W9.cell? ⟨gi,oi+1,none⟩=some (.slice aA ak ac))/\(W9.cell? ⟨gi,oi+2,none⟩=some (.bool am))/\(W9.cell? ⟨gi,oi+3,none⟩=some (.slice aB aj ad))/\(W9.cell? ⟨gi,oi+4,none⟩=some (.bool bn))/\(W9.cell? ⟨gi,oi+4+1,none⟩=some (.slice bA bk bc))/\(W9.cell? ⟨gi,oi+4+2,none⟩=some (.bool bm))/\(W9.cell? ⟨gi,oi+4+3,none⟩=some (.slice bB bj bd))/\(W9.cell? ⟨gk,ok+4,none⟩=some (.bool dn))/\(W9.cell? ⟨gk,ok+4+1,none⟩=some (.slice dA dk dc))/\(W9.cell? ⟨gk,ok+4+2,none⟩=some (.bool dm))/\(W9.cell? ⟨gk,ok+4+3,none⟩=some (.slice dB dj dd))):=Za (λW9 h9=>⟨Zb h9 rI,Zb h9 rK,Zb h9 a0,Zb h9 a1,Zb h9 a2,Zb h9 a3,Zb h9 b0,Zb h9 b1,Zb h9 b2,Zb h9 b3,Zb h9 d0,Zb h9 d1,Zb h9 d2,Zb h9 d3⟩);have a5:Hid (Below w1.heap.size w1 w1):=Za (Qb _ _);clear rI rK a0 a1 a2 a3 b0 b1 b2 b3 d0 d1 d2 d3;go_wp2_with fail;refine(Zbi 8 w1).mono ?_;rintro e w6 ⟨rfl,rfl⟩;go_wp2_with fail;refine(Zr3 1 2 w6 Gj Gj Gj Gj).mono ?_;rintro e w1 ⟨a9,hn,hA,hk,hc,hm,hB,hj,hd,rfl,ce⟩;replace a5:=Gn a5 a9;replace q0:=Gm a9 q0;replace q1:=Gm a9 q1;replace q2:=Gm a9 q2;replace b7:=Za (b7.out.below a9)
 replace b5:=Za (b5.out.below a9);replace b6:=Za (b6.out.below a9);have p7:=Gn g2 a9;clear g2 a9;have p4:Fr w1 hn hA hk hc hm hB hj hd axH:=ce;clear ce;have ce:=p4;clear p4;replace ce:=Za ce;obtain⟨g3,o4⟩:=Gz w1.heap.size;obtain⟨V5,w9,q7,e6⟩:=Zan (w:=w1) 41 #[.bool hn,.slice hA hk hc,.bool hm,.slice hB hj hd];rw[o4]at q7;replace a5:=Gn a5 e6;replace q0:=Gm e6 q0;replace q1:=Gm e6 q1;replace q2:=Gm e6 q2;replace b7:=Za (b7.out.below e6);replace b5:=Za (b5.out.below e6);replace b6:=Za (b6.out.below e6);replace ce:=Za (ce.out.below e6);have q5:=Gn p7 e6;clear p7 e6;replace q7:=Za q7;obtain⟨rI,rK,a0,a1,a2,a3,b0,b1,b2,b3,d0,d1,d2,d3⟩:=n9.out _ a5.out;obtain⟨h0,h1,h2,h3,-⟩:=q7.out.four;go_wp2_with fail;(try rw[o4]);(try rw[w9]);clear w9;replace o4:=Za o4;clear h0 h1 h2 h3;have z6:Hid (w.heap.size+1+1<V5.heap.size):=Za q2.out.lt;have k4:V5.cell? ⟨g3,0,none⟩=some (.bool hn):=q7.out.cell 0;have j7:V5.cell? ⟨g3,1,none⟩=some (.slice hA hk hc):=q7.out.cell 1;have k5:V5.cell? ⟨g3,2,none⟩=some (.bool hm):=q7.out.cell 2;have i6:V5.cell? ⟨g3,3,none⟩=some (.slice hB hj hd):=q7.out.cell 3
 have g6:Hid (∀ wx,Below V5.heap.size V5 wx->(wx.cell? ⟨g,o,none⟩=some (.slice (some ⟨gi,oi,none⟩) 2 ci))/\(wx.cell? ⟨g,o+1,none⟩=some (.slice (some ⟨gk,ok,none⟩) 2 ck))/\(wx.cell? ⟨gi,oi,none⟩=some (.bool an))/\(wx.cell? ⟨gi,oi+1,none⟩=some (.slice aA ak ac))/\(wx.cell? ⟨gi,oi+2,none⟩=some (.bool am))/\(wx.cell? ⟨gi,oi+3,none⟩=some (.slice aB aj ad))/\(wx.cell? ⟨gi,oi+4,none⟩=some (.bool bn))/\(wx.cell? ⟨gi,oi+4+1,none⟩=some (.slice bA bk bc))/\(wx.cell? ⟨gi,oi+4+2,none⟩=some (.bool bm))/\(wx.cell? ⟨gi,oi+4+3,none⟩=some (.slice bB bj bd))/\(wx.cell? ⟨gk,ok+4,none⟩=some (.bool dn))/\(wx.cell? ⟨gk,ok+4+1,none⟩=some (.slice dA dk dc))/\(wx.cell? ⟨gk,ok+4+2,none⟩=some (.bool dm))/\(wx.cell? ⟨gk,ok+4+3,none⟩=some (.slice dB dj dd))/\(wx.cell? ⟨g3,0,none⟩=some (.bool hn))/\(wx.cell? ⟨g3,1,none⟩=some (.slice hA hk hc))/\(wx.cell? ⟨g3,2,none⟩=some (.bool hm))/\(wx.cell? ⟨g3,3,none⟩=some (.slice hB hj hd))):=Za (λwx ag=>⟨Zb ag rI,Zb ag rK,Zb ag a0,Zb ag a1,Zb ag a2,Zb ag a3,Zb ag b0,Zb ag b1,Zb ag b2,Zb ag b3,Zb ag d0,Zb ag d1,Zb ag d2,Zb ag d3,Zb ag k4,Zb ag j7,Zb ag k5,Zb ag i6⟩);have b4:Below V5.heap.size V5 V5.drew:=Zf (Qb _ _) 1;refine wp_heldS [] hmx g6 b4 (λhxs1=>?_);refine Zke 14 [0,1,2,3,4,5,6,7,8,9,10,11,14,15] rfl Gi (g6.out _ b4) ?_
 iterate 14 (refine tkA ?_;try simp only[Qa,Zhf,Zgs,Zg9,Gr,Gq,Gp])
 refine tk0 ?_;refine Za8 [(12,32),(13,33),(16,36),(17,37),(18,7)] (λ_=>[]) [(12,32),(13,33),(16,36),(17,37),(18,7)] (Za4 [(12,fl2V x z),(13,frV (axT x z)),(16,fl1V axH),(17,frV (Zbj x z)),(18,newV V5.heap.size 73 #[.bool false,.slice none 0 0,.bool false,.slice none 0 0])]) 1 Gi (λp _=>Zfj (Zad Zoa (Zad Zc5 (Zad Zgw (Zad Zc5 (Zad Zfb Zgm))))) p.1) (λwx h=>g6.out _ (Gs b4 h)) ?hop1 ?hfin1
 case hop1 =>
  intro p hp;simp only[Qt,Qn,or_false]at hp;simp only[Qg,Qi,Zap,Qa,Zhf,Zgs,Zg9];rcases hp with rfl|rfl|rfl|rfl|rfl
  ·intro ν wx hb hP
   have ag:=Gs b4 hb;refine Zm (i:=12) rfl (λK hK=>?_);go_simp;exact hK.out _ _ ⟨_,rfl,(by simp only[Za4];exact⟨_,_,rfl,FL.pair2 (Qm _ _ _) ((b7.out.below ag).below ((Qb _ _).alloc (Qc _) _)) ((b6.out.below ag).below ((Qb _ _).alloc (Qc _) _))⟩),(Qb _ _).alloc (Qc _) _,trivial⟩
  ·intro ν wx hb hP
   have ag:=Gs b4 hb;have e4:=hP (12,32) Gh Gi;simp only[Za4]at e4;obtain⟨l5,n5,hν12,n7⟩:=e4;rw[hν12];refine Zm (i:=13) rfl (λK hK=>?_);go_simp;refine(Zmj l5 2 n5 [x,z] wx n7 Gj (Zre s1.out) (Zuz s1.out s3.out)).mono ?_;rintro e w5 ⟨ao,fn,fA,fk,fc,fm,fB,fj,fd,rfl,ax⟩;rw[sumF2]at ax;exact Eh
  ·intro ν wx hb hP
   have ag:=Gs b4 hb;refine Zm (i:=16) rfl (λK hK=>?_);exact FZ
  ·intro ν wx hb hP
   have ag:=Gs b4 hb;have m5:=hP (13,33) Gh Gi;simp only[Za4]at m5;obtain⟨v8,r1,r6,v7,v9,w3,υ7,υ6,hν13,υ1⟩:=m5;rw[hν13];have e1:=hP (16,36) Gh Gi;simp only[Za4]at e1;obtain⟨m6,n3,hν16,m7⟩:=e1;rw[hν16];refine Zm (i:=17) rfl (λK hK=>?_);go_simp;refine(Zcf v8 r1 r6 v7 v9 w3 υ7 υ6 _ m6 1 n3 [axH] wx υ1 m7 Gj (Zeq s4.out) (Zfq sH.out)).mono ?_;exact CY
  intro ν wx hb hP;have ag:=Gs b4 hb;refine Zm (i:=18) rfl (λK hK=>?_);exact EW
 case hfin1 =>
  intro ν wx hb hP;have e4:=hP (12,32) Gh;simp only[Za4]at e4;obtain⟨s9,v0,hν12,-⟩:=e4;have m5:=hP (13,33) Gh;simp only[Za4]at m5;obtain⟨C2,B5,A0,B9,B2,C0,D0,B8,hν13,-⟩:=m5;have e1:=hP (16,36) Gh;simp only[Za4]at e1;obtain⟨v6,υ4,hν16,-⟩:=e1;have e3:=hP (17,37) Gh;simp only[Za4]at e3;obtain⟨h7,h5,h6,f7,e8,e9,g0,f9,hν17,o7⟩:=e3;have h4:=hP (18,7) Gh;simp only[Za4]at h4;obtain⟨d7,hν18,o5,m3⟩:=h4;simp only[Qg,Qi,Zap,Qa,Zhf,Zgs,Zg9];rw[hν12,hν13,hν16,hν17,hν18];clear hν12 hν13 hν16 hν17 hν18 hP ν;have ag:=Gs b4 hb;have T:=m3.four;have e5:V5.heap.size<=d7:=o5;refine(Z7 h7 h5 h6 f7 e8 e9 g0 f9 ag e5 m3).elim (λZ1 hq=>?_);have c0:=T.1;have m2:=T.2.1;have l9:=T.2.2.1;have c3:=T.2.2.2.1;have f0:=T.2.2.2.2.1;have f1:=T.2.2.2.2.2.1;have f2:=T.2.2.2.2.2.2.1;have f3:=T.2.2.2.2.2.2.2;have hZ:=hq.1;refine wpAnyL_o 19 λK hK=>?_;go_simp;(try rw[hZ]);refine hK.out _ _ (λ_=>g6.out _ hq.2.1) ?_;clear hK K
  try simp only[Qa,Zhf,Zgs,Zg9,Gr,Gq,Gp]
  refine wpAnyL_fin ?_;have J:=hq.2.1;have a4:=hq.2.2.1;have a7:=Fr.keep o7 hq.2.2.2.1;have o1:=Za e5;clear hq hZ c0 m2 l9 c3 f0 f1 f2 f3 T m3 o5 e5 ag hb b4 g6 hxs1 o7;replace a5:=Gn a5 J;replace q0:=Gm J q0;replace q1:=Gm J q1;replace q2:=Gm J q2;replace b7:=Za (b7.out.below J);replace b5:=Za (b5.out.below J);replace b6:=Za (b6.out.below J);replace ce:=Za (ce.out.below J);replace q7:=Gm J q7;have m1:=Gn q5 J;clear q5;replace rI:=Zb J rI;replace rK:=Zb J rK;replace a0:=Zb J a0;replace a1:=Zb J a1;replace a2:=Zb J a2;replace a3:=Zb J a3;replace b0:=Zb J b0;replace b1:=Zb J b1;replace b2:=Zb J b2;replace b3:=Zb J b3;replace d0:=Zb J d0;replace d1:=Zb J d1;replace d2:=Zb J d2;replace d3:=Zb J d3;replace k4:=Zb J k4;replace j7:=Zb J j7;replace k5:=Zb J k5;replace i6:=Zb J i6;clear J rI rK a0 a1 a2 a3 b0 b1 b2 b3 d0 d1 d2 d3 k4 j7 k5 i6;replace a4:=Za a4;replace a7:=Za a7;obtain⟨rI,rK,a0,a1,a2,a3,b0,b1,b2,b3,d0,d1,d2,d3⟩:=n9.out _ a5.out;obtain⟨h0,h1,h2,h3,-⟩:=q7.out.four;go_wp2_with fail;clear h0 h1 h2 h3;have i5:Z1.cell? ⟨g3,0,none⟩=some (.bool hn):=q7.out.cell 0;have k9:Z1.cell? ⟨g3,1,none⟩=some (.slice hA hk hc):=q7.out.cell 1
  have k7:Z1.cell? ⟨g3,2,none⟩=some (.bool hm):=q7.out.cell 2;have j4:Z1.cell? ⟨g3,3,none⟩=some (.slice hB hj hd):=q7.out.cell 3;have g8:Hid (∀ wx,Below Z1.heap.size Z1 wx->(wx.cell? ⟨g,o,none⟩=some (.slice (some ⟨gi,oi,none⟩) 2 ci))/\(wx.cell? ⟨g,o+1,none⟩=some (.slice (some ⟨gk,ok,none⟩) 2 ck))/\(wx.cell? ⟨gi,oi,none⟩=some (.bool an))/\(wx.cell? ⟨gi,oi+1,none⟩=some (.slice aA ak ac))/\(wx.cell? ⟨gi,oi+2,none⟩=some (.bool am))/\(wx.cell? ⟨gi,oi+3,none⟩=some (.slice aB aj ad))/\(wx.cell? ⟨gi,oi+4,none⟩=some (.bool bn))/\(wx.cell? ⟨gi,oi+4+1,none⟩=some (.slice bA bk bc))/\(wx.cell? ⟨gi,oi+4+2,none⟩=some (.bool bm))/\(wx.cell? ⟨gi,oi+4+3,none⟩=some (.slice bB bj bd))/\(wx.cell? ⟨gk,ok+4,none⟩=some (.bool dn))/\(wx.cell? ⟨gk,ok+4+1,none⟩=some (.slice dA dk dc))/\(wx.cell? ⟨gk,ok+4+2,none⟩=some (.bool dm))/\(wx.cell? ⟨gk,ok+4+3,none⟩=some (.slice dB dj dd))/\(wx.cell? ⟨g3,0,none⟩=some (.bool hn))/\(wx.cell? ⟨g3,1,none⟩=some (.slice hA hk hc))/\(wx.cell? ⟨g3,2,none⟩=some (.bool hm))/\(wx.cell? ⟨g3,3,none⟩=some (.slice hB hj hd))):=Za (λwx ag=>⟨Zb ag rI,Zb ag rK,Zb ag a0,Zb ag a1,Zb ag a2,Zb ag a3,Zb ag b0,Zb ag b1,Zb ag b2,Zb ag b3,Zb ag d0,Zb ag d1,Zb ag d2,Zb ag d3,Zb ag i5,Zb ag k9,Zb ag k7,Zb ag j4⟩);have d6:Below Z1.heap.size Z1 Z1.drew:=Zf (Qb _ _) 1;refine wp_heldS [] hmx g8 d6 (λhxs2=>?_);refine Zke 14 [0,1,2,3,4,5,6,7,8,9,10,11,13,14] rfl Gi (g8.out _ d6) ?_
  iterate 14 (refine tkA ?_;try simp only[Qa,Zhf,Zgs,Zg9,Gr,Gq,Gp])
  refine tk0 ?_;refine Za8 [(12,50),(15,53),(16,54),(17,8)] (λ_=>[]) [(12,50),(15,53),(16,54),(17,8)] (Za4 [(12,frV (axD x z)),(15,fl1V axH),(16,frV (Zfc x z)),(17,newV Z1.heap.size 73 #[.bool false,.slice none 0 0,.bool false,.slice none 0 0])]) 1 Gi (λp _=>Zfj (Zad Zc5 (Zad Zgw (Zad Zc5 (Zad Zfb Zgm)))) p.1) (λwx h=>g8.out _ (Gs d6 h)) ?hop2 ?hfin2
  case hop2 =>
   intro p hp;simp only[Qt,Qn,or_false]at hp;simp only[Qg,Qi,Zap,Qa,Zhf,Zgs,Zg9];rcases hp with rfl|rfl|rfl|rfl
   ·intro ν wx hb hP
    have ag:=Gs d6 hb;refine Zm (i:=12) rfl (λK hK=>?_);go_simp;refine(Ze4 an am dn dm aA aB dA dB ak ac aj ad dk dc dj dd _ _ wx (b7.out.below ag) (b6.out.below ag) s1.out s3.out).mono ?_;rintro e w5 ⟨ao,fn,fA,fk,fc,fm,fB,fj,fd,rfl,ax⟩;exact Eh
   ·intro ν wx hb hP
    have ag:=Gs d6 hb;refine Zm (i:=15) rfl (λK hK=>?_);exact FZ
   ·intro ν wx hb hP
    have ag:=Gs d6 hb;have e4:=hP (12,50) Gh Gi;simp only[Za4]at e4;obtain⟨v3,l5,t3,n5,t0,x0,w8,t8,hν12,n7⟩:=e4;rw[hν12];have l7:=hP (15,53) Gh Gi;simp only[Za4]at l7;obtain⟨υ2,v4,hν15,υ9⟩:=l7;rw[hν15];refine Zm (i:=16) rfl (λK hK=>?_);go_simp;refine(Zcf v3 l5 t3 n5 t0 x0 w8 t8 _ υ2 1 v4 [axH] wx n7 υ9 Gj (Zeq s5.out) (Zfq sH.out)).mono ?_;exact CY
   intro ν wx hb hP;have ag:=Gs d6 hb;refine Zm (i:=17) rfl (λK hK=>?_);exact EW
  case hfin2 =>
   intro ν wx hb hP;have e4:=hP (12,50) Gh;simp only[Za4]at e4;obtain⟨A9,s9,D3,v0,D6,C3,D1,D2,hν12,-⟩:=e4;have l7:=hP (15,53) Gh;simp only[Za4]at l7;obtain⟨A8,D7,hν15,-⟩:=l7;have e1:=hP (16,54) Gh;simp only[Za4]at e1;obtain⟨l4,i8,j9,k3,i7,j6,i9,i4,hν16,o9⟩:=e1;have e3:=hP (17,8) Gh;simp only[Za4]at e3;obtain⟨d8,hν17,p0,m8⟩:=e3;simp only[Qg,Qi,Zap,Qa,Zhf,Zgs,Zg9];rw[hν12,hν15,hν16,hν17];clear hν12 hν15 hν16 hν17 hP ν;have ag:=Gs d6 hb;have T:=m8.four;have e5:Z1.heap.size<=d8:=p0;refine(Z7 l4 i8 j9 k3 i7 j6 i9 i4 ag e5 m8).elim (λZ2 hq=>?_);have c0:=T.1;have m2:=T.2.1;have l9:=T.2.2.1;have c3:=T.2.2.2.1;have f0:=T.2.2.2.2.1;have f1:=T.2.2.2.2.2.1;have f2:=T.2.2.2.2.2.2.1;have f3:=T.2.2.2.2.2.2.2;have hZ:=hq.1;refine wpAnyL_o 18 λK hK=>?_;go_simp;(try rw[hZ]);refine hK.out _ _ (λ_=>g8.out _ hq.2.1) ?_;clear hK K
   try simp only[Qa,Zhf,Zgs,Zg9,Gr,Gq,Gp]
   refine wpAnyL_fin ?_;have C:=hq.2.1;have b9:=hq.2.2.1;have e2:=Fr.keep o9 hq.2.2.2.1;have x2:=Za e5;clear hq hZ c0 m2 l9 c3 f0 f1 f2 f3 T m8 p0 e5 ag hb d6 g8 hxs2 o9;replace a5:=Gn a5 C;replace q0:=Gm C q0;replace q1:=Gm C q1;replace q2:=Gm C q2;replace b7:=Za (b7.out.below C);replace b5:=Za (b5.out.below C);replace b6:=Za (b6.out.below C);replace ce:=Za (ce.out.below C);replace q7:=Gm C q7;replace a4:=Gm C a4;replace a7:=Za (a7.out.below C);have m4:=Gn m1 C;clear m1;replace rI:=Zb C rI;replace rK:=Zb C rK;replace a0:=Zb C a0;replace a1:=Zb C a1;replace a2:=Zb C a2;replace a3:=Zb C a3;replace b0:=Zb C b0;replace b1:=Zb C b1;replace b2:=Zb C b2;replace b3:=Zb C b3;replace d0:=Zb C d0;replace d1:=Zb C d1;replace d2:=Zb C d2;replace d3:=Zb C d3;replace i5:=Zb C i5;replace k9:=Zb C k9;replace k7:=Zb C k7;replace j4:=Zb C j4;clear C rI rK a0 a1 a2 a3 b0 b1 b2 b3 d0 d1 d2 d3 i5 k9 k7 j4;replace b9:=Za b9;replace e2:=Za e2;clear q7 ce;obtain⟨rI,rK,a0,a1,a2,a3,b0,b1,b2,b3,d0,d1,d2,d3⟩:=n9.out _ a5.out;obtain⟨h0,h1,h2,h3,-⟩:=b9.out.four;go_wp2_with fail;clear h0 h1 h2 h3;have y7:Hid (w.heap.size+1+1<Z2.heap.size):=Za q2.out.lt;have k8:Z2.cell? ⟨d8,0,none⟩=some (.bool l4):=b9.out.cell 0;have k6:Z2.cell? ⟨d8,1,none⟩=some (.slice i8 j9 k3):=b9.out.cell 1;have j5:Z2.cell? ⟨d8,2,none⟩=some (.bool i7):=b9.out.cell 2;have j8:Z2.cell? ⟨d8,3,none⟩=some (.slice j6 i9 i4):=b9.out.cell 3
   have g7:Hid (∀ wx,Below Z2.heap.size Z2 wx->(wx.cell? ⟨g,o,none⟩=some (.slice (some ⟨gi,oi,none⟩) 2 ci))/\(wx.cell? ⟨g,o+1,none⟩=some (.slice (some ⟨gk,ok,none⟩) 2 ck))/\(wx.cell? ⟨gi,oi,none⟩=some (.bool an))/\(wx.cell? ⟨gi,oi+1,none⟩=some (.slice aA ak ac))/\(wx.cell? ⟨gi,oi+2,none⟩=some (.bool am))/\(wx.cell? ⟨gi,oi+3,none⟩=some (.slice aB aj ad))/\(wx.cell? ⟨gi,oi+4,none⟩=some (.bool bn))/\(wx.cell? ⟨gi,oi+4+1,none⟩=some (.slice bA bk bc))/\(wx.cell? ⟨gi,oi+4+2,none⟩=some (.bool bm))/\(wx.cell? ⟨gi,oi+4+3,none⟩=some (.slice bB bj bd))/\(wx.cell? ⟨gk,ok+4,none⟩=some (.bool dn))/\(wx.cell? ⟨gk,ok+4+1,none⟩=some (.slice dA dk dc))/\(wx.cell? ⟨gk,ok+4+2,none⟩=some (.bool dm))/\(wx.cell? ⟨gk,ok+4+3,none⟩=some (.slice dB dj dd))/\(wx.cell? ⟨d8,0,none⟩=some (.bool l4))/\(wx.cell? ⟨d8,1,none⟩=some (.slice i8 j9 k3))/\(wx.cell? ⟨d8,2,none⟩=some (.bool i7))/\(wx.cell? ⟨d8,3,none⟩=some (.slice j6 i9 i4))):=Za (λwx ag=>⟨Zb ag rI,Zb ag rK,Zb ag a0,Zb ag a1,Zb ag a2,Zb ag a3,Zb ag b0,Zb ag b1,Zb ag b2,Zb ag b3,Zb ag d0,Zb ag d1,Zb ag d2,Zb ag d3,Zb ag k8,Zb ag k6,Zb ag j5,Zb ag j8⟩);have a8:Below Z2.heap.size Z2 Z2.drew:=Zf (Qb _ _) 1;refine wp_heldS [] hmx g7 a8 (λhxs3=>?_);refine Zke 14 [0,1,4,5,6,7,8,9,10,11,12,13,14,15] rfl Gi (g7.out _ a8) ?_
   iterate 14 (refine tkA ?_;try simp only[Qa,Zhf,Zgs,Zg9,Gr,Gq,Gp])
   refine tk0 ?_;refine Za8 [(2,57),(3,58),(16,71),(17,72),(18,73),(19,74),(20,9)] (λ_=>[]) [(2,57),(3,58),(16,71),(17,72),(18,73),(19,74),(20,9)] (Za4 [(2,fl1V (Zfc x z)),(3,frV (Zfc x z*Zfc x z)),(16,fl1V y),(17,frV (y*y)),(18,fl2V (Zfc x z*Zfc x z) (y*y)),(19,frV (Zjb x y z)),(20,newV Z2.heap.size 73 #[.bool false,.slice none 0 0,.bool false,.slice none 0 0])]) 1 Gi (λp _=>Zfj (Zad Zgw (Zad Zc5 (Zad Zgw (Zad Zc5 (Zad Zoa (Zad Zc5 (Zad Zfb Zgm))))))) p.1) (λwx h=>g7.out _ (Gs a8 h)) ?hop3 ?hfin3
   case hop3 =>
    intro p hp;simp only[Qt,Qn,or_false]at hp;simp only[Qg,Qi,Zap,Qa,Zhf,Zgs,Zg9];rcases hp with rfl|rfl|rfl|rfl|rfl|rfl|rfl
    ·intro ν wx hb hP
     have ag:=Gs a8 hb;refine Zm (i:=2) rfl (λK hK=>?_);go_simp;exact hK.out _ _ ⟨_,rfl,(by simp only[Za4];exact⟨_,_,rfl,FL.sing1 (Qm _ _ _) ((e2.out.below ag).below ((Qb _ _).alloc (Qc _) _))⟩),(Qb _ _).alloc (Qc _) _,trivial⟩
    ·intro ν wx hb hP
     have ag:=Gs a8 hb;have h2:=hP (2,57) Gh Gi;simp only[Za4]at h2;obtain⟨z3,x9,hν2,x7⟩:=h2;rw[hν2];refine Zm (i:=3) rfl (λK hK=>?_);go_simp;refine(Zcf l4 i8 j9 k3 i7 j6 i9 i4 _ z3 1 x9 [Zfc x z] wx (e2.out.below ag) x7 Gj (Zeq s6.out) (Zfq s6.out)).mono ?_;exact CY
    ·intro ν wx hb hP
     have ag:=Gs a8 hb;refine Zm (i:=16) rfl (λK hK=>?_);go_simp;exact hK.out _ _ ⟨_,rfl,(by simp only[Za4];exact⟨_,_,rfl,FL.sing1 (Qm _ _ _) ((b5.out.below ag).below ((Qb _ _).alloc (Qc _) _))⟩),(Qb _ _).alloc (Qc _) _,trivial⟩
    ·intro ν wx hb hP
     have ag:=Gs a8 hb;have e1:=hP (16,71) Gh Gi;simp only[Za4]at e1;obtain⟨m6,n3,hν16,m7⟩:=e1;rw[hν16];refine Zm (i:=17) rfl (λK hK=>?_);go_simp;refine(Zcf bn bA bk bc bm bB bj bd _ m6 1 n3 [y] wx (b5.out.below ag) m7 Gj (Zeq s2.out) (Zfq s2.out)).mono ?_;exact CY
    ·intro ν wx hb hP
     have ag:=Gs a8 hb;have h3:=hP (3,58) Gh Gi;simp only[Za4]at h3;obtain⟨E4,F5,D9,D8,F4,F0,F2,F7,hν3,z7⟩:=h3;rw[hν3];have e3:=hP (17,72) Gh Gi;simp only[Za4]at e3;obtain⟨A7,D5,B1,C5,C1,A6,C4,A5,hν17,w0⟩:=e3;rw[hν17];refine Zm (i:=18) rfl (λK hK=>?_);go_simp;exact hK.out _ _ ⟨_,rfl,(by simp only[Za4];exact⟨_,_,rfl,FL.pair2 (Qm _ _ _) ((z7).below ((Qb _ _).alloc (Qc _) _)) ((w0).below ((Qb _ _).alloc (Qc _) _))⟩),(Qb _ _).alloc (Qc _) _,trivial⟩
    ·intro ν wx hb hP
     have ag:=Gs a8 hb;have h4:=hP (18,73) Gh Gi;simp only[Za4]at h4;obtain⟨υ5,υ0,hν18,t4⟩:=h4;rw[hν18];refine Zm (i:=19) rfl (λK hK=>?_);go_simp;refine(Zmj υ5 2 υ0 [_,_] wx t4 Gj (Zre s7.out) (Zuz s7.out s8.out)).mono ?_;rintro e w5 ⟨ao,fn,fA,fk,fc,fm,fB,fj,fd,rfl,ax⟩;rw[sumF2]at ax;exact Eh
    intro ν wx hb hP;have ag:=Gs a8 hb;refine Zm (i:=20) rfl (λK hK=>?_);exact EW
   case hfin3 =>
    intro ν wx hb hP;have h2:=hP (2,57) Gh;simp only[Za4]at h2;obtain⟨E6,E5,hν2,-⟩:=h2;have h3:=hP (3,58) Gh;simp only[Za4]at h3;obtain⟨F1,F3,E9,E8,F8,E2,F6,G0,hν3,-⟩:=h3;have e1:=hP (16,71) Gh;simp only[Za4]at e1;obtain⟨v6,υ4,hν16,-⟩:=e1;have e3:=hP (17,72) Gh;simp only[Za4]at e3;obtain⟨A3,C9,A1,B4,B7,C6,B6,D4,hν17,-⟩:=e3;have h4:=hP (18,73) Gh;simp only[Za4]at h4;obtain⟨B3,A2,hν18,-⟩:=h4;have w2:=hP (19,74) Gh;simp only[Za4]at w2;obtain⟨g5,f6,g1,g4,h8,f5,f4,f8,hν19,o8⟩:=w2;have r9:=hP (20,9) Gh;simp only[Za4]at r9;obtain⟨d9,hν20,o6,l6⟩:=r9;simp only[Qg,Qi,Zap,Qa,Zhf,Zgs,Zg9];rw[hν2,hν3,hν16,hν17,hν18,hν19,hν20];clear hν2 hν3 hν16 hν17 hν18 hν19 hν20 hP ν;have ag:=Gs a8 hb;have T:=l6.four;have e5:Z2.heap.size<=d9:=o6;refine(Z7 g5 f6 g1 g4 h8 f5 f4 f8 ag e5 l6).elim (λZ3 hq=>?_);have c0:=T.1;have m2:=T.2.1;have l9:=T.2.2.1;have c3:=T.2.2.2.1;have f0:=T.2.2.2.2.1;have f1:=T.2.2.2.2.2.1;have f2:=T.2.2.2.2.2.2.1;have f3:=T.2.2.2.2.2.2.2;have hZ:=hq.1;refine wpAnyL_o 21 λK hK=>?_;go_simp;(try rw[hZ]);refine hK.out _ _ (λ_=>g7.out _ hq.2.1) ?_;clear hK K
    try simp only[Qa,Zhf,Zgs,Zg9,Gr,Gq,Gp]
    refine wpAnyL_fin ?_;have u:=hq.2.1;have a6:=hq.2.2.1;have b8:=Fr.keep o8 hq.2.2.2.1;have o3:=Za e5;clear hq hZ c0 m2 l9 c3 f0 f1 f2 f3 T l6 o6 e5 ag hb a8 g7 hxs3 o8;replace a5:=Gn a5 u;replace q0:=Gm u q0;replace q1:=Gm u q1;replace q2:=Gm u q2;replace b7:=Za (b7.out.below u);replace b5:=Za (b5.out.below u);replace b6:=Za (b6.out.below u);replace a4:=Gm u a4;replace a7:=Za (a7.out.below u);replace b9:=Gm u b9;replace e2:=Za (e2.out.below u);have m9:=Gn m4 u;clear m4;replace rI:=Zb u rI;replace rK:=Zb u rK;replace a0:=Zb u a0;replace a1:=Zb u a1;replace a2:=Zb u a2;replace a3:=Zb u a3;replace b0:=Zb u b0;replace b1:=Zb u b1;replace b2:=Zb u b2;replace b3:=Zb u b3;replace d0:=Zb u d0;replace d1:=Zb u d1;replace d2:=Zb u d2;replace d3:=Zb u d3;replace k8:=Zb u k8;replace k6:=Zb u k6;replace j5:=Zb u j5;replace j8:=Zb u j8;clear u rI rK a0 a1 a2 a3 b0 b1 b2 b3 d0 d1 d2 d3 k8 k6 j5 j8;replace a6:=Za a6;replace b8:=Za b8;clear b7 b5 b6 b9 e2;obtain⟨h0,h1,h2,h3,-⟩:=a4.out.four;obtain⟨i0,i1,i2,i3,-⟩:=a6.out.four;clear n9;go_wp2_with fail;clear h0 h1 h2 h3 i0 i1 i2 i3
    have d4:Z3.cell? ⟨d7,0,none⟩=some (.bool h7):=a4.out.cell 0;have c8:Z3.cell? ⟨d7,1,none⟩=some (.slice h5 h6 f7):=a4.out.cell 1;have c6:Z3.cell? ⟨d7,2,none⟩=some (.bool e8):=a4.out.cell 2;have c7:Z3.cell? ⟨d7,3,none⟩=some (.slice e9 g0 f9):=a4.out.cell 3;have c5:Z3.cell? ⟨d9,0,none⟩=some (.bool g5):=a6.out.cell 0;have c4:Z3.cell? ⟨d9,1,none⟩=some (.slice f6 g1 g4):=a6.out.cell 1;have c9:Z3.cell? ⟨d9,2,none⟩=some (.bool h8):=a6.out.cell 2;have d5:Z3.cell? ⟨d9,3,none⟩=some (.slice f5 f4 f8):=a6.out.cell 3;have Y:Below Z3.heap.size Z3 Z3.drew:=Zf (Qb _ _) 1;replace a5:=Gn a5 Y;replace q0:=Gm Y q0;replace q1:=Gm Y q1;replace q2:=Gm Y q2;replace a4:=Gm Y a4;replace a7:=Za (a7.out.below Y);replace a6:=Gm Y a6;replace b8:=Za (b8.out.below Y);have l8:=Gn m9 Y;clear m9;replace d4:=Zb Y d4;replace c8:=Zb Y c8;replace c6:=Zb Y c6;replace c7:=Zb Y c7;replace c5:=Zb Y c5;replace c4:=Zb Y c4;replace c9:=Zb Y c9;replace d5:=Zb Y d5;clear Y;refine Zz [7,8] (λwx=>(wx.cell? ⟨d7,0,none⟩=some (.bool h7))/\(wx.cell? ⟨d7,1,none⟩=some (.slice h5 h6 f7))/\(wx.cell? ⟨d7,2,none⟩=some (.bool e8))/\(wx.cell? ⟨d7,3,none⟩=some (.slice e9 g0 f9))/\(wx.cell? ⟨d9,0,none⟩=some (.bool g5))/\(wx.cell? ⟨d9,1,none⟩=some (.slice f6 g1 g4))/\(wx.cell? ⟨d9,2,none⟩=some (.bool h8))/\(wx.cell? ⟨d9,3,none⟩=some (.slice f5 f4 f8))) hmx ⟨d4,c8,c6,c7,c5,c4,c9,d5⟩ (λ_=>?_);refine Zke 4 [0,1,3,4] rfl Gi ⟨d4,c8,c6,c7,c5,c4,c9,d5⟩ ?_
    iterate 4 (refine tkA ?_;try simp only[Qa,Zhf,Zgs,Zg9,Gr,Gq,Gp])
    refine tk0 ?_;refine wpAnyL_o 2 λK hK=>?_;go_simp;refine(Zxa h7 h5 h6 f7 e8 e9 g0 f9 g5 f6 g1 g4 h8 f5 f4 f8 1 (Zbj x z) (Zjb x y z) (axLong x y z) Z3.drew a7.out b8.out eL.out).mono ?_;rintro e y9 ⟨O,xn,xA,xk,xc,rfl,xf⟩;replace a5:=Gn a5 O;replace q0:=Gm O q0;replace q1:=Gm O q1;replace q2:=Gm O q2;replace a4:=Gm O a4;replace a7:=Za (a7.out.below O);replace a6:=Gm O a6;replace b8:=Za (b8.out.below O);have n4:=Gn l8 O;clear l8;replace d4:=Zb O d4;replace c8:=Zb O c8;replace c6:=Zb O c6;replace c7:=Zb O c7;replace c5:=Zb O c5;replace c4:=Zb O c4;replace c9:=Zb O c9;replace d5:=Zb O d5;clear O;replace xf:=Za xf;refine hK.out _ _ (λ_=>⟨d4,c8,c6,c7,c5,c4,c9,d5⟩) ?_;clear hK K
    try simp only[Qa,Zhf,Zgs,Zg9,Gr,Gq,Gp]
    refine wpAnyL_o 5 λK hK=>?_;go_simp;refine(Zxa h7 h5 h6 f7 e8 e9 g0 f9 g5 f6 g1 g4 h8 f5 f4 f8 (-1) (Zbj x z) (Zjb x y z) (axShort x y z) y9 a7.out b8.out eS.out).mono ?_;rintro e E3 ⟨O,yn,yA,yk,yc,rfl,yf⟩;replace a5:=Gn a5 O;replace q0:=Gm O q0;replace q1:=Gm O q1;replace q2:=Gm O q2;replace a4:=Gm O a4;replace a7:=Za (a7.out.below O);replace a6:=Gm O a6;replace b8:=Za (b8.out.below O);replace xf:=Za (xf.out.below O);have r8:=Gn n4 O;clear n4;replace d4:=Zb O d4;replace c8:=Zb O c8;replace c6:=Zb O c6;replace c7:=Zb O c7;replace c5:=Zb O c5;replace c4:=Zb O c4;replace c9:=Zb O c9;replace d5:=Zb O d5;clear O;replace yf:=Za yf;refine hK.out _ _ (λ_=>⟨d4,c8,c6,c7,c5,c4,c9,d5⟩) ?_;clear hK K
    try simp only[Qa,Zhf,Zgs,Zg9,Gr,Gq,Gp]
    have lm:=o1.out;have ls:=o3.out;have y4:=z6.out;have x3:=y7.out;obtain⟨c0,c1,f0,f1⟩:=q0.out.two;obtain⟨W5,x6,x8,n0,kW,kB,-⟩:=Za0 xn xA xk xc r8.out (Qc _) q0.out;have q9:=kB _ _ _ Gk q1.out;have υ3:=kB _ _ _ Gk q2.out;obtain⟨j0,j1,j2,j3,-⟩:=(kB _ _ _ Gk a4.out).four;obtain⟨l0,l1,l2,l3,-⟩:=(kB _ _ _ Gk a6.out).four;have z4:Hid (_/\_/\_/\_/\_/\_/\_/\_):=Za ⟨j0,j1,j2,j3,l0,l1,l2,l3⟩;clear j0 j1 j2 j3 l0 l1 l2 l3 lm ls y4 x3;have t7:=kW _ _ _ _ _ xf.out;have υ8:=kW _ _ _ _ _ yf.out;obtain⟨c2,c3,f2,f3⟩:=q9.two;obtain⟨W6,y6,x4,n1,q8,p5,-⟩:=Za0 yn yA yk yc x8 Gk q9;have t6:=p5 _ _ _ Gk n0;have o0:=p5 _ _ _ Gk υ3;have x1:=q8 _ _ _ _ _ t7;have w4:=q8 _ _ _ _ _ υ8;have e0:=o0.cell 0;have z0:=o0.frozen 0;simp at e0;obtain⟨U,hU,n8,n2,r0,q6,-⟩:=Z8 0 x4 Gk o0;have r4:=n2.cell 0;simp at r4;obtain⟨y0,y1,-⟩:=(q6 _ _ _ Gk t6).two;obtain⟨y2,y3,-⟩:=(q6 _ _ _ Gk n1).two;have z5:=Za (r0 _ _ _ _ _ x1);have y5:=Za (r0 _ _ _ _ _ w4);clear kW kB q8 p5 r0 q6 t7 υ8 x1 w4 n0 n1 t6 q9 υ3 o0;refine wpAnyL_o 6 λK hK=>?_;go_simp;(try rw[x6]);refine hK.out _ _ (λ_=>z4.out) ?_;clear hK K
    try simp only[Qa,Zhf,Zgs,Zg9,Gr,Gq,Gp]
    refine Zu (i:=7) rfl Gi Gi (λK hK=>?_);go_simp;(try rw[y6]);refine hK.out _ _ ?_;clear hK K
    try simp only[Qa,Zhf,Zgs,Zg9,Gr,Gq,Gp]
    refine Zu (i:=8) rfl Gi Gi (λK hK=>?_);go_simp;(try rw[hU]);refine hK.out _ _ ?_;clear hK K
    try simp only[Qa,Zhf,Zgs,Zg9,Gr,Gq,Gp]
    refine wpAnyL_fin ?_;go_wp2_with fail;refine leaves_cons (f:=39) (args:=#[.pointer (some ⟨w.heap.size+1+1,0,none⟩)]) Gh Ge ?_;refine(Zdv _ _).mono ?_;rintro e u' w'' ⟨rfl,rfl,rfl⟩;exact⟨.tuple #[.agg #[.bool xn,.slice xA xk xc],.agg #[.bool yn,.slice yA yk yc],.int .i64 0],by simp[results,Tryz.results28,go_sem,r4,y0,y1,y2,y3],n8,.inl ⟨m0.out,_,_,_,_,_,_,_,_,rfl,by rw[r2.out,v5.out,w7.out];exact z5.out,by rw[r2.out,v5.out,w7.out];exact y5.out⟩⟩
section
variable{a b d:Rat}
end
def pA(E:Int)(z:Int):Bool:=if E=0 then decide (z<0)else false
theorem Fr.df7{w:World}{na:Bool}{A:Option Addr}{n c:Nat}{nb:Bool}{B:Option Addr}{m d:Nat}{q:Rat}(h:Fr w na A n c nb B m d q):na=(dfQ q).na/\nb=(dfQ q).nb/\Lim w A n c (dfQ q).la/\Lim w B m d (dfQ q).lb:=by
 have h3:=h.2.2.2;rw[Int.natAbs_natCast]at h3;exact⟨h.1.1,h.neg,h.1.2.2,h3⟩
theorem ex_sigV{es:List FX}(h:es.map Zl7=([1000,500]:List Rat).map λq=>(Zla q,true,q)):(∀ e ∈ es,e.few<=4 \/ 64<e.few)/\Zcz es=true:=by
 have h3:∀ y ∈ (([1000,500]:List Rat).map λq=>(Zla q,true,q)),y.1<=4/\y.2.1=true:=GY
 have h4:∀ e ∈ es,(Zl7 e).1<=4/\(Zl7 e).2.1=true:=λe he=>by
  have h2:Zl7 e ∈ es.map Zl7:=List.mem_map_of_mem he;rw[h]at h2;exact h3 _ h2
 refine⟨λe he=>.inl (h4 e he).1,?_⟩;unfold Zcz;rw[List.all_eq_true];intro e he;have h1:=(h4 e he).1;have h2:=(h4 e he).2;unfold FX.fine64;simp only[Zl7]at h1 h2;rw[h2];simp;omega
theorem ex_dist{rs:List RX}{es:List FX}(h:qM rs=exQ)(hl:rs.length=2)(hq:es.map FX.q=[1000,500]):Zpt rs es=2:=by
 unfold Zpt;rw[h,hl];exact ex_bil (by unfold Zrw;rw[hq];rfl) (by unfold Zrw;rw[hq];rfl)
theorem ex_axE{rs:List RX}(h:Zat rs=0)(hl:rs.length=2):axE rs=0:=by
 unfold axE;rw[Gw (by simp[h]),Gx hl]
theorem Zzq(w:World):Calls Tryz.prog 13 #[] w λe w'=>e=.returned (.bool true)/\Below w.heap.size w w':=by
 have hmx:=Gt;have g6:∀ l:List Int,(∀ x ∈ l,x.natAbs<=1000000000000)->∀ x ∈ l,I64 x:=λl h x hx=>by have:=h x hx;unfold I64;omega
 have i7:Hid (Below w.heap.size w w):=Za (Qb _ _);go_in;obtain⟨g1,h3⟩:=Gz w.heap.size;obtain⟨V3,k5,q5,k2⟩:=Zan (w:=w) 2 #[.int .i64 1,.int .i64 0];rw[h3]at q5;have i6:=Gn i7 k2;clear i7 k2;replace q5:=Za q5;obtain⟨g8,h5⟩:=Gz V3.heap.size;obtain⟨k0,i0,b0,f9⟩:=Zan (w:=V3) 2 #[.int .i64 0,.int .i64 2];rw[h5]at b0;replace q5:=Gm f9 q5;have e5:=Gn i6 f9;clear i6 f9;replace b0:=Za b0;obtain⟨j2,c7⟩:=Gz k0.heap.size;obtain⟨l6,i2,c0,c2⟩:=Zan (w:=k0) 23 #[.slice (some ⟨g1,0,none⟩) 2 2,.slice (some ⟨g8,0,none⟩) 2 2];rw[c7]at c0;replace q5:=Gm c2 q5;replace b0:=Gm c2 b0;have f7:=Gn e5 c2;clear e5 c2;replace c0:=Za c0;obtain⟨l4,c5⟩:=Gz l6.heap.size;obtain⟨i8,h7,e0,b7⟩:=Zan (w:=l6) 2 #[.int .i64 1000000000000,.int .i64 1000000000000];rw[c5]at e0;replace q5:=Gm b7 q5;replace b0:=Gm b7 b0;replace c0:=Gm b7 c0;have e8:=Gn f7 b7;clear f7 b7;replace e0:=Za e0
 have b8:MIL i8 (some ⟨j2,0,none⟩) 2 2 (exR (some ⟨g1,0,none⟩) (some ⟨g8,0,none⟩)):=MIL.two7 (a:=⟨(some ⟨g1,0,none⟩),2,2,[1,0]⟩) (b:=⟨(some ⟨g8,0,none⟩),2,2,[0,2]⟩) c0.out (LimI.lit7 (l:=[1,0]) q5.out rfl (g6 _ Gj) Gj) (LimI.lit7 (l:=[0,2]) b0.out rfl (g6 _ Gj) Gj);have c9:LimI i8 (some ⟨l4,0,none⟩) 2 2 exW:=LimI.lit7 (l:=exW) e0.out rfl (g6 _ Gj) Gj;obtain⟨X,e6,-,h4⟩:=of_all (ws:=exW) b8 (ex_mod (k:=2) Gj);have d8:ofQ X 2=exQ:=ex_ofQ (e6 ex_of).1;clear q5 b0 c0 e0;replace b8:=Za b8;replace c9:=Za c9;replace e6:=Za e6;replace h4:=Za h4;replace d8:=Za d8;go_wp2_with fail;(try rw[h3]);(try rw[k5]);(try rw[h5]);(try rw[i0]);(try rw[c7]);(try rw[i2]);(try rw[c5]);(try rw[h7]);clear k5;replace h3:=Za h3;clear i0;replace h5:=Za h5;clear i2;replace c7:=Za c7;clear h7;replace c5:=Za c5;refine(cOf_any (some ⟨j2,0,none⟩) (some ⟨l4,0,none⟩) 2 2 2 2 (exR (some ⟨g1,0,none⟩) (some ⟨g8,0,none⟩)) exW X i8 b8.out c9.out e6.out h4.out).mono ?_;rintro e m4 ⟨a1,hP⟩;replace b8:=Za (b8.out.below a1);replace c9:=Za (c9.out.below a1);have d5:=Gn e8 a1;clear e8 a1;rcases hP with ⟨-,rt,i4,⟨-,A1,c1,rfl,V⟩|⟨h9,-⟩⟩|⟨h9,-⟩
 case inr=>exact absurd ex_of h9
 case inl.inr =>
  rw[ex_n0,d8.out]at i4;exact absurd (Zrm i4) h9
 rw[ex_n0,d8.out]at V;rw[ex_n0];clear i4 e6 h4 d8 b8 c9;replace V:=Za V;go_wp2_with fail;refine(Zh8 m4).mono ?_;rintro e m3 ⟨Aa,rfl,i5,j1⟩;replace V:=Za (V.out.below i5);have f3:=Gn d5 i5;clear d5 i5;obtain⟨rsa,b1,d4,g7⟩:=j1.mxs;have k7:=Za (FacC.of b1 (Zr2 g7) (λ_=>by decide));have j0:Hid (Zlh 4 rsa):=Za (λr hr e he=>(Zr2 g7 r hr e he).imp (λh=>Qu h Gj) id);have k8:=Za (Zrm g7);have k9:Hid (rsa.length=2):=Za b1.1;replace d4:=Za d4;clear j1 g7;replace b1:=Za b1;go_wp2_with fail;refine(Z0j Aa 2 2 rsa m3 b1.out k7.out (λh0=>Z3g b1.out j0.out h0)).mono ?_;rintro e l0 ⟨a1,hP⟩;replace V:=Za (V.out.below a1);replace b1:=Za (b1.out.below a1);have d7:=Gn f3 a1;clear f3 a1;rcases hP with ⟨-,un,uA,uk,uc,vn,vA,vk,vc,rfl,hu,hv⟩|⟨h9,-⟩
 case inr=>exact absurd (ex_axE k8.out k9.out) h9
 rw[d4.out,ex_ent.1,ex_ent.2.1,ex_ent.2.2,ex_axes.1]at hu;rw[d4.out,ex_ent.1,ex_ent.2.1,ex_ent.2.2,ex_axes.2]at hv;obtain rfl:un=false:=hu.1;obtain rfl:vn=false:=hv.1;have ul:=hu.lim;have vl:=hv.lim;clear hu hv k7 j0 k8 k9 d4 b1;replace ul:=Za ul;replace vl:=Za vl;obtain⟨l7,h6,e4,⟨a3,a2⟩,s2⟩:=Zef l0 39 #[.bool false,.slice uA uk uc] 39 #[.bool false,.slice vA vk vc];obtain⟨b4,c4⟩:=Gz l0.heap.size;rw[c4]at a3 a2;clear s2;replace V:=Za (V.out.below e4);replace ul:=Za (ul.out.below e4);replace vl:=Za (vl.out.below e4);have d9:=Gn d7 e4;clear d7 e4;replace a3:=Za a3;replace a2:=Za a2;go_wp2_with fail;(try rw[c4]);(try rw[h6]);clear h6;replace c4:=Za c4;refine(Zh8 l7).mono ?_;rintro e l5 ⟨Ab,rfl,b9,j5⟩;replace V:=Za (V.out.below b9);replace ul:=Za (ul.out.below b9);replace vl:=Za (vl.out.below b9);replace a3:=Gm b9 a3;replace a2:=Gm b9 a2;have g2:=Gn d9 b9;clear d9 b9;obtain⟨rsb,a6,h1,g9⟩:=j5.mxs;have k3:=Za (FacC.of a6 (Zr2 g9) (λ_=>by decide));have l3:Hid (Zlh 4 rsb):=Za (λr hr e he=>(Zr2 g9 r hr e he).imp (λh=>Qu h Gj) id);have j4:=Za (Zrm g9);have i9:Hid (rsb.length=2):=Za a6.1;replace h1:=Za h1;clear j5 g9;replace a6:=Za a6;obtain⟨k6,c3⟩:=Gz l5.heap.size
 obtain⟨k1,i1,e3,a7⟩:=Zan (w:=l5) 2 #[.int .i64 1000,.int .i64 500];rw[c3]at e3;replace V:=Za (V.out.below a7);replace ul:=Za (ul.out.below a7);replace vl:=Za (vl.out.below a7);replace a3:=Gm a7 a3;replace a2:=Gm a7 a2;replace a6:=Za (a6.out.below a7);have f4:=Gn g2 a7;clear g2 a7;replace e3:=Za e3;have hL:LimI k1 (some ⟨k6,0,none⟩) 2 2 [1000,500]:=LimI.lit7 (l:=[1000,500]) e3.out rfl (g6 _ Gj) Gj;clear e3;replace hL:=Za hL;go_wp2_with fail;(try rw[c3]);(try rw[i1]);clear i1;replace c3:=Za c3;refine(Zmq (some ⟨k6,0,none⟩) 2 2 [1000,500] k1 hL.out Gj).mono ?_;rintro e l2 ⟨n1,rfl,b2,j8⟩;replace V:=Za (V.out.below b2);replace ul:=Za (ul.out.below b2);replace vl:=Za (vl.out.below b2);replace a3:=Gm b2 a3;replace a2:=Gm b2 a2;replace a6:=Za (a6.out.below b2);replace hL:=Za (hL.out.below b2);have f0:=Gn f4 b2;clear f4 b2;obtain⟨Al,cl,rfl,h2⟩:=j8.fl;replace h2:FL l2 Al 2 cl [1000,500]:=h2;obtain⟨es,b6,l1,j7⟩:=h2.fxs;obtain⟨g5,i3⟩:=ex_sigV j7;have k4:=Za (Zsk j4.out ⟨b6.1.trans i9.out.symm,i3⟩);have j3:=Za (ex_dist h1.out i9.out l1);replace g5:=Za g5;clear j8 h2 j7 i3 l1;simp only[Qg,Qi,List.length_cons,List.length_nil];clear hL;replace b6:=Za b6;go_wp2_with fail
 refine(Zo0 Ab Al 2 2 2 cl rsb es l2 a6.out k3.out b6.out (λh0=>Z3f a6.out b6.out l3.out Gj g5.out h0)).mono ?_;rintro e j6 ⟨a1,hP⟩;replace V:=Za (V.out.below a1);replace ul:=Za (ul.out.below a1);replace vl:=Za (vl.out.below a1);replace a3:=Gm a1 a3;replace a2:=Gm a1 a2;replace a6:=Za (a6.out.below a1);replace b6:=Za (b6.out.below a1);have d3:=Gn f0 a1;clear f0 a1;rcases hP with ⟨-,dn,dA,dk,dc,dm,dB,dj,dd,rfl,hF⟩|⟨h9,-⟩
 case inr=>exact absurd k4.out h9
 rw[j3.out]at hF;obtain⟨e1,e2,dl,Y⟩:=hF.df7;subst e1 e2;clear hF k3 l3 j4 i9 h1 k4 j3 g5 a6 b6;replace Y:=Za Y;replace dl:=Za dl;obtain⟨b5,c6⟩:=Gz j6.heap.size;obtain⟨a8,h8,b3,a5⟩:=Zan (w:=j6) 41 #[.bool (dfQ 2).na,.slice dA dk dc,.bool (dfQ 2).nb,.slice dB dj dd];rw[c6]at b3;replace V:=Za (V.out.below a5);replace ul:=Za (ul.out.below a5);replace vl:=Za (vl.out.below a5);replace a3:=Gm a5 a3;replace a2:=Gm a5 a2;replace dl:=Za (dl.out.below a5);replace Y:=Za (Y.out.below a5);have d6:=Gn d3 a5;clear d3 a5;replace b3:=Za b3;go_wp2_with fail;(try rw[c6]);(try rw[h8]);clear h8;replace c6:=Za c6;have I:a8.cell? ⟨b4,0,none⟩=some (.bool false):=a3.out.cell 0;have C:a8.cell? ⟨b4,1,none⟩=some (.slice uA uk uc):=a3.out.cell 1;have o:a8.cell? ⟨b4+1,0,none⟩=some (.bool false):=a2.out.cell 0;have J:a8.cell? ⟨b4+1,1,none⟩=some (.slice vA vk vc):=a2.out.cell 1;have T:a8.cell? ⟨b5,0,none⟩=some (.bool (dfQ 2).na):=b3.out.cell 0;have O:a8.cell? ⟨b5,1,none⟩=some (.slice dA dk dc):=b3.out.cell 1;have y:a8.cell? ⟨b5,2,none⟩=some (.bool (dfQ 2).nb):=b3.out.cell 2;have u:a8.cell? ⟨b5,3,none⟩=some (.slice dB dj dd):=b3.out.cell 3;clear a3 a2 b3;have a0:Below a8.heap.size a8 a8.drew:=Zf (Qb _ _) 1;replace V:=Za (V.out.below a0)
 replace ul:=Za (ul.out.below a0);replace vl:=Za (vl.out.below a0);replace dl:=Za (dl.out.below a0);replace Y:=Za (Y.out.below a0);have g0:=Gn d6 a0;clear d6;replace I:=Zb a0 I;replace C:=Zb a0 C;replace o:=Zb a0 o;replace J:=Zb a0 J;replace T:=Zb a0 T;replace O:=Zb a0 O;replace y:=Zb a0 y;replace u:=Zb a0 u;clear a0;refine Zz [] (λwx=>(wx.cell? ⟨b4,0,none⟩=some (.bool false))/\(wx.cell? ⟨b4,1,none⟩=some (.slice uA uk uc))/\(wx.cell? ⟨b4+1,0,none⟩=some (.bool false))/\(wx.cell? ⟨b4+1,1,none⟩=some (.slice vA vk vc))/\(wx.cell? ⟨b5,0,none⟩=some (.bool (dfQ 2).na))/\(wx.cell? ⟨b5,1,none⟩=some (.slice dA dk dc))/\(wx.cell? ⟨b5,2,none⟩=some (.bool (dfQ 2).nb))/\(wx.cell? ⟨b5,3,none⟩=some (.slice dB dj dd))) hmx ⟨I,C,o,J,T,O,y,u⟩ (λ_=>?_);refine Zke 4 [0,1,2,3] rfl Gi ⟨I,C,o,J,T,O,y,u⟩ ?_
 iterate 4 (refine tkA ?_;try simp only[Qa,Zhf,Zgs,Zg9,Gr,Gq,Gp])
 refine tk0 ?_;refine wpAnyL_o 4 λK hK=>?_
 (try rw[Gx Gi]);go_simp;refine(Zh8 a8.drew).mono ?_;rintro e n0 ⟨Ac,rfl,a4,c8⟩;replace V:=Za (V.out.below a4);replace ul:=Za (ul.out.below a4);replace vl:=Za (vl.out.below a4);replace dl:=Za (dl.out.below a4);replace Y:=Za (Y.out.below a4);have f6:=Gn g0 a4;clear g0;replace I:=Zb a4 I;replace C:=Zb a4 C;replace o:=Zb a4 o;replace J:=Zb a4 J;replace T:=Zb a4 T;replace O:=Zb a4 O;replace y:=Zb a4 y;replace u:=Zb a4 u;clear a4;replace c8:=Za c8;refine hK.out _ _ (λ_=>⟨I,C,o,J,T,O,y,u⟩) ?_;clear hK K
 try simp only[Qa,Zhf,Zgs,Zg9,Gr,Gq,Gp]
 refine wpAnyL_o 5 λK hK=>?_
 (try rw[Gx Gi]);go_simp;refine(Zig A1 Ac 2 c1 2 _ n0 V.out.xm c8.out.xm).mono ?_;rintro e m0 ⟨rfl,f⟩;replace V:=Za (V.out.below f);replace ul:=Za (ul.out.below f);replace vl:=Za (vl.out.below f);replace dl:=Za (dl.out.below f);replace Y:=Za (Y.out.below f);replace c8:=Za (c8.out.below f);have f5:=Gn f6 f;clear f6;replace I:=Zb f I;replace C:=Zb f C;replace o:=Zb f o;replace J:=Zb f J;replace T:=Zb f T;replace O:=Zb f O;replace y:=Zb f y;replace u:=Zb f u;clear f;refine hK.out _ _ (λ_=>⟨I,C,o,J,T,O,y,u⟩) ?_;clear hK K
 try simp only[Qa,Zhf,Zgs,Zg9,Gr,Gq,Gp]
 clear V c8;refine Zke 7 [6,7,8,9,10,11,12] rfl Gi ⟨I,C,o,J,T,O,y,u⟩ ?_
 iterate 7 (refine tkA ?_;try simp only[Qa,Zhf,Zgs,Zg9,Gr,Gq,Gp])
 refine tk0 ?_;refine wpAnyL_o 13 λK hK=>?_
 (try rw[Gx Gi]);go_simp;refine(Zdh 1000000 m0 Gj Gj).mono ?_;rintro e m6 ⟨U,nn,l8,nuk,nuc,rfl,hn⟩;replace ul:=Za (ul.out.below U);replace vl:=Za (vl.out.below U);replace dl:=Za (dl.out.below U);replace Y:=Za (Y.out.below U);have d0:=Gn f5 U;clear f5;replace I:=Zb U I;replace C:=Zb U C;replace o:=Zb U o;replace J:=Zb U J;replace T:=Zb U T;replace O:=Zb U O;replace y:=Zb U y;replace u:=Zb U u;clear U;obtain rfl:nn=false:=hn.1;have nul:=Za hn.lim;clear hn;refine hK.out _ _ (λ_=>⟨I,C,o,J,T,O,y,u⟩) ?_;clear hK K
 try simp only[Qa,Zhf,Zgs,Zg9,Gr,Gq,Gp]
 refine wpAnyL_o 14 λK hK=>?_
 (try rw[Gx Gi]);go_simp;refine(Zdx false false uA l8 uk uc nuk nuc _ _ m6 ul.out nul.out).mono ?_;rintro e m7 ⟨he,f⟩;replace ul:=Za (ul.out.below f);replace vl:=Za (vl.out.below f);replace dl:=Za (dl.out.below f);replace Y:=Za (Y.out.below f);replace nul:=Za (nul.out.below f);have f8:=Gn d0 f;clear d0;replace I:=Zb f I;replace C:=Zb f C;replace o:=Zb f o;replace J:=Zb f J;replace T:=Zb f T;replace O:=Zb f O;replace y:=Zb f y;replace u:=Zb f u;clear f;rw[Zg0]at he;subst he;refine hK.out _ _ (λ_=>⟨I,C,o,J,T,O,y,u⟩) ?_;clear hK K
 try simp only[Qa,Zhf,Zgs,Zg9,Gr,Gq,Gp]
 clear nul ul;refine Zke 3 [15,16,17] rfl Gi ⟨I,C,o,J,T,O,y,u⟩ ?_
 iterate 3 (refine tkA ?_;try simp only[Qa,Zhf,Zgs,Zg9,Gr,Gq,Gp])
 refine tk0 ?_;refine wpAnyL_o 18 λK hK=>?_
 (try rw[Gx Gi]);go_simp;refine(Zdh 250000 m7 Gj Gj).mono ?_;rintro e m5 ⟨U,nn,m9,nvk,nvc,rfl,hn⟩;replace vl:=Za (vl.out.below U);replace dl:=Za (dl.out.below U);replace Y:=Za (Y.out.below U);have e9:=Gn f8 U;clear f8;replace I:=Zb U I;replace C:=Zb U C;replace o:=Zb U o;replace J:=Zb U J;replace T:=Zb U T;replace O:=Zb U O;replace y:=Zb U y;replace u:=Zb U u;clear U;obtain rfl:nn=false:=hn.1;have nvl:=Za hn.lim;clear hn;refine hK.out _ _ (λ_=>⟨I,C,o,J,T,O,y,u⟩) ?_;clear hK K
 try simp only[Qa,Zhf,Zgs,Zg9,Gr,Gq,Gp]
 refine wpAnyL_o 19 λK hK=>?_
 (try rw[Gx Gi]);go_simp;refine(Zdx false false vA m9 vk vc nvk nvc _ _ m5 vl.out nvl.out).mono ?_;rintro e l9 ⟨he,f⟩;replace vl:=Za (vl.out.below f);replace dl:=Za (dl.out.below f);replace Y:=Za (Y.out.below f);replace nvl:=Za (nvl.out.below f);have e7:=Gn e9 f;clear e9;replace I:=Zb f I;replace C:=Zb f C;replace o:=Zb f o;replace J:=Zb f J;replace T:=Zb f T;replace O:=Zb f O;replace y:=Zb f y;replace u:=Zb f u;clear f;rw[Zg0]at he;subst he;refine hK.out _ _ (λ_=>⟨I,C,o,J,T,O,y,u⟩) ?_;clear hK K
 try simp only[Qa,Zhf,Zgs,Zg9,Gr,Gq,Gp]
 clear nvl vl;refine Zke 7 [20,21,22,23,24,25,26] rfl Gi ⟨I,C,o,J,T,O,y,u⟩ ?_
 iterate 7 (refine tkA ?_;try simp only[Qa,Zhf,Zgs,Zg9,Gr,Gq,Gp])
 refine tk0 ?_;refine wpAnyL_o 27 λK hK=>?_
 (try rw[Gx Gi]);go_simp;refine(Zj5 2 1 l9 Gj Gj Gj Gj).mono ?_;rintro e m8 ⟨a9,pn,pA,pk,pc,pm,pB,pj,pd,rfl,hp⟩;replace dl:=Za (dl.out.below a9);replace Y:=Za (Y.out.below a9);have g4:=Gn e7 a9;clear e7;replace I:=Zb a9 I;replace C:=Zb a9 C;replace o:=Zb a9 o;replace J:=Zb a9 J;replace T:=Zb a9 T;replace O:=Zb a9 O;replace y:=Zb a9 y;replace u:=Zb a9 u;clear a9;rw[show Rat.divInt 2 1=2 by decide +kernel]at hp;obtain⟨e1,e2,m1,m2⟩:=hp.df7;subst e1 e2;clear hp;replace m1:=Za m1;replace m2:=Za m2;refine hK.out _ _ (λ_=>⟨I,C,o,J,T,O,y,u⟩) ?_;clear hK K
 try simp only[Qa,Zhf,Zgs,Zg9,Gr,Gq,Gp]
 refine wpAnyL_o 28 λK hK=>?_
 (try rw[Gx Gi]);go_simp;refine(Zmn (dfQ 2).na (dfQ 2).nb dA dB pA pB dk dc dj dd pk pc pj pd (dfQ 2).la (dfQ 2).lb m8 dl.out Y.out m1.out m2.out).mono ?_;rintro e n2 ⟨rfl,f⟩;replace dl:=Za (dl.out.below f);replace Y:=Za (Y.out.below f);replace m1:=Za (m1.out.below f);replace m2:=Za (m2.out.below f);have j9:=Gn g4 f;clear g4;replace I:=Zb f I;replace C:=Zb f C;replace o:=Zb f o;replace J:=Zb f J;replace T:=Zb f T;replace O:=Zb f O;replace y:=Zb f y;replace u:=Zb f u;clear f;refine hK.out _ _ (λ_=>⟨I,C,o,J,T,O,y,u⟩) ?_;clear hK K
 try simp only[Qa,Zhf,Zgs,Zg9,Gr,Gq,Gp]
 refine Zke 1 [29] rfl Gi ⟨I,C,o,J,T,O,y,u⟩ ?_
 (refine tkA ?_;try simp only[Qa,Zhf,Zgs,Zg9,Gr,Gq,Gp])
 refine tk0 ?_;refine Zgt 1 [30] rfl Gi ⟨I,C,o,J,T,O,y,u⟩ ?_
 (refine tkA ?_;try simp only[Qa,Zhf,Zgs,Zg9,Gr,Gq,Gp])
 refine tk0 ?_;refine wpAnyL_fin ?_;clear I C o J T O y u;go_wp2_with fail;go_ret;exact⟨rfl,j9.out⟩
theorem Zwt(xn:Bool)(xA:Option Addr)(xk xc:Nat)(xm:Bool)(xB:Option Addr)(xj xd:Nat)(yn:Bool)(yA:Option Addr)(yk yc:Nat)(ym:Bool)(yB:Option Addr)(yj yd:Nat)(a b:Rat)(w:World)(ha:Fr w xn xA xk xc xm xB xj xd a)(hb:Fr w yn yA yk yc ym yB yj yd b)(sa:Sm a)(sb:Sm b) :
    Calls Tryz.prog 19 #[.agg #[.bool xn,.slice xA xk xc,.bool xm,.slice xB xj xd],.agg #[.bool yn,.slice yA yk yc,.bool ym,.slice yB yj yd]] w (Zdl w (a+b)):=by
 obtain⟨W0,J,h,⟨q0,q1,q2⟩,s0⟩:=Zb0 w 41 #[.bool xn,.slice xA xk xc,.bool xm,.slice xB xj xd] 41 #[.bool yn,.slice yA yk yc,.bool ym,.slice yB yj yd] 41 #[.bool false,.slice none 0 0,.bool false,.slice none 0 0];obtain⟨a0,a1,a2,a3,-⟩:=q0.four;obtain⟨b0,b1,b2,b3,-⟩:=q1.four;obtain⟨gR,y⟩:=Gz (w.heap.size+1+1);rw[y]at q2;have hA:=ha.below h;have hD:=hb.below h;go_in;go_wp2_with fail;(try rw[J]);refine(Z0y xn xm yn ym xA xB yA yB xk xc xj xd yk yc yj yd a b W0 hA hD sa sb).mono ?_;rintro e w1 ⟨ab,pn,pA,pk,pc,pm,pB,pj,pd,rfl,hf⟩;replace q2:=Zc ab q2;clear a0 a1 a2 a3 b0 b1 b2 b3 q0 q1 hA hD;obtain⟨V1,V,o,t0,tz⟩:=Zam w1 41 #[.bool false,.slice none 0 0,.bool false,.slice none 0 0];have Y:=Zc o q2;obtain⟨gn,u⟩:=Gz w1.heap.size
 have U:gR<gn:=by
  have h1:=ab.size;omega
 rw[u]at t0;obtain⟨υ0,υ1,υ2,υ3,v0,v1,v2,v3⟩:=t0.four;obtain⟨V2,T,p2,I,s2⟩:=Zau pn pA pk pc pm pB pj pd t0;have aq:Below w1.heap.size w1 V2:=o.trans (I.to_below (λk e=>by omega) o.size);have f:=Zc aq q2;have C:=hf.below aq;obtain⟨o0,o1,o2,o3,-⟩:=p2.four;obtain⟨c0,c1,c2,c3,z0,z1,z2,z3⟩:=f.four;obtain⟨W5,O,q5,aQ,s5⟩:=Zau pn pA pk pc pm pB pj pd f;have hr:=C.keptN aQ f (Za6 _ _ _ _ _ _ _ _);have bX:=h;replace aq:=Za aq;replace hr:=Za hr;clear hf C;go_wp2_with fail;(try rw[u]);(try rw[T]);(try rw[y]);go_wp2_with fail;(try rw[O]);obtain⟨r0,r1,r2,r3,-⟩:=q5.four;refine bodyPost_ret (v:=.agg #[.bool pn,.slice pA pk pc,.bool pm,.slice pB pj pd]) (by simp[results,Tryz.results19,go_sem,r0,r1,r2,r3]) rfl ?_;exact Ec
theorem Zt8(xn:Bool)(xA:Option Addr)(xk xc:Nat)(xm:Bool)(xB:Option Addr)(xj xd:Nat)(yn:Bool)(yA:Option Addr)(yk yc:Nat)(ym:Bool)(yB:Option Addr)(yj yd:Nat)(a b:Rat)(w:World)(ha:Fr w xn xA xk xc xm xB xj xd a)(hb:Fr w yn yA yk yc ym yB yj yd b)(sa:Sm a)(sb:Sm b) :
    Calls Tryz.prog 20 #[.agg #[.bool xn,.slice xA xk xc,.bool xm,.slice xB xj xd],.agg #[.bool yn,.slice yA yk yc,.bool ym,.slice yB yj yd]] w (Zdl w (a*b)):=by
 obtain⟨W0,J,h,⟨q0,q1,q2⟩,s0⟩:=Zb0 w 41 #[.bool xn,.slice xA xk xc,.bool xm,.slice xB xj xd] 41 #[.bool yn,.slice yA yk yc,.bool ym,.slice yB yj yd] 41 #[.bool false,.slice none 0 0,.bool false,.slice none 0 0];obtain⟨a0,a1,a2,a3,-⟩:=q0.four;obtain⟨b0,b1,b2,b3,-⟩:=q1.four;obtain⟨gR,y⟩:=Gz (w.heap.size+1+1);rw[y]at q2;have hA:=ha.below h;have hD:=hb.below h;go_in;go_wp2_with fail;(try rw[J]);refine(Zo8 xn xm yn ym xA xB yA yB xk xc xj xd yk yc yj yd a b W0 hA hD sa sb).mono ?_;rintro e w1 ⟨ab,pn,pA,pk,pc,pm,pB,pj,pd,rfl,hf⟩;replace q2:=Zc ab q2;clear a0 a1 a2 a3 b0 b1 b2 b3 q0 q1 hA hD;obtain⟨V1,V,o,t0,tz⟩:=Zam w1 41 #[.bool false,.slice none 0 0,.bool false,.slice none 0 0];have Y:=Zc o q2;obtain⟨gn,u⟩:=Gz w1.heap.size
 have U:gR<gn:=by
  have h1:=ab.size;omega
 rw[u]at t0;obtain⟨υ0,υ1,υ2,υ3,v0,v1,v2,v3⟩:=t0.four;obtain⟨V2,T,p2,I,s2⟩:=Zau pn pA pk pc pm pB pj pd t0;have aq:Below w1.heap.size w1 V2:=o.trans (I.to_below (λk e=>by omega) o.size);have f:=Zc aq q2;have C:=hf.below aq;obtain⟨o0,o1,o2,o3,-⟩:=p2.four;obtain⟨c0,c1,c2,c3,z0,z1,z2,z3⟩:=f.four;obtain⟨W5,O,q5,aQ,s5⟩:=Zau pn pA pk pc pm pB pj pd f;have hr:=C.keptN aQ f (Za6 _ _ _ _ _ _ _ _);have bX:=h;replace aq:=Za aq;replace hr:=Za hr;clear hf C;go_wp2_with fail;(try rw[u]);(try rw[T]);(try rw[y]);go_wp2_with fail;(try rw[O]);obtain⟨r0,r1,r2,r3,-⟩:=q5.four;refine bodyPost_ret (v:=.agg #[.bool pn,.slice pA pk pc,.bool pm,.slice pB pj pd]) (by simp[results,Tryz.results20,go_sem,r0,r1,r2,r3]) rfl ?_;exact Ec
def Lim32(w:World)(A:Option Addr)(n c:Nat)(l:List Int):Prop:=
 l.length=n/\n<=c/\c<=maxLen/\(∀ x ∈ l,-2147483648<=x/\x<=2147483647)/\(0<n->∃ b o,A=some ⟨b,o,none⟩/\∀ k,k<n->w.cell? ⟨b,o+k,none⟩=some (.int .i32 (l[k]?.getD 0)))
theorem Lim32.below{w w':World}{A:Option Addr}{n c:Nat}{l:List Int}(h:Lim32 w A n c l)(hb:Below w.heap.size w w'):Lim32 w' A n c l:=by
 obtain⟨h1,h2,h3,h4,h5⟩:=h;refine⟨h1,h2,h3,h4,λhn=>?_⟩;obtain⟨b,o,e,hc⟩:=h5 hn;exact⟨b,o,e,λk hk=>Zb hb (hc k hk)⟩
theorem Lim32.get{w:World}{A:Option Addr}{n c:Nat}{l:List Int}(h:Lim32 w A n c l)(k:Nat):-2147483648<=l[k]?.getD 0/\l[k]?.getD 0<=2147483647:=by
 by_cases hk:k<l.length;rw[Ql hk];exact h.2.2.2.1 _ (List.getElem_mem hk);rw[Qd Gk];decide
def Zc8(l:List Int):List Int:=l.map λx=>Qo x 1048576
theorem Zvo(x:Int):(Qo x 1048576).natAbs<=1048576:=by
 rw[Int.natAbs_tmod];exact Nat.le_of_lt (Nat.mod_lt _ Gj)
theorem Zuj(l:List Int)(k:Nat):(Zc8 l)[k]?.getD 0=Qo (l[k]?.getD 0) 1048576:=by
 unfold Zc8;rw[Qe];cases l[k]? <;> simp
theorem Z1u(l:List Int)(k:Nat):(gI (Zc8 l) k).natAbs<=1048576:=by
 unfold gI;rw[Zuj];exact Zvo _
theorem Zpz(l:List Int):∀ x ∈ Zc8 l,x.natAbs<=1099511627776:=λx hx=>by
 obtain⟨y,-,rfl⟩:=List.mem_map.1 hx;have:=Zvo y;omega
def RowI(w:World)(g n:Nat)(l:List Int):Prop:=l.length=n/\Blk w g 2 (l.map λx=>Value.int .i64 x).toArray
theorem RowI.made{w:World}{g n:Nat}(h:Blk w g 2 (madeCells #[.int .i64 0] n)):RowI w g n (Qj n 0):=by
 refine⟨by simp,?_⟩
 have e:madeCells #[.int .i64 0] n=((Qj n (0:Int)).map λx=>Value.int .i64 x).toArray:=by
  apply Array.toList_inj.1;apply Qh;intro i;unfold madeCells;by_cases hi:i<n;simp[hi,Nat.mod_one];simp[hi]
 rw[<- e];exact h
theorem RowI.at_{w:World}{g n:Nat}{l:List Int}(h:RowI w g n l){k:Nat}(hk:k<n):w.cell? ⟨g,k,none⟩=some (.int .i64 (l[k]?.getD 0))/\w.frozen? ⟨g,k,none⟩=false:=by
 refine⟨?_,h.2.frozen k⟩;rw[h.2.cell];simp[Ql (l:=l) (i:=k) (by rw[h.1];exact hk)]
theorem RowI.below{w w':World}{g n:Nat}{l:List Int}(h:RowI w g n l)(hb:Below w.heap.size w w'):RowI w' g n l:=⟨h.1,Zc hb h.2⟩
theorem RowI.lim{w:World}{g n:Nat}{l:List Int}(h:RowI w g n l)(hn:n<=maxLen)(hl:∀ x ∈ l,I64 x):LimI w (some ⟨g,0,none⟩) n n l:=
 ⟨h.1,Qc _,hn,hl,λ_=>⟨g,0,rfl,λk hk=>by rw[Nat.zero_add];exact(h.at_ hk).1⟩⟩
theorem RowI.set_{w:World}{g n:Nat}{l:List Int}(h:RowI w g n l)(k:Nat)(x:Int):RowI (w.setCell ⟨g,k,none⟩ (.int .i64 x)) g n (l.set k x):=by
 refine⟨by rw[Qx];exact h.1,?_⟩;have h1:=h.2.set_ k (.int .i64 x);rw[List.setIfInBounds_toArray,<- List.map_set]at h1;exact h1
theorem RowI.kept{w w':World}{g n:Nat}{l:List Int}{S:Nat->Prop}(h:RowI w g n l)(hk:Kept S w w')(hg:¬ S g):RowI w' g n l:=⟨h.1,hk.blk h.2 hg⟩
theorem RowI.noLimb{w:World}{g n:Nat}{l:List Int}(h:RowI w g n l):∃ t cs,Blk w g t cs/\NoLimb cs:=⟨_,_,h.2,λi x=>by
 rw[List.getElem?_toArray,Qe];cases l[i]? <;> simp[limb]⟩
theorem Z2z{n i:Nat}(hi:i<n):(Qj n (0:Int)).set i 1=Zd9 n i:=by
 apply Qh;intro k;unfold Zd9;rw[Qe];by_cases hk:k<n
 ·rw[Qf hk,Qk]
  by_cases e:k=i;subst e;rw[Qr (by simpa using hk),Gx rfl];rw[Qs (λe'=>e e'.symm),Qp,Gx hk,Gw e]
 rw[Qd Gg,Qd (by simpa using hk)];rfl
def Zl6(l:List Int)(n j:Nat):List Int:=(List.range n).map λk=>if k<j then gI (Zc8 l) k else 0
theorem Zoh{l:List Int}{n j:Nat}:(Zl6 l n j).length=n:=by simp[Zl6]
theorem Z0h{l:List Int}{n:Nat}:Zl6 l n 0=Qj n 0:=by
 apply Qh;intro k;unfold Zl6;rw[Qe,Qp];by_cases hk:k<n;rw[Qf hk,Gx hk];rfl;rw[Qd (by simpa using hk),Gw hk];rfl
theorem Z1m{l:List Int}{n j:Nat}(hj:j<n):(Zl6 l n j).set j (Qo (l[j]?.getD 0) 1048576)=Zl6 l n (j+1):=by
 apply Qh;intro k;by_cases hk:k<n
 ·unfold Zl6
  by_cases e:k=j
  ·subst e
   rw[Qr (by simpa using hk),Qe,Qf hk,Qk,Gx Gk];unfold gI;rw[Zuj]
  rw[Qs (λe'=>e e'.symm),Qe,Qe,Qf hk,Qk,Qk];by_cases h1:k<j;rw[Gx h1,Gx Gk];rw[Gw h1,Gw Gk]
 rw[Qd (by rw[Qx,Zoh];omega),Qd (by rw[Zoh];omega)]
theorem Z09{l:List Int}{n:Nat}(hl:l.length=n):Zl6 l n n=Zc8 l:=by
 apply Qh;intro k;by_cases hk:k<n
 ·unfold Zl6
  rw[Qe,Qf hk,Qk,Gx hk];have h1:k<(Zc8 l).length:=by unfold Zc8;rw[Qq];omega
  unfold gI;rw[Ql h1];rfl
 rw[Qd (by rw[Zoh];omega),Qd (by unfold Zc8;rw[Qq];omega)]
theorem Z0w(l:List Int):(Zc8 l).length=l.length:=by simp[Zc8]
theorem Z18(x:Int):I64 (Qo x 1048576):=by
 have:=Zvo x;unfold I64;omega
theorem MIL.one7{w:World}{g:Nat}{t:TypeId}{A:Option Addr}{n c:Nat}{l:List Int}(h:Blk w g t #[.slice A n c])(ha:LimI w A n c l):MIL w (some ⟨g,0,none⟩) 1 1 [⟨A,n,c,l⟩]:=by
 refine⟨rfl,Qc _,by unfold maxLen;omega,λr hr=>?_,λ_=>⟨g,0,rfl,λk r hk=>?_⟩⟩;rw[Qv]at hr;subst hr;exact ha;cases k with
 | zero=>cases hk;exact h.cell 0
 | succ k=>cases hk
theorem MFL.one7{w:World}{g:Nat}{t:TypeId}{A:Option Addr}{n c:Nat}{p:List Rat}(h:Blk w g t #[.slice A n c])(hp:FL w A n c p):MFL w (some ⟨g,0,none⟩) 1 1 [p]:=by
 refine⟨rfl,Qc _,by unfold maxLen;omega,λ_=>⟨g,0,rfl,λk r hr=>?_⟩⟩;cases k with
 | zero=>cases hr;exact⟨A,n,c,h.cell 0,hp⟩
 | succ k=>cases hr
theorem Ii{G:Prop}(h:G:=by
 go_wp2_with fail;go_ret;exact⟨rfl,aP.out⟩):G:=h
theorem Zro(A V:Option Addr)(n c nv cv:Nat)(rs:List RX)(l:List Int)(i:Int)(w:World)(h:MXL w A n c rs)(hi1:-9223372036854775808<=i)(hi2:i<=9223372036854775807)(hv:Lim32 w V nv cv l) :
    Calls Tryz.prog 7 #[.slice A n c,.int .i64 i,.slice V nv cv] w λe w'=>e=.returned (.bool true)/\Below w.heap.size w w':=by
 have hmx:=Gt;obtain⟨iF,hi,x8,y1,x4⟩:=info_parts Zd6;obtain⟨iI,ji,l2,l6,l8⟩:=info_parts Zqt;have v5:=h.2.2.1;have x5:=h.2.1;unfold maxLen at v5;have q5:=hv.2.2.1;have w2:=hv.2.1;unfold maxLen at q5;have e9:=Za h.1;have r1:=Za hv.1;obtain⟨E,hE⟩:=Gz (Zat rs);replace hE:=Za hE;have o6:Hid (Below w.heap.size w w):=Za (Qb _ _);replace h:=Za h;replace hv:=Za hv;go_in;go_wp2_with fail;refine(Zzq w).mono ?_;rintro e w1 ⟨rfl,o⟩;replace h:=Za (h.out.below o);replace hv:=Za (hv.out.below o);have e0:=Gn o6 o;clear o6 o;go_wp2_with fail;refine(Zqr A n c rs w1 h.out).mono ?_;rintro e w3 ⟨b,rfl,o,k7⟩;replace h:=Za (h.out.below o);replace hv:=Za (hv.out.below o);have m0:=Gn e0 o;clear e0 o;cases b with
 | true =>
  go_wp2_with fail;go_ret;exact⟨rfl,m0.out⟩
 | false =>
  have g2:=Za (k7 rfl);clear k7;have hf:Hid (Zlh 4 rs):=Za g2.out.2.2
  have m7:=Za (FacC.of h.out hf.out (λh6=>by
   have h9:=g2.out.1;have h7:=e9.out;rcases(show n=0 \/ n=1 \/ n=2 \/ n=3 \/ n=4 by omega)with rfl|rfl|rfl|rfl|rfl <;> omega))
  have p3:Hid (Zat rs=0->n<=4):=Za (λh0=>by
   have h9:=g2.out.1;have h8:=(Zew h0).1.facts.2.1;have h7:=e9.out;omega)
  clear g2;go_wp2_with fail;refine(Zrg A n c rs w3 h.out m7.out E hE.out).mono ?_;rintro e w5 ⟨rfl,o⟩;replace h:=Za (h.out.below o);replace hv:=Za (hv.out.below o);have aP:=Gn m0 o;clear m0 o;by_cases i5:E=0
  case neg =>
   have t1:(E != 0)=true:=by simpa using i5
   have w9:decide (E=0)=false:=Gu i5;replace i5:=Za i5;exact Ii
  subst i5;by_cases g5:i<0
  case pos =>
   have t2:decide (i<0)=true:=Gv g5;replace g5:=Za g5;exact Ii
  have t2:decide (i<0)=false:=Gu g5;obtain⟨I,rfl⟩:∃ I:Nat,i=(I:Int):=⟨i.toNat,by omega⟩;replace g5:=Za g5;by_cases e8:n<=I
  case pos =>
   have t3:decide ((n:Int)<=(I:Int))=true:=Gv Gk;have υ8:decide (n<=I)=true:=Gv e8;replace e8:=Za e8;exact Ii
  have t3:decide ((n:Int)<=(I:Int))=false:=Gu Gk;have υ8:decide (n<=I)=false:=Gu e8;have o4:I<n:=Nat.lt_of_not_le e8;replace e8:=Za e8;by_cases b3:nv=n
  case neg =>
   have t4:((nv:Int) != (n:Int))=true:=by simp;omega
   have x6:decide ((nv:Int)=(n:Int))=false:=Gu Gk;have w4:decide (nv=n)=false:=Gu b3;replace b3:=Za b3;exact Ii
  subst b3;have n6:=p3.out hE.out
  go_upto_region 4 with fail
  go_cut [8,9] from 50 to 55 (λuv ov wx=>∃ gu go:Nat,uv=.slice (some ⟨gu,0,none⟩) nv nv/\ov=.slice (some ⟨go,0,none⟩) nv nv/\Below w5.heap.size w5 wx/\w5.heap.size<=gu/\w5.heap.size<=go/\gu≠go/\RowI wx gu nv (Qj nv 0)/\RowI wx go nv (Qj nv 0))
  case first =>
   have k9:Below w5.heap.size w5 w5.drew:=Zf (Qb _ _) 1;refine Zz [] (λwx=>True) hmx trivial (λ_=>?_);refine Zke 4 [0,1,3,4] rfl Gi trivial ?_
   iterate 4 (refine tkA ?_;try simp only[Qa,Zhf,Zgs,Zg9,Gr,Gq,Gp])
   refine tk0 ?_;refine Zee (i:=2) (j:=5) rfl rfl Gi (λK hK=>?_) (λK hK=>?_)
   ·skip
    go_simp;rw[Zik 23 2 Tryz.underlying23 ji l2 l6 l8 nv nv rfl Gk];obtain⟨Y1,b4⟩:=Gz (w5.drew.alloc (.cells (madeCells #[.int .i64 0] nv) 2));obtain⟨gu,e2⟩:=Gz w5.drew.heap.size;have e7:Below w5.drew.heap.size w5.drew Y1:=by rw[<- b4];exact(Qb _ _).alloc (Qc _) _
    have qgu:Blk Y1 gu 2 (madeCells #[.int .i64 0] nv):=by rw[<- b4,<- e2];exact Qm _ _ _
    have sgu:gu<Y1.heap.size:=qgu.lt;rw[b4,e2];refine hK.out _ _ (λ_=>trivial) ?_;clear hK K b4
    try simp only[Qa,Zhf,Zgs,Zg9,Gr,Gq,Gp]
    refine Zgt 1 [6] rfl Gi trivial ?_
    (refine tkA ?_;try simp only[Qa,Zhf,Zgs,Zg9,Gr,Gq,Gp])
    refine tk0 ?_;refine wpAnyL_o 5 λK hK=>?_;go_simp;rw[Zik 23 2 Tryz.underlying23 ji l2 l6 l8 nv nv rfl Gk];obtain⟨Y2,c5⟩:=Gz (Y1.alloc (.cells (madeCells #[.int .i64 0] nv) 2));obtain⟨go,f6⟩:=Gz Y1.heap.size;have j7:Below Y1.heap.size Y1 Y2:=by rw[<- c5];exact(Qb _ _).alloc (Qc _) _
    have qgo:Blk Y2 go 2 (madeCells #[.int .i64 0] nv):=by rw[<- c5,<- f6];exact Qm _ _ _
    have sgo:go<Y2.heap.size:=qgo.lt;rw[c5,f6];refine hK.out _ _ (λ_=>trivial) ?_;clear hK K c5
    try simp only[Qa,Zhf,Zgs,Zg9,Gr,Gq,Gp]
    refine Zgt 1 [7] rfl Gi trivial ?_
    (refine tkA ?_;try simp only[Qa,Zhf,Zgs,Zg9,Gr,Gq,Gp])
    refine tk0 ?_;refine wpAnyL_fin ?_
    try simp only[Qa,Zhf,Zgs,Zg9,Gr,Gq,Gp]
    go_simp;go_wp2_with fail
    go_meet
    have h1:=k9.trans ((Gs e7 j7).mono k9.size);exact⟨_,_,rfl,rfl,h1,by rw[<- e2];exact Qc _,by rw[<- f6];exact e7.size,by omega,RowI.made (Zc j7 qgu),RowI.made (qgo)⟩
   skip
   go_simp;rw[Zik 23 2 Tryz.underlying23 ji l2 l6 l8 nv nv rfl Gk];obtain⟨Y1,b4⟩:=Gz (w5.drew.alloc (.cells (madeCells #[.int .i64 0] nv) 2));obtain⟨go,f6⟩:=Gz w5.drew.heap.size;have e7:Below w5.drew.heap.size w5.drew Y1:=by rw[<- b4];exact(Qb _ _).alloc (Qc _) _
   have qgo:Blk Y1 go 2 (madeCells #[.int .i64 0] nv):=by rw[<- b4,<- f6];exact Qm _ _ _
   have sgo:go<Y1.heap.size:=qgo.lt;rw[b4,f6];refine hK.out _ _ (λ_=>trivial) ?_;clear hK K b4
   try simp only[Qa,Zhf,Zgs,Zg9,Gr,Gq,Gp]
   refine wpAnyL_o 2 λK hK=>?_;go_simp;rw[Zik 23 2 Tryz.underlying23 ji l2 l6 l8 nv nv rfl Gk];obtain⟨Y2,c5⟩:=Gz (Y1.alloc (.cells (madeCells #[.int .i64 0] nv) 2));obtain⟨gu,e2⟩:=Gz Y1.heap.size;have j7:Below Y1.heap.size Y1 Y2:=by rw[<- c5];exact(Qb _ _).alloc (Qc _) _
   have qgu:Blk Y2 gu 2 (madeCells #[.int .i64 0] nv):=by rw[<- c5,<- e2];exact Qm _ _ _
   have sgu:gu<Y2.heap.size:=qgu.lt;rw[c5,e2];refine hK.out _ _ (λ_=>trivial) ?_;clear hK K c5
   try simp only[Qa,Zhf,Zgs,Zg9,Gr,Gq,Gp]
   refine Zgt 2 [6,7] rfl Gi trivial ?_
   iterate 2 (refine tkA ?_;try simp only[Qa,Zhf,Zgs,Zg9,Gr,Gq,Gp])
   refine tk0 ?_;refine wpAnyL_fin ?_
   try simp only[Qa,Zhf,Zgs,Zg9,Gr,Gq,Gp]
   go_simp;go_wp2_with fail
   go_meet
   have h1:=k9.trans ((Gs e7 j7).mono k9.size);exact⟨_,_,rfl,rfl,h1,by rw[<- e2];exact e7.size,by rw[<- f6];exact Qc _,by omega,RowI.made (qgu),RowI.made (Zc j7 qgo)⟩
  case rest =>
   obtain⟨gu,go,rfl,rfl,i8,k8,l0,g9,c7,c9⟩:=hcut;obtain⟨wx,rfl⟩:=Gy wc;replace i8:=Za i8;obtain⟨xu,zu⟩:=c7.at_ o4;obtain⟨W1,m4⟩:∃ W,wx.setCell ⟨gu,I,none⟩ (.int .i64 1)=W:=⟨_,rfl⟩;have f8:RowI W1 gu nv (Zd9 nv I):=by rw[<- m4,<- Z2z o4];exact c7.set_ I 1
   have p1:Kept (λk=>k=gu) wx W1:=by rw[<- m4];exact(Qy (λk=>k=gu) wx).set_ (p:=⟨gu,I,none⟩) (.inl rfl) _
   have b0:RowI W1 go nv (Zl6 l nv 0):=by rw[Z0h];exact c9.kept p1 (λe=>g9 e.symm)
   replace f8:=Za f8;replace b0:=Za b0;have l7:=Za (i8.out.trans (p1.to_below (λk e=>by rw[e];exact k8) i8.out.size));have n1:Hid (gu<W1.heap.size):=Za f8.out.2.lt;have n3:Hid (go<W1.heap.size):=Za b0.out.2.lt;clear c7 c9 p1 i8;replace k8:=Za k8;replace l0:=Za l0;replace g9:=Za g9;go_wp2_with fail;(try rw[m4]);clear m4 xu zu;refine(Zj5 0 1 W1 Gj Gj Gj Gj).mono ?_;rintro e v1 ⟨l9,pn,pA,pk,pc,pm,pB,pj,pd,rfl,p6⟩;rw[Zk8]at p6;obtain⟨gs,m1⟩:=Gz v1.heap.size;obtain⟨V1,q9,bkd,i9⟩:=Zan (w:=v1) 41 #[.bool pn,.slice pA pk pc,.bool pm,.slice pB pj pd];rw[m1]at bkd;have m6:VarF V1 gs (imT (Zh (qM rs)) nv (Zc8 l) (Zc8 l) 0 0):=⟨_,_,_,_,_,_,_,_,bkd,by rw[Zps];exact p6.below i9⟩;have g1:=Gs l9 i9;have e0:=Gn l7 g1;have n5:W1.heap.size<=gs:=by rw[<- m1];exact l9.size
   have b1:Hid (gs≠go/\gs≠gu/\w5.heap.size<=gs):=Za ⟨by have:=n3.out;omega,by have:=n1.out;omega,Qu l7.out.size n5⟩;replace f8:=Za (f8.out.below g1);replace b0:=Za (b0.out.below g1);replace m6:=Za m6;clear p6 bkd l9 i9 l7 g1 n5 n1 n3;go_wp2_with fail;(try rw[m1]);(try rw[q9]);clear q9 m1
   go_loopg [11] nv (λf jv wr=>∃ j:Nat,j+f=nv/\jv=.int .i64 j/\Hid (RowI wr go nv (Zl6 l nv j))/\Hid (Kept (λk=>k=go) V1 wr))
   case atStart=>exact⟨0,by omega,rfl,b0,Za (Qy _ _)⟩
   case round =>
    obtain⟨wl,rfl⟩:=Gy wr;obtain⟨j,x9,rfl,j8,g8⟩:=hrel;have d9:Hid (Below w5.heap.size w5 wl):=Za (e0.out.trans (g8.out.to_below (λk e=>by rw[e];exact l0.out) e0.out.size));cases gk with
    | succ f' =>
     obtain rfl:f'=nv-(j+1):=Gk;have o9:j<nv:=Gk;have t5:decide ((j:Int)<(nv:Int))=true:=Gv Gk;have bj:(j:Int)<(nv:Int):=Gk;obtain⟨gv,ov,rfl,s4⟩:=(hv.out.below d9.out).2.2.2.2 Gk;have xv:=s4 j o9;have w0:=hv.out.get j;obtain⟨yo,zo⟩:=j8.out.at_ o9;obtain⟨x,hx⟩:=Gz (l[j]?.getD 0);rw[hx]at xv w0;have hT:=Za (Z1m (l:=l) (n:=nv) (j:=j) o9);rw[hx]at hT;replace hx:=Za hx;clear s4;obtain⟨W4,l1⟩:∃ W,wl.setCell ⟨go,j,none⟩ (.int .i64 (Qo x 1048576))=W:=⟨_,rfl⟩;have o5:RowI W4 go nv (Zl6 l nv (j+1)):=by rw[<- l1,<- hT.out];exact j8.out.set_ j _
     have n8:Kept (λk=>k=go) V1 W4:=by rw[<- l1];exact g8.out.set_ (p:=⟨go,j,none⟩) (.inl rfl) _
     replace o5:=Za o5;replace n8:=Za n8;clear j8 g8 d9;go_wp2_with fail;(try rw[l1]);clear l1
     go_roundg (nv-(j+1))
     case measure=>omega
     case rel=>exact⟨j+1,by omega,by go_num,o5,n8⟩
    | zero =>
     obtain rfl:j=nv:=Gk;have t5:decide ((j:Int)<(j:Int))=false:=Gh;have c9:RowI wl go j (Zc8 l):=by rw[<- Z09 r1.out];exact j8.out
     have n4:=g9.out;have h4:=b1.out;have c7:=f8.out.kept g8.out n4;have l3:=m6.out.kept g8.out h4.1 (λk e=>by rw[e];exact b0.out.noLimb);replace c9:=Za c9;replace c7:=Za c7;replace l3:=Za l3;clear j8 g8 f8 m6 e0 g9 hv n4 h4 b0;have l5:=Za ((Zew hE.out).1.small h.out hf.out);have p0:=Za (Z3g h.out hf.out hE.out);have k5:=Za (λi hi=>cov_row h.out hE.out i hi);have q8:=Za (Zn8 h.out);have r9:=Za (Z07 h.out hE.out);have b7:=Za (Zuf (Zpz l)).1;have s8:0<j:=Gk;obtain⟨gc,oc,r0,v4,-,-,-⟩:=h.out.at_ s8;subst v4;go_wp2_with fail
     go_loopg [12] j (λf iv wr=>∃ r:Nat,r+f=j/\iv=.int .i64 r/\Hid (VarF wr gs (imT (Zh (qM rs)) j (Zc8 l) (Zc8 l) r 0))/\Hid (Kept (λk=>k=gs) wl wr))
     case atStart=>exact⟨0,by omega,rfl,l3,Za (Qy _ _)⟩
     case round =>
      obtain⟨wi,rfl⟩:=Gy wr;obtain⟨r,y0,rfl,h5,g4⟩:=hrel;clear l3;cases gk with
      | succ f' =>
       obtain rfl:f'=j-(r+1):=Gk;have p7:r<j:=Gk;have t6:decide ((r:Int)<(j:Int))=true:=Gv Gk;have br:(r:Int)<(j:Int):=Gk;go_wp2_with fail
       go_loopg [13] j (λf kv wr=>∃ t:Nat,t+f=j/\kv=.int .i64 t/\Hid (VarF wr gs (imT (Zh (qM rs)) j (Zc8 l) (Zc8 l) r t))/\Hid (Kept (λk=>k=gs) wl wr))
       case atStart=>exact⟨0,by omega,rfl,h5,g4⟩
       case round =>
        obtain⟨wk,rfl⟩:=Gy wr;obtain⟨t,x7,rfl,o2,k6⟩:=hrel;clear h5 g4;cases gk with
        | zero =>
         obtain rfl:t=j:=Gk;have t7:decide ((t:Int)<(t:Int))=false:=Gh;go_wp2_with fail
         go_roundg (t-(r+1))
         case measure=>omega
         case rel=>exact⟨r+1,by omega,by go_num,by rw[Zmi];exact o2,k6⟩
        | succ f2 =>
         obtain rfl:f2=j-(t+1):=Gk;have p9:t<j:=Gk;have t7:decide ((t:Int)<(j:Int))=true:=Gv Gk;have bt:(t:Int)<(j:Int):=Gk;have v7:=d9.out.trans (k6.out.to_below (λk e=>by rw[e];exact b1.out.2.2) d9.out.size);have s7:=r9.out.below v7;have k4:=c9.out.kept k6.out (λe=>b1.out.1 e.symm);obtain⟨gr,or_,cr,kr,w8,q6,q7⟩:=s7.ents (λi hi=>k5.out i hi) p7;obtain⟨xn,xA,xk,xc,xm,xB,xj,xd,υ9,a8⟩:=q7 t p9;obtain⟨x0,x1,x2,x3⟩:=υ9;unfold maxLen at q6;have ka:=(k4.at_ p7).1;have kb:=(k4.at_ p9).1;have ha:=Z1u l r;have hb:=Z1u l t;have j4:=Za (Z20 (n:=j) (a:=Zc8 l) (Q:=Zh (qM rs)) (i:=r) (k:=t));have a1:wk.cell? ⟨go,r,none⟩=some (.int .i64 (gI (Zc8 l) r)):=ka;have a2:wk.cell? ⟨go,t,none⟩=some (.int .i64 (gI (Zc8 l) t)):=kb;obtain⟨za,t0⟩:=Gz (gI (Zc8 l) r);obtain⟨zb,q1⟩:=Gz (gI (Zc8 l) t);rw[t0]at a1 ha j4;rw[q1]at a2 hb j4;have v9:(za*zb).natAbs<=1048576*1048576:=by rw[Int.natAbs_mul];exact Nat.mul_le_mul ha hb
         have q4:IntKind.i64.wrap (za*zb)=za*zb:=by rw[IntKind.wrap_i64];omega
         have sp:Hid (Sm ((za*zb:Int):Rat)):=Za ((SmN.intC (za*zb) 2 (by
          have h3:1099511627776<=pw 2:=GY;omega)).sm Gj Gj)
         have sq:=Za ((p0.out r t).sm Gj Gj)
         have p5:Hid (Sm (Zh (qM rs) r t*((za*zb:Int):Rat))):=Za (((p0.out r t).mulN (SmN.intC (za*zb) 2 (by
          have h3:1099511627776<=pw 2:=GY;omega))).sm Gj Gj)
         have ss:=Za (Z1v l5.out n6 q8.out k5.out b7.out b7.out s8 (i:=r) (k:=t) Gk Gk (λe=>by omega));have d3:-9223372036854775808<=za*zb/\za*zb<=9223372036854775807:=Gk;replace d3:=Za d3;obtain⟨qrt,m9⟩:=Gz (Zh (qM rs) r t);rw[m9]at a8 sq p5 j4;obtain⟨sn,sA,sk,sc,sm,sB,sj,sd,qs,C⟩:=o2.out;obtain⟨i0,i1,i2,i3,j0,j1,j2,j3⟩:=qs.four;replace a8:=Za a8;replace C:=Za C;replace qs:=Za qs;clear s7 k4 ka kb ha hb t0 q1 m9 q7 v9 o2;have o0:Hid (Below wk.heap.size wk wk):=Za (Qb _ _);go_wp2_with fail;clear j0 j1 j2 j3;have J:Below wk.heap.size wk wk.drew:=Zf (Qb _ _) 1;replace a8:=Za (a8.out.below J);replace C:=Za (C.out.below J);replace qs:=Gm J qs;have f0:=Gn o0 J;clear o0;replace kr:=Zb J kr;replace x0:=Zb J x0;replace x1:=Zb J x1;replace x2:=Zb J x2;replace x3:=Zb J x3;replace a1:=Zb J a1;replace a2:=Zb J a2;replace i0:=Zb J i0;replace i1:=Zb J i1;replace i2:=Zb J i2;replace i3:=Zb J i3;clear J
         refine Zz [20] (λwx=>(wx.cell? ⟨gc,oc+r,none⟩=some (.slice (some ⟨gr,or_,none⟩) j cr))/\(wx.cell? ⟨gr,or_+t*4,none⟩=some (.bool xn))/\(wx.cell? ⟨gr,or_+t*4+1,none⟩=some (.slice xA xk xc))/\(wx.cell? ⟨gr,or_+t*4+2,none⟩=some (.bool xm))/\(wx.cell? ⟨gr,or_+t*4+3,none⟩=some (.slice xB xj xd))/\(wx.cell? ⟨go,r,none⟩=some (.int .i64 za))/\(wx.cell? ⟨go,t,none⟩=some (.int .i64 zb))/\(wx.cell? ⟨gs,0,none⟩=some (.bool sn))/\(wx.cell? ⟨gs,1,none⟩=some (.slice sA sk sc))/\(wx.cell? ⟨gs,2,none⟩=some (.bool sm))/\(wx.cell? ⟨gs,3,none⟩=some (.slice sB sj sd))) hmx ⟨kr,x0,x1,x2,x3,a1,a2,i0,i1,i2,i3⟩ (λ_=>?_);refine Zke 16 [0,1,2,3,4,5,6,7,8,9,10,11,12,13,14,15] rfl Gi ⟨kr,x0,x1,x2,x3,a1,a2,i0,i1,i2,i3⟩ ?_
         iterate 16 (refine tkA ?_;try simp only[Qa,Zhf,Zgs,Zg9,Gr,Gq,Gp])
         refine tk0 ?_;refine Zd (i:=16) (v:=.int .i64 (za*zb)) rfl Gi Gi Gi Gi Gi (Or.inl ⟨by kernel_rfl,?hyt17⟩) ⟨kr,x0,x1,x2,x3,a1,a2,i0,i1,i2,i3⟩ ?rt17
         case hyt17=>(intro W2 hSw;(try dsimp only at hSw);go_simp;(try rw[q4]))
         try simp only[Qa,Zhf,Zgs,Zg9,Gr,Gq,Gp]
         refine wpAnyL_o 17 λK hK=>?_
         (try rw[Gx Gi]);go_simp;refine(Zj5 (za*zb) 1 wk.drew d3.out.1 d3.out.2 Gj Gj).mono ?_;rintro e p8 ⟨u,fn,fA,fk,fc,fm,fB,fj,fd,rfl,b9⟩;replace a8:=Za (a8.out.below u);replace C:=Za (C.out.below u);replace qs:=Gm u qs;have e6:=Gn f0 u;clear f0;replace kr:=Zb u kr;replace x0:=Zb u x0;replace x1:=Zb u x1;replace x2:=Zb u x2;replace x3:=Zb u x3;replace a1:=Zb u a1;replace a2:=Zb u a2;replace i0:=Zb u i0;replace i1:=Zb u i1;replace i2:=Zb u i2;replace i3:=Zb u i3;clear u;rw[Zk8]at b9;replace b9:=Za b9;refine hK.out _ _ (λ_=>⟨kr,x0,x1,x2,x3,a1,a2,i0,i1,i2,i3⟩) ?_;clear hK K
         try simp only[Qa,Zhf,Zgs,Zg9,Gr,Gq,Gp]
         refine wpAnyL_o 18 λK hK=>?_
         (try rw[Gx Gi]);go_simp;refine(Zt8 xn xA xk xc xm xB xj xd fn fA fk fc fm fB fj fd qrt ((za*zb:Int):Rat) p8 a8.out b9.out sq.out sp.out).mono ?_;rintro e q3 ⟨u,un,uA,uk,uc,um,uB,uj,ud,rfl,g6⟩;replace a8:=Za (a8.out.below u);replace C:=Za (C.out.below u);replace qs:=Gm u qs;replace b9:=Za (b9.out.below u);have e4:=Gn e6 u;clear e6;replace kr:=Zb u kr;replace x0:=Zb u x0;replace x1:=Zb u x1;replace x2:=Zb u x2;replace x3:=Zb u x3;replace a1:=Zb u a1;replace a2:=Zb u a2;replace i0:=Zb u i0;replace i1:=Zb u i1;replace i2:=Zb u i2;replace i3:=Zb u i3;clear u;replace g6:=Za g6;refine hK.out _ _ (λ_=>⟨kr,x0,x1,x2,x3,a1,a2,i0,i1,i2,i3⟩) ?_;clear hK K
         try simp only[Qa,Zhf,Zgs,Zg9,Gr,Gq,Gp]
         refine wpAnyL_o 19 λK hK=>?_
         (try rw[Gx Gi]);go_simp;refine(Zwt sn sA sk sc sm sB sj sd un uA uk uc um uB uj ud _ _ q3 C.out g6.out ss.out p5.out).mono ?_;rintro e g0 ⟨u,pn,pA,pk,pc,pm,pB,pj,pd,rfl,i6⟩;replace a8:=Za (a8.out.below u);replace C:=Za (C.out.below u);replace qs:=Gm u qs;replace b9:=Za (b9.out.below u);replace g6:=Za (g6.out.below u);have p4:=Gn e4 u;clear e4;replace kr:=Zb u kr;replace x0:=Zb u x0;replace x1:=Zb u x1;replace x2:=Zb u x2;replace x3:=Zb u x3;replace a1:=Zb u a1;replace a2:=Zb u a2;replace i0:=Zb u i0;replace i1:=Zb u i1;replace i2:=Zb u i2;replace i3:=Zb u i3;clear u;rw[j4.out]at i6;replace i6:=Za i6;refine hK.out _ _ (λ_=>⟨kr,x0,x1,x2,x3,a1,a2,i0,i1,i2,i3⟩) ?_;clear hK K
         try simp only[Qa,Zhf,Zgs,Zg9,Gr,Gq,Gp]
         obtain⟨z0,z1,z2,z3⟩:g0.frozen? ⟨gs,0,none⟩=false/\g0.frozen? ⟨gs,1,none⟩=false/\g0.frozen? ⟨gs,2,none⟩=false/\g0.frozen? ⟨gs,3,none⟩=false:=⟨qs.out.frozen 0,qs.out.frozen 1,qs.out.frozen 2,qs.out.frozen 3⟩;refine(Zsp pn pA pk pc pm pB pj pd qs.out).elim (λW5 hq=>?_);have hZ:=hq.1;refine Zu (i:=20) rfl Gi Gi (λK hK=>?_);go_simp;(try rw[hZ]);refine hK.out _ _ ?_;clear hK K
         try simp only[Qa,Zhf,Zgs,Zg9,Gr,Gq,Gp]
         refine wpAnyL_fin ?_;have v0:Hid (VarF W5 gs (imT (Zh (qM rs)) j (Zc8 l) (Zc8 l) r (t+1))):=Za ⟨_,_,_,_,_,_,_,_,hq.2.1,i6.out.keptV hq.2.2.1 qs.out (Zeu _ _ _ _ _ _ _ _)⟩;have v8:Hid (Kept (λk=>k=gs) wl W5):=Za ((k6.out.below p4.out).trans hq.2.2.1);clear hq hZ z0 z1 z2 z3 k6 qs C i6 g6 b9 a8 kr x0 x1 x2 x3 a1 a2 i0 i1 i2 i3 j4 sp sq p5 ss d3 q4;go_wp2_with fail
         go_roundg (j-(t+1))
         case measure=>omega
         case rel=>exact⟨t+1,by omega,by go_num,v0,v8⟩
      | zero =>
       obtain rfl:r=j:=Gk;have t6:decide ((r:Int)<(r:Int))=false:=Gh;have o1:=d9.out.trans (g4.out.to_below (λk e=>by rw[e];exact b1.out.2.2) d9.out.size);have υ7:=c7.out.kept g4.out (λe=>b1.out.2.1 e.symm);have t8:=c9.out.kept g4.out (λe=>b1.out.1 e.symm)
       have c8:=υ7.lim (by unfold maxLen;omega) (λx hx=>by
        unfold Zd9 at hx;obtain⟨y,-,rfl⟩:=List.mem_map.1 hx;unfold I64;split <;> omega)
       have a3:=t8.lim (by unfold maxLen;omega) (λx hx=>by
        obtain⟨y,-,rfl⟩:=List.mem_map.1 hx;exact Z18 y)
       have k1:=e9.out
       have gU:=Za (Zqf hE.out (l:=Zd9 r I) (by unfold Zd9;simp[k1]) (λx hx=>by
        unfold Zd9 at hx;obtain⟨y,-,rfl⟩:=List.mem_map.1 hx
        split <;> omega))
       have gO:=Za (Zqf hE.out (l:=Zc8 l) (by rw[Z0w,r1.out,k1]) (Zpz l));have p2:=Za (Z22 (Q:=Zh (qM rs)) (n:=r) o4);have d5:=(cov_tri h.out hf.out hE.out);have n7:=Za (imT_tri l5.out n6 (λi k hi hk=>d5.1 i k hi hk) b7.out)
       have b3:0<=imT (Zh (qM rs)) r (Zc8 l) (Zc8 l) r 0:=by
        rw[Zmr];exact Zt1 d5.1 d5.2.1 d5.2.2 _
       have v6:=Za (Znh hE.out (k:=I) Gk);have q2:Hid (Zla (Zh (qM rs) I I)<=64):=Za (Nat.max_le.2 ⟨(Zq _ _).2 (Qw (l5.out I I).1 (Zci Gj)),(Zq _ _).2 (Qw (l5.out I I).2 (Zci Gj))⟩)
       have υ4:Hid (Zhi rs [(I:Int)]=0):=Za (Zul hE.out (Zr8 Gh Gg (λk hk=>by
        obtain rfl:k=0:=by simp at hk;omega
        exact⟨⟨by simp,by simp;omega⟩,λj hj=>by omega⟩)))
       obtain⟨S,hS⟩:=Gz (imT (Zh (qM rs)) r (Zc8 l) (Zc8 l) r 0);rw[hS]at h5 b3 n7;have r2:=Za hS;have o3:=Gn aP o1;replace h:=Za (h.out.below o1);replace b3:=Za b3;replace c8:=Za c8;replace a3:=Za a3;obtain⟨sn,sA,sk,sc,sm,sB,sj,sd,qs,C⟩:=h5.out;replace C:=Za C;replace qs:=Za qs;clear h5 g4 c7 c9 υ7 t8 d9 o1 hS d5 k5 q8 r9 b7 p0 b1 k1 k8 l0;obtain⟨t9,c4⟩:=Gz wi.heap.size;obtain⟨r5,j5,d7,a4⟩:=Zan (w:=wi) 23 #[.slice (some ⟨gu,0,none⟩) r r];rw[c4]at d7;replace h:=Za (h.out.below a4);replace c8:=Za (c8.out.below a4);replace a3:=Za (a3.out.below a4);replace C:=Za (C.out.below a4);replace qs:=Gm a4 qs;have e3:=Gn o3 a4;clear o3 a4;replace d7:=Za d7;have m8:=Za (MIL.one7 d7.out c8.out);clear d7;go_wp2_with fail;(try rw[c4]);(try rw[j5]);clear j5;replace c4:=Za c4;refine(Zn5 (some ⟨gc,oc,none⟩) r c rs (some ⟨t9,0,none⟩) 1 1 [⟨some ⟨gu,0,none⟩,r,r,(Zd9 r I)⟩] r5 h.out m8.out m7.out hf.out p3.out (.inl Gj) Gj).mono ?_;rintro e k0 ⟨o,hP⟩;replace h:=Za (h.out.below o);replace c8:=Za (c8.out.below o);replace a3:=Za (a3.out.below o);replace C:=Za (C.out.below o);replace qs:=Gm o qs;replace m8:=Za (m8.out.below o);have f5:=Gn e3 o;clear e3 o m8;rcases hP with ⟨-,rt,g7,hP⟩|⟨h9,-⟩
       case inr=>exact absurd gU.out h9
       have T:Zfl rt=Zfy [[imT (Zh (qM rs)) rs.length (Zd9 r I) (Zd9 r I) rs.length 0]]:=g7;rw[e9.out]at T;clear c8;rw[p2.out]at T;have j6:=Ztv T v6.out q2.out;rcases hP with ⟨-,v1,L1,rfl,s6⟩|⟨h9,-⟩
       case inr=>exact absurd j6 h9
       obtain⟨A1,c1,rfl,O⟩:=s6.mflA;replace O:MFL k0 A1 1 c1 [[imT (Zh (qM rs)) rs.length (Zd9 r I) (Zd9 r I) rs.length 0]]:=O;rw[e9.out,p2.out]at O;(try rw[show (Zhp (Zh (qM rs)) rs.length (List.map RI.l [⟨some ⟨gu,0,none⟩,r,r,Zd9 r I⟩])).length=1 from rfl]);clear g7 T j6 s6 gU p2 q2;replace O:=Za O;go_wp2_with fail;obtain⟨υ0,b6⟩:=Gz k0.heap.size;obtain⟨s5,i4,c6,a5⟩:=Zan (w:=k0) 3 #[.int .i64 (I:Int)];rw[b6]at c6;replace h:=Za (h.out.below a5);replace a3:=Za (a3.out.below a5);replace C:=Za (C.out.below a5);replace qs:=Gm a5 qs;replace O:=Za (O.out.below a5);have e1:=Gn f5 a5;clear f5 a5;replace c6:=Za c6;have l4:=Za (LimI.lit7 (l:=[(I:Int)]) c6.out rfl (λx hx=>by rw[Qv]at hx;subst hx;unfold I64;omega) Gh);clear c6;go_wp2_with fail;(try rw[b6]);(try rw[i4]);clear i4;replace b6:=Za b6;refine(Zy8 (some ⟨gc,oc,none⟩) r c rs (some ⟨υ0,0,none⟩) 1 1 [(I:Int)] s5 h.out l4.out m7.out Gj).mono ?_;rintro e i7 ⟨o,hP⟩;replace h:=Za (h.out.below o);replace a3:=Za (a3.out.below o);replace C:=Za (C.out.below o);replace qs:=Gm o qs;replace O:=Za (O.out.below o);replace l4:=Za (l4.out.below o);have f4:=Gn e1 o;clear e1 o l4;rcases hP with ⟨-,v2,L2,rfl,q0⟩|⟨h9,-⟩
       case inr=>exact absurd υ4.out h9
       obtain⟨A2,c2,rfl,a0⟩:=q0.mflA;replace a0:MFL i7 A2 1 c2 [[Zh (qM rs) I I]]:=a0;(try rw[show (Zlv (qM rs) [(I:Int)]).length=1 from rfl]);clear q0 υ4;replace a0:=Za a0;go_wp2_with fail;obtain⟨r8,b8⟩:=Gz i7.heap.size;obtain⟨r6,k3,d4,U⟩:=Zan (w:=i7) 23 #[.slice (some ⟨go,0,none⟩) r r];rw[b8]at d4;replace h:=Za (h.out.below U);replace a3:=Za (a3.out.below U);replace C:=Za (C.out.below U);replace qs:=Gm U qs;replace O:=Za (O.out.below U);replace a0:=Za (a0.out.below U);have f3:=Gn f4 U;clear f4 U;replace d4:=Za d4;have m2:=Za (MIL.one7 d4.out a3.out);clear d4;go_wp2_with fail;(try rw[b8]);(try rw[k3]);clear k3;replace b8:=Za b8;refine(Zn5 (some ⟨gc,oc,none⟩) r c rs (some ⟨r8,0,none⟩) 1 1 [⟨some ⟨go,0,none⟩,r,r,(Zc8 l)⟩] r6 h.out m2.out m7.out hf.out p3.out (.inl Gj) Gj).mono ?_;rintro e j9 ⟨o,hP⟩;replace h:=Za (h.out.below o);replace a3:=Za (a3.out.below o);replace C:=Za (C.out.below o);replace qs:=Gm o qs;replace O:=Za (O.out.below o);replace a0:=Za (a0.out.below o);replace m2:=Za (m2.out.below o);have a9:=Gn f3 o;clear f3 o m2;rcases hP with ⟨-,rt,g7,hP⟩|⟨h9,-⟩
       case inr=>exact absurd gO.out h9
       have T:Zfl rt=Zfy [[imT (Zh (qM rs)) rs.length (Zc8 l) (Zc8 l) rs.length 0]]:=g7;rw[e9.out]at T;clear a3 h;rw[r2.out]at T;have m3:=fr_zero C.out;by_cases hS0:S=0
       case pos =>
        have r7:Zat rt≠0:=λh9=>by
         have h8:=Zyt T h9;rw[hS0]at h8;exact absurd h8 Gj
        obtain rfl:e=_:=(hP.resolve_left (λh9=>r7 h9.1)).2;obtain rfl:sk=0:=m3.2 hS0;clear hP m3 g7 T gO;go_wp2_with fail;refine(Zig A1 A2 1 c1 c2 _ j9 O.out.xm a0.out.xm).mono ?_;rintro e w7 ⟨rfl,o⟩;replace C:=Za (C.out.below o);replace qs:=Gm o qs;replace O:=Za (O.out.below o);replace a0:=Za (a0.out.below o);have n9:=Gn a9 o;clear a9 o O a0;obtain⟨s0,s1,s2,s3,-⟩:=qs.out.four;go_wp2_with fail;go_ret;exact⟨rfl,n9.out⟩
       have υ5:0<S:=by
        rcases Rat.le_iff_lt_or_eq.1 b3.out with h9|h9;exact h9;exact absurd h9.symm hS0
       have j6:=Ztv T υ5 n7.out;rcases hP with ⟨-,v3,L3,rfl,s9⟩|⟨h9,-⟩
       case inr=>exact absurd j6 h9
       obtain⟨A3,c3,rfl,a6⟩:=s9.mflA;replace a6:MFL j9 A3 1 c3 [[imT (Zh (qM rs)) rs.length (Zc8 l) (Zc8 l) rs.length 0]]:=a6;rw[e9.out,r2.out]at a6;(try rw[show (Zhp (Zh (qM rs)) rs.length (List.map RI.l [⟨some ⟨go,0,none⟩,r,r,Zc8 l⟩])).length=1 from rfl]);have f9:sk≠0:=λh9=>hS0 (m3.1 h9);have υ1:decide ((sk:Int)=0)=false:=Gu Gk;have υ2:decide (sk=0)=false:=Gu f9;have υ3:((sk:Int) == 0)=false:=by simpa using f9
       obtain rfl:sn=false:=by rw[C.out.1.1];exact Gu (by have:=Rat.num_nonneg.2 b3.out;omega)
       replace f9:=Za f9;clear s9 g7 T j6 m3 hS0 υ5 gO;replace a6:=Za a6;go_wp2_with fail;refine(Zig A1 A2 1 c1 c2 _ j9 O.out.xm a0.out.xm).mono ?_;rintro e n2 ⟨rfl,o⟩;replace C:=Za (C.out.below o);replace qs:=Gm o qs;replace O:=Za (O.out.below o);replace a0:=Za (a0.out.below o);replace a6:=Za (a6.out.below o);have f7:=Gn a9 o;clear a9 o O a0;obtain⟨s0,s1,s2,s3,-⟩:=qs.out.four;obtain⟨r4,c0⟩:=Gz n2.heap.size;obtain⟨n0,k2,d0,b2⟩:=Zan (w:=n2) 41 #[.bool false,.slice sA sk sc,.bool sm,.slice sB sj sd];rw[c0]at d0;replace C:=Za (C.out.below b2);replace qs:=Gm b2 qs;replace a6:=Za (a6.out.below b2);have d8:=Gn f7 b2;clear f7 b2;replace d0:=Za d0;have m5:=Za (FL.sing1 d0.out C.out);clear d0;obtain⟨r3,b5⟩:=Gz n0.heap.size;obtain⟨υ6,h2,d6,a7⟩:=Zan (w:=n0) 35 #[.slice (some ⟨r4,0,none⟩) 1 1];rw[b5]at d6;replace C:=Za (C.out.below a7);replace qs:=Gm a7 qs;replace a6:=Za (a6.out.below a7);replace m5:=Za (m5.out.below a7);have e5:=Gn d8 a7;clear d8 a7;replace d6:=Za d6;have o8:=Za (MFL.one7 d6.out m5.out);clear d6 m5;go_wp2_with fail;(try rw[c0]);(try rw[k2]);(try rw[b5]);(try rw[h2]);clear k2;replace c0:=Za c0;clear h2;replace b5:=Za b5;clear s0 s1 s2 s3;refine(Zig A3 (some ⟨r3,0,none⟩) 1 c3 1 _ υ6 a6.out.xm o8.out.xm).mono ?_;rintro e w6 ⟨rfl,o⟩;replace C:=Za (C.out.below o);replace qs:=Gm o qs;replace a6:=Za (a6.out.below o);replace o8:=Za (o8.out.below o);have o7:=Gn e5 o;clear e5 o;obtain⟨s0,s1,s2,s3,-⟩:=qs.out.four;go_wp2_with fail;go_ret;exact⟨rfl,o7.out⟩
open Go.ChangeShapes Go.WideShapes Go.Deep Go.RowKit
theorem Z3h{z:Int}(h:(Lit.int .i32 z).wf=true):-2147483648<=z/\z<=2147483647:=by
 exact Ie
section
variable{H:Type}{enc:TypeId × Value->H}{w:World}{base:Nat}{spare:Nat->Bool}{held:Bool}
theorem Zsf{t e:TypeId}{fuel:Nat}{cs:List Value}{x:DataW H × List MemPlace}(ht:Tryz.prog.underlying t=some (.slice e))(he:Tryz.prog.underlying e=some (.int .i32))(hc:Tryz.prog.cellsOf e=1)(h:DataW.trod enc Tryz.prog w base spare held fuel t cs=some x):∃ (A:Option Addr) (n c:Nat) (l:List Int),cs=[.slice A n c]/\Lim32 w A n c l:=by
 rcases open_ints ht he hc h with ⟨rfl,_⟩|⟨a,len,cap,zs,rfl,_,hl,hm,hz,_,f,u⟩;exact⟨none,0,0,[],rfl,rfl,Nat.zero_le _,Nat.zero_le _,by simp,λh=>absurd h Gk⟩;have y:len<=zs.length:=by rw[hz];split <;> omega
 refine⟨some a,len,cap,zs.take len,rfl,by simp;omega,hl,hm,λv hv=>Z3h (u v (List.mem_of_mem_take hv)),λhn=>?_⟩;have h0:=f 0 Gk;have hp:=Zg3 h0
 obtain⟨b,o,s⟩:∃ b o,a=⟨b,o,none⟩:=by
  exact Ff
 subst s;refine⟨b,o,rfl,λk hk=>?_⟩;have hc:=f k Gk;rw[Zg]at hc;rw[hc];have C:k<zs.length:=Gk;rw[List.getElem?_take,Gx hk,List.getD_eq_getElem?_getD]
theorem Zvz{r:Reach}{b0:Nat}{v:Value}{d:DataW H}{p:List MemPlace}(hv:Value.okWide Tryz.prog w r b0 59 v)(h:DataW.Trod enc Tryz.prog w base spare held 59 v d p):∃ (A:Option Addr) (n c:Nat) (l:List Int),v=.slice A n c/\Lim32 w A n c l:=by
 obtain⟨A,n,c,rfl⟩:=okWide_slice Tryz.underlying59 hv;obtain⟨fuel,hf⟩:=h;obtain⟨A',n',c',l,e,hL⟩:=Zsf Tryz.underlying59 Tryz.underlying21 Gi hf;simp[Value.cells]at e;obtain⟨rfl,rfl,rfl⟩:=e;exact⟨A,n,c,l,rfl,hL⟩
end
open Go.ChangeShapes Go.WideShapes Go.ChangeAt Go.RowKit
theorem Zzd{z:Int}(h:(Lit.int .i64 z).wf=true):-9223372036854775808<=z/\z<=9223372036854775807:=by
 exact Ie
