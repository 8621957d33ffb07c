/- Package covar: Axes. Reference of wide: Shift, upwards. -/
import Derived.Deep.LoopGhost
import Derived.Test.YthappeninglakaaGreatZt22
set_option maxRecDepth 100000
set_option maxHeartbeats 8000000
set_option linter.unusedSimpArgs false
set_option linter.unusedVariables false
namespace Go.Proofs.YthappeninglakaaGreat
open Go.RowKit
open Act renaming put→Qa
open Below renaming refl→Qb
open Nat renaming le_refl→Qc,le_trans→Qf,lt_of_le_of_lt→Qj
open List renaming map_cons→Qd,map_nil→Qe,not_mem_nil→Qg,getElem?_eq_none→Qh,mem_cons→Qi,getElem?_map→Qk
open Blk renaming new→Ql
attribute [local go_sem] Zg
def AxPost(E l s:Int)(w:World)(e:Ending)(w':World):Prop:=
 Below w.heap.size w w'/\((E=0/\∃ xn xA xk xc yn yA yk yc,e=.returned (.tuple #[.agg #[.bool xn,.slice xA xk xc],.agg #[.bool yn,.slice yA yk yc],.int .i64 0])/\Wd w' xn xA xk xc l/\Wd w' yn yA yk yc s) \/
  (E≠0/\e=.returned (.tuple #[.agg #[.bool false,.slice none 0 0],.agg #[.bool false,.slice none 0 0],.int .i64 E])))
theorem AxPost.fall{E0 E l s:Int}{w w':World}(hb:Below w.heap.size w w')(h:E0=E)(h0:E≠0):AxPost E0 l s w (.returned (.tuple #[.agg #[.bool false,.slice none 0 0],.agg #[.bool false,.slice none 0 0],.int .i64 E])) w':=by
 subst h;exact⟨hb,.inr ⟨h0,rfl⟩⟩
def axE(rs:List RX):Int:=if Zbg rs≠0 then Zbg rs else if rs.length=2 then 0 else 8
section
variable{rs:List RX}{E:Int}
theorem axE_cov(h:Zbg rs=E)(h0:E≠0):axE rs=E:=by subst h;exact Gx h0
theorem axE_bad(h:Zbg rs=0)(hb:rs.length≠2):axE rs=8:=by
 unfold axE;rw[Gw (by simp[h])];exact Gw hb
theorem axE_ok(h:Zbg rs=0)(hb:rs.length=2):axE rs=0:=by
 unfold axE;rw[Gw (by simp[h])];exact Gx hb
theorem ax_det(h0:Zbg rs=0)(h2:rs.length=2):0<Zi (qM rs) 0 0/\0<Zi (qM rs) 1 1/\0<Zi (qM rs) 0 0*Zi (qM rs) 1 1-Zi (qM rs) 0 1*Zi (qM rs) 0 1/\Zi (qM rs) 1 0=Zi (qM rs) 0 1:=by
 obtain⟨u,h,o⟩:=Zi4 h0;have hl:(qM rs).length=2:=by unfold qM;rw[List.length_map];exact h2
 have hs:=symB_iff.1 h 1 0 Gk Gk;have k0:=Zr6 h0 (k:=0) Gk;have k1:=Zr6 h0 (k:=1) Gk;have h1:=o 1 Gk;have e:dQ (Zi (qM rs)) 1=Zi (qM rs) 1 1-Zi (qM rs) 1 0/Zi (qM rs) 0 0*Zi (qM rs) 0 1:=rfl;rw[e,hs]at h1;refine⟨k0,k1,?_,hs⟩;have h3:=Rat.mul_pos k0 h1;have f:Zi (qM rs) 0 0≠0:=λe=>by rw[e]at k0;exact absurd k0 Gj
 have e2:Zi (qM rs) 0 0*(Zi (qM rs) 1 1-Zi (qM rs) 0 1/Zi (qM rs) 0 0*Zi (qM rs) 0 1)=Zi (qM rs) 0 0*Zi (qM rs) 1 1-Zi (qM rs) 0 1*Zi (qM rs) 0 1:=by
  have h5:Zi (qM rs) 0 1/Zi (qM rs) 0 0*Zi (qM rs) 0 0=Zi (qM rs) 0 1:=by
   rw[Rat.div_def,Rat.mul_assoc,Rat.inv_mul_cancel _ f,Rat.mul_one]
  grind
 rw[e2]at h3;exact h3
end
theorem FZ{G:Prop}(h:G:=by
 go_simp;exact hK.out _ _ ⟨_,rfl,(by simp only[Zaz];exact⟨_,_,rfl,FL.sing1 (Blk.new _ _ _) ((bT.out.below ao).below ((Below.refl _ _).alloc (Nat.le_refl _) _))⟩),(Below.refl _ _).alloc (Nat.le_refl _) _,trivial⟩):G:=h
theorem CY{G:Prop}(h:G:=by
 rintro e w5 ⟨ar,fn,fA,fk,fc,fm,fB,fj,fd,rfl,ay⟩;rw[Zh0]at ay;exact Ei):G:=h
theorem Zy9(A:Option Addr)(n c:Nat)(rs:List RX)(w:World)(h:MXL w A n c rs)(hF:FacC rs)(hS:Zbg rs=0->∀ a b,SmN 5 5 (Zi (qM rs) a b)) :
    Calls Tryz.prog 28 #[.slice A n c] w (AxPost (axE rs) (axLong (Zi (qM rs) 0 0) (Zi (qM rs) 0 1) (Zi (qM rs) 1 1)) (axShort (Zi (qM rs) 0 0) (Zi (qM rs) 0 1) (Zi (qM rs) 1 1)) w):=by
 have hmx:=Gt;have q4:=Za h.1;have E7:=h.2.1;have x5:=h.2.2.1;unfold maxLen at x5;obtain⟨W0,t5,e7,⟨q0,q1,q2⟩,s0⟩:=Zb1 w 39 #[.bool false,.slice none 0 0] 39 #[.bool false,.slice none 0 0] 26 #[.int .i64 0];have hC:=Za (Zk3 A n c rs W0 (h.below e7) hF);have hH:=Za (h.below e7);replace hS:=Za hS;replace q0:=Za q0;replace q1:=Za q1;replace q2:=Za q2;replace e7:=Za e7;clear h hF;replace s0:=Za s0
 go_enter_defers Tryz.func28,Tryz.ntmps28
 go_wp2_with fail;(try rw[t5]);clear t5;refine hC.out.mono ?_;rintro e w1 ⟨a9,⟨h0,v1,v2,L0,rfl,z9⟩|⟨h0,rfl⟩⟩
 case inr =>
  have g2:=Gs e7.out a9;have k0:=Zc a9 q0.out;have k1:=Zc a9 q1.out;have k2:=Zc a9 q2.out;obtain⟨E,hE⟩:=Gz (Zbg rs);rw[hE]at h0 ⊢;have r5:=Za h0;have m0:=Za (axE_cov hE h0);replace hE:=Za hE;go_wp2_with fail;refine leaves_cons (f:=39) (args:=#[.pointer (some ⟨w.heap.size+1+1,0,none⟩)]) Gh Gc ?_;have e0:=(k2).cell 0;simp at e0;refine(Zb8 ⟨w.heap.size+1+1,0,none⟩ E 0 _ e0 ((k2).frozen 0)).mono ?_;rintro e u' w'' ⟨rfl,rfl,hw⟩;obtain⟨V,hV,p9,-,-,hk,sV⟩:=Zp 117 #[.int .i64 E] (g2) ((g2).size);obtain⟨U,hU,n8,q3,-,kq,-⟩:=Za1 E p9 Gk (hk _ _ _ (k2));rw[hV,hU]at hw;subst hw;have r4:=q3.cell 0;simp at r4;obtain⟨d0,d1,-⟩:=(kq _ _ _ Gk (hk _ _ _ (k0))).two;obtain⟨d2,d3,-⟩:=(kq _ _ _ Gk (hk _ _ _ (k1))).two;exact⟨.tuple #[.agg #[.bool false,.slice none 0 0],.agg #[.bool false,.slice none 0 0],.int .i64 E],by simp[results,Tryz.results28,go_sem,r4,d0,d1,d2,d3],AxPost.fall n8 m0.out (by first|decide|assumption|exact r5.out)⟩
 have o2:=Za (hS.out h0);obtain⟨p6,z8,y8⟩:=Zi4 h0;have g9:=p6.row hH.out;have hM:=Za ((p6.good hH.out).below a9);have g2:=Gn e7 a9;replace q0:=Gm a9 q0;replace q1:=Gm a9 q1;replace q2:=Gm a9 q2;replace h0:=Za h0;replace g9:=Za g9;clear z9 p6 z8 y8 hC hH e7 a9 L0 hS;by_cases n6:n=2
 case neg =>
  have t1:((n:Int) == 2)=false:=by simp;omega
  have E0:decide ((n:Int)=2)=false:=Gu Gk;have A4:decide (n=2)=false:=Gu n6;have m0:=Za (axE_bad h0.out (by rw[q4.out];exact n6));replace n6:=Za n6;go_wp2_with fail;refine(Zbl 8 w1).mono ?_;rintro e w6 ⟨rfl,rfl⟩;go_wp2_with fail;refine leaves_cons (f:=39) (args:=#[.pointer (some ⟨w.heap.size+1+1,0,none⟩)]) Gh Gc ?_;have e0:=(q2.out).cell 0;simp at e0;refine(Zb8 ⟨w.heap.size+1+1,0,none⟩ 8 0 _ e0 ((q2.out).frozen 0)).mono ?_;rintro e u' w'' ⟨rfl,rfl,hw⟩;obtain⟨V,hV,p9,-,-,hk,sV⟩:=Zp 117 #[.int .i64 8] (g2.out) ((g2.out).size);obtain⟨U,hU,n8,q3,-,kq,-⟩:=Za1 8 p9 Gk (hk _ _ _ (q2.out));rw[hV,hU]at hw;subst hw;have r4:=q3.cell 0;simp at r4;obtain⟨d0,d1,-⟩:=(kq _ _ _ Gk (hk _ _ _ (q0.out))).two;obtain⟨d2,d3,-⟩:=(kq _ _ _ Gk (hk _ _ _ (q1.out))).two;exact⟨.tuple #[.agg #[.bool false,.slice none 0 0],.agg #[.bool false,.slice none 0 0],.int .i64 8],by simp[results,Tryz.results28,go_sem,r4,d0,d1,d2,d3],AxPost.fall n8 m0.out (by first|decide|assumption|exact r5.out)⟩
 subst n6;have m0:=Za (axE_ok h0.out q4.out);obtain⟨p1,p2,p3,-⟩:=ax_det h0.out q4.out;obtain⟨g,o,-,-,-,rfl,-,-⟩:=hM.out.at_ (k:=0) Gj;obtain⟨gi,oi,ci,rI,C7,r7,p8⟩:=hM.out.ents g9.out (I:=0) Gj;obtain⟨gk,ok,ck,rK,C8,t9,r3⟩:=hM.out.ents g9.out (I:=1) Gj;unfold maxLen at r7 t9;obtain⟨an,aA,ak,ac,am,aB,aj,ad,⟨a0,a1,a2,a3⟩,b7⟩:=p8 0 Gj;obtain⟨bn,bA,bk,bc,bm,bB,bj,bd,⟨b0,b1,b2,b3⟩,b5⟩:=p8 1 Gj;obtain⟨dn,dA,dk,dc,dm,dB,dj,dd,⟨d0,d1,d2,d3⟩,b6⟩:=r3 1 Gj;have sx:=o2.out 0 0;have sy:=o2.out 0 1;have sz:=o2.out 1 1;obtain⟨x,hx⟩:=Gz (Zi (qM rs) 0 0);obtain⟨y,hy⟩:=Gz (Zi (qM rs) 0 1);obtain⟨z,hz⟩:=Gz (Zi (qM rs) 1 1);rw[hx]at b7 sx p1 p3;rw[hy]at b5 sy p3;rw[hz]at b6 sz p2 p3;have r2:=Za hx;have v5:=Za hy;have w7:=Za hz;have eL:=Za (Zuj sx sy sz p1 p2);have eS:=Za (Zsr sx sy sz p1 p2 p3);have s1:Hid (Sm x):=Za (sx.sm Gj Gj);have s2:Hid (Sm y):=Za (sy.sm Gj Gj);have s3:Hid (Sm z):=Za (sz.sm Gj Gj);have s4:Hid (Sm (axT x z)):=Za ((sz_t sx sz).sm Gj Gj);have s5:Hid (Sm (axD x z)):=Za ((sz_d sx sz).sm Gj Gj);have s6:Hid (Sm (Ze9 x z)):=Za ((Zns sx sz).sm Gj Gj);have s7:Hid (Sm (Ze9 x z*Ze9 x z)):=Za (((Zns sx sz).mulN (Zns sx sz)).sm Gj Gj);have s8:Hid (Sm (y*y)):=Za ((sy.mulN sy).sm Gj Gj);have sH:Hid (Sm axH):=Za (smH.sm Gj Gj);clear sx sy sz hx hy hz p8 r3 o2 p1 p2 p3 g9 hM h0;replace b7:=Za b7;replace b5:=Za b5;replace b6:=Za b6;have tt:((2:Int) == 2)=true:=Gj;have E1:(0:Int)<((2:Nat):Int):=Gj;have F9:(1:Int)<((2:Nat):Int):=Gj
 replace rI:w1.cell? ⟨g,o,none⟩=some (.slice (some ⟨gi,oi,none⟩) 2 ci):=rI;replace rK:w1.cell? ⟨g,o+1,none⟩=some (.slice (some ⟨gk,ok,none⟩) 2 ck):=rK;replace a0:w1.cell? ⟨gi,oi,none⟩=some (.bool an):=a0;replace a1:w1.cell? ⟨gi,oi+1,none⟩=some (.slice aA ak ac):=a1;replace a2:w1.cell? ⟨gi,oi+2,none⟩=some (.bool am):=a2;replace a3:w1.cell? ⟨gi,oi+3,none⟩=some (.slice aB aj ad):=a3;replace b0:w1.cell? ⟨gi,oi+4,none⟩=some (.bool bn):=b0;replace b1:w1.cell? ⟨gi,oi+4+1,none⟩=some (.slice bA bk bc):=b1;replace b2:w1.cell? ⟨gi,oi+4+2,none⟩=some (.bool bm):=b2;replace b3:w1.cell? ⟨gi,oi+4+3,none⟩=some (.slice bB bj bd):=b3;replace d0:w1.cell? ⟨gk,ok+4,none⟩=some (.bool dn):=d0;replace d1:w1.cell? ⟨gk,ok+4+1,none⟩=some (.slice dA dk dc):=d1;replace d2:w1.cell? ⟨gk,ok+4+2,none⟩=some (.bool dm):=d2;replace d3:w1.cell? ⟨gk,ok+4+3,none⟩=some (.slice dB dj dd):=d3
 have n9:Hid (∀ W9,Below w1.heap.size w1 W9->(W9.cell? ⟨g,o,none⟩=some (.slice (some ⟨gi,oi,none⟩) 2 ci))/\(W9.cell? ⟨g,o+1,none⟩=some (.slice (some ⟨gk,ok,none⟩) 2 ck))/\(W9.cell? ⟨gi,oi,none⟩=some (.bool an))/\(W9.cell? ⟨gi,oi+1,none⟩=some (.slice aA ak ac))/\(W9.cell? ⟨gi,oi+2,none⟩=some (.bool am))/\(W9.cell? ⟨gi,oi+3,none⟩=some (.slice aB aj ad))/\(W9.cell? ⟨gi,oi+4,none⟩=some (.bool bn))/\(W9.cell? ⟨gi,oi+4+1,none⟩=some (.slice bA bk bc))/\(W9.cell? ⟨gi,oi+4+2,none⟩=some (.bool bm))/\(W9.cell? ⟨gi,oi+4+3,none⟩=some (.slice bB bj bd))/\(W9.cell? ⟨gk,ok+4,none⟩=some (.bool dn))/\(W9.cell? ⟨gk,ok+4+1,none⟩=some (.slice dA dk dc))/\(W9.cell? ⟨gk,ok+4+2,none⟩=some (.bool dm))/\(W9.cell? ⟨gk,ok+4+3,none⟩=some (.slice dB dj dd))):=Za (λW9 h9=>⟨Zb h9 rI,Zb h9 rK,Zb h9 a0,Zb h9 a1,Zb h9 a2,Zb h9 a3,Zb h9 b0,Zb h9 b1,Zb h9 b2,Zb h9 b3,Zb h9 d0,Zb h9 d1,Zb h9 d2,Zb h9 d3⟩);have a5:Hid (Below w1.heap.size w1 w1):=Za (Qb _ _);clear rI rK a0 a1 a2 a3 b0 b1 b2 b3 d0 d1 d2 d3;go_wp2_with fail;refine(Zcj 8 w1).mono ?_;rintro e w6 ⟨rfl,rfl⟩;go_wp2_with fail;refine(Zq8 1 2 w6 Gj Gj Gj Gj).mono ?_;rintro e w1 ⟨a9,hn,hA,hk,hc,hm,hB,hj,hd,rfl,bT⟩;replace a5:=Gn a5 a9;replace q0:=Gm a9 q0;replace q1:=Gm a9 q1;replace q2:=Gm a9 q2;replace b7:=Za (b7.out.below a9)
 replace b5:=Za (b5.out.below a9);replace b6:=Za (b6.out.below a9);have p7:=Gn g2 a9;clear g2 a9;have p4:Fr w1 hn hA hk hc hm hB hj hd axH:=bT;clear bT;have bT:=p4;clear p4;replace bT:=Za bT;obtain⟨g3,o4⟩:=Gz w1.heap.size;obtain⟨V5,w9,q7,e6⟩:=Zaw (w:=w1) 41 #[.bool hn,.slice hA hk hc,.bool hm,.slice hB hj hd];rw[o4]at q7;replace a5:=Gn a5 e6;replace q0:=Gm e6 q0;replace q1:=Gm e6 q1;replace q2:=Gm e6 q2;replace b7:=Za (b7.out.below e6);replace b5:=Za (b5.out.below e6);replace b6:=Za (b6.out.below e6);replace bT:=Za (bT.out.below e6);have q5:=Gn p7 e6;clear p7 e6;replace q7:=Za q7;obtain⟨rI,rK,a0,a1,a2,a3,b0,b1,b2,b3,d0,d1,d2,d3⟩:=n9.out _ a5.out;obtain⟨h0,h1,h2,h3,-⟩:=q7.out.four;go_wp2_with fail;(try rw[o4]);(try rw[w9]);clear w9;replace o4:=Za o4;clear h0 h1 h2 h3;have z6:Hid (w.heap.size+1+1<V5.heap.size):=Za q2.out.lt;have k4:V5.cell? ⟨g3,0,none⟩=some (.bool hn):=q7.out.cell 0;have j7:V5.cell? ⟨g3,1,none⟩=some (.slice hA hk hc):=q7.out.cell 1;have k5:V5.cell? ⟨g3,2,none⟩=some (.bool hm):=q7.out.cell 2;have i6:V5.cell? ⟨g3,3,none⟩=some (.slice hB hj hd):=q7.out.cell 3
 have g6:Hid (∀ wx,Below V5.heap.size V5 wx->(wx.cell? ⟨g,o,none⟩=some (.slice (some ⟨gi,oi,none⟩) 2 ci))/\(wx.cell? ⟨g,o+1,none⟩=some (.slice (some ⟨gk,ok,none⟩) 2 ck))/\(wx.cell? ⟨gi,oi,none⟩=some (.bool an))/\(wx.cell? ⟨gi,oi+1,none⟩=some (.slice aA ak ac))/\(wx.cell? ⟨gi,oi+2,none⟩=some (.bool am))/\(wx.cell? ⟨gi,oi+3,none⟩=some (.slice aB aj ad))/\(wx.cell? ⟨gi,oi+4,none⟩=some (.bool bn))/\(wx.cell? ⟨gi,oi+4+1,none⟩=some (.slice bA bk bc))/\(wx.cell? ⟨gi,oi+4+2,none⟩=some (.bool bm))/\(wx.cell? ⟨gi,oi+4+3,none⟩=some (.slice bB bj bd))/\(wx.cell? ⟨gk,ok+4,none⟩=some (.bool dn))/\(wx.cell? ⟨gk,ok+4+1,none⟩=some (.slice dA dk dc))/\(wx.cell? ⟨gk,ok+4+2,none⟩=some (.bool dm))/\(wx.cell? ⟨gk,ok+4+3,none⟩=some (.slice dB dj dd))/\(wx.cell? ⟨g3,0,none⟩=some (.bool hn))/\(wx.cell? ⟨g3,1,none⟩=some (.slice hA hk hc))/\(wx.cell? ⟨g3,2,none⟩=some (.bool hm))/\(wx.cell? ⟨g3,3,none⟩=some (.slice hB hj hd))):=Za (λwx ao=>⟨Zb ao rI,Zb ao rK,Zb ao a0,Zb ao a1,Zb ao a2,Zb ao a3,Zb ao b0,Zb ao b1,Zb ao b2,Zb ao b3,Zb ao d0,Zb ao d1,Zb ao d2,Zb ao d3,Zb ao k4,Zb ao j7,Zb ao k5,Zb ao i6⟩);have b4:Below V5.heap.size V5 V5.drew:=Zf (Qb _ _) 1;refine wp_heldS [] hmx g6 b4 (λhxs1=>?_);refine Zj5 14 [0,1,2,3,4,5,6,7,8,9,10,11,14,15] rfl Gi (g6.out _ b4) ?_
 iterate 14 (refine tkA ?_;try simp only[Qa,Zg7,Zgl,Zg1,Gr,Gq,Gp])
 refine tk0 ?_;refine Za5 [(12,32),(13,33),(16,36),(17,37),(18,7)] (λ_=>[]) [(12,32),(13,33),(16,36),(17,37),(18,7)] (Zaz [(12,fl2V x z),(13,frV (axT x z)),(16,fl1V axH),(17,frV (Zbi x z)),(18,newV V5.heap.size 73 #[.bool false,.slice none 0 0,.bool false,.slice none 0 0])]) 1 Gi (λp _=>Zfh (Zac Zno (Zac Zc6 (Zac Zgp (Zac Zc6 (Zac Ze8 Zgf))))) p.1) (λwx h=>g6.out _ (Gs b4 h)) ?hop1 ?hfin1
 case hop1 =>
  intro p hp;simp only[Qi,Qg,or_false]at hp;simp only[Qd,Qe,Zal,Qa,Zg7,Zgl,Zg1];rcases hp with rfl|rfl|rfl|rfl|rfl
  ·intro ν wx hb hP
   have ao:=Gs b4 hb;refine Zm (i:=12) rfl (λK hK=>?_);go_simp;exact hK.out _ _ ⟨_,rfl,(by simp only[Zaz];exact⟨_,_,rfl,FL.pair2 (Ql _ _ _) ((b7.out.below ao).below ((Qb _ _).alloc (Qc _) _)) ((b6.out.below ao).below ((Qb _ _).alloc (Qc _) _))⟩),(Qb _ _).alloc (Qc _) _,trivial⟩
  ·intro ν wx hb hP
   have ao:=Gs b4 hb;have e4:=hP (12,32) Gh Gi;simp only[Zaz]at e4;obtain⟨l5,n5,hν12,n7⟩:=e4;rw[hν12];refine Zm (i:=13) rfl (λK hK=>?_);go_simp;refine(Zq5 l5 2 n5 [x,z] wx n7 Gj (Zqn s1.out) (Zty s1.out s3.out)).mono ?_;rintro e w5 ⟨ar,fn,fA,fk,fc,fm,fB,fj,fd,rfl,ay⟩;rw[sumF2]at ay;exact Ei
  ·intro ν wx hb hP
   have ao:=Gs b4 hb;refine Zm (i:=16) rfl (λK hK=>?_);exact FZ
  ·intro ν wx hb hP
   have ao:=Gs b4 hb;have m5:=hP (13,33) Gh Gi;simp only[Zaz]at m5;obtain⟨v8,r1,r6,v7,v9,w3,υ7,υ6,hν13,υ1⟩:=m5;rw[hν13];have e1:=hP (16,36) Gh Gi;simp only[Zaz]at e1;obtain⟨m6,n3,hν16,m7⟩:=e1;rw[hν16];refine Zm (i:=17) rfl (λK hK=>?_);go_simp;refine(Zc2 v8 r1 r6 v7 v9 w3 υ7 υ6 _ m6 1 n3 [axH] wx υ1 m7 Gj (Zen s4.out) (Zfo sH.out)).mono ?_;exact CY
  intro ν wx hb hP;have ao:=Gs b4 hb;refine Zm (i:=18) rfl (λK hK=>?_);exact Ea
 case hfin1 =>
  intro ν wx hb hP;have e4:=hP (12,32) Gh;simp only[Zaz]at e4;obtain⟨s9,v0,hν12,-⟩:=e4;have m5:=hP (13,33) Gh;simp only[Zaz]at m5;obtain⟨C2,B5,A0,B9,B2,C0,D0,B8,hν13,-⟩:=m5;have e1:=hP (16,36) Gh;simp only[Zaz]at e1;obtain⟨v6,υ4,hν16,-⟩:=e1;have e3:=hP (17,37) Gh;simp only[Zaz]at e3;obtain⟨h7,h5,h6,f7,e8,e9,g0,f9,hν17,o7⟩:=e3;have h4:=hP (18,7) Gh;simp only[Zaz]at h4;obtain⟨d7,hν18,o5,m3⟩:=h4;simp only[Qd,Qe,Zal,Qa,Zg7,Zgl,Zg1];rw[hν12,hν13,hν16,hν17,hν18];clear hν12 hν13 hν16 hν17 hν18 hP ν;have ao:=Gs b4 hb;have T:=m3.four;have e5:V5.heap.size<=d7:=o5;refine(Z7 h7 h5 h6 f7 e8 e9 g0 f9 ao e5 m3).elim (λZ1 hq=>?_);have c0:=T.1;have m2:=T.2.1;have l9:=T.2.2.1;have c3:=T.2.2.2.1;have f0:=T.2.2.2.2.1;have f1:=T.2.2.2.2.2.1;have f2:=T.2.2.2.2.2.2.1;have f3:=T.2.2.2.2.2.2.2;have hZ:=hq.1;refine wpAnyL_o 19 λK hK=>?_;go_simp;(try rw[hZ]);refine hK.out _ _ (λ_=>g6.out _ hq.2.1) ?_;clear hK K
  try simp only[Qa,Zg7,Zgl,Zg1,Gr,Gq,Gp]
  refine wpAnyL_fin ?_;have J:=hq.2.1;have a4:=hq.2.2.1;have a7:=Fr.keep o7 hq.2.2.2.1;have o1:=Za e5;clear hq hZ c0 m2 l9 c3 f0 f1 f2 f3 T m3 o5 e5 ao hb b4 g6 hxs1 o7;replace a5:=Gn a5 J;replace q0:=Gm J q0;replace q1:=Gm J q1;replace q2:=Gm J q2;replace b7:=Za (b7.out.below J);replace b5:=Za (b5.out.below J);replace b6:=Za (b6.out.below J);replace bT:=Za (bT.out.below J);replace q7:=Gm J q7;have m1:=Gn q5 J;clear q5;replace rI:=Zb J rI;replace rK:=Zb J rK;replace a0:=Zb J a0;replace a1:=Zb J a1;replace a2:=Zb J a2;replace a3:=Zb J a3;replace b0:=Zb J b0;replace b1:=Zb J b1;replace b2:=Zb J b2;replace b3:=Zb J b3;replace d0:=Zb J d0;replace d1:=Zb J d1;replace d2:=Zb J d2;replace d3:=Zb J d3;replace k4:=Zb J k4;replace j7:=Zb J j7;replace k5:=Zb J k5;replace i6:=Zb J i6;clear J rI rK a0 a1 a2 a3 b0 b1 b2 b3 d0 d1 d2 d3 k4 j7 k5 i6;replace a4:=Za a4;replace a7:=Za a7;obtain⟨rI,rK,a0,a1,a2,a3,b0,b1,b2,b3,d0,d1,d2,d3⟩:=n9.out _ a5.out;obtain⟨h0,h1,h2,h3,-⟩:=q7.out.four;go_wp2_with fail;clear h0 h1 h2 h3;have i5:Z1.cell? ⟨g3,0,none⟩=some (.bool hn):=q7.out.cell 0;have k9:Z1.cell? ⟨g3,1,none⟩=some (.slice hA hk hc):=q7.out.cell 1
  have k7:Z1.cell? ⟨g3,2,none⟩=some (.bool hm):=q7.out.cell 2;have j4:Z1.cell? ⟨g3,3,none⟩=some (.slice hB hj hd):=q7.out.cell 3;have g8:Hid (∀ wx,Below Z1.heap.size Z1 wx->(wx.cell? ⟨g,o,none⟩=some (.slice (some ⟨gi,oi,none⟩) 2 ci))/\(wx.cell? ⟨g,o+1,none⟩=some (.slice (some ⟨gk,ok,none⟩) 2 ck))/\(wx.cell? ⟨gi,oi,none⟩=some (.bool an))/\(wx.cell? ⟨gi,oi+1,none⟩=some (.slice aA ak ac))/\(wx.cell? ⟨gi,oi+2,none⟩=some (.bool am))/\(wx.cell? ⟨gi,oi+3,none⟩=some (.slice aB aj ad))/\(wx.cell? ⟨gi,oi+4,none⟩=some (.bool bn))/\(wx.cell? ⟨gi,oi+4+1,none⟩=some (.slice bA bk bc))/\(wx.cell? ⟨gi,oi+4+2,none⟩=some (.bool bm))/\(wx.cell? ⟨gi,oi+4+3,none⟩=some (.slice bB bj bd))/\(wx.cell? ⟨gk,ok+4,none⟩=some (.bool dn))/\(wx.cell? ⟨gk,ok+4+1,none⟩=some (.slice dA dk dc))/\(wx.cell? ⟨gk,ok+4+2,none⟩=some (.bool dm))/\(wx.cell? ⟨gk,ok+4+3,none⟩=some (.slice dB dj dd))/\(wx.cell? ⟨g3,0,none⟩=some (.bool hn))/\(wx.cell? ⟨g3,1,none⟩=some (.slice hA hk hc))/\(wx.cell? ⟨g3,2,none⟩=some (.bool hm))/\(wx.cell? ⟨g3,3,none⟩=some (.slice hB hj hd))):=Za (λwx ao=>⟨Zb ao rI,Zb ao rK,Zb ao a0,Zb ao a1,Zb ao a2,Zb ao a3,Zb ao b0,Zb ao b1,Zb ao b2,Zb ao b3,Zb ao d0,Zb ao d1,Zb ao d2,Zb ao d3,Zb ao i5,Zb ao k9,Zb ao k7,Zb ao j4⟩);have d6:Below Z1.heap.size Z1 Z1.drew:=Zf (Qb _ _) 1;refine wp_heldS [] hmx g8 d6 (λhxs2=>?_);refine Zj5 14 [0,1,2,3,4,5,6,7,8,9,10,11,13,14] rfl Gi (g8.out _ d6) ?_
  iterate 14 (refine tkA ?_;try simp only[Qa,Zg7,Zgl,Zg1,Gr,Gq,Gp])
  refine tk0 ?_;refine Za5 [(12,50),(15,53),(16,54),(17,8)] (λ_=>[]) [(12,50),(15,53),(16,54),(17,8)] (Zaz [(12,frV (axD x z)),(15,fl1V axH),(16,frV (Ze9 x z)),(17,newV Z1.heap.size 73 #[.bool false,.slice none 0 0,.bool false,.slice none 0 0])]) 1 Gi (λp _=>Zfh (Zac Zc6 (Zac Zgp (Zac Zc6 (Zac Ze8 Zgf)))) p.1) (λwx h=>g8.out _ (Gs d6 h)) ?hop2 ?hfin2
  case hop2 =>
   intro p hp;simp only[Qi,Qg,or_false]at hp;simp only[Qd,Qe,Zal,Qa,Zg7,Zgl,Zg1];rcases hp with rfl|rfl|rfl|rfl
   ·intro ν wx hb hP
    have ao:=Gs d6 hb;refine Zm (i:=12) rfl (λK hK=>?_);go_simp;refine(Zez an am dn dm aA aB dA dB ak ac aj ad dk dc dj dd _ _ wx (b7.out.below ao) (b6.out.below ao) s1.out s3.out).mono ?_;rintro e w5 ⟨ar,fn,fA,fk,fc,fm,fB,fj,fd,rfl,ay⟩;exact Ei
   ·intro ν wx hb hP
    have ao:=Gs d6 hb;refine Zm (i:=15) rfl (λK hK=>?_);exact FZ
   ·intro ν wx hb hP
    have ao:=Gs d6 hb;have e4:=hP (12,50) Gh Gi;simp only[Zaz]at e4;obtain⟨v3,l5,t3,n5,t0,x0,w8,t8,hν12,n7⟩:=e4;rw[hν12];have l7:=hP (15,53) Gh Gi;simp only[Zaz]at l7;obtain⟨υ2,v4,hν15,υ9⟩:=l7;rw[hν15];refine Zm (i:=16) rfl (λK hK=>?_);go_simp;refine(Zc2 v3 l5 t3 n5 t0 x0 w8 t8 _ υ2 1 v4 [axH] wx n7 υ9 Gj (Zen s5.out) (Zfo sH.out)).mono ?_;exact CY
   intro ν wx hb hP;have ao:=Gs d6 hb;refine Zm (i:=17) rfl (λK hK=>?_);exact Ea
  case hfin2 =>
   intro ν wx hb hP;have e4:=hP (12,50) Gh;simp only[Zaz]at e4;obtain⟨A9,s9,D3,v0,D6,C3,D1,D2,hν12,-⟩:=e4;have l7:=hP (15,53) Gh;simp only[Zaz]at l7;obtain⟨A8,D7,hν15,-⟩:=l7;have e1:=hP (16,54) Gh;simp only[Zaz]at e1;obtain⟨l4,i8,j9,k3,i7,j6,i9,i4,hν16,o9⟩:=e1;have e3:=hP (17,8) Gh;simp only[Zaz]at e3;obtain⟨d8,hν17,p0,m8⟩:=e3;simp only[Qd,Qe,Zal,Qa,Zg7,Zgl,Zg1];rw[hν12,hν15,hν16,hν17];clear hν12 hν15 hν16 hν17 hP ν;have ao:=Gs d6 hb;have T:=m8.four;have e5:Z1.heap.size<=d8:=p0;refine(Z7 l4 i8 j9 k3 i7 j6 i9 i4 ao e5 m8).elim (λZ2 hq=>?_);have c0:=T.1;have m2:=T.2.1;have l9:=T.2.2.1;have c3:=T.2.2.2.1;have f0:=T.2.2.2.2.1;have f1:=T.2.2.2.2.2.1;have f2:=T.2.2.2.2.2.2.1;have f3:=T.2.2.2.2.2.2.2;have hZ:=hq.1;refine wpAnyL_o 18 λK hK=>?_;go_simp;(try rw[hZ]);refine hK.out _ _ (λ_=>g8.out _ hq.2.1) ?_;clear hK K
   try simp only[Qa,Zg7,Zgl,Zg1,Gr,Gq,Gp]
   refine wpAnyL_fin ?_;have C:=hq.2.1;have b9:=hq.2.2.1;have e2:=Fr.keep o9 hq.2.2.2.1;have x2:=Za e5;clear hq hZ c0 m2 l9 c3 f0 f1 f2 f3 T m8 p0 e5 ao hb d6 g8 hxs2 o9;replace a5:=Gn a5 C;replace q0:=Gm C q0;replace q1:=Gm C q1;replace q2:=Gm C q2;replace b7:=Za (b7.out.below C);replace b5:=Za (b5.out.below C);replace b6:=Za (b6.out.below C);replace bT:=Za (bT.out.below C);replace q7:=Gm C q7;replace a4:=Gm C a4;replace a7:=Za (a7.out.below C);have m4:=Gn m1 C;clear m1;replace rI:=Zb C rI;replace rK:=Zb C rK;replace a0:=Zb C a0;replace a1:=Zb C a1;replace a2:=Zb C a2;replace a3:=Zb C a3;replace b0:=Zb C b0;replace b1:=Zb C b1;replace b2:=Zb C b2;replace b3:=Zb C b3;replace d0:=Zb C d0;replace d1:=Zb C d1;replace d2:=Zb C d2;replace d3:=Zb C d3;replace i5:=Zb C i5;replace k9:=Zb C k9;replace k7:=Zb C k7;replace j4:=Zb C j4;clear C rI rK a0 a1 a2 a3 b0 b1 b2 b3 d0 d1 d2 d3 i5 k9 k7 j4;replace b9:=Za b9;replace e2:=Za e2;clear q7 bT;obtain⟨rI,rK,a0,a1,a2,a3,b0,b1,b2,b3,d0,d1,d2,d3⟩:=n9.out _ a5.out;obtain⟨h0,h1,h2,h3,-⟩:=b9.out.four;go_wp2_with fail;clear h0 h1 h2 h3;have y7:Hid (w.heap.size+1+1<Z2.heap.size):=Za q2.out.lt;have k8:Z2.cell? ⟨d8,0,none⟩=some (.bool l4):=b9.out.cell 0;have k6:Z2.cell? ⟨d8,1,none⟩=some (.slice i8 j9 k3):=b9.out.cell 1;have j5:Z2.cell? ⟨d8,2,none⟩=some (.bool i7):=b9.out.cell 2;have j8:Z2.cell? ⟨d8,3,none⟩=some (.slice j6 i9 i4):=b9.out.cell 3
   have g7:Hid (∀ wx,Below Z2.heap.size Z2 wx->(wx.cell? ⟨g,o,none⟩=some (.slice (some ⟨gi,oi,none⟩) 2 ci))/\(wx.cell? ⟨g,o+1,none⟩=some (.slice (some ⟨gk,ok,none⟩) 2 ck))/\(wx.cell? ⟨gi,oi,none⟩=some (.bool an))/\(wx.cell? ⟨gi,oi+1,none⟩=some (.slice aA ak ac))/\(wx.cell? ⟨gi,oi+2,none⟩=some (.bool am))/\(wx.cell? ⟨gi,oi+3,none⟩=some (.slice aB aj ad))/\(wx.cell? ⟨gi,oi+4,none⟩=some (.bool bn))/\(wx.cell? ⟨gi,oi+4+1,none⟩=some (.slice bA bk bc))/\(wx.cell? ⟨gi,oi+4+2,none⟩=some (.bool bm))/\(wx.cell? ⟨gi,oi+4+3,none⟩=some (.slice bB bj bd))/\(wx.cell? ⟨gk,ok+4,none⟩=some (.bool dn))/\(wx.cell? ⟨gk,ok+4+1,none⟩=some (.slice dA dk dc))/\(wx.cell? ⟨gk,ok+4+2,none⟩=some (.bool dm))/\(wx.cell? ⟨gk,ok+4+3,none⟩=some (.slice dB dj dd))/\(wx.cell? ⟨d8,0,none⟩=some (.bool l4))/\(wx.cell? ⟨d8,1,none⟩=some (.slice i8 j9 k3))/\(wx.cell? ⟨d8,2,none⟩=some (.bool i7))/\(wx.cell? ⟨d8,3,none⟩=some (.slice j6 i9 i4))):=Za (λwx ao=>⟨Zb ao rI,Zb ao rK,Zb ao a0,Zb ao a1,Zb ao a2,Zb ao a3,Zb ao b0,Zb ao b1,Zb ao b2,Zb ao b3,Zb ao d0,Zb ao d1,Zb ao d2,Zb ao d3,Zb ao k8,Zb ao k6,Zb ao j5,Zb ao j8⟩);have a8:Below Z2.heap.size Z2 Z2.drew:=Zf (Qb _ _) 1;refine wp_heldS [] hmx g7 a8 (λhxs3=>?_);refine Zj5 14 [0,1,4,5,6,7,8,9,10,11,12,13,14,15] rfl Gi (g7.out _ a8) ?_
   iterate 14 (refine tkA ?_;try simp only[Qa,Zg7,Zgl,Zg1,Gr,Gq,Gp])
   refine tk0 ?_;refine Za5 [(2,57),(3,58),(16,71),(17,72),(18,73),(19,74),(20,9)] (λ_=>[]) [(2,57),(3,58),(16,71),(17,72),(18,73),(19,74),(20,9)] (Zaz [(2,fl1V (Ze9 x z)),(3,frV (Ze9 x z*Ze9 x z)),(16,fl1V y),(17,frV (y*y)),(18,fl2V (Ze9 x z*Ze9 x z) (y*y)),(19,frV (Zi5 x y z)),(20,newV Z2.heap.size 73 #[.bool false,.slice none 0 0,.bool false,.slice none 0 0])]) 1 Gi (λp _=>Zfh (Zac Zgp (Zac Zc6 (Zac Zgp (Zac Zc6 (Zac Zno (Zac Zc6 (Zac Ze8 Zgf))))))) p.1) (λwx h=>g7.out _ (Gs a8 h)) ?hop3 ?hfin3
   case hop3 =>
    intro p hp;simp only[Qi,Qg,or_false]at hp;simp only[Qd,Qe,Zal,Qa,Zg7,Zgl,Zg1];rcases hp with rfl|rfl|rfl|rfl|rfl|rfl|rfl
    ·intro ν wx hb hP
     have ao:=Gs a8 hb;refine Zm (i:=2) rfl (λK hK=>?_);go_simp;exact hK.out _ _ ⟨_,rfl,(by simp only[Zaz];exact⟨_,_,rfl,FL.sing1 (Ql _ _ _) ((e2.out.below ao).below ((Qb _ _).alloc (Qc _) _))⟩),(Qb _ _).alloc (Qc _) _,trivial⟩
    ·intro ν wx hb hP
     have ao:=Gs a8 hb;have h2:=hP (2,57) Gh Gi;simp only[Zaz]at h2;obtain⟨z3,x9,hν2,x7⟩:=h2;rw[hν2];refine Zm (i:=3) rfl (λK hK=>?_);go_simp;refine(Zc2 l4 i8 j9 k3 i7 j6 i9 i4 _ z3 1 x9 [Ze9 x z] wx (e2.out.below ao) x7 Gj (Zen s6.out) (Zfo s6.out)).mono ?_;exact CY
    ·intro ν wx hb hP
     have ao:=Gs a8 hb;refine Zm (i:=16) rfl (λK hK=>?_);go_simp;exact hK.out _ _ ⟨_,rfl,(by simp only[Zaz];exact⟨_,_,rfl,FL.sing1 (Ql _ _ _) ((b5.out.below ao).below ((Qb _ _).alloc (Qc _) _))⟩),(Qb _ _).alloc (Qc _) _,trivial⟩
    ·intro ν wx hb hP
     have ao:=Gs a8 hb;have e1:=hP (16,71) Gh Gi;simp only[Zaz]at e1;obtain⟨m6,n3,hν16,m7⟩:=e1;rw[hν16];refine Zm (i:=17) rfl (λK hK=>?_);go_simp;refine(Zc2 bn bA bk bc bm bB bj bd _ m6 1 n3 [y] wx (b5.out.below ao) m7 Gj (Zen s2.out) (Zfo s2.out)).mono ?_;exact CY
    ·intro ν wx hb hP
     have ao:=Gs a8 hb;have h3:=hP (3,58) Gh Gi;simp only[Zaz]at h3;obtain⟨E4,F5,D9,D8,F4,F0,F2,F7,hν3,z7⟩:=h3;rw[hν3];have e3:=hP (17,72) Gh Gi;simp only[Zaz]at e3;obtain⟨A7,D5,B1,C5,C1,A6,C4,A5,hν17,w0⟩:=e3;rw[hν17];refine Zm (i:=18) rfl (λK hK=>?_);go_simp;exact hK.out _ _ ⟨_,rfl,(by simp only[Zaz];exact⟨_,_,rfl,FL.pair2 (Ql _ _ _) ((z7).below ((Qb _ _).alloc (Qc _) _)) ((w0).below ((Qb _ _).alloc (Qc _) _))⟩),(Qb _ _).alloc (Qc _) _,trivial⟩
    ·intro ν wx hb hP
     have ao:=Gs a8 hb;have h4:=hP (18,73) Gh Gi;simp only[Zaz]at h4;obtain⟨υ5,υ0,hν18,t4⟩:=h4;rw[hν18];refine Zm (i:=19) rfl (λK hK=>?_);go_simp;refine(Zq5 υ5 2 υ0 [_,_] wx t4 Gj (Zqn s7.out) (Zty s7.out s8.out)).mono ?_;rintro e w5 ⟨ar,fn,fA,fk,fc,fm,fB,fj,fd,rfl,ay⟩;rw[sumF2]at ay;exact Ei
    intro ν wx hb hP;have ao:=Gs a8 hb;refine Zm (i:=20) rfl (λK hK=>?_);exact Ea
   case hfin3 =>
    intro ν wx hb hP;have h2:=hP (2,57) Gh;simp only[Zaz]at h2;obtain⟨E6,E5,hν2,-⟩:=h2;have h3:=hP (3,58) Gh;simp only[Zaz]at h3;obtain⟨F1,F3,E9,E8,F8,E2,F6,G0,hν3,-⟩:=h3;have e1:=hP (16,71) Gh;simp only[Zaz]at e1;obtain⟨v6,υ4,hν16,-⟩:=e1;have e3:=hP (17,72) Gh;simp only[Zaz]at e3;obtain⟨A3,C9,A1,B4,B7,C6,B6,D4,hν17,-⟩:=e3;have h4:=hP (18,73) Gh;simp only[Zaz]at h4;obtain⟨B3,A2,hν18,-⟩:=h4;have w2:=hP (19,74) Gh;simp only[Zaz]at w2;obtain⟨g5,f6,g1,g4,h8,f5,f4,f8,hν19,o8⟩:=w2;have r9:=hP (20,9) Gh;simp only[Zaz]at r9;obtain⟨d9,hν20,o6,l6⟩:=r9;simp only[Qd,Qe,Zal,Qa,Zg7,Zgl,Zg1];rw[hν2,hν3,hν16,hν17,hν18,hν19,hν20];clear hν2 hν3 hν16 hν17 hν18 hν19 hν20 hP ν;have ao:=Gs a8 hb;have T:=l6.four;have e5:Z2.heap.size<=d9:=o6;refine(Z7 g5 f6 g1 g4 h8 f5 f4 f8 ao e5 l6).elim (λZ3 hq=>?_);have c0:=T.1;have m2:=T.2.1;have l9:=T.2.2.1;have c3:=T.2.2.2.1;have f0:=T.2.2.2.2.1;have f1:=T.2.2.2.2.2.1;have f2:=T.2.2.2.2.2.2.1;have f3:=T.2.2.2.2.2.2.2;have hZ:=hq.1;refine wpAnyL_o 21 λK hK=>?_;go_simp;(try rw[hZ]);refine hK.out _ _ (λ_=>g7.out _ hq.2.1) ?_;clear hK K
    try simp only[Qa,Zg7,Zgl,Zg1,Gr,Gq,Gp]
    refine wpAnyL_fin ?_;have u:=hq.2.1;have a6:=hq.2.2.1;have b8:=Fr.keep o8 hq.2.2.2.1;have o3:=Za e5;clear hq hZ c0 m2 l9 c3 f0 f1 f2 f3 T l6 o6 e5 ao hb a8 g7 hxs3 o8;replace a5:=Gn a5 u;replace q0:=Gm u q0;replace q1:=Gm u q1;replace q2:=Gm u q2;replace b7:=Za (b7.out.below u);replace b5:=Za (b5.out.below u);replace b6:=Za (b6.out.below u);replace a4:=Gm u a4;replace a7:=Za (a7.out.below u);replace b9:=Gm u b9;replace e2:=Za (e2.out.below u);have m9:=Gn m4 u;clear m4;replace rI:=Zb u rI;replace rK:=Zb u rK;replace a0:=Zb u a0;replace a1:=Zb u a1;replace a2:=Zb u a2;replace a3:=Zb u a3;replace b0:=Zb u b0;replace b1:=Zb u b1;replace b2:=Zb u b2;replace b3:=Zb u b3;replace d0:=Zb u d0;replace d1:=Zb u d1;replace d2:=Zb u d2;replace d3:=Zb u d3;replace k8:=Zb u k8;replace k6:=Zb u k6;replace j5:=Zb u j5;replace j8:=Zb u j8;clear u rI rK a0 a1 a2 a3 b0 b1 b2 b3 d0 d1 d2 d3 k8 k6 j5 j8;replace a6:=Za a6;replace b8:=Za b8;clear b7 b5 b6 b9 e2;obtain⟨h0,h1,h2,h3,-⟩:=a4.out.four;obtain⟨i0,i1,i2,i3,-⟩:=a6.out.four;clear n9;go_wp2_with fail;clear h0 h1 h2 h3 i0 i1 i2 i3
    have d4:Z3.cell? ⟨d7,0,none⟩=some (.bool h7):=a4.out.cell 0;have c8:Z3.cell? ⟨d7,1,none⟩=some (.slice h5 h6 f7):=a4.out.cell 1;have c6:Z3.cell? ⟨d7,2,none⟩=some (.bool e8):=a4.out.cell 2;have c7:Z3.cell? ⟨d7,3,none⟩=some (.slice e9 g0 f9):=a4.out.cell 3;have c5:Z3.cell? ⟨d9,0,none⟩=some (.bool g5):=a6.out.cell 0;have c4:Z3.cell? ⟨d9,1,none⟩=some (.slice f6 g1 g4):=a6.out.cell 1;have c9:Z3.cell? ⟨d9,2,none⟩=some (.bool h8):=a6.out.cell 2;have d5:Z3.cell? ⟨d9,3,none⟩=some (.slice f5 f4 f8):=a6.out.cell 3;have Y:Below Z3.heap.size Z3 Z3.drew:=Zf (Qb _ _) 1;replace a5:=Gn a5 Y;replace q0:=Gm Y q0;replace q1:=Gm Y q1;replace q2:=Gm Y q2;replace a4:=Gm Y a4;replace a7:=Za (a7.out.below Y);replace a6:=Gm Y a6;replace b8:=Za (b8.out.below Y);have l8:=Gn m9 Y;clear m9;replace d4:=Zb Y d4;replace c8:=Zb Y c8;replace c6:=Zb Y c6;replace c7:=Zb Y c7;replace c5:=Zb Y c5;replace c4:=Zb Y c4;replace c9:=Zb Y c9;replace d5:=Zb Y d5;clear Y;refine Zx [7,8] (λwx=>(wx.cell? ⟨d7,0,none⟩=some (.bool h7))/\(wx.cell? ⟨d7,1,none⟩=some (.slice h5 h6 f7))/\(wx.cell? ⟨d7,2,none⟩=some (.bool e8))/\(wx.cell? ⟨d7,3,none⟩=some (.slice e9 g0 f9))/\(wx.cell? ⟨d9,0,none⟩=some (.bool g5))/\(wx.cell? ⟨d9,1,none⟩=some (.slice f6 g1 g4))/\(wx.cell? ⟨d9,2,none⟩=some (.bool h8))/\(wx.cell? ⟨d9,3,none⟩=some (.slice f5 f4 f8))) hmx ⟨d4,c8,c6,c7,c5,c4,c9,d5⟩ (λ_=>?_);refine Zj5 4 [0,1,3,4] rfl Gi ⟨d4,c8,c6,c7,c5,c4,c9,d5⟩ ?_
    iterate 4 (refine tkA ?_;try simp only[Qa,Zg7,Zgl,Zg1,Gr,Gq,Gp])
    refine tk0 ?_;refine wpAnyL_o 2 λK hK=>?_;go_simp;refine(Zv7 h7 h5 h6 f7 e8 e9 g0 f9 g5 f6 g1 g4 h8 f5 f4 f8 1 (Zbi x z) (Zi5 x y z) (axLong x y z) Z3.drew a7.out b8.out eL.out).mono ?_;rintro e y9 ⟨O,xn,xA,xk,xc,rfl,xf⟩;replace a5:=Gn a5 O;replace q0:=Gm O q0;replace q1:=Gm O q1;replace q2:=Gm O q2;replace a4:=Gm O a4;replace a7:=Za (a7.out.below O);replace a6:=Gm O a6;replace b8:=Za (b8.out.below O);have n4:=Gn l8 O;clear l8;replace d4:=Zb O d4;replace c8:=Zb O c8;replace c6:=Zb O c6;replace c7:=Zb O c7;replace c5:=Zb O c5;replace c4:=Zb O c4;replace c9:=Zb O c9;replace d5:=Zb O d5;clear O;replace xf:=Za xf;refine hK.out _ _ (λ_=>⟨d4,c8,c6,c7,c5,c4,c9,d5⟩) ?_;clear hK K
    try simp only[Qa,Zg7,Zgl,Zg1,Gr,Gq,Gp]
    refine wpAnyL_o 5 λK hK=>?_;go_simp;refine(Zv7 h7 h5 h6 f7 e8 e9 g0 f9 g5 f6 g1 g4 h8 f5 f4 f8 (-1) (Zbi x z) (Zi5 x y z) (axShort x y z) y9 a7.out b8.out eS.out).mono ?_;rintro e E3 ⟨O,yn,yA,yk,yc,rfl,yf⟩;replace a5:=Gn a5 O;replace q0:=Gm O q0;replace q1:=Gm O q1;replace q2:=Gm O q2;replace a4:=Gm O a4;replace a7:=Za (a7.out.below O);replace a6:=Gm O a6;replace b8:=Za (b8.out.below O);replace xf:=Za (xf.out.below O);have r8:=Gn n4 O;clear n4;replace d4:=Zb O d4;replace c8:=Zb O c8;replace c6:=Zb O c6;replace c7:=Zb O c7;replace c5:=Zb O c5;replace c4:=Zb O c4;replace c9:=Zb O c9;replace d5:=Zb O d5;clear O;replace yf:=Za yf;refine hK.out _ _ (λ_=>⟨d4,c8,c6,c7,c5,c4,c9,d5⟩) ?_;clear hK K
    try simp only[Qa,Zg7,Zgl,Zg1,Gr,Gq,Gp]
    have lm:=o1.out;have ls:=o3.out;have y4:=z6.out;have x3:=y7.out;obtain⟨c0,c1,f0,f1⟩:=q0.out.two;obtain⟨W5,x6,x8,n0,kW,kB,-⟩:=Zar xn xA xk xc r8.out (Qc _) q0.out;have q9:=kB _ _ _ Gk q1.out;have υ3:=kB _ _ _ Gk q2.out;obtain⟨j0,j1,j2,j3,-⟩:=(kB _ _ _ Gk a4.out).four;obtain⟨l0,l1,l2,l3,-⟩:=(kB _ _ _ Gk a6.out).four;have z4:Hid (_/\_/\_/\_/\_/\_/\_/\_):=Za ⟨j0,j1,j2,j3,l0,l1,l2,l3⟩;clear j0 j1 j2 j3 l0 l1 l2 l3 lm ls y4 x3;have t7:=kW _ _ _ _ _ xf.out;have υ8:=kW _ _ _ _ _ yf.out;obtain⟨c2,c3,f2,f3⟩:=q9.two;obtain⟨W6,y6,x4,n1,q8,p5,-⟩:=Zar yn yA yk yc x8 Gk q9;have t6:=p5 _ _ _ Gk n0;have o0:=p5 _ _ _ Gk υ3;have x1:=q8 _ _ _ _ _ t7;have w4:=q8 _ _ _ _ _ υ8;have e0:=o0.cell 0;have z0:=o0.frozen 0;simp at e0;obtain⟨U,hU,n8,n2,r0,q6,-⟩:=Za1 0 x4 Gk o0;have r4:=n2.cell 0;simp at r4;obtain⟨y0,y1,-⟩:=(q6 _ _ _ Gk t6).two;obtain⟨y2,y3,-⟩:=(q6 _ _ _ Gk n1).two;have z5:=Za (r0 _ _ _ _ _ x1);have y5:=Za (r0 _ _ _ _ _ w4);clear kW kB q8 p5 r0 q6 t7 υ8 x1 w4 n0 n1 t6 q9 υ3 o0;refine wpAnyL_o 6 λK hK=>?_;go_simp;(try rw[x6]);refine hK.out _ _ (λ_=>z4.out) ?_;clear hK K
    try simp only[Qa,Zg7,Zgl,Zg1,Gr,Gq,Gp]
    refine Zv (i:=7) rfl Gi Gi (λK hK=>?_);go_simp;(try rw[y6]);refine hK.out _ _ ?_;clear hK K
    try simp only[Qa,Zg7,Zgl,Zg1,Gr,Gq,Gp]
    refine Zv (i:=8) rfl Gi Gi (λK hK=>?_);go_simp;(try rw[hU]);refine hK.out _ _ ?_;clear hK K
    try simp only[Qa,Zg7,Zgl,Zg1,Gr,Gq,Gp]
    refine wpAnyL_fin ?_;go_wp2_with fail;refine leaves_cons (f:=39) (args:=#[.pointer (some ⟨w.heap.size+1+1,0,none⟩)]) Gh Gc ?_;refine(Zfn _ _).mono ?_;rintro e u' w'' ⟨rfl,rfl,rfl⟩;exact⟨.tuple #[.agg #[.bool xn,.slice xA xk xc],.agg #[.bool yn,.slice yA yk yc],.int .i64 0],by simp[results,Tryz.results28,go_sem,r4,y0,y1,y2,y3],n8,.inl ⟨m0.out,_,_,_,_,_,_,_,_,rfl,by rw[r2.out,v5.out,w7.out];exact z5.out,by rw[r2.out,v5.out,w7.out];exact y5.out⟩⟩
section
variable{a b d:Rat}
end
section
variable{k n m:Nat}{R:List (List Rat)}
end
section
variable{k n m:Nat}{R:List (List Rat)}
end
def LeN(k:Nat)(q:Rat):Prop:=q.num.natAbs<=pw k/\q.den<=pw k
def Zmt(A:Nat->Nat->Rat)(x:Nat->Rat)(n:Nat):List (List Rat):=(List.range (n+1)).map λi=>(List.range (n+1)).map λk=>brd A x n i k
section
variable{A:Nat->Nat->Rat}{x:Nat->Rat}{n k:Nat}
theorem Zr8:(Zmt A x n).length=n+1:=by simp[Zmt]
theorem Ztb{i:Nat}(hi:i<n+1):((Zmt A x n)[i]?.getD []).length=n+1:=by
 unfold Zmt;rw[Qk,List.getElem?_range hi];simp
theorem Zwl{i j:Nat}(hi:i<n+1)(hj:j<n+1):Zi (Zmt A x n) i j=brd A x n i j:=by
 unfold Zi Zmt;exact Fe
theorem brdR_sm(hA:∀ i j,i<n->j<n->LeN k (A i j))(hx:∀ i,i<n->LeN k (x i)):SmE k (Zmt A x n):=λi j=>by
 have h0:LeN k 0:=⟨Nat.zero_le _,Zb4 _⟩;by_cases hi:i<n+1
 ·by_cases hj:j<n+1
  ·rw[Zwl hi hj]
   unfold brd;by_cases h1:i<n
   ·rw[Gx h1]
    by_cases h2:j<n;rw[Gx h2];exact hA i j h1 h2;rw[Gw h2];exact hx i h1
   rw[Gw h1];by_cases h2:j<n;rw[Gx h2];exact hx j h2;rw[Gw h2];exact h0
  unfold Zi;rw[Qh (by rw[Ztb hi];omega)];exact h0
 unfold Zi;rw[Qh (l:=Zmt A x n) (by rw[Zr8];omega)];exact h0
theorem Zmf{t i j:Nat}(ht:t<=n+1)(hi:i<n+1)(hj:j<n+1):Zr (Zi (Zmt A x n)) t i j=Zr (brd A x n) t i j:=
 Zcs (n:=n+1) (m:=n+1) (λ_ _ hi hk=>Zwl hi hk) (Qc _) t i j ht hi hj
theorem Z1u(hp:posP A n){t:Nat}(ht:t<=n):posP (Zi (Zmt A x n)) t:=λs hs=>by
 have e:dQ (Zi (Zmt A x n)) s=dQ (brd A x n) s:=Zmf Gk Gk Gk;rw[e,brd_d x Gk];exact hp s Gk
theorem Z0a(hn:n<=6)(hA:∀ i j,i<n->j<n->LeN 7 (A i j))(hx:∀ i,i<n->LeN 7 (x i))(hp:posP A n){t i:Nat}(ht:t<=n)(hi:i<n+1):SmN 400 449 (Zr (brd A x n) t i n):=by
 have h:=(brdR_sm hA hx).red2 Zr8 Gk (λi hi=>Ztb hi) (t:=t) Gk Gk (Z1u hp ht) hi n;rw[Zmf Gk hi Gk]at h;have h1:(7*(n+1)+7+1)*(n+1)<=399:=Qf (Nat.mul_le_mul (show 7*(n+1)+7+1<=57 by omega) (show n+1<=7 by omega)) Gj;exact h.mono Gk Gk
theorem Zux(hn:n<=6)(hF:FacP A n)(hA:∀ i j,i<n->j<n->LeN 7 (A i j))(hx:∀ i,i<n->LeN 7 (x i))(hp:posP A n):Zsl A n x:=by
 have hs:=λt i ht hi=>Z0a (t:=t) (i:=i) hn hA hx hp ht hi
 have f:∀ t,t<=n->Zu t (λs=>zV A n x s*zV A n x s/dQ A s)=- Zr (brd A x n) t n n:=λt ht=>by
  have h:=Zwx hF.sym x t ht;rw[h];rw[Zy (g:=λs=>Zr (brd A x n) s s n*Zr (brd A x n) s s n/dQ (brd A x n) s) (λs hs=>by rw[brd_d x Gk];rfl)]
  grind
 have o:∀ t,t<=n->SmN 400 449 (- Zr (brd A x n) t n n):=λt ht=>by
  have h:=hs t n ht Gk;exact⟨by rw[Rat.neg_num,Int.natAbs_neg];exact h.1,by rw[Rat.neg_den];exact h.2⟩
 refine⟨λt i hti hi=>(hs t i Gk Gk).sm Gj Gj,λi t hti hi=>(hF.l i t Gk hi (hp.mono Gk)).sm Gj Gj,λi t hti hi=>?_,λi hi=>((hs i i Gk Gk).mulN (hs i i Gk Gk)).sm Gj Gj,λi hi=>(hF.d hi (hp.mono Gk)).sm Gj Gj,λi hi=>?_,λi hi=>?_⟩
 ·have h:=Zo2 (A:=A) (x:=x) hti hi
  have e:lQ A i t*Zr (brd A x n) t t n=Zr (brd A x n) t i n-Zr (brd A x n) (t+1) i n:=by
   rw[h];show lQ A i t*zV A n x t=_
   grind
  rw[e];exact((hs t i Gk Gk).sub (hs (t+1) i Gk Gk)).sm Gj Gj
 ·have h1:=f i Gk
  have h2:=f (i+1) Gk;have h3:Zu (i+1) (λs=>zV A n x s*zV A n x s/dQ A s)=Zu i (λs=>zV A n x s*zV A n x s/dQ A s)+zV A n x i*zV A n x i/dQ A i:=rfl
  have e:zV A n x i*zV A n x i/dQ A i=- Zr (brd A x n) (i+1) n n - - Zr (brd A x n) i n n:=by
   rw[<- h1,<- h2,h3];grind
  rw[e];exact((o (i+1) Gk).sub (o i Gk)).sm Gj Gj
 rw[f i hi];exact(o i hi).sm Gj Gj
end
section
variable{R:List (List Rat)}{n k:Nat}
end
section
variable{Q:List (List Rat)}{xs:List Rat}{n:Nat}
theorem LeN.mono{i j:Nat}{q:Rat}(h:LeN i q)(hij:i<=j):LeN j q:=⟨Qf h.1 (Zbm hij),Qf h.2 (Zbm hij)⟩
end
theorem Z1v{A V:Option Addr}{n c nv cv:Nat}{rs:List RX}{es:List FX}{w:World}(h:MXL w A n c rs)(hv:FXL w V nv cv es)(hf:Zs6 4 rs)(hn4:n<=4)(hx:∀ e ∈ es,e.few<=4 \/ 64<e.few)(h0:Zh1 rs es=0):Zsl (Zi (qM rs)) rs.length (Zq1 es):=by
 have hE:Zbg rs=0:=by
  by_cases e:Zbg rs=0;exact e;rw[Zpc rfl e]at h0;exact absurd h0 e
 have hb:es.length=rs.length/\Zc0 es=true:=by
  by_cases e:es.length=rs.length/\Zc0 es=true;exact e;rw[Zkq hE e]at h0;exact absurd h0 Gj
 obtain⟨y,O,I⟩:=Zi4 hE;have C:rs.length=n:=h.1;have T:0<n:=by rw[<- C];exact y.facts.1
 have J:=y.small h hf;have hF:=y.fac h O hf (k:=4) (by rcases(show n=1 \/ n=2 \/ n=3 \/ n=4 by omega)with rfl|rfl|rfl|rfl <;> decide);rw[C]at I ⊢;refine Zux Gk hF (λi j _ _=>LeN.mono (J i j) Gj) (λi _=>?_) I;unfold Zq1;rw[Qk];cases e:es[i]? with
 | none=>exact⟨Nat.zero_le _,Zb4 _⟩
 | some f =>
  have o:=List.mem_of_getElem? e;have u:f.fine64=true:=List.all_eq_true.1 hb.2 f o;unfold FX.fine64 at u;rw[Bool.and_eq_true,decide_eq_true_eq]at u
  have h4:f.few<=4:=by
   rcases hx f o with h|h;exact h;omega
  exact LeN.mono (Zrs (hv.2.2.2.1 f o) u.2 h4) Gj
theorem smN_of{A:Option Addr}{n c:Nat}{rs:List RX}{w:World}(h:MXL w A n c rs)(hf:Zs6 4 rs)(h0:Zbg rs=0):∀ a b,SmN 5 5 (Zi (qM rs) a b):=λa b=>by
 have h4:=(Zi4 h0).1.small h hf a b;exact⟨Qj h4.1 (Zdj Gj),Qj h4.2 (Zdj Gj)⟩
def pA(E:Int)(z:Int):Bool:=if E=0 then decide (z<0)else false
theorem Fr.df7{w:World}{na:Bool}{A:Option Addr}{n c:Nat}{nb:Bool}{B:Option Addr}{m d:Nat}{q:Rat}(h:Fr w na A n c nb B m d q):na=(dfQ q).na/\nb=(dfQ q).nb/\Lim w A n c (dfQ q).la/\Lim w B m d (dfQ q).lb:=by
 have h3:=h.2.2.2;rw[Int.natAbs_natCast]at h3;exact⟨h.1.1,h.neg,h.1.2.2,h3⟩
theorem ex_sigV{es:List FX}(h:es.map Zlt=([1000,500]:List Rat).map λq=>(Zqe q,true,q)):(∀ e ∈ es,e.few<=4 \/ 64<e.few)/\Zc0 es=true:=by
 have h3:∀ y ∈ (([1000,500]:List Rat).map λq=>(Zqe q,true,q)),y.1<=4/\y.2.1=true:=GY
 have h4:∀ e ∈ es,(Zlt e).1<=4/\(Zlt e).2.1=true:=λe he=>by
  have h2:Zlt e ∈ es.map Zlt:=List.mem_map_of_mem he;rw[h]at h2;exact h3 _ h2
 refine⟨λe he=>.inl (h4 e he).1,?_⟩;unfold Zc0;rw[List.all_eq_true];intro e he;have h1:=(h4 e he).1;have h2:=(h4 e he).2;unfold FX.fine64;simp only[Zlt]at h1 h2;rw[h2];simp;omega
theorem ex_dist{rs:List RX}{es:List FX}(h:qM rs=exQ)(hl:rs.length=2)(hq:es.map FX.q=[1000,500]):Zo5 rs es=2:=by
 unfold Zo5;rw[h,hl];exact ex_bil (by unfold Zq1;rw[hq];rfl) (by unfold Zq1;rw[hq];rfl)
theorem ex_axE{rs:List RX}(h:Zbg rs=0)(hl:rs.length=2):axE rs=0:=by
 unfold axE;rw[Gw (by simp[h]),Gx hl]
theorem Zyh(w:World):Calls Tryz.prog 13 #[] w λe w'=>e=.returned (.bool true)/\Below w.heap.size w w':=by
 have hmx:=Gt;have g6:∀ l:List Int,(∀ x ∈ l,x.natAbs<=1000000000000)->∀ x ∈ l,I64 x:=λl h x hx=>by have:=h x hx;unfold I64;omega
 have i7:Hid (Below w.heap.size w w):=Za (Qb _ _);go_in;obtain⟨g1,h3⟩:=Gz w.heap.size;obtain⟨V3,k5,q5,k2⟩:=Zaw (w:=w) 2 #[.int .i64 1,.int .i64 0];rw[h3]at q5;have i6:=Gn i7 k2;clear i7 k2;replace q5:=Za q5;obtain⟨g8,h5⟩:=Gz V3.heap.size;obtain⟨k0,i0,b0,f9⟩:=Zaw (w:=V3) 2 #[.int .i64 0,.int .i64 2];rw[h5]at b0;replace q5:=Gm f9 q5;have e5:=Gn i6 f9;clear i6 f9;replace b0:=Za b0;obtain⟨j2,c7⟩:=Gz k0.heap.size;obtain⟨l6,i2,c0,c2⟩:=Zaw (w:=k0) 23 #[.slice (some ⟨g1,0,none⟩) 2 2,.slice (some ⟨g8,0,none⟩) 2 2];rw[c7]at c0;replace q5:=Gm c2 q5;replace b0:=Gm c2 b0;have f7:=Gn e5 c2;clear e5 c2;replace c0:=Za c0;obtain⟨l4,c5⟩:=Gz l6.heap.size;obtain⟨i8,h7,e0,b7⟩:=Zaw (w:=l6) 2 #[.int .i64 1000000000000,.int .i64 1000000000000];rw[c5]at e0;replace q5:=Gm b7 q5;replace b0:=Gm b7 b0;replace c0:=Gm b7 c0;have e8:=Gn f7 b7;clear f7 b7;replace e0:=Za e0
 have b8:MIL i8 (some ⟨j2,0,none⟩) 2 2 (exR (some ⟨g1,0,none⟩) (some ⟨g8,0,none⟩)):=MIL.two7 (a:=⟨(some ⟨g1,0,none⟩),2,2,[1,0]⟩) (b:=⟨(some ⟨g8,0,none⟩),2,2,[0,2]⟩) c0.out (LimI.lit7 (l:=[1,0]) q5.out rfl (g6 _ Gj) Gj) (LimI.lit7 (l:=[0,2]) b0.out rfl (g6 _ Gj) Gj);have c9:LimI i8 (some ⟨l4,0,none⟩) 2 2 exW:=LimI.lit7 (l:=exW) e0.out rfl (g6 _ Gj) Gj;obtain⟨X,e6,-,h4⟩:=Zup (ws:=exW) b8 (ex_mod (k:=2) Gj);have d8:ofQ X 2=exQ:=ex_ofQ (e6 ex_of).1;clear q5 b0 c0 e0;replace b8:=Za b8;replace c9:=Za c9;replace e6:=Za e6;replace h4:=Za h4;replace d8:=Za d8;go_wp2_with fail;(try rw[h3]);(try rw[k5]);(try rw[h5]);(try rw[i0]);(try rw[c7]);(try rw[i2]);(try rw[c5]);(try rw[h7]);clear k5;replace h3:=Za h3;clear i0;replace h5:=Za h5;clear i2;replace c7:=Za c7;clear h7;replace c5:=Za c5;refine(Zps (some ⟨j2,0,none⟩) (some ⟨l4,0,none⟩) 2 2 2 2 (exR (some ⟨g1,0,none⟩) (some ⟨g8,0,none⟩)) exW X i8 b8.out c9.out e6.out h4.out).mono ?_;rintro e m4 ⟨a1,hP⟩;replace b8:=Za (b8.out.below a1);replace c9:=Za (c9.out.below a1);have d5:=Gn e8 a1;clear e8 a1;rcases hP with ⟨-,rt,i4,⟨-,A1,c1,rfl,V⟩|⟨h9,-⟩⟩|⟨h9,-⟩
 case inr=>exact absurd ex_of h9
 case inl.inr =>
  rw[ex_n0,d8.out]at i4;exact absurd (Zqt i4) h9
 rw[ex_n0,d8.out]at V;rw[ex_n0];clear i4 e6 h4 d8 b8 c9;replace V:=Za V;go_wp2_with fail;refine(Zhy m4).mono ?_;rintro e m3 ⟨Aa,rfl,i5,j1⟩;replace V:=Za (V.out.below i5);have f3:=Gn d5 i5;clear d5 i5;obtain⟨rsa,b1,d4,g7⟩:=j1.mxs;have k7:=Za (FacC.of b1 (Zq7 g7) (λ_=>by decide));have j0:Hid (Zs6 4 rsa):=Za (λr hr e he=>(Zq7 g7 r hr e he).imp (λh=>Qf h Gj) id);have k8:=Za (Zqt g7);have k9:Hid (rsa.length=2):=Za b1.1;replace d4:=Za d4;clear j1 g7;replace b1:=Za b1;go_wp2_with fail;refine(Zy9 Aa 2 2 rsa m3 b1.out k7.out (λh0=>smN_of b1.out j0.out h0)).mono ?_;rintro e l0 ⟨a1,hP⟩;replace V:=Za (V.out.below a1);replace b1:=Za (b1.out.below a1);have d7:=Gn f3 a1;clear f3 a1;rcases hP with ⟨-,un,uA,uk,uc,vn,vA,vk,vc,rfl,hu,hv⟩|⟨h9,-⟩
 case inr=>exact absurd (ex_axE k8.out k9.out) h9
 rw[d4.out,ex_ent.1,ex_ent.2.1,ex_ent.2.2,ex_axes.1]at hu;rw[d4.out,ex_ent.1,ex_ent.2.1,ex_ent.2.2,ex_axes.2]at hv;obtain rfl:un=false:=hu.1;obtain rfl:vn=false:=hv.1;have ul:=hu.lim;have vl:=hv.lim;clear hu hv k7 j0 k8 k9 d4 b1;replace ul:=Za ul;replace vl:=Za vl;obtain⟨l7,h6,e4,⟨a3,a2⟩,s2⟩:=Zdl l0 39 #[.bool false,.slice uA uk uc] 39 #[.bool false,.slice vA vk vc];obtain⟨b4,c4⟩:=Gz l0.heap.size;rw[c4]at a3 a2;clear s2;replace V:=Za (V.out.below e4);replace ul:=Za (ul.out.below e4);replace vl:=Za (vl.out.below e4);have d9:=Gn d7 e4;clear d7 e4;replace a3:=Za a3;replace a2:=Za a2;go_wp2_with fail;(try rw[c4]);(try rw[h6]);clear h6;replace c4:=Za c4;refine(Zhy l7).mono ?_;rintro e l5 ⟨Ab,rfl,b9,j5⟩;replace V:=Za (V.out.below b9);replace ul:=Za (ul.out.below b9);replace vl:=Za (vl.out.below b9);replace a3:=Gm b9 a3;replace a2:=Gm b9 a2;have g2:=Gn d9 b9;clear d9 b9;obtain⟨rsb,a6,h1,g9⟩:=j5.mxs;have k3:=Za (FacC.of a6 (Zq7 g9) (λ_=>by decide));have l3:Hid (Zs6 4 rsb):=Za (λr hr e he=>(Zq7 g9 r hr e he).imp (λh=>Qf h Gj) id);have j4:=Za (Zqt g9);have i9:Hid (rsb.length=2):=Za a6.1;replace h1:=Za h1;clear j5 g9;replace a6:=Za a6;obtain⟨k6,c3⟩:=Gz l5.heap.size
 obtain⟨k1,i1,e3,a7⟩:=Zaw (w:=l5) 2 #[.int .i64 1000,.int .i64 500];rw[c3]at e3;replace V:=Za (V.out.below a7);replace ul:=Za (ul.out.below a7);replace vl:=Za (vl.out.below a7);replace a3:=Gm a7 a3;replace a2:=Gm a7 a2;replace a6:=Za (a6.out.below a7);have f4:=Gn g2 a7;clear g2 a7;replace e3:=Za e3;have hL:LimI k1 (some ⟨k6,0,none⟩) 2 2 [1000,500]:=LimI.lit7 (l:=[1000,500]) e3.out rfl (g6 _ Gj) Gj;clear e3;replace hL:=Za hL;go_wp2_with fail;(try rw[c3]);(try rw[i1]);clear i1;replace c3:=Za c3;refine(Zl7 (some ⟨k6,0,none⟩) 2 2 [1000,500] k1 hL.out Gj).mono ?_;rintro e l2 ⟨n1,rfl,b2,j8⟩;replace V:=Za (V.out.below b2);replace ul:=Za (ul.out.below b2);replace vl:=Za (vl.out.below b2);replace a3:=Gm b2 a3;replace a2:=Gm b2 a2;replace a6:=Za (a6.out.below b2);replace hL:=Za (hL.out.below b2);have f0:=Gn f4 b2;clear f4 b2;obtain⟨Al,cl,rfl,h2⟩:=j8.fl;replace h2:FL l2 Al 2 cl [1000,500]:=h2;obtain⟨es,b6,l1,j7⟩:=h2.fxs;obtain⟨g5,i3⟩:=ex_sigV j7;have k4:=Za (Zrl j4.out ⟨b6.1.trans i9.out.symm,i3⟩);have j3:=Za (ex_dist h1.out i9.out l1);replace g5:=Za g5;clear j8 h2 j7 i3 l1;simp only[Qd,Qe,List.length_cons,List.length_nil];clear hL;replace b6:=Za b6;go_wp2_with fail
 refine(Zod Ab Al 2 2 2 cl rsb es l2 a6.out k3.out b6.out (λh0=>Z1v a6.out b6.out l3.out Gj g5.out h0)).mono ?_;rintro e j6 ⟨a1,hP⟩;replace V:=Za (V.out.below a1);replace ul:=Za (ul.out.below a1);replace vl:=Za (vl.out.below a1);replace a3:=Gm a1 a3;replace a2:=Gm a1 a2;replace a6:=Za (a6.out.below a1);replace b6:=Za (b6.out.below a1);have d3:=Gn f0 a1;clear f0 a1;rcases hP with ⟨-,dn,dA,dk,dc,dm,dB,dj,dd,rfl,hF⟩|⟨h9,-⟩
 case inr=>exact absurd k4.out h9
 rw[j3.out]at hF;obtain⟨e1,e2,dl,Y⟩:=hF.df7;subst e1 e2;clear hF k3 l3 j4 i9 h1 k4 j3 g5 a6 b6;replace Y:=Za Y;replace dl:=Za dl;obtain⟨b5,c6⟩:=Gz j6.heap.size;obtain⟨a8,h8,b3,a5⟩:=Zaw (w:=j6) 41 #[.bool (dfQ 2).na,.slice dA dk dc,.bool (dfQ 2).nb,.slice dB dj dd];rw[c6]at b3;replace V:=Za (V.out.below a5);replace ul:=Za (ul.out.below a5);replace vl:=Za (vl.out.below a5);replace a3:=Gm a5 a3;replace a2:=Gm a5 a2;replace dl:=Za (dl.out.below a5);replace Y:=Za (Y.out.below a5);have d6:=Gn d3 a5;clear d3 a5;replace b3:=Za b3;go_wp2_with fail;(try rw[c6]);(try rw[h8]);clear h8;replace c6:=Za c6;have I:a8.cell? ⟨b4,0,none⟩=some (.bool false):=a3.out.cell 0;have C:a8.cell? ⟨b4,1,none⟩=some (.slice uA uk uc):=a3.out.cell 1;have o:a8.cell? ⟨b4+1,0,none⟩=some (.bool false):=a2.out.cell 0;have J:a8.cell? ⟨b4+1,1,none⟩=some (.slice vA vk vc):=a2.out.cell 1;have T:a8.cell? ⟨b5,0,none⟩=some (.bool (dfQ 2).na):=b3.out.cell 0;have O:a8.cell? ⟨b5,1,none⟩=some (.slice dA dk dc):=b3.out.cell 1;have y:a8.cell? ⟨b5,2,none⟩=some (.bool (dfQ 2).nb):=b3.out.cell 2;have u:a8.cell? ⟨b5,3,none⟩=some (.slice dB dj dd):=b3.out.cell 3;clear a3 a2 b3;have a0:Below a8.heap.size a8 a8.drew:=Zf (Qb _ _) 1;replace V:=Za (V.out.below a0)
 replace ul:=Za (ul.out.below a0);replace vl:=Za (vl.out.below a0);replace dl:=Za (dl.out.below a0);replace Y:=Za (Y.out.below a0);have g0:=Gn d6 a0;clear d6;replace I:=Zb a0 I;replace C:=Zb a0 C;replace o:=Zb a0 o;replace J:=Zb a0 J;replace T:=Zb a0 T;replace O:=Zb a0 O;replace y:=Zb a0 y;replace u:=Zb a0 u;clear a0;refine Zx [] (λwx=>(wx.cell? ⟨b4,0,none⟩=some (.bool false))/\(wx.cell? ⟨b4,1,none⟩=some (.slice uA uk uc))/\(wx.cell? ⟨b4+1,0,none⟩=some (.bool false))/\(wx.cell? ⟨b4+1,1,none⟩=some (.slice vA vk vc))/\(wx.cell? ⟨b5,0,none⟩=some (.bool (dfQ 2).na))/\(wx.cell? ⟨b5,1,none⟩=some (.slice dA dk dc))/\(wx.cell? ⟨b5,2,none⟩=some (.bool (dfQ 2).nb))/\(wx.cell? ⟨b5,3,none⟩=some (.slice dB dj dd))) hmx ⟨I,C,o,J,T,O,y,u⟩ (λ_=>?_);refine Zj5 4 [0,1,2,3] rfl Gi ⟨I,C,o,J,T,O,y,u⟩ ?_
 iterate 4 (refine tkA ?_;try simp only[Qa,Zg7,Zgl,Zg1,Gr,Gq,Gp])
 refine tk0 ?_;refine wpAnyL_o 4 λK hK=>?_
 (try rw[Gx Gi]);go_simp;refine(Zhy a8.drew).mono ?_;rintro e n0 ⟨Ac,rfl,a4,c8⟩;replace V:=Za (V.out.below a4);replace ul:=Za (ul.out.below a4);replace vl:=Za (vl.out.below a4);replace dl:=Za (dl.out.below a4);replace Y:=Za (Y.out.below a4);have f6:=Gn g0 a4;clear g0;replace I:=Zb a4 I;replace C:=Zb a4 C;replace o:=Zb a4 o;replace J:=Zb a4 J;replace T:=Zb a4 T;replace O:=Zb a4 O;replace y:=Zb a4 y;replace u:=Zb a4 u;clear a4;replace c8:=Za c8;refine hK.out _ _ (λ_=>⟨I,C,o,J,T,O,y,u⟩) ?_;clear hK K
 try simp only[Qa,Zg7,Zgl,Zg1,Gr,Gq,Gp]
 refine wpAnyL_o 5 λK hK=>?_
 (try rw[Gx Gi]);go_simp;refine(Zw3 A1 Ac 2 c1 2 _ n0 V.out.xm c8.out.xm).mono ?_;rintro e m0 ⟨rfl,f⟩;replace V:=Za (V.out.below f);replace ul:=Za (ul.out.below f);replace vl:=Za (vl.out.below f);replace dl:=Za (dl.out.below f);replace Y:=Za (Y.out.below f);replace c8:=Za (c8.out.below f);have f5:=Gn f6 f;clear f6;replace I:=Zb f I;replace C:=Zb f C;replace o:=Zb f o;replace J:=Zb f J;replace T:=Zb f T;replace O:=Zb f O;replace y:=Zb f y;replace u:=Zb f u;clear f;refine hK.out _ _ (λ_=>⟨I,C,o,J,T,O,y,u⟩) ?_;clear hK K
 try simp only[Qa,Zg7,Zgl,Zg1,Gr,Gq,Gp]
 clear V c8;refine Zj5 7 [6,7,8,9,10,11,12] rfl Gi ⟨I,C,o,J,T,O,y,u⟩ ?_
 iterate 7 (refine tkA ?_;try simp only[Qa,Zg7,Zgl,Zg1,Gr,Gq,Gp])
 refine tk0 ?_;refine wpAnyL_o 13 λK hK=>?_
 (try rw[Gx Gi]);go_simp;refine(Zdi 1000000 m0 Gj Gj).mono ?_;rintro e m6 ⟨U,nn,l8,nuk,nuc,rfl,hn⟩;replace ul:=Za (ul.out.below U);replace vl:=Za (vl.out.below U);replace dl:=Za (dl.out.below U);replace Y:=Za (Y.out.below U);have d0:=Gn f5 U;clear f5;replace I:=Zb U I;replace C:=Zb U C;replace o:=Zb U o;replace J:=Zb U J;replace T:=Zb U T;replace O:=Zb U O;replace y:=Zb U y;replace u:=Zb U u;clear U;obtain rfl:nn=false:=hn.1;have nul:=Za hn.lim;clear hn;refine hK.out _ _ (λ_=>⟨I,C,o,J,T,O,y,u⟩) ?_;clear hK K
 try simp only[Qa,Zg7,Zgl,Zg1,Gr,Gq,Gp]
 refine wpAnyL_o 14 λK hK=>?_
 (try rw[Gx Gi]);go_simp;refine(Zd0 false false uA l8 uk uc nuk nuc _ _ m6 ul.out nul.out).mono ?_;rintro e m7 ⟨he,f⟩;replace ul:=Za (ul.out.below f);replace vl:=Za (vl.out.below f);replace dl:=Za (dl.out.below f);replace Y:=Za (Y.out.below f);replace nul:=Za (nul.out.below f);have f8:=Gn d0 f;clear d0;replace I:=Zb f I;replace C:=Zb f C;replace o:=Zb f o;replace J:=Zb f J;replace T:=Zb f T;replace O:=Zb f O;replace y:=Zb f y;replace u:=Zb f u;clear f;rw[Zgt]at he;subst he;refine hK.out _ _ (λ_=>⟨I,C,o,J,T,O,y,u⟩) ?_;clear hK K
 try simp only[Qa,Zg7,Zgl,Zg1,Gr,Gq,Gp]
 clear nul ul;refine Zj5 3 [15,16,17] rfl Gi ⟨I,C,o,J,T,O,y,u⟩ ?_
 iterate 3 (refine tkA ?_;try simp only[Qa,Zg7,Zgl,Zg1,Gr,Gq,Gp])
 refine tk0 ?_;refine wpAnyL_o 18 λK hK=>?_
 (try rw[Gx Gi]);go_simp;refine(Zdi 250000 m7 Gj Gj).mono ?_;rintro e m5 ⟨U,nn,m9,nvk,nvc,rfl,hn⟩;replace vl:=Za (vl.out.below U);replace dl:=Za (dl.out.below U);replace Y:=Za (Y.out.below U);have e9:=Gn f8 U;clear f8;replace I:=Zb U I;replace C:=Zb U C;replace o:=Zb U o;replace J:=Zb U J;replace T:=Zb U T;replace O:=Zb U O;replace y:=Zb U y;replace u:=Zb U u;clear U;obtain rfl:nn=false:=hn.1;have nvl:=Za hn.lim;clear hn;refine hK.out _ _ (λ_=>⟨I,C,o,J,T,O,y,u⟩) ?_;clear hK K
 try simp only[Qa,Zg7,Zgl,Zg1,Gr,Gq,Gp]
 refine wpAnyL_o 19 λK hK=>?_
 (try rw[Gx Gi]);go_simp;refine(Zd0 false false vA m9 vk vc nvk nvc _ _ m5 vl.out nvl.out).mono ?_;rintro e l9 ⟨he,f⟩;replace vl:=Za (vl.out.below f);replace dl:=Za (dl.out.below f);replace Y:=Za (Y.out.below f);replace nvl:=Za (nvl.out.below f);have e7:=Gn e9 f;clear e9;replace I:=Zb f I;replace C:=Zb f C;replace o:=Zb f o;replace J:=Zb f J;replace T:=Zb f T;replace O:=Zb f O;replace y:=Zb f y;replace u:=Zb f u;clear f;rw[Zgt]at he;subst he;refine hK.out _ _ (λ_=>⟨I,C,o,J,T,O,y,u⟩) ?_;clear hK K
 try simp only[Qa,Zg7,Zgl,Zg1,Gr,Gq,Gp]
 clear nvl vl;refine Zj5 7 [20,21,22,23,24,25,26] rfl Gi ⟨I,C,o,J,T,O,y,u⟩ ?_
 iterate 7 (refine tkA ?_;try simp only[Qa,Zg7,Zgl,Zg1,Gr,Gq,Gp])
 refine tk0 ?_;refine wpAnyL_o 27 λK hK=>?_
 (try rw[Gx Gi]);go_simp;refine(Zhn 2 1 l9 Gj Gj Gj Gj).mono ?_;rintro e m8 ⟨a9,pn,pA,pk,pc,pm,pB,pj,pd,rfl,hp⟩;replace dl:=Za (dl.out.below a9);replace Y:=Za (Y.out.below a9);have g4:=Gn e7 a9;clear e7;replace I:=Zb a9 I;replace C:=Zb a9 C;replace o:=Zb a9 o;replace J:=Zb a9 J;replace T:=Zb a9 T;replace O:=Zb a9 O;replace y:=Zb a9 y;replace u:=Zb a9 u;clear a9;rw[show Rat.divInt 2 1=2 by decide +kernel]at hp;obtain⟨e1,e2,m1,m2⟩:=hp.df7;subst e1 e2;clear hp;replace m1:=Za m1;replace m2:=Za m2;refine hK.out _ _ (λ_=>⟨I,C,o,J,T,O,y,u⟩) ?_;clear hK K
 try simp only[Qa,Zg7,Zgl,Zg1,Gr,Gq,Gp]
 refine wpAnyL_o 28 λK hK=>?_
 (try rw[Gx Gi]);go_simp;refine(Zl4 (dfQ 2).na (dfQ 2).nb dA dB pA pB dk dc dj dd pk pc pj pd (dfQ 2).la (dfQ 2).lb m8 dl.out Y.out m1.out m2.out).mono ?_;rintro e n2 ⟨rfl,f⟩;replace dl:=Za (dl.out.below f);replace Y:=Za (Y.out.below f);replace m1:=Za (m1.out.below f);replace m2:=Za (m2.out.below f);have j9:=Gn g4 f;clear g4;replace I:=Zb f I;replace C:=Zb f C;replace o:=Zb f o;replace J:=Zb f J;replace T:=Zb f T;replace O:=Zb f O;replace y:=Zb f y;replace u:=Zb f u;clear f;refine hK.out _ _ (λ_=>⟨I,C,o,J,T,O,y,u⟩) ?_;clear hK K
 try simp only[Qa,Zg7,Zgl,Zg1,Gr,Gq,Gp]
 refine Zj5 1 [29] rfl Gi ⟨I,C,o,J,T,O,y,u⟩ ?_
 (refine tkA ?_;try simp only[Qa,Zg7,Zgl,Zg1,Gr,Gq,Gp])
 refine tk0 ?_;refine Zgm 1 [30] rfl Gi ⟨I,C,o,J,T,O,y,u⟩ ?_
 (refine tkA ?_;try simp only[Qa,Zg7,Zgl,Zg1,Gr,Gq,Gp])
 refine tk0 ?_;refine wpAnyL_fin ?_;clear I C o J T O y u;go_wp2_with fail;go_ret;exact⟨rfl,j9.out⟩
theorem Ztr(xn:Bool)(xA:Option Addr)(xk xc:Nat)(xm:Bool)(xB:Option Addr)(xj xd:Nat)(yn:Bool)(yA:Option Addr)(yk yc:Nat)(ym:Bool)(yB:Option Addr)(yj yd:Nat)(a b:Rat)(w:World)(ha:Fr w xn xA xk xc xm xB xj xd a)(hb:Fr w yn yA yk yc ym yB yj yd b)(sa:Sm a)(sb:Sm b) :
    Calls Tryz.prog 22 #[.agg #[.bool xn,.slice xA xk xc,.bool xm,.slice xB xj xd],.agg #[.bool yn,.slice yA yk yc,.bool ym,.slice yB yj yd]] w λe w'=>e=.returned (.bool (decide (a<=b)))/\Below w.heap.size w w':=by
 obtain⟨W0,u,f,⟨q0,q1⟩,s0⟩:=Zdl w 41 #[.bool xn,.slice xA xk xc,.bool xm,.slice xB xj xd] 41 #[.bool yn,.slice yA yk yc,.bool ym,.slice yB yj yd];obtain⟨a0,a1,a2,a3,-⟩:=q0.four;obtain⟨b0,b1,b2,b3,-⟩:=q1.four;have hA:=ha.below f;have hD:=hb.below f;go_in;go_wp2_with fail;(try rw[u]);refine(Zzx xn xm yn ym xA xB yA yB xk xc xj xd yk yc yj yd a b W0 hA hD sa sb).mono ?_;rintro e w1 ⟨rfl,C⟩;have o:=Gs f C
 have y:decide (Zoj a b<=0)=decide (a<=b):=by
  unfold Zoj;by_cases h1:a<b;rw[Gx h1,Gv (Rat.le_of_lt h1)];rfl;rw[Gw h1];by_cases h2:b<a
  ·have h3:¬ a<=b:=λh=>absurd h2 (Rat.not_lt.2 h)
   rw[Gx h2,Gu h3];rfl
  rw[Gw h2,Gv (Rat.not_lt.1 h2)];rfl
 clear a0 a1 a2 a3 b0 b1 b2 b3 q0 q1 hA hD;go_wp2_with fail;go_ret;exact⟨by rw[<- y];rfl,o⟩
theorem Zvs(xn:Bool)(xA:Option Addr)(xk xc:Nat)(xm:Bool)(xB:Option Addr)(xj xd:Nat)(yn:Bool)(yA:Option Addr)(yk yc:Nat)(ym:Bool)(yB:Option Addr)(yj yd:Nat)(a b:Rat)(w:World)(ha:Fr w xn xA xk xc xm xB xj xd a)(hb:Fr w yn yA yk yc ym yB yj yd b)(sa:Sm a)(sb:Sm b) :
    Calls Tryz.prog 19 #[.agg #[.bool xn,.slice xA xk xc,.bool xm,.slice xB xj xd],.agg #[.bool yn,.slice yA yk yc,.bool ym,.slice yB yj yd]] w (Zdn w (a+b)):=by
 obtain⟨W0,J,h,⟨q0,q1,q2⟩,s0⟩:=Zb1 w 41 #[.bool xn,.slice xA xk xc,.bool xm,.slice xB xj xd] 41 #[.bool yn,.slice yA yk yc,.bool ym,.slice yB yj yd] 41 #[.bool false,.slice none 0 0,.bool false,.slice none 0 0];obtain⟨a0,a1,a2,a3,-⟩:=q0.four;obtain⟨b0,b1,b2,b3,-⟩:=q1.four;obtain⟨gR,y⟩:=Gz (w.heap.size+1+1);rw[y]at q2;have hA:=ha.below h;have hD:=hb.below h;go_in;go_wp2_with fail;(try rw[J]);refine(Zzn xn xm yn ym xA xB yA yB xk xc xj xd yk yc yj yd a b W0 hA hD sa sb).mono ?_;rintro e w1 ⟨ae,pn,pA,pk,pc,pm,pB,pj,pd,rfl,hf⟩;replace q2:=Zc ae q2;clear a0 a1 a2 a3 b0 b1 b2 b3 q0 q1 hA hD;obtain⟨V1,V,o,t0,tz⟩:=Zak w1 41 #[.bool false,.slice none 0 0,.bool false,.slice none 0 0];have Y:=Zc o q2;obtain⟨gn,u⟩:=Gz w1.heap.size
 have U:gR<gn:=by
  have h1:=ae.size;omega
 rw[u]at t0;obtain⟨υ0,υ1,υ2,υ3,v0,v1,v2,v3⟩:=t0.four;obtain⟨V2,T,p2,I,s2⟩:=Zav pn pA pk pc pm pB pj pd t0;have aD:Below w1.heap.size w1 V2:=o.trans (I.to_below (λk e=>by omega) o.size);have f:=Zc aD q2;have C:=hf.below aD;obtain⟨o0,o1,o2,o3,-⟩:=p2.four;obtain⟨c0,c1,c2,c3,z0,z1,z2,z3⟩:=f.four;obtain⟨W5,O,q5,aL,s5⟩:=Zav pn pA pk pc pm pB pj pd f;have hr:=C.keptN aL f (Za9 _ _ _ _ _ _ _ _);have bM:=h;replace aD:=Za aD;replace hr:=Za hr;clear hf C;go_wp2_with fail;(try rw[u]);(try rw[T]);(try rw[y]);go_wp2_with fail;(try rw[O]);obtain⟨r0,r1,r2,r3,-⟩:=q5.four;refine bodyPost_ret (v:=.agg #[.bool pn,.slice pA pk pc,.bool pm,.slice pB pj pd]) (by simp[results,Tryz.results19,go_sem,r0,r1,r2,r3]) rfl ?_;exact Ef
theorem Zs9(xn:Bool)(xA:Option Addr)(xk xc:Nat)(xm:Bool)(xB:Option Addr)(xj xd:Nat)(yn:Bool)(yA:Option Addr)(yk yc:Nat)(ym:Bool)(yB:Option Addr)(yj yd:Nat)(a b:Rat)(w:World)(ha:Fr w xn xA xk xc xm xB xj xd a)(hb:Fr w yn yA yk yc ym yB yj yd b)(sa:Sm a)(sb:Sm b) :
    Calls Tryz.prog 20 #[.agg #[.bool xn,.slice xA xk xc,.bool xm,.slice xB xj xd],.agg #[.bool yn,.slice yA yk yc,.bool ym,.slice yB yj yd]] w (Zdn w (a*b)):=by
 obtain⟨W0,J,h,⟨q0,q1,q2⟩,s0⟩:=Zb1 w 41 #[.bool xn,.slice xA xk xc,.bool xm,.slice xB xj xd] 41 #[.bool yn,.slice yA yk yc,.bool ym,.slice yB yj yd] 41 #[.bool false,.slice none 0 0,.bool false,.slice none 0 0];obtain⟨a0,a1,a2,a3,-⟩:=q0.four;obtain⟨b0,b1,b2,b3,-⟩:=q1.four;obtain⟨gR,y⟩:=Gz (w.heap.size+1+1);rw[y]at q2;have hA:=ha.below h;have hD:=hb.below h;go_in;go_wp2_with fail;(try rw[J]);refine(Zom xn xm yn ym xA xB yA yB xk xc xj xd yk yc yj yd a b W0 hA hD sa sb).mono ?_;rintro e w1 ⟨ae,pn,pA,pk,pc,pm,pB,pj,pd,rfl,hf⟩;replace q2:=Zc ae q2;clear a0 a1 a2 a3 b0 b1 b2 b3 q0 q1 hA hD;obtain⟨V1,V,o,t0,tz⟩:=Zak w1 41 #[.bool false,.slice none 0 0,.bool false,.slice none 0 0];have Y:=Zc o q2;obtain⟨gn,u⟩:=Gz w1.heap.size
 have U:gR<gn:=by
  have h1:=ae.size;omega
 rw[u]at t0;obtain⟨υ0,υ1,υ2,υ3,v0,v1,v2,v3⟩:=t0.four;obtain⟨V2,T,p2,I,s2⟩:=Zav pn pA pk pc pm pB pj pd t0;have aD:Below w1.heap.size w1 V2:=o.trans (I.to_below (λk e=>by omega) o.size);have f:=Zc aD q2;have C:=hf.below aD;obtain⟨o0,o1,o2,o3,-⟩:=p2.four;obtain⟨c0,c1,c2,c3,z0,z1,z2,z3⟩:=f.four;obtain⟨W5,O,q5,aL,s5⟩:=Zav pn pA pk pc pm pB pj pd f;have hr:=C.keptN aL f (Za9 _ _ _ _ _ _ _ _);have bM:=h;replace aD:=Za aD;replace hr:=Za hr;clear hf C;go_wp2_with fail;(try rw[u]);(try rw[T]);(try rw[y]);go_wp2_with fail;(try rw[O]);obtain⟨r0,r1,r2,r3,-⟩:=q5.four;refine bodyPost_ret (v:=.agg #[.bool pn,.slice pA pk pc,.bool pm,.slice pB pj pd]) (by simp[results,Tryz.results20,go_sem,r0,r1,r2,r3]) rfl ?_;exact Ef
