/- The reference's Residual and Sum; the law's moderate. The -/
import Derived.Test.YtigdclhagmnopaaGreatZq42
set_option maxRecDepth 100000
set_option maxHeartbeats 8000000
set_option linter.unusedSimpArgs false
set_option linter.unusedVariables false
namespace Go.Proofs.YtigdclhagmnopaaGreat
open Go.RowKit
attribute [local go_sem] Zh
def BoolB (w:World) (e:Ending) (w':World):Prop:=∃ b:Bool,e=.returned (.bool b)/\Below w.heap.size w w'
def Zie (pre:Nat) (q0:Rat) (G:Nat->Value->World->Prop) (i:Nat) (v:Value) (w:World):Prop:=
 if i=pre then ∃ na A n c nb B m d,v=.agg #[.bool na,.slice A n c,.bool nb,.slice B m d]/\Fr w na A n c nb B m d q0 else G i v w
theorem Zrc {pre:Nat} {q0:Rat} {G:Nat->Value->World->Prop} (hG:∀ i v w w',Below w.heap.size w w'->G i v w->G i v w') {i:Nat} {v:Value} {w w':World} (hb:Below w.heap.size w w') (h:Zie pre q0 G i v w):Zie pre q0 G i v w':=by
 unfold Zie at h ⊢
 split at h
 ·rename_i h1;rw [if_pos h1]
  obtain ⟨na,A,n,c,nb,B,m,d,e,hf⟩:=h;exact ⟨na,A,n,c,nb,B,m,d,e,hf.below hb⟩
 ·rename_i h1;rw [if_neg h1]
  exact hG _ _ _ _ hb h
structure SumP (rs:List RI) (rr ws:List Int) (x:Nat->Rat) (n m:Nat):Prop where
 xk:∀ k,k < m->Sm (x k)
 f:∀ r k,r < n->k < m->Sm (x k * (Zv rs k r:Rat))
 res:∀ r t,r < n->t <= m->Sm (Zaz rs rr x t r)
 sq:∀ r,r < n->Sm (Zaz rs rr x m r * Zaz rs rr x m r)
 wsq:∀ r,r < n->Sm (Zaz rs rr x m r * Zaz rs rr x m r * (Z5 ws r:Rat))
 sum:∀ t,t <= n->Sm (Zby rs rr ws x m t)
theorem LeastP.toSum {rs:List RI} {rr ws:List Int} {x:Nat->Rat} {n m:Nat} (h:LeastP rs rr ws x n m):SumP rs rr ws x n m:=
 ⟨h.xk,fun r k hr hk=>by rw [Rat.mul_comm];exact h.f r k hr hk,h.res,h.sq,h.wsq,h.sum⟩
theorem Zi6 (A B:Option Addr) (n c d m cx r:Nat) (X:Option Addr) (rs:List RI) (rr:List Int) (xs:List Rat) (w:World) (h:MIL w A n c rs) (hr:LimI w B n d rr) (hx:FL w X m cx xs) (hrow:∀ q ∈ rs,q.n=m) (hin:r < n) (hm0:0 < m) (hm9:m <= 900)
    (hs:(∀ k,k < m->Sm ((fun k=>xs[k]?.getD 0) k))/\(∀ k,k < m->Sm ((fun k=>xs[k]?.getD 0) k * (Zv rs k r:Rat)))/\∀ t,t <= m->Sm (Zaz rs rr (fun k=>xs[k]?.getD 0) t r)) :
    Calls Tryz.prog 44 #[.slice A n c,.slice B n d,.slice X m cx,.int .i64 r] w (Zff w (Zaz rs rr (fun k=>xs[k]?.getD 0) m r)):=by
 have hmx:Tryz.prog.follows .mixedOrders=true:=by kernel_rfl
 obtain ⟨W0,hW0,hB0,q0,s0⟩:=Zbr w 45 #[.bool false,.slice none 0 0,.bool false,.slice none 0 0];obtain ⟨gR,hgR⟩:∃ g,w.heap.size=g:=⟨_,rfl⟩;rw [hgR] at q0;have hRr:=hr.below hB0;have hi6:=Zco hRr.2.2.2.1 r;obtain ⟨gB,oB,rfl,hcB⟩:=hRr.2.2.2.2 (by omega);have kB:=hcB r hin;obtain ⟨gA,oA,q,eA,hq,kA,hL⟩:=(h.below hB0).at_ hin;subst eA;have hqn:=hrow q (List.mem_of_getElem? hq);rw [hqn] at hL kA
 have hql:∀ t,q.l[t]?.getD 0=Zv rs t r:=fun t=>(Zkr hq).symm
 have hcI:Hid (∀ t,I64 (Zv rs t r)):=Za (fun t=>by rw [<- hql t];exact Zco hL.2.2.2.1 t)
 have hLc:Hid (∀ W,Below W0.heap.size W0 W->∀ t,t < m->∃ g o,q.A=some ⟨g,o,none⟩/\W.cell? ⟨g,o+t,none⟩=some (.int .i64 (Zv rs t r))):=Za (fun W hW t ht=>by
  obtain ⟨g,o,e,hc⟩:=(hL.below hW).2.2.2.2 (by omega)
  exact ⟨g,o,e,by rw [<- hql t];exact hc t ht⟩)
 have hqc:=hL.2.2.1;unfold maxLen at hqc;have hX0:=Za (hx.below hB0);have hnc:=h.2.2.1;have hmc:=hx.cap;have hnd:=hr.2.2.1;unfold maxLen at hnc hmc hnd
 have hn9:(n:Int) <= 9223372036854775807:=by have:=h.2.1;omega
 have b0:(r:Int) < (n:Int):=by omega
 obtain ⟨xf,hxf⟩:∃ f:Nat->Rat,(fun k=>xs[k]?.getD 0)=f:=⟨_,rfl⟩;have hxk:Hid (∀ k,xs[k]?.getD 0=xf k):=Za (fun k=>by rw [<- hxf]);have hmx2:=hmc.1;rw [hxf] at hs;replace hs:=Za hs;replace hxf:=Za hxf
 change (W0.cell? _=some (.int .i64 (Z5 rr r))) at kB
 change I64 (Z5 rr r) at hi6
 have hi6':=hi6;unfold I64 at hi6';replace q0:=Za q0;clear hcB hRr h hr hx hL hql hq hmc;go_enter Tryz.func44,Tryz.ntmps44;go_wp2_with fail;(try rw [hW0]);(try rw [hgR]);rw [hgR] at hB0 s0;replace hgR:=Za hgR;refine (Zhq (Z5 rr r) W0 (by omega) (by omega)).mono ?_;rintro e w1 ⟨hb1,pn,pA,pk,pc,pm,pB,pj,pd,rfl,hf1⟩;obtain ⟨gd,hgd⟩:∃ g,w1.heap.size=g:=⟨_,rfl⟩;obtain ⟨V1,hV1,qd,hbV1⟩:=Za2 (w:=w1) 45 #[.bool pn,.slice pA pk pc,.bool pm,.slice pB pj pd];rw [hgd] at qd;have hv1:VarF V1 gd (Zaz rs rr xf 0 r):=⟨_,_,_,_,_,_,_,_,qd,by rw [Zm4];exact hf1.below hbV1⟩;have hb01:Below W0.heap.size W0 V1:=hb1.trans (hbV1.mono hb1.size)
 have hgd2:W0.heap.size <= gd:=by rw [<- hgd];exact hb1.size
 replace hv1:=Za hv1;replace hb01:=Za hb01;clear hf1 qd hb1 hbV1 hi6';go_wp2_with fail;(try rw [hgd]);(try rw [hV1]);clear hV1 hgd kB hW0
 go_loopg [10] m (fun k kv wr=>∃ t:Nat,t+k=m/\kv=.int .i64 t/\VarF wr gd (Zaz rs rr xf t r)/\Kept (fun g=>g=gd) V1 wr)
 case atStart=>exact ⟨0,by omega,rfl,hv1.out,Kept.refl _ _⟩
 case round =>
  obtain ⟨t,htk,rfl,hvt,hKt⟩:=hrel;have hbq:Below W0.heap.size W0 wr:=hb01.out.trans (hKt.to_below (fun k e=>by omega) hb01.out.size);obtain ⟨sn,sA,sk,sc,sm,sB,sj,sd,qs,hfs⟩:=hvt
  cases gk with
  | zero =>
   obtain rfl:t=m:=by omega
   have t1:decide ((t:Int) < (t:Int))=false:=by simp
   obtain ⟨c0,c1',c2,c3,-⟩:=qs.four;have q1:=Zc hbq q0.out;obtain ⟨z0,z1,z2,z3,y0,y1,y2,y3⟩:=q1.four;obtain ⟨W9,hW9,q9,hK9,s9⟩:=Zbs sn sA sk sc sm sB sj sd q1;have hs9:=Za (hfs.keptV hK9 q1 (Z2 _ _ _ _ _ _ _ _))
   have hBr:Below w.heap.size w W9:=by
    rw [hgR.out];exact (hB0.trans (hbq.mono (by omega))).trans (hK9.to_below (fun k e=>by omega) (by have:=hbq.size;omega))
   obtain ⟨r0,r1,r2,r3,-⟩:=q9.four;clear hfs;go_wp2_with fail;(try rw [hW9]);refine bodyPost_ret (v:=.agg #[.bool sn,.slice sA sk sc,.bool sm,.slice sB sj sd]) (by simp [results,Tryz.results44,go_sem,r0,r1,r2,r3]) rfl ?_;rw [hxf.out];exact ⟨hBr,_,_,_,_,_,_,_,_,rfl,hs9.out⟩
  | succ k2 =>
   obtain rfl:k2=m - (t+1):=by omega
   have htm:t < m:=by omega
   have t1:decide ((t:Int) < (m:Int))=true:=decide_eq_true (by omega)
   have b1:(t:Int) < (m:Int):=by omega
   have k1:=Zb hbq kA;obtain ⟨gq,oq,eq,kq⟩:=hLc.out wr hbq t htm;rw [eq] at k1;obtain ⟨gx,ox,xn,xA,xk,xc,xm,xB,xj,xd,ex,hX4,hfx⟩:=(hX0.out.below hbq).at_ htm;subst ex;obtain ⟨x0,x1,x2,x3⟩:=hX4;rw [hxk.out t] at hfx;have ha:=hcI.out t;have ha':=ha;unfold I64 at ha';have sx:=hs.out.1 t htm;have sxy:=Za (hs.out.2.1 t htm);replace qs:=Za qs;replace hfs:=Za hfs;replace hKt:=Za hKt;clear eq;go_wp2_with fail;have hSv1:Hid (∀ wx,Below wr.heap.size wr wx->wx.cell? ⟨gA,oA+r,none⟩=some (.slice (some ⟨gq,oq,none⟩) m q.c)/\wx.cell? ⟨gq,oq+t,none⟩=some (.int .i64 (Zv rs t r))/\wx.cell? ⟨gx,ox+t * 4,none⟩=some (.bool xn)/\wx.cell? ⟨gx,ox+t * 4+1,none⟩=some (.slice xA xk xc)/\wx.cell? ⟨gx,ox+t * 4+2,none⟩=some (.bool xm)/\wx.cell? ⟨gx,ox+t * 4+3,none⟩=some (.slice xB xj xd)):=Za (fun wx hbx=>⟨Zb hbx k1,Zb hbx kq,Zb hbx x0,Zb hbx x1,Zb hbx x2,Zb hbx x3⟩);have hr1:Below wr.heap.size wr wr.drew:=Zf (Below.refl _ _) 1;refine wp_heldS [] hmx hSv1 hr1 (fun hxs1=>?_);refine Zi4 11 [0,1,2,3,4,5,6,7,8,9,10] rfl (by kernel_rfl) (hSv1.out _ hr1) ?_
   iterate 11 (refine tk1 (v:=?_) rfl (Or.inl ⟨by kernel_rfl,?_⟩) ?_;rotate_left;(· intro W2 hSw;(try dsimp only at hSw);go_simp;try with_reducible rfl);try simp only [Act.put,Zgj,Zfx,Zge,putG_a,putG_s,putG_z])
   refine tk0 ?_;refine Zbm [(11,36),(12,37),(13,24),(14,38),(16,11)] (fun i=>match i with | 13=>[15] | _=>[]) [(11,36),(12,37),(13,24),(15,39),(14,38),(16,11)] (Zie 11 ((Zv rs t r:Int):Rat) (Zaa wr.heap.size (xf t * (Zv rs t r:Rat)) 12 13 14 15 16 15)) 2 (by kernel_rfl) (fun _ _ _ _ _ hb h=>Zrc (fun _ _ _ _ hb h=>Ze0 hb h) hb h) (fun wx h=>hSv1.out _ (hr1.trans (h.mono hr1.size))) ?hop1 ?hfin1
   case hop1 =>
    intro p hp;simp only [List.mem_cons,List.not_mem_nil,or_false] at hp;simp only [List.map_cons,List.map_nil,Zaw,Act.put,Zgj,Zfx,Zge]
    rcases hp with rfl | rfl | rfl | rfl | rfl
    ·intro ν wx hb hP
     have hbx:=hr1.trans (hb.mono hr1.size);refine Zl (i:=11) rfl (fun K hK=>?_);go_simp;refine (Zhq (Zv rs t r) wx (by omega) (by omega)).mono ?_;rintro e w5 ⟨hb5,na5,A5,k5,c5,nb5,B5,m5,d5,rfl,hf5⟩;exact hK.out _ _ ⟨_,rfl,(by simp only [Zie,if_true];exact ⟨_,_,_,_,_,_,_,_,rfl,hf5⟩),hb5,trivial⟩
    ·intro ν wx hb hP
     have hbx:=hr1.trans (hb.mono hr1.size);have h9:=hP (11,36) (by simp) (by kernel_rfl);simp only [Zie,if_true] at h9;obtain ⟨un,uA,uk,uc,um,uB,uj,ud,hνu,hfu⟩:=h9;rw [hνu];refine Zl (i:=12) rfl (fun K hK=>?_);go_simp;refine (Zfb xn xm un um xA xB uA uB xk xc xj xd uk uc uj ud _ _ wx (hfx.below hbx) hfu sx (Zj3 ha)).mono ?_;rintro e w5 ⟨hb5,na5,A5,k5,c5,nb5,B5,m5,d5,rfl,hf5⟩;exact hK.out _ _ ⟨_,rfl,(by simp only [Zie,Zaa];exact ⟨_,_,_,_,_,_,_,_,rfl,hf5⟩),hb5,trivial⟩
    ·intro ν wx hb hP
     have h0:=hP (12,37) (by simp) (by kernel_rfl);simp only [Zie,Zaa] at h0;obtain ⟨na5,A5,k5,c5,nb5,B5,m5,d5,hν,hf5⟩:=h0;rw [hν];refine Zl (i:=13) rfl (fun K hK=>?_);go_simp;refine hK.out _ _ ⟨_,rfl,(by simp only [Zie,Zaa];exact ⟨_,_,_,_,_,_,_,_,rfl,hf5⟩),Below.refl _ _,?_⟩;exact ⟨_,.int .i64 0,rfl,Or.inl ⟨by kernel_rfl,fun W2 _=>by go_simp⟩,by simp [Zie,Zaa],trivial⟩
    ·intro ν wx hb hP
     have h0:=hP (13,24) (by simp) (by kernel_rfl);simp only [Zie,Zaa] at h0;obtain ⟨na5,A5,k5,c5,nb5,B5,m5,d5,hν,hf5⟩:=h0;rw [hν];refine Zl (i:=14) rfl (fun K hK=>?_);go_simp;exact hK.out _ _ ⟨_,rfl,(by simp only [Zie,Zaa];exact ⟨_,_,_,_,_,_,_,_,rfl,hf5⟩),Below.refl _ _,trivial⟩
    ·intro ν wx hb hP
     refine Zl (i:=16) rfl (fun K hK=>?_);go_simp;exact hK.out _ _ ⟨_,rfl,(by simp only [Zie,Zaa];exact ⟨_,rfl,hb.size,Blk.new _ _ _⟩),(Below.refl _ _).alloc (Nat.le_refl _) _,trivial⟩
   case hfin1 =>
    intro ν wx hb hP;have h0:=hP (12,37) (by simp);have h1:=hP (13,24) (by simp);have h2:=hP (14,38) (by simp);have h3:=hP (15,39) (by simp);have h4:=hP (16,11) (by simp);have h9:=hP (11,36) (by simp);simp only [Zie,Zaa] at h0 h1 h2 h4 h9;obtain ⟨a0,a1,a2,a3,a4,a5,a6,a7,h0,-⟩:=h0;obtain ⟨b0',b1',b2',b3',b4',b5',b6',b7',h1,-⟩:=h1;obtain ⟨wwn,wwA,wwk,wwc,wwm,wwB,wwj,wwd,h2,wwf⟩:=h2;obtain ⟨gww,h4,kv,qv⟩:=h4;obtain ⟨e0',e1',e2',e3',e4',e5',e6',e7',h9,-⟩:=h9;simp only [List.map_cons,List.map_nil,Zaw,Act.put,Zgj,Zfx,Zge];rw [h9,h0,h1,h2,(show ν 39=Value.int .i64 0 by simpa [Zie,Zaa] using h3),h4];clear h0 h1 h2 h3 h4 h9 hP ν;have hbx:=hr1.trans (hb.mono hr1.size);have qv4:=qv.four;have kv2:wr.heap.size <= gww:=kv;refine (Z3 wwn wwA wwk wwc wwm wwB wwj wwd hbx kv2 qv).elim (fun Zww hq=>?_);have c0:=qv4.1;have c1':=qv4.2.1;have c2':=qv4.2.2.1;have c3:=qv4.2.2.2.1;have f0:=qv4.2.2.2.2.1;have f1:=qv4.2.2.2.2.2.1;have f2:=qv4.2.2.2.2.2.2.1;have f3:=qv4.2.2.2.2.2.2.2;have hZ:=hq.1;refine Ze (i:=17) rfl (by kernel_rfl) (fun K hK=>?_);go_simp;(try rw [hZ]);refine hK.out _ _ (fun _=>hSv1.out _ hq.2.1) ?_;clear hK K
    try simp only [Act.put,Zgj,Zfx,Zge]
    refine Zfy 1 [18] rfl (by kernel_rfl) (hSv1.out _ hq.2.1) ?_
    (refine tk1 (v:=?_) rfl (Or.inl ⟨by kernel_rfl,?_⟩) ?_;rotate_left;(· intro W2 _;go_simp;try with_reducible rfl);try simp only [Act.put,Zgj,Zfx,Zge,putG_a,putG_s,putG_z])
    refine tk0 ?_;refine Zk (by kernel_rfl) ?_ _;refine OnlyNormal.normal ?_;have hbZww:=hq.2.1;have wwb:=Za hq.2.2.1;replace wwf:=Za (Fr.keep wwf hq.2.2.2.1);clear hq hZ c0 c1' c2' c3 f0 f1 f2 f3 qv4 qv kv hbx hb hr1 hSv1 hxs1;have hb0:=hbZww;have qs6:=Za (Zc hb0 qs.out);have hs6:=Za (hfs.out.below hb0);have hK6:=Za (hKt.out.below hb0);obtain ⟨s0',s1,s2,s3,-⟩:=qs6.out.four;obtain ⟨v0,v1,v2,v3,-⟩:=wwb.out.four;clear x0 x1 x2 x3 kq hfx sx k1 qs hfs hKt hb0 hbq;go_wp2_with fail;refine (Zul sn sm wwn wwm sA sB wwA wwB sk sc sj sd wwk wwc wwj wwd _ _ Zww hs6.out wwf.out (hs.out.2.2 t (by omega)) sxy.out).mono ?_;rintro e w5' ⟨hb5,zn,zA,zk,zc,zm,zB,zj,zd,rfl,hf9⟩;have qs7:=Zc hb5 qs6.out;obtain ⟨i0,i1,i2,i3,e0,e1,e2,e3⟩:=qs7.four;obtain ⟨W6,hW6,q6,hK7,s6⟩:=Zbs zn zA zk zc zm zB zj zd qs7
    have hfin:VarF W6 gd (Zaz rs rr xf (t+1) r):=⟨_,_,_,_,_,_,_,_,q6,by
     rw [Zmz,Rat.mul_comm (Zv rs t r:Rat)]
     exact hf9.keptV hK7 qs7 (Z2 _ _ _ _ _ _ _ _)⟩
    have hKfin:Hid (Kept (fun g=>g=gd) V1 W6):=Za ((hK6.out.below hb5).trans hK7);replace hfin:=Za hfin;clear qs7 hf9 q6 hK7 s0' s1 s2 s3 v0 v1 v2 v3 hb5;go_wp2_with fail;(try rw [hW6]);clear hW6
    go_roundg (m - (t+1))
    case measure=>omega
    case rel=>exact ⟨t+1,by omega,by go_num,hfin.out,hKfin.out⟩
theorem Zoi (A C:Option Addr) (n c e0 m:Nat) (rs:List RI) (ws:List Int) (w:World) (h:MIL w A n c rs) (hw:LimI w C n e0 ws) (hrow:∀ q ∈ rs,q.n=m) (hm12:m <= 12) :
    Calls Tryz.prog 43 #[.slice A n c,.slice C n e0] w (BoolB w):=by
 have hcm:=h.2.2.1;have hnc:=h.2.1;have hwc:=hw.2.2.1;unfold maxLen at hcm hwc;replace h:=Za h;replace hw:=Za hw;replace hrow:=Za hrow;go_enter Tryz.func43,Tryz.ntmps43;go_wp2_with fail
 go_loopg [5] n (fun k iv wr=>∃ i:Nat,i+k=n/\iv=.int .i64 i/\Below w.heap.size w wr)
 case atStart=>exact ⟨0,by omega,rfl,Below.refl _ _⟩
 case round =>
  obtain ⟨i,hik,rfl,hB⟩:=hrel
  cases gk with
  | zero =>
   obtain rfl:i=n:=by omega
   have t1:decide ((i:Int) < (i:Int))=false:=by simp
   go_wp2_with fail;go_ret;exact ⟨true,rfl,hB⟩
  | succ k' =>
   obtain rfl:k'=n - (i+1):=by omega
   have hin:i < n:=by omega
   have t1:decide ((i:Int) < (n:Int))=true:=decide_eq_true (by omega)
   have bi:(i:Int) < (n:Int):=by omega
   obtain ⟨g,o,q,rfl,hq,k0,hL⟩:=(h.out.below hB).at_ hin;have hqn:=hrow.out q (List.mem_of_getElem? hq);rw [hqn] at hL k0;have hqc:=hL.2.2.1;unfold maxLen at hqc;obtain ⟨gw,ow,rfl,hcw⟩:=(hw.out.below hB).2.2.2.2 (by omega);have kw:=hcw i hin;obtain ⟨z,hz⟩:∃ z,ws[i]?.getD 0=z:=⟨_,rfl⟩;rw [hz] at kw;replace hL:=Za hL;clear hcw hz
   by_cases hzb:1048576 < z
   ·have t2:decide (1048576 < z)=true:=decide_eq_true hzb
    replace hzb:=Za hzb;go_wp2_with fail;go_ret;exact ⟨false,rfl,hB⟩
   have t2:decide (1048576 < z)=false:=decide_eq_false hzb;replace hzb:=Za hzb;go_wp2_with fail;obtain ⟨wo,rfl⟩:∃ wo:World,wo=wr:=⟨_,rfl⟩
   go_loopg [6] m (fun k jv wr=>∃ j:Nat,j+k=m/\jv=.int .i64 j/\Below wo.heap.size wo wr)
   case atStart=>exact ⟨0,by omega,rfl,Below.refl _ _⟩
   case round =>
    obtain ⟨j,hjk,rfl,hBj⟩:=hrel;have k1:=Zb hBj k0
    cases gk with
    | zero =>
     obtain rfl:j=m:=by omega
     have t3:decide ((j:Int) < (j:Int))=false:=by simp
     go_wp2_with fail
     go_roundg (n - (i+1))
     case measure=>omega
     case rel=>exact ⟨i+1,by omega,by go_num,hB.trans (hBj.mono hB.size)⟩
    | succ k2 =>
     obtain rfl:k2=m - (j+1):=by omega
     have hjm:j < m:=by omega
     have t3:decide ((j:Int) < (m:Int))=true:=decide_eq_true (by omega)
     have bj:(j:Int) < (m:Int):=by omega
     obtain ⟨gq,oq,eq,hcq⟩:=(hL.out.below hBj).2.2.2.2 (by omega);have kq:=hcq j hjm;rw [eq] at k1;obtain ⟨y,hy⟩:∃ y,q.l[j]?.getD 0=y:=⟨_,rfl⟩;rw [hy] at kq;clear eq hcq hy
     by_cases hy1:1048576 < y
     ·have t4:decide (1048576 < y)=true:=decide_eq_true hy1
      replace hy1:=Za hy1;go_wp2_with fail;go_ret;exact ⟨false,rfl,hB.trans (hBj.mono hB.size)⟩
     have t4:decide (1048576 < y)=false:=decide_eq_false hy1;replace hy1:=Za hy1
     by_cases hy2:y < -1048576
     ·have t5:decide (y < -1048576)=true:=decide_eq_true hy2
      replace hy2:=Za hy2;go_wp2_with fail;go_ret;exact ⟨false,rfl,hB.trans (hBj.mono hB.size)⟩
     have t5:decide (y < -1048576)=false:=decide_eq_false hy2;replace hy2:=Za hy2;go_wp2_with fail
     go_roundg (m - (j+1))
     case measure=>omega
     case rel=>exact ⟨j+1,by omega,by go_num,hBj⟩
theorem Zov (A B C:Option Addr) (n c d e0 m cx:Nat) (X:Option Addr) (rs:List RI) (rr ws:List Int) (xs:List Rat) (w:World) (h:MIL w A n c rs) (hr:LimI w B n d rr) (hw:LimI w C n e0 ws) (hx:FL w X m cx xs) (hrow:∀ q ∈ rs,q.n=m) (hm0:0 < m) (hm9:m <= 900) (hn9:n <= 900)
    (hs:SumP rs rr ws (fun k=>xs[k]?.getD 0) n m) :
    Calls Tryz.prog 45 #[.slice A n c,.slice B n d,.slice C n e0,.slice X m cx] w (Zff w (Zby rs rr ws (fun k=>xs[k]?.getD 0) m n)):=by
 have hmx:Tryz.prog.follows .mixedOrders=true:=by kernel_rfl
 obtain ⟨W0,hW0,hB0,q0,s0⟩:=Zbr w 45 #[.bool false,.slice none 0 0,.bool false,.slice none 0 0];obtain ⟨gR,hgR⟩:∃ g,w.heap.size=g:=⟨_,rfl⟩;rw [hgR] at q0;have hnc:=h.2.2.1;unfold maxLen at hnc;have hn9':=h.2.1;have hI:=hw.2.2.2.1;have h0:=Za (h.below hB0);have hr0:=Za (hr.below hB0);have hw0:=Za (hw.below hB0);have hx0:=Za (hx.below hB0);replace hs:=Za hs;replace hrow:=Za hrow;replace q0:=Za q0;replace hI:=Za hI;clear h hr hw hx;go_enter Tryz.func45,Tryz.ntmps45;go_wp2_with fail;(try rw [hW0]);(try rw [hgR]);rw [hgR] at hB0 s0;replace hgR:=Za hgR;refine (Zhq 0 W0 (by decide) (by decide)).mono ?_;rintro e w1 ⟨hb1,pn,pA,pk,pc,pm,pB,pj,pd,rfl,hf1⟩;obtain ⟨gs,hgs⟩:∃ g,w1.heap.size=g:=⟨_,rfl⟩;obtain ⟨V1,hV1,bkd,hbV1⟩:=Za2 (w:=w1) 45 #[.bool pn,.slice pA pk pc,.bool pm,.slice pB pj pd];rw [hgs] at bkd;have hv1:VarF V1 gs (Zby rs rr ws (fun k=>xs[k]?.getD 0) m 0):=⟨_,_,_,_,_,_,_,_,bkd,hf1.below hbV1⟩;have hb01:Below W0.heap.size W0 V1:=hb1.trans (hbV1.mono hb1.size)
 have hgs2:W0.heap.size <= gs:=by rw [<- hgs];exact hb1.size
 replace hv1:=Za hv1;replace hb01:=Za hb01;clear hf1 bkd hb1 hbV1;go_wp2_with fail;(try rw [hgs]);(try rw [hV1]);clear hV1 hgs hW0
 go_loopg [10] n (fun k kv wr=>∃ i:Nat,i+k=n/\kv=.int .i64 i/\VarF wr gs (Zby rs rr ws (fun k=>xs[k]?.getD 0) m i)/\Kept (fun g=>g=gs) V1 wr)
 case atStart=>exact ⟨0,by omega,rfl,hv1.out,Kept.refl _ _⟩
 case round =>
  obtain ⟨i,hik,rfl,hvi,hKi⟩:=hrel;have hbq:Below W0.heap.size W0 wr:=hb01.out.trans (hKi.to_below (fun k e=>by omega) hb01.out.size)
  cases gk with
  | zero =>
   obtain ⟨sn,sA,sk,sc,sm,sB,sj,sd,qs,hfs⟩:=hvi
   obtain rfl:i=n:=by omega
   have t1:decide ((i:Int) < (i:Int))=false:=by simp
   obtain ⟨c0,c1',c2,c3,-⟩:=qs.four;have q1:=Zc hbq q0.out;obtain ⟨z0,z1,z2,z3,y0,y1,y2,y3⟩:=q1.four;obtain ⟨W9,hW9,q9,hK9,s9⟩:=Zbs sn sA sk sc sm sB sj sd q1;have hs9:=Za (hfs.keptV hK9 q1 (Z2 _ _ _ _ _ _ _ _))
   have hBr:Below w.heap.size w W9:=by
    rw [hgR.out];exact (hB0.trans (hbq.mono (by omega))).trans (hK9.to_below (fun k e=>by omega) (by have:=hbq.size;omega))
   obtain ⟨r0,r1,r2,r3,-⟩:=q9.four;clear hfs;go_wp2_with fail;(try rw [hW9]);refine bodyPost_ret (v:=.agg #[.bool sn,.slice sA sk sc,.bool sm,.slice sB sj sd]) (by simp [results,Tryz.results45,go_sem,r0,r1,r2,r3]) rfl ?_;exact ⟨hBr,_,_,_,_,_,_,_,_,rfl,hs9.out⟩
  | succ k2 =>
   obtain rfl:k2=n - (i+1):=by omega
   have hin:i < n:=by omega
   have t1:decide ((i:Int) < (n:Int))=true:=decide_eq_true (by omega)
   have b1:(i:Int) < (n:Int):=by omega
   have hzI:=Zco hI.out i;have hzI':=hzI;unfold I64 at hzI';obtain ⟨gC,oC,rfl,hcC⟩:=(hw0.out.below hbq).2.2.2.2 (by omega);have kC:=hcC i hin;obtain ⟨z,hz⟩:∃ z,ws[i]?.getD 0=z:=⟨_,rfl⟩;rw [hz] at kC hzI hzI';have hgz:Hid (Z5 ws i=z):=Za hz;replace hvi:=Za hvi;clear hcC hz;go_wp2_with fail;refine (Zi6 A B n c d m cx i X rs rr xs wr (h0.out.below hbq) (hr0.out.below hbq) (hx0.out.below hbq) hrow.out hin hm0 hm9 ⟨fun k hk=>hs.out.xk k hk,fun k hk=>hs.out.f i k hin hk,fun t ht=>hs.out.res i t hin ht⟩).mono ?_;rintro e w2 ⟨hb2,dn,dA,dk,dc,dm,dB,dj,dd,rfl,hfd⟩;obtain ⟨gd,hgd⟩:∃ g,w2.heap.size=g:=⟨_,rfl⟩;obtain ⟨V2,hV2,bkd,hbV2⟩:=Za2 (w:=w2) 45 #[.bool dn,.slice dA dk dc,.bool dm,.slice dB dj dd];rw [hgd] at bkd;have hb22:=hb2.trans (hbV2.mono hb2.size);have hfd2:=Za (hfd.below hbV2);obtain ⟨d0,d1,d2,d3,-⟩:=bkd.four;have hb2h:=Za hb22;replace bkd:=Za bkd;clear hfd hb2 hbV2 hb22;go_wp2_with fail;(try rw [hgd]);(try rw [hV2]);clear hV2;replace hgd:=Za hgd;refine (Zfb dn dm dn dm dA dB dA dB dk dc dj dd dk dc dj dd _ _ V2 hfd2.out hfd2.out (hs.out.res i m hin (Nat.le_refl _)) (hs.out.res i m hin (Nat.le_refl _))).mono ?_;rintro e w3 ⟨hb3,qn,qA,qk,qc,qm,qB,qj,qd,rfl,hfq⟩;obtain ⟨gq,hgq⟩:∃ g,w3.heap.size=g:=⟨_,rfl⟩;obtain ⟨V3,hV3,qq,hbV3⟩:=Za2 (w:=w3) 45 #[.bool qn,.slice qA qk qc,.bool qm,.slice qB qj qd];rw [hgq] at qq;have hb23:=hb3.trans (hbV3.mono hb3.size);have hb33:=hb2h.out.trans (hb23.mono hb2h.out.size);have hfq2:=Za (hfq.below hbV3);have kC2:=Zb hb33 kC
   obtain ⟨v0,v1,v2,v3,-⟩:=qq.four
   have hgqs:wr.heap.size <= gq:=by rw [<- hgq];exact Nat.le_trans hb2h.out.size hb3.size
   replace hb33:=Za hb33;replace qq:=Za qq;clear hfq hb3 hbV3 hb23 d0 d1 d2 d3 hfd2 bkd hb2h kC;go_wp2_with fail;(try rw [hgq]);(try rw [hV3]);clear hV3 hgq;refine Zaj [10] (fun wx=>wx.cell? ⟨gq,0,none⟩=some (.bool qn)/\wx.cell? ⟨gq,1,none⟩=some (.slice qA qk qc)/\wx.cell? ⟨gq,2,none⟩=some (.bool qm)/\wx.cell? ⟨gq,3,none⟩=some (.slice qB qj qd)/\wx.cell? ⟨gC,oC+i,none⟩=some (.int .i64 z)) hmx ⟨v0,v1,v2,v3,kC2⟩ (fun _=>?_);refine Zi4 1 [0] rfl (by kernel_rfl) ⟨v0,v1,v2,v3,kC2⟩ ?_
   (refine tk1 (v:=?_) rfl (Or.inl ⟨by kernel_rfl,?_⟩) ?_;rotate_left;(· intro W2 hSw;(try dsimp only at hSw);go_simp;try with_reducible rfl);try simp only [Act.put,Zgj,Zfx,Zge,putG_a,putG_s,putG_z])
   refine tk0 ?_;refine Zfy 3 [1,2,3] rfl (by kernel_rfl) ⟨v0,v1,v2,v3,kC2⟩ ?_
   iterate 3 (refine tk1 (v:=?_) rfl (Or.inl ⟨by kernel_rfl,?_⟩) ?_;rotate_left;(· intro W2 _;go_simp;try with_reducible rfl);try simp only [Act.put,Zgj,Zfx,Zge,putG_a,putG_s,putG_z])
   refine tk0 ?_;refine Zi4 1 [4] rfl (by kernel_rfl) ⟨v0,v1,v2,v3,kC2⟩ ?_
   (refine tk1 (v:=?_) rfl (Or.inl ⟨by kernel_rfl,?_⟩) ?_;rotate_left;(· intro W2 hSw;(try dsimp only at hSw);go_simp;try with_reducible rfl);try simp only [Act.put,Zgj,Zfx,Zge,putG_a,putG_s,putG_z])
   refine tk0 ?_;refine Ze (i:=5) rfl (by kernel_rfl) (fun K hK=>?_);go_simp;refine (Zhq z V3.drew (by omega) (by omega)).mono ?_;rintro e w4 ⟨hb4,un,uA,uk,uc,um,uB,uj,ud,rfl,hfu⟩;replace hb4:=Zo hb4;replace v0:=Zb hb4 v0;replace v1:=Zb hb4 v1;replace v2:=Zb hb4 v2;replace v3:=Zb hb4 v3;replace kC2:=Zb hb4 kC2;refine hK.out _ _ (fun _=>⟨v0,v1,v2,v3,kC2⟩) ?_;clear hK K
   try simp only [Act.put,Zgj,Zfx,Zge]
   refine Ze (i:=6) rfl (by kernel_rfl) (fun K hK=>?_);go_simp;refine (Zfb qn qm un um qA qB uA uB qk qc qj qd uk uc uj ud _ _ w4 (hfq2.out.below hb4) hfu (hs.out.sq i hin) (Zj3 hzI)).mono ?_;rintro e w5 ⟨hb5,yn,yA,yk,yc,ym,yB,yj,yd,rfl,hfy⟩;replace v0:=Zb hb5 v0;replace v1:=Zb hb5 v1;replace v2:=Zb hb5 v2;replace v3:=Zb hb5 v3;replace kC2:=Zb hb5 kC2;refine hK.out _ _ (fun _=>⟨v0,v1,v2,v3,kC2⟩) ?_;clear hK K
   try simp only [Act.put,Zgj,Zfx,Zge]
   refine Zfy 3 [7,8,9] rfl (by kernel_rfl) ⟨v0,v1,v2,v3,kC2⟩ ?_
   iterate 3 (refine tk1 (v:=?_) rfl (Or.inl ⟨by kernel_rfl,?_⟩) ?_;rotate_left;(· intro W2 _;go_simp;try with_reducible rfl);try simp only [Act.put,Zgj,Zfx,Zge,putG_a,putG_s,putG_z])
   refine tk0 ?_;have hb45:=hb4.trans (hb5.mono hb4.size);have qq5:=Zc hb45 qq.out;obtain ⟨i0,i1,i2,i3,e0,e1,e2,e3⟩:=qq5.four;obtain ⟨Z4,hZ4,qz,hKz,sz⟩:=Zbs yn yA yk yc ym yB yj yd qq5;refine Zu (i:=10) rfl (by kernel_rfl) (by kernel_rfl) (fun K hK=>?_);go_simp;(try rw [hZ4]);refine hK.out _ _ ?_;clear hK K
   try simp only [Act.put,Zgj,Zfx,Zge]
   refine Zk (by kernel_rfl) ?_ _;refine OnlyNormal.normal ?_;have hfy2:=Za (hfy.keptV hKz qq5 (Z2 _ _ _ _ _ _ _ _));have hb35:=hb33.out.trans (hb45.mono hb33.out.size);have hvs:VarF Z4 gs (Zby rs rr ws (fun k=>xs[k]?.getD 0) m i):=(hvi.out.below hb35).kept hKz (show ¬ gs=gq by have:=hvi.out.lt;omega) (fun k e=>by cases e;exact ⟨_,_,qq5,Z2 _ _ _ _ _ _ _ _⟩);have hK4:Hid (Kept (fun g=>g=gs) V1 Z4):=Za ((hKi.below hb35).and hKz (fun k hk e=>by have:=hKi.size;omega));obtain ⟨sn,sA,sk,sc,sm,sB,sj,sd,qs,hfs⟩:=hvs;obtain ⟨c0,c1',c2,c3,-⟩:=qs.four;obtain ⟨u0,u1,u2,u3,-⟩:=qz.four;replace qs:=Za qs;replace hfs:=Za hfs;clear hZ4 hfy qq5 hKz hb35 hb45 hb5 hb4 i0 i1 i2 i3 e0 e1 e2 e3 v0 v1 v2 v3 kC2 qq hfq2 hfu hvi hKi qz hb33;go_wp2_with fail;refine (Zk3 sn sm yn ym sA sB yA yB sk sc sj sd yk yc yj yd _ _ Z4 hfs.out hfy2.out (hs.out.sum i (by omega)) (by rw [<- hgz.out];exact hs.out.wsq i hin)).mono ?_;rintro e w6 ⟨hb6,an,aA,ak,ac,am,aB,aj,ad,rfl,hfa⟩;have qs6:=Zc hb6 qs.out;obtain ⟨i0,i1,i2,i3,e0,e1,e2,e3⟩:=qs6.four;obtain ⟨W6,hW6,q6,hK6,s6⟩:=Zbs an aA ak ac am aB aj ad qs6
   have hfin:VarF W6 gs (Zby rs rr ws (fun k=>xs[k]?.getD 0) m (i+1)):=⟨_,_,_,_,_,_,_,_,q6,by
    have h5:=hfa.keptV hK6 qs6 (Z2 _ _ _ _ _ _ _ _);rw [<- hgz.out] at h5
    exact h5⟩
   have hKfin:Hid (Kept (fun g=>g=gs) V1 W6):=Za ((hK4.out.below hb6).trans hK6);replace hfin:=Za hfin;clear qs6 hfa q6 hK6 c0 c1' c2 c3 u0 u1 u2 u3 hb6;go_wp2_with fail;(try rw [hW6]);clear hW6
   go_roundg (n - (i+1))
   case measure=>omega
   case rel=>exact ⟨i+1,by omega,by go_num,hfin.out,hKfin.out⟩
theorem Zgc {ws:List Int} {a b a' b':Nat->Int}:∀ {n:Nat},(∀ r,r < n->a r=a' r/\b r=b' r)->Za4 ws a b n=Za4 ws a' b' n
 | 0,_=>rfl
 | n+1,h=>by
  simp only [Za4];rw [Zgc (fun r hr=>h r (by omega)),(h n (by omega)).1,(h n (by omega)).2]
def Zix (rs:List RI) (k n:Nat):List Int:=(List.range n).map fun r=>Zv rs k r
theorem Zhc {rs:List RI} {k n r:Nat} (h:r < n):Z5 (Zix rs k n) r=Zv rs k r:=by
 unfold Z5 Zix;rw [List.getElem?_map,List.getElem?_range h];rfl
theorem Zvj {rs:List RI} {rr ws:List Int} (hE:Zb2 rs rr ws=0) (k:Nat):Zb2 rs (Zix rs k rs.length) ws=0:=by
 obtain ⟨b1,-,-⟩:=Zhw hE
 have h1:Zdk rs=false:=by
  unfold Zb2 at hE
  by_cases h:Zdk rs=true
  ·rw [if_pos h] at hE;cases hE
  ·simpa using h
 have h2:Zii rs rr ws=true:=by
  unfold Zb2 at hE;rw [if_neg (by simp [h1])] at hE
  by_cases h:Zii rs rr ws=true
  ·exact h
  ·rw [if_neg h] at hE;cases hE
 refine Zo0 h1 ?_
 have h3:Zda (-1099511627776) (Zix rs k rs.length)=false:=by
  unfold Zda;rw [List.any_eq_false];intro z hz;obtain ⟨r,-,rfl⟩:=List.mem_map.1 hz;have:=b1 r k;unfold B40 at this;unfold Zgq;simp only [Bool.or_eq_true,decide_eq_true_eq,not_or];omega
 have h4:(Zix rs k rs.length).length=rs.length:=by unfold Zix;simp
 unfold Zii at h2 ⊢;simp only [Bool.and_eq_true] at h2 ⊢;obtain ⟨a1,a2,a3,a4,a5,a6⟩:=h2;exact ⟨a1,a2,by rw [decide_eq_true_eq];exact h4,a4,by rw [h3];rfl,a6⟩
theorem Zj2 {n k:Nat} (M:Nat->Nat->Rat) (c:Nat->Rat) (hk:k < n):∀ t,t <= k->Z1 n (Zad M k (fun b=>M k b+sumQ t (fun j=>c j * M j b)))=Z1 n M
 | 0,_=>by
  have:Zad M k (fun b=>M k b+sumQ 0 (fun j=>c j * M j b))=M:=by
   have h1:(fun b=>M k b+sumQ 0 (fun j=>c j * M j b))=M k:=by
    funext b
    simp only [sumQ]
    grind
   rw [h1,Zdc]
  rw [this]
 | t+1,ht=>by
  have h1:=Zen M hk (fun b=>M k b+sumQ t (fun j=>c j * M j b)) (M t) 1 (c t)
  have h2:(fun b=>(1:Rat) * (M k b+sumQ t (fun j=>c j * M j b))+c t * M t b)=(fun b=>M k b+sumQ (t+1) (fun j=>c j * M j b)):=by
   funext b
   simp only [sumQ]
   grind
  rw [h2] at h1;rw [h1,Zj2 M c hk t (by omega)]
  have h3:Z1 n (Zad M k (M t))=0:=Zhb (k:=k) (l:=t) hk (by omega) (by omega) (fun b=>by
   show Zad M k (M t) k b=Zad M k (M t) t b;unfold Zad
   rw [if_pos rfl,if_neg (by omega)])
  rw [h3]
  grind
theorem Znx:∀ {k:Nat} {M:Nat->Nat->Rat},(∀ b,b < k->M k b=0)->Z1 (k+1) M=M k k * Z1 k M
 | 0,M,_=>by
  simp only [Z1,sumQ,Zfi]
  grind
 | k+1,M,h=>by
  have e:Z1 (k+2) M=sumQ (k+2) (fun i=>Zfi i * M i 0 * Z1 (k+1) (fun a b=>M (Za3 i a) (b+1))):=rfl;have e2:Z1 (k+1) M=sumQ (k+1) (fun i=>Zfi i * M i 0 * Z1 k (fun a b=>M (Za3 i a) (b+1))):=rfl;rw [e,e2];simp only [sumQ];rw [h 0 (by omega)]
  have h1:sumQ (k+1) (fun i=>Zfi i * M i 0 * Z1 (k+1) (fun a b=>M (Za3 i a) (b+1)))=sumQ (k+1) (fun i=>Zfi i * M i 0 * Z1 k (fun a b=>M (Za3 i a) (b+1)) * M (k+1) (k+1)):=Zm fun i hi=>by
   have hs:Za3 i k=k+1:=by unfold Za3;rw [if_neg (by omega)]
   rw [Znx (M:=fun a b=>M (Za3 i a) (b+1)) (fun b hb=>by
    show M (Za3 i k) (b+1)=0
    rw [hs];exact h (b+1) (by omega))]
   show Zfi i * M i 0 * (M (Za3 i k) (k+1) * _)=_;rw [hs]
   grind
  have h2:=Zb8 (n:=k+1) (fun i=>Zfi i * M i 0 * Z1 k (fun a b=>M (Za3 i a) (b+1))) (M (k+1) (k+1));have e3:sumQ k (fun i=>Zfi i * M i 0 * Z1 (k+1) (fun a b=>M (Za3 i a) (b+1)))+Zfi k * M k 0 * Z1 (k+1) (fun a b=>M (Za3 k a) (b+1))=sumQ (k+1) (fun i=>Zfi i * M i 0 * Z1 (k+1) (fun a b=>M (Za3 i a) (b+1))):=rfl;have e4:sumQ k (fun i=>Zfi i * M i 0 * Z1 k (fun a b=>M (Za3 i a) (b+1)))+Zfi k * M k 0 * Z1 k (fun a b=>M (Za3 k a) (b+1))=sumQ (k+1) (fun i=>Zfi i * M i 0 * Z1 k (fun a b=>M (Za3 i a) (b+1))):=rfl;rw [e3,e4,h1,h2]
  grind
section
variable {rs:List RI} {ws:List Int} {n:Nat}
theorem Zj6 (i j:Nat):Za0 rs ws n i j=Za0 rs ws n j i:=by
 unfold Za0;rw [Zti]
theorem Zvy {k:Nat} {x:Nat->Rat} (hx:∀ i,i < k->sumQ k (fun j=>Za0 rs ws n i j * x j)=Za0 rs ws n i k) :
    Z1 (k+1) (Za0 rs ws n)=(Za0 rs ws n k k - sumQ k (fun j=>x j * Za0 rs ws n j k)) * Z1 k (Za0 rs ws n):=by
 have h1:=Zj2 (n:=k+1) (k:=k) (Za0 rs ws n) (fun j=>-x j) (by omega) k (Nat.le_refl k);rw [<- h1,Znx]
 ·congr 1
  ·show Zad _ k _ k k=_
   unfold Zad;rw [if_pos rfl];show Za0 rs ws n k k+sumQ k (fun j=>-x j * Za0 rs ws n j k)=_
   have:sumQ k (fun j=>-x j * Za0 rs ws n j k)=- sumQ k (fun j=>x j * Za0 rs ws n j k):=by
    have:=Zb8 (n:=k) (fun j=>x j * Za0 rs ws n j k) (-1);rw [show ∀ a:Rat,-a=a * -1 by intro a;grind,<- this]
    exact Zm fun j _=>by grind
   rw [this]
   grind
  ·refine Zau fun a b ha hb=>?_
   unfold Zad;rw [if_neg (by omega)]
 ·intro b hb
  unfold Zad;rw [if_pos rfl];show Za0 rs ws n k b+sumQ k (fun j=>-x j * Za0 rs ws n j b)=0;have h2:=hx b hb
  have:sumQ k (fun j=>-x j * Za0 rs ws n j b)=- sumQ k (fun j=>Za0 rs ws n b j * x j):=by
   have:=Zb8 (n:=k) (fun j=>Za0 rs ws n b j * x j) (-1);rw [show ∀ a:Rat,-a=a * -1 by intro a;grind,<- this]
   exact Zm fun j _=>by rw [Zj6 j b];grind
  rw [this,h2,Zj6 k b]
  grind
end
theorem Zgz {n:Nat} {f:Nat->Rat} (h:∀ i,i < n->0 <= f i):0 <= sumQ n f:=by
 induction n with
 | zero=>simp only [sumQ];exact Rat.le_refl
 | succ n ih =>
  simp only [sumQ]
  have h1:=ih fun i hi=>h i (by omega)
  have h2:=h n (by omega)
  grind
theorem Zh4 {n:Nat} {f:Nat->Rat} (h:∀ i,i < n->0 <= f i) (hs:sumQ n f=0):∀ i,i < n->f i=0:=by
 induction n with
 | zero=>intro i hi;omega
 | succ n ih =>
  simp only [sumQ] at hs
  have h1:=Zgz (n:=n) fun i hi=>h i (by omega)
  have h2:=h n (by omega)
  have h3:sumQ n f=0:=by grind
  have h4:f n=0:=by grind
  intro i hi
  by_cases hin:i=n
  ·rw [hin];exact h4
  ·exact ih (fun i hi=>h i (by omega)) h3 i (by omega)
theorem lt_plus {a s:Rat} (h:0 <= s) (h0:s ≠ 0):a < a+s:=by grind
theorem Zto (a:Rat):0 <= a * a:=by
 rcases Rat.le_total (a:=0) (b:=a) with h | h
 ·exact Rat.mul_nonneg h h
 ·have:a * a=(-a) * (-a):=by grind
  rw [this]
  have h1:0 <= -a:=by grind
  exact Rat.mul_nonneg h1 h1
theorem sq_zero {a:Rat} (h:a * a=0):a=0:=by
 rcases Rat.mul_eq_zero.1 h with h | h <;> exact h
section
variable {rs:List RI} {rr ws:List Int} {n m:Nat}
theorem w_pos (hE:Zb2 rs rr ws=0) {r:Nat} (hr:r < rs.length):(0:Rat) < (Z5 ws r:Rat):=by
 obtain ⟨f1,f2,f3,f4,f5,f6,f7,f8⟩:=Zbq hE
 have h:1 <= Z5 ws r:=by
  unfold Z5;rw [List.getElem?_eq_getElem (by omega),Option.getD_some];unfold Zda at f6;rw [List.any_eq_false] at f6;have:=f6 _ (List.getElem_mem (l:=ws) (n:=r) (by omega));unfold Zgq at this;simp only [Bool.or_eq_true,decide_eq_true_eq,not_or] at this;omega
 have:(0:Int) < Z5 ws r:=by omega
 exact_mod_cast this
theorem Zf7 (hE:Zb2 rs rr ws=0) {r:Nat} (hr:r < rs.length) (a:Rat):0 <= a * a * (Z5 ws r:Rat):=Rat.mul_nonneg (Zto a) (Rat.le_of_lt (w_pos hE hr))
theorem Zqn (hE:Zb2 rs rr ws=0) {r:Nat} (hr:r < rs.length) {a:Rat} (h:a * a * (Z5 ws r:Rat)=0):a=0:=by
 rcases Rat.mul_eq_zero.1 h with h | h
 ·exact sq_zero h
 ·have:=w_pos hE hr
  rw [h] at this;exact absurd this (by decide)
theorem det_dep {k:Nat} {x:Nat->Rat} (hk:k < m) (h:∀ r,r < n->(Zv rs k r:Rat)=sumQ k (fun j=>(Zv rs j r:Rat) * x j)):Z1 m (Za0 rs ws n)=0:=by
 have hc:∀ i,Za0 rs ws n k i=sumQ k (fun j=>x j * Za0 rs ws n j i):=fun i=>by
  unfold Za0;rw [Zer]
  have e1:sumQ n (fun r=>(Z5 ws r:Rat) * ((Zv rs k r:Rat) * (Zv rs i r:Rat)))=sumQ n (fun r=>sumQ k (fun j=>(Z5 ws r:Rat) * ((Zv rs j r:Rat) * (Zv rs i r:Rat)) * x j)):=Zm fun r hr=>by
   have e2:sumQ k (fun j=>(Z5 ws r:Rat) * ((Zv rs j r:Rat) * (Zv rs i r:Rat)) * x j)=sumQ k (fun j=>(Zv rs j r:Rat) * x j) * ((Z5 ws r:Rat) * (Zv rs i r:Rat)):=by
    rw [<- Zb8]
    exact Zm fun j _=>by grind
   rw [e2,<- h r hr]
   grind
  rw [e1,Zek]
  refine Zm fun j _=>?_
  rw [Zb8,Zer]
  grind
 have h1:=Zj2 (n:=m) (k:=k) (Za0 rs ws n) (fun j=>-x j) hk k (Nat.le_refl k);rw [<- h1]
 have h2:(fun b=>Za0 rs ws n k b+sumQ k (fun j=>-x j * Za0 rs ws n j b))=(fun b=>(0:Rat) * Za0 rs ws n k b+0 * Za0 rs ws n k b):=by
  funext b
  have:sumQ k (fun j=>-x j * Za0 rs ws n j b)=- sumQ k (fun j=>x j * Za0 rs ws n j b):=by
   have:=Zb8 (n:=k) (fun j=>x j * Za0 rs ws n j b) (-1);rw [show ∀ a:Rat,-a=a * -1 by intro a;grind,<- this]
   exact Zm fun j _=>by grind
  rw [this,<- hc b]
  grind
 rw [h2,Zen (Za0 rs ws n) hk (Za0 rs ws n k) (Za0 rs ws n k) 0 0]
 grind
theorem Zqb (hE:Zb2 rs rr ws=0) (hn:rs.length=n) (hm:m <= 12) (hd:Z1 m (Za0 rs ws n) ≠ 0):∀ k,k <= m->0 < Z1 k (Za0 rs ws n)
 | 0,_=>by
  show (0:Rat) < 1
  decide
 | k+1,hk=>by
  have ih:=Zqb hE hn hm hd k (by omega)
  have hn200:n <= 200:=by rw [<- hn];exact (Zbq hE).1
  have hEc:=Zvj hE k;rw [hn] at hEc;obtain ⟨full,X,-,-,-,-,-,-,a7,a8⟩:=Zqe (n:=n) (m:=k) hn200 (by omega) hEc;have hf:full=true:=a7.2 (by grind);obtain ⟨-,-,hN,-,-⟩:=a8 hf
  have hxe:∀ i,i < k->sumQ k (fun j=>Za0 rs ws n i j * X j k)=Za0 rs ws n i k:=fun i hi=>by
   have h1:=hN i hi
   have h2:Za4 ws (Zv rs i) (Z5 (Zix rs k n)) n=Za4 ws (Zv rs i) (Zv rs k) n:=Zgc fun r hr=>⟨rfl,Zhc hr⟩
   rw [h2] at h1;exact h1
  rw [Zvy hxe];have hs:=Zqu hN
  have h3:Zjj rs (Zix rs k n) ws (fun j=>X j k) n k=Za0 rs ws n k k - sumQ k (fun j=>X j k * Za0 rs ws n j k):=by
   unfold Zjj Za0
   have h2:∀ i,Za4 ws (Zv rs i) (Z5 (Zix rs k n)) n=Za4 ws (Zv rs i) (Zv rs k) n:=fun i=>Zgc fun r hr=>⟨rfl,Zhc hr⟩
   have h4:Za4 ws (Z5 (Zix rs k n)) (Z5 (Zix rs k n)) n=Za4 ws (Zv rs k) (Zv rs k) n:=Zgc fun r hr=>⟨Zhc hr,Zhc hr⟩
   rw [h4]
   congr 1
   exact Zm fun j _=>by rw [h2]
  rw [<- h3,<- hs]
  have hpos:0 <= Zby rs (Zix rs k n) ws (fun j=>X j k) k n:=Zgz fun r hr=>Zf7 hE (by omega) _
  have hne:Zby rs (Zix rs k n) ws (fun j=>X j k) k n ≠ 0:=fun h0=>by
   refine hd (det_dep (k:=k) (x:=fun j=>X j k) (by omega) fun r hr=>?_);have h5:=Zh4 (fun r hr=>Zf7 hE (by omega) _) h0 r hr;have h6:=Zqn hE (by omega) h5;unfold Zaz at h6;rw [Zhc hr] at h6
   grind
  have:0 < Zby rs (Zix rs k n) ws (fun j=>X j k) k n:=by grind
  exact Rat.mul_pos this ih
theorem Zu4 {x y:Nat->Rat} (hN:Zey rs rr ws x n m):Zby rs rr ws y m n=Zby rs rr ws x m n+sumQ n (fun r=>sumQ m (fun k=>(Zv rs k r:Rat) * (y k - x k)) * sumQ m (fun k=>(Zv rs k r:Rat) * (y k - x k)) * (Z5 ws r:Rat)):=by
 have hd:∀ r,Zaz rs rr y m r=Zaz rs rr x m r - sumQ m (fun k=>(Zv rs k r:Rat) * (y k - x k)):=fun r=>by
  unfold Zaz
  have:sumQ m (fun k=>(Zv rs k r:Rat) * (y k - x k))=sumQ m (fun k=>(Zv rs k r:Rat) * y k) - sumQ m (fun k=>(Zv rs k r:Rat) * x k):=by
   rw [<- Zg9]
   exact Zm fun k _=>by grind
  rw [this]
  grind
 have ho:sumQ n (fun r=>Zaz rs rr x m r * sumQ m (fun k=>(Zv rs k r:Rat) * (y k - x k)) * (Z5 ws r:Rat))=0:=by
  have e1:sumQ n (fun r=>Zaz rs rr x m r * sumQ m (fun k=>(Zv rs k r:Rat) * (y k - x k)) * (Z5 ws r:Rat))=sumQ n (fun r=>sumQ m (fun k=>(Z5 ws r:Rat) * (Zaz rs rr x m r * (Zv rs k r:Rat)) * (y k - x k))):=Zm fun r _=>by
   have:sumQ m (fun k=>(Z5 ws r:Rat) * (Zaz rs rr x m r * (Zv rs k r:Rat)) * (y k - x k))=sumQ m (fun k=>(Zv rs k r:Rat) * (y k - x k)) * ((Z5 ws r:Rat) * Zaz rs rr x m r):=by
    rw [<- Zb8]
    exact Zm fun k _=>by grind
   rw [this]
   grind
  rw [e1,Zek]
  exact Zdi fun k hk=>by rw [Zb8,Zlh hN hk];grind
 have e2:Zby rs rr ws y m n=sumQ n (fun r=>Zaz rs rr x m r * Zaz rs rr x m r * (Z5 ws r:Rat)+sumQ m (fun k=>(Zv rs k r:Rat) * (y k - x k)) * sumQ m (fun k=>(Zv rs k r:Rat) * (y k - x k)) * (Z5 ws r:Rat) - Zaz rs rr x m r * sumQ m (fun k=>(Zv rs k r:Rat) * (y k - x k)) * (Z5 ws r:Rat) * 2):=Zm fun r _=>by
  rw [hd r]
  grind
 rw [e2,Zg9,Zp1,Zb8,ho];unfold Zby
 grind
theorem Zuu {x y:Nat->Rat} (hE:Zb2 rs rr ws=0) (hn:rs.length=n) (hN:Zey rs rr ws x n m) (hd:Z1 m (Za0 rs ws n) ≠ 0) (hne:∃ k,k < m/\y k ≠ x k):Zby rs rr ws x m n < Zby rs rr ws y m n:=by
 rw [Zu4 (y:=y) hN]
 have hp:0 <= sumQ n (fun r=>sumQ m (fun k=>(Zv rs k r:Rat) * (y k - x k)) * sumQ m (fun k=>(Zv rs k r:Rat) * (y k - x k)) * (Z5 ws r:Rat)):=Zgz fun r hr=>Zf7 hE (by omega) _
 have h0:sumQ n (fun r=>sumQ m (fun k=>(Zv rs k r:Rat) * (y k - x k)) * sumQ m (fun k=>(Zv rs k r:Rat) * (y k - x k)) * (Z5 ws r:Rat)) ≠ 0:=fun h0=>by
  obtain ⟨k,hk,hk2⟩:=hne
  have hz:∀ r,r < n->sumQ m (fun k=>(Zv rs k r:Rat) * (y k - x k))=0:=fun r hr=>Zqn hE (by omega) (Zh4 (fun r hr=>Zf7 hE (by omega) _) h0 r hr)
  have hG:∀ i,i < m->sumQ m (fun j=>Za0 rs ws n i j * (y j - x j))=0:=fun i hi=>by
   have e1:sumQ m (fun j=>Za0 rs ws n i j * (y j - x j))=sumQ m (fun j=>sumQ n (fun r=>(Z5 ws r:Rat) * ((Zv rs i r:Rat) * (Zv rs j r:Rat)) * (y j - x j))):=Zm fun j _=>by
    unfold Za0;rw [Zb8,Zer]
   rw [e1,<- Zek]
   refine Zdi fun r hr=>?_
   have e2:sumQ m (fun j=>(Z5 ws r:Rat) * ((Zv rs i r:Rat) * (Zv rs j r:Rat)) * (y j - x j))=sumQ m (fun k=>(Zv rs k r:Rat) * (y k - x k)) * ((Z5 ws r:Rat) * (Zv rs i r:Rat)):=by
    rw [<- Zb8]
    exact Zm fun j _=>by grind
   rw [e2,hz r hr]
   grind
  have hc:=Zou (Za0 rs ws n) (fun j=>y j - x j) (fun _=>0) hG hk
  have hz2:Z1 m (fun a b=>if b=k then (0:Rat) else Za0 rs ws n a b)=0:=by
   have h5:=Zou (Za0 rs ws n) (fun _=>0) (fun _=>0) (fun i hi=>Zdi fun j _=>by grind) hk;rw [<- h5]
   grind
  rw [hz2] at hc
  rcases Rat.mul_eq_zero.1 hc with h | h
  ·exact hd h
  ·exact hk2 (by grind)
 exact lt_plus hp h0
end
theorem Zds (x y:Int) (w:World) (hx1:-9223372036854775808 <= x) (hx2:x <= 9223372036854775807) (h0:0 < y) (hy:y <= 9223372036854775807) :
    Calls Tryz.prog 40 #[.int .i64 x,.int .i64 y] w (Zff w (Rat.divInt x y)):=by
 obtain ⟨W0,hW0,hB0,q0,s0⟩:=Zbr w 45 #[.bool false,.slice none 0 0,.bool false,.slice none 0 0];obtain ⟨gR,hgR⟩:∃ g,w.heap.size=g:=⟨_,rfl⟩;rw [hgR] at q0;go_enter Tryz.func40,Tryz.ntmps40;go_wp2_with fail;(try rw [hW0]);(try rw [hgR]);rw [hgR] at hB0 s0;refine (rOf_pos x y W0 hx1 hx2 h0 hy).mono ?_;rintro e w1 ⟨hb1,pn,pA,pk,pc,pm,pB,pj,pd,rfl,hf⟩;obtain ⟨g1,hg1⟩:∃ g,w1.heap.size=g:=⟨_,rfl⟩;obtain ⟨V1,hV1,qv,hbV⟩:=Za2 (w:=w1) 45 #[.bool pn,.slice pA pk pc,.bool pm,.slice pB pj pd];rw [hg1] at qv;have hb2:=hb1.trans (hbV.mono hb1.size);have q1:=Zc hb2 q0;have hfV:=Za (hf.below hbV);obtain ⟨v0,v1,v2,v3,-⟩:=qv.four;obtain ⟨c0,c1,c2,c3,z0,z1,z2,z3⟩:=q1.four;clear hf;replace hgR:=Za hgR;go_wp2_with fail;(try rw [hg1]);(try rw [hV1]);obtain ⟨W5,hW5,q5,hK5,s5⟩:=Zbs pn pA pk pc pm pB pj pd q1;go_wp2_with fail;(try rw [hW5]);obtain ⟨r0,r1,r2,r3,-⟩:=q5.four;refine bodyPost_ret (v:=.agg #[.bool pn,.slice pA pk pc,.bool pm,.slice pB pj pd]) (by simp [results,Tryz.results40,go_sem,r0,r1,r2,r3]) rfl ?_;refine ⟨?_,_,_,_,_,_,_,_,_,rfl,hfV.out.keptV hK5 q1 (Z2 _ _ _ _ _ _ _ _)⟩;rw [hgR.out];exact hB0.trans ((hb2.mono (by omega)).trans (hK5.to_below (fun k e=>by omega) (by have:=hb2.size;omega)))
theorem Zn2 (A:Option Addr) (n c:Nat) (l:List Int) (w:World) (h:LimI w A n c l) (hn9:n <= 900) :
    Calls Tryz.prog 47 #[.slice A n c] w fun e w'=>∃ v,e=.returned v/\Below w.heap.size w w'/\OwnF 45 w' w.heap.size v (l.map fun (z:Int)=>(z:Rat)):=by
 obtain ⟨iF,hi,hz0,hz1,hz2⟩:=info_parts Ze2;have hl:=Za h.1;have hcm:=h.2.2.1;unfold maxLen at hcm;have hnc:=h.2.1;replace h:=Za h;go_enter Tryz.func47,Tryz.ntmps47;go_wp2_with fail
 go_loopg [3,4] n (fun k ov iv wr=>∃ i:Nat,i+k=n/\iv=.int .i64 i/\Below w.heap.size w wr/\OwnF 45 wr w.heap.size ov ((l.map fun (z:Int)=>(z:Rat)).take i))
 case atStart=>exact ⟨0,by omega,rfl,Below.refl _ _,OwnF.nil _ _ _⟩
 case round =>
  obtain ⟨i,hik,rfl,hB,hO⟩:=hrel
  cases gk with
  | zero =>
   obtain rfl:i=n:=by omega
   have t1:decide ((i:Int) < (i:Int))=false:=by simp
   replace hO:=Za hO;go_wp2_with fail;go_ret;refine ⟨_,rfl,hB,?_⟩;have h1:=hO.out;rw [List.take_of_length_le (by rw [List.length_map,hl.out];exact Nat.le_refl _)] at h1;exact h1
  | succ k' =>
   obtain rfl:k'=n - (i+1):=by omega
   have hin:i < n:=by omega
   have t1:decide ((i:Int) < (n:Int))=true:=decide_eq_true (by omega)
   have bi:(i:Int) < (n:Int):=by omega
   have hq:=h.out.below hB;have hz:=Zco hq.2.2.2.1 i;obtain ⟨g,o,rfl,hc⟩:=hq.2.2.2.2 (by omega);have k0:=hc i hin;have hz':=hz;unfold I64 at hz';obtain ⟨z,hze⟩:∃ z,l[i]?.getD 0=z:=⟨_,rfl⟩;rw [hze] at k0 hz';replace hO:=Za hO;clear hc hq;go_wp2_with fail;refine (Zds z 1 wr (by omega) (by omega) (by decide) (by decide)).mono ?_;rintro e w3 ⟨hb3,na,B1,m1,d1,nb,B2,m2,d2,rfl,hf⟩;rw [Zcx] at hf;have hs:=hB.size
   have hll:((l.map fun (z:Int)=>(z:Rat)).take i).length+1 <= 1000:=by rw [List.length_take,List.length_map];omega
   have hqe:Hid ((l.map fun (z:Int)=>(z:Rat)).take i ++ [(z:Rat)]=(l.map fun (z:Int)=>(z:Rat)).take (i+1)):=Za (by
    rw [List.take_add_one,List.getElem?_map,List.getElem?_eq_getElem (l:=l) (i:=i) (by rw [hl.out];exact hin)];rw [List.getElem?_eq_getElem (l:=l) (i:=i) (by rw [hl.out];exact hin)] at hze;simp only [Option.getD_some] at hze
    rw [hze];rfl)
   obtain ⟨gy,hgy⟩:∃ g,w3.heap.size=g:=⟨_,rfl⟩;obtain ⟨Y1,hY1⟩:∃ Y,w3.alloc (.cells #[.bool na,.slice B1 m1 d1,.bool nb,.slice B2 m2 d2] 45)=Y:=⟨_,rfl⟩
   have hBY:Below w3.heap.size w3 Y1:=by rw [<- hY1];exact (Below.refl _ _).alloc (Nat.le_refl _) _
   have hbl:Blk Y1 gy 45 #[.bool na,.slice B1 m1 d1,.bool nb,.slice B2 m2 d2]:=by rw [<- hY1,<- hgy];exact Blk.new _ _ _
   have hfY:Fr Y1 na B1 m1 d1 nb B2 m2 d2 (z:Rat):=hf.below hBY;have hb4:=hb3.trans (hBY.mono hb3.size);have hOY:=hO.out.kept hb4;have hBB:=hB.trans (hb4.mono hs);have hs2:=hBB.size;replace hll:=Za hll;clear hf hze hz hz';go_wp2_with ((try rw [hY1]);(try rw [hgy]);at_builtin;refine Zc6 _ rfl (.tmp 11) (.tmp 17) 40 rfl w.heap.size 45 iF Tryz.underlying40 hi hz0 hz1 hz2 _ _ rfl hOY _ (some ⟨gy,0,none⟩) 1 1 [⟨na,B1,m1,d1,nb,B2,m2,d2,(z:Rat)⟩] rfl (Zf3 _ hbl) rfl (by intro e he;rw [List.mem_singleton] at he;subst he;exact hfY) hll.out hs2 ?_;intro v2 w5 hO2 hg5 hk5);have hB5:=hBB.grown hg5 hs2 (fun k hk=>hOY.row_ge k hk);simp only [List.map_cons,List.map_nil] at hO2;rw [hqe.out] at hO2
   go_roundg (n - (i+1))
   case measure=>omega
   case rel=>exact ⟨i+1,by omega,by go_num,hB5,hO2⟩
end Go.Proofs.YtigdclhagmnopaaGreat
