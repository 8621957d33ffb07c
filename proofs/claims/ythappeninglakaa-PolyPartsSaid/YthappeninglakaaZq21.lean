/- Package poly: divide. -/
import Derived.Deep.LoopGhost
import Derived.Test.YthappeninglakaaZq20
set_option maxRecDepth 100000
set_option maxHeartbeats 4000000
set_option linter.unusedSimpArgs false
set_option linter.unusedVariables false
namespace Go.Proofs.Ythappeninglakaa
open Go.RowKit
attribute [local go_sem] Zj
theorem PolyL.at_ {w : World} {A : Option Addr} {n c : Nat} {xs : List Int} (h : PolyL w A n c xs) {k : Nat} (hk : k < n) : ∃ b o neg A1 n1 c1,A = some ⟨b,o,none⟩ /\ w.cell? ⟨b,o + k * 2,none⟩ = some (.bool neg) /\ w.cell? ⟨b,o + k * 2 + 1,none⟩ = some (.slice A1 n1 c1) /\ Wd w neg A1 n1 c1 (xs[k]?.getD 0):=by
 obtain ⟨es,h1,rfl,h3⟩:=h;obtain ⟨b,o,e,hA,he,c1,c2,hL⟩:=h1.at_ hk;refine ⟨b,o,e.neg,e.A,e.n,e.c,hA,c1,c2,?_⟩;rw [List.getElem?_map,he];exact WE.wd hL (h3 e (List.mem_of_getElem? he))
theorem PolyL.cap {w : World} {A : Option Addr} {n c : Nat} {xs : List Int} (h : PolyL w A n c xs) : n <= c /\ c <= maxLen:=by
 obtain ⟨es,h1,-,-⟩:=h;exact ⟨h1.2.1,h1.2.2.1⟩
theorem Zi4 (A : Option Addr) (n c : Nat) (xs : List Int) (w : World) (h : PolyL w A n c xs) :
    Calls Try.prog 36 #[.slice A n c] w (NumW w (Zaf xs)):=by
 obtain ⟨es,h1,rfl,h3⟩:=h;exact Zka A n c es w h1 h3
def Zlc (i : Nat) (a b : List Int) : List Int:=if i = 0 then a else b
def Zl1 (i : Nat) (a b : List Int) : List Int:=if i <= 1 then a else b
theorem Zlx : DivC:=by
 intro A B n c m d ps qs w hp hq hn hok;obtain ⟨iw,hi,hz0,hz1,hz2⟩:=info_parts Zfm
 have hmx : Try.prog.follows .mixedOrders = true:=by kernel_rfl
 have hpl:=Zb hp.len;have hql:=Zb hq.len;simp only [Zb8,Bool.and_eq_true,decide_eq_true_eq] at hok;obtain ⟨⟨⟨hsq,hq0⟩,hql0⟩,hod⟩:=hok;rw [hql.out] at hq0 hql0;obtain ⟨m1,hm1⟩ : ∃ m1,m1 = m - 1:=⟨_,rfl⟩;rw [<- hm1] at hql0
 have hm1' : m1 < m:=by omega
 obtain ⟨hmc,hdm⟩:=hq.cap;obtain ⟨hnc,hcm⟩:=hp.cap;unfold maxLen at hdm hcm;obtain ⟨bq,oq,nl,Al,kl,cl,rfl,l0,l1,hlw⟩:=hq.at_ (k:=m1) (by omega);obtain ⟨last,hlast⟩ : ∃ z,qs[m1]?.getD 0 = z:=⟨_,rfl⟩;rw [hlast] at hlw hql0;replace hlast:=Zb hlast;replace hql0:=Zb hql0;replace hsq:=Zb hsq;replace hod:=Zb hod;have hbq:=Zn l0
 have hwr : IntKind.i64.wrap ((m : Int) - 1) = (m1 : Int):=by rw [IntKind.wrap_i64];omega
 have hjl : (m1 : Int) < (m : Int):=by omega
 replace hm1:=Zb hm1
 by_cases hnm : m <= n
 case pos =>
  obtain ⟨N,hN,hNX⟩ : ∃ N : Nat,N = n + 1 - m /\ (n : Int) - (m : Int) + 1 = (N : Int):=⟨_,rfl,by omega⟩
  have hmx0 : (0 : Int) < (n : Int) - (m : Int) + 1:=by omega
  have hmk:=Zlf (P:=Try.prog) 22 26 Try.underlying22 hi hz0 hz1 hz2 ((n : Int) - (m : Int) + 1) N hNX (by omega)
  have hmx1 : max 0 ((n : Int) - (m : Int) + 1) = (N : Int):=by omega
  have hmk2:=Zlf (P:=Try.prog) 22 26 Try.underlying22 hi hz0 hz1 hz2 (max 0 ((n : Int) - (m : Int) + 1)) N hmx1 (by omega);replace hNX:=Zb hNX;replace hmx1:=Zb hmx1;replace hN:=Zb hN;clear hmx0
  have hw1 : IntKind.i64.wrap ((n : Int) - (m : Int)) = (n : Int) - (m : Int):=by rw [IntKind.wrap_i64];omega
  have hw2 : IntKind.i64.wrap ((n : Int) - (m : Int) + 1) = (n : Int) - (m : Int) + 1:=by rw [IntKind.wrap_i64];omega
  go_enter Try.func17,Try.ntmps17;go_wp2_with fail
  go_step3
  go_wp2_with fail;clear hmk hmk2;have hown0:=POwn.new 26 w N;have hB0:=(Below.refl w.heap.size w).alloc (Nat.le_refl _) (.cells (Zad (List.replicate N Zao)) 26)
  have sz0 : w.heap.size < (w.alloc (.cells (Zad (List.replicate N Zao)) 26)).heap.size:=by simp
  generalize w.alloc (.cells (Zad (List.replicate N Zao)) 26) = w0 at *
  refine (Zod A n c ps w0 (hp.below hB0) (by omega)).mono ?_;rintro e w1 ⟨hb1,v,rfl,hv⟩
  rcases hv.pown with ⟨-,hnil⟩ | ⟨gr,cr,zs,rfl,hgr,hcr1,hcr2,hR1⟩
  ·exfalso
   have:=hpl.out;rw [hnil] at this
   simp at this
   omega
  clear hv;have hB1:=hB0.trans (hb1.mono hB0.size);have hQ1:=hown0.below hb1;clear hown0;obtain ⟨gq,hgq⟩ : ∃ g,g = w.heap.size:=⟨_,rfl⟩;rw [<- hgq] at hQ1 sz0 hbq ⊢
  have hgqr : gq < gr:=by omega
  have hgq1 : gq < w1.heap.size:=hQ1.lt;have hgr1 : gr < w1.heap.size:=hR1.lt;have k0:=Za hB1 l0;have k1:=Za hB1 l1;have hlw1:=hlw.below hB1;clear l0 l1;rw [hpl.out];obtain ⟨gL,hgL⟩ : ∃ g,w1.heap.size = g:=⟨_,rfl⟩;obtain ⟨V,hV,hBV,q,vd,vb,vsz⟩:=Z8 26 #[.bool false,.slice none 0 0] hB1 hB1.size;replace hlw1:=vd _ _ _ _ _ hlw1;obtain ⟨y0,y1,y2,y3⟩:=q.two;obtain ⟨X,hX,hBX,q,st⟩:=Zu nl Al kl cl hBV hB1.size q;replace hlw1:=st.1 _ _ _ _ _ hlw1
  have hfr : Below w1.heap.size w1 X:=by
   rw [<- hX,<- hV];exact ((((Below.refl w1.heap.size w1).alloc (Nat.le_refl _) _).setCell (p:=⟨w1.heap.size,0,none⟩) (Nat.le_refl _) _).setCell (p:=⟨w1.heap.size,1,none⟩) (Nat.le_refl _) _)
  replace hQ1:=hQ1.below hfr;replace hR1:=hR1.below hfr;clear st vd vb;obtain ⟨s0,s1,s2,s3⟩:=q.two;rw [hgL] at q s0 s1 s2 s3 y0 y1 y2 y3 hX;go_wp2_with fail;rw [<- hgq]
  have hgw : w.heap.size <= gq:=by omega
  have hgLq : gq < gL:=by omega
  have hgLr : gr < gL:=by omega
  replace hgq:=Zb hgq;have hQX:=Zb hQ1.box;have hRX:=Zb hR1.box;replace q:=Zb q;replace hlw1:=Zb hlw1;replace hBX:=Zb hBX;clear hX hV y0 y1 y2 y3 s0 s1 s2 s3 k0 k1 hlw
  go_step3
  go_wp2_with fail
  go_loopg [5] ps.length (fun k rv wr=>∃ (Q R zs : List Int) (nr cr : Nat),rv = .slice (some ⟨gr,0,none⟩) nr cr /\ nr <= cr /\ cr <= maxLen /\ POwn 26 wr gq Q /\ POwn 26 wr gr (R ++ zs) /\ Hid (Q.length = N) /\ Hid (R.length = nr) /\ nr <= n /\ Hid (Zec qs k Q R = Zan ps qs) /\ Hid (Zdm qs k Q R = true) /\ Hid (Zlu qs Q R) /\ Kept (fun g=>g = gq \/ g = gr) X wr)
  case atStart =>
   refine ⟨List.replicate N 0,ps,zs,n,cr,rfl,by rw [<- hpl.out];exact hcr1,hcr2,hQ1,hR1,Zb (by simp),Zb hpl.out,Nat.le_refl _,Zb ?_,Zb ?_,Zb ?_,Kept.refl _ _⟩
   ·unfold Zan;rw [hpl.out,hql.out,<- hN.out]
   ·have:=hod.out;rw [hpl.out,hql.out,<- hN.out] at this;rw [hpl.out];exact this
   ·intro j _;rw [List.getElem?_replicate];split <;> rfl
  case round =>
   clear hR1 hQ1 hcr1 hcr2 hod hb1 hB1 hBV hfr hB0;obtain ⟨Q,R,zs,nr,cr,rfl,hnr1,hnr2,hQ,hR,hQl,hRl,hnrn,hdk,hok,hzq,hK⟩:=hrel;obtain ⟨wA,rfl⟩ : ∃ wo : World,wo = wr:=⟨_,rfl⟩;unfold maxLen at hnr2;go_wp2_with fail;have hPre:=hR.pre (xs:=R) (c:=cr) (by rw [hRl.out];exact hnr1) (by unfold maxLen;exact hnr2);rw [hRl.out] at hPre;refine (Zex (some ⟨gr,0,none⟩) nr cr R wA hPre).mono ?_;rintro e w2 ⟨rfl,hle,htk,hb2⟩;obtain ⟨T,hT⟩ : ∃ T,Zf R = T:=⟨_,rfl⟩;rw [hT] at hle htk ⊢;obtain ⟨nt,hnt⟩ : ∃ nt,T.length = nt:=⟨_,rfl⟩;rw [hnt] at hle htk ⊢;obtain ⟨zt,hzt⟩ : ∃ zt,R ++ zs = T ++ zt:=⟨R.drop nt ++ zs,by rw [htk,<- List.append_assoc,List.take_append_drop]⟩;rw [hzt] at hR;replace hQ:=hQ.below hb2;replace hR:=hR.below hb2;replace hK:=hK.below hb2
   have hntn : nt <= n:=by omega
   clear hPre htk hzt hb2;replace hT:=Zb hT;replace hnt:=Zb hnt
   have hwn : IntKind.i64.wrap ((nt : Int) - (m : Int)) = (nt : Int) - (m : Int):=by rw [IntKind.wrap_i64];omega
   by_cases hlt : nt < m
   case pos =>
    have hd : decide ((nt : Int) - (m : Int) < 0) = true:=by simp;omega
    have hd' : decide ((nt : Int) < (m : Int)) = true:=by simp;omega
    have hdv : Zan ps qs = (Q,T):=by rw [<- hdk.out,Zgi (by rw [hT.out,hnt.out,hql.out];exact hlt),hT.out]
    replace hdv:=Zb hdv;go_wp2_with fail;have hPq:=hQ.poly (by rw [hQl.out];have:=hN.out;unfold maxLen;omega);rw [hQl.out] at hPq;refine (Zex (some ⟨gq,0,none⟩) N N Q w2 hPq).mono ?_;rintro e w3 ⟨rfl,hle3,htk3,hb3⟩;have hPt:=hR.pre (xs:=T) (c:=nt) (by rw [hnt.out];exact Nat.le_refl _) (by unfold maxLen;omega);rw [hnt.out] at hPt;have hPt3:=hPt.below hb3;have hPq3:=(hPq.below hb3).shut hle3;rw [<- htk3] at hPq3;have hBr:=(hBX.out.trans (hK.to_below (B:=w.heap.size) (fun k hk=>by rcases hk with rfl | rfl <;> omega) hBX.out.size)).trans (hb3.mono (by have:=hBX.out.size;have:=hK.size;omega));clear htk3 hPq hPt;go_wp2_with fail;rw [Exit.noGoto_ret];go_returns;exact ⟨hBr,_,_,_,_,_,_,rfl,by rw [hdv.out];exact hPq3,by rw [hdv.out];exact hPt3⟩
   have hd : decide ((nt : Int) - (m : Int) < 0) = false:=by simp;omega
   have hd' : decide ((nt : Int) < (m : Int)) = false:=by simp;omega
   obtain ⟨t1,ht1⟩ : ∃ t1,t1 = nt - 1:=⟨_,rfl⟩
   have hwt : IntKind.i64.wrap ((nt : Int) - 1) = (t1 : Int):=by rw [IntKind.wrap_i64];omega
   have htl : (t1 : Int) < (nt : Int):=by omega
   obtain ⟨neg1,A1,n1,c1,r0,r1,hle1⟩:=hR.at_ (i:=t1) (by rw [List.length_append,hnt.out];omega);rw [List.getElem?_append_left (by rw [hnt.out];omega)] at hle1;obtain ⟨lead,hlead⟩ : ∃ z,T[t1]?.getD 0 = z:=⟨_,rfl⟩;rw [hlead] at hle1;replace hlead:=Zb hlead;replace ht1:=Zb ht1;obtain ⟨gD,hgD⟩ : ∃ g,w2.heap.size = g:=⟨_,rfl⟩
   have hgDq : gq < gD /\ gr < gD /\ gL < gD:=by rw [<- hgD];exact ⟨hQ.lt,hR.lt,Nat.lt_of_lt_of_le q.out.lt hK.size⟩
   obtain ⟨V,hV,hBV,qd,vd,vb,vsz⟩:=Z8 26 #[.bool false,.slice none 0 0] (Below.refl w2.heap.size w2) (Nat.le_refl _);replace hle1:=vd _ _ _ _ _ hle1;obtain ⟨y0,y1,y2,y3⟩:=qd.two;obtain ⟨Y,hY,hBY,qd,st⟩:=Zu neg1 A1 n1 c1 hBV (Nat.le_refl _) qd;replace hle1:=st.1 _ _ _ _ _ hle1;replace hQ:=hQ.below hBY;replace hR:=hR.below hBY;replace hK:=hK.below hBY;clear st vd vb;obtain ⟨s0,s1,s2,s3⟩:=qd.two;rw [hgD] at qd s0 s1 s2 s3 y0 y1 y2 y3 hY;go_wp2_with fail
   have hlwY : Hid (Wd Y nl Al kl cl last):=Zb ((hK.wd hlw1.out (fun k hk=>by
    rcases hk with rfl | rfl
    ·exact hQX.out
    ·exact hRX.out)))
   have qLY : Hid (Blk Y gL 26 #[.bool nl,.slice Al kl cl]):=Zb (hK.blk q.out (by omega))
   have hG : Hid (∀ k,(k = gq \/ k = gr) -> ∃ t cs,Blk Y k t cs /\ NoLimb cs):=Zb (fun k hk=>by
    rcases hk with rfl | rfl
    ·exact hQ.box
    ·exact hR.box)
   have hsm:=Zng hok.out;have hQs:=Zb (Zd4 hsm.1)
   have hTs : Hid (∀ i : Nat,(T[i]?.getD 0).natAbs < pw 1000):=Zb (fun i=>by
    rw [<- hT.out];obtain ⟨zz,hzz⟩:=Zlw R
    rcases Nat.lt_or_ge i (Zf R).length with h1 | h1
    ·have h2:=Zd4 hsm.2 i
     rw [hzz,List.getElem?_append_left h1] at h2;exact h2
    ·rw [List.getElem?_eq_none h1];exact Za7 _)
   have hlasts : Hid (last.natAbs < pw 1000):=Zb (by rw [<- hlast.out];exact Zd4 hsq.out m1);have hBYw : Hid (Below w.heap.size w Y):=Zb (hBX.out.trans (hK.to_below (B:=w.heap.size) (fun k hk=>by rcases hk with rfl | rfl <;> omega) hBX.out.size));have hYg : gD < Y.heap.size:=qd.lt;have hmore:=Zkl hok.out (by rw [hT.out,hnt.out,hql.out];exact hlt);rw [hT.out] at hmore;obtain ⟨jj,hgk,hdk2,hok2⟩:=hmore;rw [hdk2] at hdk;have hz2:=Zhd (q:=qs) (by rw [hql.out];omega) hzq.out (by rw [hT.out,hnt.out,hql.out];omega);have hgg0:=Zn3 (q:=qs) hzq.out (by rw [hql.out];omega) (by rw [hT.out,hnt.out,hql.out];omega) (by rw [hT.out,hnt.out,hql.out,hQl.out];have:=hN.out;omega);rw [hT.out] at hz2 hgg0;replace hgk:=Zb hgk;replace hok2:=Zb hok2;replace hz2:=Zb hz2;replace hgg0:=Zb hgg0;have hKX:=Zb hK;clear hdk2 hok hzq;clear hsm hK r0 r1 y0 y1 y2 y3 s0 s1 s2 s3 hY hV hBV hBY;replace qd:=Zb qd;replace hle1:=Zb hle1;obtain ⟨hgD1,hgD2,hgD3⟩:=hgDq;obtain ⟨nn,hnn⟩ : ∃ nn : Nat,nn = nt - m:=⟨_,rfl⟩
   have hnI : (nt : Int) - (m : Int) = (nn : Int):=by omega
   have hnN : nn < N:=by have:=hN.out;omega
   have hnNi : (nn : Int) < (N : Int):=by omega
   have hnm2 : nn + m = nt:=by omega
   rw [hnI];clear hwn hd hd' hnI;replace hnn:=Zb hnn;replace hnm2:=Zb hnm2
   go_loopg [55] 2 (fun k iv wr=>∃ i : Nat,i + k = 2 /\ iv = .int .i64 i /\ POwn 26 wr gq (Zlc i Q (Q.map (· * last))) /\ POwn 26 wr gr (Zl1 i T (T.map (· * last)) ++ zt) /\ Kept (fun g=>g = gq \/ g = gr) Y wr)
   case atStart=>exact ⟨0,rfl,rfl,hQ,hR,Kept.refl _ _⟩
   case round =>
    clear hQ hR;obtain ⟨i,hik,rfl,hQ,hR,hK⟩:=hrel
    by_cases hi2 : i < 2
    case neg =>
     have hte : decide ((i : Int) < 2) = false:=by simp;omega
     obtain ⟨hQ,hR⟩ : POwn 26 wr gq (Q.map (· * last)) /\ POwn 26 wr gr (T.map (· * last) ++ zt):=by
      unfold Zlc at hQ;unfold Zl1 at hR;rw [if_neg (by omega)] at hQ hR;exact ⟨hQ,hR⟩
     go_wp2_with fail;obtain ⟨nO,AO,kO,cO,g0,g1,hWO⟩:=hQ.at_ (i:=nn) (by rw [List.length_map,hQl.out];exact hnN);rw [Zjv] at hWO;have g4:=hQ.frozen (nn * 2);have g5:=hQ.frozen (nn * 2 + 1);have hgl3:=hQ.lt;obtain ⟨l0,l1,l2,l3⟩:=(hK.blk qd.out (by omega)).two;have hWL:=hK.wd hle1.out hG.out;replace hQ:=Zb hQ;replace hR:=Zb hR;replace hK:=Zb hK;refine Zav [12] (fun wx=>wx.cell? ⟨gq,nn * 2,none⟩ = some (.bool nO) /\ wx.cell? ⟨gq,nn * 2 + 1,none⟩ = some (.slice AO kO cO) /\ wx.cell? ⟨gD,0,none⟩ = some (.bool neg1) /\ wx.cell? ⟨gD,1,none⟩ = some (.slice A1 n1 c1)) hmx ⟨g0,g1,l0,l1⟩ (fun hS=>?_);refine Zt2 7 [0,1,2,3,4,5,6] rfl (by kernel_rfl) hS ?_
     iterate 7 (refine tkA ?_;try simp only [Act.put,putL_a,putL_z,putL_s,putG_a,putG_s,putG_z])
     refine tk0 ?_
     refine wpAnyL_o 7 fun K hK=>?_
     go_simp;refine (Add_ok _ _ _ _ _ _ _ _ (Q[nn]?.getD 0 * last) lead wr.drew (by exact hWO) (by exact hWL)).mono ?_;rintro e w5 ⟨hb5,neg5,A5,n5,c5,code5,rfl,hR5⟩;have hS5:=And.intro (Za hb5 g0) (And.intro (Za hb5 g1) (And.intro (Za hb5 l0) (Za hb5 l1)));have k4:=Zi hb5 g0 g4;have k5:=Zi hb5 g1 g5;have k0:=Za hb5 g0;have k1:=Za hb5 g1;refine hK.out _ _ (fun _=>hS5) ?_;clear hK K
     try simp only [Act.put,putL_a,putL_z,putL_s]
     refine Zt1 4 [8,9,10,11] rfl (by kernel_rfl) hS5 ?_
     iterate 4 (refine tkA ?_;try simp only [Act.put,putL_a,putL_z,putL_s,putG_a,putG_s,putG_z])
     refine tk0 ?_;refine Zbn (i:=12) rfl (by kernel_rfl) (by kernel_rfl) (fun K hK=>?_);go_simp;refine hK.out _ _ ?_;clear hK K
     try simp only [Act.put,putL_a,putL_z,putL_s]
     refine wpAnyL_fin ?_;have hb5' : Below wr.heap.size wr w5:=Zm hb5;have hP5:=hQ.out.below hb5';have hS5':=hR5.small (by rw [<- hlead.out];exact Zq5 (Zc7 (hQs.out nn) hlasts.out) (hTs.out t1));have hP6:=hP5.set_ (i:=nn) (by rw [List.length_map,hQl.out];exact hnN) hS5'
     have hsq2 : (Q.map (· * last)).set nn (Q[nn]?.getD 0 * last + lead) = Zbe Q T qs:=by
      unfold Zbe;rw [hnt.out,hql.out,<- hnn.out,<- hm1.out,<- ht1.out,hlast.out,hlead.out]
     rw [hsq2] at hP6;have hO6:=(hR.out.below hb5').other hP5 (by omega) nn neg5 A5 n5 c5;have hK6:=((hK.out.below hb5').set_ (p:=⟨gq,nn * 2,none⟩) (.inl (.inl rfl)) (.bool neg5)).set_ (p:=⟨gq,nn * 2 + 1,none⟩) (.inl (.inl rfl)) (.slice A5 n5 c5);clear hP5 hQ hR hK hWO hWL hS5' hb5 hb5' hsq2 hR5 k0 k1 k4 k5 g0 g1 g4 g5 l0 l1 l2 l3 hS hS5;go_wp2_with fail
     generalize (w5.setCell ⟨gq,nn * 2,none⟩ (.bool neg5)).setCell ⟨gq,nn * 2 + 1,none⟩ (.slice A5 n5 c5) = w6 at *
     go_loopg [91] m (fun k jv wr=>∃ (j : Nat) (o : List Int),j + k = m /\ jv = .int .i64 j /\ POwn 26 wr gq (Zbe Q T qs) /\ POwn 26 wr gr (o ++ zt) /\ Hid (o.length = nt) /\ Hid (∀ t : Nat,t < nt -> o[t]?.getD 0 = T[t]?.getD 0 * last - (if nn <= t /\ t < nn + j then qs[t - nn]?.getD 0 * lead else 0)) /\ Kept (fun g=>g = gq \/ g = gr) Y wr)
     case atStart=>exact ⟨0,T.map (· * last),Nat.zero_add _,rfl,hP6,hO6,Zb (by simp [hnt.out]),Zb (fun t h=>by rw [Zjv,if_neg (by omega),Int.sub_zero]),hK6⟩
     case round =>
      clear hP6 hO6 hK6;obtain ⟨j,o,hjk,rfl,hQ,hR,hol,hod,hK⟩:=hrel
      by_cases hjm : j < m
      case neg =>
       obtain rfl : m = j:=by omega
       have hte4 : decide ((m : Int) < (m : Int)) = false:=by simp
       have hox : o = Zaw T qs:=by
        apply List.ext_getElem
        ·rw [hol.out,Za4,hnt.out]
        ·intro t h1 h2
         have ht3 : t < nt:=by rw [hol.out] at h1;exact h1
         have h3:=hod.out t ht3;have h4:=Zeu (rest:=T) (q:=qs) (i:=t) (by rw [hnt.out];exact ht3);rw [hnt.out,hql.out,<- hm1.out,<- ht1.out,hlast.out,hlead.out,<- hnn.out] at h4;have h5:=hnm2.out
         have h6 : (if nn <= t /\ t < nn + m then qs[t - nn]?.getD 0 * lead else 0) = (if nn <= t then qs[t - nn]?.getD 0 * lead else 0):=by
          by_cases h7 : nn <= t
          ·rw [if_pos ⟨h7,by omega⟩,if_pos h7]
          ·rw [if_neg (fun h=>h7 h.1),if_neg h7]
         rw [h6,<- h4,List.getElem?_eq_getElem h1,List.getElem?_eq_getElem h2] at h3
         simpa using h3
       rw [hox] at hR;clear hox hod hol;go_wp2_with fail;have hPr:=hR.pre (xs:=Zaw T qs) (c:=nt) (by rw [Za4,hnt.out];exact Nat.le_refl _) (by unfold maxLen;omega);rw [Za4,hnt.out] at hPr;refine (Zi4 _ _ _ _ wr hPr).mono ?_;rintro e w3 ⟨hb3,ng1,Ag1,kg1,cg1,rfl,hg1⟩;replace hQ:=hQ.below hb3;replace hR:=hR.below hb3;replace hK:=hK.below hb3;clear hPr;go_wp2_with fail;have hPq:=hQ.poly (by rw [Zdv,hQl.out];have:=hN.out;unfold maxLen;omega);rw [Zdv,hQl.out] at hPq;refine (Zi4 _ _ _ _ w3 hPq).mono ?_;rintro e w4 ⟨hb4,ng2,Ag2,kg2,cg2,rfl,hg2⟩;replace hQ:=hQ.below hb4;replace hR:=hR.below hb4;replace hK:=hK.below hb4;replace hg1:=hg1.below hb4;clear hPq;go_wp2_with fail;refine (Zs9 ng1 ng2 Ag1 Ag2 kg1 cg1 kg2 cg2 _ _ w4 hg1 hg2).mono ?_;rintro e w5 ⟨hb5,ng,Ag,kg,cg,code5,rfl,hR5⟩;obtain ⟨gg,hgg⟩ : ∃ z,Zbs Q T qs = z:=⟨_,rfl⟩;have hg : Wd w5 ng Ag kg cg (Zbs Q T qs):=hR5.small (Zg8 hg1.small hg2.small);rw [hgg] at hg hgg0;replace hgg:=Zb hgg;replace hQ:=hQ.below hb5;replace hR:=hR.below hb5;replace hK:=hK.below hb5;clear hR5 hg1 hg2 hb3 hb4 hb5;obtain ⟨gG,hgG⟩ : ∃ g,w5.heap.size = g:=⟨_,rfl⟩
       have hgGq : gq < gG /\ gr < gG:=by rw [<- hgG];exact ⟨hQ.lt,hR.lt⟩
       obtain ⟨V2,hV2,hBV2,qG,vd,vb,vsz2⟩:=Z8 26 #[.bool false,.slice none 0 0] (Below.refl w5.heap.size w5) (Nat.le_refl _);replace hg:=vd _ _ _ _ _ hg;obtain ⟨y0,y1,y2,y3⟩:=qG.two;obtain ⟨Y2,hY2,hBY2,qG,st⟩:=Zu ng Ag kg cg hBV2 (Nat.le_refl _) qG;replace hg:=st.1 _ _ _ _ _ hg;replace hQ:=hQ.below hBY2;replace hR:=hR.below hBY2;replace hK:=hK.below hBY2;clear st vd vb;rw [hgG] at qG y0 y1 y2 y3 hY2;go_wp2_with fail;have hKX2:=Zb (hKX.out.trans hK)
       have hG2 : Hid (∀ k,(k = gq \/ k = gr) -> ∃ t cs,Blk Y2 k t cs /\ NoLimb cs):=Zb (fun k hk=>by
        rcases hk with rfl | rfl
        ·exact hQ.box
        ·exact hR.box)
       replace qG:=Zb qG;have hgY:=Zb hg;obtain ⟨hgG1,hgG2⟩:=hgGq;have hQ2l : Hid ((Zbe Q T qs).length = N):=Zb (by rw [Zdv];exact hQl.out);have hR2l : Hid ((Zaw T qs).length = nt):=Zb (by rw [Za4];exact hnt.out);clear hg y0 y1 y2 y3 hY2 hV2 hBV2 hBY2 hK hKX qLY hlwY qd hle1 hQs hTs hG
       go_loopg [130] 2 (fun k iv wr=>∃ i : Nat,i + k = 2 /\ iv = .int .i64 i /\ POwn 26 wr gq (Zlc i (Zbe Q T qs) (byG (Zbe Q T qs) gg)) /\ POwn 26 wr gr (Zl1 i (Zaw T qs) (byG (Zaw T qs) gg) ++ zt) /\ Kept (fun g=>g = gq \/ g = gr) Y2 wr)
       case atStart=>exact ⟨0,rfl,rfl,hQ,hR,Kept.refl _ _⟩
       case round =>
        clear hQ hR;obtain ⟨i,hik,rfl,hQ,hR,hK⟩:=hrel
        by_cases hi2 : i < 2
        case neg =>
         have hte : decide ((i : Int) < 2) = false:=by simp;omega
         obtain ⟨hQ,hR⟩ : POwn 26 wr gq (byG (Zbe Q T qs) gg) /\ POwn 26 wr gr (byG (Zaw T qs) gg ++ zt):=by
          unfold Zlc at hQ;unfold Zl1 at hR;rw [if_neg (by omega)] at hQ hR;exact ⟨hQ,hR⟩
         go_wp2_with fail
         go_roundg jj
         case measure=>have:=hgk.out;omega
         case rel=>exact ⟨byG (Zbe Q T qs) gg,byG (Zaw T qs) gg,zt,nt,nt,rfl,Nat.le_refl _,by unfold maxLen;omega,hQ,hR,Zb (by rw [Zct];exact hQ2l.out),Zb (by rw [Zct];exact hR2l.out),hntn,by rw [<- hgg.out];exact hdk,by rw [<- hgg.out];exact hok2,by rw [<- hgg.out];exact hz2,hKX2.out.trans hK⟩
        have hte : decide ((i : Int) < 2) = true:=by simp;omega
        obtain ⟨gl,go,nl0,X0,zl,Y0,hix,hX0,hn0,hPl,hPo,hne,hGl,hGo,hgls,hback⟩ : ∃ (gl go nl0 : Nat) (X0 zl Y0 : List Int),(∀ W,(Instr.index 36 (.agg #[.slice (some ⟨gq,0,none⟩) N N,.slice (some ⟨gr,0,none⟩) nt nt]) (.int .i64 i)).run Try.prog W = .ok (.slice (some ⟨gl,0,none⟩) nl0 nl0) W) /\ Hid (X0.length = nl0) /\ nl0 <= 1000 /\ POwn 26 wr gl (X0 ++ zl) /\ POwn 26 wr go Y0 /\ gl ≠ go /\ (gl = gq \/ gl = gr) /\ (go = gq \/ go = gr) /\ w.heap.size <= gl /\ Hid (∀ w',POwn 26 w' gl (byG X0 gg ++ zl) -> POwn 26 w' go Y0 -> POwn 26 w' gq (Zlc (i + 1) (Zbe Q T qs) (byG (Zbe Q T qs) gg)) /\ POwn 26 w' gr (Zl1 (i + 1) (Zaw T qs) (byG (Zaw T qs) gg) ++ zt)):=by
         rcases Nat.eq_zero_or_pos i with rfl | hi0
         ·refine ⟨gq,gr,N,Zbe Q T qs,[],Zaw T qs ++ zt,fun _=>by kernel_rfl,hQ2l,by have:=hN.out;omega,?_,hR,by omega,.inl rfl,.inr rfl,hgw,Zb (fun w' h1 h2=>?_)⟩
          ·rw [List.append_nil];exact hQ
          ·rw [List.append_nil] at h1;exact ⟨h1,h2⟩
         ·obtain rfl : i = 1:=by omega
          exact ⟨gr,gq,nt,Zaw T qs,zt,byG (Zbe Q T qs) gg,fun _=>by kernel_rfl,hR2l,by omega,hR,hQ,by omega,.inr rfl,.inl rfl,by omega,Zb (fun w' h1 h2=>⟨h2,h1⟩)⟩
        clear hQ hR;obtain ⟨wB,rfl⟩ : ∃ wo : World,wo = wr:=⟨_,rfl⟩;go_wp2_with fail;clear hix
        go_loopg [135] nl0 (fun k jv wr=>∃ (j : Nat) (o : List Int),j + k = nl0 /\ jv = .int .i64 j /\ POwn 26 wr gl (o ++ zl) /\ POwn 26 wr go Y0 /\ Hid (o.length = nl0) /\ Hid (∀ t : Nat,t < j -> o[t]?.getD 0 = Int.fdiv (X0[t]?.getD 0) gg) /\ Hid (∀ t : Nat,j <= t -> o[t]?.getD 0 = X0[t]?.getD 0) /\ Kept (fun g=>g = gq \/ g = gr) Y2 wr)
        case atStart=>exact ⟨0,X0,Nat.zero_add _,rfl,hPl,hPo,hX0,Zb (fun t h=>by omega),Zb (fun t _=>rfl),hK⟩
        case round =>
         clear hPl hPo hK;obtain ⟨j,o,hjk,rfl,hPl,hPo,hol,hod,hoe,hK⟩:=hrel
         by_cases hjn : j < nl0
         case neg =>
          obtain rfl : j = nl0:=by omega
          have hte3 : decide ((j : Int) < (j : Int)) = false:=by simp
          have hox : o = byG X0 gg:=by
           apply List.ext_getElem
           ·rw [hol.out];simp [hX0.out,byG]
           ·intro t h1 h2
            have h3:=hod.out t (by rw [hol.out] at h1;exact h1);rw [List.getElem?_eq_getElem h1] at h3;rw [List.getElem?_eq_getElem (by rw [hX0.out];rw [hol.out] at h1;exact h1)] at h3
            simpa [byG] using h3
          rw [hox] at hPl;obtain ⟨hQ,hR⟩:=hback.out wr hPl hPo;clear hox;go_wp2_with fail
          go_roundg (1 - i)
          case measure=>omega
          case rel=>exact ⟨i + 1,by omega,by go_num,hQ,hR,hK⟩
         have hte3 : decide ((j : Int) < (nl0 : Int)) = true:=by simp;omega
         have hjl3 : (j : Int) < (nl0 : Int):=by omega
         obtain ⟨nO,AO,kO,cO,g0,g1,hWO⟩:=hPl.at_ (i:=j) (by rw [List.length_append,hol.out];omega);rw [List.getElem?_append_left (by rw [hol.out];exact hjn),hoe.out j (Nat.le_refl _)] at hWO;obtain ⟨x,hx⟩ : ∃ z,X0[j]?.getD 0 = z:=⟨_,rfl⟩;rw [hx] at hWO;replace hx:=Zb hx;have g4:=hPl.frozen (j * 2);have g5:=hPl.frozen (j * 2 + 1);have hgl3:=hPl.lt;obtain ⟨l0,l1,l2,l3⟩:=(hK.blk qG.out (by omega)).two;have hWL:=hK.wd hgY.out hG2.out;replace hPl:=Zb hPl;replace hPo:=Zb hPo;replace hK:=Zb hK;go_wp2_with fail
         go_region_with
          (first
           | (go_at_call 37;refine (Zgc _ _ _ _ _ _ _ _ x gg _ (by exact hWO) (by exact hWL) hgg0.out).mono ?_;rintro e w5 ⟨hb5,neg5,A5,n5,c5,nr5,Ar5,kr5,cr5,rfl,hR5,-⟩;have k0:=Za hb5 g0;have k1:=Za hb5 g1;have k4:=Zi hb5 g0 g4;have k5:=Zi hb5 g1 g5))
         all_goals (
          have hb5' : Below wr.heap.size wr w5:=Zm hb5;have hP5:=hPl.out.below hb5'
          have hjl5 : j < (o ++ zl).length:=by rw [List.length_append,hol.out];omega
          have hS5:=hR5;have hP6:=hP5.set_ hjl5 hS5;rw [List.set_append_left _ _ (by rw [hol.out];exact hjn)] at hP6;replace hP6:=Zb hP6;have hO6:=Zb ((hPo.out.below hb5').other hP5 hne.symm j neg5 A5 n5 c5);have hK6:=Zb (((hK.out.below hb5').set_ (p:=⟨gl,j * 2,none⟩) (.inl hGl) (.bool neg5)).set_ (p:=⟨gl,j * 2 + 1,none⟩) (.inl hGl) (.slice A5 n5 c5));clear hP5 hPl hPo hK hWO hWL hS5 hb5 hb5';go_wp2_with fail
          go_roundg (nl0 - (j + 1))
          case measure=>omega
          case rel=>exact ⟨j + 1,o.set j (Int.fdiv x gg),by omega,by go_num,hP6.out,hO6.out,by rw [List.length_set];exact hol.out,Zb (fun t h=>by
              rcases Nat.lt_or_ge t j with h' | h'
              ·rw [List.getElem?_set_ne (by omega)];exact hod.out t h'
              ·obtain rfl : t = j:=by omega
               rw [List.getElem?_set_self (by rw [hol.out];exact hjn),hx.out];rfl),Zb (fun t h=>by rw [List.getElem?_set_ne (by omega)];exact hoe.out t (by omega)),hK6.out⟩)
      have hte4 : decide ((j : Int) < (m : Int)) = true:=by simp;omega
      have hjmi : (j : Int) < (m : Int):=by omega
      have hBr : Below w.heap.size w wr:=hBYw.out.trans (hK.to_below (B:=w.heap.size) (fun k hk=>by rcases hk with rfl | rfl <;> omega) hBYw.out.size);obtain ⟨b2,o2,neg2,A2,n2,c2,hAq,r0,r1,hW2⟩:=(hq.below hBr).at_ hjm
      cases hAq
      obtain ⟨a,ha⟩ : ∃ z,qs[j]?.getD 0 = z:=⟨_,rfl⟩;rw [ha] at hW2;replace ha:=Zb ha;clear hBr;obtain ⟨gA,hgA⟩ : ∃ g,wr.heap.size = g:=⟨_,rfl⟩;obtain ⟨V2,hV2,hBV2,qa,vd,vb,vsz2⟩:=Z8 26 #[.bool false,.slice none 0 0] (Below.refl wr.heap.size wr) (Nat.le_refl _);replace hW2:=vd _ _ _ _ _ hW2;obtain ⟨y0,y1,y2,y3⟩:=qa.two;obtain ⟨Z,hZ,hBZ,qa,st⟩:=Zu neg2 A2 n2 c2 hBV2 (Nat.le_refl _) qa;replace hW2:=st.1 _ _ _ _ _ hW2;replace hQ:=hQ.below hBZ;replace hR:=hR.below hBZ;replace hK:=hK.below hBZ;clear st vd vb;obtain ⟨s0,s1,s2,s3⟩:=qa.two;rw [hgA] at qa s0 s1 s2 s3 y0 y1 y2 y3 hZ;obtain ⟨l0,l1,l2,l3⟩:=(hK.blk qd.out (by omega)).two;have hWL:=hK.wd hle1.out hG.out;go_wp2_with fail;refine (Zki _ _ _ _ _ _ _ _ a lead Z hW2 hWL).mono ?_;rintro e w7 ⟨hb7,neg3,A3,n3,c3,code3,rfl,hR3⟩;have hW3:=hR3.small (Zhm (Zc7 (by rw [<- ha.out];exact Zd4 hsq.out j) (by rw [<- hlead.out];exact hTs.out t1)));clear hR3 hW2 hWL y0 y1 y2 y3 s0 s1 s2 s3 hZ hV2 r0 r1 l0 l1 l2 l3 qa;replace hQ:=hQ.below hb7;replace hR:=hR.below hb7;replace hK:=hK.below hb7;obtain ⟨gW,hgW⟩ : ∃ g,w7.heap.size = g:=⟨_,rfl⟩;obtain ⟨V3,hV3,hBV3,qw,vd,vb,vsz3⟩:=Z8 26 #[.bool false,.slice none 0 0] (Below.refl w7.heap.size w7) (Nat.le_refl _);replace hW3:=vd _ _ _ _ _ hW3;obtain ⟨y0,y1,y2,y3⟩:=qw.two;obtain ⟨Z3,hZ3,hBZ3,qw,st⟩:=Zu neg3 A3 n3 c3 hBV3 (Nat.le_refl _) qw;replace hW3:=st.1 _ _ _ _ _ hW3;replace hQ:=hQ.below hBZ3;replace hR:=hR.below hBZ3;replace hK:=hK.below hBZ3;clear st vd vb;obtain ⟨s0,s1,s2,s3⟩:=qw.two
      rw [hgW] at qw s0 s1 s2 s3 y0 y1 y2 y3 hZ3
      have hjt : nn + j < nt:=by have:=hnm2.out;omega
      have e1 : IntKind.i64.wrap ((nn : Int) + (j : Int)) = (nn : Int) + (j : Int):=IntWalk.i64_in _ (by omega)
      have e2 : 0 <= (nn : Int) + (j : Int):=by omega
      have e3 : ((nn : Int) + (j : Int)).toNat = nn + j:=by omega
      have e4 : (nn : Int) + (j : Int) < (nt : Int):=by omega
      obtain ⟨nO,AO,kO,cO,g0,g1,hWO⟩:=hR.at_ (i:=nn + j) (by rw [List.length_append,hol.out];exact Nat.lt_of_lt_of_le hjt (Nat.le_add_right _ _));rw [List.getElem?_append_left (by rw [hol.out];exact hjt),hod.out _ hjt,if_neg (by omega),Int.sub_zero] at hWO;have g4:=hR.frozen ((nn + j) * 2);have g5:=hR.frozen ((nn + j) * 2 + 1);have hgl3:=hR.lt;replace hQ:=Zb hQ;replace hR:=Zb hR;replace hK:=Zb hK;go_wp2_with fail;refine Zav [16] (fun wx=>wx.cell? ⟨gr,(nn + j) * 2,none⟩ = some (.bool nO) /\ wx.cell? ⟨gr,(nn + j) * 2 + 1,none⟩ = some (.slice AO kO cO) /\ wx.cell? ⟨gW,0,none⟩ = some (.bool neg3) /\ wx.cell? ⟨gW,1,none⟩ = some (.slice A3 n3 c3)) hmx ⟨g0,g1,s0,s1⟩ (fun hS=>?_);refine Zt2 11 [0,1,2,3,4,5,6,7,8,9,10] rfl (by kernel_rfl) hS ?_
      iterate 11 (refine tkA ?_;try simp only [Act.put,putL_a,putL_z,putL_s,putG_a,putG_s,putG_z])
      refine tk0 ?_
      refine wpAnyL_o 11 fun K hK=>?_
      go_simp;refine (Sub_ok _ _ _ _ _ _ _ _ (T[nn + j]?.getD 0 * last) (a * lead) Z3.drew (by exact hWO) (by exact hW3)).mono ?_;rintro e w5 ⟨hb5,neg5,A5,n5,c5,code5,rfl,hR5⟩;have hS5:=And.intro (Za hb5 g0) (And.intro (Za hb5 g1) (And.intro (Za hb5 s0) (Za hb5 s1)));have k4:=Zi hb5 g0 g4;have k5:=Zi hb5 g1 g5;have k0:=Za hb5 g0;have k1:=Za hb5 g1;refine hK.out _ _ (fun _=>hS5) ?_;clear hK K
      try simp only [Act.put,putL_a,putL_z,putL_s]
      refine Zt1 4 [12,13,14,15] rfl (by kernel_rfl) hS5 ?_
      iterate 4 (refine tkA ?_;try simp only [Act.put,putL_a,putL_z,putL_s,putG_a,putG_s,putG_z])
      refine tk0 ?_;refine Zbn (i:=16) rfl (by kernel_rfl) (by kernel_rfl) (fun K hK=>?_);go_simp;refine hK.out _ _ ?_;clear hK K
      try simp only [Act.put,putL_a,putL_z,putL_s]
      refine wpAnyL_fin ?_;have hb5' : Below Z3.heap.size Z3 w5:=Zm hb5;have hP5:=hR.out.below hb5'
      have hjl5 : nn + j < (o ++ zt).length:=by rw [List.length_append,hol.out];exact Nat.lt_of_lt_of_le hjt (Nat.le_add_right _ _)
      have hS5':=hR5.small (Zqw (Zc7 (hTs.out _) hlasts.out) (Zc7 (by rw [<- ha.out];exact Zd4 hsq.out j) (by rw [<- hlead.out];exact hTs.out t1)));have hP6:=hP5.set_ hjl5 hS5';rw [List.set_append_left _ _ (by rw [hol.out];exact hjt)] at hP6;replace hP6:=Zb hP6;have hO6:=Zb ((hQ.out.below hb5').other hP5 (by omega) (nn + j) neg5 A5 n5 c5);have hK6:=Zb (((hK.out.below hb5').set_ (p:=⟨gr,(nn + j) * 2,none⟩) (.inl (.inr rfl)) (.bool neg5)).set_ (p:=⟨gr,(nn + j) * 2 + 1,none⟩) (.inl (.inr rfl)) (.slice A5 n5 c5));clear hP5 hQ hR hK hWO hW3 hS5' hb5 hb5' hR5 k0 k1 k4 k5 g0 g1 g4 g5 s0 s1 s2 s3 y0 y1 y2 y3 hS hS5 hZ3 hV3 e1 e2 e3 e4;go_wp2_with fail
      go_roundg (m - (j + 1))
      case measure=>omega
      case rel=>exact ⟨j + 1,o.set (nn + j) (T[nn + j]?.getD 0 * last - a * lead),by omega,by go_num,hO6.out,hP6.out,by rw [List.length_set];exact hol.out,Zb (fun t h=>by
          by_cases h' : t = nn + j
          ·subst h'
           rw [List.getElem?_set_self (by rw [hol.out];exact hjt),if_pos ⟨by omega,by omega⟩,show nn + j - nn = j by omega,ha.out];rfl
          ·rw [List.getElem?_set_ne (by omega),hod.out t h]
           congr 1
           by_cases h7 : nn <= t /\ t < nn + j
           ·rw [if_pos h7,if_pos ⟨h7.1,by omega⟩]
           ·rw [if_neg h7,if_neg (fun h8=>h7 ⟨h8.1,by omega⟩)]),hK6.out⟩
    have hte : decide ((i : Int) < 2) = true:=by simp;omega
    obtain ⟨gl,go,nl0,X0,zl,Y0,hix,hX0,hn0,hPl,hPo,hne,hGl,hGo,hgls,hsmX,hback⟩ : ∃ (gl go nl0 : Nat) (X0 zl Y0 : List Int),(∀ W,(Instr.index 36 (.agg #[.slice (some ⟨gq,0,none⟩) N N,.slice (some ⟨gr,0,none⟩) nt nt]) (.int .i64 i)).run Try.prog W = .ok (.slice (some ⟨gl,0,none⟩) nl0 nl0) W) /\ Hid (X0.length = nl0) /\ nl0 <= 1000 /\ POwn 26 wr gl (X0 ++ zl) /\ POwn 26 wr go Y0 /\ gl ≠ go /\ (gl = gq \/ gl = gr) /\ (go = gq \/ go = gr) /\ w.heap.size <= gl /\ Hid (∀ j : Nat,(X0[j]?.getD 0).natAbs < pw 1000) /\ Hid (∀ w',POwn 26 w' gl (X0.map (· * last) ++ zl) -> POwn 26 w' go Y0 -> POwn 26 w' gq (Zlc (i + 1) Q (Q.map (· * last))) /\ POwn 26 w' gr (Zl1 (i + 1) T (T.map (· * last)) ++ zt)):=by
     rcases Nat.eq_zero_or_pos i with rfl | hi0
     ·refine ⟨gq,gr,N,Q,[],T ++ zt,fun _=>by kernel_rfl,hQl,by have:=hN.out;omega,?_,hR,by omega,.inl rfl,.inr rfl,hgw,hQs,Zb (fun w' h1 h2=>?_)⟩
      ·rw [List.append_nil];exact hQ
      ·rw [List.append_nil] at h1;exact ⟨h1,h2⟩
     ·obtain rfl : i = 1:=by omega
      exact ⟨gr,gq,nt,T,zt,Q.map (· * last),fun _=>by kernel_rfl,hnt,by omega,hR,hQ,by omega,.inr rfl,.inl rfl,by omega,hTs,Zb (fun w' h1 h2=>⟨h2,h1⟩)⟩
    clear hQ hR;obtain ⟨wB,rfl⟩ : ∃ wo : World,wo = wr:=⟨_,rfl⟩;go_wp2_with fail;clear hix
    go_loopg [60] nl0 (fun k jv wr=>∃ (j : Nat) (o : List Int),j + k = nl0 /\ jv = .int .i64 j /\ POwn 26 wr gl (o ++ zl) /\ POwn 26 wr go Y0 /\ Hid (o.length = nl0) /\ Hid (∀ t : Nat,t < j -> o[t]?.getD 0 = X0[t]?.getD 0 * last) /\ Hid (∀ t : Nat,j <= t -> o[t]?.getD 0 = X0[t]?.getD 0) /\ Kept (fun g=>g = gq \/ g = gr) Y wr)
    case atStart=>exact ⟨0,X0,Nat.zero_add _,rfl,hPl,hPo,hX0,Zb (fun t h=>by omega),Zb (fun t _=>rfl),hK⟩
    case round =>
     clear hPl hPo hK;obtain ⟨j,o,hjk,rfl,hPl,hPo,hol,hod,hoe,hK⟩:=hrel
     by_cases hjn : j < nl0
     case neg =>
      obtain rfl : j = nl0:=by omega
      have hte3 : decide ((j : Int) < (j : Int)) = false:=by simp
      have hox : o = X0.map (· * last):=by
       apply List.ext_getElem
       ·rw [hol.out];simp [hX0.out,byG]
       ·intro t h1 h2
        have h3:=hod.out t (by rw [hol.out] at h1;exact h1);rw [List.getElem?_eq_getElem h1] at h3;rw [List.getElem?_eq_getElem (by rw [hX0.out];rw [hol.out] at h1;exact h1)] at h3
        simpa [byG] using h3
      rw [hox] at hPl;obtain ⟨hQ,hR⟩:=hback.out wr hPl hPo;clear hox;go_wp2_with fail
      go_roundg (1 - i)
      case measure=>omega
      case rel=>exact ⟨i + 1,by omega,by go_num,hQ,hR,hK⟩
     have hte3 : decide ((j : Int) < (nl0 : Int)) = true:=by simp;omega
     have hjl3 : (j : Int) < (nl0 : Int):=by omega
     obtain ⟨nO,AO,kO,cO,g0,g1,hWO⟩:=hPl.at_ (i:=j) (by rw [List.length_append,hol.out];omega);rw [List.getElem?_append_left (by rw [hol.out];exact hjn),hoe.out j (Nat.le_refl _)] at hWO;obtain ⟨x,hx⟩ : ∃ z,X0[j]?.getD 0 = z:=⟨_,rfl⟩;rw [hx] at hWO;replace hx:=Zb hx;have g4:=hPl.frozen (j * 2);have g5:=hPl.frozen (j * 2 + 1);have hgl3:=hPl.lt;obtain ⟨l0,l1,l2,l3⟩:=(hK.blk qLY.out (by omega)).two;have hWL:=hK.wd hlwY.out hG.out;replace hPl:=Zb hPl;replace hPo:=Zb hPo;replace hK:=Zb hK;go_wp2_with fail
     go_region_with
      (first
       | (go_at_call 32;refine (Zki _ _ _ _ _ _ _ _ x last _ (by exact hWO) (by exact hWL)).mono ?_;rintro e w5 ⟨hb5,neg5,A5,n5,c5,code5,rfl,hR5⟩;have k0:=Za hb5 g0;have k1:=Za hb5 g1;have k4:=Zi hb5 g0 g4;have k5:=Zi hb5 g1 g5))
     all_goals (
      have hb5' : Below wr.heap.size wr w5:=Zm hb5;have hP5:=hPl.out.below hb5'
      have hjl5 : j < (o ++ zl).length:=by rw [List.length_append,hol.out];omega
      have hS5:=hR5.small (Zhm (Zc7 (by rw [<- hx.out];exact hsmX.out j) hlasts.out));have hP6:=hP5.set_ hjl5 hS5;rw [List.set_append_left _ _ (by rw [hol.out];exact hjn)] at hP6;replace hP6:=Zb hP6;have hO6:=Zb ((hPo.out.below hb5').other hP5 hne.symm j neg5 A5 n5 c5);have hK6:=Zb (((hK.out.below hb5').set_ (p:=⟨gl,j * 2,none⟩) (.inl hGl) (.bool neg5)).set_ (p:=⟨gl,j * 2 + 1,none⟩) (.inl hGl) (.slice A5 n5 c5));clear hP5 hPl hPo hK hWO hWL hS5 hb5 hb5';go_wp2_with fail
      go_roundg (nl0 - (j + 1))
      case measure=>omega
      case rel=>exact ⟨j + 1,o.set j (x * last),by omega,by go_num,hP6.out,hO6.out,by rw [List.length_set];exact hol.out,Zb (fun t h=>by
          rcases Nat.lt_or_ge t j with h' | h'
          ·rw [List.getElem?_set_ne (by omega)];exact hod.out t h'
          ·obtain rfl : t = j:=by omega
           rw [List.getElem?_set_self (by rw [hol.out];exact hjn),hx.out];rfl),Zb (fun t h=>by rw [List.getElem?_set_ne (by omega)];exact hoe.out t (by omega)),hK6.out⟩)
 case neg =>
  have hmx0 : (n : Int) - (m : Int) + 1 <= 0:=by omega
  have hmx1 : max 0 ((n : Int) - (m : Int) + 1) = 0:=by omega
  have hmk:=Zlf (P:=Try.prog) 22 26 Try.underlying22 hi hz0 hz1 hz2 0 0 rfl (by omega)
  have hw1 : IntKind.i64.wrap ((n : Int) - (m : Int)) = (n : Int) - (m : Int):=by rw [IntKind.wrap_i64];omega
  have hw2 : IntKind.i64.wrap ((n : Int) - (m : Int) + 1) = (n : Int) - (m : Int) + 1:=by rw [IntKind.wrap_i64];omega
  go_enter Try.func17,Try.ntmps17;go_wp2_with fail
  go_step3
  go_wp2_with fail;clear hmk;have hB0:=(Below.refl w.heap.size w).alloc (Nat.le_refl _) (.cells (Zad []) 26);obtain ⟨gq,hgq⟩ : ∃ g,g = w.heap.size:=⟨_,rfl⟩
  generalize w.alloc (.cells (Zad []) 26) = w0 at *
  refine (Zod A n c ps w0 (hp.below hB0) (by omega)).mono ?_;rintro e w1 ⟨hb1,v,rfl,hv⟩;obtain ⟨A9,c9,rfl,hP9⟩:=hv.poly;rw [hpl.out] at hP9;clear hv;have hB1:=hB0.trans (hb1.mono hB0.size);have k0:=Za hB1 l0;have k1:=Za hB1 l1;have hlw1:=hlw.below hB1;clear l0 l1;rw [hpl.out];obtain ⟨gL,hgL⟩ : ∃ g,w1.heap.size = g:=⟨_,rfl⟩;obtain ⟨V,hV,hBV,q,vd,vb,vsz⟩:=Z8 26 #[.bool false,.slice none 0 0] (Below.refl w1.heap.size w1) (Nat.le_refl _);obtain ⟨y0,y1,y2,y3⟩:=q.two;obtain ⟨X,hX,hBX,q,st⟩:=Zu nl Al kl cl hBV (Nat.le_refl _) q;clear st vd vb q;rw [hgL] at y0 y1 y2 y3 hX;replace hP9:=hP9.below hBX;have hB2:=hB1.trans (hBX.mono hB1.size);go_wp2_with fail
  go_step3
  go_wp2_with fail;refine wp_loop_rounds 1 ?_;rw [rounds_succ];clear y0 y1 y2 y3 hX hV k0 k1 hlw1 hmx0 hmx1 hw1 hw2;go_wp2_with fail;refine (Zex A9 n c9 ps X hP9).mono ?_;rintro e w2 ⟨rfl,hle,htk,hb2⟩;obtain ⟨T,hT⟩ : ∃ T,Zf ps = T:=⟨_,rfl⟩;rw [hT] at hle htk ⊢;obtain ⟨nt,hnt⟩ : ∃ nt,T.length = nt:=⟨_,rfl⟩;rw [hnt] at hle htk ⊢;have hPt:=(hP9.below hb2).shut hle;rw [<- htk] at hPt;have hB3:=hB2.trans (hb2.mono hB2.size)
  have hd : decide ((nt : Int) - (m : Int) < 0) = true:=by simp;omega
  have hd' : decide ((nt : Int) < (m : Int)) = true:=by simp;omega
  have hwn : IntKind.i64.wrap ((nt : Int) - (m : Int)) = (nt : Int) - (m : Int):=by rw [IntKind.wrap_i64];omega
  have hdv : Zan ps qs = ([],T):=by
   unfold Zan;rw [Zgi (by rw [hT,hnt,hql.out];omega),hT,hpl.out,hql.out,show n + 1 - m = 0 by omega]
   rfl
  replace hdv:=Zb hdv;replace hT:=Zb hT;replace hnt:=Zb hnt;clear htk;go_wp2_with fail;refine (Zex (some ⟨w.heap.size,0,none⟩) 0 0 [] w2 (PolyL.nil _ _ _ (Nat.zero_le _))).mono ?_;rintro e w3 ⟨rfl,-,-,hb3⟩;have hPt3:=hPt.below hb3;have hB4:=hB3.trans (hb3.mono hB3.size);go_wp2_with fail;rw [Exit.noGoto_ret];go_returns;exact ⟨hB4,_,_,_,_,_,_,rfl,by rw [hdv.out];exact PolyL.nil _ _ _ (Nat.zero_le _),by rw [hdv.out];exact hPt3⟩
end Go.Proofs.Ythappeninglakaa
