/- Package covar: sum. Package covar: Image. Reference of -/
import Derived.Deep.LoopGhost
import Derived.Test.YtkcbhbddgmkoiaaGreatZc45
set_option maxRecDepth 100000
set_option maxHeartbeats 8000000
set_option linter.unusedSimpArgs false
set_option linter.unusedVariables false
namespace Go.Proofs.YtkcbhbddgmkoiaaGreat
open Go.RowKit
attribute [local go_sem] Zg
theorem csum_ok (L : Option Addr) (k cap : Nat) (qs : List Rat) (w : World) (hl : FL w L k cap qs) (hk : k <= 100) (hs : ∀ j,j < k -> Sm (sumF qs j)) (he : ∀ j : Nat,j < k -> Sm (qs[j]?.getD 0)) :
    Calls Tryz.prog 40 #[.slice L k cap] w (Zci w (sumF qs k)):=by
 have hcap:=hl.cap;unfold maxLen at hcap;obtain ⟨W0,hW0,hB0,q1,s0⟩:=Zae w 83 #[.bool false,.slice none 0 0,.bool false,.slice none 0 0];obtain ⟨gR,hgR⟩ : ∃ g,w.heap.size = g:=⟨_,rfl⟩;rw [hgR] at q1 s0 hB0;have hlH:=Za hl;have hsH:=Za hs;have heH:=Za he;clear hl hs he;go_enter Tryz.func40,Tryz.ntmps40;go_wp2_with fail;(try rw [hW0]);(try rw [hgR]);refine (Zh1 0 W0 (by decide) (by decide)).mono ?_;rintro e w1 ⟨hb1,pn,pA,pk,pc,pm,pB,pj,pd,rfl,hf⟩;replace q1:=Zc hb1 q1;obtain ⟨V1,hV1,hBV,t0,tz⟩:=Zae w1 83 #[.bool false,.slice none 0 0,.bool false,.slice none 0 0];obtain ⟨g0,hg0⟩ : ∃ g,w1.heap.size = g:=⟨_,rfl⟩;rw [hg0] at t0 tz;obtain ⟨u0,u1,u2,u3,v0,v1,v2,v3⟩:=t0.four;obtain ⟨V2,hV2,p2,hK2,s2⟩:=Zaa pn pA pk pc pm pB pj pd t0;have hB2 : Below w1.heap.size w1 V2:=hBV.trans (hK2.to_below (fun k e=>by omega) hBV.size);have hA:=Za (hf.below hB2);have q12:=Zc hB2 q1;have hBw1 : Hid (Below gR w w1):=Za (hB0.trans (hb1.mono (by omega)));have hsz : Hid (V2.heap.size = g0 + 1 /\ gR < g0):=Za ⟨by rw [s2,tz],by have:=hb1.size;omega⟩;have hBV2 : Hid (Below gR w V2):=Za (hBw1.out.trans (hB2.mono (by have:=hb1.size;omega)));have hgRH:=Za hgR;clear hf hBV hK2 s2 tz hB2 q1 hb1 hB0 s0 hW0;go_wp2_with fail;(try rw [hg0]);(try rw [hV2]);clear u0 u1 u2 u3 v0 v1 v2 v3 t0 hV1 hV2 hg0 hgR
 go_loopg [9] k (fun t iv wr=>∃ (i : Nat) (xn : Bool) (xA : Option Addr) (xk xc : Nat) (xm : Bool) (xB : Option Addr) (xj xd : Nat),i + t = k /\ iv = .int .i64 i /\ Blk wr g0 83 #[.bool xn,.slice xA xk xc,.bool xm,.slice xB xj xd] /\ Hid (Fr wr xn xA xk xc xm xB xj xd (sumF qs i)) /\ Kept (fun k=>k = g0) V2 wr)
 case atStart=>exact ⟨0,_,_,_,_,_,_,_,_,by omega,rfl,p2,hA,Kept.refl _ _⟩
 case round =>
  obtain ⟨i,xn,xA,xk,xc,xm,xB,xj,xd,hik,rfl,hb3,hX,hK⟩:=hrel;have hsz':=hsz.out;have hbR:=hK.blk q12 (by omega);have hBwr : Below gR w wr:=hBV2.out.trans (hK.to_below (fun k hk=>by omega) (by omega));obtain ⟨x0,x1,x2,x3,y0,y1,y2,y3⟩:=hb3.four
  cases gk with
  | zero =>
   obtain rfl : i = k:=by omega
   have t1 : decide ((i : Int) < (i : Int)) = false:=by simp
   obtain ⟨c0,c1,c2,c3,z0,z1,z2,z3⟩:=hbR.four;obtain ⟨W5,hW5,q5,hK5,s5⟩:=Zaa xn xA xk xc xm xB xj xd hbR;go_wp2_with fail;(try rw [hW5]);obtain ⟨r0,r1,r2,r3,-⟩:=q5.four;refine bodyPost_ret (v:=.agg #[.bool xn,.slice xA xk xc,.bool xm,.slice xB xj xd]) (by simp [results,Tryz.results40,go_sem,r0,r1,r2,r3]) rfl ?_;refine ⟨?_,_,_,_,_,_,_,_,_,rfl,hX.out.keptN hK5 hbR (Zar _ _ _ _ _ _ _ _)⟩;rw [hgRH.out];exact hBwr.trans (hK5.to_below (fun k e=>by omega) (by have:=hBwr.size;have:=hK.size;omega))
  | succ t =>
   obtain rfl : t = k - (i + 1):=by omega
   have hin : i < k:=by omega
   have t1 : decide ((i : Int) < (k : Int)) = true:=decide_eq_true (by omega)
   have bi : (i : Int) < (k : Int):=by omega
   obtain ⟨gl,o,yn,yA,yk,yc,ym,yB,yj,yd,rfl,⟨c0,c1,c2,c3⟩,hY⟩:=(hlH.out.below (hgRH.out ▸ hBwr)).at_ hin;obtain ⟨W1,hW1,hB1,p1,s1⟩:=Zae wr 83 #[.bool false,.slice none 0 0,.bool false,.slice none 0 0];obtain ⟨gn,hgn⟩ : ∃ g,wr.heap.size = g:=⟨_,rfl⟩;rw [hgn] at p1 s1;have hb31:=Zc hB1 hb3;obtain ⟨u0,u1,u2,u3,v0,v1,v2,v3⟩:=p1.four;obtain ⟨W2,hW2,p2',hK2',s2'⟩:=Zaa yn yA yk yc ym yB yj yd p1;have hB2' : Below wr.heap.size wr W2:=hB1.trans (hK2'.to_below (fun k e=>by omega) hB1.size);have hX2:=hX.out.below hB2';have hY2:=hY.below hB2';have hb32:=Zc hB2' hb3;obtain ⟨m0,m1,m2,m3,n0,n1,n2,n3⟩:=hb32.four;obtain ⟨o0,o1,o2,o3,-⟩:=p2'.four;have e0:=Zb hB1 c0;have e1:=Zb hB1 c1;have e2:=Zb hB1 c2;have e3:=Zb hB1 c3;go_wp2_with fail;(try rw [hW2]);go_wp2_with fail;refine (fAdd_ok xn xm yn ym xA xB yA yB xk xc xj xd yk yc yj yd _ _ W2 hX2 hY2 (hsH.out i hin) (heH.out i hin)).mono ?_;rintro e w3 ⟨hb3',rn,rA,rk,rc,rm,rB,rj,rd,rfl,hf⟩;go_wp2_with fail;refine (Ze2 rn rm rA rB rk rc rj rd _ w3 hf).mono ?_;rintro e w4 ⟨hb4,sn,sA,sk,sc,sm,sB,sj,sd,rfl,hr⟩;have hb34:=Zc hb4 (Zc hb3' hb32);obtain ⟨m0',m1',m2',m3',n0',n1',n2',n3'⟩:=hb34.four;obtain ⟨W5,hW5,q5,hK5,s5⟩:=Zaa sn sA sk sc sm sB sj sd hb34;clear x0 x1 x2 x3 y0 y1 y2 y3 m0 m1 m2 m3 n0 n1 n2 n3 o0 o1 o2 o3 u0 u1 u2 u3 v0 v1 v2 v3 e0 e1 e2 e3 c0 c1 c2 c3;go_wp2_with fail;(try rw [hW5]);have hF5:=Za (hr.keptN hK5 hb34 (Zar _ _ _ _ _ _ _ _))
   have hK6 : Kept (fun k=>k = g0) V2 W5:=((hK.below hB2').below (hb3'.trans (hb4.mono hb3'.size))).trans hK5
   go_roundg (k - (i + 1))
   case measure=>omega
   case rel=>exact ⟨i + 1,_,_,_,_,_,_,_,_,by omega,by go_num,q5,hF5,hK6⟩
theorem Zqp : Sm 0:=⟨Zca _,by show (1 : Nat) < _;rw [show (1000 : Nat) = 999 + 1 by rfl,Zah];have:=Zca 999;omega⟩
theorem Zip (A : Option Addr) (n c : Nat) (rs : List RX) (B : Option Addr) (m d : Nat) (ri : List RI) (w : World) (h : MXL w A n c rs) (hv : MIL w B m d ri) (hF : FacC rs) (hS4 : fewM 4 rs) (hn4 : Zal rs = 0 -> n <= 4) (hm4 : m <= 4 \/ 6 < m) (hm9 : m <= 100) :
    Calls Tryz.prog 10 #[.slice A n c,.slice B m d] w (ImgPost rs (ri.map RI.l) w):=by
 obtain ⟨iF,hi,hz0,hz1,hz2⟩:=info_parts Ze3;obtain ⟨iS,ki,kz0,kz1,kz2⟩:=info_parts Zgr
 have hmx : Tryz.prog.follows .mixedOrders = true:=by kernel_rfl
 have hts : (41 : TypeId) ≠ 64:=by decide
 have hnl:=Za h.1;have hml:=Za hv.1;obtain ⟨js,hjs⟩ : ∃ js,ri.map RI.l = js:=⟨_,rfl⟩;have hjl : Hid (js.length = m):=Za (by rw [<- hjs,List.length_map];exact hml.out);have hjat : Hid (∀ (i : Nat) (r : RI),ri[i]? = some r -> js[i]? = some r.l):=Za (fun i r hr=>by rw [<- hjs,List.getElem?_map,hr];rfl);rw [hjs];replace hjs:=Za hjs;have hmd:=hv.2.1;have hdm:=hv.2.2.1;have hnc:=h.2.1;have hcm:=h.2.2.1;unfold maxLen at hcm hdm;obtain ⟨W0,hW0,hB0,q0,s0⟩:=Zae w 27 #[.int .i64 0];have hC:=Za (Zg2 A n c rs W0 (h.below hB0) hF);have hH:=Za h;have hVH:=Za hv;replace q0:=Za q0;clear h hv s0
 go_enter_defers Tryz.func10,Tryz.ntmps10
 go_wp2_with fail;(try rw [hW0]);refine hC.out.mono ?_;rintro e w1 ⟨hb1,⟨h0,v1,v2,L0,rfl,-⟩ | ⟨h0,rfl⟩⟩
 case inr =>
  have hB1:=hB0.trans (hb1.mono hB0.size);have q2:=Zc hb1 q0.out;obtain ⟨E,hE⟩ : ∃ E,Zal rs = E:=⟨_,rfl⟩;rw [hE] at h0 ⊢;have hE0:=Za h0;have hPE:=Zmb (js:=js) hE h0;replace hE:=Za hE;go_wp2_with fail;refine leaves_cons (f:=32) (args:=#[.pointer (some ⟨w.heap.size,0,none⟩)]) (by simp) (by simp [go_sem]) ?_;have e0:=(q2).cell 0
  simp at e0
  refine (Zan ⟨w.heap.size,0,none⟩ E 0 _ e0 ((q2).frozen 0)).mono ?_;rintro e u' w'' ⟨rfl,rfl,hw⟩;obtain ⟨V,hV,hBV,-,-,hk,sV⟩:=Zs 119 #[.int .i64 E] (hB1) ((hB1).size);obtain ⟨U,hU,hBU,q3,-⟩:=Zam E hBV (Nat.le_refl _) (hk _ _ _ (q2));rw [hV,hU] at hw;subst hw;have r4:=q3.cell 0
  simp at r4
  exact ⟨.tuple #[.slice none 0 0,.int .i64 E],by simp [results,Tryz.results10,go_sem,r4],ImgPost.fall hBU hPE (by first | decide | assumption | exact hE0.out)⟩
 have hB1:=hB0.trans (hb1.mono hB0.size);have q1:=Za (Zc hb1 q0.out);obtain ⟨hcV,hcS,hcP⟩:=Zkw h0;have hM:=Za (hcV.good hH.out);have hrow : Hid (∀ a,a < n -> ((qM rs)[a]?.getD []).length = n):=Za (fun a ha=>hcV.row hH.out a ha);have hSE : Hid (SmE 4 (qM rs)):=Za (hcV.small hH.out hS4);have hn4' : n <= 4:=hn4 h0
 have hn0 : 0 < n:=by rw [<- hnl.out];exact hcV.facts.1
 have hqml : Hid ((qM rs).length = n):=Za (Znw hH.out);have hc0:=Za h0;clear h0 hcV hcS hcP q0 hC hb1 hB0 hW0
 by_cases hm6 : 6 < m
 case pos =>
  have t1 : decide ((m : Int) <= 6) = false:=decide_eq_false (by omega);have hPE:=Zj4 hc0.out (js:=js) (by rw [hjl.out];exact hm6);go_wp2_with fail;refine (Zad 4 w1).mono ?_;rintro e w6 ⟨rfl,rfl⟩;go_wp2_with fail;refine leaves_cons (f:=32) (args:=#[.pointer (some ⟨w.heap.size,0,none⟩)]) (by simp) (by simp [go_sem]) ?_;have e0:=(q1.out).cell 0
  simp at e0
  refine (Zan ⟨w.heap.size,0,none⟩ 4 0 _ e0 ((q1.out).frozen 0)).mono ?_;rintro e u' w'' ⟨rfl,rfl,hw⟩;obtain ⟨V,hV,hBV,-,-,hk,sV⟩:=Zs 119 #[.int .i64 4] (hB1) ((hB1).size);obtain ⟨U,hU,hBU,q3,-⟩:=Zam 4 hBV (Nat.le_refl _) (hk _ _ _ (q1.out));rw [hV,hU] at hw;subst hw;have r4:=q3.cell 0
  simp at r4
  exact ⟨.tuple #[.slice none 0 0,.int .i64 4],by simp [results,Tryz.results10,go_sem,r4],ImgPost.fall hBU hPE (by first | decide | assumption | exact hE0.out)⟩
 have t1 : decide ((m : Int) <= 6) = true:=decide_eq_true (by omega)
 have hm4' : m <= 4:=by omega
 by_cases hm0 : m = 0
 case pos =>
  have t2 : decide ((0 : Int) < (m : Int)) = false:=decide_eq_false (by omega);have t2' : decide (0 < m) = false:=decide_eq_false (by omega);have hPE:=Zmc hc0.out (js:=js) (by rw [hjl.out];exact hm0);replace hm0:=Za hm0;go_wp2_with fail;refine (Za4 4 w1).mono ?_;rintro e w1 ⟨rfl,rfl⟩;go_wp2_with fail;refine (Zad 8 w1).mono ?_;rintro e w6 ⟨rfl,rfl⟩;go_wp2_with fail;refine leaves_cons (f:=32) (args:=#[.pointer (some ⟨w.heap.size,0,none⟩)]) (by simp) (by simp [go_sem]) ?_;have e0:=(q1.out).cell 0
  simp at e0
  refine (Zan ⟨w.heap.size,0,none⟩ 8 0 _ e0 ((q1.out).frozen 0)).mono ?_;rintro e u' w'' ⟨rfl,rfl,hw⟩;obtain ⟨V,hV,hBV,-,-,hk,sV⟩:=Zs 119 #[.int .i64 8] (hB1) ((hB1).size);obtain ⟨U,hU,hBU,q3,-⟩:=Zam 8 hBV (Nat.le_refl _) (hk _ _ _ (q1.out));rw [hV,hU] at hw;subst hw;have r4:=q3.cell 0
  simp at r4
  exact ⟨.tuple #[.slice none 0 0,.int .i64 8],by simp [results,Tryz.results10,go_sem,r4],ImgPost.fall hBU hPE (by first | decide | assumption | exact hE0.out)⟩
 have t2 : decide ((0 : Int) < (m : Int)) = true:=decide_eq_true (by omega);have t2' : decide (0 < m) = true:=decide_eq_true (by omega);replace hm0:=Za hm0;go_wp2_with fail;refine (Za4 4 w1).mono ?_;rintro e w1 ⟨rfl,rfl⟩;go_wp2_with fail;refine (Za4 8 w1).mono ?_;rintro e w1 ⟨rfl,rfl⟩;go_wp2_with fail
 go_loopg [30] m (fun t iv wr=>∃ i : Nat,i + t = m /\ iv = .int .i64 i /\ Hid (∀ (k : Nat) (l : List Int),k < i -> js[k]? = some l -> Zdy rs.length l = true) /\ Below w1.heap.size w1 wr)
 case atStart=>exact ⟨0,by omega,rfl,Za (fun k l hk=>by omega),Below.refl _ _⟩
 case round =>
  obtain ⟨wi,rfl⟩ : ∃ x : World,x = wr:=⟨_,rfl⟩;obtain ⟨i,hik,rfl,hall,hBi⟩:=hrel;have hBwi:=hB1.trans (hBi.mono hB1.size)
  cases gk with
  | succ t =>
   obtain rfl : t = m - (i + 1):=by omega
   have him : i < m:=by omega
   have t3 : decide ((i : Int) < (m : Int)) = true:=decide_eq_true (by omega)
   have bi : (i : Int) < (m : Int):=by omega
   obtain ⟨g,o,⟨aA,aN,aC,aL⟩,rfl,he,c0,hLa⟩:=(hVH.out.below hBwi).at_ him;simp only at c0 hLa;have haL:=hLa.1;have hal:=hLa.2.1;have hac:=hLa.2.2.1;unfold maxLen at hac;have hje : Hid (js[i]? = some aL):=Za (hjat.out i _ he);have qi:=Za (Zc hBi q1.out);obtain ⟨b,hb⟩ : ∃ b,Zja aL = b:=⟨_,rfl⟩;have hCo:=Za (fun W1 (hbb : Below wi.heap.size wi W1)=>Zm5 aA aN aC aL W1 (hLa.below hbb) b hb);have hbad : Hid (Zdy rs.length aL = false -> Zeg rs js = 8):=Za (fun hf=>Zlk hc0.out (by rw [hjl.out];exact hm6) (List.mem_of_getElem? hje.out) hf)
   have hgood : Hid (Zdy rs.length aL = true -> ∀ (k : Nat) (l : List Int),k < i + 1 -> js[k]? = some l -> Zdy rs.length l = true):=Za (fun hf k l hk hl=>by
    rcases Nat.lt_or_ge k i with h' | h'
    ·exact hall.out k l h' hl
    ·obtain rfl : k = i:=by omega
     rw [hje.out] at hl
     cases hl;exact hf)
   replace he:=Za he;replace haL:=Za haL;clear hLa;go_wp2_with fail;refine (hCo.out _ (by first | exact Below.refl _ _ | exact Zj (Below.refl _ _) _)).mono ?_;rintro e w2 ⟨rfl,hb2⟩;have qi2:=Zc hb2 qi.out;have hB2:=hBwi.trans (hb2.mono hBwi.size)
   by_cases hq : aN = n
   case neg =>
    have t4 : ((aN : Int) == (n : Int)) = false:=beq_eq_false_iff_ne.2 (by omega)
    have t4' : decide (aN = n) = false:=by simpa using hq
    have hPE:=hbad.out (by unfold Zdy;rw [haL.out,hnl.out,decide_eq_false hq];rfl);replace hq:=Za hq;replace hb:=Za hb;go_wp2_with fail;refine (Zad 8 w2).mono ?_;rintro e w6 ⟨rfl,rfl⟩;go_wp2_with fail;refine leaves_cons (f:=32) (args:=#[.pointer (some ⟨w.heap.size,0,none⟩)]) (by simp) (by simp [go_sem]) ?_;have e0:=(qi2).cell 0
    simp at e0
    refine (Zan ⟨w.heap.size,0,none⟩ 8 0 _ e0 ((qi2).frozen 0)).mono ?_;rintro e u' w'' ⟨rfl,rfl,hw⟩;obtain ⟨V,hV,hBV,-,-,hk,sV⟩:=Zs 119 #[.int .i64 8] (hB2) ((hB2).size);obtain ⟨U,hU,hBU,q3,-⟩:=Zam 8 hBV (Nat.le_refl _) (hk _ _ _ (qi2));rw [hV,hU] at hw;subst hw;have r4:=q3.cell 0
    simp at r4
    exact ⟨.tuple #[.slice none 0 0,.int .i64 8],by simp [results,Tryz.results10,go_sem,r4],ImgPost.fall hBU hPE (by first | decide | assumption | exact hE0.out)⟩
   have t4 : ((aN : Int) == (n : Int)) = true:=beq_iff_eq.2 (by omega)
   have t4' : decide (aN = n) = true:=by simpa using hq
   cases b
   ·have hall2:=Za (hgood.out (by unfold Zdy;rw [haL.out,hnl.out,hb,decide_eq_true hq];rfl))
    replace hq:=Za hq;replace hb:=Za hb;go_wp2_with fail;refine (Za4 8 w2).mono ?_;rintro e w2 ⟨rfl,rfl⟩;go_wp2_with fail
    go_roundg (m - (i + 1))
    case measure=>omega
    case rel=>exact ⟨i + 1,by omega,by go_num,hall2,hBi.trans (hb2.mono hBi.size)⟩
   ·have hPE:=hbad.out (by unfold Zdy;rw [hb];simp)
    replace hq:=Za hq;replace hb:=Za hb;go_wp2_with fail;refine (Zad 8 w2).mono ?_;rintro e w6 ⟨rfl,rfl⟩;go_wp2_with fail;refine leaves_cons (f:=32) (args:=#[.pointer (some ⟨w.heap.size,0,none⟩)]) (by simp) (by simp [go_sem]) ?_;have e0:=(qi2).cell 0
    simp at e0
    refine (Zan ⟨w.heap.size,0,none⟩ 8 0 _ e0 ((qi2).frozen 0)).mono ?_;rintro e u' w'' ⟨rfl,rfl,hw⟩;obtain ⟨V,hV,hBV,-,-,hk,sV⟩:=Zs 119 #[.int .i64 8] (hB2) ((hB2).size);obtain ⟨U,hU,hBU,q3,-⟩:=Zam 8 hBV (Nat.le_refl _) (hk _ _ _ (qi2));rw [hV,hU] at hw;subst hw;have r4:=q3.cell 0
    simp at r4
    exact ⟨.tuple #[.slice none 0 0,.int .i64 8],by simp [results,Tryz.results10,go_sem,r4],ImgPost.fall hBU hPE (by first | decide | assumption | exact hE0.out)⟩
  | zero =>
   obtain rfl : m = i:=by omega
   have t3 : decide ((m : Int) < (m : Int)) = false:=by simp
   have hgoodJ : Hid (∀ l ∈ js,l.length = n /\ Zcw l):=Za (fun l hl=>by
    obtain ⟨k,hk,e⟩:=List.getElem_of_mem hl;have:=hall.out k l (by rw [<- hjl.out];exact hk) (by rw [List.getElem?_eq_getElem hk,e]);have h2:=Zjr this
    rw [hnl.out] at h2;exact h2)
   have hPE : Hid (Zeg rs js = 0):=Za (Zod hc0.out (by rw [hjl.out];exact hm6) (by rw [hjl.out];exact hm0.out) (fun l hl=>by
    obtain ⟨k,hk,e⟩:=List.getElem_of_mem hl
    exact hall.out k l (by rw [<- hjl.out];exact hk) (by rw [List.getElem?_eq_getElem hk,e])))
   have hq2 : Hid (Blk wi w.heap.size 27 #[.int .i64 0]):=Za (Zc hBi q1.out);have hgw : Hid (w.heap.size < wi.heap.size):=Za hq2.out.lt;have hMi:=Za (hM.out.below hBwi);have hVi:=Za (hVH.out.below hBwi);clear q1;go_wp2_with fail
   go_loopg [9,49] m (fun t ov jv wr=>∃ (j : Nat) (L : List RS),j + t = m /\ jv = .int .i64 j /\ MatOA 41 64 wr wi.heap.size ov L ((Zeh (Zh (qM rs)) n js).take j) /\ Below wi.heap.size wi wr)
   case atStart=>exact ⟨0,[],by omega,rfl,MatOA.nil _ _ _ _,Below.refl _ _⟩
   case round =>
    obtain ⟨wj,rfl⟩ : ∃ x : World,x = wr:=⟨_,rfl⟩;obtain ⟨j,L1,hjk,rfl,hMO,hBj⟩:=hrel;have hLl : Hid (L1.length = j):=Za (by rw [hMO.2.1,List.length_take,Zcb,hjl.out];omega);obtain ⟨oA,on_,oc,rfl⟩:=hMO.1.isSlP
    cases gk with
    | zero =>
     obtain rfl : m = j:=by omega
     have t4 : decide ((m : Int) < (m : Int)) = false:=by simp
     have hfullQ : (Zeh (Zh (qM rs)) n js).take m = Zeh (Zh (qM rs)) n js:=List.take_of_length_le (by rw [Zcb,hjl.out];exact Nat.le_refl _);rw [hfullQ] at hMO;obtain ⟨a7,a9,e7,hMF⟩:=hMO.mflA;rw [Zcb,hjl.out] at e7 hMF
     cases e7
     obtain ⟨rt,hMX,hqt,hst⟩:=hMF.mxs;have hFt : Hid (FacC rt):=Za (Zol (n:=n) hSE.out hn4' hqml.out hrow.out hn0 (fun a ha=>(hgoodJ.out a ha).2) (by rw [hjl.out];exact hm4') hqt (by rw [hMX.1,hjl.out]));replace hst:=Za hst;replace hqt:=Za hqt;replace hMX:=Za hMX;replace hMO:=Za hMO;clear hMF;go_wp2_with fail;refine (Zp0 _ m _ rt wj hMX.out hFt.out).mono ?_;rintro e w5 ⟨hb5,⟨hok,rfl⟩ | ⟨hno,rfl⟩⟩
     ·have q5:=Zc (hBj.trans (hb5.mono hBj.size)) hq2.out
      have hBw : Below w.heap.size w w5:=hBwi.trans ((hBj.trans (hb5.mono hBj.size)).mono hBwi.size);have hMO5:=hMO.out.kept hb5;have e0:=q5.cell 0;have z0:=q5.frozen 0
      simp at e0
      obtain ⟨U,hU,hBU,q3,-⟩:=Zam 0 hBw (Nat.le_refl _) q5;have r4:=q3.cell 0
      simp at r4
      have hKU : Kept (fun k=>k = w.heap.size) w5 U:=by rw [<- hU];exact Kept.set_ (G:=fun k=>k = w.heap.size) (Kept.refl _ _) (p:=⟨w.heap.size,0,none⟩) (.inl rfl) _
      have hMU:=Za ((hMO5.boxC q5 (Zj6 _) hgw.out hKU).lowerC (Nat.le_of_lt hgw.out));replace hok:=Za hok;clear hKU q5 hMO5;go_wp2_with fail;(try rw [hU]);refine leaves_cons (f:=32) (args:=#[.pointer (some ⟨w.heap.size,0,none⟩)]) (by simp) (by simp [go_sem]) ?_;refine (Zel _ _).mono ?_;rintro e u' w'' ⟨rfl,rfl,rfl⟩;refine ⟨.tuple #[.slice oA m oc,.int .i64 0],by simp [results,Tryz.results10,go_sem,r4],hBU,.inl ⟨hPE.out,rt,by rw [hnl.out];exact hst.out,.inl ⟨hok.out,_,L1,rfl,?_⟩⟩⟩;rw [hnl.out];exact hMU.out
     ·have q5:=Zc (hBj.trans (hb5.mono hBj.size)) hq2.out
      have hBw : Below w.heap.size w w5:=hBwi.trans ((hBj.trans (hb5.mono hBj.size)).mono hBwi.size);replace hno:=Za hno;go_wp2_with fail;refine leaves_cons (f:=32) (args:=#[.pointer (some ⟨w.heap.size,0,none⟩)]) (by simp) (by simp [go_sem]) ?_;have e0:=q5.cell 0
      simp at e0
      refine (Zan ⟨w.heap.size,0,none⟩ 16 0 _ e0 (q5.frozen 0)).mono ?_;rintro e u' w'' ⟨rfl,rfl,hw⟩;obtain ⟨V,hV,hBV,-,-,hk,sV⟩:=Zs 119 #[.int .i64 16] hBw (hBw.size);obtain ⟨U,hU,hBU,q3,-⟩:=Zam 16 hBV (Nat.le_refl _) (hk _ _ _ q5);rw [hV,hU] at hw;subst hw;have r4:=q3.cell 0
      simp at r4
      exact ⟨.tuple #[.slice none 0 0,.int .i64 16],by simp [results,Tryz.results10,go_sem,r4],hBU,.inl ⟨hPE.out,rt,by rw [hnl.out];exact hst.out,.inr ⟨hno.out,rfl⟩⟩⟩
    | succ t =>
     obtain rfl : t = m - (j + 1):=by omega
     have hjm : j < m:=by omega
     have t4 : decide ((j : Int) < (m : Int)) = true:=decide_eq_true (by omega)
     have bj : (j : Int) < (m : Int):=by omega
     obtain ⟨gJ,oJ,⟨aA,aN,aC,aL⟩,rfl,he,c0,hLa⟩:=hVi.out.at_ hjm;simp only at c0 hLa;have hje : Hid (js[j]? = some aL):=Za (hjat.out j _ he);obtain ⟨haN0,haNear⟩:=hgoodJ.out aL (List.mem_of_getElem? hje.out)
     have haN : n = aN:=by rw [<- haN0];exact hLa.1
     subst haN;obtain ⟨gA,oA',rfl,ca0⟩:=hLa.atC hn0;have halc:=hLa.2.1;have halm:=hLa.2.2.1;unfold maxLen at halm;have hjget : Hid (js[j]?.getD [] = aL):=Za (by rw [hje.out];rfl);have c0':=Zb hBj c0;replace haNear:=Za haNear;replace haN0:=Za haN0;replace hLa:=Za hLa;replace he:=Za he;replace hMO:=Za hMO;clear ca0;go_wp2_with fail
     go_loopg [12,55] m (fun t rv kv wr=>∃ k : Nat,k + t = m /\ kv = .int .i64 k /\ OwnF 64 wr wj.heap.size rv ((Zbv (Zh (qM rs)) n js aL).take k) /\ Below wj.heap.size wj wr)
     case atStart=>exact ⟨0,by omega,rfl,by simpa using OwnF.nil 64 wj wj.heap.size,Below.refl _ _⟩
     case round =>
      clear c0';obtain ⟨wk,rfl⟩ : ∃ x : World,x = wr:=⟨_,rfl⟩;obtain ⟨k,hkm,rfl,hO,hBk⟩:=hrel;have hBjk : Below wi.heap.size wi wk:=hBj.trans (hBk.mono hBj.size);obtain ⟨rA,rc,e9,hrF⟩:=hO.fl
      have hrl : ((Zbv (Zh (qM rs)) n js aL).take k).length = k:=by rw [List.length_take,Zc5,hjl.out];omega
      rw [hrl] at e9 hrF;subst e9
      cases gk with
      | zero =>
       obtain rfl : m = k:=by omega
       have t5 : decide ((m : Int) < (m : Int)) = false:=by simp
       have hMk:=hMO.out.kept hBk
       have hlt : Hid (∀ s ∈ L1,∀ k',s.val.ownBlock = some k' -> k' < wj.heap.size):=Za (fun s hs k' hk'=>by
        obtain ⟨q,hq,e⟩:=List.getElem_of_mem hs
        exact (hMO.out.2.2.1 q s (by rw [List.getElem?_eq_getElem hq,e])).blt k' hk')
       obtain ⟨Y1,hY1⟩ : ∃ Y,wk.alloc (.cells #[.slice rA m rc] 41) = Y:=⟨_,rfl⟩;obtain ⟨gz,hgz⟩ : ∃ g,wk.heap.size = g:=⟨_,rfl⟩
       have hBY : Below wk.heap.size wk Y1:=by rw [<- hY1];exact (Below.refl _ _).alloc (Nat.le_refl _) _
       have hbY : Blk Y1 gz 41 #[.slice rA m rc]:=by rw [<- hY1,<- hgz];exact Blk.new _ _ _
       have hMY:=hMk.kept hBY;have hOY:=hO.kept hBY;have hBiY : Below wi.heap.size wi Y1:=hBjk.trans (hBY.mono hBjk.size)
       have hll : L1.length + 1 <= 1000:=by rw [hLl.out];omega
       have hown:=hMY.1;have hsz:=hBiY.size;replace hO:=Za hO;replace hMk:=Za hMk;replace hOY:=Za hOY;clear hrF;go_wp2_with ((try rw [hY1]);(try rw [hgz]);at_builtin;refine Zbq _ rfl (.tmp 101) (.tmp 103) 22 rfl wi.heap.size 41 iS Tryz.underlying22 ki kz0 kz1 kz2 _ L1 rfl hown _ (some ⟨gz,0,none⟩) 1 1 [⟨rA,m,rc⟩] rfl (Zb1 hbY) rfl hll hsz ?_;intro v5 w5 hR5 hg5 hk5);have hM5:=hMY.snoc hts (r:=⟨rA,m,rc⟩) hOY.out hBj.size hlt.out hR5 hg5 hk5;have hB5:=hBiY.grown hg5 hsz (fun k hk=>hown.row_ge k hk);have hfull : (Zbv (Zh (qM rs)) n js aL).take m = Zbv (Zh (qM rs)) n js aL:=List.take_of_length_le (by rw [Zc5,hjl.out];exact Nat.le_refl _);have hsc:=Zjp (n:=n) (Q:=Zh (qM rs)) (js:=js) (k:=j) (by rw [hjl.out];exact hjm);rw [hjget.out] at hsc;rw [hfull,hsc] at hM5;replace hM5:=Za hM5
       go_roundg (m - (j + 1))
       case measure=>omega
       case rel=>exact ⟨j + 1,_,by omega,by go_num,hM5.out,hB5⟩
      | succ t' =>
       obtain rfl : t' = m - (k + 1):=by omega
       have hkm' : k < m:=by omega
       have t5 : decide ((k : Int) < (m : Int)) = true:=decide_eq_true (by omega)
       have bk : (k : Int) < (m : Int):=by omega
       obtain ⟨gJ2,oJ2,⟨bA,bN,bC,bL⟩,eJ,he2,cb0,hLb⟩:=hVi.out.at_ hkm';simp only at cb0 hLb
       cases eJ
       have hje2 : Hid (js[k]? = some bL):=Za (hjat.out k _ he2);obtain ⟨hbN0,hbNear⟩:=hgoodJ.out bL (List.mem_of_getElem? hje2.out)
       have hbN : n = bN:=by rw [<- hbN0];exact hLb.1
       subst hbN;obtain ⟨gB,oB',rfl,cb1⟩:=hLb.atC hn0;have hblc:=hLb.2.1;have hblm:=hLb.2.2.1;unfold maxLen at hblm;have hkget : Hid (js[k]?.getD [] = bL):=Za (by rw [hje2.out];rfl);have cb0':=Zb hBjk cb0;have hsmI : Hid (∀ i t,i <= n -> t <= n -> (i = n -> t = 0) -> Sm (imT (Zh (qM rs)) n aL bL i t)):=Za (fun i t hi ht hit=>Zrf hSE.out hn4' hqml.out hrow.out haNear.out hbNear hn0 hi ht hit);have hterm : Hid (∀ i t,Sm (Zh (qM rs) i t) /\ Sm ((gI aL i : Int) : Rat) /\ Sm ((gI bL t : Int) : Rat) /\ Sm (Zh (qM rs) i t * ((gI aL i : Int) : Rat)) /\ Sm (Zh (qM rs) i t * ((gI aL i : Int) : Rat) * ((gI bL t : Int) : Rat))):=Za (fun i t=>Zor hSE.out haNear.out hbNear i t);replace hbNear:=Za hbNear;replace hbN0:=Za hbN0;replace hLb:=Za hLb;replace he2:=Za he2;replace hO:=Za hO;clear hrF cb1;go_wp2_with fail;refine (Zh1 0 wk (by decide) (by decide)).mono ?_;rintro e w2 ⟨hb2,zn,zA,zk,zc,zm,zB,zj,zd,rfl,hf0⟩;obtain ⟨V1,hV1,hBV1,a1,s1⟩:=Zae w2 83 #[.bool false,.slice none 0 0,.bool false,.slice none 0 0];obtain ⟨gs,hgs⟩ : ∃ g,w2.heap.size = g:=⟨_,rfl⟩;rw [hgs] at a1 s1;obtain ⟨u0,u1,u2,u3,v0,v1',v2',v3⟩:=a1.four;obtain ⟨W4,hW4,a4,hK4,s4⟩:=Zaa zn zA zk zc zm zB zj zd a1;have hB4 : Below w2.heap.size w2 W4:=hBV1.trans (hK4.to_below (fun k e=>by omega) hBV1.size);have hs4 : Hid (W4.heap.size = gs + 1):=Za (by rw [s4,s1]);have hY4 : Hid (Fr W4 zn zA zk zc zm zB zj zd (imT (Zh (qM rs)) n aL bL 0 0)):=Za (by rw [Zka];exact hf0.below hB4)
       have hBk4 : Hid (Below wk.heap.size wk W4):=Za (hb2.trans (hB4.mono hb2.size));replace a4:=Za a4;replace hB4:=Za hB4;clear hf0 hBV1 hK4 s1 s4;go_wp2_with fail;(try rw [hgs]);(try rw [hW4]);have hgsk : Hid (wk.heap.size <= gs):=Za (by rw [<- hgs];exact hb2.size);clear u0 u1 u2 u3 v0 v1' v2' v3 a1 hV1 hW4 cb0' hb2 hB4;replace hgs:=Za hgs
       go_loopg [62] n (fun t iv wr=>∃ (i : Nat) (sn : Bool) (sA : Option Addr) (sk sc : Nat) (sm : Bool) (sB : Option Addr) (sj sd : Nat),i + t = n /\ iv = .int .i64 i /\ Blk wr gs 83 #[.bool sn,.slice sA sk sc,.bool sm,.slice sB sj sd] /\ Hid (Fr wr sn sA sk sc sm sB sj sd (imT (Zh (qM rs)) n aL bL i 0)) /\ Kept (fun g=>g = gs) W4 wr)
       case atStart=>exact ⟨0,_,_,_,_,_,_,_,_,by omega,rfl,a4.out,hY4,Kept.refl _ _⟩
       case round =>
        clear a4 hY4;obtain ⟨wa,rfl⟩ : ∃ x : World,x = wr:=⟨_,rfl⟩;obtain ⟨i,sn,sA,sk,sc,sm,sB,sj,sd,hin',rfl,hbs,hsv,hK5⟩:=hrel;have hs4':=hs4.out
        cases gk with
        | zero =>
         obtain rfl : n = i:=by omega
         have t6 : decide ((n : Int) < (n : Int)) = false:=by simp
         have hgsw : wk.heap.size <= gs:=by have:=hBk4.out.size;have:=hs4';have h9:=hgs.out;(have:=hgsk.out;omega)
         have hBka : Below wk.heap.size wk wa:=hBk4.out.trans (hK5.to_below (fun k e=>by omega) hBk4.out.size);obtain ⟨s0,s1,s2,s3,-⟩:=hbs.four;obtain ⟨Y1,hY1⟩ : ∃ Y,wa.alloc (.cells #[.bool sn,.slice sA sk sc,.bool sm,.slice sB sj sd] 64) = Y:=⟨_,rfl⟩;obtain ⟨gz,hgz⟩ : ∃ g,wa.heap.size = g:=⟨_,rfl⟩
         have hBY : Below wa.heap.size wa Y1:=by rw [<- hY1];exact (Below.refl _ _).alloc (Nat.le_refl _) _
         have hbY : Blk Y1 gz 64 #[.bool sn,.slice sA sk sc,.bool sm,.slice sB sj sd]:=by rw [<- hY1,<- hgz];exact Blk.new _ _ _
         have hOY:=(hO.out.kept hBka).kept hBY;have hfY:=hsv.out.below hBY;have hjY : Below wj.heap.size wj Y1:=hBk.trans ((hBka.trans (hBY.mono hBka.size)).mono hBk.size);have hsz:=hjY.size
         have hllr : ((Zbv (Zh (qM rs)) n js aL).take k).length + 1 <= 1000:=by rw [hrl];omega
         have hbe:=hbs;go_wp2_with ((try rw [hY1]);(try rw [hgz]);at_builtin;refine Zc8 _ rfl (.tmp 95) (.tmp 98) 41 rfl wj.heap.size 64 iF Tryz.underlying41 hi hz0 hz1 hz2 _ _ rfl hOY _ (some ⟨gz,0,none⟩) 1 1 [⟨sn,sA,sk,sc,sm,sB,sj,sd,imT (Zh (qM rs)) n aL bL n 0⟩] rfl (Zak _ hbY) rfl (by intro e he;rw [List.mem_singleton] at he;subst he;exact hfY) hllr hsz ?_;intro v7 w7 hO7 hg7 hk7);have hj7:=hjY.grown hg7 hsz (fun k hk=>hOY.row_ge k hk);simp only [List.map_cons,List.map_nil] at hO7;have hsc:=Zhk (n:=n) (Q:=Zh (qM rs)) (js:=js) (a:=aL) (k:=k) (by rw [hjl.out];exact hkm');rw [hkget.out] at hsc;rw [hsc] at hO7;replace hO7:=Za hO7
         go_roundg (m - (k + 1))
         case measure=>omega
         case rel=>exact ⟨k + 1,by omega,by go_num,hO7.out,hj7⟩
        | succ t6' =>
         obtain rfl : t6' = n - (i + 1):=by omega
         have hin : i < n:=by omega
         have t6 : decide ((i : Int) < (n : Int)) = true:=decide_eq_true (by omega)
         have bin : (i : Int) < (n : Int):=by omega
         replace hbs:=Za hbs;replace hK5:=Za hK5;go_wp2_with fail
         go_loopg [67] n (fun t xv wr=>∃ (x : Nat) (sn : Bool) (sA : Option Addr) (sk sc : Nat) (sm : Bool) (sB : Option Addr) (sj sd : Nat),x + t = n /\ xv = .int .i64 x /\ Blk wr gs 83 #[.bool sn,.slice sA sk sc,.bool sm,.slice sB sj sd] /\ Hid (Fr wr sn sA sk sc sm sB sj sd (imT (Zh (qM rs)) n aL bL i x)) /\ Kept (fun g=>g = gs) W4 wr)
         case atStart=>exact ⟨0,_,_,_,_,_,_,_,_,by omega,rfl,hbs.out,hsv,hK5.out⟩
         case round =>
          clear hbs hsv hK5;obtain ⟨wb,rfl⟩ : ∃ x : World,x = wr:=⟨_,rfl⟩;obtain ⟨x,sn,sA,sk,sc,sm,sB,sj,sd,hxn',rfl,hbs,hsv,hK5⟩:=hrel
          cases gk with
          | zero =>
           obtain rfl : n = x:=by omega
           have t7 : decide ((n : Int) < (n : Int)) = false:=by simp
           have hsv2 : Hid (Fr wb sn sA sk sc sm sB sj sd (imT (Zh (qM rs)) n aL bL (i + 1) 0)):=Za (by rw [Zhw];exact hsv.out);replace hbs:=Za hbs;replace hK5:=Za hK5;go_wp2_with fail
           go_roundg (n - (i + 1))
           case measure=>omega
           case rel=>exact ⟨i + 1,_,_,_,_,_,_,_,_,by omega,by go_num,hbs.out,hsv2,hK5.out⟩
          | succ t7' =>
           obtain rfl : t7' = n - (x + 1):=by omega
           have hxn : x < n:=by omega
           have t7 : decide ((x : Int) < (n : Int)) = true:=decide_eq_true (by omega)
           have bxn : (x : Int) < (n : Int):=by omega
           have hgsw : wi.heap.size <= gs:=by have:=hBk4.out.size;have:=hBjk.size;have h9:=hgs.out;(have:=hgsk.out;omega)
           have hBib : Hid (Below wi.heap.size wi wb):=Za ((hBjk.trans (hBk4.out.mono hBjk.size)).trans (hK5.to_below (fun k e=>by omega) (by have:=(hBjk.trans (hBk4.out.mono hBjk.size)).size;exact this)));have l0:=hLa.out.atCS hin;have l1:=hLb.out.atCS hxn;obtain ⟨av,hav⟩ : ∃ v : Int,aL[i]?.getD 0 = v:=⟨_,rfl⟩;obtain ⟨bv,hbv⟩ : ∃ v : Int,bL[x]?.getD 0 = v:=⟨_,rfl⟩;have hai:=hLa.out.i64C i;have hbi:=hLb.out.i64C x;rw [hav] at l0 hai;rw [hbv] at l1 hbi;obtain ⟨g1,o1,A',n',c',rfl,k0,hR⟩:=hMi.out.at_ hin
           have hn' : n = n':=by rw [<- hR.len];exact (hrow.out i hin).symm
           subst hn';have hrcap:=hR.cap;unfold maxLen at hrcap;obtain ⟨g2,o2,xn,xA,xk,xc,xm,xB,xj,xd,rfl,⟨x0,x1,x2,x3⟩,hX⟩:=hR.at_ hxn;have eX : ((qM rs)[i]?.getD [])[x]?.getD 0 = Zh (qM rs) i x:=rfl;rw [eX] at hX;obtain ⟨sm1,sm2,sm3,sm4,sm5⟩:=hterm.out i x;have ega : gI aL i = av:=hav;have egb : gI bL x = bv:=hbv;rw [ega] at sm2 sm4 sm5;rw [egb] at sm3 sm5;have sm6:=hsmI.out i x (by omega) (by omega) (by omega);have sm7:=hsmI.out i (x + 1) (by omega) (by omega) (by omega)
           have hnext : Hid (imT (Zh (qM rs)) n aL bL i (x + 1) = sumF [imT (Zh (qM rs)) n aL bL i x,Zfo (Zh (qM rs) i x) [((av : Int) : Rat),((bv : Int) : Rat)] 2] 2):=Za (by
            rw [Ziz,ega,egb];show _ = (0 + imT (Zh (qM rs)) n aL bL i x) + Zh (qM rs) i x * (av : Rat) * (bv : Rat)
            grind)
           obtain ⟨s0,s1,s2,s3,-⟩:=hbs.four;have z0:=Zb hBib.out k0;have z1:=Zb hBib.out x0;have z2:=Zb hBib.out x1;have z3:=Zb hBib.out x2;have z4:=Zb hBib.out x3;have z5:=Zb hBib.out l0;have z6:=Zb hBib.out l1;replace hX:=Za hX;replace hav:=Za hav;replace hbv:=Za hbv;replace ega:=Za ega;replace egb:=Za egb;clear eX hR;go_wp2_with fail;obtain ⟨X0,hX0⟩ : ∃ X,wb.drew = X:=⟨_,rfl⟩
           have hr1 : Below wb.heap.size wb X0:=by rw [<- hX0];exact Zj (Below.refl _ _) 1
           have hSv : Hid (∀ wx,Below wb.heap.size wb wx -> wx.cell? ⟨gs,0,none⟩ = some (.bool sn) /\ wx.cell? ⟨gs,1,none⟩ = some (.slice sA sk sc) /\ wx.cell? ⟨gs,2,none⟩ = some (.bool sm) /\ wx.cell? ⟨gs,3,none⟩ = some (.slice sB sj sd) /\ wx.cell? ⟨g1,o1 + i,none⟩ = some (.slice (some ⟨g2,o2,none⟩) n c') /\ wx.cell? ⟨g2,o2 + x * 4,none⟩ = some (.bool xn) /\ wx.cell? ⟨g2,o2 + x * 4 + 1,none⟩ = some (.slice xA xk xc) /\ wx.cell? ⟨g2,o2 + x * 4 + 2,none⟩ = some (.bool xm) /\ wx.cell? ⟨g2,o2 + x * 4 + 3,none⟩ = some (.slice xB xj xd) /\ wx.cell? ⟨gA,oA' + i,none⟩ = some (.int .i64 av) /\ wx.cell? ⟨gB,oB' + x,none⟩ = some (.int .i64 bv)):=Za (fun wx hbx=>⟨Zb hbx s0,Zb hbx s1,Zb hbx s2,Zb hbx s3,Zb hbx z0,Zb hbx z1,Zb hbx z2,Zb hbx z3,Zb hbx z4,Zb hbx z5,Zb hbx z6⟩);refine wp_heldS [23] hmx hSv (by rw [hX0];exact hr1) (fun hxs=>?_);rw [hX0];clear z0 z1 z2 z3 z4 z5 z6;refine Zru 8 [0,1,2,3,4,5,6,7] rfl (by kernel_rfl) (hSv.out _ hr1) ?_
           iterate 8 (refine tk1 (v:=?_) rfl (Or.inl ⟨by kernel_rfl,?_⟩) ?_;rotate_left;(· intro W2 hSw;(try dsimp only at hSw);go_simp;try with_reducible rfl);try simp only [Act.put,putL_a,putL_z,putL_s,putG_a,putG_s,putG_z])
           refine tk0 ?_;refine Zrt 1 [8] rfl (by kernel_rfl) (hSv.out _ hr1) ?_
           (refine tk1 (v:=?_) rfl (Or.inl ⟨by kernel_rfl,?_⟩) ?_;rotate_left;(· intro W2 _;go_simp;try with_reducible rfl);try simp only [Act.put,putL_a,putL_z,putL_s,putG_a,putG_s,putG_z])
           refine tk0 ?_;refine Zru 8 [9,10,11,12,14,15,16,17] rfl (by kernel_rfl) (hSv.out _ hr1) ?_
           iterate 8 (refine tk1 (v:=?_) rfl (Or.inl ⟨by kernel_rfl,?_⟩) ?_;rotate_left;(· intro W2 hSw;(try dsimp only at hSw);go_simp;try with_reducible rfl);try simp only [Act.put,putL_a,putL_z,putL_s,putG_a,putG_s,putG_z])
           refine tk0 ?_;refine Ze (i:=13) rfl (by kernel_rfl) (fun K hK=>?_);go_simp;refine (Zh1 av X0 hai.1 hai.2).mono ?_;rintro e w5 ⟨hb5,pn,pA,pk,pc,pm,pB,pj,pd,rfl,hp⟩;have hr5:=hr1.trans (hb5.mono hr1.size);refine hK.out _ _ (fun _=>hSv.out _ hr5) ?_;clear hK K
           try simp only [Act.put,putL_a,putL_z,putL_s]
           refine Ze (i:=18) rfl (by kernel_rfl) (fun K hK=>?_);go_simp;refine (Zh1 bv w5 hbi.1 hbi.2).mono ?_;rintro e w6 ⟨hb6,qn,qA,qk,qc,qm,qB,qj,qd,rfl,hq⟩;have hr6:=hr5.trans (hb6.mono hr5.size);refine hK.out _ _ (fun _=>hSv.out _ hr6) ?_;clear hK K
           try simp only [Act.put,putL_a,putL_z,putL_s]
           obtain ⟨Y1,hY1⟩ : ∃ Y,w6.alloc (.cells #[.bool pn,.slice pA pk pc,.bool pm,.slice pB pj pd,.bool qn,.slice qA qk qc,.bool qm,.slice qB qj qd] 83) = Y:=⟨_,rfl⟩;obtain ⟨ga1,hga1⟩ : ∃ g,w6.heap.size = g:=⟨_,rfl⟩
           have hBY1 : Below w6.heap.size w6 Y1:=by rw [<- hY1];exact (Below.refl _ _).alloc (Nat.le_refl _) _
           have hbY1 : Blk Y1 ga1 83 #[.bool pn,.slice pA pk pc,.bool pm,.slice pB pj pd,.bool qn,.slice qA qk qc,.bool qm,.slice qB qj qd]:=by rw [<- hY1,<- hga1];exact Blk.new _ _ _
           have hrY1 : Below wb.heap.size wb Y1:=hr6.trans (hBY1.mono hr6.size);refine Ze (i:=19) rfl (by kernel_rfl) (fun K hK=>?_);go_simp;(try rw [hY1]);(try rw [hga1]);refine hK.out _ _ (fun _=>hSv.out _ hrY1) ?_;clear hK K hY1 hga1
           try simp only [Act.put,putL_a,putL_z,putL_s]
           refine Ze (i:=20) rfl (by kernel_rfl) (fun K hK=>?_);go_simp;refine (Zff xn xA xk xc xm xB xj xd (Zh (qM rs) i x) (some ⟨ga1,0,none⟩) 2 2 [((av : Int) : Rat),((bv : Int) : Rat)] Y1 (hX.out.below (hBib.out.trans (hrY1.mono hBib.out.size))) (FL.pair2 hbY1 (hp.below (hb6.trans (hBY1.mono hb6.size))) (hq.below hBY1)) (by omega) (fun t ht=>match t,ht with | 0,_=>sm1 | 1,_=>sm4) (fun t ht=>match t,ht with | 0,_=>sm2 | 1,_=>sm3)).mono ?_;rintro e w7 ⟨hb7,un,uA,uk,uc,um,uB,uj,ud,rfl,hu⟩;have hr7:=hrY1.trans (hb7.mono hrY1.size);refine hK.out _ _ (fun _=>hSv.out _ hr7) ?_;clear hK K
           try simp only [Act.put,putL_a,putL_z,putL_s]
           obtain ⟨Y2,hY2⟩ : ∃ Y,w7.alloc (.cells #[.bool sn,.slice sA sk sc,.bool sm,.slice sB sj sd,.bool un,.slice uA uk uc,.bool um,.slice uB uj ud] 83) = Y:=⟨_,rfl⟩;obtain ⟨ga2,hga2⟩ : ∃ g,w7.heap.size = g:=⟨_,rfl⟩
           have hBY2 : Below w7.heap.size w7 Y2:=by rw [<- hY2];exact (Below.refl _ _).alloc (Nat.le_refl _) _
           have hbY2 : Blk Y2 ga2 83 #[.bool sn,.slice sA sk sc,.bool sm,.slice sB sj sd,.bool un,.slice uA uk uc,.bool um,.slice uB uj ud]:=by rw [<- hY2,<- hga2];exact Blk.new _ _ _
           have hrY2 : Below wb.heap.size wb Y2:=hr7.trans (hBY2.mono hr7.size);refine Ze (i:=21) rfl (by kernel_rfl) (fun K hK=>?_);go_simp;(try rw [hY2]);(try rw [hga2]);refine hK.out _ _ (fun _=>hSv.out _ hrY2) ?_;clear hK K hY2 hga2
           try simp only [Act.put,putL_a,putL_z,putL_s]
           refine Ze (i:=22) rfl (by kernel_rfl) (fun K hK=>?_);go_simp;refine (csum_ok (some ⟨ga2,0,none⟩) 2 2 [imT (Zh (qM rs)) n aL bL i x,Zfo (Zh (qM rs) i x) [((av : Int) : Rat),((bv : Int) : Rat)] 2] Y2 (FL.pair2 hbY2 (hsv.out.below hrY2) (hu.below hBY2)) (by omega) (fun t ht=>match t,ht with | 0,_=>Zqp | 1,_=>by show Sm (0 + imT (Zh (qM rs)) n aL bL i x);rw [Rat.zero_add];exact sm6) (fun t ht=>match t,ht with | 0,_=>sm6 | 1,_=>sm5)).mono ?_;rintro e w8 ⟨hb8,vn,vA,vk,vc,vm,vB,vj,vd,rfl,hv⟩;have hr8:=hrY2.trans (hb8.mono hrY2.size);refine hK.out _ _ (fun _=>hSv.out _ hr8) ?_;clear hK K
           try simp only [Act.put,putL_a,putL_z,putL_s]
           have hbt:=Zc hr8 hbs;obtain ⟨f0,f1,f2,f3,g0',g1',g2',g3'⟩:=hbt.four;obtain ⟨W7,hW7,p7,hK7,s7⟩:=Zaa vn vA vk vc vm vB vj vd hbt;have hU7:=Za (hv.keptN hK7 hbt (Zar _ _ _ _ _ _ _ _));have hK8 : Hid (Kept (fun g=>g = gs) W4 W7):=Za ((hK5.below hr8).trans hK7);have hU8 : Hid (Fr W7 vn vA vk vc vm vB vj vd (imT (Zh (qM rs)) n aL bL i (x + 1))):=Za (by rw [hnext.out];exact hU7.out);replace p7:=Za p7;clear hK7 hv hu hp hq hU7;refine Zq (i:=23) rfl (by kernel_rfl) (by kernel_rfl) (fun K hK=>?_);go_simp;(try rw [hW7]);refine hK.out _ _ ?_;clear hK K
           try simp only [Act.put,putL_a,putL_z,putL_s]
           refine Zk (by kernel_rfl) ?_ _;refine OnlyNormal.normal ?_;clear hW7 f0 f1 f2 f3 g0' g1' g2' g3' hbt hSv hxs hX0 s0 s1 s2 s3;go_wp2_with fail
           go_roundg (n - (x + 1))
           case measure=>omega
           case rel=>exact ⟨x + 1,_,_,_,_,_,_,_,_,by omega,by go_num,p7.out,hU8,hK8.out⟩
def Zfp (B0 : Nat) (p q r : Rat) (i : Nat) (v : Value) (w : World) : Prop:=
 if i = 4 then ∃ na A n c nb B m d,v = .agg #[.bool na,.slice A n c,.bool nb,.slice B m d] /\ Fr w na A n c nb B m d p
 else if i = 9 then ∃ na A n c nb B m d,v = .agg #[.bool na,.slice A n c,.bool nb,.slice B m d] /\ Fr w na A n c nb B m d q
 else if i = 10 then ∃ na A n c nb B m d,v = .agg #[.bool na,.slice A n c,.bool nb,.slice B m d] /\ Fr w na A n c nb B m d r
 else if i = 11 then ∃ g,v = .pointer (some ⟨g,0,none⟩) /\ B0 <= g /\ Blk w g 64 #[.bool false,.slice none 0 0,.bool false,.slice none 0 0]
 else True
theorem Zlu {B0 : Nat} {p q r : Rat} {i : Nat} {v : Value} {w w' : World} (hb : Below w.heap.size w w') (h : Zfp B0 p q r i v w) : Zfp B0 p q r i v w':=by
 unfold Zfp at h ⊢
 split at h
 ·rename_i h1;rw [if_pos h1]
  obtain ⟨na,A,n,c,nb,B,m,d,e,hf⟩:=h;exact ⟨na,A,n,c,nb,B,m,d,e,hf.below hb⟩
 ·rename_i h1;rw [if_neg h1]
  split at h
  ·rename_i h1;rw [if_pos h1]
   obtain ⟨na,A,n,c,nb,B,m,d,e,hf⟩:=h;exact ⟨na,A,n,c,nb,B,m,d,e,hf.below hb⟩
  ·rename_i h1;rw [if_neg h1]
   split at h
   ·rename_i h1;rw [if_pos h1]
    obtain ⟨na,A,n,c,nb,B,m,d,e,hf⟩:=h;exact ⟨na,A,n,c,nb,B,m,d,e,hf.below hb⟩
   ·rename_i h1;rw [if_neg h1]
    split at h
    ·rename_i h4;rw [if_pos h4]
     obtain ⟨g,e,h5,h6⟩:=h;exact ⟨g,e,h5,Zc hb h6⟩
    ·rename_i h4;rw [if_neg h4];trivial
theorem Zn1 (A : Option Addr) (n c : Nat) (R : List (List Rat)) (B : Option Addr) (bc : Nat) (aL : List Int) (C : Option Addr) (cc : Nat) (bL : List Int) (w : World) (h : MFL w A n c R) (hrow : ∀ i,i < n -> (R[i]?.getD []).length = n) (ha : LimI w B n bc aL) (hb : LimI w C n cc bL) (hS : SmE 4 R) (hn4 : n <= 4) (hn0 : 0 < n) (haN : Zcw aL) (hbN : Zcw bL) :
    Calls Tryz.prog 42 #[.slice A n c,.slice B n bc,.slice C n cc] w (Zci w (imT (Zh R) n aL bL n 0)):=by
 have hmx : Tryz.prog.follows .mixedOrders = true:=by kernel_rfl
 have hnc:=h.2.1;have hcm:=h.2.2.1;have hac:=ha.2.1;have ham:=ha.2.2.1;have hbc:=hb.2.1;have hbm:=hb.2.2.1;unfold maxLen at hcm ham hbm;have hRl:=Za h.len;have hsmI : Hid (∀ i t,i <= n -> t <= n -> (i = n -> t = 0) -> Sm (imT (Zh R) n aL bL i t)):=Za (fun i t hi ht hit=>Zrf hS hn4 hRl.out hrow haN hbN hn0 hi ht hit);have hterm : Hid (∀ i t,Sm (Zh R i t) /\ Sm ((gI aL i : Int) : Rat) /\ Sm ((gI bL t : Int) : Rat) /\ Sm (Zh R i t * ((gI aL i : Int) : Rat)) /\ Sm (Zh R i t * ((gI aL i : Int) : Rat) * ((gI bL t : Int) : Rat))):=Za (fun i t=>Zor hS haN hbN i t);have hwS : Hid (∀ i t,Sm (((gI aL i : Int) : Rat) * ((gI bL t : Int) : Rat))):=Za (fun i t=>((SmN.intC (gI aL i) 2 (Zg0 (haN i))).mulN (SmN.intC (gI bL t) 2 (Zg0 (hbN t)))).sm (by decide) (by decide));have hH:=Za h;have hA:=Za ha;have hB':=Za hb;replace hrow:=Za hrow;obtain ⟨W0,hW0,hB0,q0,s0⟩:=Zae w 64 #[.bool false,.slice none 0 0,.bool false,.slice none 0 0];obtain ⟨gR,hgR⟩ : ∃ g,w.heap.size = g:=⟨_,rfl⟩;rw [hgR] at q0 s0 hB0;clear h ha hb hS haN hbN;go_enter Tryz.func42,Tryz.ntmps42;go_wp2_with fail;(try rw [hW0]);(try rw [hgR]);refine (Zfi 0 W0 (by decide) (by decide)).mono ?_;rintro e w2 ⟨hb2,zn,zA,zk,zc,zm,zB,zj,zd,rfl,hf0⟩;have q2:=Zc hb2 q0;obtain ⟨V1,hV1,hBV1,a1,s1⟩:=Zae w2 64 #[.bool false,.slice none 0 0,.bool false,.slice none 0 0];obtain ⟨gs,hgs⟩ : ∃ g,w2.heap.size = g:=⟨_,rfl⟩;rw [hgs] at a1 s1;obtain ⟨u0,u1,u2,u3,v0,v1,v2,v3⟩:=a1.four;obtain ⟨W4,hW4,a4,hK4,s4⟩:=Zaa zn zA zk zc zm zB zj zd a1
 have hB4 : Below w2.heap.size w2 W4:=hBV1.trans (hK4.to_below (fun k e=>by omega) hBV1.size);have q4:=Za (Zc hB4 q2);have hsz : Hid (gR < gs):=Za (by have:=q2.lt;omega);have hY4 : Hid (Fr W4 zn zA zk zc zm zB zj zd (imT (Zh R) n aL bL 0 0)):=Za (by rw [Zka];exact hf0.below hB4);have hBw4 : Hid (Below gR w W4):=Za (hB0.trans ((hb2.trans (hB4.mono hb2.size)).mono (by omega)));have hgRH:=Za hgR;replace a4:=Za a4;clear hf0 hBV1 hK4 s1 s4 hB4 hb2 q2 q0 s0 hB0 hW0;go_wp2_with fail;(try rw [hgs]);(try rw [hW4]);clear u0 u1 u2 u3 v0 v1 v2 v3 a1 hV1 hW4 hgR;replace hgs:=Za hgs;have hs4 : Hid (gs < W4.heap.size):=Za a4.out.lt
 go_loopg [8] n (fun t iv wr=>∃ (i : Nat) (sn : Bool) (sA : Option Addr) (sk sc : Nat) (sm : Bool) (sB : Option Addr) (sj sd : Nat),i + t = n /\ iv = .int .i64 i /\ Blk wr gs 64 #[.bool sn,.slice sA sk sc,.bool sm,.slice sB sj sd] /\ Hid (Fr wr sn sA sk sc sm sB sj sd (imT (Zh R) n aL bL i 0)) /\ Kept (fun g=>g = gs) W4 wr)
 case atStart=>exact ⟨0,_,_,_,_,_,_,_,_,by omega,rfl,a4.out,hY4,Kept.refl _ _⟩
 case round =>
  clear a4 hY4;obtain ⟨wa,rfl⟩ : ∃ x : World,x = wr:=⟨_,rfl⟩;obtain ⟨i,sn,sA,sk,sc,sm,sB,sj,sd,hin',rfl,hbs,hsv,hK5⟩:=hrel
  cases gk with
  | zero =>
   obtain rfl : n = i:=by omega
   have t6 : decide ((n : Int) < (n : Int)) = false:=by simp
   have hsz':=hsz.out;have hbR:=hK5.blk q4.out (by omega);obtain ⟨s0,s1,s2,s3,-⟩:=hbs.four;obtain ⟨c0,c1,c2,c3,z0,z1,z2,z3⟩:=hbR.four;obtain ⟨W5,hW5,q5,hK9,s5⟩:=Zaa sn sA sk sc sm sB sj sd hbR;have hBa : Hid (Below gR w wa):=Za (hBw4.out.trans (hK5.to_below (fun k e=>by omega) (by have:=q4.out.lt;omega)));go_wp2_with fail;(try rw [hW5]);obtain ⟨r0,r1,r2,r3,-⟩:=q5.four;refine bodyPost_ret (v:=.agg #[.bool sn,.slice sA sk sc,.bool sm,.slice sB sj sd]) (by simp [results,Tryz.results42,go_sem,r0,r1,r2,r3]) rfl ?_;refine ⟨?_,_,_,_,_,_,_,_,_,rfl,hsv.out.keptN hK9 hbR (Zar _ _ _ _ _ _ _ _)⟩;rw [hgRH.out];exact hBa.out.trans (hK9.to_below (fun k e=>by omega) (by have:=hbR.lt;omega))
  | succ t6' =>
   obtain rfl : t6' = n - (i + 1):=by omega
   have hin : i < n:=by omega
   have t6 : decide ((i : Int) < (n : Int)) = true:=decide_eq_true (by omega)
   have bin : (i : Int) < (n : Int):=by omega
   replace hbs:=Za hbs;replace hK5:=Za hK5;go_wp2_with fail
   go_loopg [9] n (fun t xv wr=>∃ (x : Nat) (sn : Bool) (sA : Option Addr) (sk sc : Nat) (sm : Bool) (sB : Option Addr) (sj sd : Nat),x + t = n /\ xv = .int .i64 x /\ Blk wr gs 64 #[.bool sn,.slice sA sk sc,.bool sm,.slice sB sj sd] /\ Hid (Fr wr sn sA sk sc sm sB sj sd (imT (Zh R) n aL bL i x)) /\ Kept (fun g=>g = gs) W4 wr)
   case atStart=>exact ⟨0,_,_,_,_,_,_,_,_,by omega,rfl,hbs.out,hsv,hK5.out⟩
   case round =>
    clear hbs hsv hK5;obtain ⟨wb,rfl⟩ : ∃ x : World,x = wr:=⟨_,rfl⟩;obtain ⟨x,sn,sA,sk,sc,sm,sB,sj,sd,hxn',rfl,hbs,hsv,hK5⟩:=hrel
    cases gk with
    | zero =>
     obtain rfl : n = x:=by omega
     have t7 : decide ((n : Int) < (n : Int)) = false:=by simp
     have hsv2 : Hid (Fr wb sn sA sk sc sm sB sj sd (imT (Zh R) n aL bL (i + 1) 0)):=Za (by rw [Zhw];exact hsv.out);replace hbs:=Za hbs;replace hK5:=Za hK5;go_wp2_with fail
     go_roundg (n - (i + 1))
     case measure=>omega
     case rel=>exact ⟨i + 1,_,_,_,_,_,_,_,_,by omega,by go_num,hbs.out,hsv2,hK5.out⟩
    | succ t7' =>
     obtain rfl : t7' = n - (x + 1):=by omega
     have hxn : x < n:=by omega
     have t7 : decide ((x : Int) < (n : Int)) = true:=decide_eq_true (by omega)
     have bxn : (x : Int) < (n : Int):=by omega
     have hBb : Hid (Below w.heap.size w wb):=Za (by rw [hgRH.out];exact hBw4.out.trans (hK5.to_below (fun k e=>by have:=hsz.out;omega) (by have:=q4.out.lt;omega)));obtain ⟨gA,oA,rfl,l0⟩:=(hA.out.below hBb.out).atC hin;obtain ⟨gB,oB,rfl,l1⟩:=(hB'.out.below hBb.out).atC hxn;obtain ⟨av,hav⟩ : ∃ v : Int,aL[i]?.getD 0 = v:=⟨_,rfl⟩;obtain ⟨bv,hbv⟩ : ∃ v : Int,bL[x]?.getD 0 = v:=⟨_,rfl⟩;have hai:=hA.out.i64C i;have hbi:=hB'.out.i64C x;rw [hav] at l0 hai;rw [hbv] at l1 hbi;obtain ⟨g1,o1,A',n',c',rfl,k0,hR⟩:=(hH.out.below hBb.out).at_ hin
     have hn' : n = n':=by rw [<- hR.len];exact (hrow.out i hin).symm
     subst hn';have hrcap:=hR.cap;unfold maxLen at hrcap;obtain ⟨g2,o2,xn,xA,xk,xc,xm,xB,xj,xd,rfl,⟨x0,x1,x2,x3⟩,hX⟩:=hR.at_ hxn;have eX : (R[i]?.getD [])[x]?.getD 0 = Zh R i x:=rfl;rw [eX] at hX;obtain ⟨sm1,sm2,sm3,sm4,sm5⟩:=hterm.out i x;have smw:=hwS.out i x;have ega : gI aL i = av:=hav;have egb : gI bL x = bv:=hbv;rw [ega] at sm2 sm4 sm5 smw;rw [egb] at sm3 sm5 smw
     have hcomm : (av : Rat) * (bv : Rat) * Zh R i x = Zh R i x * (av : Rat) * (bv : Rat):=by grind
     have sm5' : Sm ((av : Rat) * (bv : Rat) * Zh R i x):=by rw [hcomm];exact sm5
     have sm6:=hsmI.out i x (by omega) (by omega) (by omega)
     have hnext : Hid (imT (Zh R) n aL bL i (x + 1) = imT (Zh R) n aL bL i x + (av : Rat) * (bv : Rat) * Zh R i x):=Za (by
      rw [Ziz,ega,egb,hcomm])
     replace hX:=Za hX;replace hav:=Za hav;replace hbv:=Za hbv;replace ega:=Za ega;replace egb:=Za egb;clear eX hR hcomm;have hbs4:=hbs.four;replace hbs:=Za hbs;replace hK5:=Za hK5;go_wp2_with fail;have hSv1 : Hid (∀ wx,Below wb.heap.size wb wx -> wx.cell? ⟨gA,oA + i,none⟩ = some (.int .i64 av) /\ wx.cell? ⟨gB,oB + x,none⟩ = some (.int .i64 bv)):=Za (fun wx hbx=>⟨Zb hbx l0,Zb hbx l1⟩);have hr1 : Below wb.heap.size wb wb.drew:=Zj (Below.refl _ _) 1;refine wp_heldS [] hmx hSv1 hr1 (fun hxs1=>?_);refine Zru 8 [0,1,2,3,5,6,7,8] rfl (by kernel_rfl) (hSv1.out _ hr1) ?_
     iterate 8 (refine tk1 (v:=?_) rfl (Or.inl ⟨by kernel_rfl,?_⟩) ?_;rotate_left;(· intro W2 hSw;(try dsimp only at hSw);go_simp;try with_reducible rfl);try simp only [Act.put,putL_a,putL_z,putL_s,putG_a,putG_s,putG_z])
     refine tk0 ?_;refine Zhm [(4,28),(9,33),(10,34),(11,10)] (fun _=>[]) [(4,28),(9,33),(10,34),(11,10)] (Zfp wb.heap.size ((av : Int) : Rat) ((bv : Int) : Rat) ((av : Rat) * (bv : Rat))) 1 (by kernel_rfl) (fun _ _ _ _ _ hb h=>Zlu hb h) (fun wx h=>hSv1.out _ (hr1.trans (h.mono hr1.size))) ?hop1 ?hfin1
     case hop1 =>
      intro p hp;simp only [List.mem_cons,List.not_mem_nil,or_false] at hp;simp only [List.map_cons,List.map_nil,Za3,Act.put,putL_a,putL_z,putL_s]
      rcases hp with rfl | rfl | rfl | rfl
      ·intro ν wx hb hP
       have hbx:=hr1.trans (hb.mono hr1.size);refine Zc4 (i:=4) rfl (fun K hK=>?_);go_simp;refine (Zfi av wx hai.1 hai.2).mono ?_;rintro e w5 ⟨hb5,na5,A5,k5,c5,nb5,B5,m5,d5,rfl,hf5⟩;exact hK.out _ _ ⟨_,rfl,(by simp only [Zfp];exact ⟨_,_,_,_,_,_,_,_,rfl,hf5⟩),hb5,trivial⟩
      ·intro ν wx hb hP
       have hbx:=hr1.trans (hb.mono hr1.size);refine Zc4 (i:=9) rfl (fun K hK=>?_);go_simp;refine (Zfi bv wx hbi.1 hbi.2).mono ?_;rintro e w5 ⟨hb5,na5,A5,k5,c5,nb5,B5,m5,d5,rfl,hf5⟩;exact hK.out _ _ ⟨_,rfl,(by simp only [Zfp];exact ⟨_,_,_,_,_,_,_,_,rfl,hf5⟩),hb5,trivial⟩
      ·intro ν wx hb hP
       have hbx:=hr1.trans (hb.mono hr1.size);have h0:=hP (4,28) (by simp) (by kernel_rfl);have h1:=hP (9,33) (by simp) (by kernel_rfl);simp only [Zfp] at h0 h1;obtain ⟨pn,pA,pk,pc,pm,pB,pj,pd,hν0,hp0⟩:=h0;obtain ⟨qn,qA,qk,qc,qm,qB,qj,qd,hν1,hq0⟩:=h1;rw [hν0,hν1];refine Zc4 (i:=10) rfl (fun K hK=>?_);go_simp;refine (Zdk pn pA pk pc pm pB pj pd qn qA qk qc qm qB qj qd _ _ wx hp0 hq0 sm2 sm3).mono ?_;rintro e w5 ⟨hb5,na5,A5,k5,c5,nb5,B5,m5,d5,rfl,hf5⟩;exact hK.out _ _ ⟨_,rfl,(by simp only [Zfp];exact ⟨_,_,_,_,_,_,_,_,rfl,hf5⟩),hb5,trivial⟩
      ·intro ν wx hb hP
       refine Zc4 (i:=11) rfl (fun K hK=>?_);go_simp;exact hK.out _ _ ⟨_,rfl,(by simp only [Zfp];exact ⟨_,rfl,hb.size,Blk.new _ _ _⟩),(Below.refl _ _).alloc (Nat.le_refl _) _,trivial⟩
     case hfin1 =>
      intro ν wx hb hP;have h0:=hP (4,28) (by simp);have h1:=hP (9,33) (by simp);have h2:=hP (10,34) (by simp);have h4:=hP (11,10) (by simp);simp only [Zfp] at h0 h1 h2 h4;obtain ⟨pn,pA,pk,pc,pm,pB,pj,pd,h0,-⟩:=h0;obtain ⟨qn,qA,qk,qc,qm,qB,qj,qd,h1,-⟩:=h1;obtain ⟨bn,bA,bk,bc',bm,bB,bj,bd,h2,bf⟩:=h2;obtain ⟨gw,h4,kv,qv⟩:=h4;simp only [List.map_cons,List.map_nil,Za3,Act.put,putL_a,putL_z,putL_s];rw [h0,h1,h2,h4];clear h0 h1 h2 h4 hP ν;have hbx:=hr1.trans (hb.mono hr1.size);have qv4:=qv.four;have kv2 : wb.heap.size <= gw:=kv;refine (Zaf bn bA bk bc' bm bB bj bd hbx kv2 qv).elim (fun Zw hq=>?_);have c0:=qv4.1;have c1':=qv4.2.1;have c2':=qv4.2.2.1;have c3:=qv4.2.2.2.1;have f0:=qv4.2.2.2.2.1;have f1:=qv4.2.2.2.2.2.1;have f2:=qv4.2.2.2.2.2.2.1;have f3:=qv4.2.2.2.2.2.2.2;have hZ:=hq.1;refine Ze (i:=12) rfl (by kernel_rfl) (fun K hK=>?_);go_simp;(try rw [hZ]);refine hK.out _ _ (fun _=>hSv1.out _ hq.2.1) ?_;clear hK K
      try simp only [Act.put,putL_a,putL_z,putL_s]
      refine Zk (by kernel_rfl) ?_ _;refine OnlyNormal.normal ?_;have hbZ:=hq.2.1;have hwb:=Za hq.2.2.1;replace bf:=Za (Fr.keep bf hq.2.2.2.1);clear hq hZ c0 c1' c2' c3 f0 f1 f2 f3 qv4 qv kv kv2 hbx hb hr1 hSv1 hxs1;have hbsZ:=Zc hbZ hbs.out;have hsvZ:=Za (hsv.out.below hbZ);obtain ⟨s0,s1,s2,s3,-⟩:=hbsZ.four;obtain ⟨y0,y1,y2,y3,-⟩:=hwb.out.four;have hBZ : Below w.heap.size w Zw:=hBb.out.trans (hbZ.mono hBb.out.size);have z0:=Zb hbZ k0;have z1:=Zb hbZ x0;have z2:=Zb hbZ x1;have z3:=Zb hbZ x2;have z4:=Zb hbZ x3;have hXZ:=Za (hX.out.below hbZ);have hKZ:=Za (hK5.out.below hbZ);go_wp2_with fail;obtain ⟨X0,hX0⟩ : ∃ X,Zw.drew = X:=⟨_,rfl⟩
      have hr1 : Below Zw.heap.size Zw X0:=by rw [<- hX0];exact Zj (Below.refl _ _) 1
      have hSv : Hid (∀ wx,Below Zw.heap.size Zw wx -> wx.cell? ⟨gs,0,none⟩ = some (.bool sn) /\ wx.cell? ⟨gs,1,none⟩ = some (.slice sA sk sc) /\ wx.cell? ⟨gs,2,none⟩ = some (.bool sm) /\ wx.cell? ⟨gs,3,none⟩ = some (.slice sB sj sd) /\ wx.cell? ⟨gw,0,none⟩ = some (.bool bn) /\ wx.cell? ⟨gw,1,none⟩ = some (.slice bA bk bc') /\ wx.cell? ⟨gw,2,none⟩ = some (.bool bm) /\ wx.cell? ⟨gw,3,none⟩ = some (.slice bB bj bd) /\ wx.cell? ⟨g1,o1 + i,none⟩ = some (.slice (some ⟨g2,o2,none⟩) n c') /\ wx.cell? ⟨g2,o2 + x * 4,none⟩ = some (.bool xn) /\ wx.cell? ⟨g2,o2 + x * 4 + 1,none⟩ = some (.slice xA xk xc) /\ wx.cell? ⟨g2,o2 + x * 4 + 2,none⟩ = some (.bool xm) /\ wx.cell? ⟨g2,o2 + x * 4 + 3,none⟩ = some (.slice xB xj xd)):=Za (fun wx hbx=>⟨Zb hbx s0,Zb hbx s1,Zb hbx s2,Zb hbx s3,Zb hbx y0,Zb hbx y1,Zb hbx y2,Zb hbx y3,Zb hbx z0,Zb hbx z1,Zb hbx z2,Zb hbx z3,Zb hbx z4⟩);refine wp_heldS [11] hmx hSv (by rw [hX0];exact hr1) (fun hxs=>?_);rw [hX0];refine Zru 9 [0,1,2,3,4,5,6,7,8] rfl (by kernel_rfl) (hSv.out _ hr1) ?_
      iterate 9 (refine tk1 (v:=?_) rfl (Or.inl ⟨by kernel_rfl,?_⟩) ?_;rotate_left;(· intro W2 hSw;(try dsimp only at hSw);go_simp;try with_reducible rfl);try simp only [Act.put,putL_a,putL_z,putL_s,putG_a,putG_s,putG_z])
      refine tk0 ?_;refine Ze (i:=9) rfl (by kernel_rfl) (fun K hK=>?_);go_simp;refine (Zdk bn bA bk bc' bm bB bj bd xn xA xk xc xm xB xj xd _ _ X0 (bf.out.below hr1) (hXZ.out.below hr1) smw sm1).mono ?_;rintro e w5 ⟨hb5,un,uA,uk,uc,um,uB,uj,ud,rfl,hu⟩;have hr5:=hr1.trans (hb5.mono hr1.size);refine hK.out _ _ (fun _=>hSv.out _ hr5) ?_;clear hK K
      try simp only [Act.put,putL_a,putL_z,putL_s]
      refine Ze (i:=10) rfl (by kernel_rfl) (fun K hK=>?_);go_simp;refine (Zny sn sA sk sc sm sB sj sd un uA uk uc um uB uj ud _ _ w5 (hsvZ.out.below hr5) hu sm6 sm5').mono ?_;rintro e w6 ⟨hb6,vn,vA,vk,vc,vm,vB,vj,vd,rfl,hv⟩;have hr6:=hr5.trans (hb6.mono hr5.size);refine hK.out _ _ (fun _=>hSv.out _ hr6) ?_;clear hK K
      try simp only [Act.put,putL_a,putL_z,putL_s]
      have hbt:=Zc hr6 hbsZ;obtain ⟨f0,f1,f2,f3,g0',g1',g2',g3'⟩:=hbt.four;obtain ⟨W7,hW7,p7,hK7,s7⟩:=Zaa vn vA vk vc vm vB vj vd hbt;have hU7:=Za (hv.keptN hK7 hbt (Zar _ _ _ _ _ _ _ _));have hK8 : Hid (Kept (fun g=>g = gs) W4 W7):=Za ((hKZ.out.below hr6).trans hK7);have hU8 : Hid (Fr W7 vn vA vk vc vm vB vj vd (imT (Zh R) n aL bL i (x + 1))):=Za (by rw [hnext.out];exact hU7.out);replace p7:=Za p7;clear hK7 hv hu hU7;refine Zq (i:=11) rfl (by kernel_rfl) (by kernel_rfl) (fun K hK=>?_);go_simp;(try rw [hW7]);refine hK.out _ _ ?_;clear hK K
      try simp only [Act.put,putL_a,putL_z,putL_s]
      refine Zk (by kernel_rfl) ?_ _;refine OnlyNormal.normal ?_;clear hW7 f0 f1 f2 f3 g0' g1' g2' g3' hbt hSv hxs hX0 s0 s1 s2 s3 y0 y1 y2 y3 z0 z1 z2 z3 z4;go_wp2_with fail
      go_roundg (n - (x + 1))
      case measure=>omega
      case rel=>exact ⟨x + 1,_,_,_,_,_,_,_,_,by omega,by go_num,p7.out,hU8,hK8.out⟩
theorem Zf7 (A : Option Addr) (n c : Nat) (rs : List RX) (B : Option Addr) (m d : Nat) (ri : List RI) (w : World) (h : MXL w A n c rs) (hv : MIL w B m d ri) (hF : FacC rs) (hS4 : fewM 4 rs) (hn4 : Zal rs = 0 -> n <= 4) (hm4 : m <= 4 \/ 6 < m) (hm9 : m <= 100) :
    Calls Tryz.prog 11 #[.slice A n c,.slice B m d] w (ImgPost rs (ri.map RI.l) w):=by
 obtain ⟨iF,hi,hz0,hz1,hz2⟩:=info_parts Ze3;obtain ⟨iS,ki,kz0,kz1,kz2⟩:=info_parts Zgr
 have hmx : Tryz.prog.follows .mixedOrders = true:=by kernel_rfl
 have hts : (41 : TypeId) ≠ 64:=by decide
 have hnl:=Za h.1;have hml:=Za hv.1;obtain ⟨js,hjs⟩ : ∃ js,ri.map RI.l = js:=⟨_,rfl⟩;have hjl : Hid (js.length = m):=Za (by rw [<- hjs,List.length_map];exact hml.out);have hjat : Hid (∀ (i : Nat) (r : RI),ri[i]? = some r -> js[i]? = some r.l):=Za (fun i r hr=>by rw [<- hjs,List.getElem?_map,hr];rfl);rw [hjs];replace hjs:=Za hjs;have hmd:=hv.2.1;have hdm:=hv.2.2.1;have hnc:=h.2.1;have hcm:=h.2.2.1;unfold maxLen at hcm hdm;obtain ⟨E,hE⟩ : ∃ E,Zal rs = E:=⟨_,rfl⟩;have hC:=Za (fun W1 (hb : Below w.heap.size w W1)=>Zcf A n c rs W1 (h.below hb) hF E hE);have hH:=Za h;have hVH:=Za hv;clear h hv
 by_cases h0 : E = 0
 case neg =>
  have t0 : (E == 0) = false:=by simpa using h0
  have t0' : decide (E = 0) = false:=by simpa using h0
  have t0'' : (E != 0) = true:=by rw [bne,t0];rfl
  have hE0:=Za h0;have hPE:=Zmb (js:=js) hE h0;replace hE:=Za hE;replace h0:=Za h0;go_enter Tryz.func11,Tryz.ntmps11;go_wp2_with fail;refine (hC.out _ (Below.refl _ _)).mono ?_;rintro e w1 ⟨rfl,hb1⟩;go_wp2_with fail;refine (hC.out _ hb1).mono ?_;rintro e w2 ⟨rfl,hb2⟩;go_wp2_with fail;go_returns;exact ImgPost.fall (hb1.trans (hb2.mono hb1.size)) hPE hE0.out
 subst h0;obtain ⟨hcV,hcS,hcP⟩:=Zkw hE;have hM:=Za (hcV.good hH.out);have hrow : Hid (∀ a,a < n -> ((qM rs)[a]?.getD []).length = n):=Za (fun a ha=>hcV.row hH.out a ha);have hSE : Hid (SmE 4 (qM rs)):=Za (hcV.small hH.out hS4);have hn4' : n <= 4:=hn4 hE
 have hn0 : 0 < n:=by rw [<- hnl.out];exact hcV.facts.1
 have hqml : Hid ((qM rs).length = n):=Za (Znw hH.out);have hc0:=Za hE;clear hE hcV hcS hcP;go_enter Tryz.func11,Tryz.ntmps11;go_wp2_with fail;refine (hC.out _ (Below.refl _ _)).mono ?_;rintro e w1 ⟨rfl,hB1⟩;clear hC
 by_cases hm6 : 6 < m
 case pos =>
  have t1 : decide ((6 : Int) < (m : Int)) = true:=decide_eq_true (by omega);have hPE:=Zj4 hc0.out (js:=js) (by rw [hjl.out];exact hm6);go_wp2_with fail;go_returns;exact ImgPost.fall hB1 hPE (by decide)
 have t1 : decide ((6 : Int) < (m : Int)) = false:=decide_eq_false (by omega)
 have hm4' : m <= 4:=by omega
 by_cases hm0 : m = 0
 case pos =>
  have t2 : ((m : Int) == 0) = true:=by simp [hm0]
  have t2' : decide (m = 0) = true:=by simpa using hm0
  have hPE:=Zmc hc0.out (js:=js) (by rw [hjl.out];exact hm0);replace hm0:=Za hm0;go_wp2_with fail;go_returns;exact ImgPost.fall hB1 hPE (by decide)
 have t2 : ((m : Int) == 0) = false:=by simp;omega
 have t2' : decide (m = 0) = false:=by simpa using hm0
 replace hm0:=Za hm0;go_wp2_with fail
 go_loopg [6] m (fun t iv wr=>∃ i : Nat,i + t = m /\ iv = .int .i64 i /\ Hid (∀ (k : Nat) (l : List Int),k < i -> js[k]? = some l -> Zdy rs.length l = true) /\ Below w.heap.size w wr)
 case atStart=>exact ⟨0,by omega,rfl,Za (fun k l hk=>by omega),hB1⟩
 case round =>
  clear hB1;obtain ⟨wi,rfl⟩ : ∃ x : World,x = wr:=⟨_,rfl⟩;obtain ⟨i,hik,rfl,hall,hBwi⟩:=hrel
  cases gk with
  | succ t =>
   obtain rfl : t = m - (i + 1):=by omega
   have him : i < m:=by omega
   have t3 : decide ((i : Int) < (m : Int)) = true:=decide_eq_true (by omega)
   have bi : (i : Int) < (m : Int):=by omega
   obtain ⟨g,o,⟨aA,aN,aC,aL⟩,rfl,he,c0,hLa⟩:=(hVH.out.below hBwi).at_ him;simp only at c0 hLa;have haL:=hLa.1;have hal:=hLa.2.1;have hac:=hLa.2.2.1;unfold maxLen at hac;have hje : Hid (js[i]? = some aL):=Za (hjat.out i _ he);have hbad : Hid (Zdy rs.length aL = false -> Zeg rs js = 8):=Za (fun hf=>Zlk hc0.out (by rw [hjl.out];exact hm6) (List.mem_of_getElem? hje.out) hf)
   have hgood : Hid (Zdy rs.length aL = true -> ∀ (k : Nat) (l : List Int),k < i + 1 -> js[k]? = some l -> Zdy rs.length l = true):=Za (fun hf k l hk hl=>by
    rcases Nat.lt_or_ge k i with h' | h'
    ·exact hall.out k l h' hl
    ·obtain rfl : k = i:=by omega
     rw [hje.out] at hl
     cases hl;exact hf)
   replace he:=Za he;replace haL:=Za haL;replace hLa:=Za hLa
   by_cases hq : aN = n
   case neg =>
    have t4 : ((aN : Int) == (n : Int)) = false:=beq_eq_false_iff_ne.2 (by omega)
    have t4' : ((aN : Int) != (n : Int)) = true:=by rw [bne,t4];rfl
    have t4'' : decide (aN = n) = false:=by simpa using hq
    have hPE:=hbad.out (by unfold Zdy;rw [haL.out,hnl.out,decide_eq_false hq];rfl);replace hq:=Za hq;go_wp2_with fail;go_returns;exact ImgPost.fall hBwi hPE (by decide)
   have t4 : ((aN : Int) == (n : Int)) = true:=beq_iff_eq.2 (by omega)
   have t4' : ((aN : Int) != (n : Int)) = false:=by rw [bne,t4];rfl
   have t4'' : decide (aN = n) = true:=by simpa using hq
   have hq':=Za hq;replace hq:=Za hq;go_wp2_with fail
   go_loopg [7] aN (fun t kv wr=>∃ k : Nat,k + t = aN /\ kv = .int .i64 k /\ Hid (∀ y : Nat,y < k -> Zdv (aL[y]?.getD 0) = false) /\ Below w.heap.size w wr)
   case atStart=>exact ⟨0,by omega,rfl,Za (fun j hj=>by omega),hBwi⟩
   case round =>
    clear c0;obtain ⟨wk,rfl⟩ : ∃ x : World,x = wr:=⟨_,rfl⟩;obtain ⟨k,hki,rfl,hne,hBk⟩:=hrel;obtain ⟨g9,o9,⟨bA,bN,bC,bL⟩,e9,he9,c0,hLb⟩:=(hVH.out.below hBk).at_ him
    cases e9
    have e10:=he.out;rw [he9] at e10
    cases e10
    simp only at c0 hLb
    cases gk with
    | zero =>
     obtain rfl : aN = k:=by omega
     have t6 : decide ((aN : Int) < (aN : Int)) = false:=by simp
     have hall2:=Za (hgood.out (by
      unfold Zdy Zja
      have : aL.any Zdv = false:=by
       rw [List.any_eq_false];intro y hy;obtain ⟨z,hz,e⟩:=List.getElem_of_mem hy;have:=hne.out z (by rw [<- haL.out];exact hz);rw [List.getElem?_eq_getElem hz,e,Option.getD_some] at this;rw [this];decide
      rw [haL.out,hnl.out,this,decide_eq_true hq'.out];rfl))
     replace he9:=Za he9;clear hLb;go_wp2_with fail
     go_roundg (m - (i + 1))
     case measure=>omega
     case rel=>exact ⟨i + 1,by omega,by go_num,hall2,hBk⟩
    | succ t' =>
     obtain rfl : t' = aN - (k + 1):=by omega
     have hki' : k < aN:=by omega
     have t6 : decide ((k : Int) < (aN : Int)) = true:=decide_eq_true (by omega)
     have bk : (k : Int) < (aN : Int):=by omega
     obtain ⟨gy,oy,rfl,y0⟩:=hLb.atC hki';obtain ⟨y,hy⟩ : ∃ y,aL[k]?.getD 0 = y:=⟨_,rfl⟩;rw [hy] at y0
     have hmem : Hid (Zdv y = true -> Zdy rs.length aL = false):=Za (fun hf=>by
      unfold Zdy Zja
      have h1 : k < aL.length:=by rw [haL.out];exact hki'
      have : aL.any Zdv = true:=List.any_eq_true.2 ⟨aL[k],List.getElem_mem h1,by
       rw [List.getElem?_eq_getElem h1,Option.getD_some] at hy
       rw [hy];exact hf⟩
      rw [this];simp)
     replace he9:=Za he9;clear hLb
     by_cases hy1 : y < -1099511627776
     case pos =>
      have t7 : decide (y < -1099511627776) = true:=decide_eq_true hy1;have hPE:=hbad.out (hmem.out (by unfold Zdv;rw [t7];rfl));replace hy1:=Za hy1;replace hy:=Za hy;go_wp2_with fail;go_returns;exact ImgPost.fall hBk hPE (by decide)
     have t7 : decide (y < -1099511627776) = false:=decide_eq_false hy1
     by_cases hy2 : 1099511627776 < y
     case pos =>
      have t8 : decide (1099511627776 < y) = true:=decide_eq_true hy2;have hPE:=hbad.out (hmem.out (by unfold Zdv;rw [t8];simp));replace hy1:=Za hy1;replace hy2:=Za hy2;replace hy:=Za hy;go_wp2_with fail;go_returns;exact ImgPost.fall hBk hPE (by decide)
     have t8 : decide (1099511627776 < y) = false:=decide_eq_false hy2
     have hne2 : Hid (∀ z : Nat,z < k + 1 -> Zdv (aL[z]?.getD 0) = false):=Za (fun z hz=>by
      rcases Nat.lt_or_ge z k with h' | h'
      ·exact hne.out z h'
      ·obtain rfl : z = k:=by omega
       rw [hy];unfold Zdv;rw [t7,t8];rfl)
     replace hy1:=Za hy1;replace hy2:=Za hy2;replace hy:=Za hy;go_wp2_with fail
     go_roundg (aN - (k + 1))
     case measure=>omega
     case rel=>exact ⟨k + 1,by omega,by go_num,hne2,hBk⟩
  | zero =>
   obtain rfl : m = i:=by omega
   have t3 : decide ((m : Int) < (m : Int)) = false:=by simp
   have hgoodJ : Hid (∀ l ∈ js,l.length = n /\ Zcw l):=Za (fun l hl=>by
    obtain ⟨k,hk,e⟩:=List.getElem_of_mem hl;have:=hall.out k l (by rw [<- hjl.out];exact hk) (by rw [List.getElem?_eq_getElem hk,e]);have h2:=Zjr this
    rw [hnl.out] at h2;exact h2)
   have hPE : Hid (Zeg rs js = 0):=Za (Zod hc0.out (by rw [hjl.out];exact hm6) (by rw [hjl.out];exact hm0.out) (fun l hl=>by
    obtain ⟨k,hk,e⟩:=List.getElem_of_mem hl
    exact hall.out k l (by rw [<- hjl.out];exact hk) (by rw [List.getElem?_eq_getElem hk,e])))
   have hMi:=Za (hM.out.below hBwi);have hVi:=Za (hVH.out.below hBwi);go_wp2_with fail
   go_loopg [8,9] m (fun t ov jv wr=>∃ (j : Nat) (L : List RS),j + t = m /\ jv = .int .i64 j /\ MatOA 41 64 wr wi.heap.size ov L ((Zeh (Zh (qM rs)) n js).take j) /\ Below wi.heap.size wi wr)
   case atStart=>exact ⟨0,[],by omega,rfl,MatOA.nil _ _ _ _,Below.refl _ _⟩
   case round =>
    obtain ⟨wj,rfl⟩ : ∃ x : World,x = wr:=⟨_,rfl⟩;obtain ⟨j,L1,hjk,rfl,hMO,hBj⟩:=hrel;have hLl : Hid (L1.length = j):=Za (by rw [hMO.2.1,List.length_take,Zcb,hjl.out];omega);obtain ⟨oA,on_,oc,rfl⟩:=hMO.1.isSlP
    cases gk with
    | zero =>
     obtain rfl : m = j:=by omega
     have t4 : decide ((m : Int) < (m : Int)) = false:=by simp
     have hfullQ : (Zeh (Zh (qM rs)) n js).take m = Zeh (Zh (qM rs)) n js:=List.take_of_length_le (by rw [Zcb,hjl.out];exact Nat.le_refl _);rw [hfullQ] at hMO;obtain ⟨a7,a9,e7,hMF⟩:=hMO.mflA;rw [Zcb,hjl.out] at e7 hMF
     cases e7
     obtain ⟨rt,hMX,hqt,hst⟩:=hMF.mxs;have hFt : Hid (FacC rt):=Za (Zol (n:=n) hSE.out hn4' hqml.out hrow.out hn0 (fun a ha=>(hgoodJ.out a ha).2) (by rw [hjl.out];exact hm4') hqt (by rw [hMX.1,hjl.out]));replace hst:=Za hst;replace hqt:=Za hqt;replace hMX:=Za hMX;replace hMO:=Za hMO;clear hMF;go_wp2_with fail;refine (Zmh _ m _ rt wj hMX.out hFt.out).mono ?_;rintro e w5 ⟨hb5,⟨hok,rfl⟩ | ⟨hno,rfl⟩⟩
     ·have hBw : Below w.heap.size w w5:=hBwi.trans ((hBj.trans (hb5.mono hBj.size)).mono hBwi.size)
      have hMO5:=Za ((hMO.out.kept hb5).lowerC hBwi.size);replace hok:=Za hok;go_wp2_with fail;go_returns;refine ⟨hBw,.inl ⟨hPE.out,rt,by rw [hnl.out];exact hst.out,.inl ⟨hok.out,_,L1,rfl,?_⟩⟩⟩;rw [hnl.out];exact hMO5.out
     ·have hBw : Below w.heap.size w w5:=hBwi.trans ((hBj.trans (hb5.mono hBj.size)).mono hBwi.size)
      replace hno:=Za hno;go_wp2_with fail;go_returns;exact ⟨hBw,.inl ⟨hPE.out,rt,by rw [hnl.out];exact hst.out,.inr ⟨hno.out,rfl⟩⟩⟩
    | succ t =>
     obtain rfl : t = m - (j + 1):=by omega
     have hjm : j < m:=by omega
     have t4 : decide ((j : Int) < (m : Int)) = true:=decide_eq_true (by omega)
     have bj : (j : Int) < (m : Int):=by omega
     obtain ⟨gJ,oJ,⟨aA,aN,aC,aL⟩,rfl,he,ca0,hLa⟩:=hVi.out.at_ hjm;simp only at ca0 hLa;have hje : Hid (js[j]? = some aL):=Za (hjat.out j _ he);obtain ⟨haN0,haNear⟩:=hgoodJ.out aL (List.mem_of_getElem? hje.out)
     have haN : n = aN:=by rw [<- haN0];exact hLa.1
     subst haN;have halc:=hLa.2.1;have halm:=hLa.2.2.1;unfold maxLen at halm;have hjget : Hid (js[j]?.getD [] = aL):=Za (by rw [hje.out];rfl);replace haNear:=Za haNear;replace haN0:=Za haN0;replace hLa:=Za hLa;replace he:=Za he;replace hMO:=Za hMO;go_wp2_with fail
     go_loopg [10,11] m (fun t rv kv wr=>∃ k : Nat,k + t = m /\ kv = .int .i64 k /\ OwnF 64 wr wj.heap.size rv ((Zbv (Zh (qM rs)) n js aL).take k) /\ Below wj.heap.size wj wr)
     case atStart=>exact ⟨0,by omega,rfl,by simpa using OwnF.nil 64 wj wj.heap.size,Below.refl _ _⟩
     case round =>
      obtain ⟨wk,rfl⟩ : ∃ x : World,x = wr:=⟨_,rfl⟩;obtain ⟨k,hkm,rfl,hO,hBk⟩:=hrel;have hBjk : Below wi.heap.size wi wk:=hBj.trans (hBk.mono hBj.size);obtain ⟨rA,rc,e9,hrF⟩:=hO.fl
      have hrl : ((Zbv (Zh (qM rs)) n js aL).take k).length = k:=by rw [List.length_take,Zc5,hjl.out];omega
      rw [hrl] at e9 hrF;subst e9
      cases gk with
      | zero =>
       obtain rfl : m = k:=by omega
       have t5 : decide ((m : Int) < (m : Int)) = false:=by simp
       have hMk:=hMO.out.kept hBk
       have hlt : Hid (∀ s ∈ L1,∀ k',s.val.ownBlock = some k' -> k' < wj.heap.size):=Za (fun s hs k' hk'=>by
        obtain ⟨q,hq,e⟩:=List.getElem_of_mem hs
        exact (hMO.out.2.2.1 q s (by rw [List.getElem?_eq_getElem hq,e])).blt k' hk')
       obtain ⟨Y1,hY1⟩ : ∃ Y,wk.alloc (.cells #[.slice rA m rc] 41) = Y:=⟨_,rfl⟩;obtain ⟨gz,hgz⟩ : ∃ g,wk.heap.size = g:=⟨_,rfl⟩
       have hBY : Below wk.heap.size wk Y1:=by rw [<- hY1];exact (Below.refl _ _).alloc (Nat.le_refl _) _
       have hbY : Blk Y1 gz 41 #[.slice rA m rc]:=by rw [<- hY1,<- hgz];exact Blk.new _ _ _
       have hMY:=hMk.kept hBY;have hOY:=hO.kept hBY;have hBiY : Below wi.heap.size wi Y1:=hBjk.trans (hBY.mono hBjk.size)
       have hll : L1.length + 1 <= 1000:=by rw [hLl.out];omega
       have hown:=hMY.1;have hsz:=hBiY.size;replace hO:=Za hO;replace hMk:=Za hMk;replace hOY:=Za hOY;clear hrF;go_wp2_with ((try rw [hY1]);(try rw [hgz]);at_builtin;refine Zbq _ rfl (.tmp 89) (.tmp 91) 22 rfl wi.heap.size 41 iS Tryz.underlying22 ki kz0 kz1 kz2 _ L1 rfl hown _ (some ⟨gz,0,none⟩) 1 1 [⟨rA,m,rc⟩] rfl (Zb1 hbY) rfl hll hsz ?_;intro v5 w5 hR5 hg5 hk5);have hM5:=hMY.snoc hts (r:=⟨rA,m,rc⟩) hOY.out hBj.size hlt.out hR5 hg5 hk5;have hB5:=hBiY.grown hg5 hsz (fun k hk=>hown.row_ge k hk);have hfull : (Zbv (Zh (qM rs)) n js aL).take m = Zbv (Zh (qM rs)) n js aL:=List.take_of_length_le (by rw [Zc5,hjl.out];exact Nat.le_refl _);have hsc:=Zjp (n:=n) (Q:=Zh (qM rs)) (js:=js) (k:=j) (by rw [hjl.out];exact hjm);rw [hjget.out] at hsc;rw [hfull,hsc] at hM5;replace hM5:=Za hM5
       go_roundg (m - (j + 1))
       case measure=>omega
       case rel=>exact ⟨j + 1,_,by omega,by go_num,hM5.out,hB5⟩
      | succ t' =>
       obtain rfl : t' = m - (k + 1):=by omega
       have hkm' : k < m:=by omega
       have t5 : decide ((k : Int) < (m : Int)) = true:=decide_eq_true (by omega)
       have bk : (k : Int) < (m : Int):=by omega
       obtain ⟨gJ2,oJ2,⟨bA,bN,bC,bL⟩,eJ,he2,cb0,hLb⟩:=hVi.out.at_ hkm';simp only at cb0 hLb
       cases eJ
       have hje2 : Hid (js[k]? = some bL):=Za (hjat.out k _ he2);obtain ⟨hbN0,hbNear⟩:=hgoodJ.out bL (List.mem_of_getElem? hje2.out)
       have hbN : n = bN:=by rw [<- hbN0];exact hLb.1
       subst hbN;have hkget : Hid (js[k]?.getD [] = bL):=Za (by rw [hje2.out];rfl);replace hbNear:=Za hbNear;replace hbN0:=Za hbN0;replace hLb:=Za hLb;replace he2:=Za he2;replace hO:=Za hO;have z0:=Zb hBjk ca0;have z1:=Zb hBjk cb0;clear hrF;go_wp2_with fail;clear z0 z1;obtain ⟨X0,hX0⟩ : ∃ X,wk.drew = X:=⟨_,rfl⟩
       have hr1 : Below wk.heap.size wk X0:=by rw [<- hX0];exact Zj (Below.refl _ _) 1
       have hSv : Hid (∀ wx,Below wi.heap.size wi wx -> wx.cell? ⟨gJ,oJ + j,none⟩ = some (.slice aA n aC) /\ wx.cell? ⟨gJ,oJ + k,none⟩ = some (.slice bA n bC)):=Za (fun wx hbx=>⟨Zb hbx ca0,Zb hbx cb0⟩);have hw1 : Below wi.heap.size wi X0:=hBjk.trans (hr1.mono hBjk.size);refine wp_heldS [] hmx hSv (by rw [hX0];exact hw1) (fun hxs=>?_);rw [hX0];refine Zru 10 [0,1,2,3,4,5,6,7,8,9] rfl (by kernel_rfl) (hSv.out _ hw1) ?_
       iterate 10 (refine tk1 (v:=?_) rfl (Or.inl ⟨by kernel_rfl,?_⟩) ?_;rotate_left;(· intro W2 hSw;(try dsimp only at hSw);go_simp;try with_reducible rfl);try simp only [Act.put,putL_a,putL_z,putL_s,putG_a,putG_s,putG_z])
       refine tk0 ?_;refine Ze (i:=10) rfl (by kernel_rfl) (fun K hK=>?_);go_simp;refine (Zn1 A n c (qM rs) aA aC aL bA bC bL X0 (hMi.out.below hw1) hrow.out (hLa.out.below hw1) (hLb.out.below hw1) hSE.out hn4' hn0 haNear.out hbNear.out).mono ?_;rintro e w5 ⟨hb5,un,uA,uk,uc,um,uB,uj,ud,rfl,hU⟩;have hr5:=hr1.trans (hb5.mono hr1.size);have hw5:=hBjk.trans (hr5.mono hBjk.size);refine hK.out _ _ (fun _=>hSv.out _ hw5) ?_;clear hK K
       try simp only [Act.put,putL_a,putL_z,putL_s]
       obtain ⟨Y2,hY2⟩ : ∃ Y,w5.alloc (.cells #[.bool un,.slice uA uk uc,.bool um,.slice uB uj ud] 64) = Y:=⟨_,rfl⟩;obtain ⟨ga2,hga2⟩ : ∃ g,w5.heap.size = g:=⟨_,rfl⟩
       have hBY2 : Below w5.heap.size w5 Y2:=by rw [<- hY2];exact (Below.refl _ _).alloc (Nat.le_refl _) _
       have hbY2 : Blk Y2 ga2 64 #[.bool un,.slice uA uk uc,.bool um,.slice uB uj ud]:=by rw [<- hY2,<- hga2];exact Blk.new _ _ _
       have hrY2:=hr5.trans (hBY2.mono hr5.size);have hwY2:=hBjk.trans (hrY2.mono hBjk.size);refine Ze (i:=11) rfl (by kernel_rfl) (fun K hK=>?_);go_simp;(try rw [hY2]);(try rw [hga2]);refine hK.out _ _ (fun _=>hSv.out _ hwY2) ?_;clear hK K hY2 hga2
       try simp only [Act.put,putL_a,putL_z,putL_s]
       have hOY:=hO.out.kept hrY2;have hUY:=hU.below hBY2;have hsz : wj.heap.size <= Y2.heap.size:=Nat.le_trans hBk.size hrY2.size;have hjY : Below wj.heap.size wj Y2:=hBk.trans (hrY2.mono hBk.size);refine Ze (i:=12) rfl (by kernel_rfl) (fun K hK=>?_);rw [if_pos (by rfl)];refine Zy _ (.tmp 76) (.tmp 87) 41 rfl wj.heap.size 64 iF Tryz.underlying41 hi hz0 hz1 hz2 (.slice rA k rc) _ rfl hOY _ (some ⟨ga2,0,none⟩) 1 1 [⟨un,uA,uk,uc,um,uB,uj,ud,imT (Zh (qM rs)) n aL bL n 0⟩] rfl (Zak _ hbY2) rfl (by intro e he;rw [List.mem_singleton] at he;subst he;exact hUY) (by rw [hrl];omega) hsz ?_;intro v7 w7 hO7 hg7 hk7 hw7;have hj7:=hjY.grown hg7 hsz (fun k hk=>hOY.row_ge k hk);have hi7 : Below wi.heap.size wi w7:=hBj.trans (hj7.mono hBj.size);simp only [List.map_cons,List.map_nil] at hO7;have hsc:=Zhk (n:=n) (Q:=Zh (qM rs)) (js:=js) (a:=aL) (k:=k) (by rw [hjl.out];exact hkm');rw [hkget.out] at hsc;rw [hsc] at hO7;refine hK.out _ _ (fun _=>hSv.out _ hi7) ?_;clear hK K
       try simp only [Act.put,putL_a,putL_z,putL_s]
       refine Zrt 1 [13] rfl (by kernel_rfl) (hSv.out _ hi7) ?_
       (refine tk1 (v:=?_) rfl (Or.inl ⟨by kernel_rfl,?_⟩) ?_;rotate_left;(· intro W2 _;go_simp;try with_reducible rfl);try simp only [Act.put,putL_a,putL_z,putL_s,putG_a,putG_s,putG_z])
       refine tk0 ?_;refine Zk (by kernel_rfl) ?_ _;refine OnlyNormal.normal ?_;replace hO7:=Za hO7;clear hOY hUY hbY2 hBY2 hX0 hsc;go_wp2_with fail
       go_roundg (m - (k + 1))
       case measure=>omega
       case rel=>exact ⟨k + 1,by omega,by go_num,hO7.out,hj7⟩
def calmC (r : RX) : Prop:=∀ e ∈ r.es,e.few <= 4 \/ 64 < e.few
def calmX (rs : List RX) : Prop:=(rs.length <= 4 \/ 6 < rs.length) /\ rs.length <= 10 /\ fewM 4 rs
theorem Zks (A : Option Addr) (n c : Nat) (rs : List RX) (w : World) (h : MXL w A n c rs) :
    Calls Tryz.prog 7 #[.slice A n c] w fun e w'=>∃ b,e = .returned (.bool b) /\ Below w.heap.size w w' /\ (b = false -> calmX rs):=by
 have hl:=h.1;have hnc:=h.2.1;have hcm:=h.2.2.1;unfold maxLen at hcm;replace h:=Za h;replace hl:=Za hl;go_enter Tryz.func7,Tryz.ntmps7;go_wp2_with fail
 go_loopg [3] n (fun k iv wr=>∃ i : Nat,i + k = n /\ i <= 10 /\ iv = .int .i64 i /\ Hid (∀ a r,a < i -> rs[a]? = some r -> calmC r) /\ Below w.heap.size w wr)
 case atStart=>exact ⟨0,by omega,by omega,rfl,Za (fun a r ha=>by omega),Below.refl _ _⟩
 case round =>
  obtain ⟨w0,rfl⟩ : ∃ x : World,x = wr:=⟨_,rfl⟩;obtain ⟨i,hik,hi10,rfl,hc,hB⟩:=hrel
  by_cases hin : i < n
  case neg =>
   have t1 : decide ((i : Int) < (n : Int)) = false:=decide_eq_false (by omega)
   have hn10 : n <= 10:=by omega
   have hcc : Hid (fewM 4 rs):=Za (fun r hr=>by
    obtain ⟨a,ha,e⟩:=List.getElem_of_mem hr
    exact hc.out a r (by rw [hl.out] at ha;omega) (by rw [List.getElem?_eq_getElem ha,e]))
   by_cases h4 : 4 < n
   ·have u4 : decide ((4 : Int) < (n : Int)) = true:=decide_eq_true (by omega)
    by_cases h6 : n <= 6
    ·have u6 : decide ((n : Int) <= 6) = true:=decide_eq_true (by omega)
     go_wp2_with fail;go_ret;exact ⟨_,rfl,hB,fun hf=>absurd hf (by decide)⟩
    ·have u6 : decide ((n : Int) <= 6) = false:=decide_eq_false (by omega)
     have u10 : decide ((10 : Int) < (n : Int)) = false:=decide_eq_false (by omega);go_wp2_with fail;go_ret;exact ⟨_,rfl,hB,fun _=>⟨.inr (by rw [hl.out];omega),by rw [hl.out];exact hn10,hcc.out⟩⟩
   ·have u4 : decide ((4 : Int) < (n : Int)) = false:=decide_eq_false (by omega)
    have u10 : decide ((10 : Int) < (n : Int)) = false:=decide_eq_false (by omega);go_wp2_with fail;go_ret;exact ⟨_,rfl,hB,fun _=>⟨.inl (by rw [hl.out];omega),by rw [hl.out];exact hn10,hcc.out⟩⟩
  have t1 : decide ((i : Int) < (n : Int)) = true:=decide_eq_true (by omega)
  by_cases hi10' : i < 10
  case neg =>
   have t2 : decide ((i : Int) < 10) = false:=decide_eq_false (by omega);have t2' : decide (i < 10) = false:=decide_eq_false (by omega);have u4 : decide ((4 : Int) < (n : Int)) = true:=decide_eq_true (by omega);have u6 : decide ((n : Int) <= 6) = false:=decide_eq_false (by omega);have u10 : decide ((10 : Int) < (n : Int)) = true:=decide_eq_true (by omega);go_wp2_with fail;go_ret;exact ⟨_,rfl,hB,fun hf=>absurd hf (by decide)⟩
  have t2 : decide ((i : Int) < 10) = true:=decide_eq_true (by omega);have t2' : decide (i < 10) = true:=decide_eq_true (by omega);obtain ⟨gk',rfl⟩ : ∃ j,gk = j + 1:=⟨gk - 1,by omega⟩
  obtain rfl : gk' = n - (i + 1):=by omega
  have bi : (i : Int) < (n : Int):=by omega
  obtain ⟨g,o,⟨rA,rn,rc,es⟩,rfl,hr,k0,hF⟩:=(h.out.below hB).at_ hin;simp only at k0 hF;have hrl:=Nat.le_trans hF.2.1 hF.2.2.1;unfold maxLen at hrl;have hes : Hid (es.length = rn):=Za hF.1;have hrowF:=Za hF;replace hr:=Za hr;clear hF
  by_cases h4 : 4 < rn
  ·have u4 : decide ((4 : Int) < (rn : Int)) = true:=decide_eq_true (by omega)
   by_cases h6 : rn <= 6
   ·have u6 : decide ((rn : Int) <= 6) = true:=decide_eq_true (by omega)
    go_wp2_with fail;go_ret;exact ⟨_,rfl,hB,fun hf=>absurd hf (by decide)⟩
   have u6 : decide ((rn : Int) <= 6) = false:=decide_eq_false (by omega)
   by_cases h10 : 10 < rn
   ·have u10 : decide ((10 : Int) < (rn : Int)) = true:=decide_eq_true (by omega)
    go_wp2_with fail;go_ret;exact ⟨_,rfl,hB,fun hf=>absurd hf (by decide)⟩
   have u10 : decide ((10 : Int) < (rn : Int)) = false:=decide_eq_false (by omega);go_wp2_with fail
   go_loopg [4] rn (fun k iv wr=>∃ j : Nat,j + k = rn /\ iv = .int .i64 j /\ Hid (∀ a e,a < j -> es[a]? = some e -> e.few <= 4 \/ 64 < e.few) /\ Below w0.heap.size w0 wr)
   case atStart=>exact ⟨0,by omega,rfl,Za (fun a e ha=>by omega),Below.refl _ _⟩
   case round =>
    obtain ⟨wx,rfl⟩ : ∃ x : World,x = wr:=⟨_,rfl⟩;obtain ⟨j,hjk,rfl,hce,hB2⟩:=hrel;have k1:=Zb hB2 k0;have hBx:=Za (hB.trans (hB2.mono hB.size))
    cases gk with
    | zero =>
     obtain rfl : rn = j:=by omega
     have t3 : decide ((rn : Int) < (rn : Int)) = false:=by simp
     have hc2 : Hid (∀ a x,a < i + 1 -> rs[a]? = some x -> calmC x):=Za (fun a x ha hx=>by
      by_cases he : a = i
      ·subst he
       rw [hr.out] at hx
       cases hx
       intro e he;obtain ⟨t,ht,hte⟩:=List.getElem_of_mem he;exact hce.out t e (by rw [hes.out] at ht;exact ht) (by rw [List.getElem?_eq_getElem ht,hte])
      ·exact hc.out a x (by omega) hx)
     go_wp2_with fail
     go_roundg (n - (i + 1))
     case measure=>omega
     case rel=>exact ⟨i + 1,by omega,by omega,by go_num,hc2,hBx.out⟩
    | succ gk' =>
     obtain rfl : gk' = rn - (j + 1):=by omega
     have hjn : j < rn:=by omega
     have t3 : decide ((j : Int) < (rn : Int)) = true:=decide_eq_true (by omega)
     have bj : (j : Int) < (rn : Int):=by omega
     obtain ⟨g2,o2,e,hA2,hee,⟨c0,c1,c2,c3⟩,hLa,hLb⟩:=(hrowF.out.below hB2).at_ hjn;rw [hA2] at k1;replace hA2:=Za hA2;have hn1:=Nat.le_trans hLa.2.1 hLa.2.2.1;have hm1:=Nat.le_trans hLb.2.1 hLb.2.2.1;have hFw:=Za (fun W1=>Zki e.na e.nb e.A e.B e.n e.c e.m e.d W1 hn1 hm1);obtain ⟨f,hf⟩ : ∃ f,max e.n e.m = f:=⟨_,rfl⟩
     have hff : f <= 9223372036854775807:=by unfold maxLen at hn1 hm1;omega
     rw [hf] at hFw;have hfe : Hid (e.few = f):=Za hf;replace hee:=Za hee;replace hf:=Za hf;clear hLa hLb hn1 hm1;go_wp2_with fail;refine (hFw.out _).mono ?_;rintro e2 w5 ⟨rfl,hb5⟩;have hB5:=hB2.trans (hb5.mono hB2.size);have hB6:=Za (hBx.out.trans (hb5.mono hBx.out.size));clear c0 c1 c2 c3 k1
     by_cases f4 : 4 < f
     ·have x4 : decide ((4 : Int) < (f : Int)) = true:=decide_eq_true (by omega)
      by_cases f64 : f <= 64
      ·have x64 : decide ((f : Int) <= 64) = true:=decide_eq_true (by omega)
       go_wp2_with fail;go_ret;exact ⟨_,rfl,hB6.out,fun hf=>absurd hf (by decide)⟩
      have x64 : decide ((f : Int) <= 64) = false:=decide_eq_false (by omega)
      by_cases f70 : 70 < f
      ·have x70 : decide ((70 : Int) < (f : Int)) = true:=decide_eq_true (by omega)
       go_wp2_with fail;go_ret;exact ⟨_,rfl,hB6.out,fun hf=>absurd hf (by decide)⟩
      have x70 : decide ((70 : Int) < (f : Int)) = false:=decide_eq_false (by omega)
      have hce2 : Hid (∀ a e,a < j + 1 -> es[a]? = some e -> e.few <= 4 \/ 64 < e.few):=Za (fun a x ha hx=>by
       by_cases he : a = j
       ·subst he
        rw [hee.out] at hx
        cases hx
        rw [hfe.out];omega
       ·exact hce.out a x (by omega) hx)
      go_wp2_with fail
      go_roundg (rn - (j + 1))
      case measure=>omega
      case rel=>exact ⟨j + 1,by omega,by go_num,hce2,hB5⟩
     ·have x4 : decide ((4 : Int) < (f : Int)) = false:=decide_eq_false (by omega)
      have x70 : decide ((70 : Int) < (f : Int)) = false:=decide_eq_false (by omega)
      have hce2 : Hid (∀ a e,a < j + 1 -> es[a]? = some e -> e.few <= 4 \/ 64 < e.few):=Za (fun a x ha hx=>by
       by_cases he : a = j
       ·subst he
        rw [hee.out] at hx
        cases hx
        rw [hfe.out];omega
       ·exact hce.out a x (by omega) hx)
      go_wp2_with fail
      go_roundg (rn - (j + 1))
      case measure=>omega
      case rel=>exact ⟨j + 1,by omega,by go_num,hce2,hB5⟩
  ·have u4 : decide ((4 : Int) < (rn : Int)) = false:=decide_eq_false (by omega)
   have u10 : decide ((10 : Int) < (rn : Int)) = false:=decide_eq_false (by omega);go_wp2_with fail
   go_loopg [4] rn (fun k iv wr=>∃ j : Nat,j + k = rn /\ iv = .int .i64 j /\ Hid (∀ a e,a < j -> es[a]? = some e -> e.few <= 4 \/ 64 < e.few) /\ Below w0.heap.size w0 wr)
   case atStart=>exact ⟨0,by omega,rfl,Za (fun a e ha=>by omega),Below.refl _ _⟩
   case round =>
    obtain ⟨wx,rfl⟩ : ∃ x : World,x = wr:=⟨_,rfl⟩;obtain ⟨j,hjk,rfl,hce,hB2⟩:=hrel;have k1:=Zb hB2 k0;have hBx:=Za (hB.trans (hB2.mono hB.size))
    cases gk with
    | zero =>
     obtain rfl : rn = j:=by omega
     have t3 : decide ((rn : Int) < (rn : Int)) = false:=by simp
     have hc2 : Hid (∀ a x,a < i + 1 -> rs[a]? = some x -> calmC x):=Za (fun a x ha hx=>by
      by_cases he : a = i
      ·subst he
       rw [hr.out] at hx
       cases hx
       intro e he;obtain ⟨t,ht,hte⟩:=List.getElem_of_mem he;exact hce.out t e (by rw [hes.out] at ht;exact ht) (by rw [List.getElem?_eq_getElem ht,hte])
      ·exact hc.out a x (by omega) hx)
     go_wp2_with fail
     go_roundg (n - (i + 1))
     case measure=>omega
     case rel=>exact ⟨i + 1,by omega,by omega,by go_num,hc2,hBx.out⟩
    | succ gk' =>
     obtain rfl : gk' = rn - (j + 1):=by omega
     have hjn : j < rn:=by omega
     have t3 : decide ((j : Int) < (rn : Int)) = true:=decide_eq_true (by omega)
     have bj : (j : Int) < (rn : Int):=by omega
     obtain ⟨g2,o2,e,hA2,hee,⟨c0,c1,c2,c3⟩,hLa,hLb⟩:=(hrowF.out.below hB2).at_ hjn;rw [hA2] at k1;replace hA2:=Za hA2;have hn1:=Nat.le_trans hLa.2.1 hLa.2.2.1;have hm1:=Nat.le_trans hLb.2.1 hLb.2.2.1;have hFw:=Za (fun W1=>Zki e.na e.nb e.A e.B e.n e.c e.m e.d W1 hn1 hm1);obtain ⟨f,hf⟩ : ∃ f,max e.n e.m = f:=⟨_,rfl⟩
     have hff : f <= 9223372036854775807:=by unfold maxLen at hn1 hm1;omega
     rw [hf] at hFw;have hfe : Hid (e.few = f):=Za hf;replace hee:=Za hee;replace hf:=Za hf;clear hLa hLb hn1 hm1;go_wp2_with fail;refine (hFw.out _).mono ?_;rintro e2 w5 ⟨rfl,hb5⟩;have hB5:=hB2.trans (hb5.mono hB2.size);have hB6:=Za (hBx.out.trans (hb5.mono hBx.out.size));clear c0 c1 c2 c3 k1
     by_cases f4 : 4 < f
     ·have x4 : decide ((4 : Int) < (f : Int)) = true:=decide_eq_true (by omega)
      by_cases f64 : f <= 64
      ·have x64 : decide ((f : Int) <= 64) = true:=decide_eq_true (by omega)
       go_wp2_with fail;go_ret;exact ⟨_,rfl,hB6.out,fun hf=>absurd hf (by decide)⟩
      have x64 : decide ((f : Int) <= 64) = false:=decide_eq_false (by omega)
      by_cases f70 : 70 < f
      ·have x70 : decide ((70 : Int) < (f : Int)) = true:=decide_eq_true (by omega)
       go_wp2_with fail;go_ret;exact ⟨_,rfl,hB6.out,fun hf=>absurd hf (by decide)⟩
      have x70 : decide ((70 : Int) < (f : Int)) = false:=decide_eq_false (by omega)
      have hce2 : Hid (∀ a e,a < j + 1 -> es[a]? = some e -> e.few <= 4 \/ 64 < e.few):=Za (fun a x ha hx=>by
       by_cases he : a = j
       ·subst he
        rw [hee.out] at hx
        cases hx
        rw [hfe.out];omega
       ·exact hce.out a x (by omega) hx)
      go_wp2_with fail
      go_roundg (rn - (j + 1))
      case measure=>omega
      case rel=>exact ⟨j + 1,by omega,by go_num,hce2,hB5⟩
     ·have x4 : decide ((4 : Int) < (f : Int)) = false:=decide_eq_false (by omega)
      have x70 : decide ((70 : Int) < (f : Int)) = false:=decide_eq_false (by omega)
      have hce2 : Hid (∀ a e,a < j + 1 -> es[a]? = some e -> e.few <= 4 \/ 64 < e.few):=Za (fun a x ha hx=>by
       by_cases he : a = j
       ·subst he
        rw [hee.out] at hx
        cases hx
        rw [hfe.out];omega
       ·exact hce.out a x (by omega) hx)
      go_wp2_with fail
      go_roundg (rn - (j + 1))
      case measure=>omega
      case rel=>exact ⟨j + 1,by omega,by go_num,hce2,hB5⟩
theorem Zi6 (na : Bool) (a : List Nat) : Zdu na na a a = true:=by
 unfold Zdu
 have : Zbd a a = 0:=by
  unfold Zbd
  simp
 rw [this];simp
theorem Zm2 (na nb : Bool) (A B A' B' : Option Addr) (n c m d n' c' m' d' : Nat) (la lb : List Nat) (w : World) (ha : Lim w A n c la) (hb : Lim w B m d lb) (ha' : Lim w A' n' c' la) (hb' : Lim w B' m' d' lb) :
    Calls Tryz.prog 28 #[.agg #[.bool na,.slice A n c,.bool nb,.slice B m d],.agg #[.bool na,.slice A' n' c',.bool nb,.slice B' m' d']] w fun e w'=>e = .returned (.bool true) /\ Below w.heap.size w w':=by
 obtain ⟨W0,hW0,hB0,⟨q0,q1⟩,s0⟩:=Zi3 w 64 #[.bool na,.slice A n c,.bool nb,.slice B m d] 64 #[.bool na,.slice A' n' c',.bool nb,.slice B' m' d'];replace ha:=Za (ha.below hB0);replace hb:=Za (hb.below hB0);replace ha':=Za (ha'.below hB0);replace hb':=Za (hb'.below hB0);obtain ⟨a0,a1,a2,a3,-⟩:=q0.four;obtain ⟨b0,b1,b2,b3,-⟩:=q1.four;have hq:=Za (And.intro q0 q1);clear q0 q1;go_enter Tryz.func28,Tryz.ntmps28;go_wp2_with fail;refine (Zc1 na na A A' n c n' c' _ _ W0 ha.out ha'.out).mono ?_;rw [Zi6];rintro e w1 ⟨rfl,hb1⟩;have hB1 : Below w.heap.size w w1:=hB0.trans (hb1.mono hB0.size);obtain ⟨q0,q1⟩:=hq.out;replace q0:=Zc hb1 q0;replace q1:=Zc hb1 q1;clear hW0 a0 a1 a2 a3 b0 b1 b2 b3 hq hB0;obtain ⟨a0,a1,a2,a3,-⟩:=q0.four;obtain ⟨b0,b1,b2,b3,-⟩:=q1.four;clear q0 q1;go_wp2_with fail;refine (Zc1 nb nb B B' m d m' d' _ _ w1 (hb.out.below hb1) (hb'.out.below hb1)).mono ?_;rw [Zi6];rintro e w2 ⟨rfl,hb2⟩;have hB2 : Below w.heap.size w w2:=hB1.trans (hb2.mono hB1.size);go_wp2_with fail;go_ret;exact ⟨by simp,hB2⟩
structure DF where
 na : Bool
 la : List Nat
 nb : Bool
 lb : List Nat
def XL (w : World) (A : Option Addr) (n c : Nat) (ds : List DF) : Prop:=
 ds.length = n /\ n <= c /\ c <= maxLen /\ ∀ (k : Nat) (d : DF),ds[k]? = some d -> ∃ g o A1 n1 c1 B1 m1 d1,A = some ⟨g,o,none⟩ /\ At4 w g (o + k * 4) d.na A1 n1 c1 d.nb B1 m1 d1 /\ Lim w A1 n1 c1 d.la /\ Lim w B1 m1 d1 d.lb
def XM (w : World) (A : Option Addr) (n c : Nat) (D : List (List DF)) : Prop:=
 D.length = n /\ n <= c /\ c <= maxLen /\ ∀ (k : Nat) (ds : List DF),D[k]? = some ds -> ∃ g o A1 n1 c1,A = some ⟨g,o,none⟩ /\ w.cell? ⟨g,o + k,none⟩ = some (.slice A1 n1 c1) /\ XL w A1 n1 c1 ds
section
variable {w w' : World} {A : Option Addr} {n c : Nat} {ds : List DF} {D : List (List DF)}
theorem XL.below (h : XL w A n c ds) (hb : Below w.heap.size w w') : XL w' A n c ds:=by
 obtain ⟨h1,h2,h3,h4⟩:=h;refine ⟨h1,h2,h3,fun k d hd=>?_⟩;obtain ⟨g,o,A1,n1,c1,B1,m1,d1,e,a,b,b'⟩:=h4 k d hd;exact ⟨g,o,A1,n1,c1,B1,m1,d1,e,a.below hb,b.below hb,b'.below hb⟩
theorem XM.below (h : XM w A n c D) (hb : Below w.heap.size w w') : XM w' A n c D:=by
 obtain ⟨h1,h2,h3,h4⟩:=h;refine ⟨h1,h2,h3,fun k d hd=>?_⟩;obtain ⟨g,o,A1,n1,c1,e,a,b⟩:=h4 k d hd;exact ⟨g,o,A1,n1,c1,e,Zb hb a,b.below hb⟩
def dfQ (q : Rat) : DF:=⟨decide (q.num < 0),digits q.num.natAbs,false,digits q.den⟩
theorem FL.xl {qs : List Rat} (h : FL w A n c qs) : XL w A n c (qs.map dfQ):=by
 have hl:=h.len;refine ⟨by rw [List.length_map,hl],h.cap.1,h.cap.2,fun k d hd=>?_⟩;rw [List.getElem?_map] at hd;obtain ⟨q,hq,rfl⟩:=Option.map_eq_some_iff.1 hd
 have hk : k < n:=by have:=(List.getElem?_eq_some_iff.1 hq).1;omega
 obtain ⟨g,o,na,A1,n1,c1,nb,B,m,d,e1,e2,e3⟩:=h.at_ hk;rw [hq,Option.getD_some] at e3;have h1:=e3.1.1;have h2:=e3.2.1;have h3:=e3.2.2.2;rw [Int.natAbs_natCast] at h3
 have h4 : nb = false:=by rw [h2];exact decide_eq_false (by omega)
 subst h1 h4;exact ⟨g,o,_,_,_,_,_,_,e1,e2,e3.1.2.2,h3⟩
theorem MFL.xm {Q : List (List Rat)} (h : MFL w A n c Q) : XM w A n c (Q.map fun r=>r.map dfQ):=by
 refine ⟨by rw [List.length_map,h.1],h.2.1,h.2.2.1,fun k d hd=>?_⟩;rw [List.getElem?_map] at hd;obtain ⟨r,hr,rfl⟩:=Option.map_eq_some_iff.1 hd
 have hk : k < n:=by have:=(List.getElem?_eq_some_iff.1 hr).1;rw [h.1] at this;exact this
 obtain ⟨g,o,A1,n1,c1,e1,e3,e4⟩:=h.at_ hk;rw [hr,Option.getD_some] at e4;exact ⟨g,o,_,_,_,e1,e3,e4.xl⟩
theorem XM.nil (w : World) : XM w none 0 0 []:=⟨rfl,Nat.le_refl _,Nat.zero_le _,fun k d hd=>(by cases hd)⟩
end
theorem Zky (A B : Option Addr) (n c d : Nat) (ds : List DF) (w : World) (ha : XL w A n c ds) (hb : XL w B n d ds) :
    Calls Tryz.prog 20 #[.slice A n c,.slice B n d] w fun e w'=>e = .returned (.bool true) /\ Below w.heap.size w w':=by
 have hmx : Tryz.prog.follows .mixedOrders = true:=by kernel_rfl
 have hl:=Za ha.1;have hc:=ha.2.1;have hcm:=ha.2.2.1;have hd:=hb.2.1;have hdm:=hb.2.2.1;unfold maxLen at hcm hdm;replace ha:=Za ha;replace hb:=Za hb
 have t0 : (((n : Int)) != (n : Int)) = false:=by simp
 go_enter Tryz.func20,Tryz.ntmps20;go_wp2_with fail
 go_loopg [5] n (fun k iv wr=>∃ i : Nat,i + k = n /\ iv = .int .i64 i /\ Below w.heap.size w wr)
 case atStart=>exact ⟨0,by omega,rfl,Below.refl _ _⟩
 case round =>
  obtain ⟨i,hik,rfl,hB⟩:=hrel
  cases gk with
  | zero =>
   obtain rfl : i = n:=by omega
   have t1 : decide ((i : Int) < (i : Int)) = false:=by simp
   go_wp2_with fail;go_ret;exact ⟨rfl,hB⟩
  | succ k' =>
   obtain rfl : k' = n - (i + 1):=by omega
   have hin : i < n:=by omega
   have t1 : decide ((i : Int) < (n : Int)) = true:=decide_eq_true (by omega)
   have bi : (i : Int) < (n : Int):=by omega
   obtain ⟨x,hx⟩:=Zfh (L:=ds) (i:=i) (by rw [hl.out];exact hin);obtain ⟨g,o,A1,n1,c1,B1,m1,d1,rfl,⟨r0,r1,r2,r3⟩,l1,l2⟩:=(ha.out.below hB).2.2.2 i x hx;obtain ⟨g',o',A1',n1',c1',B1',m1',d1',rfl,⟨s0,s1,s2,s3⟩,l1',l2'⟩:=(hb.out.below hB).2.2.2 i x hx;replace l1:=Za l1;replace l2:=Za l2;replace l1':=Za l1';replace l2':=Za l2';go_wp2_with fail;obtain ⟨X0,hX0⟩ : ∃ X,wr.drew = X:=⟨_,rfl⟩
   have hr1 : Below wr.heap.size wr X0:=by rw [<- hX0];exact Zj (Below.refl _ _) 1
   have hSv1 : Hid (∀ wx,Below wr.heap.size wr wx -> wx.cell? ⟨g,o + i * 4,none⟩ = some (.bool x.na) /\ wx.cell? ⟨g,o + i * 4 + 1,none⟩ = some (.slice A1 n1 c1) /\ wx.cell? ⟨g,o + i * 4 + 2,none⟩ = some (.bool x.nb) /\ wx.cell? ⟨g,o + i * 4 + 3,none⟩ = some (.slice B1 m1 d1) /\ wx.cell? ⟨g',o' + i * 4,none⟩ = some (.bool x.na) /\ wx.cell? ⟨g',o' + i * 4 + 1,none⟩ = some (.slice A1' n1' c1') /\ wx.cell? ⟨g',o' + i * 4 + 2,none⟩ = some (.bool x.nb) /\ wx.cell? ⟨g',o' + i * 4 + 3,none⟩ = some (.slice B1' m1' d1')):=Za (fun wx hbx=>⟨Zb hbx r0,Zb hbx r1,Zb hbx r2,Zb hbx r3,Zb hbx s0,Zb hbx s1,Zb hbx s2,Zb hbx s3⟩);refine wp_heldS [] hmx hSv1 (by rw [hX0];exact hr1) (fun hxs=>?_);rw [hX0];refine Zru 8 [0,1,2,3,4,5,6,7] rfl (by kernel_rfl) (hSv1.out _ hr1) ?_
   iterate 8 (refine tk1 (v:=?_) rfl (Or.inl ⟨by kernel_rfl,?_⟩) ?_;rotate_left;(· intro W2 hSw;(try dsimp only at hSw);go_simp;try with_reducible rfl);try simp only [Act.put,putL_a,putL_z,putL_s,putG_a,putG_s,putG_z])
   refine tk0 ?_;refine Ze (i:=8) rfl (by kernel_rfl) (fun K hK=>?_);go_simp;refine (Zm2 x.na x.nb A1 B1 A1' B1' n1 c1 m1 d1 n1' c1' m1' d1' x.la x.lb X0 (l1.out.below hr1) (l2.out.below hr1) (l1'.out.below hr1) (l2'.out.below hr1)).mono ?_;rintro e w3 ⟨rfl,hb3⟩;have hr3:=hr1.trans (hb3.mono hr1.size);have hB3:=hB.trans (hr3.mono hB.size);refine hK.out _ _ (fun _=>hSv1.out _ hr3) ?_;clear hK K
   try simp only [Act.put,putL_a,putL_z,putL_s]
   refine Zrt 1 [9] rfl (by kernel_rfl) (hSv1.out _ hr3) ?_
   (refine tk1 (v:=?_) rfl (Or.inl ⟨by kernel_rfl,?_⟩) ?_;rotate_left;(· intro W2 _;go_simp;try with_reducible rfl);try simp only [Act.put,putL_a,putL_z,putL_s,putG_a,putG_s,putG_z])
   refine tk0 ?_;refine Zk (by kernel_rfl) ?_ _;refine OnlyNormal.normal ?_;clear hxs hSv1;go_wp2_with fail
   go_roundg (n - (i + 1))
   case measure=>omega
   case rel=>exact ⟨i + 1,by omega,by go_num,hB3⟩
theorem Ze8 (A B : Option Addr) (n c d : Nat) (D : List (List DF)) (w : World) (ha : XM w A n c D) (hb : XM w B n d D) :
    Calls Tryz.prog 14 #[.slice A n c,.slice B n d] w fun e w'=>e = .returned (.bool true) /\ Below w.heap.size w w':=by
 have hmx : Tryz.prog.follows .mixedOrders = true:=by kernel_rfl
 have hl:=Za ha.1;have hc:=ha.2.1;have hcm:=ha.2.2.1;have hd:=hb.2.1;have hdm:=hb.2.2.1;unfold maxLen at hcm hdm;replace ha:=Za ha;replace hb:=Za hb
 have t0 : (((n : Int)) != (n : Int)) = false:=by simp
 go_enter Tryz.func14,Tryz.ntmps14;go_wp2_with fail
 go_loopg [5] n (fun k iv wr=>∃ i : Nat,i + k = n /\ iv = .int .i64 i /\ Below w.heap.size w wr)
 case atStart=>exact ⟨0,by omega,rfl,Below.refl _ _⟩
 case round =>
  obtain ⟨i,hik,rfl,hB⟩:=hrel
  cases gk with
  | zero =>
   obtain rfl : i = n:=by omega
   have t1 : decide ((i : Int) < (i : Int)) = false:=by simp
   go_wp2_with fail;go_ret;exact ⟨rfl,hB⟩
  | succ k' =>
   obtain rfl : k' = n - (i + 1):=by omega
   have hin : i < n:=by omega
   have t1 : decide ((i : Int) < (n : Int)) = true:=decide_eq_true (by omega)
   have bi : (i : Int) < (n : Int):=by omega
   obtain ⟨x,hx⟩:=Zfh (L:=D) (i:=i) (by rw [hl.out];exact hin);obtain ⟨g,o,A1,n1,c1,rfl,r0,l1⟩:=(ha.out.below hB).2.2.2 i x hx;obtain ⟨g',o',A1',n1',c1',rfl,s0,l1'⟩:=(hb.out.below hB).2.2.2 i x hx
   obtain rfl : n1' = n1:=by rw [<- l1.1,<- l1'.1]
   replace l1:=Za l1;replace l1':=Za l1';go_wp2_with fail;obtain ⟨X0,hX0⟩ : ∃ X,wr.drew = X:=⟨_,rfl⟩
   have hr1 : Below wr.heap.size wr X0:=by rw [<- hX0];exact Zj (Below.refl _ _) 1
   have hSv1 : Hid (∀ wx,Below wr.heap.size wr wx -> wx.cell? ⟨g,o + i,none⟩ = some (.slice A1 n1' c1) /\ wx.cell? ⟨g',o' + i,none⟩ = some (.slice A1' n1' c1')):=Za (fun wx hbx=>⟨Zb hbx r0,Zb hbx s0⟩);refine wp_heldS [] hmx hSv1 (by rw [hX0];exact hr1) (fun hxs=>?_);rw [hX0];refine Zru 8 [0,1,2,3,4,5,6,7] rfl (by kernel_rfl) (hSv1.out _ hr1) ?_
   iterate 8 (refine tk1 (v:=?_) rfl (Or.inl ⟨by kernel_rfl,?_⟩) ?_;rotate_left;(· intro W2 hSw;(try dsimp only at hSw);go_simp;try with_reducible rfl);try simp only [Act.put,putL_a,putL_z,putL_s,putG_a,putG_s,putG_z])
   refine tk0 ?_;refine Ze (i:=8) rfl (by kernel_rfl) (fun K hK=>?_);go_simp;refine (Zky A1 A1' n1' c1 c1' x X0 (l1.out.below hr1) (l1'.out.below hr1)).mono ?_;rintro e w3 ⟨rfl,hb3⟩;have hr3:=hr1.trans (hb3.mono hr1.size);have hB3:=hB.trans (hr3.mono hB.size);refine hK.out _ _ (fun _=>hSv1.out _ hr3) ?_;clear hK K
   try simp only [Act.put,putL_a,putL_z,putL_s]
   refine Zrt 1 [9] rfl (by kernel_rfl) (hSv1.out _ hr3) ?_
   (refine tk1 (v:=?_) rfl (Or.inl ⟨by kernel_rfl,?_⟩) ?_;rotate_left;(· intro W2 _;go_simp;try with_reducible rfl);try simp only [Act.put,putL_a,putL_z,putL_s,putG_a,putG_s,putG_z])
   refine tk0 ?_;refine Zk (by kernel_rfl) ?_ _;refine OnlyNormal.normal ?_;clear hxs hSv1;go_wp2_with fail
   go_roundg (n - (i + 1))
   case measure=>omega
   case rel=>exact ⟨i + 1,by omega,by go_num,hB3⟩
end Go.Proofs.YtkcbhbddgmkoiaaGreat
