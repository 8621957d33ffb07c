/- Package frac: Cmp of small fractions. Package covar: look, -/
import Derived.Test.YtpehacgjclkhmaaGreatZx37
set_option maxRecDepth 100000
set_option maxHeartbeats 8000000
set_option linter.unusedSimpArgs false
set_option linter.unusedVariables false
namespace Go.Proofs.YtpehacgjclkhmaaGreat
open Go.RowKit
attribute [local go_sem] Zg
theorem fCmp_ok (na nb na' nb' : Bool) (A B A' B' : Option Addr) (n c m d n' c' m' d' : Nat) (a b : Rat) (w : World) (ha : Fr w na A n c nb B m d a) (hb : Fr w na' A' n' c' nb' B' m' d' b) (sa : Sm a) (sb : Sm b) :
    Calls Tryz.prog 88 #[.agg #[.bool na,.slice A n c,.bool nb,.slice B m d],.agg #[.bool na',.slice A' n' c',.bool nb',.slice B' m' d']] w fun e w'=>e = .returned (.tuple #[.int .i64 (Zj1 a b),.int .i64 0]) /\ Below w.heap.size w w':=by
 rw [<- Zmy];obtain ⟨R,hR⟩ : ∃ R,Zbv (a.num * b.den) (b.num * a.den) = R:=⟨_,rfl⟩;rw [hR];replace hR:=Zb hR
 have hmx : Tryz.prog.follows .mixedOrders = true:=by kernel_rfl
 have h1:=Zb (Zaj sa.1 sb.dn);have h2:=Zb (Zaj sb.1 sa.dn);obtain ⟨W0,hW0,hB0,⟨q0,q1,q2⟩,s0⟩:=Zbh w 29 #[.bool na,.slice A n c,.bool nb,.slice B m d] 29 #[.bool na',.slice A' n' c',.bool nb',.slice B' m' d'] 30 #[.int .i64 0];have hA:=Zb (ha.below hB0);have hD:=Zb (hb.below hB0);clear ha hb sa sb;obtain ⟨a0,a1,a2,a3,-⟩:=q0.four;have hq:=Zb (And.intro q0 (And.intro q1 q2));clear q0 q1 q2
 go_enter_defers Tryz.func88,Tryz.ntmps88
 go_wp2_with fail;refine (Zcq na nb A B n c m d a W0 hA.out).mono ?_;rintro e w1 ⟨rfl,hb1⟩;have hB1 : Below w.heap.size w w1:=hB0.trans (hb1.mono hB0.size);have s1 : W0.heap.size <= w1.heap.size:=hb1.size;replace hA:=Zb (hA.out.below hb1);replace hD:=Zb (hD.out.below hb1);obtain ⟨q0,q1,q2⟩:=hq.out;replace q0:=Zc hb1 q0;replace q1:=Zc hb1 q1;replace q2:=Zc hb1 q2;clear hW0 hq hb1 hB0 a0 a1 a2 a3;obtain ⟨b0,b1,b2,b3,-⟩:=q1.four;have hq:=Zb (And.intro q0 (And.intro q1 q2));clear q0 q1 q2;go_wp2_with fail;refine (Zc5 w1).mono ?_;rintro e w1 ⟨rfl,rfl⟩;go_wp2_with fail;refine (Zcq na' nb' A' B' n' c' m' d' b w1 hD.out).mono ?_;rintro e w2 ⟨rfl,hb2⟩;have hB:=Zb (hB1.trans (hb2.mono hB1.size));have sz:=Zb hB.out.size;have s2 : w1.heap.size <= w2.heap.size:=hb2.size;replace hA:=Zb (hA.out.below hb2);replace hD:=Zb (hD.out.below hb2);obtain ⟨q0,q1,q2⟩:=hq.out;replace q0:=Zb (Zc hb2 q0);replace q1:=Zb (Zc hb2 q1);replace q2:=Zb (Zc hb2 q2);clear hq hb2 hB1 b0 b1 b2 b3;go_wp2_with fail;refine (Zc5 w2).mono ?_;rintro e w2 ⟨rfl,rfl⟩;obtain ⟨a0,a1,a2,a3,-⟩:=q0.out.four;obtain ⟨b0,b1,b2,b3,-⟩:=q1.out.four;go_wp2_with fail
 refine Z4 [10] (fun W'=>W'.cell? ⟨w.heap.size,0,none⟩ = some (.bool na) /\ W'.cell? ⟨w.heap.size,1,none⟩ = some (.slice A n c) /\ W'.cell? ⟨w.heap.size,2,none⟩ = some (.bool nb) /\ W'.cell? ⟨w.heap.size,3,none⟩ = some (.slice B m d) /\ W'.cell? ⟨w.heap.size + 1,0,none⟩ = some (.bool na') /\ W'.cell? ⟨w.heap.size + 1,1,none⟩ = some (.slice A' n' c') /\ W'.cell? ⟨w.heap.size + 1,2,none⟩ = some (.bool nb') /\ W'.cell? ⟨w.heap.size + 1,3,none⟩ = some (.slice B' m' d')) hmx ⟨a0,a1,a2,a3,b0,b1,b2,b3⟩ (fun _=>?_);refine Zu3 4 [0,1,3,4] rfl (by kernel_rfl) ⟨a0,a1,a2,a3,b0,b1,b2,b3⟩ ?_
 iterate 4 (refine tk1 (v:=?_) rfl (Or.inl ⟨by kernel_rfl,?_⟩) ?_;rotate_left;(· intro W2 hSw;(try dsimp only at hSw);go_simp;try with_reducible rfl);try simp only [Act.put,putL_a,putL_z,putL_s,putG_a,putG_s,putG_z])
 refine tk0 ?_;refine Ze (i:=2) rfl (by kernel_rfl) (fun K hK=>?_);go_simp;refine (Zdm na nb na' nb' A B A' B' n c m d n' c' m' d' a b w2.drew hA.out hD.out h1.out).mono ?_;rintro e w3 ⟨hb3,nu,U,k1,u,rfl,hU⟩;replace hb3:=Zo hb3;replace hU:=Zb hU;replace q0:=Zb (Zc hb3 q0.out);replace q1:=Zb (Zc hb3 q1.out);replace q2:=Zb (Zc hb3 q2.out);replace hA:=Zb (hA.out.below hb3);replace hD:=Zb (hD.out.below hb3);replace hB:=Zb (hB.out.trans (hb3.mono sz.out));replace sz:=Zb (Nat.le_trans sz.out hb3.size);clear a0 a1 a2 a3 b0 b1 b2 b3;obtain ⟨a0,a1,a2,a3,-⟩:=q0.out.four;obtain ⟨b0,b1,b2,b3,-⟩:=q1.out.four;clear hb3;refine hK.out _ _ (fun _=>⟨a0,a1,a2,a3,b0,b1,b2,b3⟩) ?_;clear hK K
 try simp only [Act.put,putL_a,putL_z,putL_s]
 refine Ze (i:=5) rfl (by kernel_rfl) (fun K hK=>?_);go_simp;refine (Zdm na' nb' na nb A' B' A B n' c' m' d' n c m d b a w3 hD.out hA.out h2.out).mono ?_;rintro e w4 ⟨hb4,nv,V,k2,v,rfl,hV⟩;replace hU:=Zb (hU.out.below hb4);replace hV:=Zb hV;replace q0:=Zb (Zc hb4 q0.out);replace q1:=Zb (Zc hb4 q1.out);replace q2:=Zb (Zc hb4 q2.out);replace hA:=Zb (hA.out.below hb4);replace hD:=Zb (hD.out.below hb4);replace hB:=Zb (hB.out.trans (hb4.mono sz.out));replace sz:=Zb (Nat.le_trans sz.out hb4.size);clear a0 a1 a2 a3 b0 b1 b2 b3;obtain ⟨a0,a1,a2,a3,-⟩:=q0.out.four;obtain ⟨b0,b1,b2,b3,-⟩:=q1.out.four;clear hb4;refine hK.out _ _ (fun _=>⟨a0,a1,a2,a3,b0,b1,b2,b3⟩) ?_;clear hK K
 try simp only [Act.put,putL_a,putL_z,putL_s]
 refine Ze (i:=6) rfl (by kernel_rfl) (fun K hK=>?_);go_simp;refine (Zmp nu nv U V k1 u k2 v _ _ w4 hU.out hV.out).mono ?_;rw [hR.out];rintro e w5 ⟨rfl,hb5⟩;replace q0:=Zb (Zc hb5 q0.out);replace q1:=Zb (Zc hb5 q1.out);replace q2:=Zb (Zc hb5 q2.out);replace hA:=Zb (hA.out.below hb5);replace hD:=Zb (hD.out.below hb5);replace hB:=Zb (hB.out.trans (hb5.mono sz.out));replace sz:=Zb (Nat.le_trans sz.out hb5.size);clear a0 a1 a2 a3 b0 b1 b2 b3;obtain ⟨a0,a1,a2,a3,-⟩:=q0.out.four;obtain ⟨b0,b1,b2,b3,-⟩:=q1.out.four;clear hb5;have x0:=q2.out.cell 0;have f0:=q2.out.frozen 0
 simp at x0
 refine hK.out _ _ (fun _=>⟨a0,a1,a2,a3,b0,b1,b2,b3⟩) ?_;clear hK K
 try simp only [Act.put,putL_a,putL_z,putL_s]
 refine Zu3 3 [7,8,9] rfl (by kernel_rfl) ⟨a0,a1,a2,a3,b0,b1,b2,b3⟩ ?_
 iterate 3 (refine tk1 (v:=?_) rfl (Or.inl ⟨by kernel_rfl,?_⟩) ?_;rotate_left;(· intro W2 hSw;(try dsimp only at hSw);go_simp;try with_reducible rfl);try simp only [Act.put,putL_a,putL_z,putL_s,putG_a,putG_s,putG_z])
 refine tk0 ?_;refine Zp (i:=10) rfl (by kernel_rfl) (by kernel_rfl) (fun K hK=>?_);go_simp;obtain ⟨W6,hW6,hB6,q2',kW,kB,s6⟩:=Zaz 0 hB.out (by omega) q2.out;rw [hW6];refine hK.out _ _ ?_;clear hK K
 try simp only [Act.put,putL_a,putL_z,putL_s]
 refine Zl (by kernel_rfl) ?_ _;refine OnlyNormal.normal ?_;have r4:=q2'.cell 0
 simp at r4
 go_wp2_with fail;refine leaves_cons (f:=128) (args:=#[.pointer (some ⟨w.heap.size + 1 + 1,0,none⟩)]) (by simp) (by simp [go_sem]) ?_;refine (Zbt _ _).mono ?_;rintro e u' w'' ⟨rfl,rfl,rfl⟩;refine ⟨.tuple #[.int .i64 R,.int .i64 0],by simp [results,Tryz.results88,go_sem,r4],rfl,hB6⟩
def LookPost (rs : List RX) (w : World) (e : Ending) (w' : World) : Prop:=
 Below w.heap.size w w' /\ ((Zax rs = 0 /\ ∃ v1 v2 L,e = .returned (.agg #[v1,v2]) /\ FacM 84 91 w' w.heap.size v1 v2 L (Zey (Zi (qM rs)) rs.length) (dsL (Zi (qM rs)) rs.length)) \/
  (Zax rs ≠ 0 /\ e = .panicked [{ v:=.iface 133 (.agg #[.int .i64 (Zax rs)]),recovered:=false }]))
theorem LookPost.fall {rs : List RX} {w w' : World} {E : Int} (hb : Below w.heap.size w w') (h : Zax rs = E) (h0 : E ≠ 0) : LookPost rs w (.panicked [{ v:=.iface 133 (.agg #[.int .i64 E]),recovered:=false }]) w':=by
 subst h;exact ⟨hb,.inr ⟨h0,rfl⟩⟩
theorem Zkz (A : Option Addr) (n c : Nat) (rs : List RX) (w : World) (h : MXL w A n c rs) (hF : FacC rs) :
    Calls Tryz.prog 42 #[.slice A n c] w (LookPost rs w):=by
 have hmx : Tryz.prog.follows .mixedOrders = true:=by kernel_rfl
 have hl:=Zb h.1;have hnc:=h.2.1;have hcm:=h.2.2.1;unfold maxLen at hcm;obtain ⟨W0,hW0,hB0,q0,s0⟩:=Zai w 86 #[.slice none 0 0,.slice none 0 0];obtain ⟨gx,hgx⟩ : ∃ g,w.heap.size = g:=⟨_,rfl⟩
 by_cases h6 : 6 < n
 ·have t1 : decide ((n : Int) <= 6) = false:=decide_eq_false (by omega)
  have hE : Hid (Zax rs = 4):=Zb (Zeb (by unfold long6;rw [hl.out,decide_eq_true h6];rfl));clear h;go_enter Tryz.func42,Tryz.ntmps42;go_wp2_with fail;(try rw [hW0]);refine (Zbp 4 W0).mono ?_;rintro e w6 ⟨rfl,rfl⟩;go_wp2_with fail;exact ⟨rfl,LookPost.fall hB0 hE.out (by decide)⟩
 have t1 : decide ((n : Int) <= 6) = true:=decide_eq_true (by omega);obtain ⟨x,hx⟩ : ∃ x,rs.any RX.long6 = x:=⟨_,rfl⟩
 have hlm : long6 rs = x:=by unfold long6;rw [hl.out,decide_eq_false h6,hx];rfl
 have hC:=Zb (fun W1 (hb : Below w.heap.size w W1)=>Zp8 A n c rs W1 (h.below hb) x hx);replace hx:=Zb hx;replace hlm:=Zb hlm
 cases x
 case true =>
  have hE : Hid (Zax rs = 4):=Zb (Zeb hlm.out);clear h;go_enter Tryz.func42,Tryz.ntmps42;go_wp2_with fail;(try rw [hW0]);refine (hC.out _ hB0).mono ?_;rintro e w1 ⟨rfl,hb1⟩;go_wp2_with fail;refine (Zbp 4 w1).mono ?_;rintro e w6 ⟨rfl,rfl⟩;go_wp2_with fail;exact ⟨rfl,LookPost.fall (hB0.trans (hb1.mono hB0.size)) hE.out (by decide)⟩
 by_cases hn0 : n = 0
 ·subst hn0
  have hE : Hid (Zax rs = 8):=Zb (Zn1 hlm.out hl.out);clear h;go_enter Tryz.func42,Tryz.ntmps42;go_wp2_with fail;(try rw [hW0]);refine (hC.out _ hB0).mono ?_;rintro e w1 ⟨rfl,hb1⟩;go_wp2_with fail;refine (Zcs 4 w1).mono ?_;rintro e w1 ⟨rfl,rfl⟩;go_wp2_with fail;refine (Zbp 8 w1).mono ?_;rintro e w6 ⟨rfl,rfl⟩;go_wp2_with fail;exact ⟨rfl,LookPost.fall (hB0.trans (hb1.mono hB0.size)) hE.out (by decide)⟩
 have t2 : decide ((0 : Int) < (n : Int)) = true:=decide_eq_true (by omega);have t2' : decide (0 < n) = true:=decide_eq_true (by omega);have hH:=Zb h;have hq0:=Zb q0;replace hn0:=Zb hn0;clear h q0;go_enter Tryz.func42,Tryz.ntmps42;go_wp2_with fail;(try rw [hW0]);refine (hC.out _ hB0).mono ?_;rintro e w1 ⟨rfl,hb1⟩;have hB1:=hB0.trans (hb1.mono hB0.size);have hq1:=Zb (Zc hb1 hq0.out);clear hq0 hC hb1 hB0 hW0 s0;go_wp2_with fail;refine (Zcs 4 w1).mono ?_;rintro e w1 ⟨rfl,rfl⟩;go_wp2_with fail;refine (Zcs 8 w1).mono ?_;rintro e w1 ⟨rfl,rfl⟩;go_wp2_with fail
 go_loopg [27] n (fun t iv wr=>∃ i : Nat,i + t = n /\ iv = .int .i64 i /\ Hid (∀ j r,j < i -> rs[j]? = some r -> Zb2 rs.length r = true) /\ Below w1.heap.size w1 wr)
 case atStart=>exact ⟨0,by omega,rfl,Zb (fun j r hj=>by omega),Below.refl _ _⟩
 case round =>
  obtain ⟨wi,rfl⟩ : ∃ x : World,x = wr:=⟨_,rfl⟩;obtain ⟨i,hik,rfl,hall,hBi⟩:=hrel;have hBw:=hB1.trans (hBi.mono hB1.size)
  cases gk with
  | succ t =>
   obtain rfl : t = n - (i + 1):=by omega
   have hin : i < n:=by omega
   have t3 : decide ((i : Int) < (n : Int)) = true:=decide_eq_true (by omega)
   have bi : (i : Int) < (n : Int):=by omega
   obtain ⟨g,o,r,rfl,he,c0,hL⟩:=(hH.out.below hBw).at_ hin;have hrl:=hL.nlenC;unfold maxLen at hrl;have bad : Hid (Zb2 rs.length r = false -> Zax rs = 8):=Zb (fun hf=>Zm1 hlm.out (by rw [hl.out];exact hn0.out) (List.mem_of_getElem? he) hf)
   have good : Hid (Zb2 rs.length r = true -> ∀ j r',j < i + 1 -> rs[j]? = some r' -> Zb2 rs.length r' = true):=Zb (fun hf j r' hj he'=>by
    rcases Nat.lt_or_ge j i with h' | h'
    ·exact hall.out j r' h' he'
    ·obtain rfl : j = i:=by omega
     rw [he] at he'
     cases he'
     exact hf)
   replace he:=Zb he
   by_cases hq : r.n = n
   case neg =>
    have t4 : ((r.n : Int) == (n : Int)) = false:=beq_eq_false_iff_ne.2 (by omega)
    have t4' : decide (r.n = n) = false:=by simpa using hq
    have hE : Hid (Zax rs = 8):=Zb (bad.out (by unfold Zb2;rw [hl.out,decide_eq_false hq];rfl));replace hq:=Zb hq;clear hL;go_wp2_with fail;refine (Zbp 8 wi).mono ?_;rintro e w6 ⟨rfl,rfl⟩;go_wp2_with fail;exact ⟨rfl,LookPost.fall hBw hE.out (by decide)⟩
   have t4 : ((r.n : Int) == (n : Int)) = true:=beq_iff_eq.2 (by omega)
   have t4' : decide (r.n = n) = true:=by simpa using hq
   obtain ⟨y,hy⟩ : ∃ y,Zb1 r.es = y:=⟨_,rfl⟩;have hV:=Zb (fun W1 (hb : Below wi.heap.size wi W1)=>Zhz r.A r.n r.c r.es W1 (hL.below hb) y hy);have hqn:=Zb hq;replace hq:=Zb hq;clear hL
   cases y
   ·have hE : Hid (Zax rs = 8):=Zb (bad.out (by unfold Zb2;rw [hy];simp))
    clear hy;go_wp2_with fail;refine (hV.out _ (by first | exact Below.refl _ _ | exact Zj (Below.refl _ _) _)).mono ?_;rintro e' w2 ⟨rfl,hb2⟩;go_wp2_with fail;refine (Zbp 8 w2).mono ?_;rintro e w6 ⟨rfl,rfl⟩;go_wp2_with fail;exact ⟨rfl,LookPost.fall (hBw.trans (hb2.mono hBw.size)) hE.out (by decide)⟩
   ·have hall2:=Zb (good.out (by unfold Zb2;rw [hy,hl.out,hqn.out,decide_eq_true rfl];rfl))
    clear hy;go_wp2_with fail;refine (hV.out _ (by first | exact Below.refl _ _ | exact Zj (Below.refl _ _) _)).mono ?_;rintro e' w2 ⟨rfl,hb2⟩;go_wp2_with fail;refine (Zcs 8 w2).mono ?_;rintro e w2 ⟨rfl,rfl⟩;go_wp2_with fail
    go_roundg (n - (i + 1))
    case measure=>omega
    case rel=>exact ⟨i + 1,by omega,by go_num,hall2,hBi.trans (hb2.mono hBi.size)⟩
  | zero =>
   obtain rfl : i = n:=by omega
   have t3 : decide ((i : Int) < (i : Int)) = false:=by simp
   have hV : Hid (covV rs):=Zb ⟨hlm.out,by rw [hl.out];exact hn0.out,by
    rw [List.all_eq_true];intro r hr;obtain ⟨j,hj,e⟩:=List.getElem_of_mem hr
    exact hall.out j r (by rw [hl.out] at hj;exact hj) (by rw [List.getElem?_eq_getElem hj,e])⟩
   have hqi:=Zb (Zc hBi hq1.out);have hM:=Zb (hV.out.good (hH.out.below hBw));have hSm : Hid (∀ a b,Sm (Zi (qM rs) a b)):=Zb (fun a b=>(hV.out.small64 hH.out).smC (by decide) a b);have hrow : Hid (∀ a,a < i -> ((qM rs)[a]?.getD []).length = i):=Zb (fun a ha=>hV.out.row hH.out a ha);clear hq1;go_wp2_with fail
   go_loopg [44] i (fun t jv wr=>∃ j : Nat,j + t = i /\ jv = .int .i64 j /\ Hid (∀ a b,a < j -> b < a -> Zi (qM rs) a b = Zi (qM rs) b a) /\ Below wi.heap.size wi wr)
   case atStart=>exact ⟨0,by omega,rfl,Zb (fun a b ha=>by omega),Below.refl _ _⟩
   case round =>
    obtain ⟨wj,rfl⟩ : ∃ x : World,x = wr:=⟨_,rfl⟩;obtain ⟨j,hjk,rfl,hsy,hBj⟩:=hrel;have hBwj:=hBw.trans (hBj.mono hBw.size)
    cases gk with
    | zero =>
     obtain rfl : j = i:=by omega
     have t4 : decide ((j : Int) < (j : Int)) = false:=by simp
     have hs : Hid (Zeu (qM rs) = true):=Zb (by
      unfold Zeu;rw [decide_eq_true_eq];intro a ha b hb;rw [show (qM rs).length = j by unfold qM;rw [List.length_map,hl.out]] at ha
      exact hsy.out a b ha hb)
     have hFP : Hid (FacP (Zi (qM rs)) j):=Zb (by have:=hF hV.out hs.out;rw [hl.out] at this;exact this);go_wp2_with fail;refine (Zpu A j c (qM rs) wj (hM.out.below hBj) (by omega) hrow.out hFP.out).mono ?_;rintro e w5 ⟨hb5,⟨hp,v1,v2,L,rfl,hFM⟩ | ⟨hn,rfl⟩⟩
     ·have hqj:=Zc (hBj.trans (hb5.mono hBj.size)) hqi.out
      rw [hgx] at hqj;obtain ⟨A1,c1,rfl,-⟩:=hFM.1.mflA;obtain ⟨A2,c2,rfl,-⟩:=hFM.2.1.fl;rw [Zbw,Zc3] at hFM ⊢
      have y0 : w5.cell? ⟨gx,0,none⟩ = some (.slice none 0 0):=by rw [hqj.cell];rfl
      have y1 : w5.cell? ⟨gx,1,none⟩ = some (.slice none 0 0):=by rw [hqj.cell];rfl
      have z0:=hqj.frozen 0;have z1:=hqj.frozen 1;obtain ⟨X,hX⟩ : ∃ X,(w5.setCell ⟨gx,0,none⟩ (.slice A1 j c1)).setCell ⟨gx,1,none⟩ (.slice A2 j c2) = X:=⟨_,rfl⟩
      have hKX : Kept (fun k=>k = gx) w5 X:=by rw [<- hX];exact Kept.set_ (G:=fun k=>k = gx) (Kept.set_ (G:=fun k=>k = gx) (Kept.refl _ _) (p:=⟨gx,0,none⟩) (.inl rfl) _) (p:=⟨gx,1,none⟩) (.inl rfl) _
      have hbX : Blk X gx 86 #[.slice A1 j c1,.slice A2 j c2]:=by rw [<- hX];exact (hqj.set_ 0 (.slice A1 j c1)).set_ 1 (.slice A2 j c2)
      have x0 : X.cell? ⟨gx,0,none⟩ = some (.slice A1 j c1):=by rw [hbX.cell];rfl
      have x1 : X.cell? ⟨gx,1,none⟩ = some (.slice A2 j c2):=by rw [hbX.cell];rfl
      have hgj : gx < wj.heap.size:=by have:=hqi.out.lt;rw [hgx] at this;have:=hBj.size;omega
      have hFX:=Zb (hFM.box hqj (Zcp _ _ _ _ _ _) hgj hKX);have hp0 : Hid (Zax rs = 0):=Zb (hV.out.pos hs.out (by rw [hl.out];exact hp));have hB5 : Hid (Below w.heap.size w w5):=Zb (hBwj.trans (hb5.mono hBwj.size));have hBX : Hid (Below w.heap.size w X):=Zb (hB5.out.trans (hKX.to_below (fun k e=>by omega) (by have:=hB5.out.size;exact this)));have hwj : Hid (w.heap.size <= wj.heap.size):=Zb hBwj.size;clear hFM hKX hbX hqj hp;(try rw [hgx]);go_wp2_with fail;(try rw [hgx]);(try rw [hX]);refine bodyPost_ret (v:=.agg #[.slice A1 j c1,.slice A2 j c2]) (by simp [results,Tryz.results42,go_sem,x0,x1,hgx]) rfl ?_;refine ⟨hBX.out,.inl ⟨hp0.out,_,_,L,rfl,?_⟩⟩;rw [hl.out];exact hFX.out.lower hwj.out
     ·have hE : Hid (Zax rs = 8):=Zb (hV.out.neg hs.out (by rw [hl.out];exact hn))
      go_wp2_with fail;exact ⟨rfl,LookPost.fall (hBwj.trans (hb5.mono hBwj.size)) hE.out (by decide)⟩
    | succ t =>
     obtain rfl : t = i - (j + 1):=by omega
     have hji : j < i:=by omega
     have t4 : decide ((j : Int) < (i : Int)) = true:=decide_eq_true (by omega)
     have bj : (j : Int) < (i : Int):=by omega
     obtain ⟨g,o,A',n',c',rfl,c0,hR⟩:=(hM.out.below hBj).at_ hji
     have hn' : i = n':=by rw [<- hR.len];exact (hrow.out j hji).symm
     subst hn';have hrcap:=hR.cap;unfold maxLen at hrcap;replace hR:=Zb hR;go_wp2_with fail
     go_loopg [50] j (fun t kv wr=>∃ k : Nat,k + t = j /\ kv = .int .i64 k /\ Hid (∀ b,b < k -> Zi (qM rs) j b = Zi (qM rs) b j) /\ Below wj.heap.size wj wr)
     case atStart=>exact ⟨0,by omega,rfl,Zb (fun b hb=>by omega),Below.refl _ _⟩
     case round =>
      obtain ⟨wk,rfl⟩ : ∃ x : World,x = wr:=⟨_,rfl⟩;obtain ⟨k,hkk,rfl,hsk,hBk⟩:=hrel
      cases gk with
      | zero =>
       obtain rfl : k = j:=by omega
       have t5 : decide ((k : Int) < (k : Int)) = false:=by simp
       have hsy2 : Hid (∀ a b,a < k + 1 -> b < a -> Zi (qM rs) a b = Zi (qM rs) b a):=Zb (fun a b ha hb=>by
        rcases Nat.lt_or_ge a k with h' | h'
        ·exact hsy.out a b h' hb
        ·obtain rfl : a = k:=by omega
         exact hsk.out b hb)
       go_wp2_with fail
       go_roundg (i - (k + 1))
       case measure=>omega
       case rel=>exact ⟨k + 1,by omega,by go_num,hsy2,hBj.trans (hBk.mono hBj.size)⟩
      | succ t' =>
       obtain rfl : t' = j - (k + 1):=by omega
       have hkj : k < j:=by omega
       have t5 : decide ((k : Int) < (j : Int)) = true:=decide_eq_true (by omega)
       have bk : (k : Int) < (j : Int):=by omega
       have bki : (k : Int) < (i : Int):=by omega
       have hBjk:=hBj.trans (hBk.mono hBj.size);obtain ⟨ga,oa,xn,xA,xk,xc,xm,xB,xj,xd,rfl,⟨r0,r1,r2,r3⟩,hX⟩:=(hR.out.below hBk).at_ (show k < i by omega);obtain ⟨A2,n2,c2,ck,hR2⟩:=(hM.out.below hBjk).atS (show k < i by omega)
       have hn2 : i = n2:=by rw [<- hR2.len];exact (hrow.out k (by omega)).symm
       subst hn2;have hrcap2:=hR2.cap;unfold maxLen at hrcap2;obtain ⟨gb,ob,yn,yA,yk,yc,ym,yB,yj,yd,rfl,⟨s0,s1,s2,s3⟩,hY⟩:=hR2.at_ hji;have eX : ((qM rs)[j]?.getD [])[k]?.getD 0 = Zi (qM rs) j k:=rfl;have eY : ((qM rs)[k]?.getD [])[j]?.getD 0 = Zi (qM rs) k j:=rfl;rw [eX] at hX;rw [eY] at hY;replace hX:=Zb hX;replace hY:=Zb hY;clear eX eY hR2;go_wp2_with fail;obtain ⟨X0,hX0⟩ : ∃ X,wk.drew = X:=⟨_,rfl⟩
       have hr1 : Below wk.heap.size wk X0:=by rw [<- hX0];exact Zj (Below.refl _ _) 1
       have hSv1 : Hid (∀ wx,Below wk.heap.size wk wx -> wx.cell? ⟨ga,oa + k * 4,none⟩ = some (.bool xn) /\ wx.cell? ⟨ga,oa + k * 4 + 1,none⟩ = some (.slice xA xk xc) /\ wx.cell? ⟨ga,oa + k * 4 + 2,none⟩ = some (.bool xm) /\ wx.cell? ⟨ga,oa + k * 4 + 3,none⟩ = some (.slice xB xj xd) /\ wx.cell? ⟨g,o + k,none⟩ = some (.slice (some ⟨gb,ob,none⟩) i c2) /\ wx.cell? ⟨gb,ob + j * 4,none⟩ = some (.bool yn) /\ wx.cell? ⟨gb,ob + j * 4 + 1,none⟩ = some (.slice yA yk yc) /\ wx.cell? ⟨gb,ob + j * 4 + 2,none⟩ = some (.bool ym) /\ wx.cell? ⟨gb,ob + j * 4 + 3,none⟩ = some (.slice yB yj yd)):=Zb (fun wx hbx=>⟨Za hbx r0,Za hbx r1,Za hbx r2,Za hbx r3,Za hbx ck,Za hbx s0,Za hbx s1,Za hbx s2,Za hbx s3⟩);refine wp_heldS [] hmx hSv1 (by rw [hX0];exact hr1) (fun hxs=>?_);rw [hX0];refine Zu3 11 [0,1,2,3,4,5,6,7,8,9,10] rfl (by kernel_rfl) (hSv1.out _ hr1) ?_
       iterate 11 (refine tk1 (v:=?_) rfl (Or.inl ⟨by kernel_rfl,?_⟩) ?_;rotate_left;(· intro W2 hSw;(try dsimp only at hSw);go_simp;try with_reducible rfl);try simp only [Act.put,putL_a,putL_z,putL_s,putG_a,putG_s,putG_z])
       refine tk0 ?_;refine Ze (i:=11) rfl (by kernel_rfl) (fun K hK=>?_);go_simp;refine (fCmp_ok xn xm yn ym xA xB yA yB xk xc xj xd yk yc yj yd _ _ X0 (hX.out.below hr1) (hY.out.below hr1) (hSm.out _ _) (hSm.out _ _)).mono ?_;rintro e w5 ⟨rfl,hb5⟩;have hr5:=hr1.trans (hb5.mono hr1.size);refine hK.out _ _ (fun _=>hSv1.out _ hr5) ?_;clear hK K
       try simp only [Act.put,putL_a,putL_z,putL_s]
       refine Zu2 5 [12,13,14,15,16] rfl (by kernel_rfl) (hSv1.out _ hr5) ?_
       iterate 5 (refine tk1 (v:=?_) rfl (Or.inl ⟨by kernel_rfl,?_⟩) ?_;rotate_left;(· intro W2 _;go_simp;try with_reducible rfl);try simp only [Act.put,putL_a,putL_z,putL_s,putG_a,putG_s,putG_z])
       refine tk0 ?_;refine Zl (by kernel_rfl) ?_ _;refine OnlyNormal.normal ?_;have hB5 : Hid (Below wj.heap.size wj w5):=Zb (hBk.trans (hr5.mono hBk.size));clear hSv1 hxs hr1 hr5 hb5 hX0 r0 r1 r2 r3 s0 s1 s2 s3 ck hX hY
       by_cases hq : Zi (qM rs) j k = Zi (qM rs) k j
       ·have hz : Zj1 (Zi (qM rs) j k) (Zi (qM rs) k j) = 0:=cmpQ_zero.2 hq
        rw [hz]
        have hsk2 : Hid (∀ b,b < k + 1 -> Zi (qM rs) j b = Zi (qM rs) b j):=Zb (fun b hb=>by
         rcases Nat.lt_or_ge b k with h' | h'
         ·exact hsk.out b h'
         ·obtain rfl : b = k:=by omega
          exact hq)
        replace hq:=Zb hq;replace hz:=Zb hz;go_wp2_with fail;refine (Zcs 8 w5).mono ?_;rintro e w5 ⟨rfl,rfl⟩;go_wp2_with fail
        go_roundg (j - (k + 1))
        case measure=>omega
        case rel=>exact ⟨k + 1,by omega,by go_num,hsk2,hB5.out⟩
       ·obtain ⟨z,hz⟩ : ∃ z,Zj1 (Zi (qM rs) j k) (Zi (qM rs) k j) = z:=⟨_,rfl⟩
        have hz0 : z ≠ 0:=fun e=>hq (cmpQ_zero.1 (by rw [hz];exact e))
        rw [hz]
        have t6 : (z == 0) = false:=by simpa using hz0
        have t6' : decide (z = 0) = false:=by simpa using hz0
        have hE : Hid (Zax rs = 8):=Zb (hV.out.asym (by
         cases hb : Zeu (qM rs) with
         | false=>rfl
         | true=>exact absurd (symB_iff.1 hb j k (by unfold qM;rw [List.length_map,hl.out];exact hji) (by unfold qM;rw [List.length_map,hl.out];omega)) hq))
        replace hq:=Zb hq;replace hz:=Zb hz;replace hz0:=Zb hz0;go_wp2_with fail;refine (Zbp 8 w5).mono ?_;rintro e w6 ⟨rfl,rfl⟩;go_wp2_with fail;exact ⟨rfl,LookPost.fall (hBwj.trans (hB5.out.mono hBwj.size)) hE.out (by decide)⟩
theorem Zo8 (A : Option Addr) (n c : Nat) (rs : List RX) (w : World) (h : MXL w A n c rs) (hF : FacC rs) (E : Int) (hE : Zax rs = E) :
    Calls Tryz.prog 75 #[.slice A n c] w fun e w'=>e = .returned (.int .i64 E) /\ Below w.heap.size w w':=by
 obtain ⟨W0,hW0,hB0,q0,s0⟩:=Zai w 30 #[.int .i64 0];have hC:=Zb (Zkz A n c rs W0 (h.below hB0) hF);replace q0:=Zb q0;clear h
 go_enter_defers Tryz.func75,Tryz.ntmps75
 go_wp2_with fail;(try rw [hW0]);refine hC.out.mono ?_;rintro e w1 ⟨hb1,⟨h0,v1,v2,L,rfl,hFM⟩ | ⟨h0,rfl⟩⟩
 ·have hB1:=hB0.trans (hb1.mono hB0.size)
  have q1:=Zc hb1 q0.out;have e0:=q1.cell 0;have z0:=q1.frozen 0
  simp at e0
  obtain ⟨U,hU,hBU,q3,-⟩:=Zaz 0 hB1 (Nat.le_refl _) q1;have r4:=q3.cell 0
  simp at r4
  obtain rfl : E = 0:=by rw [<- hE];exact h0
  clear hFM;go_wp2_with fail;(try rw [hU]);refine leaves_cons (f:=41) (args:=#[.pointer (some ⟨w.heap.size,0,none⟩)]) (by simp) (by simp [go_sem]) ?_;refine (Zhu _ _).mono ?_;rintro e u' w'' ⟨rfl,rfl,rfl⟩;exact ⟨.int .i64 0,by simp [results,Tryz.results75,go_sem,r4],rfl,hBU⟩
 ·have hB1:=hB0.trans (hb1.mono hB0.size)
  have q2:=Zc hb1 q0.out;rw [hE];go_wp2_with fail;refine leaves_cons (f:=41) (args:=#[.pointer (some ⟨w.heap.size,0,none⟩)]) (by simp) (by simp [go_sem]) ?_;have e0:=q2.cell 0
  simp at e0
  refine (Zdy ⟨w.heap.size,0,none⟩ E 0 _ e0 (q2.frozen 0)).mono ?_;rintro e u' w'' ⟨rfl,rfl,hw⟩;obtain ⟨V,hV,hBV,-,-,hk,sV⟩:=Zx 133 #[.int .i64 E] hB1 (hB1.size);obtain ⟨U,hU,hBU,q3,-⟩:=Zaz E hBV (Nat.le_refl _) (hk _ _ _ q2);rw [hV,hU] at hw;subst hw;have r4:=q3.cell 0
  simp at r4
  exact ⟨.int .i64 E,by simp [results,Tryz.results75,go_sem,r4],rfl,hBU⟩
theorem csum_ok (L : Option Addr) (k cap : Nat) (qs : List Rat) (w : World) (hl : FL w L k cap qs) (hk : k <= 100) (hs : ∀ j,j < k -> Sm (sumF qs j)) (he : ∀ j : Nat,j < k -> Sm (qs[j]?.getD 0)) :
    Calls Tryz.prog 55 #[.slice L k cap] w (Zcu w (sumF qs k)):=by
 have hcap:=hl.cap;unfold maxLen at hcap;obtain ⟨W0,hW0,hB0,q1,s0⟩:=Zai w 91 #[.bool false,.slice none 0 0,.bool false,.slice none 0 0];obtain ⟨gR,hgR⟩ : ∃ g,w.heap.size = g:=⟨_,rfl⟩;rw [hgR] at q1 s0 hB0;have hlH:=Zb hl;have hsH:=Zb hs;have heH:=Zb he;clear hl hs he;go_enter Tryz.func55,Tryz.ntmps55;go_wp2_with fail;(try rw [hW0]);(try rw [hgR]);refine (Zsx 0 W0 (by decide) (by decide)).mono ?_;rintro e w1 ⟨hb1,pn,pA,pk,pc,pm,pB,pj,pd,rfl,hf⟩;replace q1:=Zc hb1 q1;obtain ⟨V1,hV1,hBV,t0,tz⟩:=Zai w1 91 #[.bool false,.slice none 0 0,.bool false,.slice none 0 0];obtain ⟨g0,hg0⟩ : ∃ g,w1.heap.size = g:=⟨_,rfl⟩;rw [hg0] at t0 tz;obtain ⟨u0,u1,u2,u3,v0,v1,v2,v3⟩:=t0.four;obtain ⟨V2,hV2,p2,hK2,s2⟩:=Zaf pn pA pk pc pm pB pj pd t0;have hB2 : Below w1.heap.size w1 V2:=hBV.trans (hK2.to_below (fun k e=>by omega) hBV.size);have hA:=Zb (hf.below hB2);have q12:=Zc hB2 q1;have hBw1 : Hid (Below gR w w1):=Zb (hB0.trans (hb1.mono (by omega)));have hsz : Hid (V2.heap.size = g0 + 1 /\ gR < g0):=Zb ⟨by rw [s2,tz],by have:=hb1.size;omega⟩;have hBV2 : Hid (Below gR w V2):=Zb (hBw1.out.trans (hB2.mono (by have:=hb1.size;omega)));have hgRH:=Zb hgR;clear hf hBV hK2 s2 tz hB2 q1 hb1 hB0 s0 hW0;go_wp2_with fail;(try rw [hg0]);(try rw [hV2]);clear u0 u1 u2 u3 v0 v1 v2 v3 t0 hV1 hV2 hg0 hgR
 go_loopg [9] k (fun t iv wr=>∃ (i : Nat) (xn : Bool) (xA : Option Addr) (xk xc : Nat) (xm : Bool) (xB : Option Addr) (xj xd : Nat),i + t = k /\ iv = .int .i64 i /\ Blk wr g0 91 #[.bool xn,.slice xA xk xc,.bool xm,.slice xB xj xd] /\ Hid (Fr wr xn xA xk xc xm xB xj xd (sumF qs i)) /\ Kept (fun k=>k = g0) V2 wr)
 case atStart=>exact ⟨0,_,_,_,_,_,_,_,_,by omega,rfl,p2,hA,Kept.refl _ _⟩
 case round =>
  obtain ⟨i,xn,xA,xk,xc,xm,xB,xj,xd,hik,rfl,hb3,hX,hK⟩:=hrel;have hsz':=hsz.out;have hbR:=hK.blk q12 (by omega);have hBwr : Below gR w wr:=hBV2.out.trans (hK.to_below (fun k hk=>by omega) (by omega));obtain ⟨x0,x1,x2,x3,y0,y1,y2,y3⟩:=hb3.four
  cases gk with
  | zero =>
   obtain rfl : i = k:=by omega
   have t1 : decide ((i : Int) < (i : Int)) = false:=by simp
   obtain ⟨c0,c1,c2,c3,z0,z1,z2,z3⟩:=hbR.four;obtain ⟨W5,hW5,q5,hK5,s5⟩:=Zaf xn xA xk xc xm xB xj xd hbR;go_wp2_with fail;(try rw [hW5]);obtain ⟨r0,r1,r2,r3,-⟩:=q5.four;refine bodyPost_ret (v:=.agg #[.bool xn,.slice xA xk xc,.bool xm,.slice xB xj xd]) (by simp [results,Tryz.results55,go_sem,r0,r1,r2,r3]) rfl ?_;refine ⟨?_,_,_,_,_,_,_,_,_,rfl,hX.out.keptN hK5 hbR (Zao _ _ _ _ _ _ _ _)⟩;rw [hgRH.out];exact hBwr.trans (hK5.to_below (fun k e=>by omega) (by have:=hBwr.size;have:=hK.size;omega))
  | succ t =>
   obtain rfl : t = k - (i + 1):=by omega
   have hin : i < k:=by omega
   have t1 : decide ((i : Int) < (k : Int)) = true:=decide_eq_true (by omega)
   have bi : (i : Int) < (k : Int):=by omega
   obtain ⟨gl,o,yn,yA,yk,yc,ym,yB,yj,yd,rfl,⟨c0,c1,c2,c3⟩,hY⟩:=(hlH.out.below (hgRH.out ▸ hBwr)).at_ hin;obtain ⟨W1,hW1,hB1,p1,s1⟩:=Zai wr 91 #[.bool false,.slice none 0 0,.bool false,.slice none 0 0];obtain ⟨gn,hgn⟩ : ∃ g,wr.heap.size = g:=⟨_,rfl⟩;rw [hgn] at p1 s1;have hb31:=Zc hB1 hb3;obtain ⟨u0,u1,u2,u3,v0,v1,v2,v3⟩:=p1.four;obtain ⟨W2,hW2,p2',hK2',s2'⟩:=Zaf yn yA yk yc ym yB yj yd p1;have hB2' : Below wr.heap.size wr W2:=hB1.trans (hK2'.to_below (fun k e=>by omega) hB1.size);have hX2:=hX.out.below hB2';have hY2:=hY.below hB2';have hb32:=Zc hB2' hb3;obtain ⟨m0,m1,m2,m3,n0,n1,n2,n3⟩:=hb32.four;obtain ⟨o0,o1,o2,o3,-⟩:=p2'.four;have e0:=Za hB1 c0;have e1:=Za hB1 c1;have e2:=Za hB1 c2;have e3:=Za hB1 c3;go_wp2_with fail;(try rw [hW2]);go_wp2_with fail;refine (fAdd_ok xn xm yn ym xA xB yA yB xk xc xj xd yk yc yj yd _ _ W2 hX2 hY2 (hsH.out i hin) (heH.out i hin)).mono ?_;rintro e w3 ⟨hb3',rn,rA,rk,rc,rm,rB,rj,rd,rfl,hf⟩;go_wp2_with fail;refine (Zfl rn rm rA rB rk rc rj rd _ w3 hf).mono ?_;rintro e w4 ⟨hb4,sn,sA,sk,sc,sm,sB,sj,sd,rfl,hr⟩;have hb34:=Zc hb4 (Zc hb3' hb32);obtain ⟨m0',m1',m2',m3',n0',n1',n2',n3'⟩:=hb34.four;obtain ⟨W5,hW5,q5,hK5,s5⟩:=Zaf sn sA sk sc sm sB sj sd hb34;clear x0 x1 x2 x3 y0 y1 y2 y3 m0 m1 m2 m3 n0 n1 n2 n3 o0 o1 o2 o3 u0 u1 u2 u3 v0 v1 v2 v3 e0 e1 e2 e3 c0 c1 c2 c3;go_wp2_with fail;(try rw [hW5]);have hF5:=Zb (hr.keptN hK5 hb34 (Zao _ _ _ _ _ _ _ _))
   have hK6 : Kept (fun k=>k = g0) V2 W5:=((hK.below hB2').below (hb3'.trans (hb4.mono hb3'.size))).trans hK5
   go_roundg (k - (i + 1))
   case measure=>omega
   case rel=>exact ⟨i + 1,_,_,_,_,_,_,_,_,by omega,by go_num,q5,hF5,hK6⟩
theorem Zh4 {n : Nat} {f : Nat -> Rat} (h : ∀ i,i < n -> 0 <= f i) : 0 <= Zar n f:=by
 induction n with
 | zero=>simp only [Zar];exact Rat.le_refl
 | succ n ih =>
  simp only [Zar]
  have h1:=ih fun i hi=>h i (by omega)
  have h2:=h n (by omega)
  grind
theorem Zj7 {n : Nat} {f : Nat -> Rat} (h : ∀ i,i < n -> 0 <= f i) (hs : Zar n f = 0) : ∀ i,i < n -> f i = 0:=by
 induction n with
 | zero=>intro i hi;omega
 | succ n ih =>
  simp only [Zar] at hs
  have h1:=Zh4 (n:=n) fun i hi=>h i (by omega)
  have h2:=h n (by omega)
  have h3 : Zar n f = 0:=by grind
  have h4 : f n = 0:=by grind
  intro i hi
  by_cases hin : i = n
  ·rw [hin];exact h4
  ·exact ih (fun i hi=>h i (by omega)) h3 i (by omega)
def tL (A : Nat -> Nat -> Rat) (i t : Nat) : Rat:=if t < i then lQ A i t else if t = i then 1 else 0
def Zn7 (A : Nat -> Nat -> Rat) (n c : Nat) : Rat:=Zar n (fun s=>Zk A s s c * Zk A s s c / dQ A s)
section
variable {A : Nat -> Nat -> Rat} {n c : Nat}
theorem Zqi : ∀ (t i : Nat),t <= i -> A i c = Zk A t i c + Zar t (fun s=>lQ A i s * Zk A s s c)
 | 0,i,_=>by show A i c = A i c + 0;grind
 | t + 1,i,h=>by
  have h1:=Zqi t i (by omega);have h2:=Zla (A:=A) (k:=c) (show t < i by omega);show A i c = _ + (Zar t _ + _);rw [h2]
  grind
theorem Zt1 {i : Nat} (hi : i < n) : A i c = Zar n (fun s=>tL A i s * Zk A s s c):=by
 rw [Zqg (n:=i) (m:=n) (k:=i) (f:=fun s=>tL A i s * Zk A s s c) (Nat.le_refl _) hi (fun j h1 h2=>by
  show tL A i j * _ = 0;unfold tL;rw [if_neg (by omega),if_neg h2]
  grind)]
 have h1:=Zqi (A:=A) (c:=c) i i (Nat.le_refl _)
 have h2 : Zar i (fun s=>tL A i s * Zk A s s c) = Zar i (fun s=>lQ A i s * Zk A s s c):=Zbf fun s hs=>by
  unfold tL;rw [if_pos hs]
 have h3 : tL A i i = 1:=by unfold tL;rw [if_neg (by omega),if_pos rfl]
 show A i c = Zar i (fun s=>tL A i s * Zk A s s c) + tL A i i * Zk A i i c;rw [h2,h3,h1]
 grind
theorem Zsy (hA : ∀ i k,i < n -> k < n -> A i k = A k i) (hp : posP A n) (hU : ∀ i j,i < n -> j < i -> Zk A i i j = 0) {i j : Nat} (hi : i < n) (hj : j < n) : Zk A i i j = dQ A i * tL A j i:=by
 have hd:=hp.ne hi;unfold tL
 rcases Nat.lt_trichotomy i j with h | h | h
 ·rw [if_pos h]
  unfold lQ;rw [Zcy hA i i j (Nat.le_refl _) (by omega) hi hj]
  grind
 ·subst h
  rw [if_neg (by omega),if_pos rfl];unfold dQ
  grind
 ·rw [if_neg (by omega),if_neg (by omega),hU i j hi h]
  grind
theorem Znu (hp : posP A n) : 0 <= Zn7 A n c:=Zh4 fun s hs=>by
 have h1:=hp s hs
 have h2 : 0 <= Zk A s s c * Zk A s s c:=by
  rcases Rat.le_total (a:=0) (b:=Zk A s s c) with h | h
  ·exact Rat.mul_nonneg h h
  ·have h3 : 0 <= - Zk A s s c:=by grind
   have:=Rat.mul_nonneg h3 h3
   grind
 rw [Rat.div_def];exact Rat.mul_nonneg h2 (Rat.le_of_lt (Rat.inv_pos.2 h1))
theorem Zsb (hp : posP A n) (h : Zn7 A n c = 0) {i : Nat} (hi : i < n) : A i c = 0:=by
 have h1 : ∀ s,s < n -> Zk A s s c = 0:=fun s hs=>by
  have h2:=Zj7 (f:=fun s=>Zk A s s c * Zk A s s c / dQ A s) (fun s hs=>by
   have h1:=hp s hs
   have h2 : 0 <= Zk A s s c * Zk A s s c:=by
    rcases Rat.le_total (a:=0) (b:=Zk A s s c) with h | h
    ·exact Rat.mul_nonneg h h
    ·have h3 : 0 <= - Zk A s s c:=by grind
     have:=Rat.mul_nonneg h3 h3
     grind
   rw [Rat.div_def]
   exact Rat.mul_nonneg h2 (Rat.le_of_lt (Rat.inv_pos.2 h1))) h s hs
  have hd:=hp.ne hs
  have h3 : Zk A s s c * Zk A s s c = 0:=by
   have : Zk A s s c * Zk A s s c / dQ A s * dQ A s = Zk A s s c * Zk A s s c:=by grind
   rw [<- this];rw [show Zk A s s c * Zk A s s c / dQ A s = 0 from h2]
   grind
  rcases Rat.mul_eq_zero.1 h3 with h | h <;> exact h
 rw [Zt1 (A:=A) (c:=c) hi]
 exact Zlc fun s hs=>by rw [h1 s hs];grind
def brd (A : Nat -> Nat -> Rat) (x : Nat -> Rat) (n : Nat) : Nat -> Nat -> Rat:=fun i k=>if i < n then (if k < n then A i k else x i) else (if k < n then x k else 0)
theorem Zd5 (x : Nat -> Rat) {t i k : Nat} (ht : t <= n) (hi : i < n) (hk : k < n) : Zk (brd A x n) t i k = Zk A t i k:=Zbn (n:=n) (m:=n) (fun i k hi hk=>by unfold brd;rw [if_pos hi,if_pos hk]) (Nat.le_refl _) t i k ht hi hk
theorem Ziz (x : Nat -> Rat) {t : Nat} (ht : t < n) : dQ (brd A x n) t = dQ A t:=Zd5 x (by omega) ht ht
theorem brd_l (x : Nat -> Rat) {i t : Nat} (hi : i < n) (ht : t < n) : lQ (brd A x n) i t = lQ A i t:=by unfold lQ;rw [Ziz x ht,Zd5 x (by omega) hi ht]
theorem Znc (x : Nat -> Rat) {m : Nat} (hm : m <= n) : posP (brd A x n) m ↔ posP A m:=⟨fun h t ht=>by rw [<- Ziz x (show t < n by omega)];exact h t ht,fun h t ht=>by rw [Ziz x (show t < n by omega)];exact h t ht⟩
theorem Zt8 (hA : ∀ i k,i < n -> k < n -> A i k = A k i) (x : Nat -> Rat) : ∀ i k,i < n + 1 -> k < n + 1 -> brd A x n i k = brd A x n k i:=fun i k hi hk=>by
 unfold brd
 by_cases h1 : i < n <;> by_cases h2 : k < n
 ·rw [if_pos h1,if_pos h2,if_pos h2,if_pos h1,hA i k h1 h2]
 ·rw [if_pos h1,if_neg h2,if_neg h2,if_pos h1]
 ·rw [if_neg h1,if_pos h2,if_pos h2,if_neg h1]
 ·rw [if_neg h1,if_neg h2,if_neg h2,if_neg h1]
theorem Zq1 (hA : ∀ i k,i < n -> k < n -> A i k = A k i) (x : Nat -> Rat) : ∀ t,t <= n -> Zk (brd A x n) t n n = - Zar t (fun s=>Zk (brd A x n) s s n * Zk (brd A x n) s s n / dQ (brd A x n) s)
 | 0,_=>by
  show brd A x n n n = -0;unfold brd;rw [if_neg (Nat.lt_irrefl _),if_neg (Nat.lt_irrefl _)]
  grind
 | t + 1,ht=>by
  rw [Zbe (by omega),Zq1 hA x t (by omega),Zcy (Zt8 hA x) t n t (by omega) (Nat.le_refl _) (by omega) (by omega)];show _ = -(Zar t _ + Zk (brd A x n) t t n * Zk (brd A x n) t t n / dQ (brd A x n) t);unfold dQ;rw [Rat.div_def (Zk (brd A x n) t t n),Rat.div_def (Zk (brd A x n) t t n * Zk (brd A x n) t t n)]
  grind
end
end Go.Proofs.YtpehacgjclkhmaaGreat
