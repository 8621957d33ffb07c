/- Package lov: Direction; the reference's Direction. Package -/
import Derived.Deep.LoopGhost
import Derived.Test.YtkcbhbddgmkoiaaGreatZl45
import Derived.Test.YtkcbhbddgmkoiaaGreatZl31
set_option maxRecDepth 100000
set_option maxHeartbeats 8000000
set_option linter.unusedSimpArgs false
set_option linter.unusedVariables false
namespace Go.Proofs.YtkcbhbddgmkoiaaGreat
open Go.RowKit
attribute [local go_sem] Zg
theorem Znl (a : Rat) : 0 <= a * a:=by
 rcases Rat.le_total (a:=0) (b:=a) with h | h
 ·exact Rat.mul_nonneg h h
 ·have h1 : 0 <= -a:=by grind
  have h2:=Rat.mul_nonneg h1 h1
  have e : -a * -a = a * a:=by grind
  rw [e] at h2;exact h2
theorem Zgl {A : Nat -> Nat -> Rat} {n : Nat} (hA : ∀ i k,i < n -> k < n -> A i k = A k i) (hp : posP A n) {k : Nat} (hk : k < n) : ∀ f t,t + f = k -> 0 < Zx A t k k
 | 0,t,h=>by
  obtain rfl : t = k:=by omega
  exact hp t hk
 | f + 1,t,h=>by
  have h1:=Zgl hA hp hk f (t + 1) (by omega);have hd:=hp t (by omega);have h2:=Zh8 hA (t:=t) (i:=k) (k:=k) (by omega) (Nat.le_refl _) hk (hp.ne (by omega));have h3:=Rat.mul_nonneg (Znl (lQ A k t)) (Rat.le_of_lt hd)
  have e : Zx A t k k = Zx A (t + 1) k k + lQ A k t * lQ A k t * dQ A t:=by rw [h2];grind
  rw [e]
  have h6 : Zx A (t + 1) k k <= Zx A (t + 1) k k + lQ A k t * lQ A k t * dQ A t:=by grind
  exact Rat.not_le.1 fun h5=>Rat.not_le.2 h1 (Rat.le_trans h6 h5)
def Zcj (rs : List RX) (k : Int) : Int:=if Zbg rs = 0 then (if rs.length = 6 then (if 0 <= k /\ k <= 5 then 0 else 2) else 8) else Zbg rs
def Zcr (Q : Nat -> Nat -> Rat) (k : Nat) : List Rat:=(List.range 6).map fun i=>Q i k / Q k k
theorem Zei {Q : Nat -> Nat -> Rat} {k : Nat} : (Zcr Q k).length = 6:=by simp [Zcr]
theorem Zjq {Q : Nat -> Nat -> Rat} {k i : Nat} (h : i < 6) : (Zcr Q k).take i ++ [Q i k / Q k k] = (Zcr Q k).take (i + 1):=by
 rw [List.take_add_one];unfold Zcr;rw [List.getElem?_map,List.getElem?_range h];rfl
theorem Zht {rs : List RX} {k E : Int} (h : Zbg rs = E) (h0 : E ≠ 0) : Zcj rs k = E:=by subst h;unfold Zcj;rw [if_neg h0]
theorem Zik {rs : List RX} {k : Int} (h : Zbg rs = 0) (h6 : rs.length ≠ 6) : Zcj rs k = 8:=by unfold Zcj;rw [if_pos h,if_neg h6]
theorem Ze2 {rs : List RX} {k : Int} (h : Zbg rs = 0) (h6 : rs.length = 6) (hk : ¬ (0 <= k /\ k <= 5)) : Zcj rs k = 2:=by unfold Zcj;rw [if_pos h,if_pos h6,if_neg hk]
theorem Zod {rs : List RX} {k : Int} (h : Zbg rs = 0) (h6 : rs.length = 6) (hk : 0 <= k /\ k <= 5) : Zcj rs k = 0:=by unfold Zcj;rw [if_pos h,if_pos h6,if_pos hk]
def DirPost (rs : List RX) (k : Int) (w : World) (e : Ending) (w' : World) : Prop:=
 Below w.heap.size w w' /\ ((Zcj rs k = 0 /\ ∃ A c,e = .returned (.tuple #[.slice A 6 c,.int .i64 0]) /\ FL w' A 6 c (Zcr (Zj (qM rs)) k.toNat)) \/ (Zcj rs k ≠ 0 /\ e = .returned (.tuple #[.slice none 0 0,.int .i64 (Zcj rs k)])))
theorem DirPost.fall {rs : List RX} {k : Int} {w w' : World} {E : Int} (hb : Below w.heap.size w w') (h : Zcj rs k = E) (h0 : E ≠ 0) : DirPost rs k w (.returned (.tuple #[.slice none 0 0,.int .i64 E])) w':=by
 subst h;exact ⟨hb,.inr ⟨h0,rfl⟩⟩
theorem Zet (A : Option Addr) (n c : Nat) (rs : List RX) (kk : Int) (w : World) (h : MXL w A n c rs) (hF : FacC rs) (hk1 : -9223372036854775808 <= kk) (hk2 : kk <= 9223372036854775807) :
    Calls Tryz.prog 16 #[.slice A n c,.int .i64 kk] w (DirPost rs kk w):=by
 obtain ⟨iF,hi,hz0,hz1,hz2⟩:=info_parts Zhd
 have hmx : Tryz.prog.follows .mixedOrders = true:=by kernel_rfl
 have hnl:=Za h.1;have hnc:=h.2.1;have hcm:=h.2.2.1;unfold maxLen at hcm;obtain ⟨E,hE⟩ : ∃ E,Zbg rs = E:=⟨_,rfl⟩;have hC:=Za (fun W1 (hb : Below w.heap.size w W1)=>Zmw A n c rs W1 (h.below hb) hF E hE);have hH:=Za h;clear h
 by_cases h0 : E = 0
 case neg =>
  have t0 : (E == 0) = false:=by simpa using h0
  have t0' : decide (E = 0) = false:=by simpa using h0
  have t0'' : (E != 0) = true:=by rw [bne,t0];rfl
  have hE0:=Za h0;have hPE:=Zht (k:=kk) hE h0;replace hE:=Za hE;replace h0:=Za h0;go_enter Tryz.func16,Tryz.ntmps16;go_wp2_with fail;refine (hC.out _ (Below.refl _ _)).mono ?_;rintro e w1 ⟨rfl,hb1⟩;go_wp2_with fail;go_returns;exact DirPost.fall hb1 hPE hE0.out
 subst h0;obtain ⟨hcV,hcS,hcP⟩:=Zmy hE;have hM:=Za (hcV.good hH.out);have hrow : Hid (∀ a,a < n -> ((qM rs)[a]?.getD []).length = n):=Za (fun a ha=>hcV.row hH.out a ha);have hSm : Hid (∀ a b,Sm (Zj (qM rs) a b)):=Za (fun a b=>(hcV.small64 hH.out).smC (by decide) a b)
 have hdg : Hid (∀ a,a < n -> Zj (qM rs) a a ≠ 0):=Za (fun a ha=>by
  have h1:=Zgl (A:=Zj (qM rs)) (n:=rs.length) (fun i k hi hk=>symB_iff.1 hcS i k (by unfold qM;rw [List.length_map];exact hi) (by unfold qM;rw [List.length_map];exact hk)) hcP (by rw [hnl.out];exact ha) a 0 (by omega);intro e;have e2 : Zx (Zj (qM rs)) 0 a a = 0:=e
  rw [e2] at h1;exact absurd h1 (by decide))
 have hc0:=Za hE;clear hE hcV hcS hcP;go_enter Tryz.func16,Tryz.ntmps16;go_wp2_with fail;refine (hC.out _ (Below.refl _ _)).mono ?_;rintro e w1 ⟨rfl,hB1⟩;clear hC
 by_cases hn6 : n = 6
 case neg =>
  have t1 : ((n : Int) == 6) = false:=by simp;omega
  have t1' : ((n : Int) != 6) = true:=by rw [bne,t1];rfl
  have t1'' : decide (n = 6) = false:=by simpa using hn6
  have hPE:=Zik (k:=kk) hc0.out (by rw [hnl.out];exact hn6);replace hn6:=Za hn6;go_wp2_with fail;go_returns;exact DirPost.fall hB1 hPE (by decide)
 subst hn6
 by_cases hk0 : kk < 0
 case pos =>
  have t2 : decide (kk < 0) = true:=decide_eq_true hk0;have hPE:=Ze2 (k:=kk) hc0.out hnl.out (by omega);replace hk0:=Za hk0;go_wp2_with fail;go_returns;exact DirPost.fall hB1 hPE (by decide)
 have t2 : decide (kk < 0) = false:=decide_eq_false hk0
 by_cases hk5 : 5 < kk
 case pos =>
  have t3 : decide (5 < kk) = true:=decide_eq_true hk5;have hPE:=Ze2 (k:=kk) hc0.out hnl.out (by omega);replace hk0:=Za hk0;replace hk5:=Za hk5;go_wp2_with fail;go_returns;exact DirPost.fall hB1 hPE (by decide)
 have t3 : decide (5 < kk) = false:=decide_eq_false hk5;obtain ⟨k,hkk⟩ : ∃ k : Nat,kk = k:=⟨kk.toNat,by omega⟩;subst hkk
 have hk6 : k < 6:=by omega
 have bk6 : (k : Int) < 6:=by omega
 have bk6' : (k : Int) < ((6 : Nat) : Int):=by omega
 have hPE : Hid (Zcj rs (k : Int) = 0):=Za (Zod hc0.out hnl.out (by omega))
 have t1 : (((6 : Nat) : Int) == 6) = true:=by decide
 replace hk0:=Za hk0;replace hk5:=Za hk5;have hmk:=Zqe (P:=Tryz.prog) 41 64 Tryz.underlying41 hi hz0 hz1 hz2 6 (by omega) w1;have hOm:=Zoo 64 w1 6 (by unfold maxLen;omega);obtain ⟨V1,hV1⟩ : ∃ V,w1.alloc (.cells (Z2 (List.replicate 6 Zad)) 64) = V:=⟨_,rfl⟩
 have hBV : Below w1.heap.size w1 V1:=by rw [<- hV1];exact (Below.refl _ _).alloc (Nat.le_refl _) _
 rw [hV1] at hOm hmk;rw [show ((6 : Nat) : Int) = 6 by rfl] at hmk;replace hOm:=Za hOm;have hBw1:=hB1;go_wp2_with fail;clear hmk
 go_loopg [7,31] 6 (fun t rv iv wr=>∃ i : Nat,i + t = 6 /\ iv = .int .i64 i /\ OwnF 64 wr w1.heap.size rv ((Zcr (Zj (qM rs)) k).take i) /\ Below w1.heap.size w1 wr)
 case atStart=>exact ⟨0,by omega,rfl,by simpa using hOm.out,hBV⟩
 case round =>
  clear hOm hV1 hBV V1;obtain ⟨wi,rfl⟩ : ∃ x : World,x = wr:=⟨_,rfl⟩;obtain ⟨i,hik,rfl,hO,hBi⟩:=hrel;have hBwi : Below w.heap.size w wi:=hBw1.trans (hBi.mono hBw1.size);obtain ⟨rA,rc,e9,hrF⟩:=hO.fl
  have hrl : ((Zcr (Zj (qM rs)) k).take i).length = i:=by rw [List.length_take,Zei];omega
  rw [hrl] at e9 hrF;subst e9
  cases gk with
  | zero =>
   obtain rfl : i = 6:=by omega
   have t5 : decide (((6 : Nat) : Int) < ((6 : Nat) : Int)) = false:=by decide
   replace hO:=Za hO;replace hrF:=Za hrF;go_wp2_with fail;go_returns;refine ⟨hBwi,.inl ⟨hPE.out,_,_,rfl,?_⟩⟩;have h1:=hrF.out;rw [List.take_of_length_le (by rw [Zei];exact Nat.le_refl _)] at h1;exact h1
  | succ t' =>
   obtain rfl : t' = 6 - (i + 1):=by omega
   have hi6 : i < 6:=by omega
   have t5 : decide ((i : Int) < 6) = true:=decide_eq_true (by omega);have t5' : decide ((i : Int) < ((6 : Nat) : Int)) = true:=decide_eq_true (by omega)
   have bi : (i : Int) < 6:=by omega
   have bi' : (i : Int) < ((6 : Nat) : Int):=by omega
   obtain ⟨g1,o1,A',n',c',rfl,k0,hR⟩:=(hM.out.below hBwi).at_ hi6
   have hn' : n' = 6:=by rw [<- hR.len];exact hrow.out i hi6
   subst hn';have hrcap:=hR.cap;unfold maxLen at hrcap;obtain ⟨g2,o2,xn,xA,xk,xc,xm,xB,xj,xd,rfl,⟨x0,x1,x2,x3⟩,hX⟩:=hR.at_ hk6;obtain ⟨A2,n2,c2,k2,hR2⟩:=(hM.out.below hBwi).atS hk6
   have hn2 : n2 = 6:=by rw [<- hR2.len];exact hrow.out k hk6
   subst hn2;have hrcap2:=hR2.cap;unfold maxLen at hrcap2;obtain ⟨g3,o3,yn,yA,yk,yc,ym,yB,yj,yd,rfl,⟨y0,y1,y2,y3⟩,hY⟩:=hR2.at_ hk6;have eX : ((qM rs)[i]?.getD [])[k]?.getD 0 = Zj (qM rs) i k:=rfl;have eY : ((qM rs)[k]?.getD [])[k]?.getD 0 = Zj (qM rs) k k:=rfl;rw [eX] at hX;rw [eY] at hY;have s1:=hSm.out i k;have s2:=hSm.out k k;have hne0:=Za (hdg.out k hk6);replace hO:=Za hO;clear eX eY hR hR2 hrF;go_wp2_with fail;have hSv1 : Hid (∀ wx,Below wi.heap.size wi wx -> wx.cell? ⟨g1,o1 + i,none⟩ = some (.slice (some ⟨g2,o2,none⟩) 6 c') /\ wx.cell? ⟨g2,o2 + k * 4,none⟩ = some (.bool xn) /\ wx.cell? ⟨g2,o2 + k * 4 + 1,none⟩ = some (.slice xA xk xc) /\ wx.cell? ⟨g2,o2 + k * 4 + 2,none⟩ = some (.bool xm) /\ wx.cell? ⟨g2,o2 + k * 4 + 3,none⟩ = some (.slice xB xj xd) /\ wx.cell? ⟨g1,o1 + k,none⟩ = some (.slice (some ⟨g3,o3,none⟩) 6 c2) /\ wx.cell? ⟨g3,o3 + k * 4,none⟩ = some (.bool yn) /\ wx.cell? ⟨g3,o3 + k * 4 + 1,none⟩ = some (.slice yA yk yc) /\ wx.cell? ⟨g3,o3 + k * 4 + 2,none⟩ = some (.bool ym) /\ wx.cell? ⟨g3,o3 + k * 4 + 3,none⟩ = some (.slice yB yj yd)):=Za (fun wx hbx=>⟨Zb hbx k0,Zb hbx x0,Zb hbx x1,Zb hbx x2,Zb hbx x3,Zb hbx k2,Zb hbx y0,Zb hbx y1,Zb hbx y2,Zb hbx y3⟩);have hr1 : Below wi.heap.size wi wi.drew:=Zi (Below.refl _ _) 1;refine wp_heldS [] hmx hSv1 hr1 (fun hxs1=>?_);refine Zre 11 [0,1,2,3,4,5,6,7,8,9,10] rfl (by kernel_rfl) (hSv1.out _ hr1) ?_
   iterate 11 (refine tk1 (v:=?_) rfl (Or.inl ⟨by kernel_rfl,?_⟩) ?_;rotate_left;(· intro W2 hSw;(try dsimp only at hSw);go_simp;try with_reducible rfl);try simp only [Act.put,putL_a,putL_z,putL_s,putG_a,putG_s,putG_z])
   refine tk0 ?_;refine Zdh [(11,47),(12,35),(13,48),(15,10)] (fun i=>match i with | 12=>[14] | _=>[]) [(11,47),(12,35),(14,49),(13,48),(15,10)] (Zar wi.heap.size (Zj (qM rs) i k / Zj (qM rs) k k) 11 12 13 14 15 14) 2 (by kernel_rfl) (fun _ _ _ _ _ hb h=>Zem hb h) (fun wx h=>hSv1.out _ (hr1.trans (h.mono hr1.size))) ?hop1 ?hfin1
   case hop1 =>
    intro p hp;simp only [List.mem_cons,List.not_mem_nil,or_false] at hp;simp only [List.map_cons,List.map_nil,Zap,Act.put,putL_a,putL_z,putL_s]
    rcases hp with rfl | rfl | rfl | rfl
    ·intro ν wx hb hP
     have hbx:=hr1.trans (hb.mono hr1.size);refine Zal (i:=11) rfl (fun K hK=>?_);go_simp;refine (Zmi xn xm yn ym xA xB yA yB xk xc xj xd yk yc yj yd _ _ wx (hX.below hbx) (hY.below hbx) s1 s2 hne0.out).mono ?_;rintro e w5 ⟨hb5,na5,A5,k5,c5,nb5,B5,m5,d5,rfl,hf5⟩;exact hK.out _ _ ⟨_,rfl,(by simp only [Zar];exact ⟨_,_,_,_,_,_,_,_,rfl,hf5⟩),hb5,trivial⟩
    ·intro ν wx hb hP
     have h0:=hP (11,47) (by simp) (by kernel_rfl);simp only [Zar] at h0;obtain ⟨na5,A5,k5,c5,nb5,B5,m5,d5,hν,hf5⟩:=h0;rw [hν];refine Zal (i:=12) rfl (fun K hK=>?_);go_simp;refine hK.out _ _ ⟨_,rfl,(by simp only [Zar];exact ⟨_,_,_,_,_,_,_,_,rfl,hf5⟩),Below.refl _ _,?_⟩;exact ⟨_,.int .i64 0,rfl,Or.inl ⟨by kernel_rfl,fun W2 _=>by go_simp⟩,by simp [Zar],trivial⟩
    ·intro ν wx hb hP
     have h0:=hP (12,35) (by simp) (by kernel_rfl);simp only [Zar] at h0;obtain ⟨na5,A5,k5,c5,nb5,B5,m5,d5,hν,hf5⟩:=h0;rw [hν];refine Zal (i:=13) rfl (fun K hK=>?_);go_simp;exact hK.out _ _ ⟨_,rfl,(by simp only [Zar];exact ⟨_,_,_,_,_,_,_,_,rfl,hf5⟩),Below.refl _ _,trivial⟩
    ·intro ν wx hb hP
     refine Zal (i:=15) rfl (fun K hK=>?_);go_simp;exact hK.out _ _ ⟨_,rfl,(by simp only [Zar];exact ⟨_,rfl,hb.size,Blk.new _ _ _⟩),(Below.refl _ _).alloc (Nat.le_refl _) _,trivial⟩
   case hfin1 =>
    intro ν wx hb hP;have h0:=hP (11,47) (by simp);have h1:=hP (12,35) (by simp);have h2:=hP (13,48) (by simp);have h3:=hP (14,49) (by simp);have h4:=hP (15,10) (by simp);simp only [Zar] at h0 h1 h2 h4;obtain ⟨a0,a1,a2,a3,a4,a5,a6,a7,h0,-⟩:=h0;obtain ⟨b0',b1',b2',b3',b4',b5',b6',b7',h1,-⟩:=h1;obtain ⟨bbn,bbA,bbk,bbc,bbm,bbB,bbj,bbd,h2,bbf⟩:=h2;obtain ⟨gbb,h4,kv,qv⟩:=h4;simp only [List.map_cons,List.map_nil,Zap,Act.put,putL_a,putL_z,putL_s];rw [h0,h1,h2,(show ν 49 = Value.int .i64 0 by simpa [Zar] using h3),h4];clear h0 h1 h2 h3 h4 hP ν;have hbx:=hr1.trans (hb.mono hr1.size);have qv4:=qv.four;have kv2 : wi.heap.size <= gbb:=kv;refine (Zac bbn bbA bbk bbc bbm bbB bbj bbd hbx kv2 qv).elim (fun Zbb hq=>?_);have c0:=qv4.1;have c1':=qv4.2.1;have c2':=qv4.2.2.1;have c3:=qv4.2.2.2.1;have f0:=qv4.2.2.2.2.1;have f1:=qv4.2.2.2.2.2.1;have f2:=qv4.2.2.2.2.2.2.1;have f3:=qv4.2.2.2.2.2.2.2;have hZ:=hq.1;refine Ze (i:=16) rfl (by kernel_rfl) (fun K hK=>?_);go_simp;(try rw [hZ]);refine hK.out _ _ (fun _=>hSv1.out _ hq.2.1) ?_;clear hK K
    try simp only [Act.put,putL_a,putL_z,putL_s]
    refine Zrd 1 [17] rfl (by kernel_rfl) (hSv1.out _ hq.2.1) ?_
    (refine tk1 (v:=?_) rfl (Or.inl ⟨by kernel_rfl,?_⟩) ?_;rotate_left;(· intro W2 _;go_simp;try with_reducible rfl);try simp only [Act.put,putL_a,putL_z,putL_s,putG_a,putG_s,putG_z])
    refine tk0 ?_;refine Zk (by kernel_rfl) ?_ _;refine OnlyNormal.normal ?_;have hbZbb:=hq.2.1;have bbb:=Za hq.2.2.1;replace bbf:=Za (Fr.keep bbf hq.2.2.2.1);clear hq hZ c0 c1' c2' c3 f0 f1 f2 f3 qv4 qv kv hbx hb hr1 hSv1 hxs1;obtain ⟨z0,z1,z2,z3,-⟩:=bbb.out.four;obtain ⟨Y1,hY1⟩ : ∃ Y,Zbb.alloc (.cells #[.bool bbn,.slice bbA bbk bbc,.bool bbm,.slice bbB bbj bbd] 64) = Y:=⟨_,rfl⟩;obtain ⟨gz,hgz⟩ : ∃ g,Zbb.heap.size = g:=⟨_,rfl⟩
    have hBY : Below Zbb.heap.size Zbb Y1:=by rw [<- hY1];exact (Below.refl _ _).alloc (Nat.le_refl _) _
    have hbY : Blk Y1 gz 64 #[.bool bbn,.slice bbA bbk bbc,.bool bbm,.slice bbB bbj bbd]:=by rw [<- hY1,<- hgz];exact Blk.new _ _ _
    have hOY:=(hO.out.kept hbZbb).kept hBY;have hfY:=bbf.out.below hBY;have hjY : Below w1.heap.size w1 Y1:=hBi.trans ((hbZbb.trans (hBY.mono hbZbb.size)).mono hBi.size);have hsz:=hjY.size
    have hll : ((Zcr (Zj (qM rs)) k).take i).length + 1 <= 1000:=by rw [hrl];omega
    have hsc:=Zjq (Q:=Zj (qM rs)) (k:=k) hi6;go_wp2_with ((try rw [hY1]);(try rw [hgz]);at_builtin;refine Zb9 _ rfl (.tmp 50) (.tmp 52) 41 rfl w1.heap.size 64 iF Tryz.underlying41 hi hz0 hz1 hz2 _ _ rfl hOY _ (some ⟨gz,0,none⟩) 1 1 [⟨bbn,bbA,bbk,bbc,bbm,bbB,bbj,bbd,Zj (qM rs) i k / Zj (qM rs) k k⟩] rfl (Zam _ hbY) rfl (by intro e he;rw [List.mem_singleton] at he;subst he;exact hfY) hll hsz ?_;intro v7 w7 hO7 hg7 hk7);have hj7:=hjY.grown hg7 hsz (fun k hk=>hOY.row_ge k hk);simp only [List.map_cons,List.map_nil] at hO7;rw [hsc] at hO7;replace hO7:=Za hO7
    go_roundg (6 - (i + 1))
    case measure=>omega
    case rel=>exact ⟨i + 1,by omega,by go_num,hO7.out,hj7⟩
theorem Zdv (A : Option Addr) (n c : Nat) (rs : List RX) (kk : Int) (w : World) (h : MXL w A n c rs) (hF : FacC rs) (hk1 : -9223372036854775808 <= kk) (hk2 : kk <= 9223372036854775807) :
    Calls Tryz.prog 17 #[.slice A n c,.int .i64 kk] w (DirPost rs kk w):=by
 obtain ⟨iF,hi,hz0,hz1,hz2⟩:=info_parts Zhd
 have hmx : Tryz.prog.follows .mixedOrders = true:=by kernel_rfl
 have hnl:=Za h.1;have hnc:=h.2.1;have hcm:=h.2.2.1;unfold maxLen at hcm;obtain ⟨E,hE⟩ : ∃ E,Zbg rs = E:=⟨_,rfl⟩;have hC:=Za (fun W1 (hb : Below w.heap.size w W1)=>Zkg A n c rs W1 (h.below hb) hF E hE);have hH:=Za h;clear h
 by_cases h0 : E = 0
 case neg =>
  have t0 : (E == 0) = false:=by simpa using h0
  have t0' : decide (E = 0) = false:=by simpa using h0
  have t0'' : (E != 0) = true:=by rw [bne,t0];rfl
  have hE0:=Za h0;have hPE:=Zht (k:=kk) hE h0;replace hE:=Za hE;replace h0:=Za h0;go_enter Tryz.func17,Tryz.ntmps17;go_wp2_with fail;refine (hC.out _ (Below.refl _ _)).mono ?_;rintro e w1 ⟨rfl,hb1⟩;go_wp2_with fail;refine (hC.out _ hb1).mono ?_;rintro e w2 ⟨rfl,hb2⟩;go_wp2_with fail;go_returns;exact DirPost.fall (hb1.trans (hb2.mono hb1.size)) hPE hE0.out
 subst h0;obtain ⟨hcV,hcS,hcP⟩:=Zmy hE;have hM:=Za (hcV.good hH.out);have hrow : Hid (∀ a,a < n -> ((qM rs)[a]?.getD []).length = n):=Za (fun a ha=>hcV.row hH.out a ha);have hSm : Hid (∀ a b,Sm (Zj (qM rs) a b)):=Za (fun a b=>(hcV.small64 hH.out).smC (by decide) a b)
 have hdg : Hid (∀ a,a < n -> Zj (qM rs) a a ≠ 0):=Za (fun a ha=>by
  have h1:=Zgl (A:=Zj (qM rs)) (n:=rs.length) (fun i k hi hk=>symB_iff.1 hcS i k (by unfold qM;rw [List.length_map];exact hi) (by unfold qM;rw [List.length_map];exact hk)) hcP (by rw [hnl.out];exact ha) a 0 (by omega);intro e;have e2 : Zx (Zj (qM rs)) 0 a a = 0:=e
  rw [e2] at h1;exact absurd h1 (by decide))
 have hc0:=Za hE;clear hE hcV hcS hcP;go_enter Tryz.func17,Tryz.ntmps17;go_wp2_with fail;refine (hC.out _ (Below.refl _ _)).mono ?_;rintro e w1 ⟨rfl,hB1⟩;clear hC
 by_cases hn6 : n = 6
 case neg =>
  have t1 : ((n : Int) == 6) = false:=by simp;omega
  have t1' : ((n : Int) != 6) = true:=by rw [bne,t1];rfl
  have t1'' : decide (n = 6) = false:=by simpa using hn6
  have hPE:=Zik (k:=kk) hc0.out (by rw [hnl.out];exact hn6);replace hn6:=Za hn6;go_wp2_with fail;go_returns;exact DirPost.fall hB1 hPE (by decide)
 subst hn6
 by_cases hk0 : kk < 0
 case pos =>
  have t2 : decide (kk < 0) = true:=decide_eq_true hk0;have hPE:=Ze2 (k:=kk) hc0.out hnl.out (by omega);replace hk0:=Za hk0;go_wp2_with fail;go_returns;exact DirPost.fall hB1 hPE (by decide)
 have t2 : decide (kk < 0) = false:=decide_eq_false hk0
 by_cases hk5 : 5 < kk
 case pos =>
  have t3 : decide (5 < kk) = true:=decide_eq_true hk5;have hPE:=Ze2 (k:=kk) hc0.out hnl.out (by omega);replace hk0:=Za hk0;replace hk5:=Za hk5;go_wp2_with fail;go_returns;exact DirPost.fall hB1 hPE (by decide)
 have t3 : decide (5 < kk) = false:=decide_eq_false hk5;obtain ⟨k,hkk⟩ : ∃ k : Nat,kk = k:=⟨kk.toNat,by omega⟩;subst hkk
 have hk6 : k < 6:=by omega
 have bk6 : (k : Int) < 6:=by omega
 have bk6' : (k : Int) < ((6 : Nat) : Int):=by omega
 have hPE : Hid (Zcj rs (k : Int) = 0):=Za (Zod hc0.out hnl.out (by omega))
 have t1 : (((6 : Nat) : Int) == 6) = true:=by decide
 replace hk0:=Za hk0;replace hk5:=Za hk5;have hBw1:=hB1;go_wp2_with fail
 go_loopg [6,7] 6 (fun t rv iv wr=>∃ i : Nat,i + t = 6 /\ iv = .int .i64 i /\ OwnF 64 wr w1.heap.size rv ((Zcr (Zj (qM rs)) k).take i) /\ Below w1.heap.size w1 wr)
 case atStart=>exact ⟨0,by omega,rfl,by simpa using OwnF.nil 64 w1 w1.heap.size,Below.refl _ _⟩
 case round =>
  obtain ⟨wi,rfl⟩ : ∃ x : World,x = wr:=⟨_,rfl⟩;obtain ⟨i,hik,rfl,hO,hBi⟩:=hrel;have hBwi : Below w.heap.size w wi:=hBw1.trans (hBi.mono hBw1.size);obtain ⟨rA,rc,e9,hrF⟩:=hO.fl
  have hrl : ((Zcr (Zj (qM rs)) k).take i).length = i:=by rw [List.length_take,Zei];omega
  rw [hrl] at e9 hrF;subst e9
  cases gk with
  | zero =>
   obtain rfl : i = 6:=by omega
   have t5 : decide (((6 : Nat) : Int) < ((6 : Nat) : Int)) = false:=by decide
   replace hO:=Za hO;replace hrF:=Za hrF;go_wp2_with fail;go_returns;refine ⟨hBwi,.inl ⟨hPE.out,_,_,rfl,?_⟩⟩;have h1:=hrF.out;rw [List.take_of_length_le (by rw [Zei];exact Nat.le_refl _)] at h1;exact h1
  | succ t' =>
   obtain rfl : t' = 6 - (i + 1):=by omega
   have hi6 : i < 6:=by omega
   have t5 : decide ((i : Int) < 6) = true:=decide_eq_true (by omega);have t5' : decide ((i : Int) < ((6 : Nat) : Int)) = true:=decide_eq_true (by omega)
   have bi : (i : Int) < 6:=by omega
   have bi' : (i : Int) < ((6 : Nat) : Int):=by omega
   obtain ⟨g1,o1,A',n',c',rfl,k0,hR⟩:=(hM.out.below hBwi).at_ hi6
   have hn' : n' = 6:=by rw [<- hR.len];exact hrow.out i hi6
   subst hn';have hrcap:=hR.cap;unfold maxLen at hrcap;obtain ⟨g2,o2,xn,xA,xk,xc,xm,xB,xj,xd,rfl,⟨x0,x1,x2,x3⟩,hX⟩:=hR.at_ hk6;obtain ⟨A2,n2,c2,k2,hR2⟩:=(hM.out.below hBwi).atS hk6
   have hn2 : n2 = 6:=by rw [<- hR2.len];exact hrow.out k hk6
   subst hn2;have hrcap2:=hR2.cap;unfold maxLen at hrcap2;obtain ⟨g3,o3,yn,yA,yk,yc,ym,yB,yj,yd,rfl,⟨y0,y1,y2,y3⟩,hY⟩:=hR2.at_ hk6;have eX : ((qM rs)[i]?.getD [])[k]?.getD 0 = Zj (qM rs) i k:=rfl;have eY : ((qM rs)[k]?.getD [])[k]?.getD 0 = Zj (qM rs) k k:=rfl;rw [eX] at hX;rw [eY] at hY;have s1:=hSm.out i k;have s2:=hSm.out k k;have hne0:=Za (hdg.out k hk6);replace hO:=Za hO;clear eX eY hR hR2 hrF;go_wp2_with fail;have hSv1 : Hid (∀ wx,Below wi.heap.size wi wx -> wx.cell? ⟨g1,o1 + i,none⟩ = some (.slice (some ⟨g2,o2,none⟩) 6 c') /\ wx.cell? ⟨g2,o2 + k * 4,none⟩ = some (.bool xn) /\ wx.cell? ⟨g2,o2 + k * 4 + 1,none⟩ = some (.slice xA xk xc) /\ wx.cell? ⟨g2,o2 + k * 4 + 2,none⟩ = some (.bool xm) /\ wx.cell? ⟨g2,o2 + k * 4 + 3,none⟩ = some (.slice xB xj xd) /\ wx.cell? ⟨g1,o1 + k,none⟩ = some (.slice (some ⟨g3,o3,none⟩) 6 c2) /\ wx.cell? ⟨g3,o3 + k * 4,none⟩ = some (.bool yn) /\ wx.cell? ⟨g3,o3 + k * 4 + 1,none⟩ = some (.slice yA yk yc) /\ wx.cell? ⟨g3,o3 + k * 4 + 2,none⟩ = some (.bool ym) /\ wx.cell? ⟨g3,o3 + k * 4 + 3,none⟩ = some (.slice yB yj yd)):=Za (fun wx hbx=>⟨Zb hbx k0,Zb hbx x0,Zb hbx x1,Zb hbx x2,Zb hbx x3,Zb hbx k2,Zb hbx y0,Zb hbx y1,Zb hbx y2,Zb hbx y3⟩);have hr1 : Below wi.heap.size wi wi.drew:=Zi (Below.refl _ _) 1;refine wp_heldS [] hmx hSv1 hr1 (fun hxs1=>?_);refine Zre 14 [0,1,2,3,4,5,6,7,8,9,10,11,12,13] rfl (by kernel_rfl) (hSv1.out _ hr1) ?_
   iterate 14 (refine tk1 (v:=?_) rfl (Or.inl ⟨by kernel_rfl,?_⟩) ?_;rotate_left;(· intro W2 hSw;(try dsimp only at hSw);go_simp;try with_reducible rfl);try simp only [Act.put,putL_a,putL_z,putL_s,putG_a,putG_s,putG_z])
   refine tk0 ?_;refine Zdh [(14,43),(15,28),(16,44),(18,8)] (fun i=>match i with | 15=>[17] | _=>[]) [(14,43),(15,28),(17,45),(16,44),(18,8)] (Zar wi.heap.size (Zj (qM rs) i k / Zj (qM rs) k k) 14 15 16 17 18 17) 2 (by kernel_rfl) (fun _ _ _ _ _ hb h=>Zem hb h) (fun wx h=>hSv1.out _ (hr1.trans (h.mono hr1.size))) ?hop1 ?hfin1
   case hop1 =>
    intro p hp;simp only [List.mem_cons,List.not_mem_nil,or_false] at hp;simp only [List.map_cons,List.map_nil,Zap,Act.put,putL_a,putL_z,putL_s]
    rcases hp with rfl | rfl | rfl | rfl
    ·intro ν wx hb hP
     have hbx:=hr1.trans (hb.mono hr1.size);refine Zal (i:=14) rfl (fun K hK=>?_);go_simp;refine (Zlh xn xm yn ym xA xB yA yB xk xc xj xd yk yc yj yd _ _ wx (hX.below hbx) (hY.below hbx) s1 s2 hne0.out).mono ?_;rintro e w5 ⟨hb5,na5,A5,k5,c5,nb5,B5,m5,d5,rfl,hf5⟩;exact hK.out _ _ ⟨_,rfl,(by simp only [Zar];exact ⟨_,_,_,_,_,_,_,_,rfl,hf5⟩),hb5,trivial⟩
    ·intro ν wx hb hP
     have h0:=hP (14,43) (by simp) (by kernel_rfl);simp only [Zar] at h0;obtain ⟨na5,A5,k5,c5,nb5,B5,m5,d5,hν,hf5⟩:=h0;rw [hν];refine Zal (i:=15) rfl (fun K hK=>?_);go_simp;refine hK.out _ _ ⟨_,rfl,(by simp only [Zar];exact ⟨_,_,_,_,_,_,_,_,rfl,hf5⟩),Below.refl _ _,?_⟩;exact ⟨_,.int .i64 0,rfl,Or.inl ⟨by kernel_rfl,fun W2 _=>by go_simp⟩,by simp [Zar],trivial⟩
    ·intro ν wx hb hP
     have h0:=hP (15,28) (by simp) (by kernel_rfl);simp only [Zar] at h0;obtain ⟨na5,A5,k5,c5,nb5,B5,m5,d5,hν,hf5⟩:=h0;rw [hν];refine Zal (i:=16) rfl (fun K hK=>?_);go_simp;exact hK.out _ _ ⟨_,rfl,(by simp only [Zar];exact ⟨_,_,_,_,_,_,_,_,rfl,hf5⟩),Below.refl _ _,trivial⟩
    ·intro ν wx hb hP
     refine Zal (i:=18) rfl (fun K hK=>?_);go_simp;exact hK.out _ _ ⟨_,rfl,(by simp only [Zar];exact ⟨_,rfl,hb.size,Blk.new _ _ _⟩),(Below.refl _ _).alloc (Nat.le_refl _) _,trivial⟩
   case hfin1 =>
    intro ν wx hb hP;have h0:=hP (14,43) (by simp);have h1:=hP (15,28) (by simp);have h2:=hP (16,44) (by simp);have h3:=hP (17,45) (by simp);have h4:=hP (18,8) (by simp);simp only [Zar] at h0 h1 h2 h4;obtain ⟨a0,a1,a2,a3,a4,a5,a6,a7,h0,-⟩:=h0;obtain ⟨b0',b1',b2',b3',b4',b5',b6',b7',h1,-⟩:=h1;obtain ⟨bbn,bbA,bbk,bbc,bbm,bbB,bbj,bbd,h2,bbf⟩:=h2;obtain ⟨gbb,h4,kv,qv⟩:=h4;simp only [List.map_cons,List.map_nil,Zap,Act.put,putL_a,putL_z,putL_s];rw [h0,h1,h2,(show ν 45 = Value.int .i64 0 by simpa [Zar] using h3),h4];clear h0 h1 h2 h3 h4 hP ν;have hbx:=hr1.trans (hb.mono hr1.size);have qv4:=qv.four;have kv2 : wi.heap.size <= gbb:=kv;refine (Zac bbn bbA bbk bbc bbm bbB bbj bbd hbx kv2 qv).elim (fun Zbb hq=>?_);have c0:=qv4.1;have c1':=qv4.2.1;have c2':=qv4.2.2.1;have c3:=qv4.2.2.2.1;have f0:=qv4.2.2.2.2.1;have f1:=qv4.2.2.2.2.2.1;have f2:=qv4.2.2.2.2.2.2.1;have f3:=qv4.2.2.2.2.2.2.2;have hZ:=hq.1;refine Ze (i:=19) rfl (by kernel_rfl) (fun K hK=>?_);go_simp;(try rw [hZ]);refine hK.out _ _ (fun _=>hSv1.out _ hq.2.1) ?_;clear hK K
    try simp only [Act.put,putL_a,putL_z,putL_s]
    refine Zrd 1 [20] rfl (by kernel_rfl) (hSv1.out _ hq.2.1) ?_
    (refine tk1 (v:=?_) rfl (Or.inl ⟨by kernel_rfl,?_⟩) ?_;rotate_left;(· intro W2 _;go_simp;try with_reducible rfl);try simp only [Act.put,putL_a,putL_z,putL_s,putG_a,putG_s,putG_z])
    refine tk0 ?_;refine Zk (by kernel_rfl) ?_ _;refine OnlyNormal.normal ?_;have hbZbb:=hq.2.1;have bbb:=Za hq.2.2.1;replace bbf:=Za (Fr.keep bbf hq.2.2.2.1);clear hq hZ c0 c1' c2' c3 f0 f1 f2 f3 qv4 qv kv hbx hb hr1 hSv1 hxs1;obtain ⟨z0,z1,z2,z3,-⟩:=bbb.out.four;obtain ⟨Y1,hY1⟩ : ∃ Y,Zbb.alloc (.cells #[.bool bbn,.slice bbA bbk bbc,.bool bbm,.slice bbB bbj bbd] 64) = Y:=⟨_,rfl⟩;obtain ⟨gz,hgz⟩ : ∃ g,Zbb.heap.size = g:=⟨_,rfl⟩
    have hBY : Below Zbb.heap.size Zbb Y1:=by rw [<- hY1];exact (Below.refl _ _).alloc (Nat.le_refl _) _
    have hbY : Blk Y1 gz 64 #[.bool bbn,.slice bbA bbk bbc,.bool bbm,.slice bbB bbj bbd]:=by rw [<- hY1,<- hgz];exact Blk.new _ _ _
    have hOY:=(hO.out.kept hbZbb).kept hBY;have hfY:=bbf.out.below hBY;have hjY : Below w1.heap.size w1 Y1:=hBi.trans ((hbZbb.trans (hBY.mono hbZbb.size)).mono hBi.size);have hsz:=hjY.size
    have hll : ((Zcr (Zj (qM rs)) k).take i).length + 1 <= 1000:=by rw [hrl];omega
    have hsc:=Zjq (Q:=Zj (qM rs)) (k:=k) hi6;go_wp2_with ((try rw [hY1]);(try rw [hgz]);at_builtin;refine Zb9 _ rfl (.tmp 46) (.tmp 48) 41 rfl w1.heap.size 64 iF Tryz.underlying41 hi hz0 hz1 hz2 _ _ rfl hOY _ (some ⟨gz,0,none⟩) 1 1 [⟨bbn,bbA,bbk,bbc,bbm,bbB,bbj,bbd,Zj (qM rs) i k / Zj (qM rs) k k⟩] rfl (Zam _ hbY) rfl (by intro e he;rw [List.mem_singleton] at he;subst he;exact hfY) hll hsz ?_;intro v7 w7 hO7 hg7 hk7);have hj7:=hjY.grown hg7 hsz (fun k hk=>hOY.row_ge k hk);simp only [List.map_cons,List.map_nil] at hO7;rw [hsc] at hO7;replace hO7:=Za hO7
    go_roundg (6 - (i + 1))
    case measure=>omega
    case rel=>exact ⟨i + 1,by omega,by go_num,hO7.out,hj7⟩
noncomputable def smpE (rs : List RX) (s : St) (k d : Int) : Int:=if stE s ≠ 0 then stE s else if Zcj rs k ≠ 0 then Zcj rs k else movE s (Zcr (Zj (qM rs)) k.toNat) d
noncomputable def smpV (rs : List RX) (s : St) (k d : Int) : St:=if stE s ≠ 0 then St.zero else if Zcj rs k ≠ 0 then St.zero else movV s (Zcr (Zj (qM rs)) k.toNat) d
def Zin (rs : List RX) (s : St) (k d : Int) (w : World) (e : Ending) (w' : World) : Prop:=
 e = .returned (.tuple #[.agg (smpV rs s k d).cells,.int .i64 (smpE rs s k d)]) /\ Below w.heap.size w w'
theorem Zqn {rs : List RX} {s : St} {k d E : Int} (h : stE s = E) (h0 : E ≠ 0) : smpE rs s k d = E /\ smpV rs s k d = St.zero:=by
 subst h;exact ⟨if_pos h0,if_pos h0⟩
theorem Znx {rs : List RX} {s : St} {k d E : Int} (h : stE s = 0) (h1 : Zcj rs k = E) (h0 : E ≠ 0) : smpE rs s k d = E /\ smpV rs s k d = St.zero:=by
 subst h1
 have h3 : ¬ (stE s ≠ 0):=by simp [h]
 unfold smpE smpV;rw [if_neg h3,if_neg h3];exact ⟨if_pos h0,if_pos h0⟩
theorem Zny {rs : List RX} {s : St} {k d : Int} (h : stE s = 0) (h1 : Zcj rs k = 0) : smpE rs s k d = movE s (Zcr (Zj (qM rs)) k.toNat) d /\ smpV rs s k d = movV s (Zcr (Zj (qM rs)) k.toNat) d:=by
 have h3 : ¬ (stE s ≠ 0):=by simp [h]
 unfold smpE smpV;rw [if_neg h3,if_neg h3];exact ⟨if_neg (by simp [h1]),if_neg (by simp [h1])⟩
theorem Zol (s : St) (A : Option Addr) (n c : Nat) (rs : List RX) (kk d : Int) (w : World) (h : MXL w A n c rs) (hF : FacC rs) (hk1 : -9223372036854775808 <= kk) (hk2 : kk <= 9223372036854775807) (hd1 : -9223372036854775808 <= d) (hd2 : d <= 9223372036854775807) (hS : Zcj rs kk = 0 -> Zj4 (Zcr (Zj (qM rs)) kk.toNat) d) :
    Calls Tryz.prog 18 #[.agg #[.int .i64 s.t,.int .i64 s.p0,.int .i64 s.p1,.int .i64 s.p2,.int .i64 s.v0,.int .i64 s.v1,.int .i64 s.v2],.slice A n c,.int .i64 kk,.int .i64 d] w (Zin rs s kk d w):=by
 obtain ⟨W0,hW0,hB0,⟨q0,q1⟩,s0⟩:=Zec w 40 #[.int .i64 s.t,.int .i64 s.p0,.int .i64 s.p1,.int .i64 s.p2,.int .i64 s.v0,.int .i64 s.v1,.int .i64 s.v2] 40 #[.int .i64 0,.int .i64 0,.int .i64 0,.int .i64 0,.int .i64 0,.int .i64 0,.int .i64 0];have q0' : Blk W0 w.heap.size 40 s.cells:=q0;have q1' : Blk W0 (w.heap.size + 1) 40 St.zero.cells:=q1;obtain ⟨E,hE⟩ : ∃ E,stE s = E:=⟨_,rfl⟩;have hCk:=Za (fun W=>Zjj s W);have hDr:=Za (fun W1 (hb : Below w.heap.size w W1)=>Zet A n c rs kk W1 (h.below hb) hF hk1 hk2);obtain ⟨c0,c1,c2,c3,c4,c5,c6⟩:=Z3 q0;replace hS:=Za hS;clear q0 q1 h hF;have hq:=Za (And.intro q0' q1');clear q0' q1';replace hW0:=Za hW0;replace hB0:=Za hB0;replace hE:=Za hE;go_enter Tryz.func18,Tryz.ntmps18;have hW0':=hW0.out;go_wp2_with fail;clear hW0 hW0';refine (hCk.out W0).mono ?_;rintro e w1 ⟨rfl,hb1⟩;rw [hE.out];obtain ⟨q0,q1⟩:=hq.out;replace q0:=Zc hb1 q0;replace q1:=Zc hb1 q1;have hB1:=hB0.out.trans (hb1.mono hB0.out.size);clear hq hB0 hb1 c0 c1 c2 c3 c4 c5 c6;obtain ⟨c0,c1,c2,c3,c4,c5,c6⟩:=Z3 (show Blk w1 w.heap.size 40 #[.int .i64 s.t,.int .i64 s.p0,.int .i64 s.p1,.int .i64 s.p2,.int .i64 s.v0,.int .i64 s.v1,.int .i64 s.v2] from q0)
 by_cases h0 : E = 0
 case neg =>
  have t0 : (E == 0) = false:=by simpa using h0
  have t0' : decide (E = 0) = false:=by simpa using h0
  have t0'' : (E != 0) = true:=by rw [bne,t0];rfl
  have hM:=Za (Zqn (rs:=rs) (k:=kk) (d:=d) hE.out h0);replace h0:=Za h0;obtain ⟨f0,f1,f2,f3,f4,f5,f6⟩:=q1.frozen7;obtain ⟨x0,x1,x2,x3,x4,x5,x6⟩:=Z3 (show Blk w1 (w.heap.size + 1) 40 #[.int .i64 0,.int .i64 0,.int .i64 0,.int .i64 0,.int .i64 0,.int .i64 0,.int .i64 0] from q1);have hqq:=Za (And.intro hB1 q1);clear hB1 q1 q0;go_wp2_with fail;obtain ⟨W6,hW6,hB6,q6⟩:=Zbn hqq.out.1 (by omega) hqq.out.2;rw [hW6];obtain ⟨y0,y1,y2,y3,y4,y5,y6⟩:=Z3 (show Blk W6 (w.heap.size + 1) 40 #[.int .i64 0,.int .i64 0,.int .i64 0,.int .i64 0,.int .i64 0,.int .i64 0,.int .i64 0] from q6);refine bodyPost_ret (v:=.tuple #[.agg #[.int .i64 0,.int .i64 0,.int .i64 0,.int .i64 0,.int .i64 0,.int .i64 0,.int .i64 0],.int .i64 E]) (by simp [results,Tryz.results18,go_sem,y0,y1,y2,y3,y4,y5,y6]) rfl ?_;exact ⟨by rw [hM.out.1,hM.out.2];rfl,hB6⟩
 subst h0;have hq:=Za (And.intro q0 q1);clear q0 q1;replace hB1:=Za hB1;go_wp2_with fail;refine (hDr.out w1 hB1.out).mono ?_;rintro e w2 ⟨hb2,hcase⟩;obtain ⟨q0,q1⟩:=hq.out;replace q0:=Zc hb2 q0;replace q1:=Zc hb2 q1;have hB2:=hB1.out.trans (hb2.mono hB1.out.size);clear hq hB1 hb2 c0 c1 c2 c3 c4 c5 c6;obtain ⟨c0,c1,c2,c3,c4,c5,c6⟩:=Z3 (show Blk w2 w.heap.size 40 #[.int .i64 s.t,.int .i64 s.p0,.int .i64 s.p1,.int .i64 s.p2,.int .i64 s.v0,.int .i64 s.v1,.int .i64 s.v2] from q0)
 rcases hcase with ⟨hd0,A2,cA2,rfl,hFL⟩ | ⟨hdn,rfl⟩
 case inr =>
  obtain ⟨D,hD⟩ : ∃ D,Zcj rs kk = D:=⟨_,rfl⟩;rw [hD] at hdn;rw [hD];have h0:=hdn
  have t0 : (D == 0) = false:=by simpa using h0
  have t0' : decide (D = 0) = false:=by simpa using h0
  have t0'' : (D != 0) = true:=by rw [bne,t0];rfl
  have hM:=Za (Znx (d:=d) hE.out hD h0);replace h0:=Za h0;replace hdn:=Za hdn;replace hD:=Za hD;obtain ⟨f0,f1,f2,f3,f4,f5,f6⟩:=q1.frozen7;obtain ⟨x0,x1,x2,x3,x4,x5,x6⟩:=Z3 (show Blk w2 (w.heap.size + 1) 40 #[.int .i64 0,.int .i64 0,.int .i64 0,.int .i64 0,.int .i64 0,.int .i64 0,.int .i64 0] from q1);have hqq:=Za (And.intro hB2 q1);clear hB2 q1 q0;go_wp2_with fail;obtain ⟨W6,hW6,hB6,q6⟩:=Zbn hqq.out.1 (by omega) hqq.out.2;rw [hW6];obtain ⟨y0,y1,y2,y3,y4,y5,y6⟩:=Z3 (show Blk W6 (w.heap.size + 1) 40 #[.int .i64 0,.int .i64 0,.int .i64 0,.int .i64 0,.int .i64 0,.int .i64 0,.int .i64 0] from q6);refine bodyPost_ret (v:=.tuple #[.agg #[.int .i64 0,.int .i64 0,.int .i64 0,.int .i64 0,.int .i64 0,.int .i64 0,.int .i64 0],.int .i64 D]) (by simp [results,Tryz.results18,go_sem,y0,y1,y2,y3,y4,y5,y6]) rfl ?_;exact ⟨by rw [hM.out.1,hM.out.2];rfl,hB6⟩
 have hM:=Za (Zny (s:=s) (d:=d) hE.out hd0);have hcap:=hFL.cap;unfold maxLen at hcap;have hMS:=Za (hS.out hd0);replace hFL:=Za hFL;replace hd0:=Za hd0;have hq:=Za (And.intro q0 q1);clear q0 q1;replace hB2:=Za hB2;go_wp2_with fail;refine (move_ok s A2 cA2 _ d w2 hFL.out hMS.out hd1 hd2).mono ?_;rintro e w3 ⟨he,hb3⟩;obtain ⟨Vm,hVm⟩ : ∃ V,movV s (Zcr (Zj (qM rs)) kk.toNat) d = V:=⟨_,rfl⟩;obtain ⟨Em,hEm⟩ : ∃ V,movE s (Zcr (Zj (qM rs)) kk.toNat) d = V:=⟨_,rfl⟩;rw [hVm,hEm] at he;replace he : e = .returned (.tuple #[.agg #[.int .i64 Vm.t,.int .i64 Vm.p0,.int .i64 Vm.p1,.int .i64 Vm.p2,.int .i64 Vm.v0,.int .i64 Vm.v1,.int .i64 Vm.v2],.int .i64 Em]):=he;subst he;obtain ⟨q0,q1⟩:=hq.out;replace q1:=Zc hb3 q1;have hB3:=hB2.out.trans (hb3.mono hB2.out.size);clear hq hB2 hb3 c0 c1 c2 c3 c4 c5 c6 q0;obtain ⟨f0,f1,f2,f3,f4,f5,f6⟩:=q1.frozen7;obtain ⟨x0,x1,x2,x3,x4,x5,x6⟩:=Z3 (show Blk w3 (w.heap.size + 1) 40 #[.int .i64 0,.int .i64 0,.int .i64 0,.int .i64 0,.int .i64 0,.int .i64 0,.int .i64 0] from q1);replace hVm:=Za hVm;replace hEm:=Za hEm;have hqq:=Za (And.intro hB3 q1);clear hB3 q1;go_wp2_with fail;obtain ⟨W6,hW6,hB6,q6⟩:=Zgp Vm hqq.out.1 (by omega) hqq.out.2;rw [hW6];obtain ⟨y0,y1,y2,y3,y4,y5,y6⟩:=Z3 (show Blk W6 (w.heap.size + 1) 40 #[.int .i64 Vm.t,.int .i64 Vm.p0,.int .i64 Vm.p1,.int .i64 Vm.p2,.int .i64 Vm.v0,.int .i64 Vm.v1,.int .i64 Vm.v2] from q6)
 refine bodyPost_ret (v:=.tuple #[.agg #[.int .i64 Vm.t,.int .i64 Vm.p0,.int .i64 Vm.p1,.int .i64 Vm.p2,.int .i64 Vm.v0,.int .i64 Vm.v1,.int .i64 Vm.v2],.int .i64 Em]) (by simp [results,Tryz.results18,go_sem,y0,y1,y2,y3,y4,y5,y6]) rfl ?_;exact ⟨by rw [hM.out.1,hM.out.2,hVm.out,hEm.out];rfl,hB6⟩
theorem Zm8 (s : St) (A : Option Addr) (n c : Nat) (rs : List RX) (kk d : Int) (w : World) (h : MXL w A n c rs) (hF : FacC rs) (hk1 : -9223372036854775808 <= kk) (hk2 : kk <= 9223372036854775807) (hd1 : -9223372036854775808 <= d) (hd2 : d <= 9223372036854775807) (hS : Zcj rs kk = 0 -> Zj4 (Zcr (Zj (qM rs)) kk.toNat) d) :
    Calls Tryz.prog 19 #[.agg #[.int .i64 s.t,.int .i64 s.p0,.int .i64 s.p1,.int .i64 s.p2,.int .i64 s.v0,.int .i64 s.v1,.int .i64 s.v2],.slice A n c,.int .i64 kk,.int .i64 d] w (Zin rs s kk d w):=by
 obtain ⟨W0,hW0,hB0,⟨q0,q1⟩,s0⟩:=Zec w 40 #[.int .i64 s.t,.int .i64 s.p0,.int .i64 s.p1,.int .i64 s.p2,.int .i64 s.v0,.int .i64 s.v1,.int .i64 s.v2] 40 #[.int .i64 0,.int .i64 0,.int .i64 0,.int .i64 0,.int .i64 0,.int .i64 0,.int .i64 0];have q0' : Blk W0 w.heap.size 40 s.cells:=q0;have q1' : Blk W0 (w.heap.size + 1) 40 St.zero.cells:=q1;obtain ⟨E,hE⟩ : ∃ E,stE s = E:=⟨_,rfl⟩;have hCk:=Za (fun W=>Zg2 s W);have hDr:=Za (fun W1 (hb : Below w.heap.size w W1)=>Zdv A n c rs kk W1 (h.below hb) hF hk1 hk2);obtain ⟨c0,c1,c2,c3,c4,c5,c6⟩:=Z3 q0;replace hS:=Za hS;clear q0 q1 h hF;have hq:=Za (And.intro q0' q1');clear q0' q1';replace hW0:=Za hW0;replace hB0:=Za hB0;replace hE:=Za hE;go_enter Tryz.func19,Tryz.ntmps19;have hW0':=hW0.out;go_wp2_with fail;clear hW0 hW0';refine (hCk.out W0).mono ?_;rintro e w1 ⟨rfl,hb1⟩;rw [hE.out];obtain ⟨q0,q1⟩:=hq.out;replace q0:=Zc hb1 q0;replace q1:=Zc hb1 q1;have hB1:=hB0.out.trans (hb1.mono hB0.out.size);clear hq hB0 hb1 c0 c1 c2 c3 c4 c5 c6;obtain ⟨c0,c1,c2,c3,c4,c5,c6⟩:=Z3 (show Blk w1 w.heap.size 40 #[.int .i64 s.t,.int .i64 s.p0,.int .i64 s.p1,.int .i64 s.p2,.int .i64 s.v0,.int .i64 s.v1,.int .i64 s.v2] from q0)
 by_cases h0 : E = 0
 case neg =>
  have t0 : (E == 0) = false:=by simpa using h0
  have t0' : decide (E = 0) = false:=by simpa using h0
  have t0'' : (E != 0) = true:=by rw [bne,t0];rfl
  have hM:=Za (Zqn (rs:=rs) (k:=kk) (d:=d) hE.out h0);replace h0:=Za h0;have hq:=Za (And.intro q0 q1);clear q0 q1;replace hB1:=Za hB1;go_wp2_with fail;refine (hCk.out w1).mono ?_;rintro e w2 ⟨rfl,hb2⟩;rw [hE.out];obtain ⟨q0,q1⟩:=hq.out;replace q1:=Zc hb2 q1;have hB2:=hB1.out.trans (hb2.mono hB1.out.size);obtain ⟨f0,f1,f2,f3,f4,f5,f6⟩:=q1.frozen7;obtain ⟨x0,x1,x2,x3,x4,x5,x6⟩:=Z3 (show Blk w2 (w.heap.size + 1) 40 #[.int .i64 0,.int .i64 0,.int .i64 0,.int .i64 0,.int .i64 0,.int .i64 0,.int .i64 0] from q1);have hqq:=Za (And.intro hB2 q1);clear hB2 q1 q0 hq hB1 hb2;go_wp2_with fail;obtain ⟨W6,hW6,hB6,q6⟩:=Zbn hqq.out.1 (by omega) hqq.out.2;rw [hW6];obtain ⟨y0,y1,y2,y3,y4,y5,y6⟩:=Z3 (show Blk W6 (w.heap.size + 1) 40 #[.int .i64 0,.int .i64 0,.int .i64 0,.int .i64 0,.int .i64 0,.int .i64 0,.int .i64 0] from q6);refine bodyPost_ret (v:=.tuple #[.agg #[.int .i64 0,.int .i64 0,.int .i64 0,.int .i64 0,.int .i64 0,.int .i64 0,.int .i64 0],.int .i64 E]) (by simp [results,Tryz.results19,go_sem,y0,y1,y2,y3,y4,y5,y6]) rfl ?_;exact ⟨by rw [hM.out.1,hM.out.2];rfl,hB6⟩
 subst h0;have hq:=Za (And.intro q0 q1);clear q0 q1;replace hB1:=Za hB1;go_wp2_with fail;refine (hDr.out w1 hB1.out).mono ?_;rintro e w2 ⟨hb2,hcase⟩;obtain ⟨q0,q1⟩:=hq.out;replace q0:=Zc hb2 q0;replace q1:=Zc hb2 q1;have hB2:=hB1.out.trans (hb2.mono hB1.out.size);clear hq hB1 hb2 c0 c1 c2 c3 c4 c5 c6;obtain ⟨c0,c1,c2,c3,c4,c5,c6⟩:=Z3 (show Blk w2 w.heap.size 40 #[.int .i64 s.t,.int .i64 s.p0,.int .i64 s.p1,.int .i64 s.p2,.int .i64 s.v0,.int .i64 s.v1,.int .i64 s.v2] from q0)
 rcases hcase with ⟨hd0,A2,cA2,rfl,hFL⟩ | ⟨hdn,rfl⟩
 case inr =>
  obtain ⟨D,hD⟩ : ∃ D,Zcj rs kk = D:=⟨_,rfl⟩;rw [hD] at hdn;rw [hD];have h0:=hdn
  have t0 : (D == 0) = false:=by simpa using h0
  have t0' : decide (D = 0) = false:=by simpa using h0
  have t0'' : (D != 0) = true:=by rw [bne,t0];rfl
  have hM:=Za (Znx (d:=d) hE.out hD h0);replace h0:=Za h0;replace hdn:=Za hdn;replace hD:=Za hD;obtain ⟨f0,f1,f2,f3,f4,f5,f6⟩:=q1.frozen7;obtain ⟨x0,x1,x2,x3,x4,x5,x6⟩:=Z3 (show Blk w2 (w.heap.size + 1) 40 #[.int .i64 0,.int .i64 0,.int .i64 0,.int .i64 0,.int .i64 0,.int .i64 0,.int .i64 0] from q1);have hqq:=Za (And.intro hB2 q1);clear hB2 q1 q0;go_wp2_with fail;obtain ⟨W6,hW6,hB6,q6⟩:=Zbn hqq.out.1 (by omega) hqq.out.2;rw [hW6];obtain ⟨y0,y1,y2,y3,y4,y5,y6⟩:=Z3 (show Blk W6 (w.heap.size + 1) 40 #[.int .i64 0,.int .i64 0,.int .i64 0,.int .i64 0,.int .i64 0,.int .i64 0,.int .i64 0] from q6);refine bodyPost_ret (v:=.tuple #[.agg #[.int .i64 0,.int .i64 0,.int .i64 0,.int .i64 0,.int .i64 0,.int .i64 0,.int .i64 0],.int .i64 D]) (by simp [results,Tryz.results19,go_sem,y0,y1,y2,y3,y4,y5,y6]) rfl ?_;exact ⟨by rw [hM.out.1,hM.out.2];rfl,hB6⟩
 have hM:=Za (Zny (s:=s) (d:=d) hE.out hd0);have hcap:=hFL.cap;unfold maxLen at hcap;have hMS:=Za (hS.out hd0);replace hFL:=Za hFL;replace hd0:=Za hd0;have hq:=Za (And.intro q0 q1);clear q0 q1;replace hB2:=Za hB2;go_wp2_with fail;refine (Zoj s A2 cA2 _ d w2 hFL.out hMS.out hd1 hd2).mono ?_;rintro e w3 ⟨S,b,he,hb1,hb0,hb3⟩;replace he : e = .returned (.tuple #[.agg #[.int .i64 S.t,.int .i64 S.p0,.int .i64 S.p1,.int .i64 S.p2,.int .i64 S.v0,.int .i64 S.v1,.int .i64 S.v2],.bool b]):=he;subst he;obtain ⟨q0,q1⟩:=hq.out;replace q1:=(Zc hb3 q1).alloc (.cells #[.int .i64 S.t,.int .i64 S.p0,.int .i64 S.p1,.int .i64 S.p2,.int .i64 S.v0,.int .i64 S.v1,.int .i64 S.v2] 40);have q12 : Blk (w3.alloc (.cells #[.int .i64 S.t,.int .i64 S.p0,.int .i64 S.p1,.int .i64 S.p2,.int .i64 S.v0,.int .i64 S.v1,.int .i64 S.v2] 40)) w3.heap.size 40 #[.int .i64 S.t,.int .i64 S.p0,.int .i64 S.p1,.int .i64 S.p2,.int .i64 S.v0,.int .i64 S.v1,.int .i64 S.v2]:=Blk.new _ _ _;have hB3:=(hB2.out.trans (hb3.mono hB2.out.size)).alloc (by have:=hB2.out.size;have:=hb3.size;omega) (.cells #[.int .i64 S.t,.int .i64 S.p0,.int .i64 S.p1,.int .i64 S.p2,.int .i64 S.v0,.int .i64 S.v1,.int .i64 S.v2] 40);clear hq hB2 hb3 c0 c1 c2 c3 c4 c5 c6 q0;obtain ⟨f0,f1,f2,f3,f4,f5,f6⟩:=q1.frozen7
 obtain ⟨x0,x1,x2,x3,x4,x5,x6⟩:=Z3 (show Blk (w3.alloc (.cells #[.int .i64 S.t,.int .i64 S.p0,.int .i64 S.p1,.int .i64 S.p2,.int .i64 S.v0,.int .i64 S.v1,.int .i64 S.v2] 40)) (w.heap.size + 1) 40 #[.int .i64 0,.int .i64 0,.int .i64 0,.int .i64 0,.int .i64 0,.int .i64 0,.int .i64 0] from q1);obtain ⟨c0,c1,c2,c3,c4,c5,c6⟩:=Z3 q12;have hqq:=Za (And.intro hB3 q1);clear hB3 q1 q12
 cases b with
 | false =>
  have hM2:=Za (hb0 rfl);replace hM : Hid (smpE rs s kk d = 24 /\ smpV rs s kk d = St.zero):=Za ⟨by rw [hM.out.1,hM2.out.1],by rw [hM.out.2,hM2.out.2]⟩;clear hM2 hb0 hb1;go_wp2_with fail;obtain ⟨W6,hW6,hB6,q6⟩:=Zbn hqq.out.1 (by omega) hqq.out.2;rw [hW6];obtain ⟨y0,y1,y2,y3,y4,y5,y6⟩:=Z3 (show Blk W6 (w.heap.size + 1) 40 #[.int .i64 0,.int .i64 0,.int .i64 0,.int .i64 0,.int .i64 0,.int .i64 0,.int .i64 0] from q6);refine bodyPost_ret (v:=.tuple #[.agg #[.int .i64 0,.int .i64 0,.int .i64 0,.int .i64 0,.int .i64 0,.int .i64 0,.int .i64 0],.int .i64 24]) (by simp [results,Tryz.results19,go_sem,y0,y1,y2,y3,y4,y5,y6]) rfl ?_;exact ⟨by rw [hM.out.1,hM.out.2];rfl,hB6⟩
 | true =>
  have hM2:=Za (hb1 rfl);replace hM : Hid (smpE rs s kk d = 0 /\ smpV rs s kk d = S):=Za ⟨by rw [hM.out.1,hM2.out.1],by rw [hM.out.2,hM2.out.2]⟩;clear hM2 hb0 hb1;go_wp2_with fail;obtain ⟨W6,hW6,hB6,q6⟩:=Zgp S hqq.out.1 (by omega) hqq.out.2;rw [hW6];obtain ⟨y0,y1,y2,y3,y4,y5,y6⟩:=Z3 (show Blk W6 (w.heap.size + 1) 40 #[.int .i64 S.t,.int .i64 S.p0,.int .i64 S.p1,.int .i64 S.p2,.int .i64 S.v0,.int .i64 S.v1,.int .i64 S.v2] from q6);refine bodyPost_ret (v:=.tuple #[.agg #[.int .i64 S.t,.int .i64 S.p0,.int .i64 S.p1,.int .i64 S.p2,.int .i64 S.v0,.int .i64 S.v1,.int .i64 S.v2],.int .i64 0]) (by simp [results,Tryz.results19,go_sem,y0,y1,y2,y3,y4,y5,y6]) rfl ?_;exact ⟨by rw [hM.out.1,hM.out.2];rfl,hB6⟩
def calmL (rs : List RX) : Prop:=rs.length <= 10 /\ fewM 3 rs
theorem Zkh (A : Option Addr) (n c : Nat) (rs : List RX) (w : World) (h : MXL w A n c rs) :
    Calls Tryz.prog 15 #[.slice A n c] w fun e w'=>∃ b,e = .returned (.bool b) /\ Below w.heap.size w w' /\ (b = false -> calmL rs):=by
 have hl:=h.1;have hnc:=h.2.1;have hcm:=h.2.2.1;unfold maxLen at hcm;replace h:=Za h;replace hl:=Za hl;go_enter Tryz.func15,Tryz.ntmps15;go_wp2_with fail
 go_loopg [3] n (fun k iv wr=>∃ i : Nat,i + k = n /\ i <= 10 /\ iv = .int .i64 i /\ Hid (∀ a r,a < i -> rs[a]? = some r -> ∀ e ∈ r.es,e.few <= 3 \/ 64 < e.few) /\ Below w.heap.size w wr)
 case atStart=>exact ⟨0,by omega,by omega,rfl,Za (fun a r ha=>by omega),Below.refl _ _⟩
 case round =>
  obtain ⟨w0,rfl⟩ : ∃ x : World,x = wr:=⟨_,rfl⟩;obtain ⟨i,hik,hi10,rfl,hc,hB⟩:=hrel
  by_cases hin : i < n
  case neg =>
   have t1 : decide ((i : Int) < (n : Int)) = false:=decide_eq_false (by omega)
   have hn10 : n <= 10:=by omega
   have hcc : Hid (fewM 3 rs):=Za (fun r hr=>by
    obtain ⟨a,ha,e⟩:=List.getElem_of_mem hr
    exact hc.out a r (by rw [hl.out] at ha;omega) (by rw [List.getElem?_eq_getElem ha,e]))
   have u10 : decide ((10 : Int) < (n : Int)) = false:=decide_eq_false (by omega);go_wp2_with fail;go_ret;exact ⟨_,rfl,hB,fun _=>⟨by rw [hl.out];exact hn10,hcc.out⟩⟩
  have t1 : decide ((i : Int) < (n : Int)) = true:=decide_eq_true (by omega)
  by_cases hi10' : i < 10
  case neg =>
   have t2 : decide ((i : Int) < 10) = false:=decide_eq_false (by omega);have t2' : decide (i < 10) = false:=decide_eq_false (by omega);have u10 : decide ((10 : Int) < (n : Int)) = true:=decide_eq_true (by omega);go_wp2_with fail;go_ret;exact ⟨_,rfl,hB,fun hf=>absurd hf (by decide)⟩
  have t2 : decide ((i : Int) < 10) = true:=decide_eq_true (by omega);have t2' : decide (i < 10) = true:=decide_eq_true (by omega);obtain ⟨gk',rfl⟩ : ∃ j,gk = j + 1:=⟨gk - 1,by omega⟩
  obtain rfl : gk' = n - (i + 1):=by omega
  have bi : (i : Int) < (n : Int):=by omega
  obtain ⟨g,o,⟨rA,rn,rc,es⟩,rfl,hr,k0,hF⟩:=(h.out.below hB).at_ hin;simp only at k0 hF;have hrl:=Nat.le_trans hF.2.1 hF.2.2.1;unfold maxLen at hrl;have hes : Hid (es.length = rn):=Za hF.1;have hrowF:=Za hF;replace hr:=Za hr;clear hF
  by_cases h10 : 10 < rn
  ·have u10 : decide ((10 : Int) < (rn : Int)) = true:=decide_eq_true (by omega)
   go_wp2_with fail;go_ret;exact ⟨_,rfl,hB,fun hf=>absurd hf (by decide)⟩
  have u10 : decide ((10 : Int) < (rn : Int)) = false:=decide_eq_false (by omega);go_wp2_with fail
  go_loopg [4] rn (fun k iv wr=>∃ j : Nat,j + k = rn /\ iv = .int .i64 j /\ Hid (∀ a e,a < j -> es[a]? = some e -> e.few <= 3 \/ 64 < e.few) /\ Below w0.heap.size w0 wr)
  case atStart=>exact ⟨0,by omega,rfl,Za (fun a e ha=>by omega),Below.refl _ _⟩
  case round =>
   obtain ⟨wx,rfl⟩ : ∃ x : World,x = wr:=⟨_,rfl⟩;obtain ⟨j,hjk,rfl,hce,hB2⟩:=hrel;have k1:=Zb hB2 k0;have hBx:=Za (hB.trans (hB2.mono hB.size))
   cases gk with
   | zero =>
    obtain rfl : rn = j:=by omega
    have t3 : decide ((rn : Int) < (rn : Int)) = false:=by simp
    have hc2 : Hid (∀ a x,a < i + 1 -> rs[a]? = some x -> ∀ e ∈ x.es,e.few <= 3 \/ 64 < e.few):=Za (fun a x ha hx=>by
     by_cases he : a = i
     ·subst he
      rw [hr.out] at hx
      cases hx
      intro e he;obtain ⟨t,ht,hte⟩:=List.getElem_of_mem he;exact hce.out t e (by rw [hes.out] at ht;exact ht) (by rw [List.getElem?_eq_getElem ht,hte])
     ·exact hc.out a x (by omega) hx)
    go_wp2_with fail
    go_roundg (n - (i + 1))
    case measure=>omega
    case rel=>exact ⟨i + 1,by omega,by omega,by go_num,hc2,hBx.out⟩
   | succ gk' =>
    obtain rfl : gk' = rn - (j + 1):=by omega
    have hjn : j < rn:=by omega
    have t3 : decide ((j : Int) < (rn : Int)) = true:=decide_eq_true (by omega)
    have bj : (j : Int) < (rn : Int):=by omega
    obtain ⟨g2,o2,e,hA2,hee,⟨c0,c1,c2,c3⟩,hLa,hLb⟩:=(hrowF.out.below hB2).at_ hjn;rw [hA2] at k1;replace hA2:=Za hA2;have hn1:=Nat.le_trans hLa.2.1 hLa.2.2.1;have hm1:=Nat.le_trans hLb.2.1 hLb.2.2.1;have hFw:=Za (fun W1=>Znw e.na e.nb e.A e.B e.n e.c e.m e.d W1 hn1 hm1);obtain ⟨f,hf⟩ : ∃ f,max e.n e.m = f:=⟨_,rfl⟩
    have hff : f <= 9223372036854775807:=by unfold maxLen at hn1 hm1;omega
    rw [hf] at hFw;have hfe : Hid (e.few = f):=Za hf;replace hee:=Za hee;replace hf:=Za hf;clear hLa hLb hn1 hm1;go_wp2_with fail;refine (hFw.out _).mono ?_;rintro e2 w5 ⟨rfl,hb5⟩;have hB5:=hB2.trans (hb5.mono hB2.size);have hB6:=Za (hBx.out.trans (hb5.mono hBx.out.size));clear c0 c1 c2 c3 k1
    by_cases f4 : 3 < f
    ·have x4 : decide ((3 : Int) < (f : Int)) = true:=decide_eq_true (by omega)
     by_cases f64 : f <= 64
     ·have x64 : decide ((f : Int) <= 64) = true:=decide_eq_true (by omega)
      go_wp2_with fail;go_ret;exact ⟨_,rfl,hB6.out,fun hf=>absurd hf (by decide)⟩
     have x64 : decide ((f : Int) <= 64) = false:=decide_eq_false (by omega)
     by_cases f70 : 70 < f
     ·have x70 : decide ((70 : Int) < (f : Int)) = true:=decide_eq_true (by omega)
      go_wp2_with fail;go_ret;exact ⟨_,rfl,hB6.out,fun hf=>absurd hf (by decide)⟩
     have x70 : decide ((70 : Int) < (f : Int)) = false:=decide_eq_false (by omega)
     have hce2 : Hid (∀ a e,a < j + 1 -> es[a]? = some e -> e.few <= 3 \/ 64 < e.few):=Za (fun a x ha hx=>by
      by_cases he : a = j
      ·subst he
       rw [hee.out] at hx
       cases hx
       rw [hfe.out];omega
      ·exact hce.out a x (by omega) hx)
     go_wp2_with fail
     go_roundg (rn - (j + 1))
     case measure=>omega
     case rel=>exact ⟨j + 1,by omega,by go_num,hce2,hB5⟩
    ·have x4 : decide ((3 : Int) < (f : Int)) = false:=decide_eq_false (by omega)
     have x70 : decide ((70 : Int) < (f : Int)) = false:=decide_eq_false (by omega)
     have hce2 : Hid (∀ a e,a < j + 1 -> es[a]? = some e -> e.few <= 3 \/ 64 < e.few):=Za (fun a x ha hx=>by
      by_cases he : a = j
      ·subst he
       rw [hee.out] at hx
       cases hx
       rw [hfe.out];omega
      ·exact hce.out a x (by omega) hx)
     go_wp2_with fail
     go_roundg (rn - (j + 1))
     case measure=>omega
     case rel=>exact ⟨j + 1,by omega,by go_num,hce2,hB5⟩
theorem Ziv (na : Bool) (a : List Nat) : Zdr na na a a = true:=by
 unfold Zdr
 have : Za8 a a = 0:=by
  unfold Za8
  simp
 rw [this];simp
theorem Zmn (na nb : Bool) (A B A' B' : Option Addr) (n c m d n' c' m' d' : Nat) (la lb : List Nat) (w : World) (ha : Lim w A n c la) (hb : Lim w B m d lb) (ha' : Lim w A' n' c' la) (hb' : Lim w B' m' d' lb) :
    Calls Tryz.prog 28 #[.agg #[.bool na,.slice A n c,.bool nb,.slice B m d],.agg #[.bool na,.slice A' n' c',.bool nb,.slice B' m' d']] w fun e w'=>e = .returned (.bool true) /\ Below w.heap.size w w':=by
 obtain ⟨W0,hW0,hB0,⟨q0,q1⟩,s0⟩:=Zec w 64 #[.bool na,.slice A n c,.bool nb,.slice B m d] 64 #[.bool na,.slice A' n' c',.bool nb,.slice B' m' d'];replace ha:=Za (ha.below hB0);replace hb:=Za (hb.below hB0);replace ha':=Za (ha'.below hB0);replace hb':=Za (hb'.below hB0);obtain ⟨a0,a1,a2,a3,-⟩:=q0.four;obtain ⟨b0,b1,b2,b3,-⟩:=q1.four;have hq:=Za (And.intro q0 q1);clear q0 q1;go_enter Tryz.func28,Tryz.ntmps28;go_wp2_with fail;refine (Zc4 na na A A' n c n' c' _ _ W0 ha.out ha'.out).mono ?_;rw [Ziv];rintro e w1 ⟨rfl,hb1⟩;have hB1 : Below w.heap.size w w1:=hB0.trans (hb1.mono hB0.size);obtain ⟨q0,q1⟩:=hq.out;replace q0:=Zc hb1 q0;replace q1:=Zc hb1 q1;clear hW0 a0 a1 a2 a3 b0 b1 b2 b3 hq hB0;obtain ⟨a0,a1,a2,a3,-⟩:=q0.four;obtain ⟨b0,b1,b2,b3,-⟩:=q1.four;clear q0 q1;go_wp2_with fail;refine (Zc4 nb nb B B' m d m' d' _ _ w1 (hb.out.below hb1) (hb'.out.below hb1)).mono ?_;rw [Ziv];rintro e w2 ⟨rfl,hb2⟩;have hB2 : Below w.heap.size w w2:=hB1.trans (hb2.mono hB1.size);go_wp2_with fail;go_ret;exact ⟨by simp,hB2⟩
structure DF where
 na : Bool
 la : List Nat
 nb : Bool
 lb : List Nat
def XL (w : World) (A : Option Addr) (n c : Nat) (ds : List DF) : Prop:=
 ds.length = n /\ n <= c /\ c <= maxLen /\ ∀ (k : Nat) (d : DF),ds[k]? = some d -> ∃ g o A1 n1 c1 B1 m1 d1,A = some ⟨g,o,none⟩ /\ At4 w g (o + k * 4) d.na A1 n1 c1 d.nb B1 m1 d1 /\ Lim w A1 n1 c1 d.la /\ Lim w B1 m1 d1 d.lb
section
variable {w w' : World} {A : Option Addr} {n c : Nat} {ds : List DF} {D : List (List DF)}
theorem XL.below (h : XL w A n c ds) (hb : Below w.heap.size w w') : XL w' A n c ds:=by
 obtain ⟨h1,h2,h3,h4⟩:=h;refine ⟨h1,h2,h3,fun k d hd=>?_⟩;obtain ⟨g,o,A1,n1,c1,B1,m1,d1,e,a,b,b'⟩:=h4 k d hd;exact ⟨g,o,A1,n1,c1,B1,m1,d1,e,a.below hb,b.below hb,b'.below hb⟩
def dfQ (q : Rat) : DF:=⟨decide (q.num < 0),digits q.num.natAbs,false,digits q.den⟩
theorem FL.xl {qs : List Rat} (h : FL w A n c qs) : XL w A n c (qs.map dfQ):=by
 have hl:=h.len;refine ⟨by rw [List.length_map,hl],h.cap.1,h.cap.2,fun k d hd=>?_⟩;rw [List.getElem?_map] at hd;obtain ⟨q,hq,rfl⟩:=Option.map_eq_some_iff.1 hd
 have hk : k < n:=by have:=(List.getElem?_eq_some_iff.1 hq).1;omega
 obtain ⟨g,o,na,A1,n1,c1,nb,B,m,d,e1,e2,e3⟩:=h.at_ hk;rw [hq,Option.getD_some] at e3;have h1:=e3.1.1;have h2:=e3.2.1;have h3:=e3.2.2.2;rw [Int.natAbs_natCast] at h3
 have h4 : nb = false:=by rw [h2];exact decide_eq_false (by omega)
 subst h1 h4;exact ⟨g,o,_,_,_,_,_,_,e1,e2,e3.1.2.2,h3⟩
theorem XL.nil (w : World) : XL w none 0 0 []:=⟨rfl,Nat.le_refl _,Nat.zero_le _,fun k d hd=>(by cases hd)⟩
end
theorem Zj8 (A B : Option Addr) (n c d : Nat) (ds : List DF) (w : World) (ha : XL w A n c ds) (hb : XL w B n d ds) :
    Calls Tryz.prog 20 #[.slice A n c,.slice B n d] w fun e w'=>e = .returned (.bool true) /\ Below w.heap.size w w':=by
 have hmx : Tryz.prog.follows .mixedOrders = true:=by kernel_rfl
 have hl:=Za ha.1;have hc:=ha.2.1;have hcm:=ha.2.2.1;have hd:=hb.2.1;have hdm:=hb.2.2.1;unfold maxLen at hcm hdm;replace ha:=Za ha;replace hb:=Za hb
 have t0 : (((n : Int)) != (n : Int)) = false:=by simp
 go_enter Tryz.func20,Tryz.ntmps20;go_wp2_with fail
 go_loopg [5] n (fun k iv wr=>∃ i : Nat,i + k = n /\ iv = .int .i64 i /\ Below w.heap.size w wr)
 case atStart=>exact ⟨0,by omega,rfl,Below.refl _ _⟩
 case round =>
  obtain ⟨i,hik,rfl,hB⟩:=hrel
  cases gk with
  | zero =>
   obtain rfl : i = n:=by omega
   have t1 : decide ((i : Int) < (i : Int)) = false:=by simp
   go_wp2_with fail;go_ret;exact ⟨rfl,hB⟩
  | succ k' =>
   obtain rfl : k' = n - (i + 1):=by omega
   have hin : i < n:=by omega
   have t1 : decide ((i : Int) < (n : Int)) = true:=decide_eq_true (by omega)
   have bi : (i : Int) < (n : Int):=by omega
   obtain ⟨x,hx⟩:=Zgg (L:=ds) (i:=i) (by rw [hl.out];exact hin);obtain ⟨g,o,A1,n1,c1,B1,m1,d1,rfl,⟨r0,r1,r2,r3⟩,l1,l2⟩:=(ha.out.below hB).2.2.2 i x hx;obtain ⟨g',o',A1',n1',c1',B1',m1',d1',rfl,⟨s0,s1,s2,s3⟩,l1',l2'⟩:=(hb.out.below hB).2.2.2 i x hx;replace l1:=Za l1;replace l2:=Za l2;replace l1':=Za l1';replace l2':=Za l2';go_wp2_with fail;obtain ⟨X0,hX0⟩ : ∃ X,wr.drew = X:=⟨_,rfl⟩
   have hr1 : Below wr.heap.size wr X0:=by rw [<- hX0];exact Zi (Below.refl _ _) 1
   have hSv1 : Hid (∀ wx,Below wr.heap.size wr wx -> wx.cell? ⟨g,o + i * 4,none⟩ = some (.bool x.na) /\ wx.cell? ⟨g,o + i * 4 + 1,none⟩ = some (.slice A1 n1 c1) /\ wx.cell? ⟨g,o + i * 4 + 2,none⟩ = some (.bool x.nb) /\ wx.cell? ⟨g,o + i * 4 + 3,none⟩ = some (.slice B1 m1 d1) /\ wx.cell? ⟨g',o' + i * 4,none⟩ = some (.bool x.na) /\ wx.cell? ⟨g',o' + i * 4 + 1,none⟩ = some (.slice A1' n1' c1') /\ wx.cell? ⟨g',o' + i * 4 + 2,none⟩ = some (.bool x.nb) /\ wx.cell? ⟨g',o' + i * 4 + 3,none⟩ = some (.slice B1' m1' d1')):=Za (fun wx hbx=>⟨Zb hbx r0,Zb hbx r1,Zb hbx r2,Zb hbx r3,Zb hbx s0,Zb hbx s1,Zb hbx s2,Zb hbx s3⟩);refine wp_heldS [] hmx hSv1 (by rw [hX0];exact hr1) (fun hxs=>?_);rw [hX0];refine Zre 8 [0,1,2,3,4,5,6,7] rfl (by kernel_rfl) (hSv1.out _ hr1) ?_
   iterate 8 (refine tk1 (v:=?_) rfl (Or.inl ⟨by kernel_rfl,?_⟩) ?_;rotate_left;(· intro W2 hSw;(try dsimp only at hSw);go_simp;try with_reducible rfl);try simp only [Act.put,putL_a,putL_z,putL_s,putG_a,putG_s,putG_z])
   refine tk0 ?_;refine Ze (i:=8) rfl (by kernel_rfl) (fun K hK=>?_);go_simp;refine (Zmn x.na x.nb A1 B1 A1' B1' n1 c1 m1 d1 n1' c1' m1' d1' x.la x.lb X0 (l1.out.below hr1) (l2.out.below hr1) (l1'.out.below hr1) (l2'.out.below hr1)).mono ?_;rintro e w3 ⟨rfl,hb3⟩;have hr3:=hr1.trans (hb3.mono hr1.size);have hB3:=hB.trans (hr3.mono hB.size);refine hK.out _ _ (fun _=>hSv1.out _ hr3) ?_;clear hK K
   try simp only [Act.put,putL_a,putL_z,putL_s]
   refine Zrd 1 [9] rfl (by kernel_rfl) (hSv1.out _ hr3) ?_
   (refine tk1 (v:=?_) rfl (Or.inl ⟨by kernel_rfl,?_⟩) ?_;rotate_left;(· intro W2 _;go_simp;try with_reducible rfl);try simp only [Act.put,putL_a,putL_z,putL_s,putG_a,putG_s,putG_z])
   refine tk0 ?_;refine Zk (by kernel_rfl) ?_ _;refine OnlyNormal.normal ?_;clear hxs hSv1;go_wp2_with fail
   go_roundg (n - (i + 1))
   case measure=>omega
   case rel=>exact ⟨i + 1,by omega,by go_num,hB3⟩
theorem Zpg {rs : List RX} {k : Int} (h : Zcj rs k = 0) : Zbg rs = 0 /\ rs.length = 6 /\ 0 <= k /\ k <= 5:=by
 by_cases h1 : Zbg rs = 0
 case neg=>rw [Zht rfl h1] at h;exact absurd h h1
 by_cases h2 : rs.length = 6
 case neg=>rw [Zik h1 h2] at h;cases h
 by_cases h3 : 0 <= k /\ k <= 5
 case neg=>rw [Ze2 h1 h2 h3] at h;cases h
 exact ⟨h1,h2,h3⟩
theorem Zo8 {rs : List RX} {A : Option Addr} {n c : Nat} {w : World} {k d : Int} (h : MXL w A n c rs) (hf : fewM 3 rs) (h0 : Zcj rs k = 0) (hd1 : -9223372036854775808 <= d) (hd2 : d <= 9223372036854775807) : Zj4 (Zcr (Zj (qM rs)) k.toNat) d:=by
 obtain ⟨hE,hl,hk0,hk5⟩:=Zpg h0;obtain ⟨hcV,hcS,hcP⟩:=Zmy hE;have hS:=hcV.small h hf
 have hd : SmN 2 1 (d : Rat):=SmN.int (by have e : pw 2 = 18446744073709551616:=by decide
                                          omega)
 have hne : Zj (qM rs) k.toNat k.toNat ≠ 0:=by
  have h1:=Zgl (A:=Zj (qM rs)) (n:=rs.length) (fun i k hi hk=>symB_iff.1 hcS i k (by unfold qM;rw [List.length_map];exact hi) (by unfold qM;rw [List.length_map];exact hk)) hcP (k:=k.toNat) (by omega) k.toNat 0 (by omega);intro e;have e2 : Zx (Zj (qM rs)) 0 k.toNat k.toNat = 0:=e;rw [e2] at h1;exact absurd h1 (by decide)
 refine ⟨hd.sm (by decide) (by decide),fun i=>?_⟩
 by_cases hi : i < 6
 ·have e : (Zcr (Zj (qM rs)) k.toNat)[i]?.getD 0 = Zj (qM rs) i k.toNat / Zj (qM rs) k.toNat k.toNat:=by
    unfold Zcr;rw [List.getElem?_map,List.getElem?_range hi];rfl
  rw [e]
  have hN : ∀ i j,SmN 4 4 (Zj (qM rs) i j):=fun i j=>⟨Nat.lt_of_le_of_lt (hS i j).1 (Zgy (by decide)),Nat.lt_of_le_of_lt (hS i j).2 (Zgy (by decide))⟩
  have h1:=SmN.divN (hN i k.toNat) (hN k.toNat k.toNat) hne;exact ⟨h1.sm (by decide) (by decide),(h1.mulN hd).sm (by decide) (by decide)⟩
 ·have e : (Zcr (Zj (qM rs)) k.toNat)[i]?.getD 0 = 0:=by
    rw [List.getElem?_eq_none (by rw [Zei];omega)];rfl
  rw [e,Rat.zero_mul];have h1:=(SmN.zeroC 0 0).sm (by decide) (by decide);exact ⟨h1,h1⟩
theorem DirPost.shape {rs : List RX} {k : Int} {w w' : World} {e : Ending} (h : DirPost rs k w e w') : ∃ A n c ds,e = .returned (.tuple #[.slice A n c,.int .i64 (Zcj rs k)]) /\ XL w' A n c ds /\ n = (if Zcj rs k = 0 then 6 else 0) /\ ds = (if Zcj rs k = 0 then (Zcr (Zj (qM rs)) k.toNat).map dfQ else []):=by
 obtain ⟨-,⟨h0,A,c,rfl,hF⟩ | ⟨h0,rfl⟩⟩:=h
 ·exact ⟨A,6,c,_,by rw [h0],hF.xl,by rw [if_pos h0],by rw [if_pos h0]⟩
 ·exact ⟨none,0,0,[],rfl,XL.nil _,by rw [if_neg h0],by rw [if_neg h0]⟩
theorem Zpi (s : St) (A : Option Addr) (n c : Nat) (rs : List RX) (kk d : Int) (w : World) (h : MXL w A n c rs) (hk1 : -9223372036854775808 <= kk) (hk2 : kk <= 9223372036854775807) (hd1 : -9223372036854775808 <= d) (hd2 : d <= 9223372036854775807) :
    Calls Tryz.prog 4 #[.agg #[.int .i64 s.t,.int .i64 s.p0,.int .i64 s.p1,.int .i64 s.p2,.int .i64 s.v0,.int .i64 s.v1,.int .i64 s.v2],.slice A n c,.int .i64 kk,.int .i64 d] w fun e w'=>e = .returned (.bool true) /\ Below w.heap.size w w':=by
 obtain ⟨W0,hW0,hB0,q0,s0⟩:=Zaq w 40 #[.int .i64 s.t,.int .i64 s.p0,.int .i64 s.p1,.int .i64 s.p2,.int .i64 s.v0,.int .i64 s.v1,.int .i64 s.v2];have hcm:=h.2.2.1;have hnc:=h.2.1;unfold maxLen at hcm;have hH:=Za (h.below hB0);clear h;obtain ⟨c0,c1,c2,c3,c4,c5,c6⟩:=Z3 q0;replace q0:=Za q0;replace hW0:=Za hW0;replace hB0:=Za hB0;go_enter Tryz.func4,Tryz.ntmps4;have hW0':=hW0.out;go_wp2_with fail;clear hW0 hW0';refine (Zkh A n c rs W0 hH.out).mono ?_;rintro e w1 ⟨b,rfl,hb1,hcalm⟩;replace q0:=Za (Zc hb1 q0.out);replace hH:=Za (hH.out.below hb1);have hB1:=Za (hB0.out.trans (hb1.mono hB0.out.size));clear hB0 hb1 c0 c1 c2 c3 c4 c5 c6
 cases b with
 | true =>
  go_wp2_with fail;go_ret;exact ⟨rfl,hB1.out⟩
 | false =>
  have hf:=(hcalm rfl).2
  have hn10 : n <= 10:=by rw [<- hH.out.1];exact (hcalm rfl).1
  have hFC:=Za (FacC.of hH.out hf (fun h6=>by
   rcases (show n = 0 \/ n = 1 \/ n = 2 \/ n = 3 \/ n = 4 \/ n = 5 \/ n = 6 by omega) with rfl | rfl | rfl | rfl | rfl | rfl | rfl <;> omega))
  have hMS : Hid (Zcj rs kk = 0 -> Zj4 (Zcr (Zj (qM rs)) kk.toNat) d):=Za (fun h0=>Zo8 hH.out hf h0 hd1 hd2);clear hf hcalm;go_wp2_with fail;refine (Zet A n c rs kk w1 hH.out hFC.out hk1 hk2).mono ?_;rintro e w2 hP;have hb2:=hP.1;obtain ⟨A2,n2,c2',ds,rfl,hX,en2,eds⟩:=hP.shape;replace hX:=Za hX;replace q0:=Za (Zc hb2 q0.out);replace hH:=Za (hH.out.below hb2);have hB2:=Za (hB1.out.trans (hb2.mono hB1.out.size));clear hP hb2 hB1;replace en2:=Za en2;replace eds:=Za eds;go_wp2_with fail;refine (Zdv A n c rs kk w2 hH.out hFC.out hk1 hk2).mono ?_;rintro e w3 hP;have hb3:=hP.1;obtain ⟨A3,n3,c3',ds3,rfl,hY,en3,eds3⟩:=hP.shape;have e3 : n3 = n2:=en3.trans en2.out.symm;have e4 : ds3 = ds:=eds3.trans eds.out.symm;subst e3 e4;replace hX:=Za (hX.out.below hb3);replace hY:=Za hY;replace q0:=Za (Zc hb3 q0.out);replace hH:=Za (hH.out.below hb3);have hB3:=Za (hB2.out.trans (hb3.mono hB2.out.size));clear hP hb3 hB2 en2 eds en3 eds3;obtain ⟨c0,c1,c2,c3,c4,c5,c6⟩:=Z3 q0.out;go_wp2_with fail;refine (Zol s A n c rs kk d w3 hH.out hFC.out hk1 hk2 hd1 hd2 hMS.out).mono ?_;rintro e w4 ⟨he,hb4⟩;obtain ⟨Vm,hVm⟩ : ∃ V,smpV rs s kk d = V:=⟨_,rfl⟩;obtain ⟨Em,hEm⟩ : ∃ V,smpE rs s kk d = V:=⟨_,rfl⟩;rw [hVm,hEm] at he;replace he : e = .returned (.tuple #[.agg #[.int .i64 Vm.t,.int .i64 Vm.p0,.int .i64 Vm.p1,.int .i64 Vm.p2,.int .i64 Vm.v0,.int .i64 Vm.v1,.int .i64 Vm.v2],.int .i64 Em]):=he;subst he
  have hA4 : Below w4.heap.size w4 (w4.alloc (.cells #[.int .i64 Vm.t,.int .i64 Vm.p0,.int .i64 Vm.p1,.int .i64 Vm.p2,.int .i64 Vm.v0,.int .i64 Vm.v1,.int .i64 Vm.v2] 40)):=(Below.refl _ _).alloc (Nat.le_refl _) _;replace hX:=Za ((hX.out.below hb4).below hA4);replace hY:=Za ((hY.out.below hb4).below hA4);replace q0:=Za ((Zc hb4 q0.out).alloc (.cells #[.int .i64 Vm.t,.int .i64 Vm.p0,.int .i64 Vm.p1,.int .i64 Vm.p2,.int .i64 Vm.v0,.int .i64 Vm.v1,.int .i64 Vm.v2] 40));replace hH:=Za ((hH.out.below hb4).below hA4);have q13 : Blk (w4.alloc (.cells #[.int .i64 Vm.t,.int .i64 Vm.p0,.int .i64 Vm.p1,.int .i64 Vm.p2,.int .i64 Vm.v0,.int .i64 Vm.v1,.int .i64 Vm.v2] 40)) w4.heap.size 40 #[.int .i64 Vm.t,.int .i64 Vm.p0,.int .i64 Vm.p1,.int .i64 Vm.p2,.int .i64 Vm.v0,.int .i64 Vm.v1,.int .i64 Vm.v2]:=Blk.new _ _ _;have hB4:=Za ((hB3.out.trans (hb4.mono hB3.out.size)).trans (hA4.mono (by have:=hB3.out.size;have:=hb4.size;omega)));clear hb4 hA4 hB3 c0 c1 c2 c3 c4 c5 c6;obtain ⟨V4,hV4⟩ : ∃ V,w4.alloc (.cells #[.int .i64 Vm.t,.int .i64 Vm.p0,.int .i64 Vm.p1,.int .i64 Vm.p2,.int .i64 Vm.v0,.int .i64 Vm.v1,.int .i64 Vm.v2] 40) = V:=⟨_,rfl⟩;obtain ⟨g13,hg13⟩ : ∃ g,w4.heap.size = g:=⟨_,rfl⟩;obtain ⟨c0,c1,c2,c3,c4,c5,c6⟩:=Z3 q0.out;rw [hV4] at hX hY hH hB4;replace hV4:=Za hV4;replace hVm:=Za hVm;replace hEm:=Za hEm;clear hg13 g13;go_wp2_with fail;rw [hV4.out];rw [hV4.out] at q13;refine (Zm8 s A n c rs kk d V4 hH.out hFC.out hk1 hk2 hd1 hd2 hMS.out).mono ?_;rintro e w5 ⟨he,hb5⟩
  rw [hVm.out,hEm.out] at he;replace he : e = .returned (.tuple #[.agg #[.int .i64 Vm.t,.int .i64 Vm.p0,.int .i64 Vm.p1,.int .i64 Vm.p2,.int .i64 Vm.v0,.int .i64 Vm.v1,.int .i64 Vm.v2],.int .i64 Em]):=he;subst he;have hA5 : Below w5.heap.size w5 (w5.alloc (.cells #[.int .i64 Vm.t,.int .i64 Vm.p0,.int .i64 Vm.p1,.int .i64 Vm.p2,.int .i64 Vm.v0,.int .i64 Vm.v1,.int .i64 Vm.v2] 40)):=(Below.refl _ _).alloc (Nat.le_refl _) _;replace hX:=Za ((hX.out.below hb5).below hA5);replace hY:=Za ((hY.out.below hb5).below hA5);replace q13:=(Zc hb5 q13).alloc (.cells #[.int .i64 Vm.t,.int .i64 Vm.p0,.int .i64 Vm.p1,.int .i64 Vm.p2,.int .i64 Vm.v0,.int .i64 Vm.v1,.int .i64 Vm.v2] 40);have q15 : Blk (w5.alloc (.cells #[.int .i64 Vm.t,.int .i64 Vm.p0,.int .i64 Vm.p1,.int .i64 Vm.p2,.int .i64 Vm.v0,.int .i64 Vm.v1,.int .i64 Vm.v2] 40)) w5.heap.size 40 #[.int .i64 Vm.t,.int .i64 Vm.p0,.int .i64 Vm.p1,.int .i64 Vm.p2,.int .i64 Vm.v0,.int .i64 Vm.v1,.int .i64 Vm.v2]:=Blk.new _ _ _;have hB5:=Za ((hB4.out.trans (hb5.mono hB4.out.size)).trans (hA5.mono (by have:=hB4.out.size;have:=hb5.size;omega)));obtain ⟨V5,hV5⟩ : ∃ V,w5.alloc (.cells #[.int .i64 Vm.t,.int .i64 Vm.p0,.int .i64 Vm.p1,.int .i64 Vm.p2,.int .i64 Vm.v0,.int .i64 Vm.v1,.int .i64 Vm.v2] 40) = V:=⟨_,rfl⟩;rw [hV5] at hX hY hB5 q13 q15;replace hV5:=Za hV5;clear hb5 hA5 hB4 c0 c1 c2 c3 c4 c5 c6 hV4 q0 hH;replace q13:=Za q13;replace q15:=Za q15;go_wp2_with fail;rw [hV5.out];refine (Zj8 A2 A3 n3 c2' c3' ds3 V5 hX.out hY.out).mono ?_
  rintro e w6 ⟨rfl,hb6⟩;obtain ⟨c0,c1,c2,c3,c4,c5,c6⟩:=Z3 (Zc hb6 q13.out);obtain ⟨d0,d1,d2,d3,d4,d5,d6⟩:=Z3 (Zc hb6 q15.out);have hB6:=Za (hB5.out.trans (hb6.mono hB5.out.size))
  have hEq : ∀ w,(Op.equalIn 10000 40 (.agg #[.int .i64 Vm.t,.int .i64 Vm.p0,.int .i64 Vm.p1,.int .i64 Vm.p2,.int .i64 Vm.v0,.int .i64 Vm.v1,.int .i64 Vm.v2]) (.agg #[.int .i64 Vm.t,.int .i64 Vm.p0,.int .i64 Vm.p1,.int .i64 Vm.p2,.int .i64 Vm.v0,.int .i64 Vm.v1,.int .i64 Vm.v2])).run Tryz.prog w = .ok true w:=fun w=>by
   rw [Zqk];simp
  clear hb6 hB5 q13 q15 hV5 hX hY;go_wp2_with fail;go_ret;exact ⟨rfl,hB6.out⟩
end Go.Proofs.YtkcbhbddgmkoiaaGreat
