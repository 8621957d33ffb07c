/- Reference of covar: Part. The law's unit. The reference's -/
import Derived.Deep.LoopGhost
import Derived.Test.YtpehacgjclkhmaaGreatZy42
set_option maxRecDepth 100000
set_option maxHeartbeats 8000000
set_option linter.unusedSimpArgs false
set_option linter.unusedVariables false
namespace Go.Proofs.YtpehacgjclkhmaaGreat
open Go.RowKit
attribute [local go_sem] Zg
def Zgx (i k : Nat) : Int:=if i + k = 1 then 1 else if i = k then 4 else 0
def Zc5 (i : Nat) : List Rat:=(List.range 6).map fun k=>((Zgx i k : Int) : Rat)
def unitQ : List (List Rat):=(List.range 6).map Zc5
theorem Zim {i : Nat} : (Zc5 i).length = 6:=by simp [Zc5]
theorem Zaz : unitQ.length = 6:=by simp [unitQ]
theorem Zm8 {i k : Nat} (h : k < 6) : (Zc5 i).take k ++ [((Zgx i k : Int) : Rat)] = (Zc5 i).take (k + 1):=by
 rw [List.take_add_one];unfold Zc5;rw [List.getElem?_map,List.getElem?_range h];rfl
theorem Zmh {i : Nat} (h : i < 6) : unitQ.take i ++ [Zc5 i] = unitQ.take (i + 1):=by
 rw [List.take_add_one];unfold unitQ;rw [List.getElem?_map,List.getElem?_range h];rfl
theorem Zca (w : World) :
    Calls Tryz.prog 38 #[] w fun e w'=>∃ v,e = .returned v /\ Below w.heap.size w w' /\ ∃ L,MatOA 23 29 w' w.heap.size v L unitQ:=by
 obtain ⟨iF,hi,hz0,hz1,hz2⟩:=info_parts Zjp;obtain ⟨iS,ki,kz0,kz1,kz2⟩:=info_parts infoRow
 have hts : (23 : TypeId) ≠ 29:=by decide
 go_enter Tryz.func38,Tryz.ntmps38;go_wp2_with fail
 go_loopg [1,2] 6 (fun t ov jv wr=>∃ (j : Nat) (L : List RS),j + t = 6 /\ jv = .int .i64 j /\ Hid (MatOA 23 29 wr w.heap.size ov L (unitQ.take j)) /\ Below w.heap.size w wr)
 case atStart=>exact ⟨0,[],by omega,rfl,Za (MatOA.nil _ _ _ _),Below.refl _ _⟩
 case round =>
  obtain ⟨wj,rfl⟩ : ∃ x : World,x = wr:=⟨_,rfl⟩;obtain ⟨j,L1,hjk,rfl,hMO,hBj⟩:=hrel;have hLl : Hid (L1.length = j):=Za (by rw [hMO.out.2.1,List.length_take,Zaz];omega);obtain ⟨oA,on_,oc,rfl⟩:=hMO.out.1.isSlP
  cases gk with
  | zero =>
   obtain rfl : j = 6:=by omega
   have t4 : decide (((6 : Nat) : Int) < 6) = false:=by decide
   go_wp2_with fail;go_ret;exact ⟨_,rfl,hBj,L1,hMO.out⟩
  | succ t =>
   obtain rfl : t = 6 - (j + 1):=by omega
   have hj6 : j < 6:=by omega
   have t4 : decide ((j : Int) < 6) = true:=decide_eq_true (by omega);go_wp2_with fail
   go_loopg [3,4] 6 (fun t rv kv wr=>∃ k : Nat,k + t = 6 /\ kv = .int .i64 k /\ OwnF 29 wr wj.heap.size rv ((Zc5 j).take k) /\ Below wj.heap.size wj wr)
   case atStart=>exact ⟨0,by omega,rfl,by simpa using OwnF.nil 29 wj wj.heap.size,Below.refl _ _⟩
   case round =>
    obtain ⟨wk,rfl⟩ : ∃ x : World,x = wr:=⟨_,rfl⟩;obtain ⟨k,hkm,rfl,hO,hBk⟩:=hrel;have hBjk : Below w.heap.size w wk:=hBj.trans (hBk.mono hBj.size);obtain ⟨rA,rc,e9,hrF⟩:=hO.fl
    have hrl : ((Zc5 j).take k).length = k:=by rw [List.length_take,Zim];omega
    rw [hrl] at e9 hrF;subst e9
    cases gk with
    | zero =>
     obtain rfl : k = 6:=by omega
     have t5 : decide (((6 : Nat) : Int) < 6) = false:=by decide
     have hMk:=hMO.out.kept hBk
     have hlt : Hid (∀ s ∈ L1,∀ k',s.val.ownBlock = some k' -> k' < wj.heap.size):=Za (fun s hs k' hk'=>by
      obtain ⟨q,hq,e⟩:=List.getElem_of_mem hs
      exact (hMO.out.2.2.1 q s (by rw [List.getElem?_eq_getElem hq,e])).blt k' hk')
     obtain ⟨Y1,hY1⟩ : ∃ Y,wk.alloc (.cells #[.slice rA 6 rc] 23) = Y:=⟨_,rfl⟩;obtain ⟨gz,hgz⟩ : ∃ g,wk.heap.size = g:=⟨_,rfl⟩
     have hBY : Below wk.heap.size wk Y1:=by rw [<- hY1];exact (Below.refl _ _).alloc (Nat.le_refl _) _
     have hbY : Blk Y1 gz 23 #[.slice rA 6 rc]:=by rw [<- hY1,<- hgz];exact Blk.new _ _ _
     have hMY:=hMk.kept hBY;have hOY:=hO.kept hBY;have hBiY : Below w.heap.size w Y1:=hBjk.trans (hBY.mono hBjk.size)
     have hll : L1.length + 1 <= 1000:=by rw [hLl.out];omega
     have hown:=hMY.1;have hsz:=hBiY.size;replace hO:=Za hO;replace hMk:=Za hMk;replace hOY:=Za hOY;clear hrF;go_wp2_with ((try rw [hY1]);(try rw [hgz]);at_builtin;refine Zfy _ rfl (.tmp 26) (.tmp 28) 22 rfl w.heap.size 23 iS Tryz.underlying22 ki kz0 kz1 kz2 _ L1 rfl hown _ (some ⟨gz,0,none⟩) 1 1 [⟨rA,6,rc⟩] rfl (Zc1 hbY) rfl hll hsz ?_;intro v5 w5 hR5 hg5 hk5);have hM5:=hMY.snoc hts (r:=⟨rA,6,rc⟩) hOY.out hBj.size hlt.out hR5 hg5 hk5;have hB5:=hBiY.grown hg5 hsz (fun k hk=>hown.row_ge k hk);have hfull : (Zc5 j).take 6 = Zc5 j:=List.take_of_length_le (by rw [Zim];exact Nat.le_refl _);rw [hfull,Zmh hj6] at hM5;replace hM5:=Za hM5
     go_roundg (6 - (j + 1))
     case measure=>omega
     case rel=>exact ⟨j + 1,_,by omega,by go_num,hM5,hB5⟩
    | succ t' =>
     obtain rfl : t' = 6 - (k + 1):=by omega
     have hk6 : k < 6:=by omega
     have t5 : decide ((k : Int) < 6) = true:=decide_eq_true (by omega);have hsc:=Zm8 (i:=j) hk6
     by_cases h1 : j + k = 1
     case pos =>
      have e1 : Zgx j k = 1:=if_pos h1
      have u1 : ((j : Int) == (k : Int)) = false:=by simp;omega
      have u1' : decide ((j : Int) = (k : Int)) = false:=decide_eq_false (by omega);have u1'' : decide (j = k) = false:=decide_eq_false (by omega)
      have u2 : ((j : Int) + (k : Int) == 1) = true:=by simp;omega
      have u2' : decide ((j : Int) + (k : Int) = 1) = true:=decide_eq_true (by omega);rw [e1] at hsc;clear e1;replace h1:=Za h1;replace hsc:=Za hsc;have hO1:=Za hO;clear hrF;go_wp2_with fail;refine (Zbq 1 1 wk (by omega) (by omega) (by omega) (by omega)).mono ?_;rintro e w5 ⟨hb5,bbn,bbA,bbk,bbc,bbm,bbB,bbj,bbd,rfl,bbf⟩;rw [Zew] at bbf;obtain ⟨Y1,hY1⟩ : ∃ Y,w5.alloc (.cells #[.bool bbn,.slice bbA bbk bbc,.bool bbm,.slice bbB bbj bbd] 29) = Y:=⟨_,rfl⟩;obtain ⟨gz,hgz⟩ : ∃ g,w5.heap.size = g:=⟨_,rfl⟩
      have hBY : Below w5.heap.size w5 Y1:=by rw [<- hY1];exact (Below.refl _ _).alloc (Nat.le_refl _) _
      have hbY : Blk Y1 gz 29 #[.bool bbn,.slice bbA bbk bbc,.bool bbm,.slice bbB bbj bbd]:=by rw [<- hY1,<- hgz];exact Blk.new _ _ _
      have hOY:=(hO1.out.kept hb5).kept hBY;have hfY:=bbf.below hBY;have hjY : Below wj.heap.size wj Y1:=hBk.trans ((hb5.trans (hBY.mono hb5.size)).mono hBk.size);have hsz:=hjY.size
      have hll : ((Zc5 j).take k).length + 1 <= 1000:=by rw [hrl];omega
      replace hsc:=hsc.out;clear hO hO1 bbf hb5;go_wp2_with ((try rw [hY1]);(try rw [hgz]);at_builtin;refine Zar _ rfl (.tmp 21) (.tmp 24) 23 rfl wj.heap.size 29 iF Tryz.underlying23 hi hz0 hz1 hz2 _ _ rfl hOY _ (some ⟨gz,0,none⟩) 1 1 [⟨bbn,bbA,bbk,bbc,bbm,bbB,bbj,bbd,((1 : Int) : Rat)⟩] rfl (Zan _ hbY) rfl (by intro e he;rw [List.mem_singleton] at he;subst he;exact hfY) hll hsz ?_;intro v7 w7 hO7 hg7 hk7);have hj7:=hjY.grown hg7 hsz (fun k hk=>hOY.row_ge k hk);simp only [List.map_cons,List.map_nil] at hO7;rw [hsc] at hO7;replace hO7:=Za hO7
      go_roundg (6 - (k + 1))
      case measure=>omega
      case rel=>exact ⟨k + 1,by omega,by go_num,hO7.out,hj7⟩
     case neg =>
      have u2 : ((j : Int) + (k : Int) == 1) = false:=by simp;omega
      have u2' : decide ((j : Int) + (k : Int) = 1) = false:=decide_eq_false (by omega)
      by_cases h2 : j = k
      case pos =>
       have e1 : Zgx j k = 4:=by unfold Zgx;rw [if_neg h1,if_pos h2]
       have u1 : ((j : Int) == (k : Int)) = true:=by simp;omega
       have u1' : decide ((j : Int) = (k : Int)) = true:=decide_eq_true (by omega);have u1'' : decide (j = k) = true:=decide_eq_true (by omega);rw [e1] at hsc;clear e1;replace h1:=Za h1;replace h2:=Za h2;replace hsc:=Za hsc;have hO1:=Za hO;clear hrF;go_wp2_with fail;refine (Zbq 4 1 wk (by omega) (by omega) (by omega) (by omega)).mono ?_;rintro e w5 ⟨hb5,bbn,bbA,bbk,bbc,bbm,bbB,bbj,bbd,rfl,bbf⟩;rw [Zew] at bbf;obtain ⟨Y1,hY1⟩ : ∃ Y,w5.alloc (.cells #[.bool bbn,.slice bbA bbk bbc,.bool bbm,.slice bbB bbj bbd] 29) = Y:=⟨_,rfl⟩;obtain ⟨gz,hgz⟩ : ∃ g,w5.heap.size = g:=⟨_,rfl⟩
       have hBY : Below w5.heap.size w5 Y1:=by rw [<- hY1];exact (Below.refl _ _).alloc (Nat.le_refl _) _
       have hbY : Blk Y1 gz 29 #[.bool bbn,.slice bbA bbk bbc,.bool bbm,.slice bbB bbj bbd]:=by rw [<- hY1,<- hgz];exact Blk.new _ _ _
       have hOY:=(hO1.out.kept hb5).kept hBY;have hfY:=bbf.below hBY;have hjY : Below wj.heap.size wj Y1:=hBk.trans ((hb5.trans (hBY.mono hb5.size)).mono hBk.size);have hsz:=hjY.size
       have hll : ((Zc5 j).take k).length + 1 <= 1000:=by rw [hrl];omega
       replace hsc:=hsc.out;clear hO hO1 bbf hb5;go_wp2_with ((try rw [hY1]);(try rw [hgz]);at_builtin;refine Zar _ rfl (.tmp 21) (.tmp 24) 23 rfl wj.heap.size 29 iF Tryz.underlying23 hi hz0 hz1 hz2 _ _ rfl hOY _ (some ⟨gz,0,none⟩) 1 1 [⟨bbn,bbA,bbk,bbc,bbm,bbB,bbj,bbd,((4 : Int) : Rat)⟩] rfl (Zan _ hbY) rfl (by intro e he;rw [List.mem_singleton] at he;subst he;exact hfY) hll hsz ?_;intro v7 w7 hO7 hg7 hk7);have hj7:=hjY.grown hg7 hsz (fun k hk=>hOY.row_ge k hk);simp only [List.map_cons,List.map_nil] at hO7;rw [hsc] at hO7;replace hO7:=Za hO7
       go_roundg (6 - (k + 1))
       case measure=>omega
       case rel=>exact ⟨k + 1,by omega,by go_num,hO7.out,hj7⟩
      case neg =>
       have e1 : Zgx j k = 0:=by unfold Zgx;rw [if_neg h1,if_neg h2]
       have u1 : ((j : Int) == (k : Int)) = false:=by simp;omega
       have u1' : decide ((j : Int) = (k : Int)) = false:=decide_eq_false (by omega);have u1'' : decide (j = k) = false:=decide_eq_false (by omega);rw [e1] at hsc;clear e1;replace h1:=Za h1;replace h2:=Za h2;replace hsc:=Za hsc;have hO1:=Za hO;clear hrF;go_wp2_with fail;refine (Zbq 0 1 wk (by omega) (by omega) (by omega) (by omega)).mono ?_;rintro e w5 ⟨hb5,bbn,bbA,bbk,bbc,bbm,bbB,bbj,bbd,rfl,bbf⟩;rw [Zew] at bbf;obtain ⟨Y1,hY1⟩ : ∃ Y,w5.alloc (.cells #[.bool bbn,.slice bbA bbk bbc,.bool bbm,.slice bbB bbj bbd] 29) = Y:=⟨_,rfl⟩;obtain ⟨gz,hgz⟩ : ∃ g,w5.heap.size = g:=⟨_,rfl⟩
       have hBY : Below w5.heap.size w5 Y1:=by rw [<- hY1];exact (Below.refl _ _).alloc (Nat.le_refl _) _
       have hbY : Blk Y1 gz 29 #[.bool bbn,.slice bbA bbk bbc,.bool bbm,.slice bbB bbj bbd]:=by rw [<- hY1,<- hgz];exact Blk.new _ _ _
       have hOY:=(hO1.out.kept hb5).kept hBY;have hfY:=bbf.below hBY;have hjY : Below wj.heap.size wj Y1:=hBk.trans ((hb5.trans (hBY.mono hb5.size)).mono hBk.size);have hsz:=hjY.size
       have hll : ((Zc5 j).take k).length + 1 <= 1000:=by rw [hrl];omega
       replace hsc:=hsc.out;clear hO hO1 bbf hb5;go_wp2_with ((try rw [hY1]);(try rw [hgz]);at_builtin;refine Zar _ rfl (.tmp 21) (.tmp 24) 23 rfl wj.heap.size 29 iF Tryz.underlying23 hi hz0 hz1 hz2 _ _ rfl hOY _ (some ⟨gz,0,none⟩) 1 1 [⟨bbn,bbA,bbk,bbc,bbm,bbB,bbj,bbd,((0 : Int) : Rat)⟩] rfl (Zan _ hbY) rfl (by intro e he;rw [List.mem_singleton] at he;subst he;exact hfY) hll hsz ?_;intro v7 w7 hO7 hg7 hk7);have hj7:=hjY.grown hg7 hsz (fun k hk=>hOY.row_ge k hk);simp only [List.map_cons,List.map_nil] at hO7;rw [hsc] at hO7;replace hO7:=Za hO7
       go_roundg (6 - (k + 1))
       case measure=>omega
       case rel=>exact ⟨k + 1,by omega,by go_num,hO7.out,hj7⟩
theorem Znd (a : Rat) : 0 <= a * a:=by
 rcases Rat.le_total (a:=0) (b:=a) with h | h
 ·exact Rat.mul_nonneg h h
 ·have h1 : 0 <= -a:=by grind
  have h2:=Rat.mul_nonneg h1 h1
  have e : -a * -a = a * a:=by grind
  rw [e] at h2;exact h2
theorem Zf3 {A : Nat -> Nat -> Rat} {n : Nat} (hA : ∀ i k,i < n -> k < n -> A i k = A k i) (hp : posP A n) {k : Nat} (hk : k < n) : ∀ f t,t + f = k -> 0 < Zaf A t k k
 | 0,t,h=>by
  obtain rfl : t = k:=by omega
  exact hp t hk
 | f + 1,t,h=>by
  have h1:=Zf3 hA hp hk f (t + 1) (by omega);have hd:=hp t (by omega);have h2:=Zhr hA (t:=t) (i:=k) (k:=k) (by omega) (Nat.le_refl _) hk (hp.ne (by omega));have h3:=Rat.mul_nonneg (Znd (lQ A k t)) (Rat.le_of_lt hd)
  have e : Zaf A t k k = Zaf A (t + 1) k k + lQ A k t * lQ A k t * dQ A t:=by rw [h2];grind
  rw [e]
  have h6 : Zaf A (t + 1) k k <= Zaf A (t + 1) k k + lQ A k t * lQ A k t * dQ A t:=by grind
  exact Rat.not_le.1 fun h5=>Rat.not_le.2 h1 (Rat.le_trans h6 h5)
def Za4 (rs : List RX) (k : Int) : Int:=if Za8 rs = 0 then (if rs.length = 6 then (if 0 <= k /\ k <= 5 then 0 else 2) else 8) else Za8 rs
def Zce (Q : Nat -> Nat -> Rat) (k : Nat) : List Rat:=(List.range 6).map fun i=>Q i k / Q k k
theorem Zg5 {Q : Nat -> Nat -> Rat} {k : Nat} : (Zce Q k).length = 6:=by simp [Zce]
theorem Zoi {Q : Nat -> Nat -> Rat} {k i : Nat} (h : i < 6) : (Zce Q k).take i ++ [Q i k / Q k k] = (Zce Q k).take (i + 1):=by
 rw [List.take_add_one];unfold Zce;rw [List.getElem?_map,List.getElem?_range h];rfl
theorem Zd1 {rs : List RX} {k E : Int} (h : Za8 rs = E) (h0 : E ≠ 0) : Za4 rs k = E:=by subst h;unfold Za4;rw [if_neg h0]
theorem Zf1 {rs : List RX} {k : Int} (h : Za8 rs = 0) (h6 : rs.length ≠ 6) : Za4 rs k = 8:=by unfold Za4;rw [if_pos h,if_neg h6]
theorem Zek {rs : List RX} {k : Int} (h : Za8 rs = 0) (h6 : rs.length = 6) (hk : ¬ (0 <= k /\ k <= 5)) : Za4 rs k = 2:=by unfold Za4;rw [if_pos h,if_pos h6,if_neg hk]
theorem dirE_ok {rs : List RX} {k : Int} (h : Za8 rs = 0) (h6 : rs.length = 6) (hk : 0 <= k /\ k <= 5) : Za4 rs k = 0:=by unfold Za4;rw [if_pos h,if_pos h6,if_pos hk]
def DirPost (rs : List RX) (k : Int) (w : World) (e : Ending) (w' : World) : Prop:=
 Below w.heap.size w w' /\ ((Za4 rs k = 0 /\ ∃ A c,e = .returned (.tuple #[.slice A 6 c,.int .i64 0]) /\ FL w' A 6 c (Zce (Zm (qM rs)) k.toNat)) \/ (Za4 rs k ≠ 0 /\ e = .returned (.tuple #[.slice none 0 0,.int .i64 (Za4 rs k)])))
theorem DirPost.fall {rs : List RX} {k : Int} {w w' : World} {E : Int} (hb : Below w.heap.size w w') (h : Za4 rs k = E) (h0 : E ≠ 0) : DirPost rs k w (.returned (.tuple #[.slice none 0 0,.int .i64 E])) w':=by
 subst h;exact ⟨hb,.inr ⟨h0,rfl⟩⟩
theorem Zat (A : Option Addr) (n c : Nat) (rs : List RX) (kk : Int) (w : World) (h : MXL w A n c rs) (hF : FacC rs) (hk1 : -9223372036854775808 <= kk) (hk2 : kk <= 9223372036854775807) :
    Calls Tryz.prog 29 #[.slice A n c,.int .i64 kk] w (DirPost rs kk w):=by
 obtain ⟨iF,hi,hz0,hz1,hz2⟩:=info_parts Zjp
 have hmx : Tryz.prog.follows .mixedOrders = true:=by kernel_rfl
 have hnl:=Za h.1;have hnc:=h.2.1;have hcm:=h.2.2.1;unfold maxLen at hcm;obtain ⟨E,hE⟩ : ∃ E,Za8 rs = E:=⟨_,rfl⟩;have hC:=Za (fun W1 (hb : Below w.heap.size w W1)=>Zme A n c rs W1 (h.below hb) hF E hE);have hH:=Za h;clear h
 by_cases h0 : E = 0
 case neg =>
  have t0 : (E == 0) = false:=by simpa using h0
  have t0' : decide (E = 0) = false:=by simpa using h0
  have t0'' : (E != 0) = true:=by rw [bne,t0];rfl
  have hE0:=Za h0;have hPE:=Zd1 (k:=kk) hE h0;replace hE:=Za hE;replace h0:=Za h0;go_enter Tryz.func29,Tryz.ntmps29;go_wp2_with fail;refine (hC.out _ (Below.refl _ _)).mono ?_;rintro e w1 ⟨rfl,hb1⟩;go_wp2_with fail;go_returns;exact DirPost.fall hb1 hPE hE0.out
 subst h0;obtain ⟨hcV,hcS,hcP⟩:=Zmj hE;have hM:=Za (hcV.good hH.out);have hrow : Hid (∀ a,a < n -> ((qM rs)[a]?.getD []).length = n):=Za (fun a ha=>hcV.row hH.out a ha);have hSm : Hid (∀ a b,Sm (Zm (qM rs) a b)):=Za (fun a b=>(hcV.small64 hH.out).smC (by decide) a b)
 have hdg : Hid (∀ a,a < n -> Zm (qM rs) a a ≠ 0):=Za (fun a ha=>by
  have h1:=Zf3 (A:=Zm (qM rs)) (n:=rs.length) (fun i k hi hk=>symB_iff.1 hcS i k (by unfold qM;rw [List.length_map];exact hi) (by unfold qM;rw [List.length_map];exact hk)) hcP (by rw [hnl.out];exact ha) a 0 (by omega);intro e;have e2 : Zaf (Zm (qM rs)) 0 a a = 0:=e
  rw [e2] at h1;exact absurd h1 (by decide))
 have hc0:=Za hE;clear hE hcV hcS hcP;go_enter Tryz.func29,Tryz.ntmps29;go_wp2_with fail;refine (hC.out _ (Below.refl _ _)).mono ?_;rintro e w1 ⟨rfl,hB1⟩;clear hC
 by_cases hn6 : n = 6
 case neg =>
  have t1 : ((n : Int) == 6) = false:=by simp;omega
  have t1' : ((n : Int) != 6) = true:=by rw [bne,t1];rfl
  have t1'' : decide (n = 6) = false:=by simpa using hn6
  have hPE:=Zf1 (k:=kk) hc0.out (by rw [hnl.out];exact hn6);replace hn6:=Za hn6;go_wp2_with fail;go_returns;exact DirPost.fall hB1 hPE (by decide)
 subst hn6
 by_cases hk0 : kk < 0
 case pos =>
  have t2 : decide (kk < 0) = true:=decide_eq_true hk0;have hPE:=Zek (k:=kk) hc0.out hnl.out (by omega);replace hk0:=Za hk0;go_wp2_with fail;go_returns;exact DirPost.fall hB1 hPE (by decide)
 have t2 : decide (kk < 0) = false:=decide_eq_false hk0
 by_cases hk5 : 5 < kk
 case pos =>
  have t3 : decide (5 < kk) = true:=decide_eq_true hk5;have hPE:=Zek (k:=kk) hc0.out hnl.out (by omega);replace hk0:=Za hk0;replace hk5:=Za hk5;go_wp2_with fail;go_returns;exact DirPost.fall hB1 hPE (by decide)
 have t3 : decide (5 < kk) = false:=decide_eq_false hk5;obtain ⟨k,hkk⟩ : ∃ k : Nat,kk = k:=⟨kk.toNat,by omega⟩;subst hkk
 have hk6 : k < 6:=by omega
 have bk6 : (k : Int) < 6:=by omega
 have bk6' : (k : Int) < ((6 : Nat) : Int):=by omega
 have hPE : Hid (Za4 rs (k : Int) = 0):=Za (dirE_ok hc0.out hnl.out (by omega))
 have t1 : (((6 : Nat) : Int) == 6) = true:=by decide
 replace hk0:=Za hk0;replace hk5:=Za hk5;have hmk:=Zk1 (P:=Tryz.prog) 23 29 Tryz.underlying23 hi hz0 hz1 hz2 6 (by omega) w1;have hOm:=Zix 29 w1 6 (by unfold maxLen;omega);obtain ⟨V1,hV1⟩ : ∃ V,w1.alloc (.cells (Z1 (List.replicate 6 Zab)) 29) = V:=⟨_,rfl⟩
 have hBV : Below w1.heap.size w1 V1:=by rw [<- hV1];exact (Below.refl _ _).alloc (Nat.le_refl _) _
 rw [hV1] at hOm hmk;rw [show ((6 : Nat) : Int) = 6 by rfl] at hmk;replace hOm:=Za hOm;have hBw1:=hB1;go_wp2_with fail;clear hmk
 go_loopg [7,31] 6 (fun t rv iv wr=>∃ i : Nat,i + t = 6 /\ iv = .int .i64 i /\ OwnF 29 wr w1.heap.size rv ((Zce (Zm (qM rs)) k).take i) /\ Below w1.heap.size w1 wr)
 case atStart=>exact ⟨0,by omega,rfl,by simpa using hOm.out,hBV⟩
 case round =>
  clear hOm hV1 hBV V1;obtain ⟨wi,rfl⟩ : ∃ x : World,x = wr:=⟨_,rfl⟩;obtain ⟨i,hik,rfl,hO,hBi⟩:=hrel;have hBwi : Below w.heap.size w wi:=hBw1.trans (hBi.mono hBw1.size);obtain ⟨rA,rc,e9,hrF⟩:=hO.fl
  have hrl : ((Zce (Zm (qM rs)) k).take i).length = i:=by rw [List.length_take,Zg5];omega
  rw [hrl] at e9 hrF;subst e9
  cases gk with
  | zero =>
   obtain rfl : i = 6:=by omega
   have t5 : decide (((6 : Nat) : Int) < ((6 : Nat) : Int)) = false:=by decide
   replace hO:=Za hO;replace hrF:=Za hrF;go_wp2_with fail;go_returns;refine ⟨hBwi,.inl ⟨hPE.out,_,_,rfl,?_⟩⟩;have h1:=hrF.out;rw [List.take_of_length_le (by rw [Zg5];exact Nat.le_refl _)] at h1;exact h1
  | succ t' =>
   obtain rfl : t' = 6 - (i + 1):=by omega
   have hi6 : i < 6:=by omega
   have t5 : decide ((i : Int) < 6) = true:=decide_eq_true (by omega);have t5' : decide ((i : Int) < ((6 : Nat) : Int)) = true:=decide_eq_true (by omega)
   have bi : (i : Int) < 6:=by omega
   have bi' : (i : Int) < ((6 : Nat) : Int):=by omega
   obtain ⟨g1,o1,A',n',c',rfl,k0,hR⟩:=(hM.out.below hBwi).at_ hi6
   have hn' : n' = 6:=by rw [<- hR.len];exact hrow.out i hi6
   subst hn';have hrcap:=hR.cap;unfold maxLen at hrcap;obtain ⟨g2,o2,xn,xA,xk,xc,xm,xB,xj,xd,rfl,⟨x0,x1,x2,x3⟩,hX⟩:=hR.at_ hk6;obtain ⟨A2,n2,c2,k2,hR2⟩:=(hM.out.below hBwi).atS hk6
   have hn2 : n2 = 6:=by rw [<- hR2.len];exact hrow.out k hk6
   subst hn2;have hrcap2:=hR2.cap;unfold maxLen at hrcap2;obtain ⟨g3,o3,yn,yA,yk,yc,ym,yB,yj,yd,rfl,⟨y0,y1,y2,y3⟩,hY⟩:=hR2.at_ hk6;have eX : ((qM rs)[i]?.getD [])[k]?.getD 0 = Zm (qM rs) i k:=rfl;have eY : ((qM rs)[k]?.getD [])[k]?.getD 0 = Zm (qM rs) k k:=rfl;rw [eX] at hX;rw [eY] at hY;have s1:=hSm.out i k;have s2:=hSm.out k k;have hne0:=Za (hdg.out k hk6);replace hO:=Za hO;clear eX eY hR hR2 hrF;go_wp2_with fail;have hSv1 : Hid (∀ wx,Below wi.heap.size wi wx -> wx.cell? ⟨g1,o1 + i,none⟩ = some (.slice (some ⟨g2,o2,none⟩) 6 c') /\ wx.cell? ⟨g2,o2 + k * 4,none⟩ = some (.bool xn) /\ wx.cell? ⟨g2,o2 + k * 4 + 1,none⟩ = some (.slice xA xk xc) /\ wx.cell? ⟨g2,o2 + k * 4 + 2,none⟩ = some (.bool xm) /\ wx.cell? ⟨g2,o2 + k * 4 + 3,none⟩ = some (.slice xB xj xd) /\ wx.cell? ⟨g1,o1 + k,none⟩ = some (.slice (some ⟨g3,o3,none⟩) 6 c2) /\ wx.cell? ⟨g3,o3 + k * 4,none⟩ = some (.bool yn) /\ wx.cell? ⟨g3,o3 + k * 4 + 1,none⟩ = some (.slice yA yk yc) /\ wx.cell? ⟨g3,o3 + k * 4 + 2,none⟩ = some (.bool ym) /\ wx.cell? ⟨g3,o3 + k * 4 + 3,none⟩ = some (.slice yB yj yd)):=Za (fun wx hbx=>⟨Zb hbx k0,Zb hbx x0,Zb hbx x1,Zb hbx x2,Zb hbx x3,Zb hbx k2,Zb hbx y0,Zb hbx y1,Zb hbx y2,Zb hbx y3⟩);have hr1 : Below wi.heap.size wi wi.drew:=Zi (Below.refl _ _) 1;refine wp_heldS [] hmx hSv1 hr1 (fun hxs1=>?_);refine Zrd 11 [0,1,2,3,4,5,6,7,8,9,10] rfl (by kernel_rfl) (hSv1.out _ hr1) ?_
   iterate 11 (refine tk1 (v:=?_) rfl (Or.inl ⟨by kernel_rfl,?_⟩) ?_;rotate_left;(· intro W2 hSw;(try dsimp only at hSw);go_simp;try with_reducible rfl);try simp only [Act.put,putL_a,putL_z,putL_s,putG_a,putG_s,putG_z])
   refine tk0 ?_;refine Zlt [(11,47),(12,35),(13,48),(15,10)] (fun i=>match i with | 12=>[14] | _=>[]) [(11,47),(12,35),(14,49),(13,48),(15,10)] (Zdf wi.heap.size (Zm (qM rs) i k / Zm (qM rs) k k) 11 12 13 14 15 14) 2 (by kernel_rfl) (fun _ _ _ _ _ hb h=>Zkt hb h) (fun wx h=>hSv1.out _ (hr1.trans (h.mono hr1.size))) ?hop1 ?hfin1
   case hop1 =>
    intro p hp;simp only [List.mem_cons,List.not_mem_nil,or_false] at hp;simp only [List.map_cons,List.map_nil,Za2,Act.put,putL_a,putL_z,putL_s]
    rcases hp with rfl | rfl | rfl | rfl
    ·intro ν wx hb hP
     have hbx:=hr1.trans (hb.mono hr1.size);refine Zex (i:=11) rfl (fun K hK=>?_);go_simp;refine (Zly xn xm yn ym xA xB yA yB xk xc xj xd yk yc yj yd _ _ wx (hX.below hbx) (hY.below hbx) s1 s2 hne0.out).mono ?_;rintro e w5 ⟨hb5,na5,A5,k5,c5,nb5,B5,m5,d5,rfl,hf5⟩;exact hK.out _ _ ⟨_,rfl,(by simp only [Zdf];exact ⟨_,_,_,_,_,_,_,_,rfl,hf5⟩),hb5,trivial⟩
    ·intro ν wx hb hP
     have h0:=hP (11,47) (by simp) (by kernel_rfl);simp only [Zdf] at h0;obtain ⟨na5,A5,k5,c5,nb5,B5,m5,d5,hν,hf5⟩:=h0;rw [hν];refine Zex (i:=12) rfl (fun K hK=>?_);go_simp;refine hK.out _ _ ⟨_,rfl,(by simp only [Zdf];exact ⟨_,_,_,_,_,_,_,_,rfl,hf5⟩),Below.refl _ _,?_⟩;exact ⟨_,.int .i64 0,rfl,Or.inl ⟨by kernel_rfl,fun W2 _=>by go_simp⟩,by simp [Zdf],trivial⟩
    ·intro ν wx hb hP
     have h0:=hP (12,35) (by simp) (by kernel_rfl);simp only [Zdf] at h0;obtain ⟨na5,A5,k5,c5,nb5,B5,m5,d5,hν,hf5⟩:=h0;rw [hν];refine Zex (i:=13) rfl (fun K hK=>?_);go_simp;exact hK.out _ _ ⟨_,rfl,(by simp only [Zdf];exact ⟨_,_,_,_,_,_,_,_,rfl,hf5⟩),Below.refl _ _,trivial⟩
    ·intro ν wx hb hP
     refine Zex (i:=15) rfl (fun K hK=>?_);go_simp;exact hK.out _ _ ⟨_,rfl,(by simp only [Zdf];exact ⟨_,rfl,hb.size,Blk.new _ _ _⟩),(Below.refl _ _).alloc (Nat.le_refl _) _,trivial⟩
   case hfin1 =>
    intro ν wx hb hP;have h0:=hP (11,47) (by simp);have h1:=hP (12,35) (by simp);have h2:=hP (13,48) (by simp);have h3:=hP (14,49) (by simp);have h4:=hP (15,10) (by simp);simp only [Zdf] at h0 h1 h2 h4;obtain ⟨a0,a1,a2,a3,a4,a5,a6,a7,h0,-⟩:=h0;obtain ⟨b0',b1',b2',b3',b4',b5',b6',b7',h1,-⟩:=h1;obtain ⟨bbn,bbA,bbk,bbc,bbm,bbB,bbj,bbd,h2,bbf⟩:=h2;obtain ⟨gbb,h4,kv,qv⟩:=h4;simp only [List.map_cons,List.map_nil,Za2,Act.put,putL_a,putL_z,putL_s];rw [h0,h1,h2,(show ν 49 = Value.int .i64 0 by simpa [Zdf] using h3),h4];clear h0 h1 h2 h3 h4 hP ν;have hbx:=hr1.trans (hb.mono hr1.size);have qv4:=qv.four;have kv2 : wi.heap.size <= gbb:=kv;refine (Zau bbn bbA bbk bbc bbm bbB bbj bbd hbx kv2 qv).elim (fun Zbb hq=>?_);have c0:=qv4.1;have c1':=qv4.2.1;have c2':=qv4.2.2.1;have c3:=qv4.2.2.2.1;have f0:=qv4.2.2.2.2.1;have f1:=qv4.2.2.2.2.2.1;have f2:=qv4.2.2.2.2.2.2.1;have f3:=qv4.2.2.2.2.2.2.2;have hZ:=hq.1;refine Ze (i:=16) rfl (by kernel_rfl) (fun K hK=>?_);go_simp;(try rw [hZ]);refine hK.out _ _ (fun _=>hSv1.out _ hq.2.1) ?_;clear hK K
    try simp only [Act.put,putL_a,putL_z,putL_s]
    refine Zrc 1 [17] rfl (by kernel_rfl) (hSv1.out _ hq.2.1) ?_
    (refine tk1 (v:=?_) rfl (Or.inl ⟨by kernel_rfl,?_⟩) ?_;rotate_left;(· intro W2 _;go_simp;try with_reducible rfl);try simp only [Act.put,putL_a,putL_z,putL_s,putG_a,putG_s,putG_z])
    refine tk0 ?_;refine Zl (by kernel_rfl) ?_ _;refine OnlyNormal.normal ?_;have hbZbb:=hq.2.1;have bbb:=Za hq.2.2.1;replace bbf:=Za (Fr.keep bbf hq.2.2.2.1);clear hq hZ c0 c1' c2' c3 f0 f1 f2 f3 qv4 qv kv hbx hb hr1 hSv1 hxs1;obtain ⟨z0,z1,z2,z3,-⟩:=bbb.out.four;obtain ⟨Y1,hY1⟩ : ∃ Y,Zbb.alloc (.cells #[.bool bbn,.slice bbA bbk bbc,.bool bbm,.slice bbB bbj bbd] 29) = Y:=⟨_,rfl⟩;obtain ⟨gz,hgz⟩ : ∃ g,Zbb.heap.size = g:=⟨_,rfl⟩
    have hBY : Below Zbb.heap.size Zbb Y1:=by rw [<- hY1];exact (Below.refl _ _).alloc (Nat.le_refl _) _
    have hbY : Blk Y1 gz 29 #[.bool bbn,.slice bbA bbk bbc,.bool bbm,.slice bbB bbj bbd]:=by rw [<- hY1,<- hgz];exact Blk.new _ _ _
    have hOY:=(hO.out.kept hbZbb).kept hBY;have hfY:=bbf.out.below hBY;have hjY : Below w1.heap.size w1 Y1:=hBi.trans ((hbZbb.trans (hBY.mono hbZbb.size)).mono hBi.size);have hsz:=hjY.size
    have hll : ((Zce (Zm (qM rs)) k).take i).length + 1 <= 1000:=by rw [hrl];omega
    have hsc:=Zoi (Q:=Zm (qM rs)) (k:=k) hi6;go_wp2_with ((try rw [hY1]);(try rw [hgz]);at_builtin;refine Zar _ rfl (.tmp 50) (.tmp 52) 23 rfl w1.heap.size 29 iF Tryz.underlying23 hi hz0 hz1 hz2 _ _ rfl hOY _ (some ⟨gz,0,none⟩) 1 1 [⟨bbn,bbA,bbk,bbc,bbm,bbB,bbj,bbd,Zm (qM rs) i k / Zm (qM rs) k k⟩] rfl (Zan _ hbY) rfl (by intro e he;rw [List.mem_singleton] at he;subst he;exact hfY) hll hsz ?_;intro v7 w7 hO7 hg7 hk7);have hj7:=hjY.grown hg7 hsz (fun k hk=>hOY.row_ge k hk);simp only [List.map_cons,List.map_nil] at hO7;rw [hsc] at hO7;replace hO7:=Za hO7
    go_roundg (6 - (i + 1))
    case measure=>omega
    case rel=>exact ⟨i + 1,by omega,by go_num,hO7.out,hj7⟩
noncomputable def smpE (rs : List RX) (s : St) (k d : Int) : Int:=if stE s ≠ 0 then stE s else if Za4 rs k ≠ 0 then Za4 rs k else movE s (Zce (Zm (qM rs)) k.toNat) d
noncomputable def smpV (rs : List RX) (s : St) (k d : Int) : St:=if stE s ≠ 0 then St.zero else if Za4 rs k ≠ 0 then St.zero else movV s (Zce (Zm (qM rs)) k.toNat) d
def Znf (rs : List RX) (s : St) (k d : Int) (w : World) (e : Ending) (w' : World) : Prop:=
 e = .returned (.tuple #[.agg (smpV rs s k d).cells,.int .i64 (smpE rs s k d)]) /\ Below w.heap.size w w'
theorem Zqj {rs : List RX} {s : St} {k d E : Int} (h : stE s = E) (h0 : E ≠ 0) : smpE rs s k d = E /\ smpV rs s k d = St.zero:=by
 subst h;exact ⟨if_pos h0,if_pos h0⟩
theorem smp_dir {rs : List RX} {s : St} {k d E : Int} (h : stE s = 0) (h1 : Za4 rs k = E) (h0 : E ≠ 0) : smpE rs s k d = E /\ smpV rs s k d = St.zero:=by
 subst h1
 have h3 : ¬ (stE s ≠ 0):=by simp [h]
 unfold smpE smpV;rw [if_neg h3,if_neg h3];exact ⟨if_pos h0,if_pos h0⟩
theorem Zjv {rs : List RX} {s : St} {k d : Int} (h : stE s = 0) (h1 : Za4 rs k = 0) : smpE rs s k d = movE s (Zce (Zm (qM rs)) k.toNat) d /\ smpV rs s k d = movV s (Zce (Zm (qM rs)) k.toNat) d:=by
 have h3 : ¬ (stE s ≠ 0):=by simp [h]
 unfold smpE smpV;rw [if_neg h3,if_neg h3];exact ⟨if_neg (by simp [h1]),if_neg (by simp [h1])⟩
theorem Zf6 (s : St) (A : Option Addr) (n c : Nat) (rs : List RX) (kk d : Int) (w : World) (h : MXL w A n c rs) (hF : FacC rs) (hk1 : -9223372036854775808 <= kk) (hk2 : kk <= 9223372036854775807) (hd1 : -9223372036854775808 <= d) (hd2 : d <= 9223372036854775807) (hS : Za4 rs kk = 0 -> Zjm (Zce (Zm (qM rs)) kk.toNat) d) :
    Calls Tryz.prog 39 #[.agg #[.int .i64 s.t,.int .i64 s.p0,.int .i64 s.p1,.int .i64 s.p2,.int .i64 s.v0,.int .i64 s.v1,.int .i64 s.v2],.slice A n c,.int .i64 kk,.int .i64 d] w (Znf rs s kk d w):=by
 obtain ⟨W0,hW0,hB0,⟨q0,q1⟩,s0⟩:=Zfg w 46 #[.int .i64 s.t,.int .i64 s.p0,.int .i64 s.p1,.int .i64 s.p2,.int .i64 s.v0,.int .i64 s.v1,.int .i64 s.v2] 46 #[.int .i64 0,.int .i64 0,.int .i64 0,.int .i64 0,.int .i64 0,.int .i64 0,.int .i64 0];have q0' : Blk W0 w.heap.size 46 s.cells:=q0;have q1' : Blk W0 (w.heap.size + 1) 46 St.zero.cells:=q1;obtain ⟨E,hE⟩ : ∃ E,stE s = E:=⟨_,rfl⟩;have hCk:=Za (fun W=>Zf7 s W);have hDr:=Za (fun W1 (hb : Below w.heap.size w W1)=>Zat A n c rs kk W1 (h.below hb) hF hk1 hk2);obtain ⟨c0,c1,c2,c3,c4,c5,c6⟩:=Zai q0;replace hS:=Za hS;clear q0 q1 h hF;have hq:=Za (And.intro q0' q1');clear q0' q1';replace hW0:=Za hW0;replace hB0:=Za hB0;replace hE:=Za hE;go_enter Tryz.func39,Tryz.ntmps39;have hW0':=hW0.out;go_wp2_with fail;clear hW0 hW0';refine (hCk.out W0).mono ?_;rintro e w1 ⟨rfl,hb1⟩;rw [hE.out];obtain ⟨q0,q1⟩:=hq.out;replace q0:=Zc hb1 q0;replace q1:=Zc hb1 q1;have hB1:=hB0.out.trans (hb1.mono hB0.out.size);clear hq hB0 hb1 c0 c1 c2 c3 c4 c5 c6;obtain ⟨c0,c1,c2,c3,c4,c5,c6⟩:=Zai (show Blk w1 w.heap.size 46 #[.int .i64 s.t,.int .i64 s.p0,.int .i64 s.p1,.int .i64 s.p2,.int .i64 s.v0,.int .i64 s.v1,.int .i64 s.v2] from q0)
 by_cases h0 : E = 0
 case neg =>
  have t0 : (E == 0) = false:=by simpa using h0
  have t0' : decide (E = 0) = false:=by simpa using h0
  have t0'' : (E != 0) = true:=by rw [bne,t0];rfl
  have hM:=Za (Zqj (rs:=rs) (k:=kk) (d:=d) hE.out h0);replace h0:=Za h0;obtain ⟨f0,f1,f2,f3,f4,f5,f6⟩:=q1.frozen7;obtain ⟨x0,x1,x2,x3,x4,x5,x6⟩:=Zai (show Blk w1 (w.heap.size + 1) 46 #[.int .i64 0,.int .i64 0,.int .i64 0,.int .i64 0,.int .i64 0,.int .i64 0,.int .i64 0] from q1);have hqq:=Za (And.intro hB1 q1);clear hB1 q1 q0;go_wp2_with fail;obtain ⟨W6,hW6,hB6,q6⟩:=Zdi hqq.out.1 (by omega) hqq.out.2;rw [hW6];obtain ⟨y0,y1,y2,y3,y4,y5,y6⟩:=Zai (show Blk W6 (w.heap.size + 1) 46 #[.int .i64 0,.int .i64 0,.int .i64 0,.int .i64 0,.int .i64 0,.int .i64 0,.int .i64 0] from q6);refine bodyPost_ret (v:=.tuple #[.agg #[.int .i64 0,.int .i64 0,.int .i64 0,.int .i64 0,.int .i64 0,.int .i64 0,.int .i64 0],.int .i64 E]) (by simp [results,Tryz.results39,go_sem,y0,y1,y2,y3,y4,y5,y6]) rfl ?_;exact ⟨by rw [hM.out.1,hM.out.2];rfl,hB6⟩
 subst h0;have hq:=Za (And.intro q0 q1);clear q0 q1;replace hB1:=Za hB1;go_wp2_with fail;refine (hDr.out w1 hB1.out).mono ?_;rintro e w2 ⟨hb2,hcase⟩;obtain ⟨q0,q1⟩:=hq.out;replace q0:=Zc hb2 q0;replace q1:=Zc hb2 q1;have hB2:=hB1.out.trans (hb2.mono hB1.out.size);clear hq hB1 hb2 c0 c1 c2 c3 c4 c5 c6;obtain ⟨c0,c1,c2,c3,c4,c5,c6⟩:=Zai (show Blk w2 w.heap.size 46 #[.int .i64 s.t,.int .i64 s.p0,.int .i64 s.p1,.int .i64 s.p2,.int .i64 s.v0,.int .i64 s.v1,.int .i64 s.v2] from q0)
 rcases hcase with ⟨hd0,A2,cA2,rfl,hFL⟩ | ⟨hdn,rfl⟩
 case inr =>
  obtain ⟨D,hD⟩ : ∃ D,Za4 rs kk = D:=⟨_,rfl⟩;rw [hD] at hdn;rw [hD];have h0:=hdn
  have t0 : (D == 0) = false:=by simpa using h0
  have t0' : decide (D = 0) = false:=by simpa using h0
  have t0'' : (D != 0) = true:=by rw [bne,t0];rfl
  have hM:=Za (smp_dir (d:=d) hE.out hD h0);replace h0:=Za h0;replace hdn:=Za hdn;replace hD:=Za hD;obtain ⟨f0,f1,f2,f3,f4,f5,f6⟩:=q1.frozen7;obtain ⟨x0,x1,x2,x3,x4,x5,x6⟩:=Zai (show Blk w2 (w.heap.size + 1) 46 #[.int .i64 0,.int .i64 0,.int .i64 0,.int .i64 0,.int .i64 0,.int .i64 0,.int .i64 0] from q1);have hqq:=Za (And.intro hB2 q1);clear hB2 q1 q0;go_wp2_with fail;obtain ⟨W6,hW6,hB6,q6⟩:=Zdi hqq.out.1 (by omega) hqq.out.2;rw [hW6];obtain ⟨y0,y1,y2,y3,y4,y5,y6⟩:=Zai (show Blk W6 (w.heap.size + 1) 46 #[.int .i64 0,.int .i64 0,.int .i64 0,.int .i64 0,.int .i64 0,.int .i64 0,.int .i64 0] from q6);refine bodyPost_ret (v:=.tuple #[.agg #[.int .i64 0,.int .i64 0,.int .i64 0,.int .i64 0,.int .i64 0,.int .i64 0,.int .i64 0],.int .i64 D]) (by simp [results,Tryz.results39,go_sem,y0,y1,y2,y3,y4,y5,y6]) rfl ?_;exact ⟨by rw [hM.out.1,hM.out.2];rfl,hB6⟩
 have hM:=Za (Zjv (s:=s) (d:=d) hE.out hd0);have hcap:=hFL.cap;unfold maxLen at hcap;have hMS:=Za (hS.out hd0);replace hFL:=Za hFL;replace hd0:=Za hd0;have hq:=Za (And.intro q0 q1);clear q0 q1;replace hB2:=Za hB2;go_wp2_with fail;refine (Znz s A2 cA2 _ d w2 hFL.out hMS.out hd1 hd2).mono ?_;rintro e w3 ⟨he,hb3⟩;obtain ⟨Vm,hVm⟩ : ∃ V,movV s (Zce (Zm (qM rs)) kk.toNat) d = V:=⟨_,rfl⟩;obtain ⟨Em,hEm⟩ : ∃ V,movE s (Zce (Zm (qM rs)) kk.toNat) d = V:=⟨_,rfl⟩;rw [hVm,hEm] at he;replace he : e = .returned (.tuple #[.agg #[.int .i64 Vm.t,.int .i64 Vm.p0,.int .i64 Vm.p1,.int .i64 Vm.p2,.int .i64 Vm.v0,.int .i64 Vm.v1,.int .i64 Vm.v2],.int .i64 Em]):=he;subst he;obtain ⟨q0,q1⟩:=hq.out;replace q1:=Zc hb3 q1;have hB3:=hB2.out.trans (hb3.mono hB2.out.size);clear hq hB2 hb3 c0 c1 c2 c3 c4 c5 c6 q0;obtain ⟨f0,f1,f2,f3,f4,f5,f6⟩:=q1.frozen7;obtain ⟨x0,x1,x2,x3,x4,x5,x6⟩:=Zai (show Blk w3 (w.heap.size + 1) 46 #[.int .i64 0,.int .i64 0,.int .i64 0,.int .i64 0,.int .i64 0,.int .i64 0,.int .i64 0] from q1);replace hVm:=Za hVm;replace hEm:=Za hEm;have hqq:=Za (And.intro hB3 q1);clear hB3 q1;go_wp2_with fail;obtain ⟨W6,hW6,hB6,q6⟩:=Zmf Vm hqq.out.1 (by omega) hqq.out.2;rw [hW6];obtain ⟨y0,y1,y2,y3,y4,y5,y6⟩:=Zai (show Blk W6 (w.heap.size + 1) 46 #[.int .i64 Vm.t,.int .i64 Vm.p0,.int .i64 Vm.p1,.int .i64 Vm.p2,.int .i64 Vm.v0,.int .i64 Vm.v1,.int .i64 Vm.v2] from q6)
 refine bodyPost_ret (v:=.tuple #[.agg #[.int .i64 Vm.t,.int .i64 Vm.p0,.int .i64 Vm.p1,.int .i64 Vm.p2,.int .i64 Vm.v0,.int .i64 Vm.v1,.int .i64 Vm.v2],.int .i64 Em]) (by simp [results,Tryz.results39,go_sem,y0,y1,y2,y3,y4,y5,y6]) rfl ?_;exact ⟨by rw [hM.out.1,hM.out.2,hVm.out,hEm.out];rfl,hB6⟩
end Go.Proofs.YtpehacgjclkhmaaGreat
