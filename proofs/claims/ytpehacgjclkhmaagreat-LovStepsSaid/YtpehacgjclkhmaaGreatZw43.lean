/- Reference of covar: Part. The law's unit. The reference's -/
import Derived.Deep.LoopGhost
import Derived.Test.YtpehacgjclkhmaaGreatZw42
set_option maxRecDepth 100000
set_option maxHeartbeats 8000000
set_option linter.unusedSimpArgs false
set_option linter.unusedVariables false
namespace Go.Proofs.YtpehacgjclkhmaaGreat
open Go.RowKit
attribute [local go_sem] Zg
def Zhi (i k : Nat) : Int:=if i + k = 1 then 1 else if i = k then 4 else 0
def Zc4 (i : Nat) : List Rat:=(List.range 6).map fun k=>((Zhi i k : Int) : Rat)
def unitQ : List (List Rat):=(List.range 6).map Zc4
theorem Zjc {i : Nat} : (Zc4 i).length = 6:=by simp [Zc4]
theorem Zgm : unitQ.length = 6:=by simp [unitQ]
theorem Zn1 {i k : Nat} (h : k < 6) : (Zc4 i).take k ++ [((Zhi i k : Int) : Rat)] = (Zc4 i).take (k + 1):=by
 rw [List.take_add_one];unfold Zc4;rw [List.getElem?_map,List.getElem?_range h];rfl
theorem Zne {i : Nat} (h : i < 6) : unitQ.take i ++ [Zc4 i] = unitQ.take (i + 1):=by
 rw [List.take_add_one];unfold unitQ;rw [List.getElem?_map,List.getElem?_range h];rfl
theorem Zor (w : World) :
    Calls Tryz.prog 38 #[] w fun e w'=>∃ v,e = .returned v /\ Below w.heap.size w w' /\ ∃ L,MatOA 23 29 w' w.heap.size v L unitQ:=by
 obtain ⟨iF,hi,hz0,hz1,hz2⟩:=info_parts Zkd;obtain ⟨iS,ki,kz0,kz1,kz2⟩:=info_parts infoRow
 have hts : (23 : TypeId) ≠ 29:=by decide
 go_enter Tryz.func38,Tryz.ntmps38;go_wp2_with fail
 go_loopg [1,2] 6 (fun t ov jv wr=>∃ (j : Nat) (L : List RS),j + t = 6 /\ jv = .int .i64 j /\ Hid (MatOA 23 29 wr w.heap.size ov L (unitQ.take j)) /\ Below w.heap.size w wr)
 case atStart=>exact ⟨0,[],by omega,rfl,Zb (MatOA.nil _ _ _ _),Below.refl _ _⟩
 case round =>
  obtain ⟨wj,rfl⟩ : ∃ x : World,x = wr:=⟨_,rfl⟩;obtain ⟨j,L1,hjk,rfl,hMO,hBj⟩:=hrel;have hLl : Hid (L1.length = j):=Zb (by rw [hMO.out.2.1,List.length_take,Zgm];omega);obtain ⟨oA,on_,oc,rfl⟩:=hMO.out.1.isSlP
  cases gk with
  | zero =>
   obtain rfl : j = 6:=by omega
   have t4 : decide (((6 : Nat) : Int) < 6) = false:=by decide
   go_wp2_with fail;go_ret;exact ⟨_,rfl,hBj,L1,hMO.out⟩
  | succ t =>
   obtain rfl : t = 6 - (j + 1):=by omega
   have hj6 : j < 6:=by omega
   have t4 : decide ((j : Int) < 6) = true:=decide_eq_true (by omega);go_wp2_with fail
   go_loopg [3,4] 6 (fun t rv kv wr=>∃ k : Nat,k + t = 6 /\ kv = .int .i64 k /\ OwnF 29 wr wj.heap.size rv ((Zc4 j).take k) /\ Below wj.heap.size wj wr)
   case atStart=>exact ⟨0,by omega,rfl,by simpa using OwnF.nil 29 wj wj.heap.size,Below.refl _ _⟩
   case round =>
    obtain ⟨wk,rfl⟩ : ∃ x : World,x = wr:=⟨_,rfl⟩;obtain ⟨k,hkm,rfl,hO,hBk⟩:=hrel;have hBjk : Below w.heap.size w wk:=hBj.trans (hBk.mono hBj.size);obtain ⟨rA,rc,e9,hrF⟩:=hO.fl
    have hrl : ((Zc4 j).take k).length = k:=by rw [List.length_take,Zjc];omega
    rw [hrl] at e9 hrF;subst e9
    cases gk with
    | zero =>
     obtain rfl : k = 6:=by omega
     have t5 : decide (((6 : Nat) : Int) < 6) = false:=by decide
     have hMk:=hMO.out.kept hBk
     have hlt : Hid (∀ s ∈ L1,∀ k',s.val.ownBlock = some k' -> k' < wj.heap.size):=Zb (fun s hs k' hk'=>by
      obtain ⟨q,hq,e⟩:=List.getElem_of_mem hs
      exact (hMO.out.2.2.1 q s (by rw [List.getElem?_eq_getElem hq,e])).blt k' hk')
     obtain ⟨Y1,hY1⟩ : ∃ Y,wk.alloc (.cells #[.slice rA 6 rc] 23) = Y:=⟨_,rfl⟩;obtain ⟨gz,hgz⟩ : ∃ g,wk.heap.size = g:=⟨_,rfl⟩
     have hBY : Below wk.heap.size wk Y1:=by rw [<- hY1];exact (Below.refl _ _).alloc (Nat.le_refl _) _
     have hbY : Blk Y1 gz 23 #[.slice rA 6 rc]:=by rw [<- hY1,<- hgz];exact Blk.new _ _ _
     have hMY:=hMk.kept hBY;have hOY:=hO.kept hBY;have hBiY : Below w.heap.size w Y1:=hBjk.trans (hBY.mono hBjk.size)
     have hll : L1.length + 1 <= 1000:=by rw [hLl.out];omega
     have hown:=hMY.1;have hsz:=hBiY.size;replace hO:=Zb hO;replace hMk:=Zb hMk;replace hOY:=Zb hOY;clear hrF;go_wp2_with ((try rw [hY1]);(try rw [hgz]);at_builtin;refine Zf7 _ rfl (.tmp 26) (.tmp 28) 22 rfl w.heap.size 23 iS Tryz.underlying22 ki kz0 kz1 kz2 _ L1 rfl hown _ (some ⟨gz,0,none⟩) 1 1 [⟨rA,6,rc⟩] rfl (Zcy hbY) rfl hll hsz ?_;intro v5 w5 hR5 hg5 hk5);have hM5:=hMY.snoc hts (r:=⟨rA,6,rc⟩) hOY.out hBj.size hlt.out hR5 hg5 hk5;have hB5:=hBiY.grown hg5 hsz (fun k hk=>hown.row_ge k hk);have hfull : (Zc4 j).take 6 = Zc4 j:=List.take_of_length_le (by rw [Zjc];exact Nat.le_refl _);rw [hfull,Zne hj6] at hM5;replace hM5:=Zb hM5
     go_roundg (6 - (j + 1))
     case measure=>omega
     case rel=>exact ⟨j + 1,_,by omega,by go_num,hM5,hB5⟩
    | succ t' =>
     obtain rfl : t' = 6 - (k + 1):=by omega
     have hk6 : k < 6:=by omega
     have t5 : decide ((k : Int) < 6) = true:=decide_eq_true (by omega);have hsc:=Zn1 (i:=j) hk6
     by_cases h1 : j + k = 1
     case pos =>
      have e1 : Zhi j k = 1:=if_pos h1
      have u1 : ((j : Int) == (k : Int)) = false:=by simp;omega
      have u1' : decide ((j : Int) = (k : Int)) = false:=decide_eq_false (by omega);have u1'' : decide (j = k) = false:=decide_eq_false (by omega)
      have u2 : ((j : Int) + (k : Int) == 1) = true:=by simp;omega
      have u2' : decide ((j : Int) + (k : Int) = 1) = true:=decide_eq_true (by omega);rw [e1] at hsc;clear e1;replace h1:=Zb h1;replace hsc:=Zb hsc;have hO1:=Zb hO;clear hrF;go_wp2_with fail;refine (Zbj 1 1 wk (by omega) (by omega) (by omega) (by omega)).mono ?_;rintro e w5 ⟨hb5,bbn,bbA,bbk,bbc,bbm,bbB,bbj,bbd,rfl,bbf⟩;rw [Ze2] at bbf;obtain ⟨Y1,hY1⟩ : ∃ Y,w5.alloc (.cells #[.bool bbn,.slice bbA bbk bbc,.bool bbm,.slice bbB bbj bbd] 29) = Y:=⟨_,rfl⟩;obtain ⟨gz,hgz⟩ : ∃ g,w5.heap.size = g:=⟨_,rfl⟩
      have hBY : Below w5.heap.size w5 Y1:=by rw [<- hY1];exact (Below.refl _ _).alloc (Nat.le_refl _) _
      have hbY : Blk Y1 gz 29 #[.bool bbn,.slice bbA bbk bbc,.bool bbm,.slice bbB bbj bbd]:=by rw [<- hY1,<- hgz];exact Blk.new _ _ _
      have hOY:=(hO1.out.kept hb5).kept hBY;have hfY:=bbf.below hBY;have hjY : Below wj.heap.size wj Y1:=hBk.trans ((hb5.trans (hBY.mono hb5.size)).mono hBk.size);have hsz:=hjY.size
      have hll : ((Zc4 j).take k).length + 1 <= 1000:=by rw [hrl];omega
      replace hsc:=hsc.out;clear hO hO1 bbf hb5;go_wp2_with ((try rw [hY1]);(try rw [hgz]);at_builtin;refine Zas _ rfl (.tmp 21) (.tmp 24) 23 rfl wj.heap.size 29 iF Tryz.underlying23 hi hz0 hz1 hz2 _ _ rfl hOY _ (some ⟨gz,0,none⟩) 1 1 [⟨bbn,bbA,bbk,bbc,bbm,bbB,bbj,bbd,((1 : Int) : Rat)⟩] rfl (Zan _ hbY) rfl (by intro e he;rw [List.mem_singleton] at he;subst he;exact hfY) hll hsz ?_;intro v7 w7 hO7 hg7 hk7);have hj7:=hjY.grown hg7 hsz (fun k hk=>hOY.row_ge k hk);simp only [List.map_cons,List.map_nil] at hO7;rw [hsc] at hO7;replace hO7:=Zb hO7
      go_roundg (6 - (k + 1))
      case measure=>omega
      case rel=>exact ⟨k + 1,by omega,by go_num,hO7.out,hj7⟩
     case neg =>
      have u2 : ((j : Int) + (k : Int) == 1) = false:=by simp;omega
      have u2' : decide ((j : Int) + (k : Int) = 1) = false:=decide_eq_false (by omega)
      by_cases h2 : j = k
      case pos =>
       have e1 : Zhi j k = 4:=by unfold Zhi;rw [if_neg h1,if_pos h2]
       have u1 : ((j : Int) == (k : Int)) = true:=by simp;omega
       have u1' : decide ((j : Int) = (k : Int)) = true:=decide_eq_true (by omega);have u1'' : decide (j = k) = true:=decide_eq_true (by omega);rw [e1] at hsc;clear e1;replace h1:=Zb h1;replace h2:=Zb h2;replace hsc:=Zb hsc;have hO1:=Zb hO;clear hrF;go_wp2_with fail;refine (Zbj 4 1 wk (by omega) (by omega) (by omega) (by omega)).mono ?_;rintro e w5 ⟨hb5,bbn,bbA,bbk,bbc,bbm,bbB,bbj,bbd,rfl,bbf⟩;rw [Ze2] at bbf;obtain ⟨Y1,hY1⟩ : ∃ Y,w5.alloc (.cells #[.bool bbn,.slice bbA bbk bbc,.bool bbm,.slice bbB bbj bbd] 29) = Y:=⟨_,rfl⟩;obtain ⟨gz,hgz⟩ : ∃ g,w5.heap.size = g:=⟨_,rfl⟩
       have hBY : Below w5.heap.size w5 Y1:=by rw [<- hY1];exact (Below.refl _ _).alloc (Nat.le_refl _) _
       have hbY : Blk Y1 gz 29 #[.bool bbn,.slice bbA bbk bbc,.bool bbm,.slice bbB bbj bbd]:=by rw [<- hY1,<- hgz];exact Blk.new _ _ _
       have hOY:=(hO1.out.kept hb5).kept hBY;have hfY:=bbf.below hBY;have hjY : Below wj.heap.size wj Y1:=hBk.trans ((hb5.trans (hBY.mono hb5.size)).mono hBk.size);have hsz:=hjY.size
       have hll : ((Zc4 j).take k).length + 1 <= 1000:=by rw [hrl];omega
       replace hsc:=hsc.out;clear hO hO1 bbf hb5;go_wp2_with ((try rw [hY1]);(try rw [hgz]);at_builtin;refine Zas _ rfl (.tmp 21) (.tmp 24) 23 rfl wj.heap.size 29 iF Tryz.underlying23 hi hz0 hz1 hz2 _ _ rfl hOY _ (some ⟨gz,0,none⟩) 1 1 [⟨bbn,bbA,bbk,bbc,bbm,bbB,bbj,bbd,((4 : Int) : Rat)⟩] rfl (Zan _ hbY) rfl (by intro e he;rw [List.mem_singleton] at he;subst he;exact hfY) hll hsz ?_;intro v7 w7 hO7 hg7 hk7);have hj7:=hjY.grown hg7 hsz (fun k hk=>hOY.row_ge k hk);simp only [List.map_cons,List.map_nil] at hO7;rw [hsc] at hO7;replace hO7:=Zb hO7
       go_roundg (6 - (k + 1))
       case measure=>omega
       case rel=>exact ⟨k + 1,by omega,by go_num,hO7.out,hj7⟩
      case neg =>
       have e1 : Zhi j k = 0:=by unfold Zhi;rw [if_neg h1,if_neg h2]
       have u1 : ((j : Int) == (k : Int)) = false:=by simp;omega
       have u1' : decide ((j : Int) = (k : Int)) = false:=decide_eq_false (by omega);have u1'' : decide (j = k) = false:=decide_eq_false (by omega);rw [e1] at hsc;clear e1;replace h1:=Zb h1;replace h2:=Zb h2;replace hsc:=Zb hsc;have hO1:=Zb hO;clear hrF;go_wp2_with fail;refine (Zbj 0 1 wk (by omega) (by omega) (by omega) (by omega)).mono ?_;rintro e w5 ⟨hb5,bbn,bbA,bbk,bbc,bbm,bbB,bbj,bbd,rfl,bbf⟩;rw [Ze2] at bbf;obtain ⟨Y1,hY1⟩ : ∃ Y,w5.alloc (.cells #[.bool bbn,.slice bbA bbk bbc,.bool bbm,.slice bbB bbj bbd] 29) = Y:=⟨_,rfl⟩;obtain ⟨gz,hgz⟩ : ∃ g,w5.heap.size = g:=⟨_,rfl⟩
       have hBY : Below w5.heap.size w5 Y1:=by rw [<- hY1];exact (Below.refl _ _).alloc (Nat.le_refl _) _
       have hbY : Blk Y1 gz 29 #[.bool bbn,.slice bbA bbk bbc,.bool bbm,.slice bbB bbj bbd]:=by rw [<- hY1,<- hgz];exact Blk.new _ _ _
       have hOY:=(hO1.out.kept hb5).kept hBY;have hfY:=bbf.below hBY;have hjY : Below wj.heap.size wj Y1:=hBk.trans ((hb5.trans (hBY.mono hb5.size)).mono hBk.size);have hsz:=hjY.size
       have hll : ((Zc4 j).take k).length + 1 <= 1000:=by rw [hrl];omega
       replace hsc:=hsc.out;clear hO hO1 bbf hb5;go_wp2_with ((try rw [hY1]);(try rw [hgz]);at_builtin;refine Zas _ rfl (.tmp 21) (.tmp 24) 23 rfl wj.heap.size 29 iF Tryz.underlying23 hi hz0 hz1 hz2 _ _ rfl hOY _ (some ⟨gz,0,none⟩) 1 1 [⟨bbn,bbA,bbk,bbc,bbm,bbB,bbj,bbd,((0 : Int) : Rat)⟩] rfl (Zan _ hbY) rfl (by intro e he;rw [List.mem_singleton] at he;subst he;exact hfY) hll hsz ?_;intro v7 w7 hO7 hg7 hk7);have hj7:=hjY.grown hg7 hsz (fun k hk=>hOY.row_ge k hk);simp only [List.map_cons,List.map_nil] at hO7;rw [hsc] at hO7;replace hO7:=Zb hO7
       go_roundg (6 - (k + 1))
       case measure=>omega
       case rel=>exact ⟨k + 1,by omega,by go_num,hO7.out,hj7⟩
theorem Zn5 (a : Rat) : 0 <= a * a:=by
 rcases Rat.le_total (a:=0) (b:=a) with h | h
 ·exact Rat.mul_nonneg h h
 ·have h1 : 0 <= -a:=by grind
  have h2:=Rat.mul_nonneg h1 h1
  have e : -a * -a = a * a:=by grind
  rw [e] at h2;exact h2
theorem Zge {A : Nat -> Nat -> Rat} {n : Nat} (hA : ∀ i k,i < n -> k < n -> A i k = A k i) (hp : posP A n) {k : Nat} (hk : k < n) : ∀ f t,t + f = k -> 0 < Zab A t k k
 | 0,t,h=>by
  obtain rfl : t = k:=by omega
  exact hp t hk
 | f + 1,t,h=>by
  have h1:=Zge hA hp hk f (t + 1) (by omega);have hd:=hp t (by omega);have h2:=Zic hA (t:=t) (i:=k) (k:=k) (by omega) (Nat.le_refl _) hk (hp.ne (by omega));have h3:=Rat.mul_nonneg (Zn5 (lQ A k t)) (Rat.le_of_lt hd)
  have e : Zab A t k k = Zab A (t + 1) k k + lQ A k t * lQ A k t * dQ A t:=by rw [h2];grind
  rw [e]
  have h6 : Zab A (t + 1) k k <= Zab A (t + 1) k k + lQ A k t * lQ A k t * dQ A t:=by grind
  exact Rat.not_le.1 fun h5=>Rat.not_le.2 h1 (Rat.le_trans h6 h5)
def Zb6 (rs : List RX) (k : Int) : Int:=if Za6 rs = 0 then (if rs.length = 6 then (if 0 <= k /\ k <= 5 then 0 else 2) else 8) else Za6 rs
def Zcm (Q : Nat -> Nat -> Rat) (k : Nat) : List Rat:=(List.range 6).map fun i=>Q i k / Q k k
theorem Zhr {Q : Nat -> Nat -> Rat} {k : Nat} : (Zcm Q k).length = 6:=by simp [Zcm]
theorem Zph {Q : Nat -> Nat -> Rat} {k i : Nat} (h : i < 6) : (Zcm Q k).take i ++ [Q i k / Q k k] = (Zcm Q k).take (i + 1):=by
 rw [List.take_add_one];unfold Zcm;rw [List.getElem?_map,List.getElem?_range h];rfl
theorem Zlh {rs : List RX} {k E : Int} (h : Za6 rs = E) (h0 : E ≠ 0) : Zb6 rs k = E:=by subst h;unfold Zb6;rw [if_neg h0]
theorem Zmh {rs : List RX} {k : Int} (h : Za6 rs = 0) (h6 : rs.length ≠ 6) : Zb6 rs k = 8:=by unfold Zb6;rw [if_pos h,if_neg h6]
theorem Zis {rs : List RX} {k : Int} (h : Za6 rs = 0) (h6 : rs.length = 6) (hk : ¬ (0 <= k /\ k <= 5)) : Zb6 rs k = 2:=by unfold Zb6;rw [if_pos h,if_pos h6,if_neg hk]
theorem dirE_ok {rs : List RX} {k : Int} (h : Za6 rs = 0) (h6 : rs.length = 6) (hk : 0 <= k /\ k <= 5) : Zb6 rs k = 0:=by unfold Zb6;rw [if_pos h,if_pos h6,if_pos hk]
def DirPost (rs : List RX) (k : Int) (w : World) (e : Ending) (w' : World) : Prop:=
 Below w.heap.size w w' /\ ((Zb6 rs k = 0 /\ ∃ A c,e = .returned (.tuple #[.slice A 6 c,.int .i64 0]) /\ FL w' A 6 c (Zcm (Zp (qM rs)) k.toNat)) \/ (Zb6 rs k ≠ 0 /\ e = .returned (.tuple #[.slice none 0 0,.int .i64 (Zb6 rs k)])))
theorem DirPost.fall {rs : List RX} {k : Int} {w w' : World} {E : Int} (hb : Below w.heap.size w w') (h : Zb6 rs k = E) (h0 : E ≠ 0) : DirPost rs k w (.returned (.tuple #[.slice none 0 0,.int .i64 E])) w':=by
 subst h;exact ⟨hb,.inr ⟨h0,rfl⟩⟩
theorem Zec (A : Option Addr) (n c : Nat) (rs : List RX) (kk : Int) (w : World) (h : MXL w A n c rs) (hF : FacC rs) (hk1 : -9223372036854775808 <= kk) (hk2 : kk <= 9223372036854775807) :
    Calls Tryz.prog 29 #[.slice A n c,.int .i64 kk] w (DirPost rs kk w):=by
 obtain ⟨iF,hi,hz0,hz1,hz2⟩:=info_parts Zkd
 have hmx : Tryz.prog.follows .mixedOrders = true:=by kernel_rfl
 have hnl:=Zb h.1;have hnc:=h.2.1;have hcm:=h.2.2.1;unfold maxLen at hcm;obtain ⟨E,hE⟩ : ∃ E,Za6 rs = E:=⟨_,rfl⟩;have hC:=Zb (fun W1 (hb : Below w.heap.size w W1)=>Zm9 A n c rs W1 (h.below hb) hF E hE);have hH:=Zb h;clear h
 by_cases h0 : E = 0
 case neg =>
  have t0 : (E == 0) = false:=by simpa using h0
  have t0' : decide (E = 0) = false:=by simpa using h0
  have t0'' : (E != 0) = true:=by rw [bne,t0];rfl
  have hE0:=Zb h0;have hPE:=Zlh (k:=kk) hE h0;replace hE:=Zb hE;replace h0:=Zb h0;go_enter Tryz.func29,Tryz.ntmps29;go_wp2_with fail;refine (hC.out _ (Below.refl _ _)).mono ?_;rintro e w1 ⟨rfl,hb1⟩;go_wp2_with fail;go_returns;exact DirPost.fall hb1 hPE hE0.out
 subst h0;obtain ⟨hcV,hcS,hcP⟩:=Zng hE;have hM:=Zb (hcV.good hH.out);have hrow : Hid (∀ a,a < n -> ((qM rs)[a]?.getD []).length = n):=Zb (fun a ha=>hcV.row hH.out a ha);have hSm : Hid (∀ a b,Sm (Zp (qM rs) a b)):=Zb (fun a b=>(hcV.small64 hH.out).smC (by decide) a b)
 have hdg : Hid (∀ a,a < n -> Zp (qM rs) a a ≠ 0):=Zb (fun a ha=>by
  have h1:=Zge (A:=Zp (qM rs)) (n:=rs.length) (fun i k hi hk=>symB_iff.1 hcS i k (by unfold qM;rw [List.length_map];exact hi) (by unfold qM;rw [List.length_map];exact hk)) hcP (by rw [hnl.out];exact ha) a 0 (by omega);intro e;have e2 : Zab (Zp (qM rs)) 0 a a = 0:=e
  rw [e2] at h1;exact absurd h1 (by decide))
 have hc0:=Zb hE;clear hE hcV hcS hcP;go_enter Tryz.func29,Tryz.ntmps29;go_wp2_with fail;refine (hC.out _ (Below.refl _ _)).mono ?_;rintro e w1 ⟨rfl,hB1⟩;clear hC
 by_cases hn6 : n = 6
 case neg =>
  have t1 : ((n : Int) == 6) = false:=by simp;omega
  have t1' : ((n : Int) != 6) = true:=by rw [bne,t1];rfl
  have t1'' : decide (n = 6) = false:=by simpa using hn6
  have hPE:=Zmh (k:=kk) hc0.out (by rw [hnl.out];exact hn6);replace hn6:=Zb hn6;go_wp2_with fail;go_returns;exact DirPost.fall hB1 hPE (by decide)
 subst hn6
 by_cases hk0 : kk < 0
 case pos =>
  have t2 : decide (kk < 0) = true:=decide_eq_true hk0;have hPE:=Zis (k:=kk) hc0.out hnl.out (by omega);replace hk0:=Zb hk0;go_wp2_with fail;go_returns;exact DirPost.fall hB1 hPE (by decide)
 have t2 : decide (kk < 0) = false:=decide_eq_false hk0
 by_cases hk5 : 5 < kk
 case pos =>
  have t3 : decide (5 < kk) = true:=decide_eq_true hk5;have hPE:=Zis (k:=kk) hc0.out hnl.out (by omega);replace hk0:=Zb hk0;replace hk5:=Zb hk5;go_wp2_with fail;go_returns;exact DirPost.fall hB1 hPE (by decide)
 have t3 : decide (5 < kk) = false:=decide_eq_false hk5;obtain ⟨k,hkk⟩ : ∃ k : Nat,kk = k:=⟨kk.toNat,by omega⟩;subst hkk
 have hk6 : k < 6:=by omega
 have bk6 : (k : Int) < 6:=by omega
 have bk6' : (k : Int) < ((6 : Nat) : Int):=by omega
 have hPE : Hid (Zb6 rs (k : Int) = 0):=Zb (dirE_ok hc0.out hnl.out (by omega))
 have t1 : (((6 : Nat) : Int) == 6) = true:=by decide
 replace hk0:=Zb hk0;replace hk5:=Zb hk5;have hmk:=Zlv (P:=Tryz.prog) 23 29 Tryz.underlying23 hi hz0 hz1 hz2 6 (by omega) w1;have hOm:=Zjm 29 w1 6 (by unfold maxLen;omega);obtain ⟨V1,hV1⟩ : ∃ V,w1.alloc (.cells (Z3 (List.replicate 6 Zaa)) 29) = V:=⟨_,rfl⟩
 have hBV : Below w1.heap.size w1 V1:=by rw [<- hV1];exact (Below.refl _ _).alloc (Nat.le_refl _) _
 rw [hV1] at hOm hmk;rw [show ((6 : Nat) : Int) = 6 by rfl] at hmk;replace hOm:=Zb hOm;have hBw1:=hB1;go_wp2_with fail;clear hmk
 go_loopg [7,31] 6 (fun t rv iv wr=>∃ i : Nat,i + t = 6 /\ iv = .int .i64 i /\ OwnF 29 wr w1.heap.size rv ((Zcm (Zp (qM rs)) k).take i) /\ Below w1.heap.size w1 wr)
 case atStart=>exact ⟨0,by omega,rfl,by simpa using hOm.out,hBV⟩
 case round =>
  clear hOm hV1 hBV V1;obtain ⟨wi,rfl⟩ : ∃ x : World,x = wr:=⟨_,rfl⟩;obtain ⟨i,hik,rfl,hO,hBi⟩:=hrel;have hBwi : Below w.heap.size w wi:=hBw1.trans (hBi.mono hBw1.size);obtain ⟨rA,rc,e9,hrF⟩:=hO.fl
  have hrl : ((Zcm (Zp (qM rs)) k).take i).length = i:=by rw [List.length_take,Zhr];omega
  rw [hrl] at e9 hrF;subst e9
  cases gk with
  | zero =>
   obtain rfl : i = 6:=by omega
   have t5 : decide (((6 : Nat) : Int) < ((6 : Nat) : Int)) = false:=by decide
   replace hO:=Zb hO;replace hrF:=Zb hrF;go_wp2_with fail;go_returns;refine ⟨hBwi,.inl ⟨hPE.out,_,_,rfl,?_⟩⟩;have h1:=hrF.out;rw [List.take_of_length_le (by rw [Zhr];exact Nat.le_refl _)] at h1;exact h1
  | succ t' =>
   obtain rfl : t' = 6 - (i + 1):=by omega
   have hi6 : i < 6:=by omega
   have t5 : decide ((i : Int) < 6) = true:=decide_eq_true (by omega);have t5' : decide ((i : Int) < ((6 : Nat) : Int)) = true:=decide_eq_true (by omega)
   have bi : (i : Int) < 6:=by omega
   have bi' : (i : Int) < ((6 : Nat) : Int):=by omega
   obtain ⟨g1,o1,A',n',c',rfl,k0,hR⟩:=(hM.out.below hBwi).at_ hi6
   have hn' : n' = 6:=by rw [<- hR.len];exact hrow.out i hi6
   subst hn';have hrcap:=hR.cap;unfold maxLen at hrcap;obtain ⟨g2,o2,xn,xA,xk,xc,xm,xB,xj,xd,rfl,⟨x0,x1,x2,x3⟩,hX⟩:=hR.at_ hk6;obtain ⟨A2,n2,c2,k2,hR2⟩:=(hM.out.below hBwi).atS hk6
   have hn2 : n2 = 6:=by rw [<- hR2.len];exact hrow.out k hk6
   subst hn2;have hrcap2:=hR2.cap;unfold maxLen at hrcap2;obtain ⟨g3,o3,yn,yA,yk,yc,ym,yB,yj,yd,rfl,⟨y0,y1,y2,y3⟩,hY⟩:=hR2.at_ hk6;have eX : ((qM rs)[i]?.getD [])[k]?.getD 0 = Zp (qM rs) i k:=rfl;have eY : ((qM rs)[k]?.getD [])[k]?.getD 0 = Zp (qM rs) k k:=rfl;rw [eX] at hX;rw [eY] at hY;have s1:=hSm.out i k;have s2:=hSm.out k k;have hne0:=Zb (hdg.out k hk6);replace hO:=Zb hO;clear eX eY hR hR2 hrF;go_wp2_with fail;have hSv1 : Hid (∀ wx,Below wi.heap.size wi wx -> wx.cell? ⟨g1,o1 + i,none⟩ = some (.slice (some ⟨g2,o2,none⟩) 6 c') /\ wx.cell? ⟨g2,o2 + k * 4,none⟩ = some (.bool xn) /\ wx.cell? ⟨g2,o2 + k * 4 + 1,none⟩ = some (.slice xA xk xc) /\ wx.cell? ⟨g2,o2 + k * 4 + 2,none⟩ = some (.bool xm) /\ wx.cell? ⟨g2,o2 + k * 4 + 3,none⟩ = some (.slice xB xj xd) /\ wx.cell? ⟨g1,o1 + k,none⟩ = some (.slice (some ⟨g3,o3,none⟩) 6 c2) /\ wx.cell? ⟨g3,o3 + k * 4,none⟩ = some (.bool yn) /\ wx.cell? ⟨g3,o3 + k * 4 + 1,none⟩ = some (.slice yA yk yc) /\ wx.cell? ⟨g3,o3 + k * 4 + 2,none⟩ = some (.bool ym) /\ wx.cell? ⟨g3,o3 + k * 4 + 3,none⟩ = some (.slice yB yj yd)):=Zb (fun wx hbx=>⟨Za hbx k0,Za hbx x0,Za hbx x1,Za hbx x2,Za hbx x3,Za hbx k2,Za hbx y0,Za hbx y1,Za hbx y2,Za hbx y3⟩);have hr1 : Below wi.heap.size wi wi.drew:=Zh (Below.refl _ _) 1;refine wp_heldS [] hmx hSv1 hr1 (fun hxs1=>?_);refine Zsi 11 [0,1,2,3,4,5,6,7,8,9,10] rfl (by kernel_rfl) (hSv1.out _ hr1) ?_
   iterate 11 (refine tk1 (v:=?_) rfl (Or.inl ⟨by kernel_rfl,?_⟩) ?_;rotate_left;(· intro W2 hSw;(try dsimp only at hSw);go_simp;try with_reducible rfl);try simp only [Act.put,putL_a,putL_z,putL_s,putG_a,putG_s,putG_z])
   refine tk0 ?_;refine Zmm [(11,47),(12,35),(13,48),(15,10)] (fun i=>match i with | 12=>[14] | _=>[]) [(11,47),(12,35),(14,49),(13,48),(15,10)] (Zdb wi.heap.size (Zp (qM rs) i k / Zp (qM rs) k k) 11 12 13 14 15 14) 2 (by kernel_rfl) (fun _ _ _ _ _ hb h=>Zll hb h) (fun wx h=>hSv1.out _ (hr1.trans (h.mono hr1.size))) ?hop1 ?hfin1
   case hop1 =>
    intro p hp;simp only [List.mem_cons,List.not_mem_nil,or_false] at hp;simp only [List.map_cons,List.map_nil,Zat,Act.put,putL_a,putL_z,putL_s]
    rcases hp with rfl | rfl | rfl | rfl
    ·intro ν wx hb hP
     have hbx:=hr1.trans (hb.mono hr1.size);refine Zcu (i:=11) rfl (fun K hK=>?_);go_simp;refine (Zmt xn xm yn ym xA xB yA yB xk xc xj xd yk yc yj yd _ _ wx (hX.below hbx) (hY.below hbx) s1 s2 hne0.out).mono ?_;rintro e w5 ⟨hb5,na5,A5,k5,c5,nb5,B5,m5,d5,rfl,hf5⟩;exact hK.out _ _ ⟨_,rfl,(by simp only [Zdb];exact ⟨_,_,_,_,_,_,_,_,rfl,hf5⟩),hb5,trivial⟩
    ·intro ν wx hb hP
     have h0:=hP (11,47) (by simp) (by kernel_rfl);simp only [Zdb] at h0;obtain ⟨na5,A5,k5,c5,nb5,B5,m5,d5,hν,hf5⟩:=h0;rw [hν];refine Zcu (i:=12) rfl (fun K hK=>?_);go_simp;refine hK.out _ _ ⟨_,rfl,(by simp only [Zdb];exact ⟨_,_,_,_,_,_,_,_,rfl,hf5⟩),Below.refl _ _,?_⟩;exact ⟨_,.int .i64 0,rfl,Or.inl ⟨by kernel_rfl,fun W2 _=>by go_simp⟩,by simp [Zdb],trivial⟩
    ·intro ν wx hb hP
     have h0:=hP (12,35) (by simp) (by kernel_rfl);simp only [Zdb] at h0;obtain ⟨na5,A5,k5,c5,nb5,B5,m5,d5,hν,hf5⟩:=h0;rw [hν];refine Zcu (i:=13) rfl (fun K hK=>?_);go_simp;exact hK.out _ _ ⟨_,rfl,(by simp only [Zdb];exact ⟨_,_,_,_,_,_,_,_,rfl,hf5⟩),Below.refl _ _,trivial⟩
    ·intro ν wx hb hP
     refine Zcu (i:=15) rfl (fun K hK=>?_);go_simp;exact hK.out _ _ ⟨_,rfl,(by simp only [Zdb];exact ⟨_,rfl,hb.size,Blk.new _ _ _⟩),(Below.refl _ _).alloc (Nat.le_refl _) _,trivial⟩
   case hfin1 =>
    intro ν wx hb hP;have h0:=hP (11,47) (by simp);have h1:=hP (12,35) (by simp);have h2:=hP (13,48) (by simp);have h3:=hP (14,49) (by simp);have h4:=hP (15,10) (by simp);simp only [Zdb] at h0 h1 h2 h4;obtain ⟨a0,a1,a2,a3,a4,a5,a6,a7,h0,-⟩:=h0;obtain ⟨b0',b1',b2',b3',b4',b5',b6',b7',h1,-⟩:=h1;obtain ⟨bbn,bbA,bbk,bbc,bbm,bbB,bbj,bbd,h2,bbf⟩:=h2;obtain ⟨gbb,h4,kv,qv⟩:=h4;simp only [List.map_cons,List.map_nil,Zat,Act.put,putL_a,putL_z,putL_s];rw [h0,h1,h2,(show ν 49 = Value.int .i64 0 by simpa [Zdb] using h3),h4];clear h0 h1 h2 h3 h4 hP ν;have hbx:=hr1.trans (hb.mono hr1.size);have qv4:=qv.four;have kv2 : wi.heap.size <= gbb:=kv;refine (Zag bbn bbA bbk bbc bbm bbB bbj bbd hbx kv2 qv).elim (fun Zbb hq=>?_);have c0:=qv4.1;have c1':=qv4.2.1;have c2':=qv4.2.2.1;have c3:=qv4.2.2.2.1;have f0:=qv4.2.2.2.2.1;have f1:=qv4.2.2.2.2.2.1;have f2:=qv4.2.2.2.2.2.2.1;have f3:=qv4.2.2.2.2.2.2.2;have hZ:=hq.1;refine Ze (i:=16) rfl (by kernel_rfl) (fun K hK=>?_);go_simp;(try rw [hZ]);refine hK.out _ _ (fun _=>hSv1.out _ hq.2.1) ?_;clear hK K
    try simp only [Act.put,putL_a,putL_z,putL_s]
    refine Zsh 1 [17] rfl (by kernel_rfl) (hSv1.out _ hq.2.1) ?_
    (refine tk1 (v:=?_) rfl (Or.inl ⟨by kernel_rfl,?_⟩) ?_;rotate_left;(· intro W2 _;go_simp;try with_reducible rfl);try simp only [Act.put,putL_a,putL_z,putL_s,putG_a,putG_s,putG_z])
    refine tk0 ?_;refine Zj (by kernel_rfl) ?_ _;refine OnlyNormal.normal ?_;have hbZbb:=hq.2.1;have bbb:=Zb hq.2.2.1;replace bbf:=Zb (Fr.keep bbf hq.2.2.2.1);clear hq hZ c0 c1' c2' c3 f0 f1 f2 f3 qv4 qv kv hbx hb hr1 hSv1 hxs1;obtain ⟨z0,z1,z2,z3,-⟩:=bbb.out.four;obtain ⟨Y1,hY1⟩ : ∃ Y,Zbb.alloc (.cells #[.bool bbn,.slice bbA bbk bbc,.bool bbm,.slice bbB bbj bbd] 29) = Y:=⟨_,rfl⟩;obtain ⟨gz,hgz⟩ : ∃ g,Zbb.heap.size = g:=⟨_,rfl⟩
    have hBY : Below Zbb.heap.size Zbb Y1:=by rw [<- hY1];exact (Below.refl _ _).alloc (Nat.le_refl _) _
    have hbY : Blk Y1 gz 29 #[.bool bbn,.slice bbA bbk bbc,.bool bbm,.slice bbB bbj bbd]:=by rw [<- hY1,<- hgz];exact Blk.new _ _ _
    have hOY:=(hO.out.kept hbZbb).kept hBY;have hfY:=bbf.out.below hBY;have hjY : Below w1.heap.size w1 Y1:=hBi.trans ((hbZbb.trans (hBY.mono hbZbb.size)).mono hBi.size);have hsz:=hjY.size
    have hll : ((Zcm (Zp (qM rs)) k).take i).length + 1 <= 1000:=by rw [hrl];omega
    have hsc:=Zph (Q:=Zp (qM rs)) (k:=k) hi6;go_wp2_with ((try rw [hY1]);(try rw [hgz]);at_builtin;refine Zas _ rfl (.tmp 50) (.tmp 52) 23 rfl w1.heap.size 29 iF Tryz.underlying23 hi hz0 hz1 hz2 _ _ rfl hOY _ (some ⟨gz,0,none⟩) 1 1 [⟨bbn,bbA,bbk,bbc,bbm,bbB,bbj,bbd,Zp (qM rs) i k / Zp (qM rs) k k⟩] rfl (Zan _ hbY) rfl (by intro e he;rw [List.mem_singleton] at he;subst he;exact hfY) hll hsz ?_;intro v7 w7 hO7 hg7 hk7);have hj7:=hjY.grown hg7 hsz (fun k hk=>hOY.row_ge k hk);simp only [List.map_cons,List.map_nil] at hO7;rw [hsc] at hO7;replace hO7:=Zb hO7
    go_roundg (6 - (i + 1))
    case measure=>omega
    case rel=>exact ⟨i + 1,by omega,by go_num,hO7.out,hj7⟩
def calmL (rs : List RX) : Prop:=rs.length <= 10 /\ fewM 3 rs
theorem Zkm (A : Option Addr) (n c : Nat) (rs : List RX) (w : World) (h : MXL w A n c rs) :
    Calls Tryz.prog 19 #[.slice A n c] w fun e w'=>∃ b,e = .returned (.bool b) /\ Below w.heap.size w w' /\ (b = false -> calmL rs):=by
 have hl:=h.1;have hnc:=h.2.1;have hcm:=h.2.2.1;unfold maxLen at hcm;replace h:=Zb h;replace hl:=Zb hl;go_enter Tryz.func19,Tryz.ntmps19;go_wp2_with fail
 go_loopg [3] n (fun k iv wr=>∃ i : Nat,i + k = n /\ i <= 10 /\ iv = .int .i64 i /\ Hid (∀ a r,a < i -> rs[a]? = some r -> ∀ e ∈ r.es,e.few <= 3 \/ 64 < e.few) /\ Below w.heap.size w wr)
 case atStart=>exact ⟨0,by omega,by omega,rfl,Zb (fun a r ha=>by omega),Below.refl _ _⟩
 case round =>
  obtain ⟨w0,rfl⟩ : ∃ x : World,x = wr:=⟨_,rfl⟩;obtain ⟨i,hik,hi10,rfl,hc,hB⟩:=hrel
  by_cases hin : i < n
  case neg =>
   have t1 : decide ((i : Int) < (n : Int)) = false:=decide_eq_false (by omega)
   have hn10 : n <= 10:=by omega
   have hcc : Hid (fewM 3 rs):=Zb (fun r hr=>by
    obtain ⟨a,ha,e⟩:=List.getElem_of_mem hr
    exact hc.out a r (by rw [hl.out] at ha;omega) (by rw [List.getElem?_eq_getElem ha,e]))
   have u10 : decide ((10 : Int) < (n : Int)) = false:=decide_eq_false (by omega);go_wp2_with fail;go_ret;exact ⟨_,rfl,hB,fun _=>⟨by rw [hl.out];exact hn10,hcc.out⟩⟩
  have t1 : decide ((i : Int) < (n : Int)) = true:=decide_eq_true (by omega)
  by_cases hi10' : i < 10
  case neg =>
   have t2 : decide ((i : Int) < 10) = false:=decide_eq_false (by omega);have t2' : decide (i < 10) = false:=decide_eq_false (by omega);have u10 : decide ((10 : Int) < (n : Int)) = true:=decide_eq_true (by omega);go_wp2_with fail;go_ret;exact ⟨_,rfl,hB,fun hf=>absurd hf (by decide)⟩
  have t2 : decide ((i : Int) < 10) = true:=decide_eq_true (by omega);have t2' : decide (i < 10) = true:=decide_eq_true (by omega);obtain ⟨gk',rfl⟩ : ∃ j,gk = j + 1:=⟨gk - 1,by omega⟩
  obtain rfl : gk' = n - (i + 1):=by omega
  have bi : (i : Int) < (n : Int):=by omega
  obtain ⟨g,o,⟨rA,rn,rc,es⟩,rfl,hr,k0,hF⟩:=(h.out.below hB).at_ hin;simp only at k0 hF;have hrl:=Nat.le_trans hF.2.1 hF.2.2.1;unfold maxLen at hrl;have hes : Hid (es.length = rn):=Zb hF.1;have hrowF:=Zb hF;replace hr:=Zb hr;clear hF
  by_cases h10 : 10 < rn
  ·have u10 : decide ((10 : Int) < (rn : Int)) = true:=decide_eq_true (by omega)
   go_wp2_with fail;go_ret;exact ⟨_,rfl,hB,fun hf=>absurd hf (by decide)⟩
  have u10 : decide ((10 : Int) < (rn : Int)) = false:=decide_eq_false (by omega);go_wp2_with fail
  go_loopg [4] rn (fun k iv wr=>∃ j : Nat,j + k = rn /\ iv = .int .i64 j /\ Hid (∀ a e,a < j -> es[a]? = some e -> e.few <= 3 \/ 64 < e.few) /\ Below w0.heap.size w0 wr)
  case atStart=>exact ⟨0,by omega,rfl,Zb (fun a e ha=>by omega),Below.refl _ _⟩
  case round =>
   obtain ⟨wx,rfl⟩ : ∃ x : World,x = wr:=⟨_,rfl⟩;obtain ⟨j,hjk,rfl,hce,hB2⟩:=hrel;have k1:=Za hB2 k0;have hBx:=Zb (hB.trans (hB2.mono hB.size))
   cases gk with
   | zero =>
    obtain rfl : rn = j:=by omega
    have t3 : decide ((rn : Int) < (rn : Int)) = false:=by simp
    have hc2 : Hid (∀ a x,a < i + 1 -> rs[a]? = some x -> ∀ e ∈ x.es,e.few <= 3 \/ 64 < e.few):=Zb (fun a x ha hx=>by
     by_cases he : a = i
     ·subst he
      rw [hr.out] at hx
      cases hx
      intro e he;obtain ⟨t,ht,hte⟩:=List.getElem_of_mem he;exact hce.out t e (by rw [hes.out] at ht;exact ht) (by rw [List.getElem?_eq_getElem ht,hte])
     ·exact hc.out a x (by omega) hx)
    go_wp2_with fail
    go_roundg (n - (i + 1))
    case measure=>omega
    case rel=>exact ⟨i + 1,by omega,by omega,by go_num,hc2,hBx.out⟩
   | succ gk' =>
    obtain rfl : gk' = rn - (j + 1):=by omega
    have hjn : j < rn:=by omega
    have t3 : decide ((j : Int) < (rn : Int)) = true:=decide_eq_true (by omega)
    have bj : (j : Int) < (rn : Int):=by omega
    obtain ⟨g2,o2,e,hA2,hee,⟨c0,c1,c2,c3⟩,hLa,hLb⟩:=(hrowF.out.below hB2).at_ hjn;rw [hA2] at k1;replace hA2:=Zb hA2;have hn1:=Nat.le_trans hLa.2.1 hLa.2.2.1;have hm1:=Nat.le_trans hLb.2.1 hLb.2.2.1;have hFw:=Zb (fun W1=>Few_any e.na e.nb e.A e.B e.n e.c e.m e.d W1 hn1 hm1);obtain ⟨f,hf⟩ : ∃ f,max e.n e.m = f:=⟨_,rfl⟩
    have hff : f <= 9223372036854775807:=by unfold maxLen at hn1 hm1;omega
    rw [hf] at hFw;have hfe : Hid (e.few = f):=Zb hf;replace hee:=Zb hee;replace hf:=Zb hf;clear hLa hLb hn1 hm1;go_wp2_with fail;refine (hFw.out _).mono ?_;rintro e2 w5 ⟨rfl,hb5⟩;have hB5:=hB2.trans (hb5.mono hB2.size);have hB6:=Zb (hBx.out.trans (hb5.mono hBx.out.size));clear c0 c1 c2 c3 k1
    by_cases f4 : 3 < f
    ·have x4 : decide ((3 : Int) < (f : Int)) = true:=decide_eq_true (by omega)
     by_cases f64 : f <= 64
     ·have x64 : decide ((f : Int) <= 64) = true:=decide_eq_true (by omega)
      go_wp2_with fail;go_ret;exact ⟨_,rfl,hB6.out,fun hf=>absurd hf (by decide)⟩
     have x64 : decide ((f : Int) <= 64) = false:=decide_eq_false (by omega)
     by_cases f70 : 70 < f
     ·have x70 : decide ((70 : Int) < (f : Int)) = true:=decide_eq_true (by omega)
      go_wp2_with fail;go_ret;exact ⟨_,rfl,hB6.out,fun hf=>absurd hf (by decide)⟩
     have x70 : decide ((70 : Int) < (f : Int)) = false:=decide_eq_false (by omega)
     have hce2 : Hid (∀ a e,a < j + 1 -> es[a]? = some e -> e.few <= 3 \/ 64 < e.few):=Zb (fun a x ha hx=>by
      by_cases he : a = j
      ·subst he
       rw [hee.out] at hx
       cases hx
       rw [hfe.out];omega
      ·exact hce.out a x (by omega) hx)
     go_wp2_with fail
     go_roundg (rn - (j + 1))
     case measure=>omega
     case rel=>exact ⟨j + 1,by omega,by go_num,hce2,hB5⟩
    ·have x4 : decide ((3 : Int) < (f : Int)) = false:=decide_eq_false (by omega)
     have x70 : decide ((70 : Int) < (f : Int)) = false:=decide_eq_false (by omega)
     have hce2 : Hid (∀ a e,a < j + 1 -> es[a]? = some e -> e.few <= 3 \/ 64 < e.few):=Zb (fun a x ha hx=>by
      by_cases he : a = j
      ·subst he
       rw [hee.out] at hx
       cases hx
       rw [hfe.out];omega
      ·exact hce.out a x (by omega) hx)
     go_wp2_with fail
     go_roundg (rn - (j + 1))
     case measure=>omega
     case rel=>exact ⟨j + 1,by omega,by go_num,hce2,hB5⟩
end Go.Proofs.YtpehacgjclkhmaaGreat
