/- The law's part and rest. Package covar: Part. Reference of -/
import Derived.Deep.LoopGhost
import Derived.Test.YtpehacgjclkhmaaGreatZx43
set_option maxRecDepth 100000
set_option maxHeartbeats 8000000
set_option linter.unusedSimpArgs false
set_option linter.unusedVariables false
namespace Go.Proofs.YtpehacgjclkhmaaGreat
open Go.RowKit
attribute [local go_sem] Zg
theorem Zbs (x y : Int) (w : World) (hx1 : -9223372036854775808 <= x) (hx2 : x <= 9223372036854775807) (h0 : 0 < y) (hy : y <= 9223372036854775807) :
    Calls Tryz.prog 24 #[.int .i64 x,.int .i64 y] w (Zcu w (Rat.divInt x y)):=by
 obtain ⟨W0,hW0,hB0,q0,s0⟩:=Zai w 29 #[.bool false,.slice none 0 0,.bool false,.slice none 0 0];have hOf:=Zb (fun W=>rOf_pos x y W hx1 hx2 h0 hy);replace hW0:=Zb hW0;replace q0:=Zb q0;go_enter Tryz.func24,Tryz.ntmps24;have hW0':=hW0.out;go_wp2_with fail;clear hW0 hW0';refine (hOf.out W0).mono ?_;rintro e w1 ⟨hb1,pn,pA,pk,pc,pm,pB,pj,pd,rfl,hf⟩;have q1:=(Zc hb1 q0.out).alloc (.cells #[.bool pn,.slice pA pk pc,.bool pm,.slice pB pj pd] 29);have q5 : Blk (w1.alloc (.cells #[.bool pn,.slice pA pk pc,.bool pm,.slice pB pj pd] 29)) w1.heap.size 29 #[.bool pn,.slice pA pk pc,.bool pm,.slice pB pj pd]:=Blk.new _ _ _;have hB1:=(hB0.trans (hb1.mono hB0.size)).alloc (by have:=hB0.size;have:=hb1.size;omega) (.cells #[.bool pn,.slice pA pk pc,.bool pm,.slice pB pj pd] 29);have hf1:=hf.alloc (.cells #[.bool pn,.slice pA pk pc,.bool pm,.slice pB pj pd] 29);obtain ⟨c0,c1,c2,c3,f0,f1,f2,f3⟩:=q1.four;obtain ⟨v0,v1,v2,v3,-⟩:=q5.four;replace hf1:=Zb hf1;replace hB1:=Zb hB1;replace q1:=Zb q1;clear q0 q5 hb1 hf hB0;go_wp2_with fail;obtain ⟨W5,hW5,hB5,q6,kW,-,s5⟩:=Z6 pn pA pk pc pm pB pj pd hB1.out (Nat.le_refl _) q1.out;rw [hW5];obtain ⟨r0,r1,r2,r3,-⟩:=q6.four;refine bodyPost_ret (v:=.agg #[.bool pn,.slice pA pk pc,.bool pm,.slice pB pj pd]) (by simp [results,Tryz.results24,go_sem,r0,r1,r2,r3]) rfl ?_;exact ⟨hB5,_,_,_,_,_,_,_,_,rfl,kW _ _ _ _ _ hf1.out.1,kW _ _ _ _ _ hf1.out.2⟩
theorem Zie (w : World) :
    Calls Tryz.prog 40 #[] w fun e w'=>e = .returned (.agg #[.int .i64 0,.int .i64 1099511627776,.int .i64 0,.int .i64 0,.int .i64 0,.int .i64 0,.int .i64 0]) /\ Below w.heap.size w w':=by
 have q0 : Blk (w.alloc (.cells #[.int .i64 0,.int .i64 1099511627776,.int .i64 0,.int .i64 0,.int .i64 0,.int .i64 0,.int .i64 0] 46)) w.heap.size 46 #[.int .i64 0,.int .i64 1099511627776,.int .i64 0,.int .i64 0,.int .i64 0,.int .i64 0,.int .i64 0]:=Blk.new _ _ _
 have hB0 : ∀ X : Obj,Below w.heap.size w (w.alloc X):=fun X=>(Below.refl w.heap.size w).alloc (Nat.le_refl _) _
 replace hB0:=Zb hB0;replace q0:=Zb q0;go_enter Tryz.func40,Tryz.ntmps40;go_wp2_with fail;obtain ⟨y0,y1,y2,y3,y4,y5,y6⟩:=Zca q0.out;refine bodyPost_ret (v:=.agg #[.int .i64 0,.int .i64 1099511627776,.int .i64 0,.int .i64 0,.int .i64 0,.int .i64 0,.int .i64 0]) (by simp [results,Tryz.results40,go_sem,y0,y1,y2,y3,y4,y5,y6]) rfl ?_;exact ⟨rfl,hB0.out _⟩
theorem RowS.isSlP {t : TypeId} {w : World} {base : Nat} {v : Value} {rs : List RS} (h : RowS t w base v rs) : ∃ A n c,v = .slice A n c:=by
 rcases h with ⟨rfl,_⟩ | ⟨g,sp,rfl,_⟩
 ·exact ⟨_,_,_,rfl⟩
 ·exact ⟨_,_,_,rfl⟩
def Zih (i k : Nat) : Int:=if i + k = 1 then 1 else if i = k then 4 else 0
def Zdx (i : Nat) : List Rat:=(List.range 6).map fun k=>((Zih i k : Int) : Rat)
def unitQ : List (List Rat):=(List.range 6).map Zdx
theorem Zkf {i : Nat} : (Zdx i).length = 6:=by simp [Zdx]
theorem Zhl : unitQ.length = 6:=by simp [unitQ]
theorem Zpy {i k : Nat} (h : k < 6) : (Zdx i).take k ++ [((Zih i k : Int) : Rat)] = (Zdx i).take (k + 1):=by
 rw [List.take_add_one];unfold Zdx;rw [List.getElem?_map,List.getElem?_range h];rfl
theorem Zpb {i : Nat} (h : i < 6) : unitQ.take i ++ [Zdx i] = unitQ.take (i + 1):=by
 rw [List.take_add_one];unfold unitQ;rw [List.getElem?_map,List.getElem?_range h];rfl
theorem Zqu (w : World) :
    Calls Tryz.prog 38 #[] w fun e w'=>∃ v,e = .returned v /\ Below w.heap.size w w' /\ ∃ L,MatOA 23 29 w' w.heap.size v L unitQ:=by
 obtain ⟨iF,hi,hz0,hz1,hz2⟩:=info_parts Zfm;obtain ⟨iS,ki,kz0,kz1,kz2⟩:=info_parts Zqy
 have hts : (23 : TypeId) ≠ 29:=by decide
 go_enter Tryz.func38,Tryz.ntmps38;go_wp2_with fail
 go_loopg [1,2] 6 (fun t ov jv wr=>∃ (j : Nat) (L : List RS),j + t = 6 /\ jv = .int .i64 j /\ Hid (MatOA 23 29 wr w.heap.size ov L (unitQ.take j)) /\ Below w.heap.size w wr)
 case atStart=>exact ⟨0,[],by omega,rfl,Zb (MatOA.nil _ _ _ _),Below.refl _ _⟩
 case round =>
  obtain ⟨wj,rfl⟩ : ∃ x : World,x = wr:=⟨_,rfl⟩;obtain ⟨j,L1,hjk,rfl,hMO,hBj⟩:=hrel;have hLl : Hid (L1.length = j):=Zb (by rw [hMO.out.2.1,List.length_take,Zhl];omega);obtain ⟨oA,on_,oc,rfl⟩:=hMO.out.1.isSlP
  cases gk with
  | zero =>
   obtain rfl : j = 6:=by omega
   have t4 : decide (((6 : Nat) : Int) < 6) = false:=by decide
   go_wp2_with fail;go_ret;exact ⟨_,rfl,hBj,L1,hMO.out⟩
  | succ t =>
   obtain rfl : t = 6 - (j + 1):=by omega
   have hj6 : j < 6:=by omega
   have t4 : decide ((j : Int) < 6) = true:=decide_eq_true (by omega);go_wp2_with fail
   go_loopg [3,4] 6 (fun t rv kv wr=>∃ k : Nat,k + t = 6 /\ kv = .int .i64 k /\ OwnF 29 wr wj.heap.size rv ((Zdx j).take k) /\ Below wj.heap.size wj wr)
   case atStart=>exact ⟨0,by omega,rfl,by simpa using OwnF.nil 29 wj wj.heap.size,Below.refl _ _⟩
   case round =>
    obtain ⟨wk,rfl⟩ : ∃ x : World,x = wr:=⟨_,rfl⟩;obtain ⟨k,hkm,rfl,hO,hBk⟩:=hrel;have hBjk : Below w.heap.size w wk:=hBj.trans (hBk.mono hBj.size);obtain ⟨rA,rc,e9,hrF⟩:=hO.fl
    have hrl : ((Zdx j).take k).length = k:=by rw [List.length_take,Zkf];omega
    rw [hrl] at e9 hrF;subst e9
    cases gk with
    | zero =>
     obtain rfl : k = 6:=by omega
     have t5 : decide (((6 : Nat) : Int) < 6) = false:=by decide
     have hMk:=hMO.out.kept hBk
     have hlt : Hid (∀ s ∈ L1,∀ k',s.val.ownBlock = some k' -> k' < wj.heap.size):=Zb (fun s hs k' hk'=>by
      obtain ⟨q,hq,e⟩:=List.getElem_of_mem hs
      exact (hMO.out.2.2.1 q s (by rw [List.getElem?_eq_getElem hq,e])).blt k' hk')
     obtain ⟨Y1,hY1⟩ : ∃ Y,wk.alloc (.cells #[.slice rA 6 rc] 23) = Y:=⟨_,rfl⟩;obtain ⟨gz,hgz⟩ : ∃ g,wk.heap.size = g:=⟨_,rfl⟩
     have hBY : Below wk.heap.size wk Y1:=by rw [<- hY1];exact (Below.refl _ _).alloc (Nat.le_refl _) _
     have hbY : Blk Y1 gz 23 #[.slice rA 6 rc]:=by rw [<- hY1,<- hgz];exact Blk.new _ _ _
     have hMY:=hMk.kept hBY;have hOY:=hO.kept hBY;have hBiY : Below w.heap.size w Y1:=hBjk.trans (hBY.mono hBjk.size)
     have hll : L1.length + 1 <= 1000:=by rw [hLl.out];omega
     have hown:=hMY.1;have hsz:=hBiY.size;replace hO:=Zb hO;replace hMk:=Zb hMk;replace hOY:=Zb hOY;clear hrF;go_wp2_with ((try rw [hY1]);(try rw [hgz]);at_builtin;refine Zg8 _ rfl (.tmp 26) (.tmp 28) 22 rfl w.heap.size 23 iS Tryz.underlying22 ki kz0 kz1 kz2 _ L1 rfl hown _ (some ⟨gz,0,none⟩) 1 1 [⟨rA,6,rc⟩] rfl (Zdr hbY) rfl hll hsz ?_;intro v5 w5 hR5 hg5 hk5);have hM5:=hMY.snoc hts (r:=⟨rA,6,rc⟩) hOY.out hBj.size hlt.out hR5 hg5 hk5;have hB5:=hBiY.grown hg5 hsz (fun k hk=>hown.row_ge k hk);have hfull : (Zdx j).take 6 = Zdx j:=List.take_of_length_le (by rw [Zkf];exact Nat.le_refl _);rw [hfull,Zpb hj6] at hM5;replace hM5:=Zb hM5
     go_roundg (6 - (j + 1))
     case measure=>omega
     case rel=>exact ⟨j + 1,_,by omega,by go_num,hM5,hB5⟩
    | succ t' =>
     obtain rfl : t' = 6 - (k + 1):=by omega
     have hk6 : k < 6:=by omega
     have t5 : decide ((k : Int) < 6) = true:=decide_eq_true (by omega);have hsc:=Zpy (i:=j) hk6
     by_cases h1 : j + k = 1
     case pos =>
      have e1 : Zih j k = 1:=if_pos h1
      have u1 : ((j : Int) == (k : Int)) = false:=by simp;omega
      have u1' : decide ((j : Int) = (k : Int)) = false:=decide_eq_false (by omega);have u1'' : decide (j = k) = false:=decide_eq_false (by omega)
      have u2 : ((j : Int) + (k : Int) == 1) = true:=by simp;omega
      have u2' : decide ((j : Int) + (k : Int) = 1) = true:=decide_eq_true (by omega);rw [e1] at hsc;clear e1;replace h1:=Zb h1;replace hsc:=Zb hsc;have hO1:=Zb hO;clear hrF;go_wp2_with fail;refine (Zbs 1 1 wk (by omega) (by omega) (by omega) (by omega)).mono ?_;rintro e w5 ⟨hb5,bbn,bbA,bbk,bbc,bbm,bbB,bbj,bbd,rfl,bbf⟩;rw [Zfy] at bbf;obtain ⟨Y1,hY1⟩ : ∃ Y,w5.alloc (.cells #[.bool bbn,.slice bbA bbk bbc,.bool bbm,.slice bbB bbj bbd] 29) = Y:=⟨_,rfl⟩;obtain ⟨gz,hgz⟩ : ∃ g,w5.heap.size = g:=⟨_,rfl⟩
      have hBY : Below w5.heap.size w5 Y1:=by rw [<- hY1];exact (Below.refl _ _).alloc (Nat.le_refl _) _
      have hbY : Blk Y1 gz 29 #[.bool bbn,.slice bbA bbk bbc,.bool bbm,.slice bbB bbj bbd]:=by rw [<- hY1,<- hgz];exact Blk.new _ _ _
      have hOY:=(hO1.out.kept hb5).kept hBY;have hfY:=bbf.below hBY;have hjY : Below wj.heap.size wj Y1:=hBk.trans ((hb5.trans (hBY.mono hb5.size)).mono hBk.size);have hsz:=hjY.size
      have hll : ((Zdx j).take k).length + 1 <= 1000:=by rw [hrl];omega
      replace hsc:=hsc.out;clear hO hO1 bbf hb5;go_wp2_with ((try rw [hY1]);(try rw [hgz]);at_builtin;refine Zac _ rfl (.tmp 21) (.tmp 24) 23 rfl wj.heap.size 29 iF Tryz.underlying23 hi hz0 hz1 hz2 _ _ rfl hOY _ (some ⟨gz,0,none⟩) 1 1 [⟨bbn,bbA,bbk,bbc,bbm,bbB,bbj,bbd,((1 : Int) : Rat)⟩] rfl (Zad _ hbY) rfl (by intro e he;rw [List.mem_singleton] at he;subst he;exact hfY) hll hsz ?_;intro v7 w7 hO7 hg7 hk7);have hj7:=hjY.grown hg7 hsz (fun k hk=>hOY.row_ge k hk);simp only [List.map_cons,List.map_nil] at hO7;rw [hsc] at hO7;replace hO7:=Zb hO7
      go_roundg (6 - (k + 1))
      case measure=>omega
      case rel=>exact ⟨k + 1,by omega,by go_num,hO7.out,hj7⟩
     case neg =>
      have u2 : ((j : Int) + (k : Int) == 1) = false:=by simp;omega
      have u2' : decide ((j : Int) + (k : Int) = 1) = false:=decide_eq_false (by omega)
      by_cases h2 : j = k
      case pos =>
       have e1 : Zih j k = 4:=by unfold Zih;rw [if_neg h1,if_pos h2]
       have u1 : ((j : Int) == (k : Int)) = true:=by simp;omega
       have u1' : decide ((j : Int) = (k : Int)) = true:=decide_eq_true (by omega);have u1'' : decide (j = k) = true:=decide_eq_true (by omega);rw [e1] at hsc;clear e1;replace h1:=Zb h1;replace h2:=Zb h2;replace hsc:=Zb hsc;have hO1:=Zb hO;clear hrF;go_wp2_with fail;refine (Zbs 4 1 wk (by omega) (by omega) (by omega) (by omega)).mono ?_;rintro e w5 ⟨hb5,bbn,bbA,bbk,bbc,bbm,bbB,bbj,bbd,rfl,bbf⟩;rw [Zfy] at bbf;obtain ⟨Y1,hY1⟩ : ∃ Y,w5.alloc (.cells #[.bool bbn,.slice bbA bbk bbc,.bool bbm,.slice bbB bbj bbd] 29) = Y:=⟨_,rfl⟩;obtain ⟨gz,hgz⟩ : ∃ g,w5.heap.size = g:=⟨_,rfl⟩
       have hBY : Below w5.heap.size w5 Y1:=by rw [<- hY1];exact (Below.refl _ _).alloc (Nat.le_refl _) _
       have hbY : Blk Y1 gz 29 #[.bool bbn,.slice bbA bbk bbc,.bool bbm,.slice bbB bbj bbd]:=by rw [<- hY1,<- hgz];exact Blk.new _ _ _
       have hOY:=(hO1.out.kept hb5).kept hBY;have hfY:=bbf.below hBY;have hjY : Below wj.heap.size wj Y1:=hBk.trans ((hb5.trans (hBY.mono hb5.size)).mono hBk.size);have hsz:=hjY.size
       have hll : ((Zdx j).take k).length + 1 <= 1000:=by rw [hrl];omega
       replace hsc:=hsc.out;clear hO hO1 bbf hb5;go_wp2_with ((try rw [hY1]);(try rw [hgz]);at_builtin;refine Zac _ rfl (.tmp 21) (.tmp 24) 23 rfl wj.heap.size 29 iF Tryz.underlying23 hi hz0 hz1 hz2 _ _ rfl hOY _ (some ⟨gz,0,none⟩) 1 1 [⟨bbn,bbA,bbk,bbc,bbm,bbB,bbj,bbd,((4 : Int) : Rat)⟩] rfl (Zad _ hbY) rfl (by intro e he;rw [List.mem_singleton] at he;subst he;exact hfY) hll hsz ?_;intro v7 w7 hO7 hg7 hk7);have hj7:=hjY.grown hg7 hsz (fun k hk=>hOY.row_ge k hk);simp only [List.map_cons,List.map_nil] at hO7;rw [hsc] at hO7;replace hO7:=Zb hO7
       go_roundg (6 - (k + 1))
       case measure=>omega
       case rel=>exact ⟨k + 1,by omega,by go_num,hO7.out,hj7⟩
      case neg =>
       have e1 : Zih j k = 0:=by unfold Zih;rw [if_neg h1,if_neg h2]
       have u1 : ((j : Int) == (k : Int)) = false:=by simp;omega
       have u1' : decide ((j : Int) = (k : Int)) = false:=decide_eq_false (by omega);have u1'' : decide (j = k) = false:=decide_eq_false (by omega);rw [e1] at hsc;clear e1;replace h1:=Zb h1;replace h2:=Zb h2;replace hsc:=Zb hsc;have hO1:=Zb hO;clear hrF;go_wp2_with fail;refine (Zbs 0 1 wk (by omega) (by omega) (by omega) (by omega)).mono ?_;rintro e w5 ⟨hb5,bbn,bbA,bbk,bbc,bbm,bbB,bbj,bbd,rfl,bbf⟩;rw [Zfy] at bbf;obtain ⟨Y1,hY1⟩ : ∃ Y,w5.alloc (.cells #[.bool bbn,.slice bbA bbk bbc,.bool bbm,.slice bbB bbj bbd] 29) = Y:=⟨_,rfl⟩;obtain ⟨gz,hgz⟩ : ∃ g,w5.heap.size = g:=⟨_,rfl⟩
       have hBY : Below w5.heap.size w5 Y1:=by rw [<- hY1];exact (Below.refl _ _).alloc (Nat.le_refl _) _
       have hbY : Blk Y1 gz 29 #[.bool bbn,.slice bbA bbk bbc,.bool bbm,.slice bbB bbj bbd]:=by rw [<- hY1,<- hgz];exact Blk.new _ _ _
       have hOY:=(hO1.out.kept hb5).kept hBY;have hfY:=bbf.below hBY;have hjY : Below wj.heap.size wj Y1:=hBk.trans ((hb5.trans (hBY.mono hb5.size)).mono hBk.size);have hsz:=hjY.size
       have hll : ((Zdx j).take k).length + 1 <= 1000:=by rw [hrl];omega
       replace hsc:=hsc.out;clear hO hO1 bbf hb5;go_wp2_with ((try rw [hY1]);(try rw [hgz]);at_builtin;refine Zac _ rfl (.tmp 21) (.tmp 24) 23 rfl wj.heap.size 29 iF Tryz.underlying23 hi hz0 hz1 hz2 _ _ rfl hOY _ (some ⟨gz,0,none⟩) 1 1 [⟨bbn,bbA,bbk,bbc,bbm,bbB,bbj,bbd,((0 : Int) : Rat)⟩] rfl (Zad _ hbY) rfl (by intro e he;rw [List.mem_singleton] at he;subst he;exact hfY) hll hsz ?_;intro v7 w7 hO7 hg7 hk7);have hj7:=hjY.grown hg7 hsz (fun k hk=>hOY.row_ge k hk);simp only [List.map_cons,List.map_nil] at hO7;rw [hsc] at hO7;replace hO7:=Zb hO7
       go_roundg (6 - (k + 1))
       case measure=>omega
       case rel=>exact ⟨k + 1,by omega,by go_num,hO7.out,hj7⟩
open Go.RowKit Go.Shelf
attribute [local go_sem] Oper.semAt_some
theorem Zgo {W W' : World} (hb : Below W.heap.size W W') : W.grownBy W' none:=⟨hb.os,hb.tape,hb.output,hb.size,fun k hk _=>hb.block k hk⟩
def Zb0 (N : Nat) (step : Int) (k : Nat) : Int:=((k : Int) - N) * step
noncomputable def encStep (s : St) (dir : List Rat) (N : Nat) (step : Int) (k : Nat) : Array Value:=#[.agg (movV s dir (Zb0 N step k)).cells,.int .i64 (movE s dir (Zb0 N step k))]
theorem Ziw {N : Nat} {step : Int} {k : Nat} (hN : N <= 20) (h1 : 1 <= step) (h2 : step <= 1125899906842624) (hk : k <= 2 * N) : -22517998136852480 <= Zb0 N step k /\ Zb0 N step k <= 22517998136852480:=by
 unfold Zb0
 have ha : -20 <= (k : Int) - N /\ (k : Int) - N <= 20:=by omega
 obtain ⟨a,e⟩ : ∃ a,(k : Int) - N = a:=⟨_,rfl⟩;rw [e] at ha ⊢
 constructor
 ·have:=Int.mul_le_mul_of_nonneg_right ha.1 (show (0 : Int) <= step by omega)
  omega
 ·have:=Int.mul_le_mul_of_nonneg_right ha.2 (show (0 : Int) <= step by omega)
  omega
def StpS (w2 : World) (Bn Bs Bd Bp N : Nat) (A : Option Addr) (c : Nat) (s : St) (step : Int) (W : World) : Prop:=
 (W.cell? ⟨Bn,0,none⟩ = some (.int .i64 N) /\ Blk W Bs 46 s.cells /\ W.cell? ⟨Bd,0,none⟩ = some (.slice A 6 c) /\ W.cell? ⟨Bp,0,none⟩ = some (.int .i64 step)) /\ Below w2.heap.size w2 W
section
variable {w2 : World} {Bn Bs Bd Bp N : Nat} {A : Option Addr} {c : Nat} {s : St} {step : Int} {W W' W2 : World}
theorem StpS.below (h : StpS w2 Bn Bs Bd Bp N A c s step W) (hb : Below W.heap.size W W') : StpS w2 Bn Bs Bd Bp N A c s step W':=
 ⟨⟨Za hb h.1.1,Zc hb h.1.2.1,Za hb h.1.2.2.1,Za hb h.1.2.2.2⟩,h.2.trans (hb.mono h.2.size)⟩
def KpS (w2 : World) (Bn Bs Bd Bp N : Nat) (A : Option Addr) (c : Nat) (s : St) (step : Int) (W W' : World) : Prop:=StpS w2 Bn Bs Bd Bp N A c s step W -> StpS w2 Bn Bs Bd Bp N A c s step W'
theorem KpS.trans (h : KpS w2 Bn Bs Bd Bp N A c s step W W') (k : KpS w2 Bn Bs Bd Bp N A c s step W' W2) : KpS w2 Bn Bs Bd Bp N A c s step W W2:=fun x=>k (h x)
theorem KpS.put (W : World) (lp : Nat) (o o' : Obj) (hl : w2.heap.size <= lp) (ho : W.heap[lp]? = some o) (hc : o.isCells = false) : KpS w2 Bn Bs Bd Bp N A c s step W (W.putObj lp o'):=
 fun h=>⟨⟨cell_kept h.1.1 (grownBy_putObj' W lp o') (fun r e=>by cases e;exact ⟨o,ho,hc⟩),Zbk h.1.2.1 (grownBy_putObj' W lp o') (fun r e=>by cases e;exact ⟨o,ho,hc⟩),cell_kept h.1.2.2.1 (grownBy_putObj' W lp o') (fun r e=>by cases e;exact ⟨o,ho,hc⟩),cell_kept h.1.2.2.2 (grownBy_putObj' W lp o') (fun r e=>by cases e;exact ⟨o,ho,hc⟩)⟩,
  h.2.grown (grownBy_putObj' W lp o') h.2.size (fun k e=>by cases e;exact hl)⟩
end
theorem Zsa (w2 : World) (d0 : Nat) (hd : 1 <= d0) (lp Bn Bs Bd Bp N : Nat) (A : Option Addr) (c : Nat) (s : St) (dir : List Rat) (step : Int) (J Jx : List Nat -> World -> Prop) (hN : N <= 20) (hs1 : 1 <= step) (hs2 : step <= 1125899906842624)
    (hFL : FL w2 A 6 c dir) (hS : ∀ k,k <= 2 * N -> Zoo dir (Zb0 N step k))
    (hY : ∀ pre x W,J pre W -> pre.length < 2 * N + 1 -> YieldAt Fence.wide (d0 - 1) Tryz.prog lp (encStep s dir N step x) W fun e W' =>
     (e = .returned (.bool true) /\ J (pre ++ [x]) W' /\ KpS w2 Bn Bs Bd Bp N A c s step W W') \/ (e = .returned (.bool false) /\ Jx (pre ++ [x]) W'))
    (W : World) (hJ : AbidesFrom W.heap.size J) (hP : StpS w2 Bn Bs Bd Bp N A c s step W) (h0 : J [] W) :
    CallsIn Fence.wide d0 Tryz.prog 117 #[.func (.yield lp) #[] #[],.pointer (some ⟨Bn,0,none⟩),.pointer (some ⟨Bs,0,none⟩),.pointer (some ⟨Bd,0,none⟩),.pointer (some ⟨Bp,0,none⟩)] W fun e W'=>(∃ v,e = .returned v) /\
     ((∃ ys,ys = List.range (2 * N + 1) /\ J ys W') \/ (∃ pre,(∃ k,k <= 2 * N + 1 /\ pre = List.range k) /\ Jx pre W')):=by
 have hcap:=hFL.cap;unfold maxLen at hcap;refine callsIn_of_wp Tryz.func117 rfl trivial ?_ rfl;simp only [Tryz.ntmps117,List.size_toArray,List.length_cons,List.length_nil,Nat.reduceAdd,Nat.reduceSub,Array.replicate_succ,Array.replicate_zero,List.push_toArray,List.append_toArray,List.nil_append,List.cons_append];have cn1:=hP.1.1
 gi_wp2
 gi_loopw [6] (fun j wr=>∃ k : Nat,k <= 2 * N + 1 /\ j = .int .i64 ((k : Int) - N) /\ J (List.range k) wr /\ Hid (StpS w2 Bn Bs Bd Bp N A c s step wr))
  (fun j _=>(((N : Int) + 1) - intOf j).toNat)
 case atStart=>exact ⟨0,Nat.zero_le _,by go_num,h0,Zb hP⟩
 case round =>
  obtain ⟨k,hk,rfl,hJs,hWr⟩:=hrel;have cn2:=hWr.out.1.1
  by_cases hlt : k < 2 * N + 1
  ·have t1 : decide ((k : Int) - N <= N) = true:=decide_eq_true (by omega)
   have t1' : (k : Int) - N <= N:=by omega
   obtain ⟨x0,x1,x2,x3,x4,x5,x6⟩:=Zca hWr.out.1.2.1;have y1:=hWr.out.1.2.2.1;have y2:=hWr.out.1.2.2.2;have hDr : FL wr A 6 c dir:=hFL.below hWr.out.2;obtain ⟨hb1,hb2⟩:=Ziw (k:=k) hN hs1 hs2 (by omega);have hSk:=hS k (by omega);obtain ⟨D,hfk⟩ : ∃ D,Zb0 N step k = D:=⟨_,rfl⟩;have hmul : ((k : Int) - N) * step = D:=hfk;rw [hfk] at hb1 hb2 hSk;have hwD : IntKind.i64.wrap D = D:=IntWalk.i64_in _ (by omega);have hwD2 : wrap64 D = D:=IntWalk.wrap64_in _ (by omega);replace hSk:=Zb hSk;replace hDr:=Zb hDr
   gi_wp2
   refine ⟨trivial,?_⟩;refine (callsIn_wide.2 (move_ok s A c dir D wr hDr.out hSk.out (by omega) (by omega))).mono ?_;rintro e w3 ⟨rfl,hb3⟩;have hW3:=Zb (hWr.out.below hb3);have hJ3 : J (List.range k) w3:=hJ _ _ _ none hJs (Zgo hb3) (fun r e=>by cases e);obtain ⟨fn,tmps,assign,body,hy,hR⟩:=hY (List.range k) k w3 hJ3 (by rw [List.length_range];exact hlt);dsimp only [encStep] at hy;rw [hfk] at hy;clear x0 x1 x2 x3 x4 x5 x6 y1 y2 cn2 hWr
   gi_wp2
   refine hR.mono ?_;rintro e W4 (⟨rfl,hJ4,hk4⟩ | ⟨rfl,hJx4⟩)
   ·gi_wp2
    go_roundw
    case rel=>exact ⟨k + 1,by omega,by go_num,by rw [List.range_succ];exact hJ4,Zb (hk4 hW3.out)⟩
    case measure=>simp [intOf];omega
   ·gi_wp2
    refine bodyPost_ret (results_none rfl _ _ _) rfl ?_;exact ⟨⟨_,rfl⟩,.inr ⟨_,⟨k + 1,by omega,List.range_succ.symm⟩,hJx4⟩⟩
  ·obtain rfl : k = 2 * N + 1:=by omega
   have t1 : decide (((2 * N + 1 : Nat) : Int) - N <= N) = false:=decide_eq_false (by omega)
   gi_wp2
   go_end0
   exact ⟨⟨_,rfl⟩,.inl ⟨_,rfl,hJs⟩⟩
theorem Znh (w2 : World) (d0 : Nat) (hd : 1 <= d0) (Bn Bs Bd Bp N : Nat) (A : Option Addr) (c : Nat) (s : St) (dir : List Rat) (step : Int) (hN : N <= 20) (hs1 : 1 <= step) (hs2 : step <= 1125899906842624)
    (hFL : FL w2 A 6 c dir) (hS : ∀ k,k <= 2 * N -> Zoo dir (Zb0 N step k)) (w : World) (hP : StpS w2 Bn Bs Bd Bp N A c s step w) :
    SeqStopsK Fence.wide d0 Tryz.prog 117 #[.pointer (some ⟨Bn,0,none⟩),.pointer (some ⟨Bs,0,none⟩),.pointer (some ⟨Bd,0,none⟩),.pointer (some ⟨Bp,0,none⟩)] (encStep s dir N step) (KpS w2 Bn Bs Bd Bp N A c s step) (fun ys=>ys = List.range (2 * N + 1)) (fun pre=>∃ k,k <= 2 * N + 1 /\ pre = List.range k) (2 * N + 1) w:=fun lp J Jx W hW hJ _ hY h0 =>
 Zsa w2 d0 hd lp Bn Bs Bd Bp N A c s dir step J Jx hN hs1 hs2 hFL hS hY W hJ (hP.below hW) h0
theorem Zso (s : St) (A : Option Addr) (n c : Nat) (step k : Int) (w : World) :
    Calls Tryz.prog 68 #[.agg #[.int .i64 s.t,.int .i64 s.p0,.int .i64 s.p1,.int .i64 s.p2,.int .i64 s.v0,.int .i64 s.v1,.int .i64 s.v2],.slice A n c,.int .i64 step,.int .i64 k] w fun e w'=>e = .returned (.func (.func 117) #[] #[.pointer (some ⟨w.heap.size + 1 + 1 + 1,0,none⟩),.pointer (some ⟨w.heap.size,0,none⟩),.pointer (some ⟨w.heap.size + 1,0,none⟩),.pointer (some ⟨w.heap.size + 1 + 1,0,none⟩)]) /\ w' = (((w.alloc (.cells #[.int .i64 s.t,.int .i64 s.p0,.int .i64 s.p1,.int .i64 s.p2,.int .i64 s.v0,.int .i64 s.v1,.int .i64 s.v2] 46)).alloc (.cells #[.slice A n c] 23)).alloc (.cells #[.int .i64 step] 2)).alloc (.cells #[.int .i64 k] 3):=by
 have hmf : ∀ (fn : Fn) (first cap : Array Value) (w : World),(Instr.makeFunc fn first cap).run Tryz.prog w = .ok (.func fn first cap) w:=fun _ _ _ _=>rfl
 go_enter Tryz.func68,Tryz.ntmps68;go_wp2_with fail;go_ret;exact ⟨rfl,rfl⟩
def SL (w : World) (A : Option Addr) (n c : Nat) (ss : List St) : Prop:=
 ss.length = n /\ n <= c /\ c <= maxLen /\ ∀ (k : Nat) (s : St),ss[k]? = some s -> ∃ g o,A = some ⟨g,o,none⟩ /\ w.cell? ⟨g,o + k * 7,none⟩ = some (.int .i64 s.t) /\ w.cell? ⟨g,o + k * 7 + 1,none⟩ = some (.int .i64 s.p0) /\ w.cell? ⟨g,o + k * 7 + 2,none⟩ = some (.int .i64 s.p1) /\ w.cell? ⟨g,o + k * 7 + 3,none⟩ = some (.int .i64 s.p2) /\ w.cell? ⟨g,o + k * 7 + 4,none⟩ = some (.int .i64 s.v0) /\ w.cell? ⟨g,o + k * 7 + 5,none⟩ = some (.int .i64 s.v1) /\ w.cell? ⟨g,o + k * 7 + 6,none⟩ = some (.int .i64 s.v2)
theorem SL.below {w w' : World} {A : Option Addr} {n c : Nat} {ss : List St} (h : SL w A n c ss) (hb : Below w.heap.size w w') : SL w' A n c ss:=by
 obtain ⟨h1,h2,h3,h4⟩:=h;refine ⟨h1,h2,h3,fun k s hs=>?_⟩;obtain ⟨g,o,e,c0,c1,c2,c3,c4,c5,c6⟩:=h4 k s hs;exact ⟨g,o,e,Za hb c0,Za hb c1,Za hb c2,Za hb c3,Za hb c4,Za hb c5,Za hb c6⟩
theorem SL.at_ {w : World} {A : Option Addr} {n c : Nat} {ss : List St} (h : SL w A n c ss) {k : Nat} (hk : k < n) : ∃ g o s,A = some ⟨g,o,none⟩ /\ ss[k]? = some s /\ w.cell? ⟨g,o + k * 7,none⟩ = some (.int .i64 s.t) /\ w.cell? ⟨g,o + k * 7 + 1,none⟩ = some (.int .i64 s.p0) /\ w.cell? ⟨g,o + k * 7 + 2,none⟩ = some (.int .i64 s.p1) /\ w.cell? ⟨g,o + k * 7 + 3,none⟩ = some (.int .i64 s.p2) /\ w.cell? ⟨g,o + k * 7 + 4,none⟩ = some (.int .i64 s.v0) /\ w.cell? ⟨g,o + k * 7 + 5,none⟩ = some (.int .i64 s.v1) /\ w.cell? ⟨g,o + k * 7 + 6,none⟩ = some (.int .i64 s.v2):=by
 have hs:=List.getElem?_eq_getElem (l:=ss) (i:=k) (by rw [h.1];exact hk);obtain ⟨g,o,e,hc⟩:=h.2.2.2 k _ hs;exact ⟨g,o,_,e,hs,hc⟩
theorem St.ext' {a b : St} (h0 : a.t = b.t) (h1 : a.p0 = b.p0) (h2 : a.p1 = b.p1) (h3 : a.p2 = b.p2) (h4 : a.v0 = b.v0) (h5 : a.v1 = b.v1) (h6 : a.v2 = b.v2) : a = b:=by
 cases a;cases b;simp only at h0 h1 h2 h3 h4 h5 h6;subst h0 h1 h2 h3 h4 h5 h6;rfl
theorem Zmw (A B : Option Addr) (n m c d : Nat) (xs ys : List St) (w : World) (ha : SL w A n c xs) (hb : SL w B m d ys) :
    Calls Tryz.prog 36 #[.slice A n c,.slice B m d] w fun e w'=>∃ b,e = .returned (.bool b) /\ (b = true ↔ xs = ys) /\ Below w.heap.size w w':=by
 have hmx : Tryz.prog.follows .mixedOrders = true:=by kernel_rfl
 have hla:=Zb ha.1;have hlb:=Zb hb.1;have hnc:=ha.2.1;have hcm:=ha.2.2.1;have hmd:=hb.2.1;have hdm:=hb.2.2.1;unfold maxLen at hcm hdm;replace ha:=Zb ha;replace hb:=Zb hb
 by_cases hnm : n = m
 case neg =>
  have t1 : ((n : Int) == (m : Int)) = false:=by simp;omega
  have t1' : ((n : Int) != (m : Int)) = true:=by rw [bne,t1];rfl
  have t1'' : decide (n = m) = false:=by simpa using hnm
  have hne : Hid (xs ≠ ys):=Zb (fun e=>hnm (by rw [<- hla.out,<- hlb.out,e]));replace hnm:=Zb hnm;go_enter Tryz.func36,Tryz.ntmps36;go_wp2_with fail;go_ret;exact ⟨false,rfl,⟨fun h=>(by cases h),fun e=>absurd e hne.out⟩,Below.refl _ _⟩
 subst hnm;go_enter Tryz.func36,Tryz.ntmps36;go_wp2_with fail
 go_loopg [5] n (fun k iv wr=>∃ i : Nat,i + k = n /\ iv = .int .i64 i /\ Hid (∀ j,j < i -> xs[j]? = ys[j]?) /\ Below w.heap.size w wr)
 case atStart=>exact ⟨0,by omega,rfl,Zb (fun j hj=>by omega),Below.refl _ _⟩
 case round =>
  obtain ⟨wi,rfl⟩ : ∃ x : World,x = wr:=⟨_,rfl⟩;obtain ⟨i,hik,rfl,hE,hBi⟩:=hrel
  cases gk with
  | zero =>
   obtain rfl : i = n:=by omega
   have t3 : decide ((i : Int) < (i : Int)) = false:=by simp
   have heq : Hid (xs = ys):=Zb (List.ext_getElem? fun j=>by
    by_cases hj : j < i
    ·exact hE.out j hj
    ·rw [List.getElem?_eq_none (by rw [hla.out];omega),List.getElem?_eq_none (by rw [hlb.out];omega)])
   go_wp2_with fail;go_ret;exact ⟨true,rfl,⟨fun _=>heq.out,fun _=>rfl⟩,hBi⟩
  | succ k' =>
   obtain rfl : k' = n - (i + 1):=by omega
   have hin : i < n:=by omega
   have t3 : decide ((i : Int) < (n : Int)) = true:=decide_eq_true (by omega)
   have bi : (i : Int) < (n : Int):=by omega
   obtain ⟨g1,o1,a,rfl,hea,x0,x1,x2,x3,x4,x5,x6⟩:=(ha.out.below hBi).at_ hin;obtain ⟨g2,o2,b,rfl,heb,y0,y1,y2,y3,y4,y5,y6⟩:=(hb.out.below hBi).at_ hin;have hr : Below wi.heap.size wi wi.drew:=Zj (Below.refl _ _) 1;have hSv : (wi.drew.cell? ⟨g1,o1 + i * 7,none⟩ = some (.int .i64 a.t) /\ wi.drew.cell? ⟨g1,o1 + i * 7 + 1,none⟩ = some (.int .i64 a.p0) /\ wi.drew.cell? ⟨g1,o1 + i * 7 + 2,none⟩ = some (.int .i64 a.p1) /\ wi.drew.cell? ⟨g1,o1 + i * 7 + 3,none⟩ = some (.int .i64 a.p2) /\ wi.drew.cell? ⟨g1,o1 + i * 7 + 4,none⟩ = some (.int .i64 a.v0) /\ wi.drew.cell? ⟨g1,o1 + i * 7 + 5,none⟩ = some (.int .i64 a.v1) /\ wi.drew.cell? ⟨g1,o1 + i * 7 + 6,none⟩ = some (.int .i64 a.v2)) /\ (wi.drew.cell? ⟨g2,o2 + i * 7,none⟩ = some (.int .i64 b.t) /\ wi.drew.cell? ⟨g2,o2 + i * 7 + 1,none⟩ = some (.int .i64 b.p0) /\ wi.drew.cell? ⟨g2,o2 + i * 7 + 2,none⟩ = some (.int .i64 b.p1) /\ wi.drew.cell? ⟨g2,o2 + i * 7 + 3,none⟩ = some (.int .i64 b.p2) /\ wi.drew.cell? ⟨g2,o2 + i * 7 + 4,none⟩ = some (.int .i64 b.v0) /\ wi.drew.cell? ⟨g2,o2 + i * 7 + 5,none⟩ = some (.int .i64 b.v1) /\ wi.drew.cell? ⟨g2,o2 + i * 7 + 6,none⟩ = some (.int .i64 b.v2)):=⟨⟨Za hr x0,Za hr x1,Za hr x2,Za hr x3,Za hr x4,Za hr x5,Za hr x6⟩,⟨Za hr y0,Za hr y1,Za hr y2,Za hr y3,Za hr y4,Za hr y5,Za hr y6⟩⟩;have hBr:=hBi.trans (hr.mono hBi.size);replace hea:=Zb hea;replace heb:=Zb heb
   by_cases hab : a = b
   case pos =>
    subst hab
    have hEq : ∀ w,(Op.equalIn 10000 46 (.agg #[.int .i64 a.t,.int .i64 a.p0,.int .i64 a.p1,.int .i64 a.p2,.int .i64 a.v0,.int .i64 a.v1,.int .i64 a.v2]) (.agg #[.int .i64 a.t,.int .i64 a.p0,.int .i64 a.p1,.int .i64 a.p2,.int .i64 a.v0,.int .i64 a.v1,.int .i64 a.v2])).run Tryz.prog w = .ok true w:=fun w=>by rw [Zns];simp
    have hE2 : Hid (∀ j,j < i + 1 -> xs[j]? = ys[j]?):=Zb (fun j hj=>by
     by_cases e : j = i
     ·subst e;rw [hea.out,heb.out]
     ·exact hE.out j (by omega))
    go_wp2_with fail;refine Z4 [] (fun wx=>(wx.cell? ⟨g1,o1 + i * 7,none⟩ = some (.int .i64 a.t) /\ wx.cell? ⟨g1,o1 + i * 7 + 1,none⟩ = some (.int .i64 a.p0) /\ wx.cell? ⟨g1,o1 + i * 7 + 2,none⟩ = some (.int .i64 a.p1) /\ wx.cell? ⟨g1,o1 + i * 7 + 3,none⟩ = some (.int .i64 a.p2) /\ wx.cell? ⟨g1,o1 + i * 7 + 4,none⟩ = some (.int .i64 a.v0) /\ wx.cell? ⟨g1,o1 + i * 7 + 5,none⟩ = some (.int .i64 a.v1) /\ wx.cell? ⟨g1,o1 + i * 7 + 6,none⟩ = some (.int .i64 a.v2)) /\ (wx.cell? ⟨g2,o2 + i * 7,none⟩ = some (.int .i64 a.t) /\ wx.cell? ⟨g2,o2 + i * 7 + 1,none⟩ = some (.int .i64 a.p0) /\ wx.cell? ⟨g2,o2 + i * 7 + 2,none⟩ = some (.int .i64 a.p1) /\ wx.cell? ⟨g2,o2 + i * 7 + 3,none⟩ = some (.int .i64 a.p2) /\ wx.cell? ⟨g2,o2 + i * 7 + 4,none⟩ = some (.int .i64 a.v0) /\ wx.cell? ⟨g2,o2 + i * 7 + 5,none⟩ = some (.int .i64 a.v1) /\ wx.cell? ⟨g2,o2 + i * 7 + 6,none⟩ = some (.int .i64 a.v2))) hmx hSv (fun hxs=>?_);refine Zu3 9 [0,1,2,3,4,5,6,7,8] rfl (by kernel_rfl) hSv ?_
    iterate 9 (refine tk1 (v:=?_) rfl (Or.inl ⟨by kernel_rfl,?_⟩) ?_;rotate_left;(· intro W2 hSw;(try dsimp only at hSw);go_simp;try with_reducible rfl);try simp only [Act.put,putL_a,putL_z,putL_s,putG_a,putG_s,putG_z])
    refine tk0 ?_;refine Zl (by kernel_rfl) ?_ _;refine OnlyNormal.normal ?_;go_wp2_with fail
    go_roundg (n - (i + 1))
    case measure=>omega
    case rel=>exact ⟨i + 1,by omega,by go_num,hE2,hBr⟩
   case neg =>
    have hEq : ∀ w,(Op.equalIn 10000 46 (.agg #[.int .i64 a.t,.int .i64 a.p0,.int .i64 a.p1,.int .i64 a.p2,.int .i64 a.v0,.int .i64 a.v1,.int .i64 a.v2]) (.agg #[.int .i64 b.t,.int .i64 b.p0,.int .i64 b.p1,.int .i64 b.p2,.int .i64 b.v0,.int .i64 b.v1,.int .i64 b.v2])).run Tryz.prog w = .ok false w:=fun w=>by
     rw [Zns]
     congr 1
     rw [Bool.eq_false_iff];intro h;simp only [Bool.and_eq_true,decide_eq_true_eq] at h;exact hab (St.ext' h.1.1 h.1.2.1.1 h.1.2.1.2 h.1.2.2 h.2.1.1 h.2.1.2 h.2.2)
    have hne : Hid (xs ≠ ys):=Zb (fun e=>hab (by
     have h1:=hea.out;rw [e,heb.out] at h1
     exact (Option.some.inj h1).symm))
    replace hab:=Zb hab;go_wp2_with fail;refine Z4 [] (fun wx=>(wx.cell? ⟨g1,o1 + i * 7,none⟩ = some (.int .i64 a.t) /\ wx.cell? ⟨g1,o1 + i * 7 + 1,none⟩ = some (.int .i64 a.p0) /\ wx.cell? ⟨g1,o1 + i * 7 + 2,none⟩ = some (.int .i64 a.p1) /\ wx.cell? ⟨g1,o1 + i * 7 + 3,none⟩ = some (.int .i64 a.p2) /\ wx.cell? ⟨g1,o1 + i * 7 + 4,none⟩ = some (.int .i64 a.v0) /\ wx.cell? ⟨g1,o1 + i * 7 + 5,none⟩ = some (.int .i64 a.v1) /\ wx.cell? ⟨g1,o1 + i * 7 + 6,none⟩ = some (.int .i64 a.v2)) /\ (wx.cell? ⟨g2,o2 + i * 7,none⟩ = some (.int .i64 b.t) /\ wx.cell? ⟨g2,o2 + i * 7 + 1,none⟩ = some (.int .i64 b.p0) /\ wx.cell? ⟨g2,o2 + i * 7 + 2,none⟩ = some (.int .i64 b.p1) /\ wx.cell? ⟨g2,o2 + i * 7 + 3,none⟩ = some (.int .i64 b.p2) /\ wx.cell? ⟨g2,o2 + i * 7 + 4,none⟩ = some (.int .i64 b.v0) /\ wx.cell? ⟨g2,o2 + i * 7 + 5,none⟩ = some (.int .i64 b.v1) /\ wx.cell? ⟨g2,o2 + i * 7 + 6,none⟩ = some (.int .i64 b.v2))) hmx hSv (fun hxs=>?_);refine Zu3 9 [0,1,2,3,4,5,6,7,8] rfl (by kernel_rfl) hSv ?_
    iterate 9 (refine tk1 (v:=?_) rfl (Or.inl ⟨by kernel_rfl,?_⟩) ?_;rotate_left;(· intro W2 hSw;(try dsimp only at hSw);go_simp;try with_reducible rfl);try simp only [Act.put,putL_a,putL_z,putL_s,putG_a,putG_s,putG_z])
    refine tk0 ?_;refine Zl (by kernel_rfl) ?_ _;refine OnlyNormal.normal ?_;go_wp2_with fail;go_ret;exact ⟨false,rfl,⟨fun h=>(by cases h),fun e=>absurd e hne.out⟩,hBr⟩
end Go.Proofs.YtpehacgjclkhmaaGreat
