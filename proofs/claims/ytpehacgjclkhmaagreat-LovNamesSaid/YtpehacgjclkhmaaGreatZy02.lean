/- Package wide: down, an iterator over limbs from the -/
import Derived.RangeFuncBox
import Derived.RangeFuncLeaves
import Derived.RangeFuncNested
import Derived.RangeFuncCalls
import Derived.Shelf.Abstract
import Derived.OwnWalkIn
import Derived.TacticsInMore
import Derived.LoopNIn
import Derived.LoopIn
import Derived.Deep.RegionHeld3
import Derived.Test.YtpehacgjclkhmaaGreatZy01
set_option maxRecDepth 100000
set_option maxHeartbeats 2000000
set_option linter.unusedSimpArgs false
set_option linter.unusedVariables false
namespace Go.Proofs.YtpehacgjclkhmaaGreat
open Go.RowKit Go.Shelf
attribute [local go_sem] Zg
attribute [local go_sem] Oper.semAt_some
def Zbm (n : Nat) : Nat -> List { i : Nat // i < n }
 | 0=>[]
 | k + 1=>Zbm n k ++ (if h : k < n then [⟨n - 1 - k,by omega⟩] else [])
theorem Zb5 {n k : Nat} (h : k < n) : Zbm n (k + 1) = Zbm n k ++ [⟨n - 1 - k,by omega⟩]:=by simp [Zbm,h]
theorem Zbu {n k : Nat} (h : k <= n) : (Zbm n k).length = k:=by
 induction k with
 | zero=>rfl
 | succ k ih=>rw [Zb5 (by omega)];simp [ih (by omega)]
theorem Zh9 {n k : Nat} (h : k <= n) (i : { i : Nat // i < n }) : i ∈ Zbm n k ↔ n - k <= i.1:=by
 induction k with
 | zero=>simp [Zbm];omega
 | succ k ih =>
  have:=i.2;rw [Zb5 (by omega),List.mem_append,ih (by omega),List.mem_singleton,Subtype.ext_iff]
  simp;omega
def Zet (l : List Nat) (n : Nat) (i : { i : Nat // i < n }) : Array Value:=#[.int .i64 (i.1 : Int),limb (l[i.1]?.getD 0)]
theorem Zg7 {W W' : World} {row : Option Nat} {A : Option Addr} {n c : Nat} {l : List Nat} (h : Lim W A n c l) (hg : W.grownBy W' row) (hrow : ∀ r,row = some r -> ∃ o : Obj,W.heap[r]? = some o /\ o.isCells = false) : Lim W' A n c l:=
 ⟨h.1,h.2.1,h.2.2.1,h.2.2.2.1,fun hn=>by
  obtain ⟨b,o,e,hc⟩:=h.2.2.2.2 hn
  exact ⟨b,o,e,fun k hk=>cell_kept (hc k hk) hg hrow⟩⟩
def KpD (Bs : Nat) (A : Option Addr) (n c : Nat) (l : List Nat) (W W' : World) : Prop:=
 (W.cell? ⟨Bs,0,none⟩ = some (.slice A n c) -> W'.cell? ⟨Bs,0,none⟩ = some (.slice A n c)) /\ (Lim W A n c l -> Lim W' A n c l)
theorem KpD.refl (Bs : Nat) (A : Option Addr) (n c : Nat) (l : List Nat) (W : World) : KpD Bs A n c l W W:=⟨id,id⟩
theorem KpD.trans {Bs n c : Nat} {A : Option Addr} {l : List Nat} {W1 W2 W3 : World} (h : KpD Bs A n c l W1 W2) (k : KpD Bs A n c l W2 W3) : KpD Bs A n c l W1 W3:=⟨fun x=>k.1 (h.1 x),fun x=>k.2 (h.2 x)⟩
theorem KpD.put {Bs n c : Nat} {A : Option Addr} {l : List Nat} (W : World) (lp : Nat) (o o' : Obj) (ho : W.heap[lp]? = some o) (hc : o.isCells = false) : KpD Bs A n c l W (W.putObj lp o'):=
 ⟨fun h=>cell_kept h (grownBy_putObj' W lp o') (fun r e=>by cases e;exact ⟨o,ho,hc⟩),fun h=>Zg7 h (grownBy_putObj' W lp o') (fun r e=>by cases e;exact ⟨o,ho,hc⟩)⟩
theorem KpD.set_ {Bs n c : Nat} {A : Option Addr} {l : List Nat} {w W : World} {g o : Nat} (hL : Lim w A n c l) (hg : w.heap.size <= g) (hB : g ≠ Bs) (u : Value) : KpD Bs A n c l W (W.setCell ⟨g,o,none⟩ u):=
 ⟨fun h=>(World.cell?_setCell_other W _ _ u (fun e=>hB (by cases e;rfl))).trans h,fun h=>⟨h.1,h.2.1,h.2.2.1,h.2.2.2.1,fun hn=>by
  obtain ⟨b,o',e,hc⟩:=h.2.2.2.2 hn;obtain ⟨b1,o1,e1,hc1⟩:=hL.2.2.2.2 hn;rw [e] at e1
  cases e1
  have hlt:=Zr (hc1 0 hn)
  exact ⟨b,o',e,fun k hk=>(World.cell?_setCell_other W _ _ u (fun e2=>by cases e2;simp at hlt;omega)).trans (hc k hk)⟩⟩⟩
theorem Zqp (d : Nat) (hd : 1 <= d) (lp Bs n c : Nat) (A : Option Addr) (l : List Nat) (J Jx : List { i : Nat // i < n } -> World -> Prop)
    (hY : ∀ pre x W,J pre W -> pre.length < n -> YieldAt Fence.wide (d - 1) Tryz.prog lp (Zet l n x) W fun e W' =>
     (e = .returned (.bool true) /\ J (pre ++ [x]) W' /\ KpD Bs A n c l W W') \/ (e = .returned (.bool false) /\ Jx (pre ++ [x]) W'))
    (W : World) (hBs : W.cell? ⟨Bs,0,none⟩ = some (.slice A n c)) (hL : Lim W A n c l) (h0 : J [] W) :
    CallsIn Fence.wide d Tryz.prog 177 #[.func (.yield lp) #[] #[],.pointer (some ⟨Bs,0,none⟩)] W fun e W'=>(∃ v,e = .returned v) /\
     ((∃ ys,ys = Zbm n n /\ J ys W') \/ (∃ pre,(∃ k,k <= n /\ pre = Zbm n k) /\ Jx pre W')):=by
 have hnc:=hL.2.1;have hcm:=hL.2.2.1;unfold maxLen at hcm;refine callsIn_of_wp Tryz.func177 rfl trivial ?_ rfl;simp only [Tryz.ntmps177,List.size_toArray,List.length_cons,List.length_nil,Nat.reduceAdd,Nat.reduceSub,Array.replicate_succ,Array.replicate_zero,List.push_toArray,List.append_toArray,List.nil_append,List.cons_append]
 gi_wp2
 gi_loopw [3] (fun i wr=>∃ k : Nat,k <= n /\ i = .int .i64 ((n : Int) - 1 - k) /\ J (Zbm n k) wr /\ Hid (wr.cell? ⟨Bs,0,none⟩ = some (.slice A n c)) /\ Lim wr A n c l)
  (fun i _=>(intOf i + 1).toNat)
 case atStart=>exact ⟨0,Nat.zero_le _,by go_num,h0,hBs,hL⟩
 case round =>
  obtain ⟨k,hk,rfl,hJs,hbx',hLr⟩:=hrel;have hbx:=hbx'.out
  by_cases hlt : k < n
  ·obtain ⟨b,o,rfl,hcx⟩:=hLr.at_ (k:=n - 1 - k) (by omega)
   obtain ⟨fn,tmps,assign,body,hy,hR⟩:=hY _ ⟨n - 1 - k,by omega⟩ wr hJs (by rw [Zbu hk];exact hlt);dsimp only [Zet] at hy;rw [show ((n - 1 - k : Nat) : Int) = (n : Int) - 1 - k by omega] at hy
   gi_wp2
   refine hR.mono ?_;rintro e W3 (⟨rfl,hJ3,hk3⟩ | ⟨rfl,hJx3⟩)
   ·have hbx3:=Za (hk3.1 hbx'.out)
    gi_wp2
    go_roundw
    case rel=>exact ⟨k + 1,by omega,by go_num,by rw [Zb5 hlt];exact hJ3,hbx3,hk3.2 hLr⟩
    case measure=>simp [intOf];omega
   ·gi_wp2
    refine bodyPost_ret (results_none rfl _ _ _) rfl ?_;exact ⟨⟨_,rfl⟩,.inr ⟨_,⟨k + 1,by omega,(Zb5 hlt).symm⟩,hJx3⟩⟩
  ·obtain rfl : k = n:=by omega
   gi_wp2
   go_end0
   exact ⟨⟨_,rfl⟩,.inl ⟨_,rfl,hJs⟩⟩
theorem Zfd (d : Nat) (hd : 1 <= d) (Bs n c : Nat) (A : Option Addr) (l : List Nat) (w : World) (hc : w.cell? ⟨Bs,0,none⟩ = some (.slice A n c)) (hL : Lim w A n c l) :
    SeqStopsK Fence.wide d Tryz.prog 177 #[.pointer (some ⟨Bs,0,none⟩)] (Zet l n) (KpD Bs A n c l) (fun ys=>ys = Zbm n n) (fun pre=>∃ k,k <= n /\ pre = Zbm n k) n w:=fun lp J Jx W hW _ _ hY h0 =>
 Zqp d hd lp Bs n c A l J Jx hY W ((hW.cell (Zr hc)).trans hc) (hL.below hW) h0
theorem Zhy (A : Option Addr) (n c : Nat) (w : World) :
    Calls Tryz.prog 170 #[.slice A n c] w fun e w'=>e = .returned (.func (.func 177) #[] #[.pointer (some ⟨w.heap.size,0,none⟩)]) /\ w.alloc (.cells #[.slice A n c] 25) = w':=by
 go_enter Tryz.func170,Tryz.ntmps170
 go_wp2
 go_ret;exact ⟨rfl,rfl⟩
def Zbd (a b : List Nat) : Int:=if a.length < b.length then -1 else if b.length < a.length then 1 else if val a < val b then -1 else if val b < val a then 1 else 0
theorem Zia {l : List Nat} {k : Nat} (h : k < l.length) : val (l.drop k) = l[k]?.getD 0 + 4294967296 * val (l.drop (k + 1)):=by
 rw [List.drop_eq_getElem_cons h,val,List.getElem?_eq_getElem h];rfl
theorem Zgw {a b : List Nat} {n k : Nat} (ha : a.length = n) (hb : b.length = n) (hla : Lt32 a) (hk : k < n) (he : ∀ j,k < j -> j < n -> a[j]?.getD 0 = b[j]?.getD 0) (hlt : a[k]?.getD 0 < b[k]?.getD 0) : val a < val b:=by
 have h1 : ∀ m,k < n - m -> m <= n -> val (a.drop (n - m)) = val (b.drop (n - m)):=by
  intro m
  induction m with
  | zero=>intro _ _;rw [Nat.sub_zero,List.drop_of_length_le (by omega),List.drop_of_length_le (by omega)]
  | succ m ih =>
   intro h h';rw [Zia (l:=a) (by omega),Zia (l:=b) (by omega),he _ h (by omega),show n - (m + 1) + 1 = n - m by omega,ih (by omega) (by omega)]
 have h2 : val (a.drop (k + 1)) = val (b.drop (k + 1)):=by
  rcases Nat.lt_or_ge (k + 1) n with h | h
  ·have:=h1 (n - (k + 1)) (by omega) (by omega)
   rwa [show n - (n - (k + 1)) = k + 1 by omega] at this
  ·rw [List.drop_of_length_le (by omega),List.drop_of_length_le (by omega)]
 have h3:=Zz a k (by omega);have h4:=Zz b k (by omega);rw [Zia (by omega)] at h3 h4;have h5:=Zdc (hla.take k);rw [List.length_take,Nat.min_eq_left (by omega)] at h5;rw [h3,h4,h2]
 generalize val (b.drop (k + 1)) = t
 have : pw k * (a[k]?.getD 0 + 4294967296 * t + 1) <= pw k * (b[k]?.getD 0 + 4294967296 * t):=Nat.mul_le_mul_left _ (by omega);rw [Nat.mul_add,Nat.mul_one] at this;omega
theorem Zpr {a b : List Nat} {n : Nat} (ha : a.length = n) (hb : b.length = n) (he : ∀ j,j < n -> a[j]?.getD 0 = b[j]?.getD 0) : a = b:=by
 apply List.ext_getElem (by omega)
 intro i h1 h2;have:=he i (by omega)
 rwa [List.getElem?_eq_getElem h1,List.getElem?_eq_getElem h2] at this
theorem Ziy (a : List Nat) : Zbd a a = 0:=by simp [Zbd]
theorem Za5 (A B : Option Addr) (n c m d : Nat) (a b : List Nat) (w : World) (ha : Lim w A n c a) (hb : Lim w B m d b) :
    Calls Tryz.prog 137 #[.slice A n c,.slice B m d] w fun e w'=>e = .returned (.int .i64 (Zbd a b)) /\ Below w.heap.size w w':=by
 have hnc:=ha.2.1;have hmd:=hb.2.1;have hcm:=ha.2.2.1;have hdm:=hb.2.2.1;unfold maxLen at hcm hdm
 by_cases h1 : n < m
 ·have hne : (((n : Nat) : Int) != m) = true:=by simp;omega
  have hd : decide (n < m) = true:=by simpa using h1
  have hr : Zbd a b = -1:=by unfold Zbd;rw [ha.len,hb.len,if_pos h1]
  rw [hr];go_enter Tryz.func137,Tryz.ntmps137
  go_wp2
  go_returns;exact ⟨rfl,by go_grown⟩
 by_cases h2 : m < n
 ·have hne : (((n : Nat) : Int) != m) = true:=by simp;omega
  have hd : decide (n < m) = false:=by simpa using h1
  have hr : Zbd a b = 1:=by unfold Zbd;rw [ha.len,hb.len,if_neg h1,if_pos h2]
  rw [hr];go_enter Tryz.func137,Tryz.ntmps137
  go_wp2
  go_returns;exact ⟨rfl,by go_grown⟩
 obtain rfl : n = m:=by omega
 have hne : (((n : Nat) : Int) != n) = false:=by simp
 have h9 : 1 <= 9:=by omega
 refine (callsIn_wide (n:=9)).1 ?_;refine callsIn_of_wp_marks Tryz.func137 rfl trivial ?_ rfl;simp only [Tryz.ntmps137,List.size_toArray,List.length_cons,List.length_nil,Nat.reduceAdd,Nat.reduceSub,Array.replicate_succ,Array.replicate_zero,List.push_toArray,List.append_toArray,List.nil_append,List.cons_append]
 gi_wp2_with (refine ⟨trivial,?_⟩;gi_at_call 170;refine (callsIn_wide.2 (Zhy _ _ _ _)).mono ?_;rintro e w' ⟨rfl,rfl⟩)
 have bB:=Boxed.new w 25 (.slice B n d);have bR:=Boxed.new (w.alloc (.cells #[.slice B n d] 25)) 3 (.int .i64 0);have bN:=Boxed.new ((w.alloc (.cells #[.slice B n d] 25)).alloc (.cells #[.int .i64 0] 3)) 25 (.slice A n c);simp only [World.size_alloc] at bR bN
 have hB0 : Below w.heap.size w (((w.alloc (.cells #[.slice B n d] 25)).alloc (.cells #[.int .i64 0] 3)).alloc (.cells #[.slice A n c] 25)):=by go_grown
 refine wpIn_rangeFunc_ownF rfl h9 (gf:=177) (lb:=#[.pointer (some ⟨w.heap.size + 1 + 1,0,none⟩)]) rfl trivial (enters_of Tryz.func177 (by kernel_rfl) rfl)
  (Zfd 8 (by omega) (w.heap.size + 1 + 1) n c A a _ bN.cell (ha.below hB0)) KpD.trans (fun W l o o' _ h hc _=>KpD.put W l o o' h hc) (Below.refl _ _) (fun _=>rfl)
  (fun pre W=>((∀ p ∈ pre,a[p.1]?.getD 0 = b[p.1]?.getD 0) /\ W.cell? ⟨w.heap.size,0,none⟩ = some (.slice B n d) /\ W.cell? ⟨w.heap.size + 1,0,none⟩ = some (.int .i64 0) /\ W.frozen? ⟨w.heap.size + 1,0,none⟩ = false) /\ Below w.heap.size w W)
  (fun cc pre W=>(cc = .ret /\ ∃ ini last,pre = ini ++ [last] /\ (∀ p ∈ ini,a[p.1]?.getD 0 = b[p.1]?.getD 0) /\
   ((a[last.1]?.getD 0 < b[last.1]?.getD 0 /\ W.cell? ⟨w.heap.size + 1,0,none⟩ = some (.int .i64 (-1))) \/ (b[last.1]?.getD 0 < a[last.1]?.getD 0 /\ W.cell? ⟨w.heap.size + 1,0,none⟩ = some (.int .i64 1)))) /\ Below w.heap.size w W)
  (OwnFrom.and (Own.from (fun s X Y row hs hg hr=>⟨hs.1,cell_kept hs.2.1 hg hr,cell_kept hs.2.2.1 hg hr,(frozen_kept hs.2.2.1 hg hr).trans hs.2.2.2⟩) _) (ownFrom_below (Nat.le_refl _) (by simp;omega)))
  (fun cc=>OwnFrom.and (Own.from (fun s X Y row hs hg hr=>by
   obtain ⟨hc,ini,last,e1,e2,e3⟩:=hs;refine ⟨hc,ini,last,e1,e2,?_⟩
   rcases e3 with ⟨e3,e4⟩ | ⟨e3,e4⟩
   ·exact .inl ⟨e3,cell_kept e4 hg hr⟩
   ·exact .inr ⟨e3,cell_kept e4 hg hr⟩) _) (ownFrom_below (Nat.le_refl _) (by simp;omega)))
  ⟨⟨by simp,((bB.alloc _).alloc _).cell,(bR.alloc _).cell,(bR.alloc _).frozen⟩,hB0⟩
  (fun x=>{ tmps:=#[.slice A n c,.slice B n d,undef,.pointer (some ⟨w.heap.size,0,none⟩),.pointer (some ⟨w.heap.size + 1,0,none⟩),.int .i64 (x.1 : Int),limb (a[x.1]?.getD 0),.slice A n c,
   .int .i64 n,.slice B n d,.int .i64 n,.bool false,undef,undef,undef,undef,undef,.slice A n c,.func (.func 177) #[] #[.pointer (some ⟨w.heap.size + 1 + 1,0,none⟩)],.int .i64 (x.1 : Int),limb (a[x.1]?.getD 0),
   undef,undef,undef,undef,undef,undef,undef,undef,undef,undef,undef,undef],defers:=[] }) ?assign ?body ?done ?stop
 case assign =>
  intro l x W K hK;dsimp only [Zet]
  gi_wp2
  exact hK
 case body =>
  rintro l pre x W ⟨⟨hp,hcB,hcr,hfr⟩,hB⟩ _;obtain ⟨i,hi⟩:=x;obtain ⟨bb,ob,rfl,hcx⟩:=(hb.below hB).at_ hi
  by_cases t1 : a[i]?.getD 0 < b[i]?.getD 0
  ·have hd1 : decide (a[i]?.getD 0 < b[i]?.getD 0) = true:=by simpa using t1
   gi_wp2
   exact ⟨KeepsOthers.setCell _ _ _,⟨rfl,pre,⟨i,hi⟩,rfl,hp,.inl ⟨t1,World.cell?_setCell_same' _ _ _ (by rw [hcr];rfl)⟩⟩,hB.setCell (p:=⟨w.heap.size + 1,0,none⟩) (by simp) _⟩
  ·have hd1 : decide (a[i]?.getD 0 < b[i]?.getD 0) = false:=by simpa using t1
   by_cases t2 : b[i]?.getD 0 < a[i]?.getD 0
   ·have hd2 : decide (b[i]?.getD 0 < a[i]?.getD 0) = true:=by simpa using t2
    gi_wp2
    exact ⟨KeepsOthers.setCell _ _ _,⟨rfl,pre,⟨i,hi⟩,rfl,hp,.inr ⟨t2,World.cell?_setCell_same' _ _ _ (by rw [hcr];rfl)⟩⟩,hB.setCell (p:=⟨w.heap.size + 1,0,none⟩) (by simp) _⟩
   ·have hd2 : decide (b[i]?.getD 0 < a[i]?.getD 0) = false:=by simpa using t2
    gi_wp2
    exact ⟨KeepsOthers.refl _,KpD.refl _ _ _ _ _ _,⟨fun p hp'=>(List.mem_append.1 hp').elim (hp p) (fun e=>by simp at e;subst e;simp;omega),hcB,hcr,hfr⟩,hB⟩
 case done =>
  rintro D ys W hD rfl ⟨⟨hne,hcB,hcr,hfr⟩,hB⟩ hK;have hab : a = b:=Zpr ha.len hb.len (fun j hj=>hne ⟨j,hj⟩ ((Zh9 (Nat.le_refl _) _).2 (by simp)))
  gi_wp2
  have hK':=(KeepsOthers.setCell W ⟨w.heap.size + 1,0,none⟩ (.int .i64 0)).same D _ hK rfl;refine ⟨by simp,.inl ⟨_,_,rfl,run_takeDeferred hK',?_⟩⟩;have hc5:=cell_kept (World.cell?_setCell_same' W ⟨w.heap.size + 1,0,none⟩ (.int .i64 0) (by rw [hcr];rfl)) (grownBy_putObj' _ D (.deferred none)) (fun r e=>by cases e;exact ⟨_,hK',rfl⟩);refine ⟨.int .i64 0,?_,by rw [hab,Ziy],(hB.setCell (p:=⟨w.heap.size + 1,0,none⟩) (by simp) _).trans (belowK_b (w:=w) (Nat.le_refl _) _ D _ _ (by simp at hD;omega) hK' rfl rfl)⟩
  simp [results,Tryz.f137,go_sem,hc5]
 case stop =>
  rintro D cc pre W hD ⟨k,hk,rfl⟩ ⟨⟨rfl,ini,last,e1,e2,e3⟩,hB⟩ hK
  obtain ⟨k',rfl⟩ : ∃ k',k = k' + 1:=by
   cases k with
   | zero=>simp [Zbm] at e1
   | succ k'=>exact ⟨k',rfl⟩
  rw [Zb5 (by omega)] at e1;obtain ⟨rfl,e5⟩:=List.append_inj' e1 rfl
  have e6 : last.1 = n - 1 - k':=by
   have:=congrArg (List.map (fun z : { i : Nat // i < n }=>z.1)) e5
   simpa using this.symm
  rw [e6] at e3
  have he : ∀ j,n - 1 - k' < j -> j < n -> a[j]?.getD 0 = b[j]?.getD 0:=fun j hj hj'=>e2 ⟨j,hj'⟩ ((Zh9 (by omega) _).2 (by simp;omega))
  obtain ⟨r,hcr,hr⟩ : ∃ r : Int,W.cell? ⟨w.heap.size + 1,0,none⟩ = some (.int .i64 r) /\ Zbd a b = r:=by
   rcases e3 with ⟨e3,e4⟩ | ⟨e3,e4⟩
   ·have:=Zgw ha.len hb.len ha.lt (by omega) he e3
    exact ⟨_,e4,by unfold Zbd;rw [ha.len,hb.len];simp [this]⟩
   ·have:=Zgw hb.len ha.len hb.lt (by omega) (fun j h h'=>(he j h h').symm) e3
    exact ⟨_,e4,by unfold Zbd;rw [ha.len,hb.len];simp [this];omega⟩
  gi_wp2
  refine ⟨by simp,.inl ⟨_,_,rfl,run_takeDeferred hK,?_⟩⟩;have hc5:=cell_kept hcr (grownBy_putObj' _ D (.deferred none)) (fun r e=>by cases e;exact ⟨_,hK,rfl⟩);refine ⟨.int .i64 r,?_,by rw [hr],hB.trans (belowK_b (w:=w) (Nat.le_refl _) W D _ _ (by simp at hD;omega) hK rfl rfl)⟩
  simp [results,Tryz.f137,go_sem,hc5]
open Go.RowKit
structure WE where
 neg : Bool
 A : Option Addr
 n : Nat
 c : Nat
 l : List Nat
def okW (neg : Bool) (l : List Nat) : Bool:=decide (l.length <= 4096) && decide (l.getLast? ≠ some 0) && !(l.isEmpty && neg)
def WE.ok (e : WE) : Bool:=okW e.neg e.l
theorem Znw {neg : Bool} {l : List Nat} (h : 4096 < l.length) : okW neg l = false:=by unfold okW;simp;omega
theorem Zfu {l : List Nat} (h : 0 < l.length) : l.getLast? = some (l[l.length - 1]?.getD 0):=by
 rw [List.getLast?_eq_getElem?,List.getElem?_eq_getElem (by omega)];rfl
theorem Zlw {neg : Bool} {l : List Nat} (h : 0 < l.length) (h' : l[l.length - 1]?.getD 0 = 0) : okW neg l = false:=by
 unfold okW;rw [Zfu h,h'];simp
theorem Zqv {neg : Bool} {l : List Nat} (h : 0 < l.length) (h1 : l.length <= 4096) (h' : l[l.length - 1]?.getD 0 ≠ 0) : okW neg l = true:=by
 have hne : l.isEmpty = false:=by cases l <;> simp_all
 unfold okW;rw [Zfu h]
 simp [h1,hne,h']
theorem Zjo {neg : Bool} {l : List Nat} (h : l.length = 0) : okW neg l = !neg:=by
 have : l = []:=List.eq_nil_of_length_eq_zero h;subst this;simp [okW]
theorem Zgt {neg : Bool} {l : List Nat} (hl : Lt32 l) : okW neg l = true ↔ neg = decide (sg neg (val l) < 0) /\ l.length <= 4096 /\ l = digits (sg neg (val l)).natAbs:=by
 rw [Zw,Zh1]
 constructor
 ·intro h
  unfold okW at h;simp only [Bool.and_eq_true,decide_eq_true_eq,Bool.not_eq_true',Bool.and_eq_false_imp] at h;obtain ⟨⟨h1,h2⟩,h3⟩:=h;have h4:=Zjl hl h2;refine ⟨?_,h1,h4⟩
  cases neg with
  | false=>rfl
  | true =>
   have : l ≠ []:=fun e=>by subst e;simp at h3
   have : 0 < val l:=by
    rw [<- length_digits_pos,<- h4];exact List.length_pos_iff.2 this
   simp [this]
 ·rintro ⟨h1,h2,h3⟩
  unfold okW;simp only [Bool.and_eq_true,decide_eq_true_eq,Bool.not_eq_true',Bool.and_eq_false_imp];refine ⟨⟨h2,by rw [h3];exact Zd2 _⟩,fun h=>?_⟩
  have : l = []:=by simpa using h
  subst this;rw [h1];simp [val]
theorem Wd.ok {w : World} {neg : Bool} {A : Option Addr} {n c : Nat} {z : Int} (h : Wd w neg A n c z) : okW neg (digits z.natAbs) = true:=by
 rw [Zgt (Zc6 _),h.sgEq];exact ⟨h.1,by rw [h.2.2.len];exact h.2.1,rfl⟩
theorem Wd.of_ok {w : World} {neg : Bool} {A : Option Addr} {n c : Nat} {l : List Nat} (h : Lim w A n c l) (hk : okW neg l = true) : Wd w neg A n c (sg neg (val l)):=by
 obtain ⟨h1,h2,h3⟩:=(Zgt h.lt).1 hk;refine ⟨h1,by rw [<- h.len];exact h2,?_⟩;rw [<- h3];exact h
def WL (w : World) (A : Option Addr) (n c : Nat) (es : List WE) : Prop:=
 es.length = n /\ n <= c /\ c <= maxLen /\ (0 < n -> ∃ b o,A = some ⟨b,o,none⟩ /\ ∀ k e,es[k]? = some e -> w.cell? ⟨b,o + k * 2,none⟩ = some (.bool e.neg) /\ w.cell? ⟨b,o + k * 2 + 1,none⟩ = some (.slice e.A e.n e.c)) /\
  ∀ e ∈ es,Lim w e.A e.n e.c e.l
section
variable {w w' : World} {A : Option Addr} {n c : Nat} {es : List WE}
theorem WL.len (h : WL w A n c es) : es.length = n:=h.1
theorem WL.at_ (h : WL w A n c es) {k : Nat} (hk : k < n) : ∃ b o e,A = some ⟨b,o,none⟩ /\ es[k]? = some e /\ w.cell? ⟨b,o + k * 2,none⟩ = some (.bool e.neg) /\ w.cell? ⟨b,o + k * 2 + 1,none⟩ = some (.slice e.A e.n e.c) /\ Lim w e.A e.n e.c e.l:=by
 obtain ⟨b,o,e,hc⟩:=h.2.2.2.1 (by omega)
 have hl : k < es.length:=by rw [h.1];exact hk
 have:=hc k _ (List.getElem?_eq_getElem hl);exact ⟨b,o,es[k],e,List.getElem?_eq_getElem hl,this.1,this.2,h.2.2.2.2 _ (List.getElem_mem hl)⟩
theorem WL.keep (h : WL w A n c es) (hk : ∀ p : Addr,p.block < w.heap.size -> w'.cell? p = w.cell? p) : WL w' A n c es:=
 ⟨h.1,h.2.1,h.2.2.1,fun hn=>by
  obtain ⟨b,o,e,hc⟩:=h.2.2.2.1 hn;exact ⟨b,o,e,fun k e' he=>⟨(hk _ (Zr (hc k e' he).1)).trans (hc k e' he).1,(hk _ (Zr (hc k e' he).2)).trans (hc k e' he).2⟩⟩,
  fun e he=>(h.2.2.2.2 e he).keep hk⟩
theorem WL.below (h : WL w A n c es) (hb : Below w.heap.size w w') : WL w' A n c es:=h.keep fun _ hp=>hb.cell hp
end
theorem WL.one {w : World} {neg : Bool} {A : Option Addr} {n c : Nat} {l : List Nat} (h : Lim w A n c l) (t : TypeId) :
    WL (w.alloc (.cells #[.bool neg,.slice A n c] t)) (some ⟨w.heap.size,0,none⟩) 1 1 [⟨neg,A,n,c,l⟩]:=
 ⟨rfl,by omega,by unfold maxLen;omega,fun _=>⟨_,_,rfl,fun k e he=>by
  cases k with
  | zero =>
   simp at he;subst he
   have hb:=Blk.new w t #[.bool neg,.slice A n c];exact ⟨hb.cell 0,hb.cell 1⟩
  | succ k=>simp at he⟩,fun e he=>by simp at he;subst he;exact h.alloc _⟩
theorem WL.two {w : World} {neg neg' : Bool} {A A' : Option Addr} {n c n' c' : Nat} {l l' : List Nat} (h : Lim w A n c l) (h' : Lim w A' n' c' l') (t : TypeId) :
    WL (w.alloc (.cells #[.bool neg,.slice A n c,.bool neg',.slice A' n' c'] t)) (some ⟨w.heap.size,0,none⟩) 2 2 [⟨neg,A,n,c,l⟩,⟨neg',A',n',c',l'⟩]:=
 ⟨rfl,by omega,by unfold maxLen;omega,fun _=>⟨_,_,rfl,fun k e he=>by
  have hb:=Blk.new w t #[.bool neg,.slice A n c,.bool neg',.slice A' n' c']
  match k with
  | 0=>simp at he;subst he;exact ⟨hb.cell 0,hb.cell 1⟩
  | 1=>simp at he;subst he;exact ⟨hb.cell 2,hb.cell 3⟩
  | k + 2=>simp at he⟩,fun e he=>by
   simp at he
   rcases he with rfl | rfl
   ·exact h.alloc _
   ·exact h'.alloc _⟩
theorem Zc {W w1 : World} {g : Nat} {t : TypeId} {cs : Array Value} (hb : Below W.heap.size W w1) (h : Blk W g t cs) : Blk w1 g t cs:=h.below hb h.lt
def NoLimb (cs : Array Value) : Prop:=∀ (i x : Nat),cs[i]? ≠ some (limb x)
theorem NoLimb.box (b : Bool) (A : Option Addr) (n c : Nat) : NoLimb #[.bool b,.slice A n c]:=fun i x=>by
 match i with
 | 0=>simp
 | 1=>simp
 | i + 2=>simp
theorem Lim.set_box {w : World} {A : Option Addr} {n c : Nat} {l : List Nat} (h : Lim w A n c l) {g : Nat} {t : TypeId} {cs : Array Value} (hb : Blk w g t cs) (hcs : NoLimb cs) (i : Nat) (u : Value) : Lim (w.setCell ⟨g,i,none⟩ u) A n c l:=
 ⟨h.1,h.2.1,h.2.2.1,h.2.2.2.1,fun hn=>by
  obtain ⟨b,o,e,hc⟩:=h.2.2.2.2 hn;refine ⟨b,o,e,fun k hk=>(World.cell?_setCell_other w _ _ u ?_).trans (hc k hk)⟩;intro he
  have hbg : b = g:=by cases he;rfl
  have:=hc k hk;rw [hbg,hb.cell] at this
  exact hcs _ _ this⟩
theorem ResP.set_box {w : World} {z : Int} {neg : Bool} {A : Option Addr} {n c : Nat} {code : Int} (h : ResP w z neg A n c code) {g : Nat} {t : TypeId} {cs : Array Value} (hb : Blk w g t cs) (hcs : NoLimb cs) (i : Nat) (u : Value) : ResP (w.setCell ⟨g,i,none⟩ u) z neg A n c code:=by
 rcases h with ⟨h1,h2,h3⟩ | h
 ·exact .inl ⟨h1,h2,h3.1,h3.2.1,h3.2.2.set_box hb hcs i u⟩
 ·exact .inr h
theorem ResW.box {w w3 : World} {z : Int} {neg : Bool} {A : Option Addr} {n c : Nat} {code : Int} {g : Nat} {t : TypeId} {b0 : Bool} {A0 : Option Addr} {n0 c0 : Nat} (hP : ResP w3 z neg A n c code) (hB : Below w.heap.size w w3) (hg : w.heap.size <= g) (hb : Blk w3 g t #[.bool b0,.slice A0 n0 c0]) :
    ResW w z (.returned (.tuple #[.agg #[.bool neg,.slice A n c],.int .i64 code])) ((w3.setCell ⟨g,0,none⟩ (.bool neg)).setCell ⟨g,1,none⟩ (.slice A n c)):=by
 have hb1 : Blk (w3.setCell ⟨g,0,none⟩ (.bool neg)) g t #[.bool neg,.slice A0 n0 c0]:=hb.set_ 0 (.bool neg);exact ⟨(hB.setCell (p:=⟨g,0,none⟩) hg _).setCell (p:=⟨g,1,none⟩) hg _,_,_,_,_,_,rfl,(hP.set_box hb (NoLimb.box _ _ _ _) _ _).set_box hb1 (NoLimb.box _ _ _ _) _ _⟩
def Zf2 (b : Bool) : Int:=if b then 0 else 8
theorem Zga (A : Option Addr) (n c : Nat) (es : List WE) (w : World) (h : WL w A n c es) :
    Calls Tryz.prog 130 #[.slice A n c] w fun e w'=>e = .returned (.int .i64 (Zf2 (es.all WE.ok))) /\ Below w.heap.size w w':=by
 have hnc:=h.2.1;have hcm:=h.2.2.1;unfold maxLen at hcm;go_enter Tryz.func130,Tryz.ntmps130
 go_wp2
 go_loopw [8] (fun v wr=>∃ k : Nat,k <= n /\ v = .int .i64 k /\ Hid (∀ e ∈ es.take k,e.ok = true) /\ Below w.heap.size w wr) (fun v _=>n - (intOf v).toNat)
 case atStart=>exact ⟨0,Nat.zero_le _,rfl,by unfold Hid;simp,Below.refl _ _⟩
 case round =>
  obtain ⟨k,hk,rfl,ho,hB⟩:=hrel
  by_cases hk0 : k < n
  ·obtain ⟨b,o,e,rfl,he,hc1,hc2,hL⟩:=(h.below hB).at_ hk0
   have hle:=hL.2.1;have hem:=hL.2.2.1;unfold maxLen at hem;have HE:=Za he;have HLen:=Za hL.len
   have hgood : Hid (e.ok = true -> ∀ x ∈ es.take (k + 1),x.ok = true):=fun hok x hx=>by
    rw [List.take_add_one,HE.out] at hx
    rcases List.mem_append.1 hx with hx | hx
    ·exact ho.out x hx
    ·simp at hx;subst hx;exact hok
   have hbad : Hid (e.ok = false -> Ending.returned (.int .i64 8) = .returned (.int .i64 (Zf2 (es.all WE.ok)))):=fun hok=>by
    have : es.all WE.ok = false:=by
     rw [List.all_eq_false];exact ⟨e,List.mem_of_getElem? HE.out,by simp [hok]⟩
    rw [this];rfl
   obtain ⟨neg,A1,n1,c1,l1⟩:=e;dsimp only at hc1 hc2 hL hle hem HLen;clear he
   by_cases t1 : n1 <= 4096
   ·by_cases t2 : 0 < n1
    ·obtain ⟨b1,o1,rfl,hx⟩:=hL.at_ (k:=n1 - 1) (by omega)
     have hb1:=Zr hx
     by_cases t3 : l1[n1 - 1]?.getD 0 = 0
     ·have hx3 : (((l1[n1-1]?.getD 0 : Nat) : Int) == 0) = true:=by simp [t3]
      have H8:=Za (hbad.out (Zlw (by rw [HLen.out];exact t2) (by rw [HLen.out];exact t3)));clear t3 hL
      go_wp2
      go_ret;exact ⟨H8.out,hB.alloc hB.size _⟩
     ·have hx3 : (((l1[n1-1]?.getD 0 : Nat) : Int) == 0) = false:=by simpa using t3
      have HG:=Za (hgood.out (Zqv (by rw [HLen.out];exact t2) (by rw [HLen.out];exact t1) (by rw [HLen.out];exact t3)))
      have hd1 : ((n1 : Int) == 0) = false:=by simp;omega
      clear t3 hL
      cases neg
      all_goals
       go_wp2
       go_roundw
       case rel=>exact ⟨k + 1,by omega,by go_num,HG,hB.alloc hB.size _⟩
       case measure=>simp [intOf];omega
    ·obtain rfl : n1 = 0:=by omega
     cases neg
     ·have HG:=Za (hgood.out (by unfold WE.ok;rw [Zjo HLen.out];rfl))
      clear hL
      go_wp2
      go_roundw
      case rel=>exact ⟨k + 1,by omega,by go_num,HG,hB.alloc hB.size _⟩
      case measure=>simp [intOf];omega
     ·have H8:=Za (hbad.out (by unfold WE.ok;rw [Zjo HLen.out];rfl))
      clear hL
      go_wp2
      go_ret;exact ⟨H8.out,hB.alloc hB.size _⟩
   ·have H8:=Za (hbad.out (Znw (by rw [HLen.out];omega)))
    clear hL
    go_wp2
    go_ret;exact ⟨H8.out,hB.alloc hB.size _⟩
  ·obtain rfl : k = n:=by omega
   have HA : Hid (es.all WE.ok = true):=by
    unfold Hid;rw [List.all_eq_true];have:=ho.out;rw [List.take_of_length_le (by rw [h.len];exact Nat.le_refl _)] at this;exact this
   go_wp2
   go_ret;exact ⟨by rw [HA.out];rfl,hB⟩
theorem Zbe {A : Option Addr} {n c : Nat} {es : List WE} {w : World} (h : WL w A n c es) (hk : es.all WE.ok = true) :
    Calls Tryz.prog 130 #[.slice A n c] w fun e w'=>e = .returned (.int .i64 0) /\ Below w.heap.size w w':=
 (Zga A n c es w h).mono fun _ _ ⟨he,hb⟩=>⟨by rw [he,hk];rfl,hb⟩
theorem Zn6 {A : Option Addr} {n c : Nat} {es : List WE} {w : World} (h : WL w A n c es) (hk : es.all WE.ok = false) :
    Calls Tryz.prog 130 #[.slice A n c] w fun e w'=>e = .returned (.int .i64 8) /\ Below w.heap.size w w':=
 (Zga A n c es w h).mono fun _ _ ⟨he,hb⟩=>⟨by rw [he,hk];rfl,hb⟩
theorem Zi3 (neg : Bool) (A : Option Addr) (n c : Nat) (l : List Nat) (w : World) (h : Lim w A n c l) :
    Calls Tryz.prog 147 #[.agg #[.bool neg,.slice A n c]] w fun e w'=>e = .returned (.int .i64 (Zf2 (okW neg l))) /\ Below w.heap.size w w':=by
 have hW : ∀ X t,WL ((w.alloc X).alloc (.cells #[.bool neg,.slice A n c] t)) (some ⟨w.heap.size + 1,0,none⟩) 1 1 [⟨neg,A,n,c,l⟩]:=fun X t=>by
  have:=WL.one (neg:=neg) (h.alloc X) t;rw [World.size_alloc] at this;exact this
 have hW:=Za hW;go_enter Tryz.func147,Tryz.ntmps147;go_wp2_with (go_at_call 130;refine (Zga _ _ _ _ _ (hW.out _ _)).mono ?_;rintro e w1 ⟨rfl,hb⟩);go_ret;exact ⟨by simp [WE.ok],((Below.refl _ _).alloc (Nat.le_refl _) _).alloc (by simp) _ |>.trans (hb.mono (by simp;omega))⟩
theorem Zdy {va vb : Nat} : (0 <= Zbd (digits va) (digits vb)) ↔ vb <= va:=by
 unfold Zbd;rw [Zf,Zf]
 split
 ·rename_i h
  have:=(Zn va ((digits vb).length - 1)).1 (by omega);have h2:=Zcq (n:=vb) (k:=(digits vb).length - 1) (by omega)
  constructor <;> intro <;> omega
 ·split
  ·rename_i h
   have:=(Zn vb ((digits va).length - 1)).1 (by omega);have h2:=Zcq (n:=va) (k:=(digits va).length - 1) (by omega)
   constructor <;> intro <;> omega
  ·split
   ·constructor <;> intro <;> omega
   ·split <;> constructor <;> intro <;> omega
theorem Zgj (s : Bool) (a b : Nat) : sg s (a + b) = sg s a + sg s b:=by unfold sg;split <;> omega
theorem Zc4 {s t : Bool} (h : s ≠ t) {a b d : Nat} (hd : d + b = a) : sg s d = sg s a + sg t b:=by
 cases s <;> cases t <;> simp_all [sg] <;> omega
end Go.Proofs.YtpehacgjclkhmaaGreat
