/- Package wide: down, an iterator over limbs from the -/
import Derived.RangeFuncBox
import Derived.RangeFuncLeaves
import Derived.RangeFuncNested
import Derived.RangeFuncCalls
import Derived.Shelf.Abstract
import Derived.OwnWalkIn
import Derived.TacticsInMore
import Derived.LoopNIn
import Derived.LoopIn
import Derived.Deep.RegionHeld3
import Derived.TacticsIn
import Derived.Shelf.RegionOpen
import Derived.Test.YtigdclhagmnopaaGreatZp01
set_option maxRecDepth 100000
set_option maxHeartbeats 2000000
set_option linter.unusedSimpArgs false
set_option linter.unusedVariables false
namespace Go.Proofs.YtigdclhagmnopaaGreat
open Go.RowKit Go.Shelf
attribute [local go_sem] Zh
attribute [local go_sem] Oper.semAt_some
def Zcm (n : Nat) : Nat -> List { i : Nat // i < n }
 | 0=>[]
 | k + 1=>Zcm n k ++ (if h : k < n then [⟨n - 1 - k,by omega⟩] else [])
theorem Zc7 {n k : Nat} (h : k < n) : Zcm n (k + 1) = Zcm n k ++ [⟨n - 1 - k,by omega⟩]:=by simp [Zcm,h]
theorem Zcw {n k : Nat} (h : k <= n) : (Zcm n k).length = k:=by
 induction k with
 | zero=>rfl
 | succ k ih=>rw [Zc7 (by omega)];simp [ih (by omega)]
theorem Zkx {n k : Nat} (h : k <= n) (i : { i : Nat // i < n }) : i ∈ Zcm n k ↔ n - k <= i.1:=by
 induction k with
 | zero=>simp [Zcm];omega
 | succ k ih =>
  have:=i.2;rw [Zc7 (by omega),List.mem_append,ih (by omega),List.mem_singleton,Subtype.ext_iff]
  simp;omega
def Zg9 (l : List Nat) (n : Nat) (i : { i : Nat // i < n }) : Array Value:=#[.int .i64 (i.1 : Int),limb (l[i.1]?.getD 0)]
theorem Zf9 {W W' : World} {row : Option Nat} {A : Option Addr} {n c : Nat} {l : List Nat} (h : Lim W A n c l) (hg : W.grownBy W' row) (hrow : ∀ r,row = some r -> ∃ o : Obj,W.heap[r]? = some o /\ o.isCells = false) : Lim W' A n c l:=
 ⟨h.1,h.2.1,h.2.2.1,h.2.2.2.1,fun hn=>by
  obtain ⟨b,o,e,hc⟩:=h.2.2.2.2 hn
  exact ⟨b,o,e,fun k hk=>cell_kept (hc k hk) hg hrow⟩⟩
def KpD (Bs : Nat) (A : Option Addr) (n c : Nat) (l : List Nat) (W W' : World) : Prop:=
 (W.cell? ⟨Bs,0,none⟩ = some (.slice A n c) -> W'.cell? ⟨Bs,0,none⟩ = some (.slice A n c)) /\ (Lim W A n c l -> Lim W' A n c l)
theorem KpD.refl (Bs : Nat) (A : Option Addr) (n c : Nat) (l : List Nat) (W : World) : KpD Bs A n c l W W:=⟨id,id⟩
theorem KpD.trans {Bs n c : Nat} {A : Option Addr} {l : List Nat} {W1 W2 W3 : World} (h : KpD Bs A n c l W1 W2) (k : KpD Bs A n c l W2 W3) : KpD Bs A n c l W1 W3:=⟨fun x=>k.1 (h.1 x),fun x=>k.2 (h.2 x)⟩
theorem KpD.put {Bs n c : Nat} {A : Option Addr} {l : List Nat} (W : World) (lp : Nat) (o o' : Obj) (ho : W.heap[lp]? = some o) (hc : o.isCells = false) : KpD Bs A n c l W (W.putObj lp o'):=
 ⟨fun h=>cell_kept h (grownBy_putObj' W lp o') (fun r e=>by cases e;exact ⟨o,ho,hc⟩),fun h=>Zf9 h (grownBy_putObj' W lp o') (fun r e=>by cases e;exact ⟨o,ho,hc⟩)⟩
theorem KpD.set_ {Bs n c : Nat} {A : Option Addr} {l : List Nat} {w W : World} {g o : Nat} (hL : Lim w A n c l) (hg : w.heap.size <= g) (hB : g ≠ Bs) (u : Value) : KpD Bs A n c l W (W.setCell ⟨g,o,none⟩ u):=
 ⟨fun h=>(World.cell?_setCell_other W _ _ u (fun e=>hB (by cases e;rfl))).trans h,fun h=>⟨h.1,h.2.1,h.2.2.1,h.2.2.2.1,fun hn=>by
  obtain ⟨b,o',e,hc⟩:=h.2.2.2.2 hn;obtain ⟨b1,o1,e1,hc1⟩:=hL.2.2.2.2 hn;rw [e] at e1
  cases e1
  have hlt:=Zp (hc1 0 hn)
  exact ⟨b,o',e,fun k hk=>(World.cell?_setCell_other W _ _ u (fun e2=>by cases e2;simp at hlt;omega)).trans (hc k hk)⟩⟩⟩
theorem Zuz (d : Nat) (hd : 1 <= d) (lp Bs n c : Nat) (A : Option Addr) (l : List Nat) (J Jx : List { i : Nat // i < n } -> World -> Prop)
    (hY : ∀ pre x W,J pre W -> pre.length < n -> YieldAt Fence.wide (d - 1) Tryz.prog lp (Zg9 l n x) W fun e W' =>
     (e = .returned (.bool true) /\ J (pre ++ [x]) W' /\ KpD Bs A n c l W W') \/ (e = .returned (.bool false) /\ Jx (pre ++ [x]) W'))
    (W : World) (hBs : W.cell? ⟨Bs,0,none⟩ = some (.slice A n c)) (hL : Lim W A n c l) (h0 : J [] W) :
    CallsIn Fence.wide d Tryz.prog 185 #[.func (.yield lp) #[] #[],.pointer (some ⟨Bs,0,none⟩)] W fun e W'=>(∃ v,e = .returned v) /\
     ((∃ ys,ys = Zcm n n /\ J ys W') \/ (∃ pre,(∃ k,k <= n /\ pre = Zcm n k) /\ Jx pre W')):=by
 have hnc:=hL.2.1;have hcm:=hL.2.2.1;unfold maxLen at hcm;refine callsIn_of_wp Tryz.func185 rfl trivial ?_ rfl;simp only [Tryz.ntmps185,List.size_toArray,List.length_cons,List.length_nil,Nat.reduceAdd,Nat.reduceSub,Array.replicate_succ,Array.replicate_zero,List.push_toArray,List.append_toArray,List.nil_append,List.cons_append]
 gi_wp2
 gi_loopw [3] (fun i wr=>∃ k : Nat,k <= n /\ i = .int .i64 ((n : Int) - 1 - k) /\ J (Zcm n k) wr /\ Hid (wr.cell? ⟨Bs,0,none⟩ = some (.slice A n c)) /\ Lim wr A n c l)
  (fun i _=>(intOf i + 1).toNat)
 case atStart=>exact ⟨0,Nat.zero_le _,by go_num,h0,hBs,hL⟩
 case round =>
  obtain ⟨k,hk,rfl,hJs,hbx',hLr⟩:=hrel;have hbx:=hbx'.out
  by_cases hlt : k < n
  ·obtain ⟨b,o,rfl,hcx⟩:=hLr.at_ (k:=n - 1 - k) (by omega)
   obtain ⟨fn,tmps,assign,body,hy,hR⟩:=hY _ ⟨n - 1 - k,by omega⟩ wr hJs (by rw [Zcw hk];exact hlt);dsimp only [Zg9] at hy;rw [show ((n - 1 - k : Nat) : Int) = (n : Int) - 1 - k by omega] at hy
   gi_wp2
   refine hR.mono ?_;rintro e W3 (⟨rfl,hJ3,hk3⟩ | ⟨rfl,hJx3⟩)
   ·have hbx3:=Za (hk3.1 hbx'.out)
    gi_wp2
    go_roundw
    case rel=>exact ⟨k + 1,by omega,by go_num,by rw [Zc7 hlt];exact hJ3,hbx3,hk3.2 hLr⟩
    case measure=>simp [intOf];omega
   ·gi_wp2
    refine bodyPost_ret (results_none rfl _ _ _) rfl ?_;exact ⟨⟨_,rfl⟩,.inr ⟨_,⟨k + 1,by omega,(Zc7 hlt).symm⟩,hJx3⟩⟩
  ·obtain rfl : k = n:=by omega
   gi_wp2
   go_end0
   exact ⟨⟨_,rfl⟩,.inl ⟨_,rfl,hJs⟩⟩
theorem Zhu (d : Nat) (hd : 1 <= d) (Bs n c : Nat) (A : Option Addr) (l : List Nat) (w : World) (hc : w.cell? ⟨Bs,0,none⟩ = some (.slice A n c)) (hL : Lim w A n c l) :
    SeqStopsK Fence.wide d Tryz.prog 185 #[.pointer (some ⟨Bs,0,none⟩)] (Zg9 l n) (KpD Bs A n c l) (fun ys=>ys = Zcm n n) (fun pre=>∃ k,k <= n /\ pre = Zcm n k) n w:=fun lp J Jx W hW _ _ hY h0 =>
 Zuz d hd lp Bs n c A l J Jx hY W ((hW.cell (Zp hc)).trans hc) (hL.below hW) h0
theorem Zkl (A : Option Addr) (n c : Nat) (w : World) :
    Calls Tryz.prog 177 #[.slice A n c] w fun e w'=>e = .returned (.func (.func 185) #[] #[.pointer (some ⟨w.heap.size,0,none⟩)]) /\ w.alloc (.cells #[.slice A n c] 41) = w':=by
 go_enter Tryz.func177,Tryz.ntmps177
 go_wp2
 go_ret;exact ⟨rfl,rfl⟩
def Zbz (a b : List Nat) : Int:=if a.length < b.length then -1 else if b.length < a.length then 1 else if val a < val b then -1 else if val b < val a then 1 else 0
theorem Zlu {l : List Nat} {k : Nat} (h : k < l.length) : val (l.drop k) = l[k]?.getD 0 + 4294967296 * val (l.drop (k + 1)):=by
 rw [List.drop_eq_getElem_cons h,val,List.getElem?_eq_getElem h];rfl
theorem Zjy {a b : List Nat} {n k : Nat} (ha : a.length = n) (hb : b.length = n) (hla : Lt32 a) (hk : k < n) (he : ∀ j,k < j -> j < n -> a[j]?.getD 0 = b[j]?.getD 0) (hlt : a[k]?.getD 0 < b[k]?.getD 0) : val a < val b:=by
 have h1 : ∀ m,k < n - m -> m <= n -> val (a.drop (n - m)) = val (b.drop (n - m)):=by
  intro m
  induction m with
  | zero=>intro _ _;rw [Nat.sub_zero,List.drop_of_length_le (by omega),List.drop_of_length_le (by omega)]
  | succ m ih =>
   intro h h';rw [Zlu (l:=a) (by omega),Zlu (l:=b) (by omega),he _ h (by omega),show n - (m + 1) + 1 = n - m by omega,ih (by omega) (by omega)]
 have h2 : val (a.drop (k + 1)) = val (b.drop (k + 1)):=by
  rcases Nat.lt_or_ge (k + 1) n with h | h
  ·have:=h1 (n - (k + 1)) (by omega) (by omega)
   rwa [show n - (n - (k + 1)) = k + 1 by omega] at this
  ·rw [List.drop_of_length_le (by omega),List.drop_of_length_le (by omega)]
 have h3:=Zaa a k (by omega);have h4:=Zaa b k (by omega);rw [Zlu (by omega)] at h3 h4;have h5:=Zfj (hla.take k);rw [List.length_take,Nat.min_eq_left (by omega)] at h5;rw [h3,h4,h2]
 generalize val (b.drop (k + 1)) = t
 have : pw k * (a[k]?.getD 0 + 4294967296 * t + 1) <= pw k * (b[k]?.getD 0 + 4294967296 * t):=Nat.mul_le_mul_left _ (by omega);rw [Nat.mul_add,Nat.mul_one] at this;omega
theorem Zuk {a b : List Nat} {n : Nat} (ha : a.length = n) (hb : b.length = n) (he : ∀ j,j < n -> a[j]?.getD 0 = b[j]?.getD 0) : a = b:=by
 apply List.ext_getElem (by omega)
 intro i h1 h2;have:=he i (by omega)
 rwa [List.getElem?_eq_getElem h1,List.getElem?_eq_getElem h2] at this
theorem Zmd (a : List Nat) : Zbz a a = 0:=by simp [Zbz]
theorem Zb3 (A B : Option Addr) (n c m d : Nat) (a b : List Nat) (w : World) (ha : Lim w A n c a) (hb : Lim w B m d b) :
    Calls Tryz.prog 166 #[.slice A n c,.slice B m d] w fun e w'=>e = .returned (.int .i64 (Zbz a b)) /\ Below w.heap.size w w':=by
 have hnc:=ha.2.1;have hmd:=hb.2.1;have hcm:=ha.2.2.1;have hdm:=hb.2.2.1;unfold maxLen at hcm hdm
 by_cases h1 : n < m
 ·have hne : (((n : Nat) : Int) != m) = true:=by simp;omega
  have hd : decide (n < m) = true:=by simpa using h1
  have hr : Zbz a b = -1:=by unfold Zbz;rw [ha.len,hb.len,if_pos h1]
  rw [hr];go_enter Tryz.func166,Tryz.ntmps166
  go_wp2
  go_returns;exact ⟨rfl,by go_grown⟩
 by_cases h2 : m < n
 ·have hne : (((n : Nat) : Int) != m) = true:=by simp;omega
  have hd : decide (n < m) = false:=by simpa using h1
  have hr : Zbz a b = 1:=by unfold Zbz;rw [ha.len,hb.len,if_neg h1,if_pos h2]
  rw [hr];go_enter Tryz.func166,Tryz.ntmps166
  go_wp2
  go_returns;exact ⟨rfl,by go_grown⟩
 obtain rfl : n = m:=by omega
 have hne : (((n : Nat) : Int) != n) = false:=by simp
 have h9 : 1 <= 9:=by omega
 refine (callsIn_wide (n:=9)).1 ?_;refine callsIn_of_wp_marks Tryz.func166 rfl trivial ?_ rfl;simp only [Tryz.ntmps166,List.size_toArray,List.length_cons,List.length_nil,Nat.reduceAdd,Nat.reduceSub,Array.replicate_succ,Array.replicate_zero,List.push_toArray,List.append_toArray,List.nil_append,List.cons_append]
 gi_wp2_with (refine ⟨trivial,?_⟩;gi_at_call 177;refine (callsIn_wide.2 (Zkl _ _ _ _)).mono ?_;rintro e w' ⟨rfl,rfl⟩)
 have bB:=Boxed.new w 41 (.slice B n d);have bR:=Boxed.new (w.alloc (.cells #[.slice B n d] 41)) 3 (.int .i64 0);have bN:=Boxed.new ((w.alloc (.cells #[.slice B n d] 41)).alloc (.cells #[.int .i64 0] 3)) 41 (.slice A n c);simp only [World.size_alloc] at bR bN
 have hB0 : Below w.heap.size w (((w.alloc (.cells #[.slice B n d] 41)).alloc (.cells #[.int .i64 0] 3)).alloc (.cells #[.slice A n c] 41)):=by go_grown
 refine wpIn_rangeFunc_ownF rfl h9 (gf:=185) (lb:=#[.pointer (some ⟨w.heap.size + 1 + 1,0,none⟩)]) rfl trivial (enters_of Tryz.func185 (by kernel_rfl) rfl)
  (Zhu 8 (by omega) (w.heap.size + 1 + 1) n c A a _ bN.cell (ha.below hB0)) KpD.trans (fun W l o o' _ h hc _=>KpD.put W l o o' h hc) (Below.refl _ _) (fun _=>rfl)
  (fun pre W=>((∀ p ∈ pre,a[p.1]?.getD 0 = b[p.1]?.getD 0) /\ W.cell? ⟨w.heap.size,0,none⟩ = some (.slice B n d) /\ W.cell? ⟨w.heap.size + 1,0,none⟩ = some (.int .i64 0) /\ W.frozen? ⟨w.heap.size + 1,0,none⟩ = false) /\ Below w.heap.size w W)
  (fun cc pre W=>(cc = .ret /\ ∃ ini last,pre = ini ++ [last] /\ (∀ p ∈ ini,a[p.1]?.getD 0 = b[p.1]?.getD 0) /\
   ((a[last.1]?.getD 0 < b[last.1]?.getD 0 /\ W.cell? ⟨w.heap.size + 1,0,none⟩ = some (.int .i64 (-1))) \/ (b[last.1]?.getD 0 < a[last.1]?.getD 0 /\ W.cell? ⟨w.heap.size + 1,0,none⟩ = some (.int .i64 1)))) /\ Below w.heap.size w W)
  (OwnFrom.and (Own.from (fun s X Y row hs hg hr=>⟨hs.1,cell_kept hs.2.1 hg hr,cell_kept hs.2.2.1 hg hr,(frozen_kept hs.2.2.1 hg hr).trans hs.2.2.2⟩) _) (ownFrom_below (Nat.le_refl _) (by simp;omega)))
  (fun cc=>OwnFrom.and (Own.from (fun s X Y row hs hg hr=>by
   obtain ⟨hc,ini,last,e1,e2,e3⟩:=hs;refine ⟨hc,ini,last,e1,e2,?_⟩
   rcases e3 with ⟨e3,e4⟩ | ⟨e3,e4⟩
   ·exact .inl ⟨e3,cell_kept e4 hg hr⟩
   ·exact .inr ⟨e3,cell_kept e4 hg hr⟩) _) (ownFrom_below (Nat.le_refl _) (by simp;omega)))
  ⟨⟨by simp,((bB.alloc _).alloc _).cell,(bR.alloc _).cell,(bR.alloc _).frozen⟩,hB0⟩
  (fun x=>{ tmps:=#[.slice A n c,.slice B n d,undef,.pointer (some ⟨w.heap.size,0,none⟩),.pointer (some ⟨w.heap.size + 1,0,none⟩),.int .i64 (x.1 : Int),limb (a[x.1]?.getD 0),.slice A n c,
   .int .i64 n,.slice B n d,.int .i64 n,.bool false,undef,undef,undef,undef,undef,.slice A n c,.func (.func 185) #[] #[.pointer (some ⟨w.heap.size + 1 + 1,0,none⟩)],.int .i64 (x.1 : Int),limb (a[x.1]?.getD 0),
   undef,undef,undef,undef,undef,undef,undef,undef,undef,undef,undef,undef],defers:=[] }) ?assign ?body ?done ?stop
 case assign =>
  intro l x W K hK;dsimp only [Zg9]
  gi_wp2
  exact hK
 case body =>
  rintro l pre x W ⟨⟨hp,hcB,hcr,hfr⟩,hB⟩ _;obtain ⟨i,hi⟩:=x;obtain ⟨bb,ob,rfl,hcx⟩:=(hb.below hB).at_ hi
  by_cases t1 : a[i]?.getD 0 < b[i]?.getD 0
  ·have hd1 : decide (a[i]?.getD 0 < b[i]?.getD 0) = true:=by simpa using t1
   gi_wp2
   exact ⟨KeepsOthers.setCell _ _ _,⟨rfl,pre,⟨i,hi⟩,rfl,hp,.inl ⟨t1,World.cell?_setCell_same' _ _ _ (by rw [hcr];rfl)⟩⟩,hB.setCell (p:=⟨w.heap.size + 1,0,none⟩) (by simp) _⟩
  ·have hd1 : decide (a[i]?.getD 0 < b[i]?.getD 0) = false:=by simpa using t1
   by_cases t2 : b[i]?.getD 0 < a[i]?.getD 0
   ·have hd2 : decide (b[i]?.getD 0 < a[i]?.getD 0) = true:=by simpa using t2
    gi_wp2
    exact ⟨KeepsOthers.setCell _ _ _,⟨rfl,pre,⟨i,hi⟩,rfl,hp,.inr ⟨t2,World.cell?_setCell_same' _ _ _ (by rw [hcr];rfl)⟩⟩,hB.setCell (p:=⟨w.heap.size + 1,0,none⟩) (by simp) _⟩
   ·have hd2 : decide (b[i]?.getD 0 < a[i]?.getD 0) = false:=by simpa using t2
    gi_wp2
    exact ⟨KeepsOthers.refl _,KpD.refl _ _ _ _ _ _,⟨fun p hp'=>(List.mem_append.1 hp').elim (hp p) (fun e=>by simp at e;subst e;simp;omega),hcB,hcr,hfr⟩,hB⟩
 case done =>
  rintro D ys W hD rfl ⟨⟨hne,hcB,hcr,hfr⟩,hB⟩ hK;have hab : a = b:=Zuk ha.len hb.len (fun j hj=>hne ⟨j,hj⟩ ((Zkx (Nat.le_refl _) _).2 (by simp)))
  gi_wp2
  have hK':=(KeepsOthers.setCell W ⟨w.heap.size + 1,0,none⟩ (.int .i64 0)).same D _ hK rfl;refine ⟨by simp,.inl ⟨_,_,rfl,run_takeDeferred hK',?_⟩⟩;have hc5:=cell_kept (World.cell?_setCell_same' W ⟨w.heap.size + 1,0,none⟩ (.int .i64 0) (by rw [hcr];rfl)) (grownBy_putObj' _ D (.deferred none)) (fun r e=>by cases e;exact ⟨_,hK',rfl⟩);refine ⟨.int .i64 0,?_,by rw [hab,Zmd],(hB.setCell (p:=⟨w.heap.size + 1,0,none⟩) (by simp) _).trans (belowK_b (w:=w) (Nat.le_refl _) _ D _ _ (by simp at hD;omega) hK' rfl rfl)⟩
  simp [results,Tryz.f166,go_sem,hc5]
 case stop =>
  rintro D cc pre W hD ⟨k,hk,rfl⟩ ⟨⟨rfl,ini,last,e1,e2,e3⟩,hB⟩ hK
  obtain ⟨k',rfl⟩ : ∃ k',k = k' + 1:=by
   cases k with
   | zero=>simp [Zcm] at e1
   | succ k'=>exact ⟨k',rfl⟩
  rw [Zc7 (by omega)] at e1;obtain ⟨rfl,e5⟩:=List.append_inj' e1 rfl
  have e6 : last.1 = n - 1 - k':=by
   have:=congrArg (List.map (fun z : { i : Nat // i < n }=>z.1)) e5
   simpa using this.symm
  rw [e6] at e3
  have he : ∀ j,n - 1 - k' < j -> j < n -> a[j]?.getD 0 = b[j]?.getD 0:=fun j hj hj'=>e2 ⟨j,hj'⟩ ((Zkx (by omega) _).2 (by simp;omega))
  obtain ⟨r,hcr,hr⟩ : ∃ r : Int,W.cell? ⟨w.heap.size + 1,0,none⟩ = some (.int .i64 r) /\ Zbz a b = r:=by
   rcases e3 with ⟨e3,e4⟩ | ⟨e3,e4⟩
   ·have:=Zjy ha.len hb.len ha.lt (by omega) he e3
    exact ⟨_,e4,by unfold Zbz;rw [ha.len,hb.len];simp [this]⟩
   ·have:=Zjy hb.len ha.len hb.lt (by omega) (fun j h h'=>(he j h h').symm) e3
    exact ⟨_,e4,by unfold Zbz;rw [ha.len,hb.len];simp [this];omega⟩
  gi_wp2
  refine ⟨by simp,.inl ⟨_,_,rfl,run_takeDeferred hK,?_⟩⟩;have hc5:=cell_kept hcr (grownBy_putObj' _ D (.deferred none)) (fun r e=>by cases e;exact ⟨_,hK,rfl⟩);refine ⟨.int .i64 r,?_,by rw [hr],hB.trans (belowK_b (w:=w) (Nat.le_refl _) W D _ _ (by simp at hD;omega) hK rfl rfl)⟩
  simp [results,Tryz.f166,go_sem,hc5]
open Go.RowKit
def OnlyNormal (Q : Exit -> Act -> World -> Prop) : Exit -> Act -> World -> Prop
 | .normal,a,w=>Q .normal a w
 | _,_,_=>False
theorem OnlyNormal.no_out {Q : Exit -> Act -> World -> Prop} (h : LetsOut (OnlyNormal Q)) : False:=by
 obtain ⟨a,w,h⟩:=h;exact h
theorem OnlyNormal.normal {Q : Exit -> Act -> World -> Prop} {a : Act} {w : World} (h : Q .normal a w) : OnlyNormal Q .normal a w:=h
theorem Zbh {l n : Nat} {P : Program} {ops : Array Oper} {Q : Exit -> Act -> World -> Prop} (hnd : ∀ (i : Nat) (o : Oper),ops[i]? = some o -> ∀ c,o.op ≠ .defer c) :
    ∀ (is : List Nat) (a : Act) (w : World),wpOps P ops (OnlyNormal Q) is a w -> wpOpsIn (Fence.wide.inRound l) n P ops Q is a w
 | [],_,_,h=>h
 | i :: rest,a,w,h=>by
  simp only [wpOps] at h;simp only [wpOpsIn]
  cases ho : ops[i]? with
  | none=>simp only [ho] at h ⊢;exact Zbh hnd rest a w h
  | some o =>
   simp only [ho] at h ⊢
   by_cases hw : Region.wanted o (yielded ops a.tmps) = true
   ·simp only [hw,if_true] at h ⊢
    rcases h with h | ⟨_,h⟩
    ·refine ⟨fun _ _=>trivial,?_⟩
     rw [Oper.semAt_eq _ _ _ (hnd i o ho)];unfold Oper.wp at h
     generalize (execOp a.eval o).run P w = r at *
     cases r with
     | ok x w' =>
      cases x with
      | value v=>exact Zbh hnd rest _ _ h
      | skip=>exact Zbh hnd rest _ _ h
      | defer d=>exact Zbh hnd rest _ _ h
      | enter f args =>
       refine ⟨(fun h=>by cases h),CallsIn.inRound l (callsIn_wide.2 (Calls.mono h fun e w'' he=>?_))⟩
       cases e with
       | returned v=>exact Zbh hnd rest _ _ he
       | panicked c=>exact (he : False).elim
       | outgrown=>exact (OnlyNormal.no_out he).elim
      | row row args =>
       refine ⟨(fun h=>by cases h),fun c cs _=>?_⟩;obtain ⟨v,w'',hR,hs⟩:=h c cs;exact ⟨v,w'',Zbh hnd rest _ _ hR,stepsIn_wide.2 hs⟩
      | _=>exact (h : False).elim
     | halt x w'=>cases x <;> exact (h : False).elim
    ·exact (OnlyNormal.no_out h).elim
   ·simp only [hw,if_false,Bool.false_eq_true] at h ⊢
    exact ⟨fun _ _=>trivial,Zbh hnd rest _ _ h⟩
def Ziq (ops : Array Oper) : Bool:=ops.all fun o=>match o.op with | .defer _=>false | _=>true
theorem Zl1 {ops : Array Oper} (h : Ziq ops = true) : ∀ (i : Nat) (o : Oper),ops[i]? = some o -> ∀ c,o.op ≠ .defer c:=by
 intro i o ho c hc;unfold Ziq at h;rw [Array.all_eq_true] at h;obtain ⟨hi,rfl⟩:=Array.getElem?_eq_some_iff.1 ho;have:=h i hi;rw [hc] at this
 cases this
def Zcs (L : List Nat) (listed : Array Bool) : Bool:=L.all fun k=>!(listed.getD k true)
def Zag (P : Program) (md : Region.Mode) (ops : Array Oper) (Q : Exit -> Act -> World -> Prop) (L : List Nat) (S : World -> Prop) : Nat -> Array Bool -> Act -> World -> Prop
 | 0,listed,a,w=>Region.ready md ops listed = [] /\ Q .normal a w
 | fuel + 1,listed,a,w =>
  (Region.ready md ops listed = [] -> Q .normal a w) /\
  ∀ i ∈ Region.ready md ops listed,wpOp P ops Q i (fun a' w'=>(Zcs L (listed.setIfInBounds i true) = true -> S w') /\ Zag P md ops Q L S fuel (listed.setIfInBounds i true) a' w') a w
section
variable {P : Program} {ops : Array Oper} {Q : Exit -> Act -> World -> Prop} {md : Region.Mode} {L : List Nat} {S : World -> Prop}
theorem Zhm : ∀ (fuel : Nat) (listed : Array Bool) (a : Act) (w : World),Zag P md ops Q L S fuel listed a w -> wpAny P md ops Q fuel listed a w
 | 0,_,_,_,h=>h
 | fuel + 1,_,_,_,h=>⟨h.1,fun i hi=>wpOp_mono (fun a' w' h'=>Zhm fuel _ a' w' h'.2) (h.2 i hi)⟩
theorem Zcl {listed : Array Bool} {j : Nat} (hj : j ∉ L) : Zcs L (listed.setIfInBounds j true) = Zcs L listed:=by
 unfold Zcs;rw [Bool.eq_iff_iff,List.all_eq_true,List.all_eq_true]
 have : ∀ k ∈ L,(listed.setIfInBounds j true).getD k true = listed.getD k true:=fun k hk=>Go.getD_set_ne true (fun e=>hj (e ▸ hk))
 constructor
 ·intro h k hk;rw [<- this k hk];exact h k hk
 ·intro h k hk;rw [this k hk];exact h k hk
def Zih (md : Region.Mode) (ops : Array Oper) (L : List Nat) (i : Nat) : Bool:=L.all fun k=>k != i && (match ops[k]? with | some o=>o.after.any fun e=>Region.binds md e && e.on == i | none=>false)
theorem Znl {i : Nat} {oi : Oper} {v : Value} (hi : ops[i]? = some oi) (hsel : ∀ (j : Nat) (o : Oper) cs b,ops[j]? = some o -> o.op ≠ .select cs b)
    (hQ : ∀ c a w,Q (.panic c) (a.put oi.dst v) w -> Q (.panic c) a w) (hL : Zih md ops L i = true) :
    ∀ (fuel : Nat) (listed : Array Bool) (a : Act) (w : World),
     (∀ j oj,ops[j]? = some oj -> j ≠ i -> listed.getD j true = false -> (∀ e ∈ oj.after,Region.binds md e = true -> e.on ≠ i) -> oi.apart ops oj = true) ->
     i ∈ Region.ready md ops listed -> YieldsIf P ops S oi v a -> Zcs L listed = true -> S w ->
     Zag P md ops Q L S fuel (listed.setIfInBounds i true) (a.put oi.dst v) w -> Zag P md ops Q L S (fuel + 1) listed a w:=by
 have hiL : i ∉ L:=fun h=>by
  unfold Zih at hL;rw [List.all_eq_true] at hL;have:=hL i h
  simp at this
 intro fuel
 induction fuel with
 | zero =>
  intro listed a w _ hr hy hn hS H;refine ⟨fun h=>(by rw [h] at hr;cases hr),fun j hj=>?_⟩
  by_cases hji : j = i
  ·subst hji;exact hy.wpOp hi hS ⟨fun _=>hS,H⟩
  ·have:=ready_mono hj hji
   rw [H.1] at this
   cases this
 | succ fuel ih =>
  intro listed a w hfree hr hy hn hS H;refine ⟨fun h=>(by rw [h] at hr;cases hr),fun j hj=>?_⟩
  by_cases hji : j = i
  ·subst hji;exact hy.wpOp hi hS ⟨fun _=>hS,H⟩
  ·have h1:=H.2 j (ready_mono hj hji)
   obtain ⟨hjun,oj,hoj,hall⟩:=mem_ready.1 hj
   have hnot : ∀ e ∈ oj.after,Region.binds md e = true -> e.on ≠ i:=fun e he hb heq=>by
    have h1:=hall e he hb;have h0:=(mem_ready.1 hr).1;rw [heq] at h1
    rcases Nat.lt_or_ge i listed.size with h' | h'
    ·simp [h'] at h0 h1;rw [h0] at h1;cases h1
    ·simp [Array.getElem?_eq_none h'] at h1
   have hjL : j ∉ L:=fun hjL=>by
    unfold Zih at hL;rw [List.all_eq_true] at hL;have h2:=hL j hjL;rw [hoj] at h2;simp only [Bool.and_eq_true,Array.any_eq_true'] at h2;obtain ⟨_,e,he,h3,h4⟩:=h2;exact hnot e he h3 (by simpa using h4)
   have h2:=wpOp_putIf hoj (hfree j oj hoj hji hjun hnot) (fun cs b=>hsel i oi cs b hi) (fun cs b=>hsel j oj cs b hoj) hQ hy h1
   have hfree' : ∀ k ok,ops[k]? = some ok -> k ≠ i -> (listed.setIfInBounds j true).getD k true = false ->
       (∀ e ∈ ok.after,Region.binds md e = true -> e.on ≠ i) -> oi.apart ops ok = true:=fun k ok hk hki hun hno=>by
    refine hfree k ok hk hki ?_ hno
    by_cases hjk : j = k
    ·subst hjk;exact hjun
    ·rw [Go.getD_set_ne true hjk] at hun;exact hun
   have hn2 : Zcs L (listed.setIfInBounds j true) = true:=by rw [Zcl hjL];exact hn
   refine wpOp_mono (fun a' w' h3=>⟨fun _=>h3.2.1 (by rw [Zcl hjL,Zcl hiL];exact hn),ih (listed.setIfInBounds j true) a' w' hfree' (ready_mono hr (Ne.symm hji)) h3.1 hn2 (h3.2.1 (by rw [Zcl hjL,Zcl hiL];exact hn)) ?_⟩) h2;rw [Array.setIfInBounds_comm _ _ hji];exact h3.2.2
theorem Zd {i : Nat} {oi : Oper} {v : Value} {fuel : Nat} {listed : Array Bool} {a : Act} {w : World} (hi : ops[i]? = some oi)
    (hs : Region.noSelect ops = true) (hf : Region.free md ops listed i = true) (hr : (Region.ready md ops listed).contains i = true) (hL : Zih md ops L i = true) (hn : Zcs L listed = true)
    (hy : YieldsIf P ops S oi v a) (hS : S w)
    (h : Zag P md ops (OnlyNormal Q) L S fuel (listed.setIfInBounds i true) (a.put oi.dst v) w) : Zag P md ops (OnlyNormal Q) L S (fuel + 1) listed a w:=
 Znl hi (Region.noSelect_spec hs) (fun _ _ _ h=>(h : False).elim) hL fuel listed a w (Region.free_spec hi hf) (by simpa using hr) hy hn hS h
theorem Ze {i : Nat} {o : Oper} {fuel : Nat} {listed : Array Bool} {a : Act} {w : World} (ho : ops[i]? = some o) (hr : Region.ready md ops listed = [i])
    (h : ∀ K' : Act -> World -> Prop,Shut (∀ a w,(Zcs L (listed.setIfInBounds i true) = true -> S w) -> Zag P md ops Q L S fuel (listed.setIfInBounds i true) a w -> K' a w) -> if Region.wanted o (yielded ops a.tmps) = true then Oper.wp P o a w K' Q else K' (a.put o.dst undef) w) :
    Zag P md ops Q L S (fuel + 1) listed a w:=
 ⟨(fun h0=>by rw [h0] at hr;cases hr),fun j hj=>by
  rw [hr,List.mem_singleton] at hj;subst hj
  exact wpOp_step ho (fun K' hK=>h K' (fun a w hS hW=>hK a w ⟨hS,hW⟩))⟩
theorem Zu {i : Nat} {o : Oper} {fuel : Nat} {listed : Array Bool} {a : Act} {w : World} (ho : ops[i]? = some o) (hr : Region.ready md ops listed = [i]) (hn : Zcs L (listed.setIfInBounds i true) = false)
    (h : ∀ K' : Act -> World -> Prop,Shut (∀ a w,Zag P md ops Q L S fuel (listed.setIfInBounds i true) a w -> K' a w) -> if Region.wanted o (yielded ops a.tmps) = true then Oper.wp P o a w K' Q else K' (a.put o.dst undef) w) :
    Zag P md ops Q L S (fuel + 1) listed a w:=
 Ze ho hr fun K hK=>h K fun a w hW=>hK a w (fun h=>by rw [hn] at h;cases h) hW
theorem Zk {listed : Array Bool} {a : Act} {w : World} (hr : Region.ready md ops listed = []) (h : Q .normal a w) : ∀ fuel,Zag P md ops Q L S fuel listed a w
 | 0=>⟨hr,h⟩
 | _ + 1=>⟨fun _=>h,by rw [hr];simp⟩
end
theorem Za1 {l n : Nat} {P : Program} {id : Nat} {ops : Array Oper} {Q : Exit -> Act -> World -> Prop} {a : Act} {w : World} (L : List Nat) (S : World -> Prop) (hm : P.follows .mixedOrders = true) (hnd : Ziq ops = true)
    (hS : S w.drew) (h : S w.drew -> Zag P .any ops (OnlyNormal Q) L S ops.size (Array.replicate ops.size false) a w.drew) : (Code.region id ops true).wpIn (Fence.wide.inRound l) n P Q a w:=
 wpIn_region_draw fun t=>Zbh (Zl1 hnd) _ _ _ (by
  simp only [Region.schedule,hm,Bool.true_or,if_true]
  exact wpAny_sound ops.size t _ a _ (Zhm _ _ _ _ (h hS)))
theorem Zf0 {α : Type} (l : List α) (i : Nat) (a : α) : l.toArray.setIfInBounds i a = (l.set i a).toArray:=List.setIfInBounds_toArray l i a
theorem Zfg {α : Type} (a b : α) (l : List α) : (a :: l).set 0 b = b :: l:=rfl
theorem Zfv {α : Type} (a b : α) (l : List α) (n : Nat) : (a :: l).set (n + 1) b = a :: l.set n b:=rfl
def Zfw (md : Region.Mode) (ops : Array Oper) (L : List Nat) : List Nat -> Array Bool -> Bool
 | [],_=>true
 | i :: is,l=>Region.free md ops l i && (Region.ready md ops l).contains i && Zih md ops L i && Zcs L l && Zfw md ops L is (l.setIfInBounds i true)
def Zcj (P : Program) (ops : Array Oper) (S : World -> Prop) : List Nat -> Act -> (Act -> Prop) -> Prop
 | [],a,R=>R a
 | i :: is,a,R=>∃ oi v,ops[i]? = some oi /\ YieldsIf P ops S oi v a /\ Zcj P ops S is (a.put oi.dst v) R
def Zdf : List Nat -> Array Bool -> Array Bool
 | [],l=>l
 | i :: is,l=>Zdf is (l.setIfInBounds i true)
theorem putG_a {α : Type} (l : List α) (i : Nat) (h : i < l.toArray.size) : l.toArray[i] = l[i]'(by simpa using h):=by simp
theorem putG_z {α : Type} (a : α) (l : List α) (h : 0 < (a :: l).length) : (a :: l)[0]'h = a:=rfl
theorem putG_s {α : Type} (a : α) (l : List α) (i : Nat) (h : i + 1 < (a :: l).length) : (a :: l)[i + 1]'h = l[i]'(by simpa using h):=rfl
section
variable {P : Program} {ops : Array Oper} {Q : Exit -> Act -> World -> Prop} {md : Region.Mode} {L : List Nat} {S : World -> Prop} {R : Act -> Prop}
theorem tk0 {a : Act} (h : R a) : Zcj P ops S [] a R:=h
theorem tk1 {i : Nat} {is : List Nat} {oi : Oper} {v : Value} {a : Act} (ho : ops[i]? = some oi) (hy : YieldsIf P ops S oi v a) (h : Zcj P ops S is (a.put oi.dst v) R) : Zcj P ops S (i :: is) a R:=⟨oi,v,ho,hy,h⟩
theorem Zex (hs : Region.noSelect ops = true) {w : World} (hS : S w) : ∀ (is : List Nat) (F : Nat) (listed : Array Bool) (a : Act),Zfw md ops L is listed = true -> Zcj P ops S is a (fun a'=>Zag P md ops (OnlyNormal Q) L S F (Zdf is listed) a' w) -> Zag P md ops (OnlyNormal Q) L S (F + is.length) listed a w
 | [],F,l,a,_,h=>h
 | i :: is,F,l,a,hc,h=>by
  obtain ⟨oi,v,ho,hy,h2⟩:=h;simp only [Zfw,Bool.and_eq_true] at hc;exact Zd ho hs hc.1.1.1.1 hc.1.1.1.2 hc.1.1.2 hc.1.2 hy hS (Zex hs hS is F _ _ hc.2 h2)
theorem Zif {F : Nat} {listed : Array Bool} {a : Act} {w : World} (k : Nat) (is : List Nat) (hk : is.length = k) (hc : (Region.noSelect ops && Zfw md ops L is listed) = true) (hS : S w)
    (h : Zcj P ops S is a (fun a'=>Zag P md ops (OnlyNormal Q) L S F (Zdf is listed) a' w)) : Zag P md ops (OnlyNormal Q) L S (F + k) listed a w:=by
 rw [Bool.and_eq_true] at hc;subst hk;exact Zex hc.1 hS is F listed a hc.2 h
end
theorem Zch {W W' : World} {row : Option Nat} {g : Nat} {t : TypeId} {cs : Array Value} (h : Blk W g t cs) (hg : W.grownBy W' row) (hrow : ∀ r,row = some r -> ∃ o : Obj,W.heap[r]? = some o /\ o.isCells = false) : Blk W' g t cs:=
 (hg.block g h.lt (fun e=>by
  obtain ⟨o,ho,hc⟩:=hrow g e.symm;unfold Blk at h;rw [h] at ho
  cases ho
  cases hc)).trans h
theorem Zog {n : Nat} {pre : List { i : Nat // i < n }} {x : { i : Nat // i < n }} (hl : pre.length < n) (h : pre ++ [x] = Zcm n (pre.length + 1)) : pre = Zcm n pre.length /\ x.1 = n - 1 - pre.length:=by
 rw [Zc7 hl] at h;obtain ⟨h1,h2⟩:=List.append_inj' h rfl;refine ⟨h1,?_⟩;have:=congrArg (List.map (fun z : { i : Nat // i < n }=>z.1)) h2
 simpa using this
def DownI (h n D : Nat) (l : List Nat) (rb : Nat -> Value) (t6 t7 : TypeId) (B0 : Value) (tB : TypeId) (pre : List { i : Nat // i < n }) (W : World) : Prop:=
 ∃ (o : List Nat) (r : Nat),Blk W h tB #[B0] /\ Blk W (h + 1) 84 (Zw o) /\ Blk W (h + 1 + 1) t6 #[.slice (some ⟨h + 1,0,none⟩) n n] /\ Blk W (h + 1 + 1 + 1) t7 #[rb r] /\ o.length = n /\ Lt32 o /\ r < D /\
  (pre = Zcm n pre.length -> val (o.drop (n - pre.length)) * D + r = val (l.drop (n - pre.length)))
theorem DownI.own {h n D : Nat} {l : List Nat} {rb : Nat -> Value} {t6 t7 : TypeId} {B0 : Value} {tB : TypeId} {pre : List { i : Nat // i < n }} {W W' : World} {row : Option Nat} (H : DownI h n D l rb t6 t7 B0 tB pre W) (hg : W.grownBy W' row) (hr : ∀ r,row = some r -> ∃ o : Obj,W.heap[r]? = some o /\ o.isCells = false) : DownI h n D l rb t6 t7 B0 tB pre W':=by
 obtain ⟨o,r,h1,h2,h3,h4,h5⟩:=H;exact ⟨o,r,Zch h1 hg hr,Zch h2 hg hr,Zch h3 hg hr,Zch h4 hg hr,h5⟩
theorem DownI.step {h n D : Nat} {l : List Nat} {rb : Nat -> Value} {t6 t7 : TypeId} {B0 : Value} {tB : TypeId} {pre : List { i : Nat // i < n }} {x : { i : Nat // i < n }} {W' : World} {o : List Nat} {r q r' : Nat}
    (h1 : Blk W' h tB #[B0]) (h2 : Blk W' (h + 1) 84 (Zw (o.set x.1 q))) (h3 : Blk W' (h + 1 + 1) t6 #[.slice (some ⟨h + 1,0,none⟩) n n]) (h4 : Blk W' (h + 1 + 1 + 1) t7 #[rb r']) (h5 : o.length = n) (h6 : Lt32 o) (hq : q < 4294967296) (hr : r' < D)
    (hl : l.length = n) (hp : pre.length < n) (hI : pre = Zcm n pre.length -> val (o.drop (n - pre.length)) * D + r = val (l.drop (n - pre.length))) (he : q * D + r' = r * 4294967296 + l[x.1]?.getD 0) : DownI h n D l rb t6 t7 B0 tB (pre ++ [x]) W':=by
 refine ⟨o.set x.1 q,r',h1,h2,h3,h4,by rw [List.length_set];exact h5,h6.set _ hq,hr,fun e=>?_⟩;rw [List.length_append,List.length_singleton] at e ⊢;obtain ⟨e1,e2⟩:=Zog hp e;have hI:=hI e1;rw [show n - (pre.length + 1) = x.1 by omega];rw [show n - pre.length = x.1 + 1 by omega] at hI;exact Zl8 (by omega) (by omega) hI he
theorem trim_q (A : Option Addr) (n c : Nat) (l : List Nat) (w : World) (h : Lim w A n c l) :
    Calls Tryz.prog 165 #[.slice A n c] w fun e w'=>e = .returned (.slice A (digits (val l)).length c) /\ ∃ m,w' = w.drewN m:=
 (Ze6 A n c l w h).mono fun _ _ ⟨he,hw⟩=>⟨he,0,hw.symm⟩
def ShortP (w : World) (a d : Nat) (e : Ending) (w' : World) : Prop:=
 ∃ A n c,e = .returned (.tuple #[.slice A n c,limb (a % d)]) /\ Lim w' A n c (digits (a / d)) /\ Below w.heap.size w w'
theorem Zr6 (A : Option Addr) (n c d : Nat) (l : List Nat) (w : World) (hl : Lim w A n c l) (hd0 : 0 < d) (hd : d < 4294967296) (hn9 : n <= 1000000) :
    Calls Tryz.prog 167 #[.slice A n c,limb d] w (ShortP w (val l) d):=by
 obtain ⟨i0,hi,hz0,hz1,hz2⟩:=info_parts Zc3;have hmk:=Zgj (P:=Tryz.prog) 41 84 Tryz.underlying41 hi hz0 hz1 hz2 (n : Int) n rfl (by omega);have hnc:=hl.2.1;have hcm:=hl.2.2.1;unfold maxLen at hcm
 have h9 : 1 <= 9:=by omega
 refine (callsIn_wide (n:=9)).1 ?_;refine callsIn_of_wp_marks Tryz.func167 rfl trivial ?_ rfl;simp only [Tryz.ntmps167,List.size_toArray,List.length_cons,List.length_nil,Nat.reduceAdd,Nat.reduceSub,Array.replicate_succ,Array.replicate_zero,List.push_toArray,List.append_toArray,List.nil_append,List.cons_append]
 gi_wp2_with (refine ⟨trivial,?_⟩;gi_at_call 177;refine (callsIn_wide.2 (Zkl _ _ _ _)).mono ?_;rintro e w' ⟨rfl,rfl⟩)
 have bD:=Blk.new w 84 #[limb d];have bO:=Blk.new (w.alloc (.cells #[limb d] 84)) 84 (Zw (List.replicate n 0));have b6:=Blk.new ((w.alloc (.cells #[limb d] 84)).alloc (.cells (Zw (List.replicate n 0)) 84)) 41 #[.slice (some ⟨w.heap.size + 1,0,none⟩) n n];have b7:=Blk.new (((w.alloc (.cells #[limb d] 84)).alloc (.cells (Zw (List.replicate n 0)) 84)).alloc (.cells #[.slice (some ⟨w.heap.size + 1,0,none⟩) n n] 41)) 84 #[limb 0];have bN:=Boxed.new ((((w.alloc (.cells #[limb d] 84)).alloc (.cells (Zw (List.replicate n 0)) 84)).alloc (.cells #[.slice (some ⟨w.heap.size + 1,0,none⟩) n n] 41)).alloc (.cells #[limb 0] 84)) 41 (.slice A n c);simp only [World.size_alloc] at bO b6 b7 bN
 have hB0 : Below w.heap.size w (((((w.alloc (.cells #[limb d] 84)).alloc (.cells (Zw (List.replicate n 0)) 84)).alloc (.cells #[.slice (some ⟨w.heap.size + 1,0,none⟩) n n] 41)).alloc (.cells #[limb 0] 84)).alloc (.cells #[.slice A n c] 41)):=by go_grown
 have h0 : DownI w.heap.size n d l limb 41 84 (limb d) 84 [] (((((w.alloc (.cells #[limb d] 84)).alloc (.cells (Zw (List.replicate n 0)) 84)).alloc (.cells #[.slice (some ⟨w.heap.size + 1,0,none⟩) n n] 41)).alloc (.cells #[limb 0] 84)).alloc (.cells #[.slice A n c] 41)):=
  ⟨List.replicate n 0,0,(((bD.alloc _).alloc _).alloc _).alloc _,((bO.alloc _).alloc _).alloc _,(b6.alloc _).alloc _,b7.alloc _,by simp,Lt32.replicate _,hd0,fun _=>by rw [List.length_nil,Nat.sub_zero,List.drop_of_length_le (by simp),List.drop_of_length_le (by rw [hl.len];exact Nat.le_refl _)];simp [val]⟩
 have hmx : Tryz.prog.follows .mixedOrders = true:=by kernel_rfl
 refine wpIn_rangeFunc_ownF rfl h9 (gf:=185) (lb:=#[.pointer (some ⟨w.heap.size + 1 + 1 + 1 + 1,0,none⟩)]) rfl trivial (enters_of Tryz.func185 (by kernel_rfl) rfl)
  (Zhu 8 (by omega) (w.heap.size + 1 + 1 + 1 + 1) n c A l _ bN.cell (hl.below hB0)) KpD.trans (fun W l o o' _ h hc _=>KpD.put W l o o' h hc) (Below.refl _ _) (fun _=>rfl)
  (fun pre W=>DownI w.heap.size n d l limb 41 84 (limb d) 84 pre W /\ Below w.heap.size w W)
  (fun _ _ _=>False)
  (OwnFrom.and (Own.from (fun s X Y row hs hg hr=>hs.own hg hr) _) (ownFrom_below (Nat.le_refl _) (by simp;omega)))
  (fun cc=>Own.from (fun s X Y row hs hg hr=>hs) _)
  ⟨h0,hB0⟩
  (fun x=>{ tmps:=#[.slice A n c,limb d,undef,.pointer (some ⟨w.heap.size,0,none⟩),.slice none 0 0,.int .u32 0,.pointer (some ⟨w.heap.size + 1 + 1,0,none⟩),.pointer (some ⟨w.heap.size + 1 + 1 + 1,0,none⟩),.int .i64 (x.1 : Int),limb (l[x.1]?.getD 0),.slice A n c,
   .int .i64 n,.slice (some ⟨w.heap.size + 1,0,none⟩) n n,.slice A n c,.func (.func 185) #[] #[.pointer (some ⟨w.heap.size + 1 + 1 + 1 + 1,0,none⟩)],.int .i64 (x.1 : Int),limb (l[x.1]?.getD 0),
   undef,undef,undef,undef,undef,undef,undef,undef,undef,undef,undef,undef,undef],defers:=[] }) ?assign ?body ?done ?stop
 case assign =>
  intro l x W K hK;dsimp only [Zg9]
  gi_wp2
  exact hK
 case body =>
  rintro lp pre x W ⟨⟨o,r,k1,k2,k3,k4,k5,k6,k7,k8⟩,hB⟩ hpre;obtain ⟨i,hi'⟩:=x;have k8:=Za k8;have k5:=Za k5;have c1:=k1.cell 0;have c3:=k3.cell 0;have c4:=k4.cell 0;have f4:=k4.frozen 0;have c2:=k2.cell i;rw [Zaw o i (by rw [k5.out];exact hi')] at c2;have f2:=k2.frozen i
  simp at c1 c3 c4
  have hx:=hl.lt.get i
  gi_wp2
  refine Za1 [11] (fun W'=>W'.cell? ⟨w.heap.size,0,none⟩ = some (limb d) /\ W'.cell? ⟨w.heap.size + 1 + 1,0,none⟩ = some (.slice (some ⟨w.heap.size + 1,0,none⟩) n n) /\ W'.cell? ⟨w.heap.size + 1 + 1 + 1,0,none⟩ = some (limb r)) hmx (by kernel_rfl) ⟨c1,c3,c4⟩ (fun _=>?_);refine Zif 5 [0,1,2,3,4] rfl (by kernel_rfl) ⟨c1,c3,c4⟩ ?_
  iterate 5 (refine tk1 (v:=?_) rfl (Or.inl ⟨by kernel_rfl,?_⟩) ?_;rotate_left;(· intro W2 hSw;(try dsimp only at hSw);go_simp;try with_reducible rfl);try simp only [Act.put,Zf0,Zfg,Zfv,putG_a,putG_s,putG_z])
  refine tk0 ?_;refine Ze (i:=5) rfl (by kernel_rfl) (fun K hK=>?_);go_simp;refine (Zm4 _ _ _ _ k7 hx hd).mono ?_;rintro e w2 ⟨rfl,rfl⟩;refine hK.out _ _ (fun _=>⟨c1,c3,c4⟩) ?_;clear hK K
  try simp only [Act.put,Zf0,Zfg,Zfv]
  refine Zif 4 [6,7,9,8] rfl (by kernel_rfl) ⟨c1,c3,c4⟩ ?_
  iterate 4 (refine tk1 (v:=?_) rfl (Or.inl ⟨by kernel_rfl,?_⟩) ?_;rotate_left;(· intro W2 hSw;(try dsimp only at hSw);go_simp;try with_reducible rfl);try simp only [Act.put,Zf0,Zfg,Zfv,putG_a,putG_s,putG_z])
  refine tk0 ?_;refine Ze (i:=10) rfl (by kernel_rfl) (fun K hK=>?_);go_simp
  generalize hW5 : World.drew (World.drew (World.setCell W _ _)) = W5
  have c15 : W5.cell? ⟨w.heap.size,0,none⟩ = some (limb d):=by rw [<- hW5];exact (World.cell?_setCell_other _ _ _ _ (by simp)).trans c1
  have c35 : W5.cell? ⟨w.heap.size + 1 + 1,0,none⟩ = some (.slice (some ⟨w.heap.size + 1,0,none⟩) n n):=by rw [<- hW5];exact (World.cell?_setCell_other _ _ _ _ (by simp)).trans c3
  have c45 : W5.cell? ⟨w.heap.size + 1 + 1 + 1,0,none⟩ = some (limb r):=by rw [<- hW5];exact (World.cell?_setCell_other _ _ _ _ (by simp)).trans c4
  have f45 : W5.frozen? ⟨w.heap.size + 1 + 1 + 1,0,none⟩ = false:=by rw [<- hW5];exact (World.frozen?_setCell _ _ _ _).trans f4
  replace hW5:=Za hW5;refine hK.out _ _ (fun _=>⟨c15,c35,c45⟩) ?_;clear hK K
  try simp only [Act.put,Zf0,Zfg,Zfv]
  refine Zu (i:=11) rfl (by kernel_rfl) (by kernel_rfl) (fun K hK=>?_);go_simp;refine hK.out _ _ ?_;clear hK K
  try simp only [Act.put,Zf0,Zfg,Zfv]
  refine Zk (by kernel_rfl) ?_ _;refine OnlyNormal.normal ?_
  gi_wp2
  have e1 : ((r : Int) * 4294967296 + ((l[i]?.getD 0 : Nat) : Int)) / (d : Int) = (((r * 4294967296 + l[i]?.getD 0) / d : Nat) : Int):=by simp
  have e2 : ((r : Int) * 4294967296 + ((l[i]?.getD 0 : Nat) : Int)) % (d : Int) = (((r * 4294967296 + l[i]?.getD 0) % d : Nat) : Int):=by simp
  have hW5:=hW5.out;rw [e1] at hW5;rw [e2]
  have hq : (r * 4294967296 + l[i]?.getD 0) / d < 4294967296:=by
   rw [Nat.div_lt_iff_lt_mul (by omega)];have:=Nat.mul_le_mul_left 4294967296 (show r + 1 <= d by omega);omega
  have hr : (r * 4294967296 + l[i]?.getD 0) % d < d:=Nat.mod_lt _ hd0
  have he : (r * 4294967296 + l[i]?.getD 0) / d * d + (r * 4294967296 + l[i]?.getD 0) % d = r * 4294967296 + l[i]?.getD 0:=by rw [Nat.mul_comm];exact Nat.div_add_mod _ _
  generalize (r * 4294967296 + l[i]?.getD 0) / d = q at *
  generalize (r * 4294967296 + l[i]?.getD 0) % d = r' at *
  subst hW5;refine ⟨((KeepsOthers.setCell _ _ _).trans (KeepsOthers.drew _)).trans ((KeepsOthers.drew _).trans (KeepsOthers.setCell _ _ _)),(KpD.set_ (w:=w) (o:=i) hl (by omega) (by omega) (limb q)).trans (KpD.set_ (w:=w) (o:=0) hl (by omega) (by omega) (limb r')),?_,?_⟩
  ·refine DownI.step (x:=⟨i,hi'⟩) (((k1.far (by simp <;> omega) _).drewN 2).far (by simp <;> omega) _) ?_ (((k3.far (by simp <;> omega) _).drewN 2).far (by simp <;> omega) _) (((k4.far (by simp <;> omega) _).drewN 2).set_ 0 (limb r')) k5.out k6 hq hr hl.len hpre k8.out he
   have:=((k2.set_ i (limb q)).drewN 2).far (p:=⟨w.heap.size + 1 + 1 + 1,0,none⟩) (by simp <;> omega) (limb r');rw [Zbg] at this;exact this
  ·exact (Zf (hB.setCell (p:=⟨w.heap.size + 1,i,none⟩) (by simp) _) 2).setCell (p:=⟨w.heap.size + 1 + 1 + 1,0,none⟩) (by simp;omega) _
 case done =>
  rintro D ys W hD rfl ⟨⟨o,r,k1,k2,k3,k4,k5,k6,k7,k8⟩,hB⟩ hK;have k8:=k8 (by rw [Zcw (Nat.le_refl _)]);rw [Zcw (Nat.le_refl _),Nat.sub_self,List.drop_zero,List.drop_zero] at k8;obtain ⟨e1,e2⟩:=Znc (U:=val l) (V:=d) (q:=val o) (R:=r) (by omega) k7;have hLo:=Lim.of_blk k2 k6 (by rw [k5];unfold maxLen;omega);rw [k5] at hLo;have k8:=Za k8;have k5:=Za k5;have c3:=k3.cell 0;have c4:=k4.cell 0
  simp at c3 c4
  gi_wp2
  refine wpIn_wide.2 ?_
  go_quiet ((go_at_call 165;exact Calls.quiet_of (trim_q _ _ _ _ _ hLo)))
  gi_wp2
  have hK' : (W.drewN nq).heap[D]? = some (.deferred (some [])):=hK;refine ⟨by simp,.inl ⟨_,_,rfl,run_takeDeferred hK',?_⟩⟩;have hL2:=Zf9 (hLo.canon.1.drewN nq) (grownBy_putObj' (W.drewN nq) D (.deferred none)) (fun r e=>by cases e;exact ⟨_,hK',rfl⟩);rw [e1] at hL2;refine ⟨.tuple #[.slice (some ⟨w.heap.size + 1,0,none⟩) (digits (val o)).length n,limb (val l % d)],by simp [results,Tryz.f167,go_sem],⟨_,_,_,by rw [e1],hL2,?_⟩⟩;exact (Zf hB nq).trans (belowK_b (w:=w) (Nat.le_refl _) _ D _ _ (by simp at hD;omega) hK' rfl rfl)
 case stop =>
  rintro D c pre W _ _ h _;exact h.elim
theorem or_add {a b s : Nat} (hb : b < 2 ^ s) : b ||| 2 ^ s * a = b + 2 ^ s * a:=by
 have h2:=Nat.two_pow_add_eq_or_of_lt (i:=s) (b:=b) hb a;rw [Nat.or_comm,<- h2,Nat.add_comm]
def LeftP (w : World) (s : Nat) (l : List Nat) (i cy : Nat) (v : Value) (wr : World) : Prop:=
 ∃ o,OwnL 84 wr w.heap.size v o /\ o.length = i /\ cy < 2 ^ s /\ val o + pw i * cy = 2 ^ s * val (l.take i) /\ Below w.heap.size w wr
theorem Zpa (A : Option Addr) (n c s : Nat) (l : List Nat) (w : World) (h : Lim w A n c l) (hs : s < 32) (hn9 : n <= 1000000) :
    Calls Tryz.prog 169 #[.slice A n c,.int .i64 s] w (fun e w'=>∃ v o,e = .returned v /\ OwnL 84 w' w.heap.size v o /\ o.length = n + 1 /\ val o = 2 ^ s * val l /\ Below w.heap.size w w'):=by
 obtain ⟨i0,hi,hz0,hz1,hz2⟩:=info_parts Zc3;have hnc:=h.2.1;have hcm:=h.2.2.1;unfold maxLen at hcm
 have hmk : ∀ W : World,(Instr.makeSlice 41 (.int .i64 0) (.int .i64 ((n : Int) + 1))).run Tryz.prog W = .ok (.slice (some ⟨W.heap.size,0,none⟩) 0 (n + 1)) (W.alloc (.cells (Zw (List.replicate (n + 1) 0)) 84)):=fun W=>by
  have hr:=run_make (P:=Tryz.prog) W 41 84 i0 _ Tryz.underlying41 hi hz0 .i64 .i64 0 ((n : Int) + 1) (by omega) (by omega) (by rw [hz2];omega) (by omega);rw [hr,hz1]
  have : madeCells (Value.int .u32 0).cells (((n : Int) + 1).toNat * 1) = Zw (List.replicate (n + 1) 0):=by
   rw [show ((n : Int) + 1).toNat * 1 = n + 1 by omega]
   apply Array.toList_inj.1
   rw [show (Value.int .u32 0).cells = #[.int .u32 0] from rfl,toList_madeCells_one]
   simp [Zw,limb]
  rw [this,show ((n : Int) + 1).toNat = n + 1 by omega]
  rfl
 have hO : OwnL 84 (w.alloc (.cells (Zw (List.replicate (n + 1) 0)) 84)) w.heap.size (.slice (some ⟨w.heap.size,0,none⟩) 0 (n + 1)) []:=
  ⟨⟨rfl,.inr ⟨w.heap.size,n + 1,_,rfl,Nat.le_refl _,heap_alloc_new _ _,Nat.zero_le _,by unfold maxLen;omega,by simp [Zw],by simp⟩⟩,Lt32.nil⟩
 have q3 : ((s : Int) / 32) = 0:=by omega
 have q4 : ((s : Int) % 32) = (s : Int):=by omega
 go_enter Tryz.func169,Tryz.ntmps169;go_wp2_with fail
 go_loopw [20,6,5] (fun iv cv ov wr=>∃ i cy : Nat,i <= n /\ iv = .int .i64 i /\ cv = .int .u64 cy /\ LeftP w s l i cy ov wr) (fun iv _ _ _=>n - (intOf iv).toNat)
 case atStart=>exact ⟨0,0,Nat.zero_le _,rfl,rfl,[],hO,rfl,Nat.pow_pos (by omega),by simp [val],(Below.refl _ _).alloc (Nat.le_refl _) _⟩
 case round =>
  obtain ⟨i,cy,hin,rfl,rfl,o,hown,hol,hcy,hI,hB⟩:=hrel;replace hol:=Za hol;replace hI:=Za hI
  by_cases hi' : i < n
  ·obtain ⟨b,of,rfl,hcell⟩:=(h.below hB).at_ hi'
   have hx:=h.lt.get i;obtain ⟨p,hp⟩ : ∃ p,2 ^ s = p:=⟨_,rfl⟩
   have hpb : p <= 2147483648:=by rw [<- hp];exact Nat.pow_le_pow_right (by omega) (show s <= 31 by omega)
   have hxb : p * l[i]?.getD 0 <= 2147483648 * 4294967295:=Nat.mul_le_mul hpb (by omega)
   have hor : bits .or .u64 (cy : Int) (IntKind.u64.wrap (((l[i]?.getD 0 : Nat) : Int) * 2 ^ s)) = ((cy + p * l[i]?.getD 0 : Nat) : Int):=by
    have e1 : (((l[i]?.getD 0 : Nat) : Int) * 2 ^ s) = ((p * l[i]?.getD 0 : Nat) : Int):=by rw [<- hp];push_cast;rw [Int.mul_comm]
    have hcp : cy < 18446744073709551616:=by omega
    rw [e1,IntKind.wrap_u64,show (((p * l[i]?.getD 0 : Nat) : Int) % 18446744073709551616) = ((p * l[i]?.getD 0 : Nat) : Int) by omega,u64_or_nat _ _ hcp (by omega),<- hp,or_add hcy]
   rw [hp] at hcy;replace hp:=Za hp;have hs0 : Hid (val (l.take (i + 1)) = val (l.take i) + pw i * l[i]?.getD 0):=Z5 l i;obtain ⟨x,hxe⟩ : ∃ x,l[i]?.getD 0 = x:=⟨_,rfl⟩;rw [hxe] at hcell hx hxb hor hs0;replace hxe:=Za hxe;obtain ⟨t,ht⟩ : ∃ t,cy + p * x = t:=⟨_,rfl⟩
   have htb : t / 4294967296 < p:=by
    rw [Nat.div_lt_iff_lt_mul (by omega),<- ht]
    have : p * x + p <= p * 4294967296:=by rw [<- Nat.mul_succ];exact Nat.mul_le_mul_left _ (by omega)
    omega
   rw [ht] at hor;replace ht:=Za ht;go_wp2_with (at_builtin;refine Zv _ rfl (.tmp 31) (.tmp 34) 41 rfl w.heap.size 84 i0 _ 1 4 Tryz.underlying41 hi hz0 hz1 hz2 rfl (by omega) _ i (o.map limb) rfl (by have:=hol.out;subst this;exact hown.1.alloc _) _ _ 1 1 _ rfl (Zbf _ _ _) (by simp [Value.oneCell']) (by simp only [maxLen];omega) (by omega) (by have:=hB.size;simp;omega) ?_;intro v1 w1 hown1 hg1 hat1);have hown2 : OwnL 84 w1 w.heap.size v1 (o ++ [t % 4294967296]):=OwnL.snoc (s:=t % 4294967296) hol.out.symm hown1 hown.2 (by omega) (Nat.mod_lt _ (by decide));have hB1:=(hB.alloc hB.size _).grown hg1 (by have:=hB.size;simp;omega) hown.row_ge
   go_roundw
   case rel =>
    refine ⟨i + 1,t / 4294967296,by omega,by go_num,by go_num,_,hown2,by rw [List.length_append,hol.out];rfl,by rw [hp.out];exact htb,?_,hB1⟩;rw [Zdx,hol.out,hs0.out,hp.out,Nat.mul_add,Za9];have h1:=hI.out;rw [hp.out] at h1
    have h2 : pw i * (t % 4294967296) + 4294967296 * pw i * (t / 4294967296) = pw i * t:=by
     rw [Nat.mul_comm 4294967296 (pw i),Nat.mul_assoc,<- Nat.mul_add,Nat.mod_add_div]
    have h3 : p * (pw i * x) = pw i * (p * x):=by rw [Nat.mul_left_comm]
    rw [h3,<- h1,Nat.add_assoc,h2,<- ht.out,Nat.mul_add];omega
   case measure=>simp [intOf];omega
  ·obtain rfl : i = n:=by omega
   have hlen:=Za h.len;have hcy2 : cy < 4294967296:=Nat.lt_of_lt_of_le hcy (show 2 ^ s <= 4294967296 from Nat.le_trans (Nat.pow_le_pow_right (by decide) (show s <= 32 by omega)) (by decide))
   have hcm : ((cy : Int)) % 4294967296 = (cy : Int):=by omega
   clear h;go_wp2_with (at_builtin;refine Zv _ rfl (.tmp 39) (.tmp 42) 41 rfl w.heap.size 84 i0 _ 1 4 Tryz.underlying41 hi hz0 hz1 hz2 rfl (by omega) _ i (o.map limb) rfl (by have:=hol.out;subst this;exact hown.1.alloc _) _ _ 1 1 _ rfl (Zbf _ _ _) (by simp [Value.oneCell']) (by simp only [maxLen];omega) (by omega) (by have:=hB.size;simp;omega) ?_;intro v1 w1 hown1 hg1 hat1);have hown2 : OwnL 84 w1 w.heap.size v1 (o ++ [cy]):=OwnL.snoc (s:=cy) hol.out.symm hown1 hown.2 (by omega) hcy2;have hB1:=(hB.alloc hB.size _).grown hg1 (by have:=hB.size;simp;omega) hown.row_ge;go_ret;refine ⟨v1,_,rfl,hown2,by rw [List.length_append,hol.out];rfl,?_,hB1⟩;rw [Zdx,hol.out,hI.out,Z8 (by rw [hlen.out];exact Nat.le_refl _)]
theorem Zqn (A : Option Addr) (c : Nat) (fn : Value) (w : World) :
    Calls Tryz.prog 186 #[.slice A 0 c,fn] w fun e w'=>e = .returned (.int .i64 (-1)) /\ w = w':=by
 go_enter Tryz.func186,Tryz.ntmps186;go_wp2_with fail
 go_loop [8] (fun v=>v = .int .i64 0) (fun _=>0)
 case atStart=>rfl
 case round =>
  subst hrel;go_wp2_with fail;go_ret;exact ⟨rfl,rfl⟩
theorem Zl4 (A : Option Addr) (c : Nat) (fn : Value) (w : World) :
    Calls Tryz.prog 181 #[.slice A 0 c,fn] w fun e w'=>e = .returned (.bool false) /\ w = w':=by
 go_enter Tryz.func181,Tryz.ntmps181;go_wp2_with (go_at_call 186;refine (Zqn _ _ _ _).mono ?_;rintro e w' ⟨rfl,rfl⟩);go_ret;exact ⟨rfl,rfl⟩
def RightP (w : World) (l : List Nat) (s : Nat) (e : Ending) (w' : World) : Prop:=
 ∃ A n c o b,e = .returned (.tuple #[.slice A n c,.bool b]) /\ Lim w' A n c o /\ val o = val l / 2 ^ s /\ Below w.heap.size w w'
theorem Zrq (A : Option Addr) (n c s : Nat) (l : List Nat) (w : World) (hl : Lim w A n c l) (hs : s < 32) (hn9 : n <= 1000000) :
    Calls Tryz.prog 171 #[.slice A n c,.int .i64 s] w (RightP w l s):=by
 obtain ⟨i0,hi,hz0,hz1,hz2⟩:=info_parts Zc3;have hmk:=Zgj (P:=Tryz.prog) 41 84 Tryz.underlying41 hi hz0 hz1 hz2 (n : Int) n rfl (by omega);have hnc:=hl.2.1;have hcm:=hl.2.2.1;unfold maxLen at hcm
 have q3 : ((s : Int) / 32) = 0:=by omega
 have q4 : ((s : Int) % 32) = (s : Int):=by omega
 have h9 : 1 <= 9:=by omega
 refine (callsIn_wide (n:=9)).1 ?_;refine callsIn_of_wp_marks Tryz.func171 rfl trivial ?_ rfl;simp only [Tryz.ntmps171,List.size_toArray,List.length_cons,List.length_nil,Nat.reduceAdd,Nat.reduceSub,Array.replicate_succ,Array.replicate_zero,List.push_toArray,List.append_toArray,List.nil_append,List.cons_append]
 gi_wp2_with (first | (refine ⟨trivial,?_⟩;gi_at_call 181;refine (callsIn_wide.2 (Zl4 _ _ _ _)).mono ?_;rintro e w' ⟨rfl,rfl⟩) | (refine ⟨trivial,?_⟩;gi_at_call 177;refine (callsIn_wide.2 (Zkl _ _ _ _)).mono ?_;rintro e w' ⟨rfl,rfl⟩))
 have bD:=Blk.new w 3 #[.int .i64 (s : Int)];have bO:=Blk.new (w.alloc (.cells #[.int .i64 (s : Int)] 3)) 84 (Zw (List.replicate n 0));have b6:=Blk.new ((w.alloc (.cells #[.int .i64 (s : Int)] 3)).alloc (.cells (Zw (List.replicate n 0)) 84)) 41 #[(.slice (some ⟨w.heap.size + 1,0,none⟩) n n)];have b7:=Blk.new (((w.alloc (.cells #[.int .i64 (s : Int)] 3)).alloc (.cells (Zw (List.replicate n 0)) 84)).alloc (.cells #[(.slice (some ⟨w.heap.size + 1,0,none⟩) n n)] 41)) 128 #[.int .u64 0];have bN:=Boxed.new ((((w.alloc (.cells #[.int .i64 (s : Int)] 3)).alloc (.cells (Zw (List.replicate n 0)) 84)).alloc (.cells #[(.slice (some ⟨w.heap.size + 1,0,none⟩) n n)] 41)).alloc (.cells #[.int .u64 0] 128)) 41 (.slice A n c);simp only [World.size_alloc] at bO b6 b7 bN
 have hB0 : Below w.heap.size w (((((w.alloc (.cells #[.int .i64 (s : Int)] 3)).alloc (.cells (Zw (List.replicate n 0)) 84)).alloc (.cells #[(.slice (some ⟨w.heap.size + 1,0,none⟩) n n)] 41)).alloc (.cells #[.int .u64 0] 128)).alloc (.cells #[.slice A n c] 41)):=by go_grown
 have h0 : DownI w.heap.size n (2 ^ s) l (fun r=>.int .u64 (r : Int)) 41 128 (.int .i64 (s : Int)) 3 [] (((((w.alloc (.cells #[.int .i64 (s : Int)] 3)).alloc (.cells (Zw (List.replicate n 0)) 84)).alloc (.cells #[(.slice (some ⟨w.heap.size + 1,0,none⟩) n n)] 41)).alloc (.cells #[.int .u64 0] 128)).alloc (.cells #[.slice A n c] 41)):=
  ⟨List.replicate n 0,0,(((bD.alloc _).alloc _).alloc _).alloc _,((bO.alloc _).alloc _).alloc _,(b6.alloc _).alloc _,b7.alloc _,by simp,Lt32.replicate _,Nat.pow_pos (by omega),fun _=>by rw [List.length_nil,Nat.sub_zero,List.drop_of_length_le (by simp),List.drop_of_length_le (by rw [hl.len];exact Nat.le_refl _)];simp [val]⟩
 have hmx : Tryz.prog.follows .mixedOrders = true:=by kernel_rfl
 refine wpIn_rangeFunc_ownF rfl h9 (gf:=185) (lb:=#[.pointer (some ⟨w.heap.size + 1 + 1 + 1 + 1,0,none⟩)]) rfl trivial (enters_of Tryz.func185 (by kernel_rfl) rfl)
  (Zhu 8 (by omega) (w.heap.size + 1 + 1 + 1 + 1) n c A l _ bN.cell (hl.below hB0)) KpD.trans (fun W l o o' _ h hc _=>KpD.put W l o o' h hc) (Below.refl _ _) (fun _=>rfl)
  (fun pre W=>DownI w.heap.size n (2 ^ s) l (fun r=>.int .u64 (r : Int)) 41 128 (.int .i64 (s : Int)) 3 pre W /\ Below w.heap.size w W)
  (fun _ _ _=>False)
  (OwnFrom.and (Own.from (fun s X Y row hs hg hr=>hs.own hg hr) _) (ownFrom_below (Nat.le_refl _) (by simp;omega)))
  (fun cc=>Own.from (fun s X Y row hs hg hr=>hs) _)
  ⟨h0,hB0⟩
  (fun x=>{ tmps:=#[Value.slice A n c,Value.int IntKind.i64 (s : Int),undef,Value.pointer (some ⟨w.heap.size,0,none⟩),Value.slice none 0 0,Value.bool false,Value.int IntKind.i64 0,Value.bool false,Value.pointer (some ⟨w.heap.size + 1 + 1,0,none⟩),Value.pointer (some ⟨w.heap.size + 1 + 1 + 1,0,none⟩),.int .i64 (x.1 : Int),limb (l[x.1]?.getD 0),Value.int IntKind.i64 (s : Int),Value.int IntKind.i64 0,Value.slice A n c,Value.int IntKind.i64 (n : Int),Value.int IntKind.i64 0,Value.slice A n c,Value.int IntKind.i64 0,Value.slice A 0 c,Value.bool false,Value.slice A n c,Value.int IntKind.i64 (n : Int),Value.int IntKind.i64 0,Value.int IntKind.i64 (n : Int),Value.slice (some ⟨w.heap.size + 1,0,none⟩) n n,Value.slice A n c,Value.int IntKind.i64 0,Value.slice A n c,.func (.func 185) #[] #[.pointer (some ⟨w.heap.size + 1 + 1 + 1 + 1,0,none⟩)],.int .i64 (x.1 : Int),limb (l[x.1]?.getD 0),undef,undef,undef,undef,undef,undef,undef,undef,undef,undef,undef,undef,undef,undef,undef,undef,undef,undef,undef,undef,undef,undef,undef,undef,undef],defers:=[] }) ?assign ?body ?done ?stop
 case assign =>
  intro l x W K hK;dsimp only [Zg9]
  gi_wp2
  exact hK
 case body =>
  rintro lp pre x W ⟨⟨o,r,k1,k2,k3,k4,k5,k6,k7,k8⟩,hB⟩ hpre;obtain ⟨i,hi'⟩:=x;have k8:=Za k8;have k5:=Za k5;have c1:=k1.cell 0;have c3:=k3.cell 0;have c4:=k4.cell 0;have f4:=k4.frozen 0;have c2:=k2.cell i;rw [Zaw o i (by rw [k5.out];exact hi')] at c2;have f2:=k2.frozen i
  simp at c1 c3 c4
  have hx:=hl.lt.get i;obtain ⟨p,hp⟩ : ∃ p,2 ^ s = p:=⟨_,rfl⟩
  have hp0 : 0 < p:=by rw [<- hp];exact Nat.pow_pos (by omega)
  have hpb : p <= 2147483648:=by rw [<- hp];exact Nat.pow_le_pow_right (by omega) (show s <= 31 by omega)
  rw [hp] at k7;obtain ⟨t,ht⟩ : ∃ t,r * 4294967296 + l[i]?.getD 0 = t:=⟨_,rfl⟩
  have htb : t < 9223372036854775808:=by omega
  have htq : t / p < 4294967296:=by
   rw [Nat.div_lt_iff_lt_mul hp0];have:=Nat.mul_le_mul_left 4294967296 (show r + 1 <= p by omega);omega
  have hor : bits .or .u64 ((r : Int) * 4294967296) ((l[i]?.getD 0 : Nat) : Int) = (t : Int):=by
   have h1 : ((r : Int) * 4294967296) = ((4294967296 * r : Nat) : Int):=by omega
   rw [h1,u64_or_nat _ _ (by omega) (by omega)];have h2:=Nat.two_pow_add_eq_or_of_lt (i:=32) (b:=l[i]?.getD 0) (by omega) r;rw [show (2 : Nat) ^ 32 = 4294967296 by rfl] at h2;rw [<- h2];omega
  have k7' : r * 4294967296 < 9223372036854775808:=by omega
  have q5 : ((s : Int)).tmod 32 = (s : Int):=by rw [Int.tmod_eq_emod_of_nonneg (by omega)];exact q4
  replace ht:=Za ht;replace hp:=Za hp;obtain ⟨wo,hwo⟩ : ∃ wo : World,wo = W:=⟨_,rfl⟩;replace hwo:=Za hwo
  gi_wp2
  generalize hW1 : World.setCell W ⟨w.heap.size + 1 + 1 + 1,0,none⟩ _ = W1
  have a1 : W1.cell? ⟨w.heap.size,0,none⟩ = some (.int .i64 (s : Int)):=by rw [<- hW1];exact (World.cell?_setCell_other _ _ _ _ (by simp <;> omega)).trans c1
  have a2 : W1.cell? ⟨w.heap.size + 1,i,none⟩ = some (limb (o[i]?.getD 0)):=by rw [<- hW1];exact (World.cell?_setCell_other _ _ _ _ (by simp <;> omega)).trans c2
  have a3 : W1.cell? ⟨w.heap.size + 1 + 1,0,none⟩ = some (.slice (some ⟨w.heap.size + 1,0,none⟩) n n):=by rw [<- hW1];exact (World.cell?_setCell_other _ _ _ _ (by simp <;> omega)).trans c3
  have a4 : W1.cell? ⟨w.heap.size + 1 + 1 + 1,0,none⟩ = some (.int .u64 (t : Int)):=by rw [<- hW1];exact World.cell?_setCell_same _ _ _ c4
  have g2 : W1.frozen? ⟨w.heap.size + 1,i,none⟩ = false:=by rw [<- hW1];exact (World.frozen?_setCell _ _ _ _).trans f2
  have g4 : W1.frozen? ⟨w.heap.size + 1 + 1 + 1,0,none⟩ = false:=by rw [<- hW1];exact (World.frozen?_setCell _ _ _ _).trans f4
  replace hW1:=Za hW1;refine Za1 [8] (fun W'=>W'.cell? ⟨w.heap.size,0,none⟩ = some (.int .i64 (s : Int)) /\ W'.cell? ⟨w.heap.size + 1 + 1,0,none⟩ = some (.slice (some ⟨w.heap.size + 1,0,none⟩) n n) /\ W'.cell? ⟨w.heap.size + 1 + 1 + 1,0,none⟩ = some (.int .u64 (t : Int))) hmx (by kernel_rfl) ⟨a1,a3,a4⟩ (fun _=>?_);refine Zif 8 [0,1,2,3,4,5,6,7] rfl (by kernel_rfl) ⟨a1,a3,a4⟩ ?_
  iterate 8 (refine tk1 (v:=?_) rfl (Or.inl ⟨by kernel_rfl,?_⟩) ?_;rotate_left;(· intro W2 hSw;(try dsimp only at hSw);go_simp;try with_reducible rfl);try simp only [Act.put,Zf0,Zfg,Zfv,putG_a,putG_s,putG_z])
  refine tk0 ?_;refine Zu (i:=8) rfl (by kernel_rfl) (by kernel_rfl) (fun K hK=>?_);go_simp;refine hK.out _ _ ?_;clear hK K
  try simp only [Act.put,Zf0,Zfg,Zfv]
  refine Zk (by kernel_rfl) ?_ _;refine OnlyNormal.normal ?_
  generalize hW2 : World.drew (World.setCell W1 _ _) = W2
  have b1 : W2.cell? ⟨w.heap.size,0,none⟩ = some (.int .i64 (s : Int)):=by rw [<- hW2];exact (World.cell?_setCell_other _ _ _ _ (by simp <;> omega)).trans a1
  have b4 : W2.cell? ⟨w.heap.size + 1 + 1 + 1,0,none⟩ = some (.int .u64 (t : Int)):=by rw [<- hW2];exact (World.cell?_setCell_other _ _ _ _ (by simp <;> omega)).trans a4
  have h4 : W2.frozen? ⟨w.heap.size + 1 + 1 + 1,0,none⟩ = false:=by rw [<- hW2];exact (World.frozen?_setCell _ _ _ _).trans g4
  replace hW2:=Za hW2;clear a1 a2 a3 a4 g2 g4 c1 c2 c3 c4 f2 f4
  gi_wp2
  refine Za1 [6] (fun W'=>W'.cell? ⟨w.heap.size,0,none⟩ = some (.int .i64 (s : Int)) /\ W'.cell? ⟨w.heap.size + 1 + 1 + 1,0,none⟩ = some (.int .u64 (t : Int))) hmx (by kernel_rfl) ⟨b1,b4⟩ (fun _=>?_);refine Zif 6 [0,1,2,3,4,5] rfl (by kernel_rfl) ⟨b1,b4⟩ ?_
  iterate 6 (refine tk1 (v:=?_) rfl (Or.inl ⟨by kernel_rfl,?_⟩) ?_;rotate_left;(· intro W2 hSw;(try dsimp only at hSw);go_simp;try with_reducible rfl);try simp only [Act.put,Zf0,Zfg,Zfv,putG_a,putG_s,putG_z])
  refine tk0 ?_;refine Zu (i:=6) rfl (by kernel_rfl) (by kernel_rfl) (fun K hK=>?_);go_simp;refine hK.out _ _ ?_;clear hK K
  try simp only [Act.put,Zf0,Zfg,Zfv]
  refine Zk (by kernel_rfl) ?_ _;refine OnlyNormal.normal ?_
  generalize hW3 : World.drew (World.setCell W2 _ _) = W3
  gi_wp2
  have hp:=hp.out;have ht:=ht.out
  have z0 : ((2 : Int) ^ s) = (p : Int):=by rw [<- hp];push_cast;rfl
  have z1 : IntKind.u32.wrap ((t : Int) / 2 ^ s) = ((t / p : Nat) : Int):=by
   rw [z0,show (t : Int) / (p : Int) = ((t / p : Nat) : Int) from rfl]
   generalize t / p = z at *
   simp only [IntKind.wrap_u32];omega
  have z2 : bits BinOp.and IntKind.u64 (t : Int) (IntKind.u64.wrap (IntKind.u64.wrap (2 ^ s) - 1)) = ((t % p : Nat) : Int):=by
   rw [z0,show IntKind.u64.wrap (IntKind.u64.wrap (p : Int) - 1) = ((p - 1 : Nat) : Int) by simp only [IntKind.wrap_u64];omega,u64_and_nat _ _ (by omega) (by omega),<- hp,Nat.and_two_pow_sub_one_eq_mod]
  have hW1:=hW1.out;have hW2:=hW2.out;rw [z1] at hW2;rw [z2] at hW3;have hr : t % p < p:=Nat.mod_lt _ hp0
  have he : t / p * p + t % p = r * 4294967296 + l[i]?.getD 0:=by rw [ht,Nat.mul_comm];exact Nat.div_add_mod _ _
  generalize t / p = q at *
  generalize t % p = r' at *
  subst hp;subst hW1;subst hW2;subst hW3;refine ⟨((KeepsOthers.setCell _ _ _).trans ((KeepsOthers.setCell _ _ _).trans (KeepsOthers.drew _))).trans ((KeepsOthers.setCell _ _ _).trans (KeepsOthers.drew _)),((KpD.set_ (w:=w) (o:=0) hl (by omega) (by omega) (.int .u64 (t : Int))).trans (KpD.set_ (w:=w) (o:=i) hl (by omega) (by omega) (limb q))).trans (KpD.set_ (w:=w) (o:=0) hl (by omega) (by omega) (.int .u64 (r' : Int))),?_,?_⟩
  ·refine DownI.step (x:=⟨i,hi'⟩) (((((k1.far (by simp <;> omega) _).far (by simp <;> omega) _).drewN 1).far (by simp <;> omega) _).drewN 1) ?_ (((((k3.far (by simp <;> omega) _).far (by simp <;> omega) _).drewN 1).far (by simp <;> omega) _).drewN 1) (((((k4.set_ 0 (.int .u64 (t : Int))).far (by simp <;> omega) _).drewN 1).set_ 0 (.int .u64 (r' : Int))).drewN 1) k5.out k6 htq hr hl.len hpre k8.out he
   have:=((((k2.far (p:=⟨w.heap.size + 1 + 1 + 1,0,none⟩) (by simp <;> omega) (.int .u64 (t : Int))).set_ i (limb q)).drewN 1).far (p:=⟨w.heap.size + 1 + 1 + 1,0,none⟩) (by simp <;> omega) (.int .u64 (r' : Int))).drewN 1;rw [Zbg] at this;exact this
  ·exact Zf ((Zf ((hB.setCell (p:=⟨w.heap.size + 1 + 1 + 1,0,none⟩) (by simp <;> omega) _).setCell (p:=⟨w.heap.size + 1,i,none⟩) (by simp <;> omega) _) 1).setCell (p:=⟨w.heap.size + 1 + 1 + 1,0,none⟩) (by simp <;> omega) _) 1
 case done =>
  rintro D ys W hD rfl ⟨⟨o,r,k1,k2,k3,k4,k5,k6,k7,k8⟩,hB⟩ hK;have k8:=k8 (by rw [Zcw (Nat.le_refl _)]);rw [Zcw (Nat.le_refl _),Nat.sub_self,List.drop_zero,List.drop_zero] at k8;obtain ⟨e1,e2⟩:=Znc (U:=val l) (V:=2 ^ s) (q:=val o) (R:=r) (by omega) k7;have hLo:=Lim.of_blk k2 k6 (by rw [k5];unfold maxLen;omega);rw [k5] at hLo;replace k8:=Za k8;replace k5:=Za k5;replace e1:=Za e1;clear e2;have c3:=k3.cell 0;have c4:=k4.cell 0
  simp at c3 c4
  gi_wp2
  refine wpIn_wide.2 ?_
  go_quiet (fail)
  gi_wp2
  have hK' : (W.drewN nq).heap[D]? = some (.deferred (some [])):=hK;refine ⟨by simp,.inl ⟨_,_,rfl,run_takeDeferred hK',?_⟩⟩;have hL2:=Zf9 (hLo.drewN nq) (grownBy_putObj' (W.drewN nq) D (.deferred none)) (fun r e=>by cases e;exact ⟨_,hK',rfl⟩);refine ⟨.tuple #[.slice (some ⟨w.heap.size + 1,0,none⟩) n n,.bool (decide ((0 : Int) < r))],by simp [results,Tryz.f171,go_sem],⟨_,_,_,_,_,rfl,hL2,e1.out,?_⟩⟩;exact (Zf hB nq).trans (belowK_b (w:=w) (Nat.le_refl _) _ D _ _ (by simp at hD;omega) hK' rfl rfl)
 case stop =>
  rintro D c pre W _ _ h _;exact h.elim
end Go.Proofs.YtigdclhagmnopaaGreat
