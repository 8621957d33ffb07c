/- Package wide: step. Package wide: down, an iterator over -/
import Derived.BigQuiet
import Derived.Deep.QuietTactic
import Derived.Laws.IdiomCopy
import Derived.RangeFuncBox
import Derived.RangeFuncLeaves
import Derived.RangeFuncNested
import Derived.RangeFuncCalls
import Derived.Shelf.Abstract
import Derived.OwnWalkIn
import Derived.TacticsInMore
import Derived.LoopNIn
import Derived.LoopIn
import Derived.Deep.RegionHeld3
import Derived.TacticsIn
import Derived.Shelf.RegionOpen
import Derived.Test.YtaioanjcjijckaaGreatZl01
set_option maxRecDepth 100000
set_option maxHeartbeats 2000000
set_option linter.unusedSimpArgs false
set_option linter.unusedVariables false
namespace Go.Proofs.YtaioanjcjijckaaGreat
open Go.RowKit
attribute [local go_sem] Zg
theorem MutL.reads {w : World} {g off : Nat} {l : List Nat} (h : MutL w g off l) : Reads w w.heap.size 1 (some ⟨g,off,none⟩) l.length (l.map limb):=
 ⟨by simp,fun hn=>⟨_,rfl,by have:=Zs (h 0 hn).1;exact this,fun j u hu=>by
  rw [Zg]
  have hj : j < l.length:=by
   rcases Nat.lt_or_ge j l.length with h' | h'
   ·exact h'
   ·rw [List.getElem?_eq_none (by simpa using h')] at hu;cases hu
  rw [(h j hj).1];rw [List.getElem?_map,List.getElem?_eq_getElem hj] at hu;rw [List.getElem?_eq_getElem hj]
  simpa using hu⟩⟩
theorem MutL.below {w w' : World} {g off : Nat} {l : List Nat} (h : MutL w g off l) (hb : Below w.heap.size w w') : MutL w' g off l:=fun j hj =>
 ⟨Zc hb (h j hj).1,Zi hb (h j hj).1 (h j hj).2⟩
theorem MutL.win {w : World} {g off : Nat} {l : List Nat} (h : MutL w g off l) {k n : Nat} (hk : k + n <= l.length) : MutL w g (off + k) ((l.drop k).take n):=fun j hj=>by
 rw [List.length_take,List.length_drop] at hj;have:=h (k + j) (by omega);rw [List.getElem?_take,if_pos (by omega),List.getElem?_drop,Nat.add_assoc];exact this
theorem MutL.splice {w : World} {g : Nat} {u l : List Nat} {k : Nat} (h : MutL w g 0 u) (hk : k + l.length <= u.length) : MutL (w.setCells g k (l.map limb)) g 0 (splice u k l):=fun j hj=>by
 rw [Zcy hk] at hj;obtain ⟨h1,h2⟩:=h j hj;rw [Nat.zero_add] at h1 h2 ⊢;refine ⟨?_,by rw [World.frozen?_setCells];exact h2⟩
 by_cases hin : k <= j /\ j < k + l.length
 ·obtain ⟨i,rfl⟩ : ∃ i,j = k + i:=⟨j - k,by omega⟩
  rw [Zj5 hk (by omega)]
  have:=World.cell?_setCells_in g (l.map limb) k w (fun i hi=>by
   rw [List.length_map] at hi;have:=(h (k + i) (by omega)).1;rw [Nat.zero_add] at this
   rw [this];rfl) i (by rw [List.length_map];omega)
  rw [this]
  simp [List.getElem?_eq_getElem (show i < l.length by omega)]
 ·rw [Ziu hk (by omega),World.cell?_setCells_out g _ k w _ (fun _ _=>by rw [List.length_map];simp only [];omega)]
  exact h1
theorem Zrc {P : Program} {f : FuncId} {args : Array Value} {w : World} {a n : Nat} {v : Value}
    (h : Calls P f args (w.drewN (a + n)) fun e w'=>e = .returned v /\ ∃ m,w' = (w.drewN (a + n)).drewN m) :
    Calls P f args (w.drewN (a + n)) fun e w''=>e = .returned v /\ ∃ m,w'' = w.drewN (a + m):=
 h.mono fun _ _ ⟨he,m,hm⟩=>⟨he,n + m,by rw [hm,World.drewN_drewN,Nat.add_assoc]⟩
theorem div32_q (x y d : Nat) (w : World) (hx : x < d) (hy : y < 4294967296) (hd : d < 4294967296) :
    Calls Tryz.prog 223 #[limb x,limb y,limb d] w fun e w'=>e = .returned (.tuple #[limb ((x * 4294967296 + y) / d),limb ((x * 4294967296 + y) % d)]) /\ ∃ m,w' = w.drewN m:=
 (Zkz x y d w hx hy hd).mono fun _ _ ⟨he,hm⟩=>⟨he,1,hm⟩
def StepP (w : World) (g off : Nat) (u v : List Nat) (e : Ending) (w' : World) : Prop:=
 ∃ l w1,e = .returned (limb (val u / val v)) /\ l.length = u.length /\ Lt32 l /\ val l = val u % val v /\ Below w.heap.size w w1 /\ w' = w1.setCells g off (l.map limb)
theorem Zsz (g off n c d : Nat) (B : Option Addr) (u v : List Nat) (w : World) (hu : MutL w g off u) (hul : u.length = n + 1) (hut : Lt32 u) (hnc : n + 1 <= c) (hcm : c <= maxLen) (hn9 : n <= 1000000) (hn0 : 0 < n)
    (hv : Lim w B n d v) (hlt : val u < 4294967296 * val v) (htop : v[n - 1]?.getD 0 ≠ 0) :
    Calls Tryz.prog 207 #[.slice (some ⟨g,off,none⟩) (n + 1) c,.slice B n d] w (StepP w g off u v):=by
 unfold maxLen at hcm;have hnd:=hv.2.1;have hdm:=hv.2.2.1;unfold maxLen at hdm;have hvl:=hv.len;obtain ⟨bv,ov,rfl,hcv⟩:=hv.at_ (k:=n - 1) (by omega)
 have hV : 0 < val v:=by
  rcases Nat.eq_zero_or_pos (val v) with h0 | h0
  ·rw [h0] at hlt;omega
  ·exact h0
 obtain ⟨q,hq⟩ : ∃ q,val u / val v = q:=⟨_,rfl⟩
 have hqlt : q < 4294967296:=by rw [<- hq,Nat.div_lt_iff_lt_mul hV];exact hlt
 have hun:=hut.get n;have hun1:=hut.get (n - 1);have hvn:=hv.lt.get (n - 1);have hcu:=hu n (by omega);have hcu1:=hu (n - 1) (by omega)
 have hguess : u[n]?.getD 0 < v[n - 1]?.getD 0 -> q <= (u[n]?.getD 0 * 4294967296 + u[n - 1]?.getD 0) / v[n - 1]?.getD 0:=fun _=>by
  rw [<- hq];exact Zkt (by omega) (Zma hvl hn0) (Zp7 hul hn0 hut)
 have hglt : u[n]?.getD 0 < v[n - 1]?.getD 0 -> (u[n]?.getD 0 * 4294967296 + u[n - 1]?.getD 0) / v[n - 1]?.getD 0 < 4294967296:=fun h=>by
  rw [Nat.div_lt_iff_lt_mul (by omega)];have:=Nat.mul_le_mul_left 4294967296 (show u[n]?.getD 0 + 1 <= v[n - 1]?.getD 0 by omega);omega
 have HQ:=Za hq;have hfull:=Za hul;have hvl':=Za hvl;clear hq hul hvl;have hfz:=hcu.1;have hfz1:=hcu1.1;obtain ⟨x,hx⟩ : ∃ x,u[n]?.getD 0 = x:=⟨_,rfl⟩;obtain ⟨y,hy⟩ : ∃ y,u[n - 1]?.getD 0 = y:=⟨_,rfl⟩;obtain ⟨z,hz⟩ : ∃ z,v[n - 1]?.getD 0 = z:=⟨_,rfl⟩;rw [hx] at hun hfz;rw [hy] at hun1 hfz1;rw [hz] at hvn hcv htop;rw [hx,hy,hz] at hguess hglt;clear hx hy hz hcu hcu1
 by_cases hc : x < z
 all_goals
  first
  | (have hc' : decide (x < z) = true:=by simpa using hc)
  | (have hc' : decide (x < z) = false:=by simpa using hc)
  go_enter Tryz.func207,Tryz.ntmps207;go_wp2_with fail
  go_quiet (fail)
  go_wp2_with fail
  first
  | (go_quiet ((go_at_call 223;exact Zrc (div32_q _ _ _ _ hc hun1 hvn))))
  | skip
  go_wp2_with fail
  go_loopw [6] (fun gv wr=>∃ gs : Nat,gv = limb gs /\ q <= gs /\ gs < 4294967296 /\ Below w.heap.size w wr) (fun gv _=>(intOf gv).toNat)
  case atStart=>first | exact ⟨_,rfl,hguess hc,hglt hc,Zh (Zh (Below.refl _ _) _) _⟩ | exact ⟨4294967295,rfl,by omega,by omega,Zh (Below.refl _ _) _⟩
  case round =>
   obtain ⟨gs,rfl,hg1,hg2,hB⟩:=hrel;clear hguess hglt hfz hfz1;have huM:=hu.below hB;have hvL:=hv.below hB;have hbv : bv < wr.heap.size:=Nat.lt_of_lt_of_le (Zs hcv) hB.size;have hgw : g < wr.heap.size:=Nat.lt_of_lt_of_le (Zs (hu 0 (by rw [hfull.out];omega)).1) hB.size
   have hrd : Reads wr wr.heap.size 1 (some ⟨g,off,none⟩) (n + 1) (u.map limb):=by have:=huM.reads;rw [hfull.out] at this;exact this
   go_wp2_with fail;refine (Zkw ⟨g,off,none⟩ (n + 1) c u _ hrd hfull.out hut (by omega) hnc (by unfold maxLen;omega)).mono ?_;rintro e w1 ⟨v1,rfl,hown,hb1⟩;obtain ⟨g1,cap1,hv1,hg1',hg1s,hl1,hc1,hM1⟩:=hown.mut (by rw [hfull.out];omega);rw [hfull.out] at hv1 hl1;subst hv1;go_wp2_with fail;refine (Zlk g1 0 n cap1 d gs (some ⟨bv,ov,none⟩) u v _ hM1 hfull.out hut hl1 hc1 (by omega) (hvL.below hb1) (fun b o e=>by injection e with e;injection e with e1 e2;omega) hg2).mono ?_;rintro e w2 ⟨b,l,hb01,rfl,hM2,hll,hlt2,hI,hgr⟩;have hB2 : Below w.heap.size w w2:=(hB.trans (hb1.mono hB.size)).grown hgr (by have:=hb1.size;have:=hB.size;omega) (fun j hj=>by injection hj with hj;have:=hB.size;omega)
   rcases Nat.eq_zero_or_pos b with rfl | hb0
   ·obtain ⟨hit1,hit2⟩:=Zk3 (U:=val u) (q:=gs) (W:=val l) hV (by rw [Nat.mul_zero] at hI;exact hI) (by rw [HQ.out];exact hg1)
    have hcopy : ∀ ty,(Builtin.copy_ #[25,25] ty #[.slice (some ⟨g,off,none⟩) (n + 1) c,.slice (some ⟨g1,0,none⟩) (n + 1) cap1]).run Tryz.prog w2 = .ok (goInt ((n + 1 : Nat) : Int)) (w2.setCells g off (l.map limb)):=fun ty=>by
     obtain ⟨i0,hi,hz0,hz1,hz2⟩:=info_parts Zbw
     have h:=run_copy_cells (P:=Tryz.prog) w2 25 25 ty 147 g off (n + 1) c ⟨g1,0,none⟩ (n + 1) cap1 (l.map limb) Tryz.underlying25 (by rw [hi];simp [hz1]) (by rw [List.length_map,hll];exact (Nat.min_self _).symm)
      (fun j x hx=>by
       have hj : j < l.length:=by
        rcases Nat.lt_or_ge j l.length with h' | h'
        ·exact h'
        ·rw [List.getElem?_eq_none (by simpa using h')] at hx;cases hx
       rw [Zg,(hM2 j hj).1];rw [List.getElem?_map,List.getElem?_eq_getElem hj] at hx;rw [List.getElem?_eq_getElem hj]
       simpa using hx)
      (fun j hj=>by
       rw [List.length_map,hll] at hj;have h3:=(huM j (by rw [hfull.out];exact hj)).1;have h4:=Zc hb1 h3
       rw [(World.cell?_of_block (a:=⟨g,off + j,none⟩) (hgr.block g (by have:=hb1.size;omega) (fun e=>by injection e with e;omega))),h4];rfl)
      (fun j hj=>by
       rw [List.length_map,hll] at hj;have h3:=huM j (by rw [hfull.out];exact hj);have h4:=Zi hb1 h3.1 h3.2
       rw [(World.frozen?_of_block (a:=⟨g,off + j,none⟩) (hgr.block g (by have:=hb1.size;omega) (fun e=>by injection e with e;omega))),h4])
      (Zcc l)
     rw [List.length_map,hll] at h;exact h
    have hP : StepP w g off u v (.returned (limb gs)) (w2.setCells g off (l.map limb)):=⟨l,w2,by rw [hit1],by rw [hll,hfull.out],hlt2,hit2,hB2,rfl⟩;replace hP:=Za hP;clear hit1 hit2 hI hll;go_wp2_with fail;go_ret;exact hP.out
   ·obtain rfl : b = 1:=by omega
    have hmiss : q < gs:=by
     have:=Ziz (q:=gs) (W:=val l) (M:=pw (n + 1)) hV (by rw [Nat.mul_one] at hI;exact hI) (by have:=Zdw hlt2;rw [hll] at this;exact this);rw [HQ.out] at this;exact this
    clear hI hll;go_wp2_with fail
    go_roundw
    case rel=>exact ⟨gs - 1,by go_num,by omega,by omega,hB2⟩
    case measure=>simp [intOf];omega
open Go.RowKit Go.Shelf
attribute [local go_sem] Oper.semAt_some
def Zb1 (n : Nat) : Nat -> List { i : Nat // i < n }
 | 0=>[]
 | k + 1=>Zb1 n k ++ (if h : k < n then [⟨n - 1 - k,by omega⟩] else [])
theorem Zcm {n k : Nat} (h : k < n) : Zb1 n (k + 1) = Zb1 n k ++ [⟨n - 1 - k,by omega⟩]:=by simp [Zb1,h]
theorem Zca {n k : Nat} (h : k <= n) : (Zb1 n k).length = k:=by
 induction k with
 | zero=>rfl
 | succ k ih=>rw [Zcm (by omega)];simp [ih (by omega)]
theorem Zjp {n k : Nat} (h : k <= n) (i : { i : Nat // i < n }) : i ∈ Zb1 n k ↔ n - k <= i.1:=by
 induction k with
 | zero=>simp [Zb1];omega
 | succ k ih =>
  have:=i.2;rw [Zcm (by omega),List.mem_append,ih (by omega),List.mem_singleton,Subtype.ext_iff]
  simp;omega
def Zfv (l : List Nat) (n : Nat) (i : { i : Nat // i < n }) : Array Value:=#[.int .i64 (i.1 : Int),limb (l[i.1]?.getD 0)]
theorem Zil {W W' : World} {row : Option Nat} {A : Option Addr} {n c : Nat} {l : List Nat} (h : Lim W A n c l) (hg : W.grownBy W' row) (hrow : ∀ r,row = some r -> ∃ o : Obj,W.heap[r]? = some o /\ o.isCells = false) : Lim W' A n c l:=
 ⟨h.1,h.2.1,h.2.2.1,h.2.2.2.1,fun hn=>by
  obtain ⟨b,o,e,hc⟩:=h.2.2.2.2 hn
  exact ⟨b,o,e,fun k hk=>cell_kept (hc k hk) hg hrow⟩⟩
def KpD (Bs : Nat) (A : Option Addr) (n c : Nat) (l : List Nat) (W W' : World) : Prop:=
 (W.cell? ⟨Bs,0,none⟩ = some (.slice A n c) -> W'.cell? ⟨Bs,0,none⟩ = some (.slice A n c)) /\ (Lim W A n c l -> Lim W' A n c l)
theorem KpD.refl (Bs : Nat) (A : Option Addr) (n c : Nat) (l : List Nat) (W : World) : KpD Bs A n c l W W:=⟨id,id⟩
theorem KpD.trans {Bs n c : Nat} {A : Option Addr} {l : List Nat} {W1 W2 W3 : World} (h : KpD Bs A n c l W1 W2) (k : KpD Bs A n c l W2 W3) : KpD Bs A n c l W1 W3:=⟨fun x=>k.1 (h.1 x),fun x=>k.2 (h.2 x)⟩
theorem KpD.put {Bs n c : Nat} {A : Option Addr} {l : List Nat} (W : World) (lp : Nat) (o o' : Obj) (ho : W.heap[lp]? = some o) (hc : o.isCells = false) : KpD Bs A n c l W (W.putObj lp o'):=
 ⟨fun h=>cell_kept h (grownBy_putObj' W lp o') (fun r e=>by cases e;exact ⟨o,ho,hc⟩),fun h=>Zil h (grownBy_putObj' W lp o') (fun r e=>by cases e;exact ⟨o,ho,hc⟩)⟩
theorem KpD.set_ {Bs n c : Nat} {A : Option Addr} {l : List Nat} {w W : World} {g o : Nat} (hL : Lim w A n c l) (hg : w.heap.size <= g) (hB : g ≠ Bs) (u : Value) : KpD Bs A n c l W (W.setCell ⟨g,o,none⟩ u):=
 ⟨fun h=>(World.cell?_setCell_other W _ _ u (fun e=>hB (by cases e;rfl))).trans h,fun h=>⟨h.1,h.2.1,h.2.2.1,h.2.2.2.1,fun hn=>by
  obtain ⟨b,o',e,hc⟩:=h.2.2.2.2 hn;obtain ⟨b1,o1,e1,hc1⟩:=hL.2.2.2.2 hn;rw [e] at e1
  cases e1
  have hlt:=Zs (hc1 0 hn)
  exact ⟨b,o',e,fun k hk=>(World.cell?_setCell_other W _ _ u (fun e2=>by cases e2;simp at hlt;omega)).trans (hc k hk)⟩⟩⟩
theorem Zs6 (d : Nat) (hd : 1 <= d) (lp Bs n c : Nat) (A : Option Addr) (l : List Nat) (J Jx : List { i : Nat // i < n } -> World -> Prop)
    (hY : ∀ pre x W,J pre W -> pre.length < n -> YieldAt Fence.wide (d - 1) Tryz.prog lp (Zfv l n x) W fun e W' =>
     (e = .returned (.bool true) /\ J (pre ++ [x]) W' /\ KpD Bs A n c l W W') \/ (e = .returned (.bool false) /\ Jx (pre ++ [x]) W'))
    (W : World) (hBs : W.cell? ⟨Bs,0,none⟩ = some (.slice A n c)) (hL : Lim W A n c l) (h0 : J [] W) :
    CallsIn Fence.wide d Tryz.prog 226 #[.func (.yield lp) #[] #[],.pointer (some ⟨Bs,0,none⟩)] W fun e W'=>(∃ v,e = .returned v) /\
     ((∃ ys,ys = Zb1 n n /\ J ys W') \/ (∃ pre,(∃ k,k <= n /\ pre = Zb1 n k) /\ Jx pre W')):=by
 have hnc:=hL.2.1;have hcm:=hL.2.2.1;unfold maxLen at hcm;refine callsIn_of_wp Tryz.func226 rfl trivial ?_ rfl;simp only [Tryz.ntmps226,List.size_toArray,List.length_cons,List.length_nil,Nat.reduceAdd,Nat.reduceSub,Array.replicate_succ,Array.replicate_zero,List.push_toArray,List.append_toArray,List.nil_append,List.cons_append]
 gi_wp2
 gi_loopw [3] (fun i wr=>∃ k : Nat,k <= n /\ i = .int .i64 ((n : Int) - 1 - k) /\ J (Zb1 n k) wr /\ Hid (wr.cell? ⟨Bs,0,none⟩ = some (.slice A n c)) /\ Lim wr A n c l)
  (fun i _=>(intOf i + 1).toNat)
 case atStart=>exact ⟨0,Nat.zero_le _,by go_num,h0,hBs,hL⟩
 case round =>
  obtain ⟨k,hk,rfl,hJs,hbx',hLr⟩:=hrel;have hbx:=hbx'.out
  by_cases hlt : k < n
  ·obtain ⟨b,o,rfl,hcx⟩:=hLr.at_ (k:=n - 1 - k) (by omega)
   obtain ⟨fn,tmps,assign,body,hy,hR⟩:=hY _ ⟨n - 1 - k,by omega⟩ wr hJs (by rw [Zca hk];exact hlt);dsimp only [Zfv] at hy;rw [show ((n - 1 - k : Nat) : Int) = (n : Int) - 1 - k by omega] at hy
   gi_wp2
   refine hR.mono ?_;rintro e W3 (⟨rfl,hJ3,hk3⟩ | ⟨rfl,hJx3⟩)
   ·have hbx3:=Za (hk3.1 hbx'.out)
    gi_wp2
    go_roundw
    case rel=>exact ⟨k + 1,by omega,by go_num,by rw [Zcm hlt];exact hJ3,hbx3,hk3.2 hLr⟩
    case measure=>simp [intOf];omega
   ·gi_wp2
    refine bodyPost_ret (results_none rfl _ _ _) rfl ?_;exact ⟨⟨_,rfl⟩,.inr ⟨_,⟨k + 1,by omega,(Zcm hlt).symm⟩,hJx3⟩⟩
  ·obtain rfl : k = n:=by omega
   gi_wp2
   go_end0
   exact ⟨⟨_,rfl⟩,.inl ⟨_,rfl,hJs⟩⟩
theorem Zgk (d : Nat) (hd : 1 <= d) (Bs n c : Nat) (A : Option Addr) (l : List Nat) (w : World) (hc : w.cell? ⟨Bs,0,none⟩ = some (.slice A n c)) (hL : Lim w A n c l) :
    SeqStopsK Fence.wide d Tryz.prog 226 #[.pointer (some ⟨Bs,0,none⟩)] (Zfv l n) (KpD Bs A n c l) (fun ys=>ys = Zb1 n n) (fun pre=>∃ k,k <= n /\ pre = Zb1 n k) n w:=fun lp J Jx W hW _ _ hY h0 =>
 Zs6 d hd lp Bs n c A l J Jx hY W ((hW.cell (Zs hc)).trans hc) (hL.below hW) h0
theorem Zjc (A : Option Addr) (n c : Nat) (w : World) :
    Calls Tryz.prog 210 #[.slice A n c] w fun e w'=>e = .returned (.func (.func 226) #[] #[.pointer (some ⟨w.heap.size,0,none⟩)]) /\ w.alloc (.cells #[.slice A n c] 25) = w':=by
 go_enter Tryz.func210,Tryz.ntmps210
 go_wp2
 go_ret;exact ⟨rfl,rfl⟩
def Za8 (a b : List Nat) : Int:=if a.length < b.length then -1 else if b.length < a.length then 1 else if val a < val b then -1 else if val b < val a then 1 else 0
theorem Zjq {l : List Nat} {k : Nat} (h : k < l.length) : val (l.drop k) = l[k]?.getD 0 + 4294967296 * val (l.drop (k + 1)):=by
 rw [List.drop_eq_getElem_cons h,val,List.getElem?_eq_getElem h];rfl
theorem Zh8 {a b : List Nat} {n k : Nat} (ha : a.length = n) (hb : b.length = n) (hla : Lt32 a) (hk : k < n) (he : ∀ j,k < j -> j < n -> a[j]?.getD 0 = b[j]?.getD 0) (hlt : a[k]?.getD 0 < b[k]?.getD 0) : val a < val b:=by
 have h1 : ∀ m,k < n - m -> m <= n -> val (a.drop (n - m)) = val (b.drop (n - m)):=by
  intro m
  induction m with
  | zero=>intro _ _;rw [Nat.sub_zero,List.drop_of_length_le (by omega),List.drop_of_length_le (by omega)]
  | succ m ih =>
   intro h h';rw [Zjq (l:=a) (by omega),Zjq (l:=b) (by omega),he _ h (by omega),show n - (m + 1) + 1 = n - m by omega,ih (by omega) (by omega)]
 have h2 : val (a.drop (k + 1)) = val (b.drop (k + 1)):=by
  rcases Nat.lt_or_ge (k + 1) n with h | h
  ·have:=h1 (n - (k + 1)) (by omega) (by omega)
   rwa [show n - (n - (k + 1)) = k + 1 by omega] at this
  ·rw [List.drop_of_length_le (by omega),List.drop_of_length_le (by omega)]
 have h3:=Z2 a k (by omega);have h4:=Z2 b k (by omega);rw [Zjq (by omega)] at h3 h4;have h5:=Zdw (hla.take k);rw [List.length_take,Nat.min_eq_left (by omega)] at h5;rw [h3,h4,h2]
 generalize val (b.drop (k + 1)) = t
 have : pw k * (a[k]?.getD 0 + 4294967296 * t + 1) <= pw k * (b[k]?.getD 0 + 4294967296 * t):=Nat.mul_le_mul_left _ (by omega);rw [Nat.mul_add,Nat.mul_one] at this;omega
theorem Zr9 {a b : List Nat} {n : Nat} (ha : a.length = n) (hb : b.length = n) (he : ∀ j,j < n -> a[j]?.getD 0 = b[j]?.getD 0) : a = b:=by
 apply List.ext_getElem (by omega)
 intro i h1 h2;have:=he i (by omega)
 rwa [List.getElem?_eq_getElem h1,List.getElem?_eq_getElem h2] at this
theorem Zkk (a : List Nat) : Za8 a a = 0:=by simp [Za8]
theorem Zbf (A B : Option Addr) (n c m d : Nat) (a b : List Nat) (w : World) (ha : Lim w A n c a) (hb : Lim w B m d b) :
    Calls Tryz.prog 154 #[.slice A n c,.slice B m d] w fun e w'=>e = .returned (.int .i64 (Za8 a b)) /\ Below w.heap.size w w':=by
 have hnc:=ha.2.1;have hmd:=hb.2.1;have hcm:=ha.2.2.1;have hdm:=hb.2.2.1;unfold maxLen at hcm hdm
 by_cases h1 : n < m
 ·have hne : (((n : Nat) : Int) != m) = true:=by simp;omega
  have hd : decide (n < m) = true:=by simpa using h1
  have hr : Za8 a b = -1:=by unfold Za8;rw [ha.len,hb.len,if_pos h1]
  rw [hr];go_enter Tryz.func154,Tryz.ntmps154
  go_wp2
  go_returns;exact ⟨rfl,by go_grown⟩
 by_cases h2 : m < n
 ·have hne : (((n : Nat) : Int) != m) = true:=by simp;omega
  have hd : decide (n < m) = false:=by simpa using h1
  have hr : Za8 a b = 1:=by unfold Za8;rw [ha.len,hb.len,if_neg h1,if_pos h2]
  rw [hr];go_enter Tryz.func154,Tryz.ntmps154
  go_wp2
  go_returns;exact ⟨rfl,by go_grown⟩
 obtain rfl : n = m:=by omega
 have hne : (((n : Nat) : Int) != n) = false:=by simp
 have h9 : 1 <= 9:=by omega
 refine (callsIn_wide (n:=9)).1 ?_;refine callsIn_of_wp_marks Tryz.func154 rfl trivial ?_ rfl;simp only [Tryz.ntmps154,List.size_toArray,List.length_cons,List.length_nil,Nat.reduceAdd,Nat.reduceSub,Array.replicate_succ,Array.replicate_zero,List.push_toArray,List.append_toArray,List.nil_append,List.cons_append]
 gi_wp2_with (refine ⟨trivial,?_⟩;gi_at_call 210;refine (callsIn_wide.2 (Zjc _ _ _ _)).mono ?_;rintro e w' ⟨rfl,rfl⟩)
 have bB:=Boxed.new w 25 (.slice B n d);have bR:=Boxed.new (w.alloc (.cells #[.slice B n d] 25)) 3 (.int .i64 0);have bN:=Boxed.new ((w.alloc (.cells #[.slice B n d] 25)).alloc (.cells #[.int .i64 0] 3)) 25 (.slice A n c);simp only [World.size_alloc] at bR bN
 have hB0 : Below w.heap.size w (((w.alloc (.cells #[.slice B n d] 25)).alloc (.cells #[.int .i64 0] 3)).alloc (.cells #[.slice A n c] 25)):=by go_grown
 refine wpIn_rangeFunc_ownF rfl h9 (gf:=226) (lb:=#[.pointer (some ⟨w.heap.size + 1 + 1,0,none⟩)]) rfl trivial (enters_of Tryz.func226 (by kernel_rfl) rfl)
  (Zgk 8 (by omega) (w.heap.size + 1 + 1) n c A a _ bN.cell (ha.below hB0)) KpD.trans (fun W l o o' _ h hc _=>KpD.put W l o o' h hc) (Below.refl _ _) (fun _=>rfl)
  (fun pre W=>((∀ p ∈ pre,a[p.1]?.getD 0 = b[p.1]?.getD 0) /\ W.cell? ⟨w.heap.size,0,none⟩ = some (.slice B n d) /\ W.cell? ⟨w.heap.size + 1,0,none⟩ = some (.int .i64 0) /\ W.frozen? ⟨w.heap.size + 1,0,none⟩ = false) /\ Below w.heap.size w W)
  (fun cc pre W=>(cc = .ret /\ ∃ ini last,pre = ini ++ [last] /\ (∀ p ∈ ini,a[p.1]?.getD 0 = b[p.1]?.getD 0) /\
   ((a[last.1]?.getD 0 < b[last.1]?.getD 0 /\ W.cell? ⟨w.heap.size + 1,0,none⟩ = some (.int .i64 (-1))) \/ (b[last.1]?.getD 0 < a[last.1]?.getD 0 /\ W.cell? ⟨w.heap.size + 1,0,none⟩ = some (.int .i64 1)))) /\ Below w.heap.size w W)
  (OwnFrom.and (Own.from (fun s X Y row hs hg hr=>⟨hs.1,cell_kept hs.2.1 hg hr,cell_kept hs.2.2.1 hg hr,(frozen_kept hs.2.2.1 hg hr).trans hs.2.2.2⟩) _) (ownFrom_below (Nat.le_refl _) (by simp;omega)))
  (fun cc=>OwnFrom.and (Own.from (fun s X Y row hs hg hr=>by
   obtain ⟨hc,ini,last,e1,e2,e3⟩:=hs;refine ⟨hc,ini,last,e1,e2,?_⟩
   rcases e3 with ⟨e3,e4⟩ | ⟨e3,e4⟩
   ·exact .inl ⟨e3,cell_kept e4 hg hr⟩
   ·exact .inr ⟨e3,cell_kept e4 hg hr⟩) _) (ownFrom_below (Nat.le_refl _) (by simp;omega)))
  ⟨⟨by simp,((bB.alloc _).alloc _).cell,(bR.alloc _).cell,(bR.alloc _).frozen⟩,hB0⟩
  (fun x=>{ tmps:=#[.slice A n c,.slice B n d,undef,.pointer (some ⟨w.heap.size,0,none⟩),.pointer (some ⟨w.heap.size + 1,0,none⟩),.int .i64 (x.1 : Int),limb (a[x.1]?.getD 0),.slice A n c,
   .int .i64 n,.slice B n d,.int .i64 n,.bool false,undef,undef,undef,undef,undef,.slice A n c,.func (.func 226) #[] #[.pointer (some ⟨w.heap.size + 1 + 1,0,none⟩)],.int .i64 (x.1 : Int),limb (a[x.1]?.getD 0),
   undef,undef,undef,undef,undef,undef,undef,undef,undef,undef,undef,undef],defers:=[] }) ?assign ?body ?done ?stop
 case assign =>
  intro l x W K hK;dsimp only [Zfv]
  gi_wp2
  exact hK
 case body =>
  rintro l pre x W ⟨⟨hp,hcB,hcr,hfr⟩,hB⟩ _;obtain ⟨i,hi⟩:=x;obtain ⟨bb,ob,rfl,hcx⟩:=(hb.below hB).at_ hi
  by_cases t1 : a[i]?.getD 0 < b[i]?.getD 0
  ·have hd1 : decide (a[i]?.getD 0 < b[i]?.getD 0) = true:=by simpa using t1
   gi_wp2
   exact ⟨KeepsOthers.setCell _ _ _,⟨rfl,pre,⟨i,hi⟩,rfl,hp,.inl ⟨t1,World.cell?_setCell_same' _ _ _ (by rw [hcr];rfl)⟩⟩,hB.setCell (p:=⟨w.heap.size + 1,0,none⟩) (by simp) _⟩
  ·have hd1 : decide (a[i]?.getD 0 < b[i]?.getD 0) = false:=by simpa using t1
   by_cases t2 : b[i]?.getD 0 < a[i]?.getD 0
   ·have hd2 : decide (b[i]?.getD 0 < a[i]?.getD 0) = true:=by simpa using t2
    gi_wp2
    exact ⟨KeepsOthers.setCell _ _ _,⟨rfl,pre,⟨i,hi⟩,rfl,hp,.inr ⟨t2,World.cell?_setCell_same' _ _ _ (by rw [hcr];rfl)⟩⟩,hB.setCell (p:=⟨w.heap.size + 1,0,none⟩) (by simp) _⟩
   ·have hd2 : decide (b[i]?.getD 0 < a[i]?.getD 0) = false:=by simpa using t2
    gi_wp2
    exact ⟨KeepsOthers.refl _,KpD.refl _ _ _ _ _ _,⟨fun p hp'=>(List.mem_append.1 hp').elim (hp p) (fun e=>by simp at e;subst e;simp;omega),hcB,hcr,hfr⟩,hB⟩
 case done =>
  rintro D ys W hD rfl ⟨⟨hne,hcB,hcr,hfr⟩,hB⟩ hK;have hab : a = b:=Zr9 ha.len hb.len (fun j hj=>hne ⟨j,hj⟩ ((Zjp (Nat.le_refl _) _).2 (by simp)))
  gi_wp2
  have hK':=(KeepsOthers.setCell W ⟨w.heap.size + 1,0,none⟩ (.int .i64 0)).same D _ hK rfl;refine ⟨by simp,.inl ⟨_,_,rfl,run_takeDeferred hK',?_⟩⟩;have hc5:=cell_kept (World.cell?_setCell_same' W ⟨w.heap.size + 1,0,none⟩ (.int .i64 0) (by rw [hcr];rfl)) (grownBy_putObj' _ D (.deferred none)) (fun r e=>by cases e;exact ⟨_,hK',rfl⟩);refine ⟨.int .i64 0,?_,by rw [hab,Zkk],(hB.setCell (p:=⟨w.heap.size + 1,0,none⟩) (by simp) _).trans (belowK_b (w:=w) (Nat.le_refl _) _ D _ _ (by simp at hD;omega) hK' rfl rfl)⟩
  simp [results,Tryz.f154,go_sem,hc5]
 case stop =>
  rintro D cc pre W hD ⟨k,hk,rfl⟩ ⟨⟨rfl,ini,last,e1,e2,e3⟩,hB⟩ hK
  obtain ⟨k',rfl⟩ : ∃ k',k = k' + 1:=by
   cases k with
   | zero=>simp [Zb1] at e1
   | succ k'=>exact ⟨k',rfl⟩
  rw [Zcm (by omega)] at e1;obtain ⟨rfl,e5⟩:=List.append_inj' e1 rfl
  have e6 : last.1 = n - 1 - k':=by
   have:=congrArg (List.map (fun z : { i : Nat // i < n }=>z.1)) e5
   simpa using this.symm
  rw [e6] at e3
  have he : ∀ j,n - 1 - k' < j -> j < n -> a[j]?.getD 0 = b[j]?.getD 0:=fun j hj hj'=>e2 ⟨j,hj'⟩ ((Zjp (by omega) _).2 (by simp;omega))
  obtain ⟨r,hcr,hr⟩ : ∃ r : Int,W.cell? ⟨w.heap.size + 1,0,none⟩ = some (.int .i64 r) /\ Za8 a b = r:=by
   rcases e3 with ⟨e3,e4⟩ | ⟨e3,e4⟩
   ·have:=Zh8 ha.len hb.len ha.lt (by omega) he e3
    exact ⟨_,e4,by unfold Za8;rw [ha.len,hb.len];simp [this]⟩
   ·have:=Zh8 hb.len ha.len hb.lt (by omega) (fun j h h'=>(he j h h').symm) e3
    exact ⟨_,e4,by unfold Za8;rw [ha.len,hb.len];simp [this];omega⟩
  gi_wp2
  refine ⟨by simp,.inl ⟨_,_,rfl,run_takeDeferred hK,?_⟩⟩;have hc5:=cell_kept hcr (grownBy_putObj' _ D (.deferred none)) (fun r e=>by cases e;exact ⟨_,hK,rfl⟩);refine ⟨.int .i64 r,?_,by rw [hr],hB.trans (belowK_b (w:=w) (Nat.le_refl _) W D _ _ (by simp at hD;omega) hK rfl rfl)⟩
  simp [results,Tryz.f154,go_sem,hc5]
def OnlyNormal (Q : Exit -> Act -> World -> Prop) : Exit -> Act -> World -> Prop
 | .normal,a,w=>Q .normal a w
 | _,_,_=>False
theorem OnlyNormal.no_out {Q : Exit -> Act -> World -> Prop} (h : LetsOut (OnlyNormal Q)) : False:=by
 obtain ⟨a,w,h⟩:=h;exact h
theorem OnlyNormal.normal {Q : Exit -> Act -> World -> Prop} {a : Act} {w : World} (h : Q .normal a w) : OnlyNormal Q .normal a w:=h
theorem Za1 {l n : Nat} {P : Program} {ops : Array Oper} {Q : Exit -> Act -> World -> Prop} (hnd : ∀ (i : Nat) (o : Oper),ops[i]? = some o -> ∀ c,o.op ≠ .defer c) :
    ∀ (is : List Nat) (a : Act) (w : World),wpOps P ops (OnlyNormal Q) is a w -> wpOpsIn (Fence.wide.inRound l) n P ops Q is a w
 | [],_,_,h=>h
 | i :: rest,a,w,h=>by
  simp only [wpOps] at h;simp only [wpOpsIn]
  cases ho : ops[i]? with
  | none=>simp only [ho] at h ⊢;exact Za1 hnd rest a w h
  | some o =>
   simp only [ho] at h ⊢
   by_cases hw : Region.wanted o (yielded ops a.tmps) = true
   ·simp only [hw,if_true] at h ⊢
    rcases h with h | ⟨_,h⟩
    ·refine ⟨fun _ _=>trivial,?_⟩
     rw [Oper.semAt_eq _ _ _ (hnd i o ho)];unfold Oper.wp at h
     generalize (execOp a.eval o).run P w = r at *
     cases r with
     | ok x w' =>
      cases x with
      | value v=>exact Za1 hnd rest _ _ h
      | skip=>exact Za1 hnd rest _ _ h
      | defer d=>exact Za1 hnd rest _ _ h
      | enter f args =>
       refine ⟨(fun h=>by cases h),CallsIn.inRound l (callsIn_wide.2 (Calls.mono h fun e w'' he=>?_))⟩
       cases e with
       | returned v=>exact Za1 hnd rest _ _ he
       | panicked c=>exact (he : False).elim
       | outgrown=>exact (OnlyNormal.no_out he).elim
      | row row args =>
       refine ⟨(fun h=>by cases h),fun c cs _=>?_⟩;obtain ⟨v,w'',hR,hs⟩:=h c cs;exact ⟨v,w'',Za1 hnd rest _ _ hR,stepsIn_wide.2 hs⟩
      | _=>exact (h : False).elim
     | halt x w'=>cases x <;> exact (h : False).elim
    ·exact (OnlyNormal.no_out h).elim
   ·simp only [hw,if_false,Bool.false_eq_true] at h ⊢
    exact ⟨fun _ _=>trivial,Za1 hnd rest _ _ h⟩
def Zg6 (ops : Array Oper) : Bool:=ops.all fun o=>match o.op with | .defer _=>false | _=>true
theorem Zju {ops : Array Oper} (h : Zg6 ops = true) : ∀ (i : Nat) (o : Oper),ops[i]? = some o -> ∀ c,o.op ≠ .defer c:=by
 intro i o ho c hc;unfold Zg6 at h;rw [Array.all_eq_true] at h;obtain ⟨hi,rfl⟩:=Array.getElem?_eq_some_iff.1 ho;have:=h i hi;rw [hc] at this
 cases this
def Zci (L : List Nat) (listed : Array Bool) : Bool:=L.all fun k=>!(listed.getD k true)
def Z8 (P : Program) (md : Region.Mode) (ops : Array Oper) (Q : Exit -> Act -> World -> Prop) (L : List Nat) (S : World -> Prop) : Nat -> Array Bool -> Act -> World -> Prop
 | 0,listed,a,w=>Region.ready md ops listed = [] /\ Q .normal a w
 | fuel + 1,listed,a,w =>
  (Region.ready md ops listed = [] -> Q .normal a w) /\
  ∀ i ∈ Region.ready md ops listed,wpOp P ops Q i (fun a' w'=>(Zci L (listed.setIfInBounds i true) = true -> S w') /\ Z8 P md ops Q L S fuel (listed.setIfInBounds i true) a' w') a w
section
variable {P : Program} {ops : Array Oper} {Q : Exit -> Act -> World -> Prop} {md : Region.Mode} {L : List Nat} {S : World -> Prop}
theorem Zgb : ∀ (fuel : Nat) (listed : Array Bool) (a : Act) (w : World),Z8 P md ops Q L S fuel listed a w -> wpAny P md ops Q fuel listed a w
 | 0,_,_,_,h=>h
 | fuel + 1,_,_,_,h=>⟨h.1,fun i hi=>wpOp_mono (fun a' w' h'=>Zgb fuel _ a' w' h'.2) (h.2 i hi)⟩
theorem Zb0 {listed : Array Bool} {j : Nat} (hj : j ∉ L) : Zci L (listed.setIfInBounds j true) = Zci L listed:=by
 unfold Zci;rw [Bool.eq_iff_iff,List.all_eq_true,List.all_eq_true]
 have : ∀ k ∈ L,(listed.setIfInBounds j true).getD k true = listed.getD k true:=fun k hk=>Go.getD_set_ne true (fun e=>hj (e ▸ hk))
 constructor
 ·intro h k hk;rw [<- this k hk];exact h k hk
 ·intro h k hk;rw [this k hk];exact h k hk
def Zgr (md : Region.Mode) (ops : Array Oper) (L : List Nat) (i : Nat) : Bool:=L.all fun k=>k != i && (match ops[k]? with | some o=>o.after.any fun e=>Region.binds md e && e.on == i | none=>false)
theorem Zl9 {i : Nat} {oi : Oper} {v : Value} (hi : ops[i]? = some oi) (hsel : ∀ (j : Nat) (o : Oper) cs b,ops[j]? = some o -> o.op ≠ .select cs b)
    (hQ : ∀ c a w,Q (.panic c) (a.put oi.dst v) w -> Q (.panic c) a w) (hL : Zgr md ops L i = true) :
    ∀ (fuel : Nat) (listed : Array Bool) (a : Act) (w : World),
     (∀ j oj,ops[j]? = some oj -> j ≠ i -> listed.getD j true = false -> (∀ e ∈ oj.after,Region.binds md e = true -> e.on ≠ i) -> oi.apart ops oj = true) ->
     i ∈ Region.ready md ops listed -> YieldsIf P ops S oi v a -> Zci L listed = true -> S w ->
     Z8 P md ops Q L S fuel (listed.setIfInBounds i true) (a.put oi.dst v) w -> Z8 P md ops Q L S (fuel + 1) listed a w:=by
 have hiL : i ∉ L:=fun h=>by
  unfold Zgr at hL;rw [List.all_eq_true] at hL;have:=hL i h
  simp at this
 intro fuel
 induction fuel with
 | zero =>
  intro listed a w _ hr hy hn hS H;refine ⟨fun h=>(by rw [h] at hr;cases hr),fun j hj=>?_⟩
  by_cases hji : j = i
  ·subst hji;exact hy.wpOp hi hS ⟨fun _=>hS,H⟩
  ·have:=ready_mono hj hji
   rw [H.1] at this
   cases this
 | succ fuel ih =>
  intro listed a w hfree hr hy hn hS H;refine ⟨fun h=>(by rw [h] at hr;cases hr),fun j hj=>?_⟩
  by_cases hji : j = i
  ·subst hji;exact hy.wpOp hi hS ⟨fun _=>hS,H⟩
  ·have h1:=H.2 j (ready_mono hj hji)
   obtain ⟨hjun,oj,hoj,hall⟩:=mem_ready.1 hj
   have hnot : ∀ e ∈ oj.after,Region.binds md e = true -> e.on ≠ i:=fun e he hb heq=>by
    have h1:=hall e he hb;have h0:=(mem_ready.1 hr).1;rw [heq] at h1
    rcases Nat.lt_or_ge i listed.size with h' | h'
    ·simp [h'] at h0 h1;rw [h0] at h1;cases h1
    ·simp [Array.getElem?_eq_none h'] at h1
   have hjL : j ∉ L:=fun hjL=>by
    unfold Zgr at hL;rw [List.all_eq_true] at hL;have h2:=hL j hjL;rw [hoj] at h2;simp only [Bool.and_eq_true,Array.any_eq_true'] at h2;obtain ⟨_,e,he,h3,h4⟩:=h2;exact hnot e he h3 (by simpa using h4)
   have h2:=wpOp_putIf hoj (hfree j oj hoj hji hjun hnot) (fun cs b=>hsel i oi cs b hi) (fun cs b=>hsel j oj cs b hoj) hQ hy h1
   have hfree' : ∀ k ok,ops[k]? = some ok -> k ≠ i -> (listed.setIfInBounds j true).getD k true = false ->
       (∀ e ∈ ok.after,Region.binds md e = true -> e.on ≠ i) -> oi.apart ops ok = true:=fun k ok hk hki hun hno=>by
    refine hfree k ok hk hki ?_ hno
    by_cases hjk : j = k
    ·subst hjk;exact hjun
    ·rw [Go.getD_set_ne true hjk] at hun;exact hun
   have hn2 : Zci L (listed.setIfInBounds j true) = true:=by rw [Zb0 hjL];exact hn
   refine wpOp_mono (fun a' w' h3=>⟨fun _=>h3.2.1 (by rw [Zb0 hjL,Zb0 hiL];exact hn),ih (listed.setIfInBounds j true) a' w' hfree' (ready_mono hr (Ne.symm hji)) h3.1 hn2 (h3.2.1 (by rw [Zb0 hjL,Zb0 hiL];exact hn)) ?_⟩) h2;rw [Array.setIfInBounds_comm _ _ hji];exact h3.2.2
theorem Zd {i : Nat} {oi : Oper} {v : Value} {fuel : Nat} {listed : Array Bool} {a : Act} {w : World} (hi : ops[i]? = some oi)
    (hs : Region.noSelect ops = true) (hf : Region.free md ops listed i = true) (hr : (Region.ready md ops listed).contains i = true) (hL : Zgr md ops L i = true) (hn : Zci L listed = true)
    (hy : YieldsIf P ops S oi v a) (hS : S w)
    (h : Z8 P md ops (OnlyNormal Q) L S fuel (listed.setIfInBounds i true) (a.put oi.dst v) w) : Z8 P md ops (OnlyNormal Q) L S (fuel + 1) listed a w:=
 Zl9 hi (Region.noSelect_spec hs) (fun _ _ _ h=>(h : False).elim) hL fuel listed a w (Region.free_spec hi hf) (by simpa using hr) hy hn hS h
theorem Ze {i : Nat} {o : Oper} {fuel : Nat} {listed : Array Bool} {a : Act} {w : World} (ho : ops[i]? = some o) (hr : Region.ready md ops listed = [i])
    (h : ∀ K' : Act -> World -> Prop,Shut (∀ a w,(Zci L (listed.setIfInBounds i true) = true -> S w) -> Z8 P md ops Q L S fuel (listed.setIfInBounds i true) a w -> K' a w) -> if Region.wanted o (yielded ops a.tmps) = true then Oper.wp P o a w K' Q else K' (a.put o.dst undef) w) :
    Z8 P md ops Q L S (fuel + 1) listed a w:=
 ⟨(fun h0=>by rw [h0] at hr;cases hr),fun j hj=>by
  rw [hr,List.mem_singleton] at hj;subst hj
  exact wpOp_step ho (fun K' hK=>h K' (fun a w hS hW=>hK a w ⟨hS,hW⟩))⟩
theorem Zt {i : Nat} {o : Oper} {fuel : Nat} {listed : Array Bool} {a : Act} {w : World} (ho : ops[i]? = some o) (hr : Region.ready md ops listed = [i]) (hn : Zci L (listed.setIfInBounds i true) = false)
    (h : ∀ K' : Act -> World -> Prop,Shut (∀ a w,Z8 P md ops Q L S fuel (listed.setIfInBounds i true) a w -> K' a w) -> if Region.wanted o (yielded ops a.tmps) = true then Oper.wp P o a w K' Q else K' (a.put o.dst undef) w) :
    Z8 P md ops Q L S (fuel + 1) listed a w:=
 Ze ho hr fun K hK=>h K fun a w hW=>hK a w (fun h=>by rw [hn] at h;cases h) hW
theorem Zj {listed : Array Bool} {a : Act} {w : World} (hr : Region.ready md ops listed = []) (h : Q .normal a w) : ∀ fuel,Z8 P md ops Q L S fuel listed a w
 | 0=>⟨hr,h⟩
 | _ + 1=>⟨fun _=>h,by rw [hr];simp⟩
end
theorem Zch {l n : Nat} {P : Program} {id : Nat} {ops : Array Oper} {Q : Exit -> Act -> World -> Prop} {a : Act} {w : World} (L : List Nat) (S : World -> Prop) (hm : P.follows .mixedOrders = true) (hnd : Zg6 ops = true)
    (hS : S w.drew) (h : S w.drew -> Z8 P .any ops (OnlyNormal Q) L S ops.size (Array.replicate ops.size false) a w.drew) : (Code.region id ops true).wpIn (Fence.wide.inRound l) n P Q a w:=
 wpIn_region_draw fun t=>Za1 (Zju hnd) _ _ _ (by
  simp only [Region.schedule,hm,Bool.true_or,if_true]
  exact wpAny_sound ops.size t _ a _ (Zgb _ _ _ _ (h hS)))
section
variable {P : Program} {ops : Array Oper} {Q : Exit -> Act -> World -> Prop} {md : Region.Mode} {L : List Nat} {S : World -> Prop} {R : Act -> Prop}
end
theorem putL_a {α : Type} (l : List α) (i : Nat) (a : α) : l.toArray.setIfInBounds i a = (l.set i a).toArray:=List.setIfInBounds_toArray l i a
theorem putG_a {α : Type} (l : List α) (i : Nat) (h : i < l.toArray.size) : l.toArray[i] = l[i]'(by simpa using h):=by simp
theorem putG_z {α : Type} (a : α) (l : List α) (h : 0 < (a :: l).length) : (a :: l)[0]'h = a:=rfl
theorem putG_s {α : Type} (a : α) (l : List α) (i : Nat) (h : i + 1 < (a :: l).length) : (a :: l)[i + 1]'h = l[i]'(by simpa using h):=rfl
theorem putL_z {α : Type} (a b : α) (l : List α) : (a :: l).set 0 b = b :: l:=rfl
theorem putL_s {α : Type} (a b : α) (l : List α) (n : Nat) : (a :: l).set (n + 1) b = a :: l.set n b:=rfl
def Zl0 (md : Region.Mode) (ops : Array Oper) (L : List Nat) : List Nat -> Array Bool -> Bool
 | [],_=>true
 | i :: is,l=>Region.free md ops l i && (Region.ready md ops l).contains i && Zgr md ops L i && Zci L l && Zl0 md ops L is (l.setIfInBounds i true)
def Zfj (P : Program) (ops : Array Oper) (S : World -> Prop) : List Nat -> Act -> (Act -> Prop) -> Prop
 | [],a,R=>R a
 | i :: is,a,R=>∃ oi v,ops[i]? = some oi /\ YieldsIf P ops S oi v a /\ Zfj P ops S is (a.put oi.dst v) R
def Zg8 : List Nat -> Array Bool -> Array Bool
 | [],l=>l
 | i :: is,l=>Zg8 is (l.setIfInBounds i true)
section
variable {P : Program} {ops : Array Oper} {Q : Exit -> Act -> World -> Prop} {md : Region.Mode} {L : List Nat} {S : World -> Prop} {R : Act -> Prop}
theorem tk0 {a : Act} (h : R a) : Zfj P ops S [] a R:=h
theorem tk1 {i : Nat} {is : List Nat} {oi : Oper} {v : Value} {a : Act} (ho : ops[i]? = some oi) (hy : YieldsIf P ops S oi v a) (h : Zfj P ops S is (a.put oi.dst v) R) : Zfj P ops S (i :: is) a R:=⟨oi,v,ho,hy,h⟩
theorem Zk1 (hs : Region.noSelect ops = true) {w : World} (hS : S w) : ∀ (is : List Nat) (F : Nat) (listed : Array Bool) (a : Act),Zl0 md ops L is listed = true -> Zfj P ops S is a (fun a'=>Z8 P md ops (OnlyNormal Q) L S F (Zg8 is listed) a' w) -> Z8 P md ops (OnlyNormal Q) L S (F + is.length) listed a w
 | [],F,l,a,_,h=>h
 | i :: is,F,l,a,hc,h=>by
  obtain ⟨oi,v,ho,hy,h2⟩:=h;simp only [Zl0,Bool.and_eq_true] at hc;exact Zd ho hs hc.1.1.1.1 hc.1.1.1.2 hc.1.1.2 hc.1.2 hy hS (Zk1 hs hS is F _ _ hc.2 h2)
theorem Zty {F : Nat} {listed : Array Bool} {a : Act} {w : World} (k : Nat) (is : List Nat) (hk : is.length = k) (hc : (Region.noSelect ops && Zl0 md ops L is listed) = true) (hS : S w)
    (h : Zfj P ops S is a (fun a'=>Z8 P md ops (OnlyNormal Q) L S F (Zg8 is listed) a' w)) : Z8 P md ops (OnlyNormal Q) L S (F + k) listed a w:=by
 rw [Bool.and_eq_true] at hc;subst hk;exact Zk1 hc.1 hS is F listed a hc.2 h
end
theorem Zbl {W W' : World} {row : Option Nat} {g : Nat} {t : TypeId} {cs : Array Value} (h : Blk W g t cs) (hg : W.grownBy W' row) (hrow : ∀ r,row = some r -> ∃ o : Obj,W.heap[r]? = some o /\ o.isCells = false) : Blk W' g t cs:=
 (hg.block g h.lt (fun e=>by
  obtain ⟨o,ho,hc⟩:=hrow g e.symm;unfold Blk at h;rw [h] at ho
  cases ho
  cases hc)).trans h
theorem Zni {n : Nat} {pre : List { i : Nat // i < n }} {x : { i : Nat // i < n }} (hl : pre.length < n) (h : pre ++ [x] = Zb1 n (pre.length + 1)) : pre = Zb1 n pre.length /\ x.1 = n - 1 - pre.length:=by
 rw [Zcm hl] at h;obtain ⟨h1,h2⟩:=List.append_inj' h rfl;refine ⟨h1,?_⟩;have:=congrArg (List.map (fun z : { i : Nat // i < n }=>z.1)) h2
 simpa using this
def DownI (h n D : Nat) (l : List Nat) (rb : Nat -> Value) (t6 t7 : TypeId) (B0 : Value) (tB : TypeId) (pre : List { i : Nat // i < n }) (W : World) : Prop:=
 ∃ (o : List Nat) (r : Nat),Blk W h tB #[B0] /\ Blk W (h + 1) 147 (Zn o) /\ Blk W (h + 1 + 1) t6 #[.slice (some ⟨h + 1,0,none⟩) n n] /\ Blk W (h + 1 + 1 + 1) t7 #[rb r] /\ o.length = n /\ Lt32 o /\ r < D /\
  (pre = Zb1 n pre.length -> val (o.drop (n - pre.length)) * D + r = val (l.drop (n - pre.length)))
theorem DownI.own {h n D : Nat} {l : List Nat} {rb : Nat -> Value} {t6 t7 : TypeId} {B0 : Value} {tB : TypeId} {pre : List { i : Nat // i < n }} {W W' : World} {row : Option Nat} (H : DownI h n D l rb t6 t7 B0 tB pre W) (hg : W.grownBy W' row) (hr : ∀ r,row = some r -> ∃ o : Obj,W.heap[r]? = some o /\ o.isCells = false) : DownI h n D l rb t6 t7 B0 tB pre W':=by
 obtain ⟨o,r,h1,h2,h3,h4,h5⟩:=H;exact ⟨o,r,Zbl h1 hg hr,Zbl h2 hg hr,Zbl h3 hg hr,Zbl h4 hg hr,h5⟩
theorem DownI.step {h n D : Nat} {l : List Nat} {rb : Nat -> Value} {t6 t7 : TypeId} {B0 : Value} {tB : TypeId} {pre : List { i : Nat // i < n }} {x : { i : Nat // i < n }} {W' : World} {o : List Nat} {r q r' : Nat}
    (h1 : Blk W' h tB #[B0]) (h2 : Blk W' (h + 1) 147 (Zn (o.set x.1 q))) (h3 : Blk W' (h + 1 + 1) t6 #[.slice (some ⟨h + 1,0,none⟩) n n]) (h4 : Blk W' (h + 1 + 1 + 1) t7 #[rb r']) (h5 : o.length = n) (h6 : Lt32 o) (hq : q < 4294967296) (hr : r' < D)
    (hl : l.length = n) (hp : pre.length < n) (hI : pre = Zb1 n pre.length -> val (o.drop (n - pre.length)) * D + r = val (l.drop (n - pre.length))) (he : q * D + r' = r * 4294967296 + l[x.1]?.getD 0) : DownI h n D l rb t6 t7 B0 tB (pre ++ [x]) W':=by
 refine ⟨o.set x.1 q,r',h1,h2,h3,h4,by rw [List.length_set];exact h5,h6.set _ hq,hr,fun e=>?_⟩;rw [List.length_append,List.length_singleton] at e ⊢;obtain ⟨e1,e2⟩:=Zni hp e;have hI:=hI e1;rw [show n - (pre.length + 1) = x.1 by omega];rw [show n - pre.length = x.1 + 1 by omega] at hI;exact Zj8 (by omega) (by omega) hI he
theorem trim_q (A : Option Addr) (n c : Nat) (l : List Nat) (w : World) (h : Lim w A n c l) :
    Calls Tryz.prog 149 #[.slice A n c] w fun e w'=>e = .returned (.slice A (digits (val l)).length c) /\ ∃ m,w' = w.drewN m:=
 (Zc0 A n c l w h).mono fun _ _ ⟨he,hw⟩=>⟨he,0,hw.symm⟩
def ShortP (w : World) (a d : Nat) (e : Ending) (w' : World) : Prop:=
 ∃ A n c,e = .returned (.tuple #[.slice A n c,limb (a % d)]) /\ Lim w' A n c (digits (a / d)) /\ Below w.heap.size w w'
theorem Zq7 (A : Option Addr) (n c d : Nat) (l : List Nat) (w : World) (hl : Lim w A n c l) (hd0 : 0 < d) (hd : d < 4294967296) (hn9 : n <= 1000000) :
    Calls Tryz.prog 205 #[.slice A n c,limb d] w (ShortP w (val l) d):=by
 obtain ⟨i0,hi,hz0,hz1,hz2⟩:=info_parts Zbw;have hmk:=Zdx (P:=Tryz.prog) 25 147 Tryz.underlying25 hi hz0 hz1 hz2 (n : Int) n rfl (by omega);have hnc:=hl.2.1;have hcm:=hl.2.2.1;unfold maxLen at hcm
 have h9 : 1 <= 9:=by omega
 refine (callsIn_wide (n:=9)).1 ?_;refine callsIn_of_wp_marks Tryz.func205 rfl trivial ?_ rfl;simp only [Tryz.ntmps205,List.size_toArray,List.length_cons,List.length_nil,Nat.reduceAdd,Nat.reduceSub,Array.replicate_succ,Array.replicate_zero,List.push_toArray,List.append_toArray,List.nil_append,List.cons_append]
 gi_wp2_with (refine ⟨trivial,?_⟩;gi_at_call 210;refine (callsIn_wide.2 (Zjc _ _ _ _)).mono ?_;rintro e w' ⟨rfl,rfl⟩)
 have bD:=Blk.new w 147 #[limb d];have bO:=Blk.new (w.alloc (.cells #[limb d] 147)) 147 (Zn (List.replicate n 0));have b6:=Blk.new ((w.alloc (.cells #[limb d] 147)).alloc (.cells (Zn (List.replicate n 0)) 147)) 25 #[.slice (some ⟨w.heap.size + 1,0,none⟩) n n];have b7:=Blk.new (((w.alloc (.cells #[limb d] 147)).alloc (.cells (Zn (List.replicate n 0)) 147)).alloc (.cells #[.slice (some ⟨w.heap.size + 1,0,none⟩) n n] 25)) 147 #[limb 0];have bN:=Boxed.new ((((w.alloc (.cells #[limb d] 147)).alloc (.cells (Zn (List.replicate n 0)) 147)).alloc (.cells #[.slice (some ⟨w.heap.size + 1,0,none⟩) n n] 25)).alloc (.cells #[limb 0] 147)) 25 (.slice A n c);simp only [World.size_alloc] at bO b6 b7 bN
 have hB0 : Below w.heap.size w (((((w.alloc (.cells #[limb d] 147)).alloc (.cells (Zn (List.replicate n 0)) 147)).alloc (.cells #[.slice (some ⟨w.heap.size + 1,0,none⟩) n n] 25)).alloc (.cells #[limb 0] 147)).alloc (.cells #[.slice A n c] 25)):=by go_grown
 have h0 : DownI w.heap.size n d l limb 25 147 (limb d) 147 [] (((((w.alloc (.cells #[limb d] 147)).alloc (.cells (Zn (List.replicate n 0)) 147)).alloc (.cells #[.slice (some ⟨w.heap.size + 1,0,none⟩) n n] 25)).alloc (.cells #[limb 0] 147)).alloc (.cells #[.slice A n c] 25)):=
  ⟨List.replicate n 0,0,(((bD.alloc _).alloc _).alloc _).alloc _,((bO.alloc _).alloc _).alloc _,(b6.alloc _).alloc _,b7.alloc _,by simp,Lt32.replicate _,hd0,fun _=>by rw [List.length_nil,Nat.sub_zero,List.drop_of_length_le (by simp),List.drop_of_length_le (by rw [hl.len];exact Nat.le_refl _)];simp [val]⟩
 have hmx : Tryz.prog.follows .mixedOrders = true:=by kernel_rfl
 refine wpIn_rangeFunc_ownF rfl h9 (gf:=226) (lb:=#[.pointer (some ⟨w.heap.size + 1 + 1 + 1 + 1,0,none⟩)]) rfl trivial (enters_of Tryz.func226 (by kernel_rfl) rfl)
  (Zgk 8 (by omega) (w.heap.size + 1 + 1 + 1 + 1) n c A l _ bN.cell (hl.below hB0)) KpD.trans (fun W l o o' _ h hc _=>KpD.put W l o o' h hc) (Below.refl _ _) (fun _=>rfl)
  (fun pre W=>DownI w.heap.size n d l limb 25 147 (limb d) 147 pre W /\ Below w.heap.size w W)
  (fun _ _ _=>False)
  (OwnFrom.and (Own.from (fun s X Y row hs hg hr=>hs.own hg hr) _) (ownFrom_below (Nat.le_refl _) (by simp;omega)))
  (fun cc=>Own.from (fun s X Y row hs hg hr=>hs) _)
  ⟨h0,hB0⟩
  (fun x=>{ tmps:=#[.slice A n c,limb d,undef,.pointer (some ⟨w.heap.size,0,none⟩),.slice none 0 0,.int .u32 0,.pointer (some ⟨w.heap.size + 1 + 1,0,none⟩),.pointer (some ⟨w.heap.size + 1 + 1 + 1,0,none⟩),.int .i64 (x.1 : Int),limb (l[x.1]?.getD 0),.slice A n c,
   .int .i64 n,.slice (some ⟨w.heap.size + 1,0,none⟩) n n,.slice A n c,.func (.func 226) #[] #[.pointer (some ⟨w.heap.size + 1 + 1 + 1 + 1,0,none⟩)],.int .i64 (x.1 : Int),limb (l[x.1]?.getD 0),
   undef,undef,undef,undef,undef,undef,undef,undef,undef,undef,undef,undef,undef],defers:=[] }) ?assign ?body ?done ?stop
 case assign =>
  intro l x W K hK;dsimp only [Zfv]
  gi_wp2
  exact hK
 case body =>
  rintro lp pre x W ⟨⟨o,r,k1,k2,k3,k4,k5,k6,k7,k8⟩,hB⟩ hpre;obtain ⟨i,hi'⟩:=x;have k8:=Za k8;have k5:=Za k5;have c1:=k1.cell 0;have c3:=k3.cell 0;have c4:=k4.cell 0;have f4:=k4.frozen 0;have c2:=k2.cell i;rw [Z7 o i (by rw [k5.out];exact hi')] at c2;have f2:=k2.frozen i
  simp at c1 c3 c4
  have hx:=hl.lt.get i
  gi_wp2
  refine Zch [11] (fun W'=>W'.cell? ⟨w.heap.size,0,none⟩ = some (limb d) /\ W'.cell? ⟨w.heap.size + 1 + 1,0,none⟩ = some (.slice (some ⟨w.heap.size + 1,0,none⟩) n n) /\ W'.cell? ⟨w.heap.size + 1 + 1 + 1,0,none⟩ = some (limb r)) hmx (by kernel_rfl) ⟨c1,c3,c4⟩ (fun _=>?_);refine Zty 5 [0,1,2,3,4] rfl (by kernel_rfl) ⟨c1,c3,c4⟩ ?_
  iterate 5 (refine tk1 (v:=?_) rfl (Or.inl ⟨by kernel_rfl,?_⟩) ?_;rotate_left;(· intro W2 hSw;(try dsimp only at hSw);go_simp;try with_reducible rfl);try simp only [Act.put,putL_a,putL_z,putL_s,putG_a,putG_s,putG_z])
  refine tk0 ?_;refine Ze (i:=5) rfl (by kernel_rfl) (fun K hK=>?_);go_simp;refine (Zkz _ _ _ _ k7 hx hd).mono ?_;rintro e w2 ⟨rfl,rfl⟩;refine hK.out _ _ (fun _=>⟨c1,c3,c4⟩) ?_;clear hK K
  try simp only [Act.put,putL_a,putL_z,putL_s]
  refine Zty 4 [6,7,9,8] rfl (by kernel_rfl) ⟨c1,c3,c4⟩ ?_
  iterate 4 (refine tk1 (v:=?_) rfl (Or.inl ⟨by kernel_rfl,?_⟩) ?_;rotate_left;(· intro W2 hSw;(try dsimp only at hSw);go_simp;try with_reducible rfl);try simp only [Act.put,putL_a,putL_z,putL_s,putG_a,putG_s,putG_z])
  refine tk0 ?_;refine Ze (i:=10) rfl (by kernel_rfl) (fun K hK=>?_);go_simp
  generalize hW5 : World.drew (World.drew (World.setCell W _ _)) = W5
  have c15 : W5.cell? ⟨w.heap.size,0,none⟩ = some (limb d):=by rw [<- hW5];exact (World.cell?_setCell_other _ _ _ _ (by simp)).trans c1
  have c35 : W5.cell? ⟨w.heap.size + 1 + 1,0,none⟩ = some (.slice (some ⟨w.heap.size + 1,0,none⟩) n n):=by rw [<- hW5];exact (World.cell?_setCell_other _ _ _ _ (by simp)).trans c3
  have c45 : W5.cell? ⟨w.heap.size + 1 + 1 + 1,0,none⟩ = some (limb r):=by rw [<- hW5];exact (World.cell?_setCell_other _ _ _ _ (by simp)).trans c4
  have f45 : W5.frozen? ⟨w.heap.size + 1 + 1 + 1,0,none⟩ = false:=by rw [<- hW5];exact (World.frozen?_setCell _ _ _ _).trans f4
  replace hW5:=Za hW5;refine hK.out _ _ (fun _=>⟨c15,c35,c45⟩) ?_;clear hK K
  try simp only [Act.put,putL_a,putL_z,putL_s]
  refine Zt (i:=11) rfl (by kernel_rfl) (by kernel_rfl) (fun K hK=>?_);go_simp;refine hK.out _ _ ?_;clear hK K
  try simp only [Act.put,putL_a,putL_z,putL_s]
  refine Zj (by kernel_rfl) ?_ _;refine OnlyNormal.normal ?_
  gi_wp2
  have e1 : ((r : Int) * 4294967296 + ((l[i]?.getD 0 : Nat) : Int)) / (d : Int) = (((r * 4294967296 + l[i]?.getD 0) / d : Nat) : Int):=by simp
  have e2 : ((r : Int) * 4294967296 + ((l[i]?.getD 0 : Nat) : Int)) % (d : Int) = (((r * 4294967296 + l[i]?.getD 0) % d : Nat) : Int):=by simp
  have hW5:=hW5.out;rw [e1] at hW5;rw [e2]
  have hq : (r * 4294967296 + l[i]?.getD 0) / d < 4294967296:=by
   rw [Nat.div_lt_iff_lt_mul (by omega)];have:=Nat.mul_le_mul_left 4294967296 (show r + 1 <= d by omega);omega
  have hr : (r * 4294967296 + l[i]?.getD 0) % d < d:=Nat.mod_lt _ hd0
  have he : (r * 4294967296 + l[i]?.getD 0) / d * d + (r * 4294967296 + l[i]?.getD 0) % d = r * 4294967296 + l[i]?.getD 0:=by rw [Nat.mul_comm];exact Nat.div_add_mod _ _
  generalize (r * 4294967296 + l[i]?.getD 0) / d = q at *
  generalize (r * 4294967296 + l[i]?.getD 0) % d = r' at *
  subst hW5;refine ⟨((KeepsOthers.setCell _ _ _).trans (KeepsOthers.drew _)).trans ((KeepsOthers.drew _).trans (KeepsOthers.setCell _ _ _)),(KpD.set_ (w:=w) (o:=i) hl (by omega) (by omega) (limb q)).trans (KpD.set_ (w:=w) (o:=0) hl (by omega) (by omega) (limb r')),?_,?_⟩
  ·refine DownI.step (x:=⟨i,hi'⟩) (((k1.far (by simp <;> omega) _).drewN 2).far (by simp <;> omega) _) ?_ (((k3.far (by simp <;> omega) _).drewN 2).far (by simp <;> omega) _) (((k4.far (by simp <;> omega) _).drewN 2).set_ 0 (limb r')) k5.out k6 hq hr hl.len hpre k8.out he
   have:=((k2.set_ i (limb q)).drewN 2).far (p:=⟨w.heap.size + 1 + 1 + 1,0,none⟩) (by simp <;> omega) (limb r');rw [Za0] at this;exact this
  ·exact (Zh (hB.setCell (p:=⟨w.heap.size + 1,i,none⟩) (by simp) _) 2).setCell (p:=⟨w.heap.size + 1 + 1 + 1,0,none⟩) (by simp;omega) _
 case done =>
  rintro D ys W hD rfl ⟨⟨o,r,k1,k2,k3,k4,k5,k6,k7,k8⟩,hB⟩ hK;have k8:=k8 (by rw [Zca (Nat.le_refl _)]);rw [Zca (Nat.le_refl _),Nat.sub_self,List.drop_zero,List.drop_zero] at k8;obtain ⟨e1,e2⟩:=Zlp (U:=val l) (V:=d) (q:=val o) (R:=r) (by omega) k7;have hLo:=Lim.of_blk k2 k6 (by rw [k5];unfold maxLen;omega);rw [k5] at hLo;have k8:=Za k8;have k5:=Za k5;have c3:=k3.cell 0;have c4:=k4.cell 0
  simp at c3 c4
  gi_wp2
  refine wpIn_wide.2 ?_
  go_quiet ((go_at_call 149;exact Calls.quiet_of (trim_q _ _ _ _ _ hLo)))
  gi_wp2
  have hK' : (W.drewN nq).heap[D]? = some (.deferred (some [])):=hK;refine ⟨by simp,.inl ⟨_,_,rfl,run_takeDeferred hK',?_⟩⟩;have hL2:=Zil (hLo.canon.1.drewN nq) (grownBy_putObj' (W.drewN nq) D (.deferred none)) (fun r e=>by cases e;exact ⟨_,hK',rfl⟩);rw [e1] at hL2;refine ⟨.tuple #[.slice (some ⟨w.heap.size + 1,0,none⟩) (digits (val o)).length n,limb (val l % d)],by simp [results,Tryz.f205,go_sem],⟨_,_,_,by rw [e1],hL2,?_⟩⟩;exact (Zh hB nq).trans (belowK_b (w:=w) (Nat.le_refl _) _ D _ _ (by simp at hD;omega) hK' rfl rfl)
 case stop =>
  rintro D c pre W _ _ h _;exact h.elim
end Go.Proofs.YtaioanjcjijckaaGreat
