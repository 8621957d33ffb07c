/- Rows of Pascal's triangle (plain). Package lov: Weights: -/
import Derived.Deep.LoopGhost
import Derived.ProofKit
import Derived.Deep.Slices
import Derived.Deep.Fields
import Derived.ChangeSame
import Derived.Test.YtpehacgjclkhmaaGreatProg
import Derived.Test.YtpehacgjclkhmaaGreatZy44
set_option maxRecDepth 100000
set_option maxHeartbeats 8000000
set_option linter.unusedSimpArgs false
set_option linter.unusedVariables false
namespace Go.Proofs.YtpehacgjclkhmaaGreat
def Zez : Int -> List Int -> List Int
 | x,[]=>[x]
 | x,y :: l=>(x + y) :: Zez y l
def Zhb : Nat -> List Int
 | 0=>[1]
 | i + 1=>Zez 0 (Zhb i)
theorem Zjk : ∀ (x : Int) (l : List Int),(Zez x l).length = l.length + 1
 | _,[]=>rfl
 | x,y :: l=>by show (Zez y l).length + 1 = _;rw [Zjk y l];rfl
theorem Zk7 : ∀ i,(Zhb i).length = i + 1
 | 0=>rfl
 | i + 1=>by show (Zez 0 (Zhb i)).length = _;rw [Zjk,Zk7 i]
theorem Ziv : ∀ (x : Int) (l : List Int) (k : Nat),(Zez x l)[k]?.getD 0 = (if k = 0 then x else l[k - 1]?.getD 0) + l[k]?.getD 0
 | x,[],0=>by simp [Zez]
 | x,[],k + 1=>by simp [Zez]
 | x,y :: l,0=>by simp [Zez]
 | x,y :: l,k + 1=>by
  show ((x + y) :: Zez y l)[k + 1]?.getD 0 = _;rw [List.getElem?_cons_succ,Ziv y l k]
  cases k with
  | zero=>simp
  | succ k=>simp
theorem Zlk (i k : Nat) : (Zhb (i + 1))[k]?.getD 0 = (if k = 0 then 0 else (Zhb i)[k - 1]?.getD 0) + (Zhb i)[k]?.getD 0:=Ziv 0 (Zhb i) k
theorem Zm0 : ∀ i,i <= 40 -> (Zhb i).all (fun x=>decide (0 < x) && decide (x < 4611686018427387904)) = true:=by decide +kernel
open Go.RowKit
attribute [local go_sem] Zg
def pg (i j : Nat) : Int:=(Zhb i)[j]?.getD 0
def Zdp (l : List Int) : Array Value:=(l.map (fun x=>Value.int .i64 x)).toArray
def Zk3 (i : Nat) : List Int:=(List.range 41).map (pg i)
def Zgs (i k : Nat) : List Int:=(List.range 41).map fun j=>if k < j then pg (i + 1) j else pg i j
theorem Zq5 {i j : Nat} (h : i < j) : pg i j = 0:=by
 unfold pg;rw [List.getElem?_eq_none (by rw [Zk7];omega)];rfl
theorem Znp (i : Nat) : pg i 0 = 1:=by
 induction i with
 | zero=>rfl
 | succ i ih =>
  have h:=Zlk i 0;simp only [if_true] at h;have ih' : (Zhb i)[0]?.getD 0 = 1:=ih;rw [ih'] at h;exact h
theorem pg_step (i k : Nat) : pg (i + 1) (k + 1) = pg i (k + 1) + pg i k:=by
 have h:=Zlk i (k + 1);rw [if_neg (by omega),Nat.add_sub_cancel] at h;unfold pg;rw [h];omega
theorem Zhl {i : Nat} (h : i <= 40) (j : Nat) : 0 <= pg i j /\ pg i j < 4611686018427387904:=by
 by_cases hj : j < (Zhb i).length
 ·have h1:=Zm0 i h
  rw [List.all_eq_true] at h1;have h2:=h1 _ (List.getElem_mem hj);simp only [Bool.and_eq_true,decide_eq_true_eq] at h2;unfold pg;rw [List.getElem?_eq_getElem hj];exact ⟨by have:=h2.1;simp only [Option.getD_some];omega,h2.2⟩
 ·unfold pg
  rw [List.getElem?_eq_none (by omega)];exact ⟨Int.le_refl _,by decide⟩
theorem Zl1 (i : Nat) : Zgs i (i + 1) = Zk3 i:=by
 unfold Zgs Zk3
 apply List.map_congr_left
 intro j _
 by_cases h : i + 1 < j
 ·rw [if_pos h,Zq5 (by omega),Zq5 (by omega)]
 ·rw [if_neg h]
theorem Zp6 (i : Nat) : Zgs i 0 = Zk3 (i + 1):=by
 unfold Zgs Zk3
 apply List.map_congr_left
 intro j _
 cases j with
 | zero=>rw [if_neg (by omega),Znp,Znp]
 | succ j=>rw [if_pos (by omega)]
theorem Zfb {l : List Int} {k : Nat} {x : Int} (h : l[k]? = some x) : (Zdp l)[k]? = some (.int .i64 x):=by
 unfold Zdp;rw [List.getElem?_toArray,List.getElem?_map,h];rfl
theorem Zef {i k j : Nat} (h : j < 41) : (Zgs i k)[j]? = some (if k < j then pg (i + 1) j else pg i j):=by
 unfold Zgs;rw [List.getElem?_map,List.getElem?_range h];rfl
theorem Zp1 {i k : Nat} (h : k + 1 < 41) : (Zdp (Zgs i (k + 1))).setIfInBounds (k + 1) (.int .i64 (pg i (k + 1) + pg i k)) = Zdp (Zgs i k):=by
 unfold Zdp;rw [List.setIfInBounds_toArray]
 congr 1
 apply List.ext_getElem?
 intro j;rw [List.getElem?_set,List.length_map]
 have hl : (Zgs i (k + 1)).length = 41:=by unfold Zgs;simp
 by_cases hj : k + 1 = j
 ·subst hj
  rw [if_pos rfl,if_pos (by rw [hl];exact h),List.getElem?_map,Zef h,if_pos (by omega),pg_step];rfl
 ·rw [if_neg hj,List.getElem?_map,List.getElem?_map]
  by_cases h2 : j < 41
  ·rw [Zef h2,Zef h2]
   by_cases h3 : k + 1 < j
   ·rw [if_pos h3,if_pos (by omega)]
   ·rw [if_neg h3,if_neg (by omega)]
  ·rw [List.getElem?_eq_none (by rw [hl];omega),List.getElem?_eq_none (by unfold Zgs;simp;omega)]
def Zh3 (n : Nat) : List Rat:=(List.range (2 * n + 1)).map fun j=>Rat.divInt (pg (2 * n) j) (2 ^ (2 * n))
theorem Zhs {n : Nat} : (Zh3 n).length = 2 * n + 1:=by simp [Zh3]
theorem Zpf {n i : Nat} (h : i < 2 * n + 1) : (Zh3 n).take i ++ [Rat.divInt (pg (2 * n) i) (2 ^ (2 * n))] = (Zh3 n).take (i + 1):=by
 rw [List.take_add_one];unfold Zh3;rw [List.getElem?_map,List.getElem?_range h];rfl
def WeiPost (n : Int) (w : World) (e : Ending) (w' : World) : Prop:=
 Below w.heap.size w w' /\ ((0 <= n /\ n <= 20 /\ ∃ A c,e = .returned (.tuple #[.slice A (2 * n.toNat + 1) c,.int .i64 0]) /\ FL w' A (2 * n.toNat + 1) c (Zh3 n.toNat)) \/ (¬ (0 <= n /\ n <= 20) /\ e = .returned (.tuple #[.slice none 0 0,.int .i64 2])))
theorem Zqw {t : TypeId} {B : Nat} {w0 w : World} {g k : Nat} {cs : Array Value} (v : Value) (hB : Below B w0 w) (hs : B <= g) (hb : Blk w g t cs) : ∃ W,w.setCell ⟨g,k,none⟩ v = W /\ Below B w0 W /\ Blk W g t (cs.setIfInBounds k v):=
 ⟨_,rfl,hB.setCell (p:=⟨g,k,none⟩) hs _,hb.set_ k v⟩
theorem Zdt (n : Int) (w : World) (hn1 : -9223372036854775808 <= n) (hn2 : n <= 9223372036854775807) :
    Calls Tryz.prog 23 #[.int .i64 n] w (WeiPost n w):=by
 obtain ⟨iF,hi,hz0,hz1,hz2⟩:=info_parts Zjp
 have hmx : Tryz.prog.follows .mixedOrders = true:=by kernel_rfl
 by_cases h0 : n < 0
 case pos =>
  have t1 : decide (n < 0) = true:=decide_eq_true h0;go_enter Tryz.func23,Tryz.ntmps23;go_wp2_with fail;go_returns;exact ⟨Below.refl _ _,.inr ⟨by omega,rfl⟩⟩
 have t1 : decide (n < 0) = false:=decide_eq_false h0
 by_cases h20 : 20 < n
 case pos =>
  have t2 : decide (20 < n) = true:=decide_eq_true h20;go_enter Tryz.func23,Tryz.ntmps23;go_wp2_with fail;go_returns;exact ⟨Below.refl _ _,.inr ⟨by omega,rfl⟩⟩
 have t2 : decide (20 < n) = false:=decide_eq_false h20;obtain ⟨N,hN⟩ : ∃ N : Nat,n = N:=⟨n.toNat,by omega⟩;subst hN
 have hN20 : N <= 20:=by omega
 have t2' : decide (20 < N) = false:=decide_eq_false (by omega)
 have q0 : Blk (w.alloc (.cells #[.int .i64 1,.int .i64 0,.int .i64 0,.int .i64 0,.int .i64 0,.int .i64 0,.int .i64 0,.int .i64 0,.int .i64 0,.int .i64 0,.int .i64 0,.int .i64 0,.int .i64 0,.int .i64 0,.int .i64 0,.int .i64 0,.int .i64 0,.int .i64 0,.int .i64 0,.int .i64 0,.int .i64 0,.int .i64 0,.int .i64 0,.int .i64 0,.int .i64 0,.int .i64 0,.int .i64 0,.int .i64 0,.int .i64 0,.int .i64 0,.int .i64 0,.int .i64 0,.int .i64 0,.int .i64 0,.int .i64 0,.int .i64 0,.int .i64 0,.int .i64 0,.int .i64 0,.int .i64 0,.int .i64 0] 112)) w.heap.size 112 (Zdp (Zk3 0)):=by
  have e : Zdp (Zk3 0) = #[.int .i64 1,.int .i64 0,.int .i64 0,.int .i64 0,.int .i64 0,.int .i64 0,.int .i64 0,.int .i64 0,.int .i64 0,.int .i64 0,.int .i64 0,.int .i64 0,.int .i64 0,.int .i64 0,.int .i64 0,.int .i64 0,.int .i64 0,.int .i64 0,.int .i64 0,.int .i64 0,.int .i64 0,.int .i64 0,.int .i64 0,.int .i64 0,.int .i64 0,.int .i64 0,.int .i64 0,.int .i64 0,.int .i64 0,.int .i64 0,.int .i64 0,.int .i64 0,.int .i64 0,.int .i64 0,.int .i64 0,.int .i64 0,.int .i64 0,.int .i64 0,.int .i64 0,.int .i64 0,.int .i64 0]:=by kernel_rfl
  rw [e];exact Blk.new w _ _
 have hB0 : Below w.heap.size w (w.alloc (.cells #[.int .i64 1,.int .i64 0,.int .i64 0,.int .i64 0,.int .i64 0,.int .i64 0,.int .i64 0,.int .i64 0,.int .i64 0,.int .i64 0,.int .i64 0,.int .i64 0,.int .i64 0,.int .i64 0,.int .i64 0,.int .i64 0,.int .i64 0,.int .i64 0,.int .i64 0,.int .i64 0,.int .i64 0,.int .i64 0,.int .i64 0,.int .i64 0,.int .i64 0,.int .i64 0,.int .i64 0,.int .i64 0,.int .i64 0,.int .i64 0,.int .i64 0,.int .i64 0,.int .i64 0,.int .i64 0,.int .i64 0,.int .i64 0,.int .i64 0,.int .i64 0,.int .i64 0,.int .i64 0,.int .i64 0] 112)):=(Below.refl _ _).alloc (Nat.le_refl _) _;obtain ⟨W0,hW0⟩ : ∃ W,w.alloc (.cells #[.int .i64 1,.int .i64 0,.int .i64 0,.int .i64 0,.int .i64 0,.int .i64 0,.int .i64 0,.int .i64 0,.int .i64 0,.int .i64 0,.int .i64 0,.int .i64 0,.int .i64 0,.int .i64 0,.int .i64 0,.int .i64 0,.int .i64 0,.int .i64 0,.int .i64 0,.int .i64 0,.int .i64 0,.int .i64 0,.int .i64 0,.int .i64 0,.int .i64 0,.int .i64 0,.int .i64 0,.int .i64 0,.int .i64 0,.int .i64 0,.int .i64 0,.int .i64 0,.int .i64 0,.int .i64 0,.int .i64 0,.int .i64 0,.int .i64 0,.int .i64 0,.int .i64 0,.int .i64 0,.int .i64 0] 112) = W:=⟨_,rfl⟩;rw [hW0] at q0 hB0;replace q0:=Za q0;replace hB0:=Za hB0;replace h0:=Za h0;replace h20:=Za h20;replace hW0:=Za hW0;go_enter Tryz.func23,Tryz.ntmps23;go_wp2_with fail;rw [hW0.out];clear hW0
 go_loopg [5] (2 * N) (fun k iv wr=>∃ i : Nat,i + k = 2 * N + 1 /\ 1 <= i /\ iv = .int .i64 i /\ Hid (Below w.heap.size w wr) /\ Hid (Blk wr w.heap.size 112 (Zdp (Zk3 (i - 1)))))
 case atStart=>exact ⟨1,by omega,by omega,by go_num,hB0,q0⟩
 case round =>
  clear hB0 q0;obtain ⟨wi,rfl⟩ : ∃ x : World,x = wr:=⟨_,rfl⟩;obtain ⟨i,hik,hi1,rfl,hBi,q0⟩:=hrel
  cases gk with
  | zero =>
   obtain rfl : i = 2 * N + 1:=by omega
   have t3 : decide (((2 * N + 1 : Nat) : Int) <= 2 * (N : Int)) = false:=decide_eq_false (by omega);rw [Nat.add_sub_cancel] at q0;have hmk:=Zk1 (P:=Tryz.prog) 23 29 Tryz.underlying23 hi hz0 hz1 hz2 (2 * N + 1) (by omega) wi;have hOm:=Zix 29 wi (2 * N + 1) (by unfold maxLen;omega);obtain ⟨V1,hV1⟩ : ∃ V,wi.alloc (.cells (Z1 (List.replicate (2 * N + 1) Zab)) 29) = V:=⟨_,rfl⟩
   have hBV : Below wi.heap.size wi V1:=by rw [<- hV1];exact (Below.refl _ _).alloc (Nat.le_refl _) _
   rw [hV1] at hOm hmk;rw [show ((2 * N + 1 : Nat) : Int) = 2 * (N : Int) + 1 by omega] at hmk;replace hOm:=Za hOm
   have b41 : 2 * (N : Int) + 1 <= 41:=by omega
   have b00 : (0 : Int) <= 2 * (N : Int) + 1:=by omega
   go_wp2_with fail;clear hmk;have hq0:=Za (Zc hBV q0.out);obtain ⟨D,hD⟩ : ∃ D : Int,(2 : Int) ^ (2 * N) = D:=⟨_,rfl⟩
   have hD0 : 0 < D:=by rw [<- hD];exact Int.pow_pos (by decide)
   have hD1 : D <= 1099511627776:=by
    rw [<- hD];have h:=Nat.pow_le_pow_right (n:=2) (by decide) (show 2 * N <= 40 by omega)
    have e : ((2 ^ (2 * N) : Nat) : Int) = (2 : Int) ^ (2 * N):=by push_cast;rfl
    rw [<- e];omega
   go_loopg [7,48] (2 * N + 1) (fun t rv iv wr=>∃ i : Nat,i + t = 2 * N + 1 /\ iv = .int .i64 i /\ Hid (OwnF 29 wr wi.heap.size rv ((Zh3 N).take i)) /\ Below wi.heap.size wi wr)
   case atStart=>exact ⟨0,by omega,rfl,Za (by simpa using hOm.out),hBV⟩
   case round =>
    clear hOm hV1 hBV V1 hq0;obtain ⟨wj,rfl⟩ : ∃ x : World,x = wr:=⟨_,rfl⟩;obtain ⟨i,hik,rfl,hO,hBj⟩:=hrel;have hBw:=Za (hBi.out.trans (hBj.mono hBi.out.size))
    cases gk with
    | zero =>
     obtain rfl : i = 2 * N + 1:=by omega
     have t5 : decide (((2 * N + 1 : Nat) : Int) < 2 * (N : Int) + 1) = false:=decide_eq_false (by omega);obtain ⟨rA,rc,e9,hrF⟩:=hO.out.fl
     have hrl : ((Zh3 N).take (2 * N + 1)).length = 2 * N + 1:=by rw [List.length_take,Zhs];omega
     rw [hrl] at e9 hrF;subst e9;rw [List.take_of_length_le (by rw [Zhs];exact Nat.le_refl _)] at hrF;replace hrF:=Za hrF;go_wp2_with fail;go_returns;exact ⟨hBw.out,.inl ⟨by omega,by omega,_,_,rfl,hrF.out⟩⟩
    | succ t' =>
     obtain rfl : t' = 2 * N + 1 - (i + 1):=by omega
     have t5 : decide ((i : Int) < 2 * (N : Int) + 1) = true:=decide_eq_true (by omega)
     have bi : (i : Int) < 2 * (N : Int) + 1:=by omega
     have q1:=Zc hBj q0.out
     have c1 : wj.cell? ⟨w.heap.size,i,none⟩ = some (.int .i64 (pg (2 * N) i)):=by
      have h:=q1.cell i;rw [Zfb (by unfold Zk3;rw [List.getElem?_map,List.getElem?_range (by omega)];rfl)] at h;exact h
     have hpb:=Zhl (i:=2 * N) (by omega) i;obtain ⟨x,hx⟩ : ∃ x,pg (2 * N) i = x:=⟨_,rfl⟩;have hsc:=Zpf (n:=N) (i:=i) (by omega);rw [hD,hx] at hsc;rw [hx] at c1 hpb;have hOf:=Za (fun W=>Zq9 x D W (by omega) (by omega) hD0 (by omega));replace hpb:=Za hpb;replace hx:=Za hx;replace hsc:=Za hsc;clear q1;go_wp2_with fail;refine (hOf.out wj).mono ?_;rintro e w5 ⟨hb5,bbn,bbA,bbk,bbc,bbm,bbB,bbj,bbd,rfl,bbf⟩;clear c1;obtain ⟨Y0,hY0⟩ : ∃ Y,w5.alloc (.cells #[.bool bbn,.slice bbA bbk bbc,.bool bbm,.slice bbB bbj bbd] 29) = Y:=⟨_,rfl⟩
     have hBY0 : Below w5.heap.size w5 Y0:=by rw [<- hY0];exact (Below.refl _ _).alloc (Nat.le_refl _) _
     have hbY0 : Blk Y0 w5.heap.size 29 #[.bool bbn,.slice bbA bbk bbc,.bool bbm,.slice bbB bbj bbd]:=by rw [<- hY0];exact Blk.new _ _ _
     obtain ⟨z0,z1,z2,z3,-⟩:=hbY0.four;obtain ⟨Y1,hY1⟩ : ∃ Y,Y0.alloc (.cells #[.bool bbn,.slice bbA bbk bbc,.bool bbm,.slice bbB bbj bbd] 29) = Y:=⟨_,rfl⟩;obtain ⟨gz,hgz⟩ : ∃ g,Y0.heap.size = g:=⟨_,rfl⟩
     have hBY : Below Y0.heap.size Y0 Y1:=by rw [<- hY1];exact (Below.refl _ _).alloc (Nat.le_refl _) _
     have hbY : Blk Y1 gz 29 #[.bool bbn,.slice bbA bbk bbc,.bool bbm,.slice bbB bbj bbd]:=by rw [<- hY1,<- hgz];exact Blk.new _ _ _
     have hOY:=((hO.out.kept hb5).kept hBY0).kept hBY;have hfY:=(bbf.below hBY0).below hBY;have hjY : Below wi.heap.size wi Y1:=hBj.trans ((hb5.trans ((hBY0.trans (hBY.mono hBY0.size)).mono hb5.size)).mono hBj.size);have hsz:=hjY.size
     have hrl : ((Zh3 N).take i).length = i:=by rw [List.length_take,Zhs];omega
     have hll : ((Zh3 N).take i).length + 1 <= 1000:=by rw [hrl];omega
     obtain ⟨rA,rc,e9,hrF⟩:=hO.out.fl;rw [hrl] at e9;subst e9;replace hsc:=hsc.out;clear hO bbf hb5 hbY0;go_wp2_with ((try rw [hY1]);(try rw [hgz]);at_builtin;refine Zar _ rfl (.tmp 60) (.tmp 62) 23 rfl wi.heap.size 29 iF Tryz.underlying23 hi hz0 hz1 hz2 _ _ rfl hOY _ (some ⟨gz,0,none⟩) 1 1 [⟨bbn,bbA,bbk,bbc,bbm,bbB,bbj,bbd,Rat.divInt x D⟩] rfl (Zan _ hbY) rfl (by intro e he;rw [List.mem_singleton] at he;subst he;exact hfY) hll hsz ?_;intro v7 w7 hO7 hg7 hk7);have hj7:=hjY.grown hg7 hsz (fun k hk=>hOY.row_ge k hk);simp only [List.map_cons,List.map_nil] at hO7;rw [hsc] at hO7;replace hO7:=Za hO7
     go_roundg (2 * N + 1 - (i + 1))
     case measure=>omega
     case rel=>exact ⟨i + 1,by omega,by go_num,hO7,hj7⟩
  | succ t' =>
   obtain rfl : t' = 2 * N - i:=by omega
   obtain ⟨i',hi'⟩ : ∃ j,i = j + 1:=⟨i - 1,by omega⟩;rw [show i - 1 = i' by omega] at q0;have t3 : decide ((i : Int) <= 2 * (N : Int)) = true:=decide_eq_true (by omega);replace hi':=Za hi';go_wp2_with fail
   go_loopg [6] i (fun k kv wr=>k <= i /\ kv = .int .i64 k /\ Hid (Below w.heap.size w wr) /\ Hid (Blk wr w.heap.size 112 (Zdp (Zgs i' k))))
   case atStart=>exact ⟨Nat.le_refl _,by go_num,hBi,Za (by rw [hi'.out,Zl1];exact q0.out)⟩
   case round =>
    clear hBi q0;obtain ⟨wj,rfl⟩ : ∃ x : World,x = wr:=⟨_,rfl⟩;obtain ⟨hki,rfl,hBj,q0⟩:=hrel;have hi2:=hi'.out
    cases gk with
    | zero =>
     clear hi2
     have t4 : decide (((0 : Nat) : Int) > 0) = false:=by decide
     go_wp2_with fail
     go_roundg (2 * N - i)
     case measure=>omega
     case rel=>exact ⟨i + 1,by omega,by omega,by go_num,hBj,Za (by rw [Nat.add_sub_cancel,hi'.out,<- Zp6];exact q0.out)⟩
    | succ k' =>
     have hk41 : k' + 1 < 41:=by omega
     have hi40 : i' <= 40:=by omega
     clear hi2;have t4 : decide ((0 : Int) < ((k' + 1 : Nat) : Int)) = true:=decide_eq_true (by omega)
     have b1 : ((k' + 1 : Nat) : Int) < 41:=by omega
     have b0 : (k' : Int) < 41:=by omega
     have b1' : (k' : Int) + 1 < 41:=by omega
     have p1 : (0 : Int) <= (k' : Int) + 1:=by omega
     have p0 : (0 : Int) <= (k' : Int):=by omega
     have hwk : IntKind.i64.wrap (k' : Int) = (k' : Int):=IntWalk.i64_in _ (by omega)
     have c1 : wj.cell? ⟨w.heap.size,k' + 1,none⟩ = some (.int .i64 (pg i' (k' + 1))):=by
      have h:=q0.out.cell (k' + 1);rw [Zfb (Zef (by omega)),if_neg (by omega)] at h;exact h
     have c0 : wj.cell? ⟨w.heap.size,k',none⟩ = some (.int .i64 (pg i' k')):=by
      have h:=q0.out.cell k';rw [Zfb (Zef (by omega)),if_neg (by omega)] at h;exact h
     have f1:=q0.out.frozen (k' + 1);have hbx:=Zhl (i:=i') (by omega) (k' + 1);have hby:=Zhl (i:=i') (by omega) k';have hset:=Za (Zp1 (i:=i') (k:=k') (by omega));obtain ⟨x,hx⟩ : ∃ x,pg i' (k' + 1) = x:=⟨_,rfl⟩;obtain ⟨y,hy⟩ : ∃ y,pg i' k' = y:=⟨_,rfl⟩;rw [hx] at c1 hbx hset;rw [hy] at c0 hby hset;replace hx:=Za hx;replace hy:=Za hy;have hx1:=hbx.1;have hx2:=hbx.2;have hy1:=hby.1;have hy2:=hby.2;clear hbx hby;have hwxy : IntKind.i64.wrap (x + y) = x + y:=IntWalk.i64_in _ (by omega);go_wp2_with fail;have hr : Below wj.heap.size wj wj.drew:=Zi (Below.refl _ _) 1;have hSv : wj.drew.cell? ⟨w.heap.size,k' + 1,none⟩ = some (.int .i64 x) /\ wj.drew.cell? ⟨w.heap.size,k',none⟩ = some (.int .i64 y):=⟨Zb hr c1,Zb hr c0⟩;have q1:=Zc hr q0.out;have f2:=q1.frozen (k' + 1);refine Zaa [9] (fun wx=>wx.cell? ⟨w.heap.size,k' + 1,none⟩ = some (.int .i64 x) /\ wx.cell? ⟨w.heap.size,k',none⟩ = some (.int .i64 y)) hmx hSv (fun hxs=>?_);refine Zrd 9 [0,1,2,3,4,5,6,7,8] rfl (by kernel_rfl) hSv ?_
     iterate 9 (refine tk1 (v:=?_) rfl (Or.inl ⟨by kernel_rfl,?_⟩) ?_;rotate_left;(· intro W2 hSw;(try dsimp only at hSw);go_simp;try with_reducible rfl);try simp only [Act.put,putL_a,putL_z,putL_s,putG_a,putG_s,putG_z])
     refine tk0 ?_;refine Zt (i:=9) rfl (by kernel_rfl) (by kernel_rfl) (fun K hK=>?_);have c1':=hSv.1;go_simp;obtain ⟨Wa,hWa,hBa,qa⟩:=Zqw (k:=k' + 1) (.int .i64 (x + y)) hBj.out (Nat.le_refl _) q0.out;rw [hset.out] at qa;rw [hWa];have hrd : Below Wa.heap.size Wa Wa.drew:=Zi (Below.refl _ _) 1;replace qa:=Zc hrd qa;replace hBa:=hBa.trans (hrd.mono hBa.size);refine hK.out _ _ ?_;clear hK K
     try simp only [Act.put,putL_a,putL_z,putL_s]
     refine Zl (by kernel_rfl) ?_ _;refine OnlyNormal.normal ?_;clear hSv hxs c1 c0 f1 f2 c1' q1 hWa;replace qa:=Za qa;replace hBa:=Za hBa;go_wp2_with fail
     go_roundg k'
     case measure=>omega
     case rel=>exact ⟨by omega,by go_num,hBa,qa⟩
open Go.ChangeShapes Go.WideShapes Go.Deep Go.RowKit
section
variable {H : Type} {enc : TypeId × Value -> H} {P : Program} {w : World} {base : Nat} {spare : Nat -> Bool} {held : Bool}
end
section
variable {H : Type} {enc : TypeId × Value -> H} {P : Program}
theorem Zif {f : Func} {s : ChangeSpec} {apart fresh handsOn again : Bool} {W W' : World} {args : Array Value} {v : Value} {ds gs : List (DataW H)} {before pa pv : List MemPlace}
    (hW : DataW.Whole enc P f.params.toList s.vars apart W args.toList ds gs before)
    (hres : ∀ (b : Nat) (sp : Nat -> Bool) (hd : Bool),DataW.TrodAll enc P W' b sp hd f.resultTypes.toList (v.resultList f.resultTypes.size) (s.fn H (ds ++ gs)).results [])
    (hargs : ∀ sp : Nat -> Bool,(∀ p ∈ before,sp p.block = true) -> DataW.TrodAll enc P W' 0 sp true f.params.toList args.toList (s.fn H (ds ++ gs)).args pa)
    (hvars : ∀ sp : Nat -> Bool,(∀ p ∈ before,sp p.block = true) -> DataW.TrodVars enc P W' sp s.vars (s.fn H (ds ++ gs)).vars pv)
    (hps : before = pa ++ pv) (hb : Below W.heap.size W W')
    (hok : ∀ (j : Nat) (t : TypeId) (r : Value),f.resultTypes[j]? = some t -> (v.resultList f.resultTypes.size)[j]? = some r -> Value.okWide P W' .any 0 t r) :
    s.post enc P f apart fresh handsOn again W args v W':=by
 have hlt : ∀ p ∈ before,p.block < W.heap.size:=fun p hp=>hW.lt p hp
 have hold : ∀ p ∈ before,(fun b=>decide (b < W.heap.size)) p.block = true:=fun p hp=>by simpa using hlt p hp
 refine ⟨ds,gs,before,[],pa,pv,hW,hres _ _ _,hargs _ hold,hvars _ hold,World.keptBut_mono (fun p hp=>⟨hp,?_⟩) (hb.frame (· ∈ before)),fun _=>?_⟩
 ·rw [hps,List.mem_append] at hp
  exact Or.inr hp
 ·obtain ⟨_,_,_,_,_,hz,hn⟩:=hW
  refine ⟨hok,_,_,([] ++ pa) ++ pv,⟨[] ++ pa,pv,trodAll_append (hargs _ (fun _ _=>rfl)) (hres _ _ _),hvars _ (fun _ _=>rfl),rfl,?_,?_⟩,?_⟩
  ·intro b off hp
   have hin : MemPlace.cell b off ∈ before:=by rw [hps];simpa using hp
   rw [hb.frozen (hlt _ hin)];exact hz b off hin
  ·intro ha
   have:=hn ha;rw [hps] at this
   simpa using this
  ·intro p hp _
   rw [hps]
   simpa using hp
end
theorem list_of {α : Type} (P : Nat -> α -> Prop) (n : Nat) (h : ∀ i,i < n -> ∃ e,P i e) : ∃ es : List α,es.length = n /\ ∀ (k : Nat) (e : α),es[k]? = some e -> P k e:=by
 induction n with
 | zero=>exact ⟨[],rfl,fun k e h=>by simp at h⟩
 | succ n ih =>
  obtain ⟨es,h1,h2⟩:=ih fun i hi=>h i (by omega)
  obtain ⟨e,he⟩:=h n (by omega);refine ⟨es ++ [e],by simp [h1],fun k e' hk=>?_⟩
  rcases Nat.lt_or_ge k es.length with hlt | hge
  ·rw [List.getElem?_append_left hlt] at hk;exact h2 k e' hk
  ·rw [List.getElem?_append_right hge] at hk
   rcases Nat.eq_or_lt_of_le hge with h0 | h0
   ·rw [show k - es.length = 0 by omega] at hk
    simp at hk
    subst hk;rw [<- h0,h1];exact he
   ·rw [List.getElem?_eq_none (by simp;omega)] at hk
    cases hk
section
variable {H : Type} {enc : TypeId × Value -> H} {w : World} {base : Nat} {spare : Nat -> Bool} {held : Bool}
end
theorem Fr.rawC {w : World} {na : Bool} {A : Option Addr} {n c : Nat} {nb : Bool} {B : Option Addr} {m d : Nat} {r : Rat} (h : Fr w na A n c nb B m d r) : okF na (digits r.num.natAbs) nb (digits r.den) = true /\ qOf na (digits r.num.natAbs) (digits r.den) = r:=by
 have h1:=h.1.ok;have h2:=h.2.ok;have h3:=h.1.sgEq;rw [Int.natAbs_natCast] at h2;have hd:=r.den_pos;have hr:=r.reduced;unfold Nat.Coprime at hr;refine ⟨?_,?_⟩
 ·unfold okF
  rw [h1,h2,h.neg,Zf,Zf]
  simp [length_digits_pos,hd,hr]
 ·unfold qOf
  rw [h3,Zf];exact Rat.num_divInt_den r
def Zjq (q : Rat) : Nat:=max (digits q.num.natAbs).length (digits q.den).length
def Zll (e : FX) : Nat × Bool × Rat:=(e.few,e.ok,e.q)
def Zka (r : RX) : Nat × List (Nat × Bool × Rat):=(r.n,r.es.map Zll)
def Zbw (rs : List RX) : List (Nat × List (Nat × Bool × Rat)):=rs.map Zka
def Zfa (Q : List (List Rat)) : List (Nat × List (Nat × Bool × Rat)):=Q.map fun r=>(r.length,r.map fun q=>(Zjq q,true,q))
theorem sig_qM {rs : List RX} : qM rs = (Zbw rs).map fun x=>x.2.map fun y=>y.2.2:=by
 unfold qM Zbw;rw [List.map_map]
 refine List.map_congr_left fun r _=>?_
 simp [Zka,Zll,Function.comp_def]
theorem Zpz {rs : List RX} : long6 rs = (decide (6 < (Zbw rs).length) || (Zbw rs).any fun x=>decide (6 < x.1)):=by
 unfold long6 Zbw;rw [List.length_map,List.any_map];rfl
theorem sig_row {k : Nat} {r : RX} : Zck k r = (decide ((Zka r).1 = k) && (Zka r).2.all fun y=>decide (y.1 <= 64) && y.2.1):=by
 unfold Zck Zdg Zka;simp only [List.all_map]
 rfl
theorem Zqu {k : Nat} {rs : List RX} : rs.all (Zck k) = (Zbw rs).all fun x=>decide (x.1 = k) && x.2.all fun y=>decide (y.1 <= 64) && y.2.1:=by
 unfold Zbw;rw [List.all_map]
 congr 1
 funext r
 exact sig_row
theorem FL.fxs {w : World} {A : Option Addr} {n c : Nat} {qs : List Rat} (h : FL w A n c qs) : ∃ es,FXL w A n c es /\ es.map FX.q = qs /\ es.map Zll = qs.map fun q=>(Zjq q,true,q):=by
 obtain ⟨fs,h1,h2,h3,h4,rfl,h5⟩:=h
 have hk : ∀ e ∈ fs,FX.in_ w ⟨e.na,e.A,e.n,e.c,digits e.q.num.natAbs,e.nb,e.B,e.m,e.d,digits e.q.den⟩ /\ FX.q ⟨e.na,e.A,e.n,e.c,digits e.q.num.natAbs,e.nb,e.B,e.m,e.d,digits e.q.den⟩ = e.q /\ Zll ⟨e.na,e.A,e.n,e.c,digits e.q.num.natAbs,e.nb,e.B,e.m,e.d,digits e.q.den⟩ = (Zjq e.q,true,e.q):=fun e he=>by
  have h0 : Fr w e.na e.A e.n e.c e.nb e.B e.m e.d e.q:=h4 e he;have h2:=h0.2.2.2;rw [Int.natAbs_natCast] at h2;have h6:=h0.rawC;refine ⟨⟨h0.1.2.2,h2⟩,h6.2,?_⟩;unfold Zll FX.few FX.ok FX.q Zjq;rw [h6.1,h6.2];have e1:=h0.1.2.2.len;have e2:=h2.len;rw [e1,e2]
 refine ⟨fs.map fun e=>⟨e.na,e.A,e.n,e.c,digits e.q.num.natAbs,e.nb,e.B,e.m,e.d,digits e.q.den⟩,⟨by rw [List.length_map];exact h1,h2,h3,fun x hx=>?_,fun hn=>?_⟩,?_,?_⟩
 ·obtain ⟨e,he,rfl⟩:=List.mem_map.1 hx
  exact (hk e he).1
 ·obtain ⟨g,o,e1,hc⟩:=h5 hn
  refine ⟨g,o,e1,fun k x hx=>?_⟩;rw [List.getElem?_map] at hx;obtain ⟨e,he,rfl⟩:=Option.map_eq_some_iff.1 hx;exact hc k e he
 ·rw [List.map_map]
  exact List.map_congr_left fun e he=>(hk e he).2.1
 ·rw [List.map_map,List.map_map]
  exact List.map_congr_left fun e he=>(hk e he).2.2
theorem MFL.mxs {w : World} {A : Option Addr} {n c : Nat} {Q : List (List Rat)} (h : MFL w A n c Q) : ∃ rs,MXL w A n c rs /\ qM rs = Q /\ Zbw rs = Zfa Q:=by
 obtain ⟨h1,h2,h3,h4⟩:=h
 rcases Nat.eq_zero_or_pos n with h0 | h0
 ·subst h0
  obtain rfl : Q = []:=List.eq_nil_of_length_eq_zero h1;exact ⟨[],⟨rfl,h2,h3,fun r hr=>(by cases hr),fun hn=>absurd hn (Nat.lt_irrefl _)⟩,rfl,rfl⟩
 ·obtain ⟨g,o,rfl,hc⟩:=h4 h0
  obtain ⟨rs,r1,r2⟩:=list_of (fun i (r : RX)=>w.cell? ⟨g,o + i,none⟩ = some (.slice r.A r.n r.c) /\ FXL w r.A r.n r.c r.es /\ r.es.map FX.q = Q[i]?.getD [] /\ Zka r = ((Q[i]?.getD []).length,(Q[i]?.getD []).map fun q=>(Zjq q,true,q))) n (fun i hi=>by
   have hq : Q[i]? = some Q[i]:=List.getElem?_eq_getElem (by omega);obtain ⟨A',n',c',k0,hF⟩:=hc i _ hq;obtain ⟨es,e1,e2,e3⟩:=hF.fxs;refine ⟨⟨A',n',c',es⟩,k0,e1,by rw [hq];exact e2,?_⟩;rw [hq,Option.getD_some];unfold Zka
   rw [e3,hF.len])
  have ext : ∀ {α : Type} (f : RX -> α) (g : List Rat -> α),(∀ (i : Nat) (r : RX),rs[i]? = some r -> f r = g (Q[i]?.getD [])) -> rs.map f = Q.map g:=fun f g hfg=>by
   apply List.ext_getElem?
   intro i;rw [List.getElem?_map,List.getElem?_map]
   by_cases hi : i < n
   ·have hr:=List.getElem?_eq_getElem (l:=rs) (i:=i) (by omega)
    have hq : Q[i]? = some Q[i]:=List.getElem?_eq_getElem (by omega);have:=hfg i _ hr;rw [hq,Option.getD_some] at this;rw [hr,hq,Option.map_some,Option.map_some,this]
   ·rw [List.getElem?_eq_none (l:=rs) (by omega),List.getElem?_eq_none (l:=Q) (by omega)];rfl
  refine ⟨rs,⟨r1,h2,h3,fun r hr=>?_,fun _=>⟨g,o,rfl,fun k r hk=>(r2 k r hk).1⟩⟩,?_,ext Zka (fun r=>(r.length,r.map fun q=>(Zjq q,true,q))) (fun i r hr=>(r2 i r hr).2.2.2)⟩
  ·obtain ⟨k,hk,rfl⟩:=List.getElem_of_mem hr
   exact (r2 k _ (List.getElem?_eq_getElem hk)).2.1
  ·have:=ext (fun r=>r.es.map FX.q) id (fun i r hr=>(r2 i r hr).2.2.1)
   rw [List.map_id] at this;exact this
def covS (l : List (Nat × List (Nat × Bool × Rat))) : Int:=if (decide (6 < l.length) || l.any fun x=>decide (6 < x.1)) = true then 4 else if l.length = 0 then 8 else if (l.all fun x=>decide (x.1 = l.length) && x.2.all fun y=>decide (y.1 <= 64) && y.2.1) = true then (if (Zey (l.map fun x=>x.2.map fun y=>y.2.2) && Zls (Zm (l.map fun x=>x.2.map fun y=>y.2.2)) l.length) = true then 0 else 8) else 8
theorem Zl9 (rs : List RX) : Za8 rs = covS (Zbw rs):=by
 have hl : (Zbw rs).length = rs.length:=by simp [Zbw]
 unfold Za8 covS;rw [Zpz,Zqu,sig_qM,hl]
theorem Zns {rs : List RX} {Q : List (List Rat)} {k : Nat} (h : Zbw rs = Zfa Q) (hQ : ∀ r ∈ Q,∀ q ∈ r,Zjq q <= k) : fewM k rs:=fun r hr e he=>by
 have h1 : Zka r ∈ Zbw rs:=List.mem_map.2 ⟨r,hr,rfl⟩;rw [h] at h1;obtain ⟨row,h2,h3⟩:=List.mem_map.1 h1
 have h4 : r.es.map Zll = row.map fun q=>(Zjq q,true,q):=(congrArg Prod.snd h3).symm
 have h5 : Zll e ∈ r.es.map Zll:=List.mem_map.2 ⟨e,he,rfl⟩;rw [h4] at h5;obtain ⟨q,h6,h7⟩:=List.mem_map.1 h5;have h8 : Zjq q = e.few:=congrArg Prod.fst h7;exact .inl (by rw [<- h8];exact hQ row h2 q h6)
theorem Zkk {rs : List RX} (h : Zbw rs = Zfa unitQ) : Za8 rs = 0:=by
 rw [Zl9,h];decide +kernel
theorem Z5 {rs : List RX} (h : Zbw rs = Zfa unitQ) : fewM 1 rs:=Zns h (by decide +kernel)
theorem fewM.mono {rs : List RX} {k m : Nat} (h : fewM k rs) (hk : k <= m) : fewM m rs:=fun r hr e he=>by
 rcases h r hr e he with h | h
 ·exact .inl (by omega)
 ·exact .inr h
theorem Zb7 {rs : List RX} (h : Zbw rs = Zfa unitQ) {k : Int} (hk : 0 <= k /\ k <= 5) : Za4 rs k = 0:=by
 have hl : rs.length = 6:=by
  have : (Zbw rs).length = rs.length:=by simp [Zbw]
  rw [<- this,h];rfl
 unfold Za4;rw [if_pos (Zkk h),if_pos hl,if_pos hk]
def Zbs : List Rat:=[1,1 / 4,0,0,0,0]
theorem Zg4 : Zce (Zm unitQ) 0 = Zbs:=by decide +kernel
def restS : St:=⟨0,1099511627776,0,0,0,0,0⟩
def Zji : St:=⟨0,1099511627772,-1,0,0,0,0⟩
def Zje : St:=⟨0,1099511627780,1,0,0,0,0⟩
def nearB (dir : List Rat) (d : Int) : Bool:=(List.range 6).all fun i=>decide (-1152921504606846976 <= Zcr dir d i) && decide (Zcr dir d i <= 1152921504606846976)
theorem Zmq {s : St} {dir : List Rat} {d : Int} (h : nearB dir d = true) (h2 : stE (mvS s (Zcr dir d) 6) = 0) : movE s dir d = 0 /\ movV s dir d = mvS s (Zcr dir d) 6:=
 Zn3 (fun i hi=>by
  have h3:=List.all_eq_true.1 h i (List.mem_range.2 hi);simp only [Bool.and_eq_true,decide_eq_true_eq] at h3
  exact h3) h2
theorem Zc7 : ∀ j,j < 3 -> nearB Zbs (Zbg 1 4 j) = true /\ stE (mvS restS (Zcr Zbs (Zbg 1 4 j)) 6) = 0:=by
 intro j hj
 match j,hj with
 | 0,_=>exact ⟨by decide +kernel,by decide +kernel⟩
 | 1,_=>exact ⟨by decide +kernel,by decide +kernel⟩
 | 2,_=>exact ⟨by decide +kernel,by decide +kernel⟩
theorem Zm2 : lineB Zbs restS 4 1:=fun j hj=>(Zmq (Zc7 j (by omega)).1 (Zc7 j (by omega)).2).1
theorem Znk : lineS Zbs restS 4 1 = [Zji,restS,Zje]:=by
 have e : ∀ j,j < 3 -> movV restS Zbs (Zbg 1 4 j) = mvS restS (Zcr Zbs (Zbg 1 4 j)) 6:=fun j hj=>(Zmq (Zc7 j hj).1 (Zc7 j hj).2).2
 show [movV restS Zbs (Zbg 1 4 0),movV restS Zbs (Zbg 1 4 1),movV restS Zbs (Zbg 1 4 2)] = _;rw [e 0 (by decide),e 1 (by decide),e 2 (by decide)]
 have n : ∀ (a b : St),(decide (a.t = b.t) && decide (a.p0 = b.p0) && decide (a.p1 = b.p1) && decide (a.p2 = b.p2) && decide (a.v0 = b.v0) && decide (a.v1 = b.v1) && decide (a.v2 = b.v2)) = true -> a = b:=fun a b h=>by
  simp only [Bool.and_eq_true,decide_eq_true_eq] at h;obtain ⟨⟨⟨⟨⟨⟨h0,h1⟩,h2⟩,h3⟩,h4⟩,h5⟩,h6⟩:=h;exact St.ext' h0 h1 h2 h3 h4 h5 h6
 rw [n (mvS restS (Zcr Zbs (Zbg 1 4 0)) 6) Zji (by decide +kernel),n (mvS restS (Zcr Zbs (Zbg 1 4 1)) 6) restS (by decide +kernel),n (mvS restS (Zcr Zbs (Zbg 1 4 2)) 6) Zje (by decide +kernel)]
theorem Zjd {rs : List RX} (hq : qM rs = unitQ) (h : Zbw rs = Zfa unitQ) : lineE rs restS 0 4 1 = 0 /\ lineS (Ze3 rs 0) restS 4 (1 : Int).toNat = [Zji,restS,Zje] /\ Zce (Zm (qM rs)) (0 : Int).toNat = Zbs:=by
 have hd : Zce (Zm (qM rs)) (0 : Int).toNat = Zbs:=by rw [hq];exact Zg4
 have hl : Ze3 rs 0 = Zbs:=hd;refine ⟨?_,by rw [hl];exact Znk,hd⟩;rw [Zh0 (by decide +kernel) (Zb7 h (by decide)) (by decide),hl];exact Zkz Zm2
theorem Zoe : Zh3 1 = [1 / 4,1 / 2,1 / 4]:=by decide +kernel
theorem Zfo : stE restS = 0:=by decide +kernel
theorem FL.made {w : World} {g : Nat} {t : TypeId} {es : List FE} (h : Blk w g t (Z1 es)) (he : ∀ e ∈ es,e.in_ w) (hn : es.length <= 1000) : FL w (some ⟨g,0,none⟩) es.length es.length (es.map FE.q):=by
 refine ⟨es,rfl,Nat.le_refl _,by unfold maxLen;omega,he,rfl,fun _=>⟨g,0,rfl,fun k e hk=>?_⟩⟩;obtain ⟨h0,h1,h2,h3⟩:=Zgq hk;simp only [Nat.zero_add];exact ⟨(h.cell _).trans h0,(h.cell _).trans h1,(h.cell _).trans h2,(h.cell _).trans h3⟩
theorem SL.made {w : World} {g : Nat} {t : TypeId} {ss : List St} (h : Blk w g t (ss.flatMap fun s=>s.cells.toList).toArray) (hn : ss.length <= 1000) : SL w (some ⟨g,0,none⟩) ss.length ss.length ss:=by
 refine ⟨rfl,Nat.le_refl _,by unfold maxLen;omega,fun k s hs=>⟨g,0,rfl,?_⟩⟩
 have hc : ∀ i,i < 7 -> ∀ x,s.cells.toList[i]? = some x -> w.cell? ⟨g,k * 7 + i,none⟩ = some x:=fun i hi x hx=>by
  have e:=Zgy (f:=fun s : St=>s.cells.toList) (m:=7) (fun _=>rfl) ss k i s hs hi;rw [hx] at e;rw [h.cell,List.getElem?_toArray];exact e
 rw [Nat.zero_add];exact ⟨hc 0 (by omega) _ rfl,hc 1 (by omega) _ rfl,hc 2 (by omega) _ rfl,hc 3 (by omega) _ rfl,hc 4 (by omega) _ rfl,hc 5 (by omega) _ rfl,hc 6 (by omega) _ rfl⟩
end Go.Proofs.YtpehacgjclkhmaaGreat
