/- Package linear: vector, Check, square; the reference's -/
import Derived.Deep.LoopGhost
import Derived.Test.YtkcbhbddgmkoiaaGreatZc40
set_option maxRecDepth 100000
set_option maxHeartbeats 2000000
set_option linter.unusedSimpArgs false
set_option linter.unusedVariables false
namespace Go.Proofs.YtkcbhbddgmkoiaaGreat
open Go.RowKit
attribute [local go_sem] Zg
structure RI where
 A : Option Addr
 n : Nat
 c : Nat
 l : List Int
def MIL (w : World) (A : Option Addr) (n c : Nat) (rs : List RI) : Prop:=
 rs.length = n /\ n <= c /\ c <= maxLen /\ (∀ r ∈ rs,LimI w r.A r.n r.c r.l) /\ (0 < n -> ∃ g o,A = some ⟨g,o,none⟩ /\ ∀ (k : Nat) (r : RI),rs[k]? = some r -> w.cell? ⟨g,o + k,none⟩ = some (.slice r.A r.n r.c))
section
variable {w w' : World} {A : Option Addr} {n c : Nat} {rs : List RI}
theorem MIL.below (h : MIL w A n c rs) (hb : Below w.heap.size w w') : MIL w' A n c rs:=by
 obtain ⟨h1,h2,h3,h4,h5⟩:=h;refine ⟨h1,h2,h3,fun r hr=>(h4 r hr).below hb,fun hn=>?_⟩;obtain ⟨g,o,e,hc⟩:=h5 hn;exact ⟨g,o,e,fun k r hr=>(hb.cell (Zt (hc k r hr))).trans (hc k r hr)⟩
theorem MIL.at_ (h : MIL w A n c rs) {i : Nat} (hi : i < n) : ∃ g o r,A = some ⟨g,o,none⟩ /\ rs[i]? = some r /\ w.cell? ⟨g,o + i,none⟩ = some (.slice r.A r.n r.c) /\ LimI w r.A r.n r.c r.l:=by
 obtain ⟨h1,h2,h3,h4,h5⟩:=h;obtain ⟨g,o,e,hc⟩:=h5 (by omega);obtain ⟨r,hr⟩ : ∃ r,rs[i]? = some r:=⟨_,List.getElem?_eq_getElem (by omega)⟩;exact ⟨g,o,r,e,hr,hc i r hr,h4 r (List.mem_of_getElem? hr)⟩
end
theorem LimI.takeC {w : World} {A : Option Addr} {n c : Nat} {l : List Int} (h : LimI w A n c l) {k : Nat} (hk : k <= n) : LimI w A k k (l.take k):=by
 obtain ⟨h1,h2,h3,h4,h5⟩:=h;refine ⟨by rw [List.length_take];omega,Nat.le_refl _,by omega,fun x hx=>h4 x (List.mem_of_mem_take hx),fun hn=>?_⟩;obtain ⟨b,o,e,hc⟩:=h5 (by omega);refine ⟨b,o,e,fun j hj=>?_⟩;rw [hc j (by omega),List.getElem?_take,if_pos hj]
theorem LimI.atC {w : World} {A : Option Addr} {n c : Nat} {l : List Int} (h : LimI w A n c l) {k : Nat} (hk : k < n) : ∃ g o,A = some ⟨g,o,none⟩ /\ w.cell? ⟨g,o + k,none⟩ = some (.int .i64 (l[k]?.getD 0)):=by
 obtain ⟨b,o,e,hc⟩:=h.2.2.2.2 (by omega);exact ⟨b,o,e,hc k hk⟩
theorem LimI.atCS {w : World} {g o n c : Nat} {l : List Int} (h : LimI w (some ⟨g,o,none⟩) n c l) {k : Nat} (hk : k < n) : w.cell? ⟨g,o + k,none⟩ = some (.int .i64 (l[k]?.getD 0)):=by
 obtain ⟨b,o',e,hc⟩:=h.atC hk
 cases e;exact hc
theorem LimI.i64C {w : World} {A : Option Addr} {n c : Nat} {l : List Int} (h : LimI w A n c l) (k : Nat) : -9223372036854775808 <= l[k]?.getD 0 /\ l[k]?.getD 0 <= 9223372036854775807:=by
 rcases Nat.lt_or_ge k l.length with h1 | h1
 ·rw [List.getElem?_eq_getElem h1,Option.getD_some]
  exact h.2.2.2.1 _ (List.getElem_mem _)
 ·rw [List.getElem?_eq_none h1];exact ⟨by decide,by decide⟩
theorem Zms (A : Option Addr) (n c : Nat) (l : List Int) (x : Int) (w : World) (h : LimI w A n c l) (b : Bool) (hb : decide (x ∈ l) = b) :
    Calls Tryz.prog 71 #[.slice A n c,.int .i64 x] w (IdxC w b):=by
 have hl:=Za h.1;have hnc:=h.2.1;have hcm:=h.2.2.1;unfold maxLen at hcm;replace hb:=Za hb;replace h:=Za h;go_enter Tryz.func71,Tryz.ntmps71;go_wp2_with fail
 go_loopg [8] n (fun t iv wr=>∃ i : Nat,i + t = n /\ iv = .int .i64 i /\ Hid (∀ j : Nat,j < i -> l[j]?.getD 0 ≠ x) /\ Below w.heap.size w wr)
 case atStart=>exact ⟨0,by omega,rfl,Za (fun j hj=>by omega),Below.refl _ _⟩
 case round =>
  obtain ⟨i,hik,rfl,hall,hB⟩:=hrel
  cases gk with
  | zero =>
   obtain rfl : n = i:=by omega
   have t1 : decide ((n : Int) < (n : Int)) = false:=by simp
   obtain rfl : b = false:=by
    rw [<- hb.out];refine decide_eq_false (fun hx=>?_);obtain ⟨j,hj,e⟩:=List.getElem_of_mem hx;exact hall.out j (by rw [hl.out] at hj;exact hj) (by rw [List.getElem?_eq_getElem hj,e];rfl)
   go_wp2_with fail;go_ret;exact ⟨-1,rfl,rfl,hB⟩
  | succ t =>
   obtain rfl : t = n - (i + 1):=by omega
   have hin : i < n:=by omega
   have t1 : decide ((i : Int) < (n : Int)) = true:=decide_eq_true (by omega)
   have bi : (i : Int) < (n : Int):=by omega
   obtain ⟨g,o,rfl,c0⟩:=(h.out.below hB).atC hin;obtain ⟨y,hy⟩ : ∃ y,l[i]?.getD 0 = y:=⟨_,rfl⟩;rw [hy] at c0
   by_cases hxy : x = y
   ·have t2 : (x == y) = true:=by simp [hxy]
    have t2' : decide (x = y) = true:=by simpa using hxy
    obtain rfl : b = true:=by
     rw [<- hb.out];refine decide_eq_true ?_
     have h1 : i < l.length:=by rw [hl.out];exact hin
     rw [List.getElem?_eq_getElem h1,Option.getD_some] at hy;rw [hxy,<- hy];exact List.getElem_mem _
    replace hxy:=Za hxy;replace hy:=Za hy;go_wp2_with fail;go_ret;exact ⟨i,rfl,by simp,hB⟩
   ·have t2 : (x == y) = false:=by simpa using hxy
    have t2' : decide (x = y) = false:=by simpa using hxy
    have hall2 : Hid (∀ j : Nat,j < i + 1 -> l[j]?.getD 0 ≠ x):=Za (fun j hj=>by
     rcases Nat.lt_or_ge j i with h' | h'
     ·exact hall.out j h'
     ·obtain rfl : j = i:=by omega
      rw [hy];exact fun e=>hxy e.symm)
    replace hxy:=Za hxy;replace hy:=Za hy;go_wp2_with fail
    go_roundg (n - (i + 1))
    case measure=>omega
    case rel=>exact ⟨i + 1,by omega,by go_num,hall2,hB⟩
theorem Zkh (A : Option Addr) (n c : Nat) (l : List Int) (x : Int) (w : World) (h : LimI w A n c l) (b : Bool) (hb : decide (x ∈ l) = b) :
    Calls Tryz.prog 35 #[.slice A n c,.int .i64 x] w fun e w'=>e = .returned (.bool b) /\ Below w.heap.size w w':=by
 go_enter Tryz.func35,Tryz.ntmps35;go_wp2_with fail;refine (Zms A n c l x w h b hb).mono ?_;rintro e w1 ⟨i,rfl,hi,hb1⟩;replace hi:=Za hi;go_wp2_with fail;go_ret;exact ⟨Zgo hi.out,hb1⟩
def Zdv (x : Int) : Bool:=decide (x < -1099511627776) || decide (1099511627776 < x)
def Zja (l : List Int) : Bool:=l.any Zdv
theorem Zq0 (x : Int) (w : World) (b : Bool) (hb : Zdv x = b) :
    Calls Tryz.prog 39 #[.int .i64 x] w fun e w'=>e = .returned (.bool b) /\ Below w.heap.size w w':=by
 subst hb
 by_cases h1 : x < -1099511627776
 ·have t1 : decide (x < -1099511627776) = true:=decide_eq_true h1
  go_enter Tryz.func39,Tryz.ntmps39;go_wp2_with fail;go_ret;exact ⟨by simp [Zdv,t1],by first | exact Below.refl _ _ | exact Zj (Below.refl _ _) _⟩
 ·have t1 : decide (x < -1099511627776) = false:=decide_eq_false h1
  go_enter Tryz.func39,Tryz.ntmps39;go_wp2_with fail;go_ret;exact ⟨by simp [Zdv,t1],by first | exact Below.refl _ _ | exact Zj (Below.refl _ _) _⟩
theorem Zpf (A : Option Addr) (n c : Nat) (l : List Int) (w : World) (h : LimI w A n c l) (b : Bool) (hb : Zja l = b) :
    Calls Tryz.prog 74 #[.slice A n c,.func (.func 39) #[] #[]] w (IdxC w b):=by
 have hl:=Za h.1;have hnc:=h.2.1;have hcm:=h.2.2.1;unfold maxLen at hcm;replace hb:=Za hb;replace h:=Za h;go_enter Tryz.func74,Tryz.ntmps74;go_wp2_with fail
 go_loopg [8] n (fun t iv wr=>∃ i : Nat,i + t = n /\ iv = .int .i64 i /\ Hid (∀ j : Nat,j < i -> Zdv (l[j]?.getD 0) = false) /\ Below w.heap.size w wr)
 case atStart=>exact ⟨0,by omega,rfl,Za (fun j hj=>by omega),Below.refl _ _⟩
 case round =>
  obtain ⟨i,hik,rfl,hall,hB⟩:=hrel
  cases gk with
  | zero =>
   obtain rfl : n = i:=by omega
   have t1 : decide ((n : Int) < (n : Int)) = false:=by simp
   obtain rfl : b = false:=by
    rw [<- hb.out];unfold Zja;rw [List.any_eq_false];intro x hx;obtain ⟨j,hj,e⟩:=List.getElem_of_mem hx;have:=hall.out j (by rw [hl.out] at hj;exact hj);rw [List.getElem?_eq_getElem hj,e,Option.getD_some] at this;rw [this];decide
   go_wp2_with fail;go_ret;exact ⟨-1,rfl,rfl,hB⟩
  | succ t =>
   obtain rfl : t = n - (i + 1):=by omega
   have hin : i < n:=by omega
   have t1 : decide ((i : Int) < (n : Int)) = true:=decide_eq_true (by omega)
   have bi : (i : Int) < (n : Int):=by omega
   obtain ⟨g,o,rfl,c0⟩:=(h.out.below hB).atC hin;obtain ⟨y,hy⟩ : ∃ y,l[i]?.getD 0 = y:=⟨_,rfl⟩;rw [hy] at c0;obtain ⟨z,hz⟩ : ∃ z,Zdv y = z:=⟨_,rfl⟩;have hC:=Za (fun W1=>Zq0 y W1 z hz)
   cases z
   ·have hall2 : Hid (∀ j : Nat,j < i + 1 -> Zdv (l[j]?.getD 0) = false):=Za (fun j hj=>by
      rcases Nat.lt_or_ge j i with h' | h'
      ·exact hall.out j h'
      ·obtain rfl : j = i:=by omega
       rw [hy];exact hz)
    replace hz:=Za hz;replace hy:=Za hy;go_wp2_with fail;refine (hC.out _).mono ?_;rintro e' w1 ⟨rfl,hb1⟩;go_wp2_with fail
    go_roundg (n - (i + 1))
    case measure=>omega
    case rel=>exact ⟨i + 1,by omega,by go_num,hall2,(by first | exact hB.trans (hb1.mono hB.size) | exact (Zj hB _).trans (hb1.mono hB.size))⟩
   ·obtain rfl : b = true:=by
      rw [<- hb.out];unfold Zja;rw [List.any_eq_true]
      have h1 : i < l.length:=by rw [hl.out];exact hin
      rw [List.getElem?_eq_getElem h1,Option.getD_some] at hy;exact ⟨l[i],List.getElem_mem _,by rw [hy];exact hz⟩
    replace hz:=Za hz;replace hy:=Za hy;go_wp2_with fail;refine (hC.out _).mono ?_;rintro e' w1 ⟨rfl,hb1⟩;go_wp2_with fail;go_ret;exact ⟨i,rfl,by simp,(by first | exact hB.trans (hb1.mono hB.size) | exact (Zj hB _).trans (hb1.mono hB.size))⟩
theorem Zm5 (A : Option Addr) (n c : Nat) (l : List Int) (w : World) (h : LimI w A n c l) (b : Bool) (hb : Zja l = b) :
    Calls Tryz.prog 38 #[.slice A n c,.func (.func 39) #[] #[]] w fun e w'=>e = .returned (.bool b) /\ Below w.heap.size w w':=by
 go_enter Tryz.func38,Tryz.ntmps38;go_wp2_with fail;refine (Zpf A n c l w h b hb).mono ?_;rintro e w1 ⟨i,rfl,hi,hb1⟩;replace hi:=Za hi;go_wp2_with fail;go_ret;exact ⟨Zgo hi.out,hb1⟩
def idxOk (n : Nat) (ls : List Int) (k : Nat) : Prop:=(0 <= ls[k]?.getD 0 /\ ls[k]?.getD 0 < n) /\ ∀ j : Nat,j < k -> ls[j]?.getD 0 ≠ ls[k]?.getD 0
instance (n : Nat) (ls : List Int) (k : Nat) : Decidable (idxOk n ls k):=by unfold idxOk;infer_instance
def Ze1 (n : Nat) (ls : List Int) : Bool:=decide (0 < ls.length) && decide (ls.length <= n) && decide (∀ k,k < ls.length -> idxOk n ls k)
def Zdd (rs : List RX) (ls : List Int) : Int:=if Zal rs = 0 then (if Ze1 rs.length ls = true then 0 else 8) else Zal rs
def Zau (Q : List (List Rat)) (ls : List Int) (a : Int) : List Rat:=ls.map fun b=>Zh Q a.toNat b.toNat
def Zfn (Q : List (List Rat)) (ls : List Int) : List (List Rat):=ls.map (Zau Q ls)
section
variable {rs : List RX} {ls : List Int} {n : Nat}
theorem Zjw {E : Int} (h : Zal rs = E) (h0 : E ≠ 0) : Zdd rs ls = E:=by subst h;unfold Zdd;rw [if_neg h0]
theorem Zbm (h : Zal rs = 0) (hb : Ze1 rs.length ls = false) : Zdd rs ls = 8:=by unfold Zdd;rw [if_pos h,hb];rfl
theorem Zmt (h : Zal rs = 0) (hb : Ze1 rs.length ls = true) : Zdd rs ls = 0:=by unfold Zdd;rw [if_pos h,hb];rfl
theorem Zj5 (h : ls.length = 0) : Ze1 n ls = false:=by unfold Ze1;rw [h];rfl
theorem Zii (h : n < ls.length) : Ze1 n ls = false:=by unfold Ze1;rw [decide_eq_false (show ¬ ls.length <= n by omega)];simp
theorem Zc2 {k : Nat} (hk : k < ls.length) (h : ¬ idxOk n ls k) : Ze1 n ls = false:=by
 unfold Ze1;rw [decide_eq_false (p:=∀ k,k < ls.length -> idxOk n ls k) (fun h2=>h (h2 k hk))];simp
theorem Zll (h0 : 0 < ls.length) (h1 : ls.length <= n) (h : ∀ k,k < ls.length -> idxOk n ls k) : Ze1 n ls = true:=by
 unfold Ze1;rw [decide_eq_true h0,decide_eq_true h1,decide_eq_true h];rfl
theorem idxOk.mem {k : Nat} (hk : k < ls.length) : (ls[k]?.getD 0 ∈ ls.take k) ↔ ∃ j,j < k /\ ls[j]?.getD 0 = ls[k]?.getD 0:=by
 constructor
 ·intro h
  obtain ⟨j,hj,e⟩:=List.getElem_of_mem h;rw [List.length_take] at hj;refine ⟨j,by omega,?_⟩;rw [List.getElem_take] at e;rw [<- e,List.getElem?_eq_getElem (show j < ls.length by omega)];rfl
 ·rintro ⟨j,hj,e⟩
  rw [<- e,List.getElem?_eq_getElem (show j < ls.length by omega),Option.getD_some]
  have : ls[j] = (ls.take k)[j]'(by rw [List.length_take];omega):=by rw [List.getElem_take]
  rw [this];exact List.getElem_mem _
theorem Zdj {Q : List (List Rat)} {a : Int} : (Zau Q ls a).length = ls.length:=by simp [Zau]
theorem Ze4 {Q : List (List Rat)} : (Zfn Q ls).length = ls.length:=by simp [Zfn]
theorem Zgt {Q : List (List Rat)} {a : Int} {k : Nat} (hk : k < ls.length) : (Zau Q ls a).take k ++ [Zh Q a.toNat (ls[k]?.getD 0).toNat] = (Zau Q ls a).take (k + 1):=by
 rw [List.take_add_one];unfold Zau;rw [List.getElem?_map,List.getElem?_eq_getElem hk];rfl
theorem Zia {Q : List (List Rat)} {k : Nat} (hk : k < ls.length) : (Zfn Q ls).take k ++ [Zau Q ls (ls[k]?.getD 0)] = (Zfn Q ls).take (k + 1):=by
 rw [List.take_add_one];unfold Zfn;rw [List.getElem?_map,List.getElem?_eq_getElem hk];rfl
end
theorem Zqn {P : Program} (t e : TypeId) {i : TypeInfo} (ht : P.underlying t = some (.slice e)) (hi : P.info? e = some i) (hz : i.zero = some (.agg #[.bool false,.slice none 0 0,.bool false,.slice none 0 0])) (hs : i.size = 4) (hb : i.bytes = 64)
    (n : Nat) (hn : n <= 1000000000000) (W : World) :
    (Instr.makeSlice t (.int .i64 0) (.int .i64 (n : Int))).run P W = .ok (.slice (some ⟨W.heap.size,0,none⟩) 0 n) (W.alloc (.cells (Z3 (List.replicate n Zag)) e)):=by
 have hr:=run_make (P:=P) W t e i _ ht hi hz .i64 .i64 0 n (by omega) (by omega) (by rw [hb];omega) (by omega);simp only [Int.toNat_natCast,Int.toNat_zero] at hr;rw [hr,hs,Zen]
theorem Zo0 (t : TypeId) (w : World) (n : Nat) (hn : n <= maxLen) : OwnF t (w.alloc (.cells (Z3 (List.replicate n Zag)) t)) w.heap.size (.slice (some ⟨w.heap.size,0,none⟩) 0 n) []:=
 ⟨[],.inr ⟨w.heap.size,n,by rw [List.length_nil,Nat.zero_add],Nat.le_refl _,by rw [List.length_nil,Nat.zero_add];exact hn,by rw [List.nil_append];exact Blk.new _ _ _⟩,fun e he=>(by cases he),rfl⟩
end Go.Proofs.YtkcbhbddgmkoiaaGreat
