/- Rows of fractions: Few, Large, and the reference's vector. -/
import Derived.Test.YtkcbhbddgmkoiaaGreatZl41
set_option maxRecDepth 100000
set_option maxHeartbeats 1000000
set_option linter.unusedSimpArgs false
set_option linter.unusedVariables false
namespace Go.Proofs.YtkcbhbddgmkoiaaGreat
open Go.RowKit
attribute [local go_sem] Zg
theorem Znw (na nb : Bool) (A B : Option Addr) (n c m d : Nat) (w : World) (hn : n <= maxLen) (hm : m <= maxLen) :
    Calls Tryz.prog 31 #[.agg #[.bool na,.slice A n c,.bool nb,.slice B m d]] w fun e w'=>e = .returned (.int .i64 (max n m : Nat)) /\ Below w.heap.size w w':=by
 unfold maxLen at hn hm;obtain ⟨W0,hW0,hB0,q0,s0⟩:=Zaq w 64 #[.bool na,.slice A n c,.bool nb,.slice B m d];obtain ⟨a0,a1,a2,a3,-⟩:=q0.four
 have hx : max (n : Int) (m : Int) = ((max n m : Nat) : Int):=by omega
 go_enter Tryz.func31,Tryz.ntmps31;go_wp2_with fail;go_ret;exact ⟨rfl,(by first | exact hB0 | exact Zi hB0 _)⟩
def FX.fine64 (e : FX) : Bool:=decide (e.few <= 64) && e.ok
def Zcz (es : List FX) : Bool:=es.all FX.fine64
def RX.long6 (r : RX) : Bool:=decide (6 < r.n)
def long6 (rs : List RX) : Bool:=decide (6 < rs.length) || rs.any RX.long6
def Zb4 (k : Nat) (r : RX) : Bool:=decide (r.n = k) && Zcz r.es
def Zef (Q : List (List Rat)) : Bool:=decide (∀ i,i < Q.length -> ∀ k,k < i -> Zj Q i k = Zj Q k i)
def posB (A : Nat -> Nat -> Rat) (n : Nat) : Bool:=decide (∀ t,t < n -> 0 < dQ A t)
theorem posB_iff {A : Nat -> Nat -> Rat} {n : Nat} : posB A n = true ↔ posP A n:=by unfold posB posP;rw [decide_eq_true_eq]
def Zbg (rs : List RX) : Int:=if long6 rs = true then 4 else if rs.length = 0 then 8 else if rs.all (Zb4 rs.length) = true then (if (Zef (qM rs) && posB (Zj (qM rs)) rs.length) = true then 0 else 8) else 8
section
variable {rs : List RX}
theorem Zdq (h : long6 rs = true) : Zbg rs = 4:=by unfold Zbg;rw [if_pos h]
theorem Zl4 (h : long6 rs = false) (h0 : rs.length = 0) : Zbg rs = 8:=by unfold Zbg;rw [if_neg (by simp [h]),if_pos h0]
theorem Zlb (h : long6 rs = false) (h0 : rs.length ≠ 0) {r : RX} (hr : r ∈ rs) (hb : Zb4 rs.length r = false) : Zbg rs = 8:=by
 unfold Zbg;rw [if_neg (by simp [h]),if_neg h0,if_neg];intro e;rw [List.all_eq_true] at e;have:=e r hr;rw [hb] at this;cases this
theorem Zm2 (h : Zbg rs = 0) : 0 < rs.length /\ rs.length <= 6 /\ (∀ r ∈ rs,r.n = rs.length /\ Zcz r.es = true) /\ Zef (qM rs) = true /\ posP (Zj (qM rs)) rs.length:=by
 unfold Zbg at h
 by_cases h1 : long6 rs = true
 ·rw [if_pos h1] at h;cases h
 rw [if_neg h1] at h
 by_cases h2 : rs.length = 0
 ·rw [if_pos h2] at h;cases h
 rw [if_neg h2] at h
 by_cases h3 : rs.all (Zb4 rs.length) = true
 ·rw [if_pos h3] at h
  by_cases h4 : (Zef (qM rs) && posB (Zj (qM rs)) rs.length) = true
  ·rw [Bool.and_eq_true] at h4
   have h5 : long6 rs = false:=by simpa using h1
   unfold long6 at h5;rw [Bool.or_eq_false_iff] at h5;have h6:=of_decide_eq_false h5.1;refine ⟨by omega,by omega,fun r hr=>?_,h4.1,posB_iff.1 h4.2⟩;rw [List.all_eq_true] at h3;have h7:=h3 r hr;unfold Zb4 at h7;rw [Bool.and_eq_true,decide_eq_true_eq] at h7;exact h7
  ·rw [if_neg h4] at h;cases h
 ·rw [if_neg h3] at h;cases h
theorem symB_iff {Q : List (List Rat)} : Zef Q = true ↔ ∀ i k,i < Q.length -> k < Q.length -> Zj Q i k = Zj Q k i:=by
 unfold Zef;rw [decide_eq_true_eq]
 constructor
 ·intro h i k hi hk
  rcases Nat.lt_trichotomy i k with h1 | h1 | h1
  ·exact (h k hk i h1).symm
  ·rw [h1]
  ·exact h i hi k h1
 ·intro h i hi k hk
  exact h i k hi (by omega)
theorem Zq7 {es : List FX} (h : Zcz es = true) : ∀ e ∈ es,e.ok = true:=fun e he=>by
 unfold Zcz at h;rw [List.all_eq_true] at h;have:=h e he;unfold FX.fine64 at this;rw [Bool.and_eq_true] at this;exact this.2
end
def fewM (k : Nat) (rs : List RX) : Prop:=∀ r ∈ rs,∀ e ∈ r.es,e.few <= k \/ 64 < e.few
section
variable {w : World} {A : Option Addr} {n c : Nat} {rs : List RX}
theorem Zqp {e : FX} (hin : e.in_ w) (hk : e.ok = true) {k : Nat} (hf : e.few <= k) : (e.q).num.natAbs <= pw k /\ (e.q).den <= pw k:=by
 have h1 : Fr w e.na e.A e.n e.c e.nb e.B e.m e.d e.q:=Zkk hin.1 hin.2 hk;have h2:=h1.1.lim.len;have h3:=h1.2.lim.len;unfold FX.few at hf
 constructor
 ·have h4:=Nat.le_of_lt (Zaw e.q.num.natAbs)
  rw [h2] at h4;exact Nat.le_trans h4 (Zej (by omega))
 ·have h4:=Nat.le_of_lt (Zaw ((e.q.den : Int).natAbs))
  rw [h3] at h4;simp only [Int.natAbs_natCast] at h4;exact Nat.le_trans h4 (Zej (by omega))
end
def IdxC (w : World) (b : Bool) (e : Ending) (w' : World) : Prop:=∃ i : Int,e = .returned (.int .i64 i) /\ decide (0 <= i) = b /\ Below w.heap.size w w'
theorem Zp3 (na nb : Bool) (A B : Option Addr) (n c m d : Nat) (la lb : List Nat) (w : World) (ha : Lim w A n c la) (hb : Lim w B m d lb) (b : Bool) (hx : (decide (max n m <= 64) && okF na la nb lb) = b) :
    Calls Tryz.prog 110 #[.agg #[.bool na,.slice A n c,.bool nb,.slice B m d]] w fun e w'=>e = .returned (.bool (!b)) /\ Below w.heap.size w w':=by
 obtain ⟨W0,hW0,hB0,q0,s0⟩:=Zaq w 64 #[.bool na,.slice A n c,.bool nb,.slice B m d];obtain ⟨a0,a1,a2,a3,-⟩:=q0.four;have ha0:=Nat.le_trans ha.2.1 ha.2.2.1;have hb0:=Nat.le_trans hb.2.1 hb.2.2.1;unfold maxLen at ha0 hb0;obtain ⟨y,hy⟩ : ∃ y,okF na la nb lb = y:=⟨_,rfl⟩;rw [hy] at hx;have hC:=Za (fun W1 (h1 : Below w.heap.size w W1)=>Zmo na nb A B n c m d la lb W1 (ha.below h1) (hb.below h1) y hy);clear ha hb hy
 have hmx : max (n : Int) (m : Int) = ((max n m : Nat) : Int):=by omega
 by_cases h8 : max n m <= 64
 ·have t1 : decide ((64 : Int) < ((max n m : Nat) : Int)) = false:=decide_eq_false (by omega)
  have t1' : decide (64 < max n m) = false:=decide_eq_false (by omega);have t1'' : decide ((64 : Int) < max (n : Int) (m : Int)) = false:=decide_eq_false (by omega);rw [decide_eq_true h8,Bool.true_and] at hx;subst hx
  cases y
  ·go_enter Tryz.func110,Tryz.ntmps110
   go_wp2_with fail;refine (hC.out _ (by first | exact hB0 | exact Zi hB0 _)).mono ?_;rintro e w1 ⟨rfl,hb1⟩;simp only [Zee,Bool.false_eq_true,if_false];go_wp2_with fail;go_ret;exact ⟨rfl,(by first | exact hB0.trans (hb1.mono hB0.size) | exact (Zi hB0 _).trans (hb1.mono hB0.size))⟩
  ·go_enter Tryz.func110,Tryz.ntmps110
   go_wp2_with fail;refine (hC.out _ (by first | exact hB0 | exact Zi hB0 _)).mono ?_;rintro e w1 ⟨rfl,hb1⟩;simp only [Zee,if_true];go_wp2_with fail;go_ret;exact ⟨rfl,(by first | exact hB0.trans (hb1.mono hB0.size) | exact (Zi hB0 _).trans (hb1.mono hB0.size))⟩
 ·have t1 : decide ((64 : Int) < ((max n m : Nat) : Int)) = true:=decide_eq_true (by omega)
  have t1' : decide (64 < max n m) = true:=decide_eq_true (by omega);have t1'' : decide ((64 : Int) < max (n : Int) (m : Int)) = true:=decide_eq_true (by omega);rw [decide_eq_false h8,Bool.false_and] at hx;subst hx;go_enter Tryz.func110,Tryz.ntmps110;go_wp2_with fail;go_ret;exact ⟨rfl,(by first | exact hB0 | exact Zi hB0 _)⟩
theorem Zpy (A : Option Addr) (n c : Nat) (es : List FX) (w : World) (h : FXL w A n c es) (b : Bool) (hb : Zcz es = b) :
    Calls Tryz.prog 135 #[.slice A n c,.func (.func 110) #[] #[]] w (IdxC w (!b)):=by
 have hl:=h.1;have hnc:=h.2.1;have hcm:=h.2.2.1;unfold maxLen at hcm;replace hl:=Za hl;replace hb:=Za hb;replace h:=Za h;go_enter Tryz.func135,Tryz.ntmps135;go_wp2_with fail
 go_loopw [8] (fun iv wr=>∃ i : Nat,i <= n /\ iv = .int .i64 i /\ Hid (∀ j e,j < i -> es[j]? = some e -> e.fine64 = true) /\ Below w.heap.size w wr) (fun iv _=>n - (intOf iv).toNat)
 case atStart=>exact ⟨0,Nat.zero_le _,rfl,Za (fun j e hj=>by omega),Below.refl _ _⟩
 case round =>
  obtain ⟨i,hik,rfl,hall,hBp⟩:=hrel
  by_cases hin : i < n
  case neg =>
   obtain rfl : n = i:=by omega
   have htk : decide ((n : Int) < (n : Int)) = false:=by simp
   obtain rfl : b = true:=by
    rw [<- hb.out];unfold Zcz;rw [List.all_eq_true];intro e he;obtain ⟨j,hj,hje⟩:=List.getElem_of_mem he;exact hall.out j e (by rw [hl.out] at hj;exact hj) (by rw [List.getElem?_eq_getElem hj,hje])
   go_wp2_with fail;go_ret;exact ⟨-1,rfl,rfl,hBp⟩
  have htk : decide ((i : Int) < (n : Int)) = true:=decide_eq_true (by omega);obtain ⟨g,o,e,rfl,he,hc,hLa,hLb⟩:=(h.out.below hBp).at_ hin;obtain ⟨c0,c1,c2,c3⟩:=hc;obtain ⟨x,hx⟩ : ∃ x,e.fine64 = x:=⟨_,rfl⟩;have hC:=Za (fun W1 (hb : Below wr.heap.size wr W1)=>Zp3 e.na e.nb e.A e.B e.n e.c e.m e.d e.la e.lb W1 (hLa.below hb) (hLb.below hb) x hx);clear hLa hLb
  cases x
  ·obtain rfl : b = false:=by
     rw [<- hb.out];unfold Zcz;rw [List.all_eq_false];exact ⟨e,List.mem_of_getElem? he,by rw [hx];decide⟩
   replace he:=Za he;clear hx;go_wp2_with fail;refine (hC.out _ (by first | exact Below.refl _ _ | exact Zi (Below.refl _ _) _)).mono ?_;rintro e' w1 ⟨rfl,hb1⟩;go_wp2_with fail;go_ret;exact ⟨i,rfl,by simp,(by first | exact hBp.trans (hb1.mono hBp.size) | exact (Zi hBp _).trans (hb1.mono hBp.size))⟩
  ·have hall2 : Hid (∀ j e,j < i + 1 -> es[j]? = some e -> e.fine64 = true):=Za (fun j e' hj he'=>by
     rcases Nat.lt_or_ge j i with h' | h'
     ·exact hall.out j e' h' he'
     ·obtain rfl : j = i:=by omega
      rw [he] at he'
      cases he'
      exact hx)
   replace he:=Za he;clear hx;go_wp2_with fail;refine (hC.out _ (by first | exact Below.refl _ _ | exact Zi (Below.refl _ _) _)).mono ?_;rintro e' w1 ⟨rfl,hb1⟩;go_wp2_with fail
   go_roundw
   case rel=>exact ⟨i + 1,by omega,by go_num,hall2,(by first | exact hBp.trans (hb1.mono hBp.size) | exact (Zi hBp _).trans (hb1.mono hBp.size))⟩
   case measure=>simp [intOf];omega
theorem Zo6 (A : Option Addr) (n c : Nat) (es : List FX) (w : World) (h : FXL w A n c es) (b : Bool) (hb : Zcz es = b) :
    Calls Tryz.prog 109 #[.slice A n c,.func (.func 110) #[] #[]] w fun e w'=>e = .returned (.bool (!b)) /\ Below w.heap.size w w':=by
 go_enter Tryz.func109,Tryz.ntmps109;go_wp2_with fail;refine (Zpy A n c es w h b hb).mono ?_;rintro e w1 ⟨i,rfl,hi,hb1⟩;replace hi:=Za hi;go_wp2_with fail;go_ret;exact ⟨Zlz hi.out,hb1⟩
theorem Zln (A : Option Addr) (n c : Nat) (es : List FX) (w : World) (h : FXL w A n c es) (b : Bool) (hb : Zcz es = b) :
    Calls Tryz.prog 68 #[.slice A n c] w fun e w'=>e = .returned (.bool b) /\ Below w.heap.size w w':=by
 go_enter Tryz.func68,Tryz.ntmps68;go_wp2_with fail;refine (Zo6 A n c es w h b hb).mono ?_;rintro e w1 ⟨rfl,hb1⟩;go_wp2_with fail;go_ret;exact ⟨by simp,hb1⟩
theorem Zon (A : Option Addr) (n c : Nat) (w : World) (hn : n <= maxLen) :
    Calls Tryz.prog 66 #[.slice A n c] w fun e w'=>e = .returned (.bool (decide (6 < n))) /\ Below w.heap.size w w':=by
 unfold maxLen at hn;have hd : decide ((6 : Int) < (n : Int)) = decide (6 < n):=decide_eq_decide.2 (by omega);go_enter Tryz.func66,Tryz.ntmps66;go_wp2_with fail;go_ret;exact ⟨by first | rfl | simp [hd],by first | exact Below.refl _ _ | exact Zi (Below.refl _ _) _⟩
theorem FXL.nlenC {w : World} {A : Option Addr} {n c : Nat} {es : List FX} (h : FXL w A n c es) : n <= maxLen:=Nat.le_trans h.2.1 h.2.2.1
theorem Zo4 (A : Option Addr) (n c : Nat) (rs : List RX) (w : World) (h : MXL w A n c rs) (b : Bool) (hb : rs.any RX.long6 = b) :
    Calls Tryz.prog 108 #[.slice A n c,.func (.func 66) #[] #[]] w (IdxC w b):=by
 have hl:=h.1;have hnc:=h.2.1;have hcm:=h.2.2.1;unfold maxLen at hcm;replace hl:=Za hl;replace hb:=Za hb;replace h:=Za h;go_enter Tryz.func108,Tryz.ntmps108;go_wp2_with fail
 go_loopw [8] (fun iv wr=>∃ i : Nat,i <= n /\ iv = .int .i64 i /\ Hid (∀ j e,j < i -> rs[j]? = some e -> e.long6 = false) /\ Below w.heap.size w wr) (fun iv _=>n - (intOf iv).toNat)
 case atStart=>exact ⟨0,Nat.zero_le _,rfl,Za (fun j e hj=>by omega),Below.refl _ _⟩
 case round =>
  obtain ⟨i,hik,rfl,hall,hBp⟩:=hrel
  by_cases hin : i < n
  case neg =>
   obtain rfl : n = i:=by omega
   have htk : decide ((n : Int) < (n : Int)) = false:=by simp
   obtain rfl : b = false:=by
    rw [<- hb.out,List.any_eq_false];intro e he;obtain ⟨j,hj,hje⟩:=List.getElem_of_mem he;have:=hall.out j e (by rw [hl.out] at hj;exact hj) (by rw [List.getElem?_eq_getElem hj,hje]);rw [this];decide
   go_wp2_with fail;go_ret;exact ⟨-1,rfl,rfl,hBp⟩
  have htk : decide ((i : Int) < (n : Int)) = true:=decide_eq_true (by omega);obtain ⟨g,o,r,rfl,he,c0,hL⟩:=(h.out.below hBp).at_ hin;have hC:=Za (fun W1=>Zon r.A r.n r.c W1 hL.nlenC);clear hL
  by_cases hx : 6 < r.n
  ·obtain rfl : b = true:=by
     rw [<- hb.out,List.any_eq_true];exact ⟨r,List.mem_of_getElem? he,by unfold RX.long6;simpa using hx⟩
   rw [decide_eq_true hx] at hC;replace he:=Za he;go_wp2_with fail;refine (hC.out _).mono ?_;rintro e' w1 ⟨rfl,hb1⟩;go_wp2_with fail;go_ret;exact ⟨i,rfl,by simp,(by first | exact hBp.trans (hb1.mono hBp.size) | exact (Zi hBp _).trans (hb1.mono hBp.size))⟩
  ·have hall2 : Hid (∀ j e,j < i + 1 -> rs[j]? = some e -> e.long6 = false):=Za (fun j e' hj he'=>by
     rcases Nat.lt_or_ge j i with h' | h'
     ·exact hall.out j e' h' he'
     ·obtain rfl : j = i:=by omega
      rw [he] at he'
      cases he'
      unfold RX.long6;simpa using hx)
   rw [decide_eq_false hx] at hC;replace he:=Za he;go_wp2_with fail;refine (hC.out _).mono ?_;rintro e' w1 ⟨rfl,hb1⟩;go_wp2_with fail
   go_roundw
   case rel=>exact ⟨i + 1,by omega,by go_num,hall2,(by first | exact hBp.trans (hb1.mono hBp.size) | exact (Zi hBp _).trans (hb1.mono hBp.size))⟩
   case measure=>simp [intOf];omega
theorem Zno (A : Option Addr) (n c : Nat) (rs : List RX) (w : World) (h : MXL w A n c rs) (b : Bool) (hb : rs.any RX.long6 = b) :
    Calls Tryz.prog 67 #[.slice A n c,.func (.func 66) #[] #[]] w fun e w'=>e = .returned (.bool b) /\ Below w.heap.size w w':=by
 go_enter Tryz.func67,Tryz.ntmps67;go_wp2_with fail;refine (Zo4 A n c rs w h b hb).mono ?_;rintro e w1 ⟨i,rfl,hi,hb1⟩;replace hi:=Za hi;go_wp2_with fail;go_ret;exact ⟨Zlz hi.out,hb1⟩
end Go.Proofs.YtkcbhbddgmkoiaaGreat
