/- Rows of fractions: Few, Large, and the reference's vector. -/
import Derived.Test.YtigdclhagmnopaaGreatZp19
set_option maxRecDepth 100000
set_option maxHeartbeats 1000000
set_option linter.unusedSimpArgs false
set_option linter.unusedVariables false
namespace Go.Proofs.YtigdclhagmnopaaGreat
open Go.RowKit
attribute [local go_sem] Zh
def FX.fine (e : FX) : Bool:=decide (e.few <= 8) && e.ok
def Zbs (es : List FX) : Bool:=es.all FX.fine
def IdxB (w : World) (b : Bool) (e : Ending) (w' : World) : Prop:=∃ i : Int,e = .returned (.int .i64 i) /\ decide (0 <= i) = b /\ Below w.heap.size w w'
theorem Zum (na nb : Bool) (A B : Option Addr) (n c m d : Nat) (la lb : List Nat) (w : World) (ha : Lim w A n c la) (hb : Lim w B m d lb) (b : Bool) (hx : (decide (max n m <= 8) && okF na la nb lb) = b) :
    Calls Tryz.prog 131 #[.agg #[.bool na,.slice A n c,.bool nb,.slice B m d]] w fun e w'=>e = .returned (.bool (!b)) /\ Below w.heap.size w w':=by
 obtain ⟨W0,hW0,hB0,q0,s0⟩:=Zbp w 45 #[.bool na,.slice A n c,.bool nb,.slice B m d];obtain ⟨a0,a1,a2,a3,-⟩:=q0.four;have ha0:=Nat.le_trans ha.2.1 ha.2.2.1;have hb0:=Nat.le_trans hb.2.1 hb.2.2.1;unfold maxLen at ha0 hb0;obtain ⟨y,hy⟩ : ∃ y,okF na la nb lb = y:=⟨_,rfl⟩;rw [hy] at hx;have hC:=Za (fun W1 (h1 : Below w.heap.size w W1)=>Zpt na nb A B n c m d la lb W1 (ha.below h1) (hb.below h1) y hy);clear ha hb hy
 have hmx : max (n : Int) (m : Int) = ((max n m : Nat) : Int):=by omega
 by_cases h8 : max n m <= 8
 ·have t1 : decide ((8 : Int) < ((max n m : Nat) : Int)) = false:=decide_eq_false (by omega)
  have t1' : decide (8 < max n m) = false:=decide_eq_false (by omega);have t1'' : decide ((8 : Int) < max (n : Int) (m : Int)) = false:=decide_eq_false (by omega);rw [decide_eq_true h8,Bool.true_and] at hx;subst hx
  cases y
  ·go_enter Tryz.func131,Tryz.ntmps131
   go_wp2_with fail;refine (hC.out _ (by first | exact hB0 | exact Zf hB0 _)).mono ?_;rintro e w1 ⟨rfl,hb1⟩;simp only [Ziu,Bool.false_eq_true,if_false];go_wp2_with fail;go_ret;exact ⟨rfl,(by first | exact hB0.trans (hb1.mono hB0.size) | exact (Zf hB0 _).trans (hb1.mono hB0.size))⟩
  ·go_enter Tryz.func131,Tryz.ntmps131
   go_wp2_with fail;refine (hC.out _ (by first | exact hB0 | exact Zf hB0 _)).mono ?_;rintro e w1 ⟨rfl,hb1⟩;simp only [Ziu,if_true];go_wp2_with fail;go_ret;exact ⟨rfl,(by first | exact hB0.trans (hb1.mono hB0.size) | exact (Zf hB0 _).trans (hb1.mono hB0.size))⟩
 ·have t1 : decide ((8 : Int) < ((max n m : Nat) : Int)) = true:=decide_eq_true (by omega)
  have t1' : decide (8 < max n m) = true:=decide_eq_true (by omega);have t1'' : decide ((8 : Int) < max (n : Int) (m : Int)) = true:=decide_eq_true (by omega);rw [decide_eq_false h8,Bool.false_and] at hx;subst hx;go_enter Tryz.func131,Tryz.ntmps131;go_wp2_with fail;go_ret;exact ⟨rfl,(by first | exact hB0 | exact Zf hB0 _)⟩
theorem Zts (A : Option Addr) (n c : Nat) (es : List FX) (w : World) (h : FXL w A n c es) (b : Bool) (hb : Zbs es = b) :
    Calls Tryz.prog 160 #[.slice A n c,.func (.func 131) #[] #[]] w (IdxB w (!b)):=by
 have hl:=h.1;have hnc:=h.2.1;have hcm:=h.2.2.1;unfold maxLen at hcm;replace hl:=Za hl;replace hb:=Za hb;replace h:=Za h;go_enter Tryz.func160,Tryz.ntmps160;go_wp2_with fail
 go_loopw [8] (fun iv wr=>∃ i : Nat,i <= n /\ iv = .int .i64 i /\ Hid (∀ j e,j < i -> es[j]? = some e -> e.fine = true) /\ Below w.heap.size w wr) (fun iv _=>n - (intOf iv).toNat)
 case atStart=>exact ⟨0,Nat.zero_le _,rfl,Za (fun j e hj=>by omega),Below.refl _ _⟩
 case round =>
  obtain ⟨i,hik,rfl,hall,hBp⟩:=hrel
  by_cases hin : i < n
  case neg =>
   obtain rfl : n = i:=by omega
   have htk : decide ((n : Int) < (n : Int)) = false:=by simp
   obtain rfl : b = true:=by
    rw [<- hb.out];unfold Zbs;rw [List.all_eq_true];intro e he;obtain ⟨j,hj,hje⟩:=List.getElem_of_mem he;exact hall.out j e (by rw [hl.out] at hj;exact hj) (by rw [List.getElem?_eq_getElem hj,hje])
   go_wp2_with fail;go_ret;exact ⟨-1,rfl,rfl,hBp⟩
  have htk : decide ((i : Int) < (n : Int)) = true:=decide_eq_true (by omega);obtain ⟨g,o,e,rfl,he,hc,hLa,hLb⟩:=(h.out.below hBp).at_ hin;obtain ⟨c0,c1,c2,c3⟩:=hc;obtain ⟨x,hx⟩ : ∃ x,e.fine = x:=⟨_,rfl⟩;have hC:=Za (fun W1 (hb : Below wr.heap.size wr W1)=>Zum e.na e.nb e.A e.B e.n e.c e.m e.d e.la e.lb W1 (hLa.below hb) (hLb.below hb) x hx);clear hLa hLb
  cases x
  ·obtain rfl : b = false:=by
     rw [<- hb.out];unfold Zbs;rw [List.all_eq_false];exact ⟨e,List.mem_of_getElem? he,by rw [hx];decide⟩
   replace he:=Za he;clear hx;go_wp2_with fail;refine (hC.out _ (by first | exact Below.refl _ _ | exact Zf (Below.refl _ _) _)).mono ?_;rintro e' w1 ⟨rfl,hb1⟩;go_wp2_with fail;go_ret;exact ⟨i,rfl,by simp,(by first | exact hBp.trans (hb1.mono hBp.size) | exact (Zf hBp _).trans (hb1.mono hBp.size))⟩
  ·have hall2 : Hid (∀ j e,j < i + 1 -> es[j]? = some e -> e.fine = true):=Za (fun j e' hj he'=>by
     rcases Nat.lt_or_ge j i with h' | h'
     ·exact hall.out j e' h' he'
     ·obtain rfl : j = i:=by omega
      rw [he] at he'
      cases he'
      exact hx)
   replace he:=Za he;clear hx;go_wp2_with fail;refine (hC.out _ (by first | exact Below.refl _ _ | exact Zf (Below.refl _ _) _)).mono ?_;rintro e' w1 ⟨rfl,hb1⟩;go_wp2_with fail
   go_roundw
   case rel=>exact ⟨i + 1,by omega,by go_num,hall2,(by first | exact hBp.trans (hb1.mono hBp.size) | exact (Zf hBp _).trans (hb1.mono hBp.size))⟩
   case measure=>simp [intOf];omega
theorem Zsb (A : Option Addr) (n c : Nat) (es : List FX) (w : World) (h : FXL w A n c es) (b : Bool) (hb : Zbs es = b) :
    Calls Tryz.prog 132 #[.slice A n c,.func (.func 131) #[] #[]] w fun e w'=>e = .returned (.bool (!b)) /\ Below w.heap.size w w':=by
 go_enter Tryz.func132,Tryz.ntmps132;go_wp2_with fail;refine (Zts A n c es w h b hb).mono ?_;rintro e w1 ⟨i,rfl,hi,hb1⟩;replace hi:=Za hi;go_wp2_with fail;go_ret;exact ⟨Zid hi.out,hb1⟩
theorem Zgc (A : Option Addr) (n c : Nat) (es : List FX) (w : World) (h : FXL w A n c es) (b : Bool) (hb : Zbs es = b) :
    Calls Tryz.prog 75 #[.slice A n c] w fun e w'=>e = .returned (.bool b) /\ Below w.heap.size w w':=by
 go_enter Tryz.func75,Tryz.ntmps75;go_wp2_with fail;refine (Zsb A n c es w h b hb).mono ?_;rintro e w1 ⟨rfl,hb1⟩;go_wp2_with fail;go_ret;exact ⟨by simp,hb1⟩
def RX.long (r : RX) : Bool:=decide (12 < r.n)
theorem Zru (A : Option Addr) (n c : Nat) (w : World) (hn : n <= maxLen) :
    Calls Tryz.prog 82 #[.slice A n c] w fun e w'=>e = .returned (.bool (decide (12 < n))) /\ Below w.heap.size w w':=by
 unfold maxLen at hn;have hd : decide ((12 : Int) < (n : Int)) = decide (12 < n):=decide_eq_decide.2 (by omega);go_enter Tryz.func82,Tryz.ntmps82;go_wp2_with fail;go_ret;exact ⟨by first | rfl | simp [hd],by first | exact Below.refl _ _ | exact Zf (Below.refl _ _) _⟩
theorem FXL.nlen {w : World} {A : Option Addr} {n c : Nat} {es : List FX} (h : FXL w A n c es) : n <= maxLen:=Nat.le_trans h.2.1 h.2.2.1
theorem Zrs (A : Option Addr) (n c : Nat) (rs : List RX) (w : World) (h : MXL w A n c rs) (b : Bool) (hb : rs.any RX.long = b) :
    Calls Tryz.prog 133 #[.slice A n c,.func (.func 82) #[] #[]] w (IdxB w b):=by
 have hl:=h.1;have hnc:=h.2.1;have hcm:=h.2.2.1;unfold maxLen at hcm;replace hl:=Za hl;replace hb:=Za hb;replace h:=Za h;go_enter Tryz.func133,Tryz.ntmps133;go_wp2_with fail
 go_loopw [8] (fun iv wr=>∃ i : Nat,i <= n /\ iv = .int .i64 i /\ Hid (∀ j e,j < i -> rs[j]? = some e -> e.long = false) /\ Below w.heap.size w wr) (fun iv _=>n - (intOf iv).toNat)
 case atStart=>exact ⟨0,Nat.zero_le _,rfl,Za (fun j e hj=>by omega),Below.refl _ _⟩
 case round =>
  obtain ⟨i,hik,rfl,hall,hBp⟩:=hrel
  by_cases hin : i < n
  case neg =>
   obtain rfl : n = i:=by omega
   have htk : decide ((n : Int) < (n : Int)) = false:=by simp
   obtain rfl : b = false:=by
    rw [<- hb.out,List.any_eq_false];intro e he;obtain ⟨j,hj,hje⟩:=List.getElem_of_mem he;have:=hall.out j e (by rw [hl.out] at hj;exact hj) (by rw [List.getElem?_eq_getElem hj,hje]);rw [this];decide
   go_wp2_with fail;go_ret;exact ⟨-1,rfl,rfl,hBp⟩
  have htk : decide ((i : Int) < (n : Int)) = true:=decide_eq_true (by omega);obtain ⟨g,o,r,rfl,he,c0,hL⟩:=(h.out.below hBp).at_ hin;have hC:=Za (fun W1=>Zru r.A r.n r.c W1 hL.nlen);clear hL
  by_cases hx : 12 < r.n
  ·obtain rfl : b = true:=by
     rw [<- hb.out,List.any_eq_true];exact ⟨r,List.mem_of_getElem? he,by unfold RX.long;simpa using hx⟩
   rw [decide_eq_true hx] at hC;replace he:=Za he;go_wp2_with fail;refine (hC.out _).mono ?_;rintro e' w1 ⟨rfl,hb1⟩;go_wp2_with fail;go_ret;exact ⟨i,rfl,by simp,(by first | exact hBp.trans (hb1.mono hBp.size) | exact (Zf hBp _).trans (hb1.mono hBp.size))⟩
  ·have hall2 : Hid (∀ j e,j < i + 1 -> rs[j]? = some e -> e.long = false):=Za (fun j e' hj he'=>by
     rcases Nat.lt_or_ge j i with h' | h'
     ·exact hall.out j e' h' he'
     ·obtain rfl : j = i:=by omega
      rw [he] at he'
      cases he'
      unfold RX.long;simpa using hx)
   rw [decide_eq_false hx] at hC;replace he:=Za he;go_wp2_with fail;refine (hC.out _).mono ?_;rintro e' w1 ⟨rfl,hb1⟩;go_wp2_with fail
   go_roundw
   case rel=>exact ⟨i + 1,by omega,by go_num,hall2,(by first | exact hBp.trans (hb1.mono hBp.size) | exact (Zf hBp _).trans (hb1.mono hBp.size))⟩
   case measure=>simp [intOf];omega
theorem Zp7 (A : Option Addr) (n c : Nat) (rs : List RX) (w : World) (h : MXL w A n c rs) (b : Bool) (hb : rs.any RX.long = b) :
    Calls Tryz.prog 81 #[.slice A n c,.func (.func 82) #[] #[]] w fun e w'=>e = .returned (.bool b) /\ Below w.heap.size w w':=by
 go_enter Tryz.func81,Tryz.ntmps81;go_wp2_with fail;refine (Zrs A n c rs w h b hb).mono ?_;rintro e w1 ⟨i,rfl,hi,hb1⟩;replace hi:=Za hi;go_wp2_with fail;go_ret;exact ⟨Zid hi.out,hb1⟩
end Go.Proofs.YtigdclhagmnopaaGreat
