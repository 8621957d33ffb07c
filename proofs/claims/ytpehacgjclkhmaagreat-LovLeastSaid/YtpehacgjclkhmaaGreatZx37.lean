/- Rows of fractions: Few, Large, and the reference's vector. -/
import Derived.Test.YtpehacgjclkhmaaGreatZx36
set_option maxRecDepth 100000
set_option maxHeartbeats 1000000
set_option linter.unusedSimpArgs false
set_option linter.unusedVariables false
namespace Go.Proofs.YtpehacgjclkhmaaGreat
open Go.RowKit
attribute [local go_sem] Zg
theorem Zls (na nb : Bool) (A B : Option Addr) (n c m d : Nat) (w : World) (hn : n <= maxLen) (hm : m <= maxLen) :
    Calls Tryz.prog 30 #[.agg #[.bool na,.slice A n c,.bool nb,.slice B m d]] w fun e w'=>e = .returned (.int .i64 (max n m : Nat)) /\ Below w.heap.size w w':=by
 unfold maxLen at hn hm;obtain ⟨W0,hW0,hB0,q0,s0⟩:=Zai w 29 #[.bool na,.slice A n c,.bool nb,.slice B m d];obtain ⟨a0,a1,a2,a3,-⟩:=q0.four
 have hx : max (n : Int) (m : Int) = ((max n m : Nat) : Int):=by omega
 go_enter Tryz.func30,Tryz.ntmps30;go_wp2_with fail;go_ret;exact ⟨rfl,(by first | exact hB0 | exact Zj hB0 _)⟩
def FX.fine64 (e : FX) : Bool:=decide (e.few <= 64) && e.ok
def Zb1 (es : List FX) : Bool:=es.all FX.fine64
def RX.long6 (r : RX) : Bool:=decide (6 < r.n)
def long6 (rs : List RX) : Bool:=decide (6 < rs.length) || rs.any RX.long6
def Zb2 (k : Nat) (r : RX) : Bool:=decide (r.n = k) && Zb1 r.es
def Zeu (Q : List (List Rat)) : Bool:=decide (∀ i,i < Q.length -> ∀ k,k < i -> Zi Q i k = Zi Q k i)
def Zog (A : Nat -> Nat -> Rat) (n : Nat) : Bool:=decide (∀ t,t < n -> 0 < dQ A t)
theorem posB_iff {A : Nat -> Nat -> Rat} {n : Nat} : Zog A n = true ↔ posP A n:=by unfold Zog posP;rw [decide_eq_true_eq]
def Zax (rs : List RX) : Int:=if long6 rs = true then 4 else if rs.length = 0 then 8 else if rs.all (Zb2 rs.length) = true then (if (Zeu (qM rs) && Zog (Zi (qM rs)) rs.length) = true then 0 else 8) else 8
section
variable {rs : List RX}
theorem Zeb (h : long6 rs = true) : Zax rs = 4:=by unfold Zax;rw [if_pos h]
theorem Zn1 (h : long6 rs = false) (h0 : rs.length = 0) : Zax rs = 8:=by unfold Zax;rw [if_neg (by simp [h]),if_pos h0]
theorem Zm1 (h : long6 rs = false) (h0 : rs.length ≠ 0) {r : RX} (hr : r ∈ rs) (hb : Zb2 rs.length r = false) : Zax rs = 8:=by
 unfold Zax;rw [if_neg (by simp [h]),if_neg h0,if_neg];intro e;rw [List.all_eq_true] at e;have:=e r hr;rw [hb] at this;cases this
theorem Zpf (h : Zax rs = 0) : 0 < rs.length /\ rs.length <= 6 /\ (∀ r ∈ rs,r.n = rs.length /\ Zb1 r.es = true) /\ Zeu (qM rs) = true /\ posP (Zi (qM rs)) rs.length:=by
 unfold Zax at h
 by_cases h1 : long6 rs = true
 ·rw [if_pos h1] at h;cases h
 rw [if_neg h1] at h
 by_cases h2 : rs.length = 0
 ·rw [if_pos h2] at h;cases h
 rw [if_neg h2] at h
 by_cases h3 : rs.all (Zb2 rs.length) = true
 ·rw [if_pos h3] at h
  by_cases h4 : (Zeu (qM rs) && Zog (Zi (qM rs)) rs.length) = true
  ·rw [Bool.and_eq_true] at h4
   have h5 : long6 rs = false:=by simpa using h1
   unfold long6 at h5;rw [Bool.or_eq_false_iff] at h5;have h6:=of_decide_eq_false h5.1;refine ⟨by omega,by omega,fun r hr=>?_,h4.1,posB_iff.1 h4.2⟩;rw [List.all_eq_true] at h3;have h7:=h3 r hr;unfold Zb2 at h7;rw [Bool.and_eq_true,decide_eq_true_eq] at h7;exact h7
  ·rw [if_neg h4] at h;cases h
 ·rw [if_neg h3] at h;cases h
theorem symB_iff {Q : List (List Rat)} : Zeu Q = true ↔ ∀ i k,i < Q.length -> k < Q.length -> Zi Q i k = Zi Q k i:=by
 unfold Zeu;rw [decide_eq_true_eq]
 constructor
 ·intro h i k hi hk
  rcases Nat.lt_trichotomy i k with h1 | h1 | h1
  ·exact (h k hk i h1).symm
  ·rw [h1]
  ·exact h i hi k h1
 ·intro h i hi k hk
  exact h i k hi (by omega)
theorem Zol {es : List FX} (h : Zb1 es = true) : ∀ e ∈ es,e.ok = true:=fun e he=>by
 unfold Zb1 at h;rw [List.all_eq_true] at h;have:=h e he;unfold FX.fine64 at this;rw [Bool.and_eq_true] at this;exact this.2
end
def fewM (k : Nat) (rs : List RX) : Prop:=∀ r ∈ rs,∀ e ∈ r.es,e.few <= k \/ 64 < e.few
section
variable {w : World} {A : Option Addr} {n c : Nat} {rs : List RX}
theorem Zt2 {e : FX} (hin : e.in_ w) (hk : e.ok = true) {k : Nat} (hf : e.few <= k) : (e.q).num.natAbs <= pw k /\ (e.q).den <= pw k:=by
 have h1 : Fr w e.na e.A e.n e.c e.nb e.B e.m e.d e.q:=Zl2 hin.1 hin.2 hk;have h2:=h1.1.lim.len;have h3:=h1.2.lim.len;unfold FX.few at hf
 constructor
 ·have h4:=Nat.le_of_lt (Za8 e.q.num.natAbs)
  rw [h2] at h4;exact Nat.le_trans h4 (Zdv (by omega))
 ·have h4:=Nat.le_of_lt (Za8 ((e.q.den : Int).natAbs))
  rw [h3] at h4;simp only [Int.natAbs_natCast] at h4;exact Nat.le_trans h4 (Zdv (by omega))
end
def IdxC (w : World) (b : Bool) (e : Ending) (w' : World) : Prop:=∃ i : Int,e = .returned (.int .i64 i) /\ decide (0 <= i) = b /\ Below w.heap.size w w'
theorem Zta (na nb : Bool) (A B : Option Addr) (n c m d : Nat) (la lb : List Nat) (w : World) (ha : Lim w A n c la) (hb : Lim w B m d lb) (b : Bool) (hx : (decide (max n m <= 64) && okF na la nb lb) = b) :
    Calls Tryz.prog 91 #[.agg #[.bool na,.slice A n c,.bool nb,.slice B m d]] w fun e w'=>e = .returned (.bool (!b)) /\ Below w.heap.size w w':=by
 obtain ⟨W0,hW0,hB0,q0,s0⟩:=Zai w 29 #[.bool na,.slice A n c,.bool nb,.slice B m d];obtain ⟨a0,a1,a2,a3,-⟩:=q0.four;have ha0:=Nat.le_trans ha.2.1 ha.2.2.1;have hb0:=Nat.le_trans hb.2.1 hb.2.2.1;unfold maxLen at ha0 hb0;obtain ⟨y,hy⟩ : ∃ y,okF na la nb lb = y:=⟨_,rfl⟩;rw [hy] at hx;have hC:=Zb (fun W1 (h1 : Below w.heap.size w W1)=>Zox na nb A B n c m d la lb W1 (ha.below h1) (hb.below h1) y hy);clear ha hb hy
 have hmx : max (n : Int) (m : Int) = ((max n m : Nat) : Int):=by omega
 by_cases h8 : max n m <= 64
 ·have t1 : decide ((64 : Int) < ((max n m : Nat) : Int)) = false:=decide_eq_false (by omega)
  have t1' : decide (64 < max n m) = false:=decide_eq_false (by omega);have t1'' : decide ((64 : Int) < max (n : Int) (m : Int)) = false:=decide_eq_false (by omega);rw [decide_eq_true h8,Bool.true_and] at hx;subst hx
  cases y
  ·go_enter Tryz.func91,Tryz.ntmps91
   go_wp2_with fail;refine (hC.out _ (by first | exact hB0 | exact Zj hB0 _)).mono ?_;rintro e w1 ⟨rfl,hb1⟩;simp only [Zez,Bool.false_eq_true,if_false];go_wp2_with fail;go_ret;exact ⟨rfl,(by first | exact hB0.trans (hb1.mono hB0.size) | exact (Zj hB0 _).trans (hb1.mono hB0.size))⟩
  ·go_enter Tryz.func91,Tryz.ntmps91
   go_wp2_with fail;refine (hC.out _ (by first | exact hB0 | exact Zj hB0 _)).mono ?_;rintro e w1 ⟨rfl,hb1⟩;simp only [Zez,if_true];go_wp2_with fail;go_ret;exact ⟨rfl,(by first | exact hB0.trans (hb1.mono hB0.size) | exact (Zj hB0 _).trans (hb1.mono hB0.size))⟩
 ·have t1 : decide ((64 : Int) < ((max n m : Nat) : Int)) = true:=decide_eq_true (by omega)
  have t1' : decide (64 < max n m) = true:=decide_eq_true (by omega);have t1'' : decide ((64 : Int) < max (n : Int) (m : Int)) = true:=decide_eq_true (by omega);rw [decide_eq_false h8,Bool.false_and] at hx;subst hx;go_enter Tryz.func91,Tryz.ntmps91;go_wp2_with fail;go_ret;exact ⟨rfl,(by first | exact hB0 | exact Zj hB0 _)⟩
theorem Zsz (A : Option Addr) (n c : Nat) (es : List FX) (w : World) (h : FXL w A n c es) (b : Bool) (hb : Zb1 es = b) :
    Calls Tryz.prog 142 #[.slice A n c,.func (.func 91) #[] #[]] w (IdxC w (!b)):=by
 have hl:=h.1;have hnc:=h.2.1;have hcm:=h.2.2.1;unfold maxLen at hcm;replace hl:=Zb hl;replace hb:=Zb hb;replace h:=Zb h;go_enter Tryz.func142,Tryz.ntmps142;go_wp2_with fail
 go_loopw [8] (fun iv wr=>∃ i : Nat,i <= n /\ iv = .int .i64 i /\ Hid (∀ j e,j < i -> es[j]? = some e -> e.fine64 = true) /\ Below w.heap.size w wr) (fun iv _=>n - (intOf iv).toNat)
 case atStart=>exact ⟨0,Nat.zero_le _,rfl,Zb (fun j e hj=>by omega),Below.refl _ _⟩
 case round =>
  obtain ⟨i,hik,rfl,hall,hBp⟩:=hrel
  by_cases hin : i < n
  case neg =>
   obtain rfl : n = i:=by omega
   have htk : decide ((n : Int) < (n : Int)) = false:=by simp
   obtain rfl : b = true:=by
    rw [<- hb.out];unfold Zb1;rw [List.all_eq_true];intro e he;obtain ⟨j,hj,hje⟩:=List.getElem_of_mem he;exact hall.out j e (by rw [hl.out] at hj;exact hj) (by rw [List.getElem?_eq_getElem hj,hje])
   go_wp2_with fail;go_ret;exact ⟨-1,rfl,rfl,hBp⟩
  have htk : decide ((i : Int) < (n : Int)) = true:=decide_eq_true (by omega);obtain ⟨g,o,e,rfl,he,hc,hLa,hLb⟩:=(h.out.below hBp).at_ hin;obtain ⟨c0,c1,c2,c3⟩:=hc;obtain ⟨x,hx⟩ : ∃ x,e.fine64 = x:=⟨_,rfl⟩;have hC:=Zb (fun W1 (hb : Below wr.heap.size wr W1)=>Zta e.na e.nb e.A e.B e.n e.c e.m e.d e.la e.lb W1 (hLa.below hb) (hLb.below hb) x hx);clear hLa hLb
  cases x
  ·obtain rfl : b = false:=by
     rw [<- hb.out];unfold Zb1;rw [List.all_eq_false];exact ⟨e,List.mem_of_getElem? he,by rw [hx];decide⟩
   replace he:=Zb he;clear hx;go_wp2_with fail;refine (hC.out _ (by first | exact Below.refl _ _ | exact Zj (Below.refl _ _) _)).mono ?_;rintro e' w1 ⟨rfl,hb1⟩;go_wp2_with fail;go_ret;exact ⟨i,rfl,by simp,(by first | exact hBp.trans (hb1.mono hBp.size) | exact (Zj hBp _).trans (hb1.mono hBp.size))⟩
  ·have hall2 : Hid (∀ j e,j < i + 1 -> es[j]? = some e -> e.fine64 = true):=Zb (fun j e' hj he'=>by
     rcases Nat.lt_or_ge j i with h' | h'
     ·exact hall.out j e' h' he'
     ·obtain rfl : j = i:=by omega
      rw [he] at he'
      cases he'
      exact hx)
   replace he:=Zb he;clear hx;go_wp2_with fail;refine (hC.out _ (by first | exact Below.refl _ _ | exact Zj (Below.refl _ _) _)).mono ?_;rintro e' w1 ⟨rfl,hb1⟩;go_wp2_with fail
   go_roundw
   case rel=>exact ⟨i + 1,by omega,by go_num,hall2,(by first | exact hBp.trans (hb1.mono hBp.size) | exact (Zj hBp _).trans (hb1.mono hBp.size))⟩
   case measure=>simp [intOf];omega
theorem Zrz (A : Option Addr) (n c : Nat) (es : List FX) (w : World) (h : FXL w A n c es) (b : Bool) (hb : Zb1 es = b) :
    Calls Tryz.prog 90 #[.slice A n c,.func (.func 91) #[] #[]] w fun e w'=>e = .returned (.bool (!b)) /\ Below w.heap.size w w':=by
 go_enter Tryz.func90,Tryz.ntmps90;go_wp2_with fail;refine (Zsz A n c es w h b hb).mono ?_;rintro e w1 ⟨i,rfl,hi,hb1⟩;replace hi:=Zb hi;go_wp2_with fail;go_ret;exact ⟨Znv hi.out,hb1⟩
theorem Zhz (A : Option Addr) (n c : Nat) (es : List FX) (w : World) (h : FXL w A n c es) (b : Bool) (hb : Zb1 es = b) :
    Calls Tryz.prog 44 #[.slice A n c] w fun e w'=>e = .returned (.bool b) /\ Below w.heap.size w w':=by
 go_enter Tryz.func44,Tryz.ntmps44;go_wp2_with fail;refine (Zrz A n c es w h b hb).mono ?_;rintro e w1 ⟨rfl,hb1⟩;go_wp2_with fail;go_ret;exact ⟨by simp,hb1⟩
theorem Zra (A : Option Addr) (n c : Nat) (w : World) (hn : n <= maxLen) :
    Calls Tryz.prog 86 #[.slice A n c] w fun e w'=>e = .returned (.bool (decide (6 < n))) /\ Below w.heap.size w w':=by
 unfold maxLen at hn;have hd : decide ((6 : Int) < (n : Int)) = decide (6 < n):=decide_eq_decide.2 (by omega);go_enter Tryz.func86,Tryz.ntmps86;go_wp2_with fail;go_ret;exact ⟨by first | rfl | simp [hd],by first | exact Below.refl _ _ | exact Zj (Below.refl _ _) _⟩
theorem FXL.nlenC {w : World} {A : Option Addr} {n c : Nat} {es : List FX} (h : FXL w A n c es) : n <= maxLen:=Nat.le_trans h.2.1 h.2.2.1
theorem Zrx (A : Option Addr) (n c : Nat) (rs : List RX) (w : World) (h : MXL w A n c rs) (b : Bool) (hb : rs.any RX.long6 = b) :
    Calls Tryz.prog 141 #[.slice A n c,.func (.func 86) #[] #[]] w (IdxC w b):=by
 have hl:=h.1;have hnc:=h.2.1;have hcm:=h.2.2.1;unfold maxLen at hcm;replace hl:=Zb hl;replace hb:=Zb hb;replace h:=Zb h;go_enter Tryz.func141,Tryz.ntmps141;go_wp2_with fail
 go_loopw [8] (fun iv wr=>∃ i : Nat,i <= n /\ iv = .int .i64 i /\ Hid (∀ j e,j < i -> rs[j]? = some e -> e.long6 = false) /\ Below w.heap.size w wr) (fun iv _=>n - (intOf iv).toNat)
 case atStart=>exact ⟨0,Nat.zero_le _,rfl,Zb (fun j e hj=>by omega),Below.refl _ _⟩
 case round =>
  obtain ⟨i,hik,rfl,hall,hBp⟩:=hrel
  by_cases hin : i < n
  case neg =>
   obtain rfl : n = i:=by omega
   have htk : decide ((n : Int) < (n : Int)) = false:=by simp
   obtain rfl : b = false:=by
    rw [<- hb.out,List.any_eq_false];intro e he;obtain ⟨j,hj,hje⟩:=List.getElem_of_mem he;have:=hall.out j e (by rw [hl.out] at hj;exact hj) (by rw [List.getElem?_eq_getElem hj,hje]);rw [this];decide
   go_wp2_with fail;go_ret;exact ⟨-1,rfl,rfl,hBp⟩
  have htk : decide ((i : Int) < (n : Int)) = true:=decide_eq_true (by omega);obtain ⟨g,o,r,rfl,he,c0,hL⟩:=(h.out.below hBp).at_ hin;have hC:=Zb (fun W1=>Zra r.A r.n r.c W1 hL.nlenC);clear hL
  by_cases hx : 6 < r.n
  ·obtain rfl : b = true:=by
     rw [<- hb.out,List.any_eq_true];exact ⟨r,List.mem_of_getElem? he,by unfold RX.long6;simpa using hx⟩
   rw [decide_eq_true hx] at hC;replace he:=Zb he;go_wp2_with fail;refine (hC.out _).mono ?_;rintro e' w1 ⟨rfl,hb1⟩;go_wp2_with fail;go_ret;exact ⟨i,rfl,by simp,(by first | exact hBp.trans (hb1.mono hBp.size) | exact (Zj hBp _).trans (hb1.mono hBp.size))⟩
  ·have hall2 : Hid (∀ j e,j < i + 1 -> rs[j]? = some e -> e.long6 = false):=Zb (fun j e' hj he'=>by
     rcases Nat.lt_or_ge j i with h' | h'
     ·exact hall.out j e' h' he'
     ·obtain rfl : j = i:=by omega
      rw [he] at he'
      cases he'
      unfold RX.long6;simpa using hx)
   rw [decide_eq_false hx] at hC;replace he:=Zb he;go_wp2_with fail;refine (hC.out _).mono ?_;rintro e' w1 ⟨rfl,hb1⟩;go_wp2_with fail
   go_roundw
   case rel=>exact ⟨i + 1,by omega,by go_num,hall2,(by first | exact hBp.trans (hb1.mono hBp.size) | exact (Zj hBp _).trans (hb1.mono hBp.size))⟩
   case measure=>simp [intOf];omega
theorem Zp8 (A : Option Addr) (n c : Nat) (rs : List RX) (w : World) (h : MXL w A n c rs) (b : Bool) (hb : rs.any RX.long6 = b) :
    Calls Tryz.prog 87 #[.slice A n c,.func (.func 86) #[] #[]] w fun e w'=>e = .returned (.bool b) /\ Below w.heap.size w w':=by
 go_enter Tryz.func87,Tryz.ntmps87;go_wp2_with fail;refine (Zrx A n c rs w h b hb).mono ?_;rintro e w1 ⟨i,rfl,hi,hb1⟩;replace hi:=Zb hi;go_wp2_with fail;go_ret;exact ⟨Znv hi.out,hb1⟩
def covV (rs : List RX) : Prop:=long6 rs = false /\ rs.length ≠ 0 /\ rs.all (Zb2 rs.length) = true
def FacC (rs : List RX) : Prop:=covV rs -> Zeu (qM rs) = true -> FacP (Zi (qM rs)) rs.length
section
variable {w : World} {A : Option Addr} {n c : Nat} {rs : List RX}
theorem covV.facts (h : covV rs) : 0 < rs.length /\ rs.length <= 6 /\ ∀ r ∈ rs,r.n = rs.length /\ Zb1 r.es = true:=by
 obtain ⟨h1,h2,h3⟩:=h;unfold long6 at h1;rw [Bool.or_eq_false_iff] at h1;have h6:=of_decide_eq_false h1.1;refine ⟨by omega,by omega,fun r hr=>?_⟩;rw [List.all_eq_true] at h3;have h7:=h3 r hr;unfold Zb2 at h7;rw [Bool.and_eq_true,decide_eq_true_eq] at h7;exact h7
theorem Zhi (h : Zax rs = 0) : covV rs /\ Zeu (qM rs) = true /\ posP (Zi (qM rs)) rs.length:=by
 obtain ⟨h1,h2,h3,h4,h5⟩:=Zpf h;refine ⟨⟨?_,by omega,?_⟩,h4,h5⟩
 ·cases hl : long6 rs with
  | false=>rfl
  | true=>rw [Zeb hl] at h;cases h
 ·rw [List.all_eq_true]
  intro r hr;unfold Zb2;rw [Bool.and_eq_true,decide_eq_true_eq];exact h3 r hr
theorem covV.E (h : covV rs) : Zax rs = if (Zeu (qM rs) && Zog (Zi (qM rs)) rs.length) = true then 0 else 8:=by
 obtain ⟨h1,h2,h3⟩:=h;unfold Zax;rw [if_neg (by rw [h1];decide),if_neg h2,if_pos h3]
theorem covV.asym (h : covV rs) (hs : Zeu (qM rs) = false) : Zax rs = 8:=by rw [h.E,hs];rfl
theorem covV.pos (h : covV rs) (hs : Zeu (qM rs) = true) (hp : posP (Zi (qM rs)) rs.length) : Zax rs = 0:=by
 rw [h.E,hs,posB_iff.2 hp];rfl
theorem covV.neg (h : covV rs) (hs : Zeu (qM rs) = true) (hp : ¬ posP (Zi (qM rs)) rs.length) : Zax rs = 8:=by
 have : Zog (Zi (qM rs)) rs.length = false:=by
  cases hb : Zog (Zi (qM rs)) rs.length with
  | false=>rfl
  | true=>exact absurd (posB_iff.1 hb) hp
 rw [h.E,hs,this];rfl
theorem covV.good (hV : covV rs) (h : MXL w A n c rs) : MFL w A n c (qM rs):=h.mfl fun r hr=>Zol (hV.facts.2.2 r hr).2
theorem covV.row (hV : covV rs) (h : MXL w A n c rs) (i : Nat) (hi : i < n) : ((qM rs)[i]?.getD []).length = n:=by
 unfold qM;rw [List.getElem?_map,List.getElem?_eq_getElem (by rw [h.1];exact hi)];simp only [Option.map_some,Option.getD_some,List.length_map];have hr : rs[i]'(by rw [h.1];exact hi) ∈ rs:=List.getElem_mem _;have h4:=(h.2.2.2.1 _ hr).1;rw [h4,(hV.facts.2.2 _ hr).1,h.1]
theorem covV.small (hV : covV rs) (h : MXL w A n c rs) {k : Nat} (hf : fewM k rs) : SmE k (qM rs):=fun i j=>by
 unfold Zi qM;rw [List.getElem?_map]
 cases hr : rs[i]? with
 | none=>exact ⟨Nat.zero_le _,Zdb _⟩
 | some r =>
  simp only [Option.map_some,Option.getD_some,List.getElem?_map]
  cases he : r.es[j]? with
  | none=>exact ⟨Nat.zero_le _,Zdb _⟩
  | some e =>
   simp only [Option.map_some,Option.getD_some];have hrm:=List.mem_of_getElem? hr;have hem:=List.mem_of_getElem? he;have h5:=(hV.facts.2.2 r hrm).2;unfold Zb1 at h5;rw [List.all_eq_true] at h5;have h6:=h5 e hem;unfold FX.fine64 at h6;rw [Bool.and_eq_true,decide_eq_true_eq] at h6;refine Zt2 ((h.2.2.2.1 r hrm).2.2.2.1 e hem) h6.2 ?_
   rcases hf r hrm e hem with h7 | h7 <;> omega
theorem covV.small64 (hV : covV rs) (h : MXL w A n c rs) : SmE 64 (qM rs):=hV.small h (fun r _ e _=>Nat.lt_or_ge 64 e.few |>.symm)
theorem SmE.smC {k : Nat} {Q : List (List Rat)} (h : SmE k Q) (hk : k < 1000) (i j : Nat) : Sm (Zi Q i j):=
 ⟨Nat.lt_of_le_of_lt (h i j).1 (Zc7 hk),Nat.lt_of_le_of_lt (h i j).2 (Zc7 hk)⟩
theorem covV.fac (hV : covV rs) (h : MXL w A n c rs) (hs : Zeu (qM rs) = true) {k : Nat} (hf : fewM k rs) (hb : (k * n + k + 1) * n + ((k * n + k + 1) * n + k * n) + 2 <= 300) : FacP (Zi (qM rs)) n:=by
 have h6:=hV.facts.2.1;have hl : (qM rs).length = n:=Zub h;have hn : rs.length = n:=h.1;exact FacP.of (hV.small h hf) hl (by omega) (fun i hi=>hV.row h i hi) (fun i k hi hk=>symB_iff.1 hs i k (by omega) (by omega)) hb
theorem FacC.of (h : MXL w A n c rs) {k : Nat} (hf : fewM k rs) (hb : n <= 6 -> (k * n + k + 1) * n + ((k * n + k + 1) * n + k * n) + 2 <= 300) : FacC rs:=fun hV hs=>by
 have hn : rs.length = n:=h.1;rw [hn];exact hV.fac h hs hf (hb (by have:=hV.facts.2.1;omega))
theorem MFL.atS {w : World} {g o n c : Nat} {Q : List (List Rat)} (h : MFL w (some ⟨g,o,none⟩) n c Q) {k : Nat} (hk : k < n) : ∃ A' n' c',w.cell? ⟨g,o + k,none⟩ = some (.slice A' n' c') /\ FL w A' n' c' (Q[k]?.getD []):=by
 obtain ⟨g',o',A',n',c',e,h1,h2⟩:=h.at_ hk
 cases e
 exact ⟨_,_,_,h1,h2⟩
theorem cmpQ_zero {a b : Rat} : Zj1 a b = 0 ↔ a = b:=by
 unfold Zj1
 constructor
 ·intro h
  split at h
  ·cases h
  ·split at h
   ·cases h
   ·rename_i h1 h2
    exact Rat.le_antisymm (Rat.not_lt.1 h2) (Rat.not_lt.1 h1)
 ·intro h
  subst h;rw [if_neg Rat.lt_irrefl,if_neg Rat.lt_irrefl]
end
end Go.Proofs.YtpehacgjclkhmaaGreat
