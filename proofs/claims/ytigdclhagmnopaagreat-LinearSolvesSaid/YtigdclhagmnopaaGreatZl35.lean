/- Package linear: vector, Check, square; the reference's -/
import Derived.Test.YtigdclhagmnopaaGreatZl24
set_option maxRecDepth 100000
set_option maxHeartbeats 2000000
set_option linter.unusedSimpArgs false
set_option linter.unusedVariables false
namespace Go.Proofs.YtigdclhagmnopaaGreat
open Go.RowKit
attribute [local go_sem] Zi
def IdxB (w : World) (b : Bool) (e : Ending) (w' : World) : Prop := ∃ i : Int, e = .returned (.int .i64 i) /\ decide (0 <= i) = b /\ Below w.heap.size w w'
theorem Zsv (na nb : Bool) (A B : Option Addr) (n c m d : Nat) (la lb : List Nat) (w : World) (ha : Lim w A n c la) (hb : Lim w B m d lb) (b : Bool) (hx : (decide (max n m <= 8) && okF na la nb lb) = b) :
    Calls Tryz.prog 131 #[.agg #[.bool na, .slice A n c, .bool nb, .slice B m d]] w fun e w' => e = .returned (.bool (!b)) /\ Below w.heap.size w w' := by
 obtain ⟨W0, hW0, hB0, q0, s0⟩ := Za8 w 45 #[.bool na, .slice A n c, .bool nb, .slice B m d]
 obtain ⟨a0, a1, a2, a3, -⟩ := q0.four
 have ha0 := Nat.le_trans ha.2.1 ha.2.2.1
 have hb0 := Nat.le_trans hb.2.1 hb.2.2.1
 unfold maxLen at ha0 hb0
 obtain ⟨y, hy⟩ : ∃ y, okF na la nb lb = y := ⟨_, rfl⟩
 rw [hy] at hx
 have hC := Za (fun W1 (h1 : Below w.heap.size w W1) => Zpz na nb A B n c m d la lb W1 (ha.below h1) (hb.below h1) y hy)
 clear ha hb hy
 have hmx : max (n : Int) (m : Int) = ((max n m : Nat) : Int) := by omega
 by_cases h8 : max n m <= 8
 ·have t1 : decide ((8 : Int) < ((max n m : Nat) : Int)) = false := decide_eq_false (by omega)
  have t1' : decide (8 < max n m) = false := decide_eq_false (by omega)
  have t1'' : decide ((8 : Int) < max (n : Int) (m : Int)) = false := decide_eq_false (by omega)
  rw [decide_eq_true h8, Bool.true_and] at hx
  subst hx
  cases y
  ·go_enter Tryz.func131, Tryz.ntmps131
   go_wp2_with fail
   refine (hC.out _ (by first | exact hB0 | exact Zf hB0 _)).mono ?_
   rintro e w1 ⟨rfl, hb1⟩
   simp only [Zfs, Bool.false_eq_true, if_false]
   go_wp2_with fail
   go_ret
   exact ⟨rfl, (by first | exact hB0.trans (hb1.mono hB0.size) | exact (Zf hB0 _).trans (hb1.mono hB0.size))⟩
  ·go_enter Tryz.func131, Tryz.ntmps131
   go_wp2_with fail
   refine (hC.out _ (by first | exact hB0 | exact Zf hB0 _)).mono ?_
   rintro e w1 ⟨rfl, hb1⟩
   simp only [Zfs, if_true]
   go_wp2_with fail
   go_ret
   exact ⟨rfl, (by first | exact hB0.trans (hb1.mono hB0.size) | exact (Zf hB0 _).trans (hb1.mono hB0.size))⟩
 ·have t1 : decide ((8 : Int) < ((max n m : Nat) : Int)) = true := decide_eq_true (by omega)
  have t1' : decide (8 < max n m) = true := decide_eq_true (by omega)
  have t1'' : decide ((8 : Int) < max (n : Int) (m : Int)) = true := decide_eq_true (by omega)
  rw [decide_eq_false h8, Bool.false_and] at hx
  subst hx
  go_enter Tryz.func131, Tryz.ntmps131
  go_wp2_with fail
  go_ret
  exact ⟨rfl, (by first | exact hB0 | exact Zf hB0 _)⟩
theorem Zs8 (A : Option Addr) (n c : Nat) (es : List FX) (w : World) (h : FXL w A n c es) (b : Bool) (hb : Za7 es = b) :
    Calls Tryz.prog 160 #[.slice A n c, .func (.func 131) #[] #[]] w (IdxB w (!b)) := by
 have hl := h.1
 have hnc := h.2.1
 have hcm := h.2.2.1
 unfold maxLen at hcm
 replace hl := Za hl
 replace hb := Za hb
 replace h := Za h
 go_enter Tryz.func160, Tryz.ntmps160
 go_wp2_with fail
 go_loopw [8] (fun iv wr => ∃ i : Nat, i <= n /\ iv = .int .i64 i /\ Hid (∀ j e, j < i -> es[j]? = some e -> e.fine = true) /\ Below w.heap.size w wr) (fun iv _ => n - (intOf iv).toNat)
 case atStart => exact ⟨0, Nat.zero_le _, rfl, Za (fun j e hj => by omega), Below.refl _ _⟩
 case round =>
  obtain ⟨i, hik, rfl, hall, hBp⟩ := hrel
  by_cases hin : i < n
  case neg =>
   obtain rfl : n = i := by omega
   have htk : decide ((n : Int) < (n : Int)) = false := by simp
   obtain rfl : b = true := by
    rw [<- hb.out]
    unfold Za7
    rw [List.all_eq_true]
    intro e he
    obtain ⟨j, hj, hje⟩ := List.getElem_of_mem he
    exact hall.out j e (by rw [hl.out] at hj; exact hj) (by rw [List.getElem?_eq_getElem hj, hje])
   go_wp2_with fail
   go_ret
   exact ⟨-1, rfl, rfl, hBp⟩
  have htk : decide ((i : Int) < (n : Int)) = true := decide_eq_true (by omega)
  obtain ⟨g, o, e, rfl, he, hc, hLa, hLb⟩ := (h.out.below hBp).at_ hin
  obtain ⟨c0, c1, c2, c3⟩ := hc
  obtain ⟨x, hx⟩ : ∃ x, e.fine = x := ⟨_, rfl⟩
  have hC := Za (fun W1 (hb : Below wr.heap.size wr W1) => Zsv e.na e.nb e.A e.B e.n e.c e.m e.d e.la e.lb W1 (hLa.below hb) (hLb.below hb) x hx)
  clear hLa hLb
  cases x
  ·obtain rfl : b = false := by
     rw [<- hb.out]
     unfold Za7
     rw [List.all_eq_false]
     exact ⟨e, List.mem_of_getElem? he, by rw [hx]; decide⟩
   replace he := Za he
   clear hx
   go_wp2_with fail
   refine (hC.out _ (by first | exact Below.refl _ _ | exact Zf (Below.refl _ _) _)).mono ?_
   rintro e' w1 ⟨rfl, hb1⟩
   go_wp2_with fail
   go_ret
   exact ⟨i, rfl, by simp, (by first | exact hBp.trans (hb1.mono hBp.size) | exact (Zf hBp _).trans (hb1.mono hBp.size))⟩
  ·have hall2 : Hid (∀ j e, j < i + 1 -> es[j]? = some e -> e.fine = true) := Za (fun j e' hj he' => by
     rcases Nat.lt_or_ge j i with h' | h'
     ·exact hall.out j e' h' he'
     ·obtain rfl : j = i := by omega
      rw [he] at he'
      cases he'
      exact hx)
   replace he := Za he
   clear hx
   go_wp2_with fail
   refine (hC.out _ (by first | exact Below.refl _ _ | exact Zf (Below.refl _ _) _)).mono ?_
   rintro e' w1 ⟨rfl, hb1⟩
   go_wp2_with fail
   go_roundw
   case rel => exact ⟨i + 1, by omega, by go_num, hall2, (by first | exact hBp.trans (hb1.mono hBp.size) | exact (Zf hBp _).trans (hb1.mono hBp.size))⟩
   case measure => simp [intOf]; omega
theorem Zsh (A : Option Addr) (n c : Nat) (es : List FX) (w : World) (h : FXL w A n c es) (b : Bool) (hb : Za7 es = b) :
    Calls Tryz.prog 132 #[.slice A n c, .func (.func 131) #[] #[]] w fun e w' => e = .returned (.bool (!b)) /\ Below w.heap.size w w' := by
 go_enter Tryz.func132, Tryz.ntmps132
 go_wp2_with fail
 refine (Zs8 A n c es w h b hb).mono ?_
 rintro e w1 ⟨i, rfl, hi, hb1⟩
 replace hi := Za hi
 go_wp2_with fail
 go_ret
 exact ⟨Zno hi.out, hb1⟩
theorem Zf6 (A : Option Addr) (n c : Nat) (es : List FX) (w : World) (h : FXL w A n c es) (b : Bool) (hb : Za7 es = b) :
    Calls Tryz.prog 75 #[.slice A n c] w fun e w' => e = .returned (.bool b) /\ Below w.heap.size w w' := by
 go_enter Tryz.func75, Tryz.ntmps75
 go_wp2_with fail
 refine (Zsh A n c es w h b hb).mono ?_
 rintro e w1 ⟨rfl, hb1⟩
 go_wp2_with fail
 go_ret
 exact ⟨by simp, hb1⟩
def RX.long (r : RX) : Bool := decide (12 < r.n)
theorem Zsd (A : Option Addr) (n c : Nat) (w : World) (hn : n <= maxLen) :
    Calls Tryz.prog 82 #[.slice A n c] w fun e w' => e = .returned (.bool (decide (12 < n))) /\ Below w.heap.size w w' := by
 unfold maxLen at hn
 have hd : decide ((12 : Int) < (n : Int)) = decide (12 < n) := decide_eq_decide.2 (by omega)
 go_enter Tryz.func82, Tryz.ntmps82
 go_wp2_with fail
 go_ret
 exact ⟨by first | rfl | simp [hd], by first | exact Below.refl _ _ | exact Zf (Below.refl _ _) _⟩
theorem FXL.nlen {w : World} {A : Option Addr} {n c : Nat} {es : List FX} (h : FXL w A n c es) : n <= maxLen := Nat.le_trans h.2.1 h.2.2.1
theorem Zqx (A : Option Addr) (n c : Nat) (rs : List RX) (w : World) (h : MXL w A n c rs) (b : Bool) (hb : rs.any RX.long = b) :
    Calls Tryz.prog 133 #[.slice A n c, .func (.func 82) #[] #[]] w (IdxB w b) := by
 have hl := h.1
 have hnc := h.2.1
 have hcm := h.2.2.1
 unfold maxLen at hcm
 replace hl := Za hl
 replace hb := Za hb
 replace h := Za h
 go_enter Tryz.func133, Tryz.ntmps133
 go_wp2_with fail
 go_loopw [8] (fun iv wr => ∃ i : Nat, i <= n /\ iv = .int .i64 i /\ Hid (∀ j e, j < i -> rs[j]? = some e -> e.long = false) /\ Below w.heap.size w wr) (fun iv _ => n - (intOf iv).toNat)
 case atStart => exact ⟨0, Nat.zero_le _, rfl, Za (fun j e hj => by omega), Below.refl _ _⟩
 case round =>
  obtain ⟨i, hik, rfl, hall, hBp⟩ := hrel
  by_cases hin : i < n
  case neg =>
   obtain rfl : n = i := by omega
   have htk : decide ((n : Int) < (n : Int)) = false := by simp
   obtain rfl : b = false := by
    rw [<- hb.out, List.any_eq_false]
    intro e he
    obtain ⟨j, hj, hje⟩ := List.getElem_of_mem he
    have := hall.out j e (by rw [hl.out] at hj; exact hj) (by rw [List.getElem?_eq_getElem hj, hje])
    rw [this]; decide
   go_wp2_with fail
   go_ret
   exact ⟨-1, rfl, rfl, hBp⟩
  have htk : decide ((i : Int) < (n : Int)) = true := decide_eq_true (by omega)
  obtain ⟨g, o, r, rfl, he, c0, hL⟩ := (h.out.below hBp).at_ hin
  have hC := Za (fun W1 => Zsd r.A r.n r.c W1 hL.nlen)
  clear hL
  by_cases hx : 12 < r.n
  ·obtain rfl : b = true := by
     rw [<- hb.out, List.any_eq_true]
     exact ⟨r, List.mem_of_getElem? he, by unfold RX.long; simpa using hx⟩
   rw [decide_eq_true hx] at hC
   replace he := Za he
   go_wp2_with fail
   refine (hC.out _).mono ?_
   rintro e' w1 ⟨rfl, hb1⟩
   go_wp2_with fail
   go_ret
   exact ⟨i, rfl, by simp, (by first | exact hBp.trans (hb1.mono hBp.size) | exact (Zf hBp _).trans (hb1.mono hBp.size))⟩
  ·have hall2 : Hid (∀ j e, j < i + 1 -> rs[j]? = some e -> e.long = false) := Za (fun j e' hj he' => by
     rcases Nat.lt_or_ge j i with h' | h'
     ·exact hall.out j e' h' he'
     ·obtain rfl : j = i := by omega
      rw [he] at he'
      cases he'
      unfold RX.long; simpa using hx)
   rw [decide_eq_false hx] at hC
   replace he := Za he
   go_wp2_with fail
   refine (hC.out _).mono ?_
   rintro e' w1 ⟨rfl, hb1⟩
   go_wp2_with fail
   go_roundw
   case rel => exact ⟨i + 1, by omega, by go_num, hall2, (by first | exact hBp.trans (hb1.mono hBp.size) | exact (Zf hBp _).trans (hb1.mono hBp.size))⟩
   case measure => simp [intOf]; omega
theorem Zqg (A : Option Addr) (n c : Nat) (rs : List RX) (w : World) (h : MXL w A n c rs) (b : Bool) (hb : rs.any RX.long = b) :
    Calls Tryz.prog 81 #[.slice A n c, .func (.func 82) #[] #[]] w fun e w' => e = .returned (.bool b) /\ Below w.heap.size w w' := by
 go_enter Tryz.func81, Tryz.ntmps81
 go_wp2_with fail
 refine (Zqx A n c rs w h b hb).mono ?_
 rintro e w1 ⟨i, rfl, hi, hb1⟩
 replace hi := Za hi
 go_wp2_with fail
 go_ret
 exact ⟨Zno hi.out, hb1⟩
def n0R (rs : List RX) : Nat := (rs[0]?.map RX.n).getD 0
def Zcm (k : Nat) (r : RX) : Bool := decide (r.n = k) && Za7 r.es
def Zdx (rs : List RX) : Bool := decide (12 < rs.length) || rs.any RX.long
def Zdc (rs : List RX) : Int := if Zdx rs = true then 4 else if n0R rs = 0 then 8 else if rs.all (Zcm (n0R rs)) = true then 0 else 8
def sqE (rs : List RX) : Int := if Zdc rs = 0 then (if rs.length = n0R rs then 0 else 8) else Zdc rs
theorem Zg1 {rs : List RX} (h : Zdx rs = true) : Zdc rs = 4 := by unfold Zdc; rw [if_pos h]
theorem Zgq {rs : List RX} (h : Zdx rs = false) (h0 : n0R rs = 0) : Zdc rs = 8 := by unfold Zdc; rw [if_neg (by simp [h]), if_pos h0]
theorem Zob {rs : List RX} (h : Zdx rs = false) (h0 : n0R rs ≠ 0) {r : RX} (hr : r ∈ rs) (hb : Zcm (n0R rs) r = false) : Zdc rs = 8 := by
 unfold Zdc
 rw [if_neg (by simp [h]), if_neg h0, if_neg]
 intro e
 rw [List.all_eq_true] at e
 have := e r hr
 rw [hb] at this; cases this
theorem Zqs {rs : List RX} (h : Zdx rs = false) (h0 : n0R rs ≠ 0) (ha : rs.all (Zcm (n0R rs)) = true) : Zdc rs = 0 := by
 unfold Zdc; rw [if_neg (by simp [h]), if_neg h0, if_pos ha]
theorem Zmu {rs : List RX} {r : RX} (h : rs[0]? = some r) : n0R rs = r.n := by unfold n0R; rw [h]; rfl
theorem Zj2 (A : Option Addr) (n c : Nat) (rs : List RX) (w : World) (h : MXL w A n c rs) (E : Int) (hE : Zdc rs = E) :
    Calls Tryz.prog 30 #[.slice A n c] w fun e w' => e = .returned (.int .i64 E) /\ Below w.heap.size w w' := by
 have hl := h.1
 have hnc := h.2.1
 have hcm := h.2.2.1
 unfold maxLen at hcm
 replace hE := Za hE
 by_cases h12 : 12 < n
 ·have t1 : decide ((12 : Int) < (n : Int)) = true := decide_eq_true (by omega)
  obtain rfl : E = 4 := by rw [<- hE.out]; exact Zg1 (by unfold Zdx; rw [hl, decide_eq_true h12]; rfl)
  go_enter Tryz.func30, Tryz.ntmps30
  go_wp2_with fail
  go_ret
  exact ⟨rfl, by first | exact Below.refl _ _ | exact Zf (Below.refl _ _) _⟩
 have t1 : decide ((12 : Int) < (n : Int)) = false := decide_eq_false (by omega)
 obtain ⟨x, hx⟩ : ∃ x, rs.any RX.long = x := ⟨_, rfl⟩
 have hlm : Zdx rs = x := by unfold Zdx; rw [hl, decide_eq_false h12, hx]; rfl
 have hC := Za (fun W1 (hb : Below w.heap.size w W1) => Zqg A n c rs W1 (h.below hb) x hx)
 clear hx
 replace hlm := Za hlm
 cases x
 case true =>
  obtain rfl : E = 4 := by rw [<- hE.out]; exact Zg1 hlm.out
  clear h
  go_enter Tryz.func30, Tryz.ntmps30
  go_wp2_with fail
  refine (hC.out _ (by first | exact Below.refl _ _ | exact Zf (Below.refl _ _) _)).mono ?_
  rintro e w1 ⟨rfl, hb1⟩
  go_wp2_with fail
  go_ret
  exact ⟨rfl, by first | exact hb1 | exact (Zf (Below.refl _ _) _).trans hb1⟩
 by_cases hn0 : n = 0
 ·subst hn0
  obtain rfl : E = 8 := by
   rw [<- hE.out]
   have : rs = [] := List.eq_nil_of_length_eq_zero hl
   exact Zgq hlm.out (by rw [this]; rfl)
  clear h
  go_enter Tryz.func30, Tryz.ntmps30
  go_wp2_with fail
  refine (hC.out _ (by first | exact Below.refl _ _ | exact Zf (Below.refl _ _) _)).mono ?_
  rintro e w1 ⟨rfl, hb1⟩
  go_wp2_with fail
  go_ret
  exact ⟨rfl, by first | exact hb1 | exact (Zf (Below.refl _ _) _).trans hb1⟩
 have t2 : ((n : Int) == 0) = false := by simp; omega
 have t2' : decide (n = 0) = false := by simpa using hn0
 obtain ⟨g, o, r0, rfl, he0, c0, hL0⟩ := h.at_ (k := 0) (by omega)
 have hr0l := hL0.nlen
 unfold maxLen at hr0l
 have hn0' := Zmu he0
 clear he0 hL0
 rw [Nat.add_zero] at c0
 have hbg := Zr c0
 by_cases hz : r0.n = 0
 ·obtain rfl : E = 8 := by rw [<- hE.out]; exact Zgq hlm.out (by rw [hn0', hz])
  have t3 : ((r0.n : Int) == 0) = true := by simp [hz]
  have t3' : decide (r0.n = 0) = true := by simpa using hz
  replace h := Za h
  replace hn0' := Za hn0'
  replace hz := Za hz
  go_enter Tryz.func30, Tryz.ntmps30
  go_wp2_with fail
  refine (hC.out _ (by first | exact Below.refl _ _ | exact Zf (Below.refl _ _) _)).mono ?_
  rintro e w1 ⟨rfl, hb1⟩
  have hB1 : Below w.heap.size w w1 := by first | exact hb1 | exact (Zf (Below.refl _ _) _).trans hb1
  have k0 := Zb hB1 c0
  clear c0
  go_wp2_with fail
  go_ret
  exact ⟨rfl, hB1⟩
 have t3 : ((r0.n : Int) == 0) = false := by simpa using hz
 have t3' : decide (r0.n = 0) = false := by simpa using hz
 replace h := Za h
 replace hl := Za hl
 replace hn0' := Za hn0'
 replace hz := Za hz
 go_enter Tryz.func30, Tryz.ntmps30
 go_wp2_with fail
 refine (hC.out _ (by first | exact Below.refl _ _ | exact Zf (Below.refl _ _) _)).mono ?_
 rintro e w1 ⟨rfl, hb1⟩
 have hB1 : Below w.heap.size w w1 := by first | exact hb1 | exact (Zf (Below.refl _ _) _).trans hb1
 have k0 := Zb hB1 c0
 clear hb1 hC
 go_wp2_with fail
 go_loopw [24] (fun iv wr => ∃ i : Nat, i <= n /\ iv = .int .i64 i /\ Hid (∀ j e, j < i -> rs[j]? = some e -> Zcm (n0R rs) e = true) /\ Below w.heap.size w wr) (fun iv _ => n - (intOf iv).toNat)
 case atStart => exact ⟨0, Nat.zero_le _, rfl, Za (fun j e hj => by omega), (by first | exact hB1 | exact Zf hB1 _)⟩
 case round =>
  clear k0 hB1
  obtain ⟨i, hik, rfl, hall, hBp⟩ := hrel
  have k0 := Zb hBp c0
  clear c0
  by_cases hin : i < n
  case neg =>
   obtain rfl : n = i := by omega
   have htk : decide ((n : Int) < (n : Int)) = false := by simp
   obtain rfl : E = 0 := by
    rw [<- hE.out]
    refine Zqs hlm.out (by rw [hn0'.out]; exact hz.out) ?_
    rw [List.all_eq_true]
    intro e he
    obtain ⟨j, hj, hje⟩ := List.getElem_of_mem he
    exact hall.out j e (by rw [hl.out] at hj; exact hj) (by rw [List.getElem?_eq_getElem hj, hje])
   go_wp2_with fail
   go_ret
   exact ⟨rfl, hBp⟩
  have htk : decide ((i : Int) < (n : Int)) = true := decide_eq_true (by omega)
  obtain ⟨g', o', r, hA, he, c1, hL⟩ := (h.out.below hBp).at_ hin
  cases hA
  have hrl := hL.nlen
  unfold maxLen at hrl
  have bad : Zcm (n0R rs) r = false -> E = 8 := fun hf => by rw [<- hE.out]; exact Zob hlm.out (by rw [hn0'.out]; exact hz.out) (List.mem_of_getElem? he) hf
  have good : Zcm (n0R rs) r = true -> Hid (∀ j e, j < i + 1 -> rs[j]? = some e -> Zcm (n0R rs) e = true) := fun hf => Za (fun j e' hj he' => by
   rcases Nat.lt_or_ge j i with h' | h'
   ·exact hall.out j e' h' he'
   ·obtain rfl : j = i := by omega
    rw [he] at he'
    cases he'
    exact hf)
  replace bad := Za bad
  replace good := Za good
  replace he := Za he
  by_cases hq : r.n = r0.n
  case neg =>
   have t4 : ((r.n : Int) == (r0.n : Int)) = false := beq_eq_false_iff_ne.2 (by omega)
   have t5 : ((r.n : Int) != (r0.n : Int)) = true := by rw [bne, t4]; rfl
   have t4' : decide (r.n = r0.n) = false := by simpa using hq
   obtain rfl : E = 8 := bad.out (by unfold Zcm; rw [hn0'.out, t4']; rfl)
   clear hL
   go_wp2_with fail
   go_ret
   exact ⟨rfl, by first | exact hBp | exact Zf hBp _⟩
  have t4 : ((r.n : Int) == (r0.n : Int)) = true := beq_iff_eq.2 (by omega)
  have t5 : ((r.n : Int) != (r0.n : Int)) = false := by rw [bne, t4]; rfl
  have t4' : decide (r.n = r0.n) = true := by simpa using hq
  obtain ⟨x, hx⟩ : ∃ x, Za7 r.es = x := ⟨_, rfl⟩
  have hC := Za (fun W1 (hb : Below wr.heap.size wr W1) => Zf6 r.A r.n r.c r.es W1 (hL.below hb) x hx)
  replace hx := Za hx
  replace hq := Za hq
  clear hL
  cases x
  ·obtain rfl : E = 8 := bad.out (by unfold Zcm; rw [hx.out]; simp)
   go_wp2_with fail
   refine (hC.out _ (by first | exact Below.refl _ _ | exact Zf (Below.refl _ _) _)).mono ?_
   rintro e' w2 ⟨rfl, hb2⟩
   go_wp2_with fail
   go_ret
   exact ⟨rfl, (by first | exact hBp.trans (hb2.mono hBp.size) | exact (Zf hBp _).trans (hb2.mono hBp.size))⟩
  ·have hall2 := good.out (by unfold Zcm; rw [hn0'.out, t4', hx.out]; rfl)
   go_wp2_with fail
   refine (hC.out _ (by first | exact Below.refl _ _ | exact Zf (Below.refl _ _) _)).mono ?_
   rintro e' w2 ⟨rfl, hb2⟩
   go_wp2_with fail
   go_roundw
   case rel => exact ⟨i + 1, by omega, by go_num, hall2, (by first | exact hBp.trans (hb2.mono hBp.size) | exact (Zf hBp _).trans (hb2.mono hBp.size))⟩
   case measure => simp [intOf]; omega
theorem Zcl (A : Option Addr) (n c : Nat) (rs : List RX) (w : World) (h : MXL w A n c rs) (E : Int) (hE : sqE rs = E) :
    Calls Tryz.prog 54 #[.slice A n c] w fun e w' => e = .returned (.int .i64 E) /\ Below w.heap.size w w' := by
 have hl := h.1
 have hnc := h.2.1
 have hcm := h.2.2.1
 unfold maxLen at hcm
 obtain ⟨F, hF⟩ : ∃ F, Zdc rs = F := ⟨_, rfl⟩
 go_enter Tryz.func54, Tryz.ntmps54
 go_wp2_with fail
 refine (Zj2 A n c rs w h F hF).mono ?_
 rintro e w1 ⟨rfl, hb1⟩
 unfold sqE at hE
 rw [hF] at hE
 by_cases hF0 : F = 0
 case neg =>
  have t1 : (F == 0) = false := by simpa using hF0
  have t1' : decide (F = 0) = false := by simpa using hF0
  rw [if_neg hF0] at hE
  subst hE
  replace hF := Za hF
  go_wp2_with fail
  go_ret
  exact ⟨rfl, hb1⟩
 subst hF0
 rw [if_pos rfl] at hE
 have hn0 : 0 < n := by
  rcases Nat.eq_zero_or_pos n with h0 | h0
  ·exfalso
   have : rs = [] := List.eq_nil_of_length_eq_zero (by omega)
   subst this
   exact absurd hF (by decide)
  ·exact h0
 obtain ⟨g, o, r0, rfl, he0, c0, hL0⟩ := h.at_ (k := 0) hn0
 have hr0l := hL0.nlen
 unfold maxLen at hr0l
 rw [Zmu he0, hl] at hE
 rw [Nat.add_zero] at c0
 replace c0 := Zb hb1 c0
 replace he0 := Za he0
 replace hF := Za hF
 clear hL0 h
 by_cases hq : n = r0.n
 ·have t2 : ((n : Int) == (r0.n : Int)) = true := beq_iff_eq.2 (by omega)
  have t5 : ((n : Int) != (r0.n : Int)) = false := by rw [bne, t2]; rfl
  have t2' : decide (n = r0.n) = true := by simpa using hq
  rw [if_pos hq] at hE
  subst hE
  replace hq := Za hq
  go_wp2_with fail
  go_ret
  exact ⟨rfl, hb1⟩
 ·have t2 : ((n : Int) == (r0.n : Int)) = false := beq_eq_false_iff_ne.2 (by omega)
  have t5 : ((n : Int) != (r0.n : Int)) = true := by rw [bne, t2]; rfl
  have t2' : decide (n = r0.n) = false := by simpa using hq
  rw [if_neg hq] at hE
  subst hE
  replace hq := Za hq
  go_wp2_with fail
  go_ret
  exact ⟨rfl, hb1⟩
end Go.Proofs.YtigdclhagmnopaaGreat
