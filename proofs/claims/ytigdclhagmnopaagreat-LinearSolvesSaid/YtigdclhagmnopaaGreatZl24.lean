/- Reference of frac: Check, both, Cmp of raw fractions. Rows -/
import Derived.Test.YtigdclhagmnopaaGreatZl23
set_option maxRecDepth 100000
set_option maxHeartbeats 2000000
set_option linter.unusedSimpArgs false
set_option linter.unusedVariables false
namespace Go.Proofs.YtigdclhagmnopaaGreat
open Go.RowKit
attribute [local go_sem] Zi
theorem Zmz (na nb : Bool) (A B : Option Addr) (n c m d : Nat) (la lb : List Nat) (w : World) (ha : Lim w A n c la) (hb : Lim w B m d lb) (hbad : okW na la = false) :
    Calls Tryz.prog 35 #[.agg #[.bool na, .slice A n c, .bool nb, .slice B m d]] w fun e w' => e = .returned (.int .i64 8) /\ Below w.heap.size w w' := by
 have hmx : Tryz.prog.follows .mixedOrders = true := by kernel_rfl
 obtain ⟨W0, hW0, hB0, q0, s0⟩ := Za8 w 45 #[.bool na, .slice A n c, .bool nb, .slice B m d]
 have hA := Za (ha.below hB0)
 clear ha hb
 obtain ⟨a0, a1, a2, a3, -⟩ := q0.four
 go_enter Tryz.func35, Tryz.ntmps35
 go_wp2_with fail
 refine (Zj5 hA.out hbad).mono ?_
 rintro e w1 ⟨rfl, hb1⟩
 have hB1 : Below w.heap.size w w1 := hB0.trans (hb1.mono hB0.size)
 clear hW0 a0 a1 a2 a3
 obtain ⟨a0, a1, a2, a3, -⟩ := (Zc hb1 q0).four
 go_wp2_with fail
 go_ret
 exact ⟨rfl, hB1⟩
theorem Zmh (na nb : Bool) (A B : Option Addr) (n c m d : Nat) (la lb : List Nat) (w : World) (ha : Lim w A n c la) (hb : Lim w B m d lb) (hk : okW na la = true) (hbad : okW nb lb = false) :
    Calls Tryz.prog 35 #[.agg #[.bool na, .slice A n c, .bool nb, .slice B m d]] w fun e w' => e = .returned (.int .i64 8) /\ Below w.heap.size w w' := by
 have hmx : Tryz.prog.follows .mixedOrders = true := by kernel_rfl
 obtain ⟨W0, hW0, hB0, q0, s0⟩ := Za8 w 45 #[.bool na, .slice A n c, .bool nb, .slice B m d]
 have hA := Za (ha.below hB0)
 have hD := Za (hb.below hB0)
 clear ha hb
 obtain ⟨a0, a1, a2, a3, -⟩ := q0.four
 go_enter Tryz.func35, Tryz.ntmps35
 go_wp2_with fail
 refine (Zbo hA.out hk).mono ?_
 rintro e w1 ⟨rfl, hb1⟩
 have hB1 : Below w.heap.size w w1 := hB0.trans (hb1.mono hB0.size)
 replace q0 := Zc hb1 q0
 replace hA := Za (hA.out.below hb1)
 replace hD := Za (hD.out.below hb1)
 clear hW0 a0 a1 a2 a3 hb1
 obtain ⟨a0, a1, a2, a3, -⟩ := q0.four
 go_wp2_with fail
 refine (Zj5 hD.out hbad).mono ?_
 rintro e w2 ⟨rfl, hb2⟩
 have hB2 : Below w.heap.size w w2 := hB1.trans (hb2.mono hB1.size)
 replace q0 := Zc hb2 q0
 clear a0 a1 a2 a3 hb2
 obtain ⟨a0, a1, a2, a3, -⟩ := q0.four
 go_wp2_with fail
 go_ret
 exact ⟨rfl, hB2⟩
theorem Zms (na : Bool) (A B : Option Addr) (n c m d : Nat) (la lb : List Nat) (w : World) (ha : Lim w A n c la) (hb : Lim w B m d lb) (hk : okW na la = true) (hk2 : okW true lb = true) :
    Calls Tryz.prog 35 #[.agg #[.bool na, .slice A n c, .bool true, .slice B m d]] w fun e w' => e = .returned (.int .i64 8) /\ Below w.heap.size w w' := by
 have hmx : Tryz.prog.follows .mixedOrders = true := by kernel_rfl
 obtain ⟨W0, hW0, hB0, q0, s0⟩ := Za8 w 45 #[.bool na, .slice A n c, .bool true, .slice B m d]
 have hA := Za (ha.below hB0)
 have hD := Za (hb.below hB0)
 clear ha hb
 obtain ⟨a0, a1, a2, a3, -⟩ := q0.four
 go_enter Tryz.func35, Tryz.ntmps35
 go_wp2_with fail
 refine (Zbo hA.out hk).mono ?_
 rintro e w1 ⟨rfl, hb1⟩
 have hB1 : Below w.heap.size w w1 := hB0.trans (hb1.mono hB0.size)
 replace q0 := Zc hb1 q0
 replace hA := Za (hA.out.below hb1)
 replace hD := Za (hD.out.below hb1)
 clear hW0 a0 a1 a2 a3 hb1
 obtain ⟨a0, a1, a2, a3, -⟩ := q0.four
 go_wp2_with fail
 refine (Zbo hD.out hk2).mono ?_
 rintro e w2 ⟨rfl, hb2⟩
 have hB2 : Below w.heap.size w w2 := hB1.trans (hb2.mono hB1.size)
 replace q0 := Zc hb2 q0
 clear a0 a1 a2 a3 hb2
 obtain ⟨a0, a1, a2, a3, -⟩ := q0.four
 go_wp2_with fail
 go_ret
 exact ⟨rfl, hB2⟩
theorem Zmo (na : Bool) (A B : Option Addr) (n c d : Nat) (la : List Nat) (w : World) (ha : Lim w A n c la) (hb : Lim w B 0 d []) (hk : okW na la = true) :
    Calls Tryz.prog 35 #[.agg #[.bool na, .slice A n c, .bool false, .slice B 0 d]] w fun e w' => e = .returned (.int .i64 8) /\ Below w.heap.size w w' := by
 have hmx : Tryz.prog.follows .mixedOrders = true := by kernel_rfl
 obtain ⟨W0, hW0, hB0, q0, s0⟩ := Za8 w 45 #[.bool na, .slice A n c, .bool false, .slice B 0 d]
 have hA := Za (ha.below hB0)
 have hD := Za (hb.below hB0)
 clear ha hb
 obtain ⟨a0, a1, a2, a3, -⟩ := q0.four
 go_enter Tryz.func35, Tryz.ntmps35
 go_wp2_with fail
 refine (Zbo hA.out hk).mono ?_
 rintro e w1 ⟨rfl, hb1⟩
 have hB1 : Below w.heap.size w w1 := hB0.trans (hb1.mono hB0.size)
 replace q0 := Zc hb1 q0
 replace hA := Za (hA.out.below hb1)
 replace hD := Za (hD.out.below hb1)
 clear hW0 a0 a1 a2 a3 hb1
 obtain ⟨a0, a1, a2, a3, -⟩ := q0.four
 go_wp2_with fail
 refine (Zbo hD.out (by decide)).mono ?_
 rintro e w2 ⟨rfl, hb2⟩
 have hB2 : Below w.heap.size w w2 := hB1.trans (hb2.mono hB1.size)
 replace q0 := Zc hb2 q0
 clear a0 a1 a2 a3 hb2
 obtain ⟨a0, a1, a2, a3, -⟩ := q0.four
 go_wp2_with fail
 go_ret
 exact ⟨rfl, hB2⟩
theorem Zm5 (na : Bool) (A B : Option Addr) (n c m d : Nat) (za zb : Int) (w : World) (h1 : Wd w na A n c za) (h2 : Wd w false B m d zb) (hp : 0 < zb) (hg : Nat.gcd za.natAbs zb.natAbs ≠ 1) :
    Calls Tryz.prog 35 #[.agg #[.bool na, .slice A n c, .bool false, .slice B m d]] w fun e w' => e = .returned (.int .i64 8) /\ Below w.heap.size w w' := by
 have hmx : Tryz.prog.follows .mixedOrders = true := by kernel_rfl
 have hm0 : 0 < m := by rw [<- h2.lim.len]; exact length_digits_pos.2 (by omega)
 have hm0' : ((m : Int) == 0) = false := by simp; omega
 have hm := h2.2.1
 have hgs := Zc3 h1.small h2.small
 obtain ⟨G, hG0⟩ : ∃ G, Nat.gcd za.natAbs zb.natAbs = G := ⟨_, rfl⟩
 rw [hG0] at hg hgs
 replace hg := Za hg
 obtain ⟨W0, hW0, hB0, q0, s0⟩ := Za8 w 45 #[.bool na, .slice A n c, .bool false, .slice B m d]
 have hA := Za (And.intro (h1.below hB0) (h2.below hB0))
 clear h1 h2
 obtain ⟨a0, a1, a2, a3, -⟩ := q0.four
 replace q0 := Za q0
 go_enter Tryz.func35, Tryz.ntmps35
 go_wp2_with fail
 refine (Zbo hA.out.1.lim hA.out.1.ok).mono ?_
 rintro e w1 ⟨rfl, hb1⟩
 have hB1 : Below w.heap.size w w1 := hB0.trans (hb1.mono hB0.size)
 replace hA := Za (And.intro (hA.out.1.below hb1) (hA.out.2.below hb1))
 replace q0 := Za (Zc hb1 q0.out)
 clear a0 a1 a2 a3 hb1 hB0 hW0
 obtain ⟨a0, a1, a2, a3, -⟩ := q0.out.four
 go_wp2_with fail
 refine (Zbo hA.out.2.lim hA.out.2.ok).mono ?_
 rintro e w2 ⟨rfl, hb2⟩
 have hB2 : Below w.heap.size w w2 := hB1.trans (hb2.mono hB1.size)
 replace hA := Za (And.intro (hA.out.1.below hb2) (hA.out.2.below hb2))
 replace q0 := Za (Zc hb2 q0.out)
 clear a0 a1 a2 a3 hb2 hB1
 obtain ⟨a0, a1, a2, a3, -⟩ := q0.out.four
 go_wp2_with fail
 refine (Zjl na false A B n c m d za zb w2 hA.out.1 hA.out.2).mono ?_
 rw [hG0]
 rintro e w3 ⟨hb3, ng, Ag, kg, cg, code, rfl, hR⟩
 have hG := Za (hR.small (by rw [Int.natAbs_natCast]; exact hgs))
 have hB3 : Below w.heap.size w w3 := hB2.trans (hb3.mono hB2.size)
 clear a0 a1 a2 a3 hb3 hB2 q0 hA hR
 obtain ⟨W4, hW4, hB4, q4, kW, kB, s4⟩ := Zn 43 #[.bool ng, .slice Ag kg cg] hB3 hB3.size
 replace hG := Za (kW _ _ _ _ _ hG.out)
 clear kW kB
 obtain ⟨g0, g1, -⟩ := q4.two
 replace q4 := Za q4
 go_wp2_with fail
 refine Zak [] (fun W' => W'.cell? ⟨w3.heap.size, 0, none⟩ = some (.bool ng) /\ W'.cell? ⟨w3.heap.size, 1, none⟩ = some (.slice Ag kg cg)) hmx ⟨g0, g1⟩ (fun _ => ?_)
 refine Zij 1 [0] rfl (by kernel_rfl) ⟨g0, g1⟩ ?_
 (refine tk1 (v := ?_) rfl (Or.inl ⟨by kernel_rfl, ?_⟩) ?_; rotate_left; (· intro W2 hSw; (try dsimp only at hSw); go_simp; try with_reducible rfl); try simp only [Act.put, Zfg, Zfj, Zfc, putG_a, putG_s, putG_z])
 refine tk0 ?_
 refine Ze (i := 1) rfl (by kernel_rfl) (fun K hK => ?_)
 go_simp
 refine (Zez 1 W4.drew (by omega) (by omega)).mono ?_
 rintro e w5 ⟨hb5, n1, A1, k1, c1, rfl, hO⟩
 replace hb5 := Zq hb5
 have hB5 : Below w.heap.size w w5 := hB4.trans (hb5.mono (by show w.heap.size <= W4.heap.size; have := hB3.size; omega))
 replace hG := Za (hG.out.below hb5)
 replace q4 := Za (Zc hb5 q4.out)
 clear g0 g1
 obtain ⟨g0, g1, -⟩ := q4.out.two
 refine hK.out _ _ (fun _ => ⟨g0, g1⟩) ?_
 clear hK K
 try simp only [Act.put, Zfg, Zfj, Zfc]
 refine Ze (i := 2) rfl (by kernel_rfl) (fun K hK => ?_)
 go_simp
 refine (Zgs ng n1 Ag A1 kg cg k1 c1 _ _ w5 hG.out.lim hO.lim).mono ?_
 have hsm : Zf7 ng n1 (digits (Int.natAbs ((G : Nat) : Int))) (digits (Int.natAbs 1)) = false := by have h1 := hG.out.1; have h2 := hO.1; rw [h1, h2]; unfold Zf7; have := hg.out; simp [Zep, Zh3]; omega
 rw [hsm]
 rintro e w6 ⟨rfl, hb6⟩
 have hB6 : Below w.heap.size w w6 := hB5.trans (hb6.mono hB5.size)
 replace q4 := Za (Zc hb6 q4.out)
 clear g0 g1
 obtain ⟨g0, g1, -⟩ := q4.out.two
 refine hK.out _ _ (fun _ => ⟨g0, g1⟩) ?_
 clear hK K
 try simp only [Act.put, Zfg, Zfj, Zfc]
 refine Zij 1 [3] rfl (by kernel_rfl) ⟨g0, g1⟩ ?_
 (refine tk1 (v := ?_) rfl (Or.inl ⟨by kernel_rfl, ?_⟩) ?_; rotate_left; (· intro W2 hSw; (try dsimp only at hSw); go_simp; try with_reducible rfl); try simp only [Act.put, Zfg, Zfj, Zfc, putG_a, putG_s, putG_z])
 refine tk0 ?_
 refine Zk (by kernel_rfl) ?_ _
 refine OnlyNormal.normal ?_
 go_wp2_with fail
 go_ret
 exact ⟨rfl, hB6⟩
theorem Zn9 (na nb : Bool) (A B : Option Addr) (n c m d : Nat) (la lb : List Nat) (w : World) (ha : Lim w A n c la) (hb : Lim w B m d lb) (x : Bool) (hx : okF na la nb lb = x) :
    Calls Tryz.prog 35 #[.agg #[.bool na, .slice A n c, .bool nb, .slice B m d]] w fun e w' => e = .returned (.int .i64 (Zfs x)) /\ Below w.heap.size w w' := by
 cases x
 ·simp only [okF, Bool.and_eq_false_iff, Bool.not_eq_false', decide_eq_false_iff_not] at hx
  by_cases h1 : okW na la = true
  case neg => exact Zmz na nb A B n c m d la lb w ha hb (by simpa using h1)
  by_cases h2 : okW nb lb = true
  case neg => exact Zmh na nb A B n c m d la lb w ha hb h1 (by simpa using h2)
  have hA := Wd.of_ok ha h1
  have hD := Wd.of_ok hb h2
  cases nb
  ·by_cases hz : 0 < lb.length
   ·have e3 : sg false (val lb) = (val lb : Nat) := rfl
    rw [e3] at hD
    have h2' := (Zid hb.lt).1 h2
    have e2 : (sg false (val lb)).natAbs = val lb := Z3 _ _
    rw [e2] at h2'
    have hp : 0 < val lb := by
     rw [h2'.2.2] at hz
     exact length_digits_pos.1 hz
    refine Zm5 na A B n c m d _ _ w hA hD (by omega) ?_
    rw [Z3, Int.natAbs_natCast]
    rcases hx with (((hx | hx) | hx) | hx) | hx
    ·rw [h1] at hx; cases hx
    ·rw [h2] at hx; cases hx
    ·cases hx
    ·omega
    ·exact hx
   ·have hl0 : lb = [] := List.eq_nil_of_length_eq_zero (by omega)
    subst hl0
    have hm : m = 0 := hb.len.symm
    subst hm
    exact Zmo na A B n c d la w ha hb h1
  ·exact Zms na A B n c m d la lb w ha hb h1 h2
 ·exact Zkg na nb A B n c m d _ w (Zj0 ha hb hx)
theorem Few_any (na nb : Bool) (A B : Option Addr) (n c m d : Nat) (w : World) (hn : n <= maxLen) (hm : m <= maxLen) :
    Calls Tryz.prog 36 #[.agg #[.bool na, .slice A n c, .bool nb, .slice B m d]] w fun e w' => e = .returned (.int .i64 (max n m : Nat)) /\ Below w.heap.size w w' := by
 unfold maxLen at hn hm
 obtain ⟨W0, hW0, hB0, q0, s0⟩ := Za8 w 45 #[.bool na, .slice A n c, .bool nb, .slice B m d]
 obtain ⟨a0, a1, a2, a3, -⟩ := q0.four
 have hx : max (n : Int) (m : Int) = ((max n m : Nat) : Int) := by omega
 go_enter Tryz.func36, Tryz.ntmps36
 go_wp2_with fail
 go_ret
 exact ⟨rfl, (by first | exact hB0 | exact Zf hB0 _)⟩
def Zcy (k : Nat) : Bool := (decide (2 < k) && decide (k <= 8)) || decide (20 < k)
theorem Zlv (na nb : Bool) (A B : Option Addr) (n c m d : Nat) (w : World) (hn : n <= maxLen) (hm : m <= maxLen) (b : Bool) (hb : Zcy (max n m) = b) :
    Calls Tryz.prog 49 #[.agg #[.bool na, .slice A n c, .bool nb, .slice B m d]] w fun e w' => e = .returned (.bool b) /\ Below w.heap.size w w' := by
 obtain ⟨W0, hW0, hB0, q0, s0⟩ := Za8 w 45 #[.bool na, .slice A n c, .bool nb, .slice B m d]
 obtain ⟨a0, a1, a2, a3, -⟩ := q0.four
 obtain ⟨k, hk⟩ : ∃ k, max n m = k := ⟨_, rfl⟩
 rw [hk] at hb
 have hkl : k <= maxLen := by omega
 unfold maxLen at hkl
 go_enter Tryz.func49, Tryz.ntmps49
 go_wp2_with fail
 refine (Few_any na nb A B n c m d W0 hn hm).mono ?_
 rw [hk]
 rintro e w1 ⟨rfl, hb1⟩
 have hB1 := hB0.trans (hb1.mono hB0.size)
 clear hn hm hk
 unfold Zcy at hb
 by_cases h1 : 2 < k
 ·have t1 : decide ((2 : Int) < (k : Int)) = true := decide_eq_true (by omega)
  by_cases h2 : k <= 8
  ·have t2 : decide ((k : Int) <= 8) = true := decide_eq_true (by omega)
   obtain rfl : b = true := by rw [<- hb, decide_eq_true h1, decide_eq_true h2]; rfl
   clear hb
   go_wp2_with fail
   go_ret
   exact ⟨rfl, hB1⟩
  ·have t2 : decide ((k : Int) <= 8) = false := decide_eq_false (by omega)
   have t3 : decide ((20 : Int) < (k : Int)) = b := by rw [<- hb, decide_eq_true h1, decide_eq_false h2]; simp only [Bool.and_false, Bool.false_or]; exact decide_eq_decide.2 (by omega)
   have t3' : decide (20 < k) = b := by rw [<- hb, decide_eq_true h1, decide_eq_false h2]; rfl
   clear hb
   go_wp2_with fail
   go_ret
   exact ⟨rfl, hB1⟩
 ·have t1 : decide ((2 : Int) < (k : Int)) = false := decide_eq_false (by omega)
  have t3 : decide ((20 : Int) < (k : Int)) = b := by rw [<- hb, decide_eq_false h1]; simp only [Bool.false_and, Bool.false_or]; exact decide_eq_decide.2 (by omega)
  have t3' : decide (20 < k) = b := by rw [<- hb, decide_eq_false h1]; rfl
  clear hb
  go_wp2_with fail
  go_ret
  exact ⟨rfl, hB1⟩
def FX.fine (e : FX) : Bool := decide (e.few <= 8) && e.ok
def Za7 (es : List FX) : Bool := es.all FX.fine
theorem Zgh (A : Option Addr) (n c : Nat) (es : List FX) (w : World) (h : FXL w A n c es) (b : Bool) (hb : Za7 es = b) :
    Calls Tryz.prog 78 #[.slice A n c] w fun e w' => e = .returned (.bool b) /\ Below w.heap.size w w' := by
 have hl := h.1
 have hnc := h.2.1
 have hcm := h.2.2.1
 unfold maxLen at hcm
 replace hl := Za hl
 replace hb := Za hb
 replace h := Za h
 go_enter Tryz.func78, Tryz.ntmps78
 go_wp2_with fail
 go_loopw [3] (fun iv wr => ∃ i : Nat, i <= n /\ iv = .int .i64 i /\ Hid (∀ j e, j < i -> es[j]? = some e -> e.fine = true) /\ Below w.heap.size w wr) (fun iv _ => n - (intOf iv).toNat)
 case atStart => exact ⟨0, Nat.zero_le _, rfl, Za (fun j e hj => by omega), Below.refl _ _⟩
 case round =>
  obtain ⟨i, hik, rfl, hall, hBp⟩ := hrel
  by_cases hin : i < n
  case neg =>
   obtain rfl : n = i := by omega
   have htk : decide ((n : Int) < (n : Int)) = false := by simp
   obtain rfl : b = true := by
    rw [<- hb.out]
    unfold Za7
    rw [List.all_eq_true]
    intro e he
    obtain ⟨j, hj, hje⟩ := List.getElem_of_mem he
    exact hall.out j e (by rw [hl.out] at hj; exact hj) (by rw [List.getElem?_eq_getElem hj, hje])
   go_wp2_with fail
   go_ret
   exact ⟨rfl, hBp⟩
  have htk : decide ((i : Int) < (n : Int)) = true := decide_eq_true (by omega)
  obtain ⟨g, o, e, rfl, he, hc, hLa, hLb⟩ := (h.out.below hBp).at_ hin
  obtain ⟨c0, c1, c2, c3⟩ := hc
  have ha0 := hLa.2.1
  have ha1 := hLa.2.2.1
  have hb0 := hLb.2.1
  have hb1 := hLb.2.2.1
  unfold maxLen at ha1 hb1
  have bad : e.fine = false -> b = false := fun hf => by
   rw [<- hb.out]
   unfold Za7
   rw [List.all_eq_false]
   exact ⟨e, List.mem_of_getElem? he, by rw [hf]; decide⟩
  replace bad := Za bad
  by_cases h1 : 8 < e.n
  ·have t1 : decide ((8 : Int) < (e.n : Int)) = true := decide_eq_true (by omega)
   obtain rfl : b = false := bad.out (by unfold FX.fine FX.few; rw [decide_eq_false (by omega)]; rfl)
   replace he := Za he
   go_wp2_with fail
   go_ret
   exact ⟨rfl, hBp⟩
  have t1 : decide ((8 : Int) < (e.n : Int)) = false := decide_eq_false (by omega)
  by_cases h2 : 8 < e.m
  ·have t2 : decide ((8 : Int) < (e.m : Int)) = true := decide_eq_true (by omega)
   obtain rfl : b = false := bad.out (by unfold FX.fine FX.few; rw [decide_eq_false (by omega)]; rfl)
   replace he := Za he
   go_wp2_with fail
   go_ret
   exact ⟨rfl, hBp⟩
  have t2 : decide ((8 : Int) < (e.m : Int)) = false := decide_eq_false (by omega)
  obtain ⟨x, hx⟩ : ∃ x, e.ok = x := ⟨_, rfl⟩
  have hC := Za (fun W1 (hb : Below wr.heap.size wr W1) => Zn9 e.na e.nb e.A e.B e.n e.c e.m e.d e.la e.lb W1 (hLa.below hb) (hLb.below hb) x hx)
  clear hLa hLb
  cases x
  ·obtain rfl : b = false := bad.out (by unfold FX.fine; rw [hx]; simp)
   replace he := Za he
   clear hx
   go_wp2_with fail
   refine (hC.out _ (by first | exact Below.refl _ _ | exact Zf (Below.refl _ _) _)).mono ?_
   rintro e' w1 ⟨rfl, hb1⟩
   simp only [Zfs, Bool.false_eq_true, if_false]
   go_wp2_with fail
   go_ret
   exact ⟨rfl, (by first | exact hBp.trans (hb1.mono hBp.size) | exact (Zf hBp _).trans (hb1.mono hBp.size))⟩
  ·have hall2 : Hid (∀ j e, j < i + 1 -> es[j]? = some e -> e.fine = true) := Za (fun j e' hj he' => by
     rcases Nat.lt_or_ge j i with h' | h'
     ·exact hall.out j e' h' he'
     ·obtain rfl : j = i := by omega
      rw [he] at he'
      cases he'
      unfold FX.fine FX.few
      rw [hx, decide_eq_true (by omega)]; rfl)
   replace he := Za he
   clear hx
   go_wp2_with fail
   refine (hC.out _ (by first | exact Below.refl _ _ | exact Zf (Below.refl _ _) _)).mono ?_
   rintro e' w1 ⟨rfl, hb1⟩
   simp only [Zfs, if_true]
   go_wp2_with fail
   go_roundw
   case rel => exact ⟨i + 1, by omega, by go_num, hall2, (by first | exact hBp.trans (hb1.mono hBp.size) | exact (Zf hBp _).trans (hb1.mono hBp.size))⟩
   case measure => simp [intOf]; omega
end Go.Proofs.YtigdclhagmnopaaGreat
