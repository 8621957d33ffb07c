/- The reference's normal. The reference's System. The -/
import Derived.Deep.LoopGhost
import Derived.Test.YtigdclhagmnopaaGreatZm47
set_option maxRecDepth 100000
set_option maxHeartbeats 8000000
set_option linter.unusedSimpArgs false
set_option linter.unusedVariables false
namespace Go.Proofs.YtigdclhagmnopaaGreat
open Go.RowKit
attribute [local go_sem] Zh
def Zed (rs : List RI) (ws : List Int) (n m i : Nat) : List Rat := (List.range m).map fun k => ((Zar ws (Zaa rs i) (Zaa rs k) n : Int) : Rat)
theorem Zfb (rs : List RI) (ws : List Int) (n m i : Nat) : (Zed rs ws n m i).length = m := by unfold Zed; simp
theorem Zsq {rs : List RI} {ws : List Int} {n m i k : Nat} (h : k < m) : (Zed rs ws n m i).take k ++ [((Zar ws (Zaa rs i) (Zaa rs k) n : Int) : Rat)] = (Zed rs ws n m i).take (k + 1) := by
 rw [List.take_add_one]
 unfold Zed
 rw [List.getElem?_map, List.getElem?_range h]; rfl
theorem Zf3 (rs : List RI) (ws : List Int) (n m : Nat) : (Zes rs ws n m).length = m := by unfold Zes; simp
theorem nrmM_at {rs : List RI} {ws : List Int} {n m i : Nat} (h : i < m) : (Zes rs ws n m).take i ++ [Zed rs ws n m i] = (Zes rs ws n m).take (i + 1) := by
 rw [List.take_add_one]
 unfold Zes
 rw [List.getElem?_map, List.getElem?_range h]; rfl
theorem Zk2 (A C : Option Addr) (n c e0 m : Nat) (rs : List RI) (ws : List Int) (w : World) (h : MIL w A n c rs) (hw : LimI w C n e0 ws) (hn0 : 0 < n) (hn9 : n <= 900) (hm0 : 0 < m) (hm9 : m <= 900) (hrow : ∀ r ∈ rs, r.n = m) :
    Calls Tryz.prog 62 #[.slice A n c, .slice C n e0] w fun e w' => ∃ v L, e = .returned v /\ Below w.heap.size w w' /\ MatOA 40 45 w' w.heap.size v L (Zes rs ws n m) := by
 obtain ⟨iF, hi, hz0, hz1, hz2⟩ := info_parts Zdq
 obtain ⟨iS, ki, kz0, kz1, kz2⟩ := info_parts Zg0
 have hmx : Tryz.prog.follows .mixedOrders = true := by kernel_rfl
 have hne : (40 : TypeId) ≠ 45 := by decide
 obtain ⟨g0, o0, r0, hA0, hr0, cr0, -⟩ := h.at_ (i := 0) hn0
 have hr0n := hrow r0 (List.mem_of_getElem? hr0)
 rw [Nat.add_zero, hr0n] at cr0
 subst hA0
 have b00 : (0 : Int) < (n : Int) := by omega
 replace hrow := Za hrow
 replace h := Za h
 replace hw := Za hw
 clear hr0
 go_enter Tryz.func62, Tryz.ntmps62
 go_wp2_with fail
 go_loopg [5, 6] m (fun k ov iv wr => ∃ (i : Nat) (L : List RS), i + k = m /\ iv = .int .i64 i /\ MatOA 40 45 wr w.heap.size ov L ((Zes rs ws n m).take i) /\ Below w.heap.size w wr)
 case atStart => exact ⟨0, [], by omega, rfl, MatOA.nil _ _ _ _, Below.refl _ _⟩
 case round =>
  obtain ⟨i, L, hik, rfl, hM, hB⟩ := hrel
  have k0 := Zb hB cr0
  cases gk with
  | zero =>
   obtain rfl : i = m := by omega
   have t1 : decide ((i : Int) < (i : Int)) = false := by simp
   rw [List.take_of_length_le (by rw [Zf3]; exact Nat.le_refl _)] at hM
   replace hM := Za hM
   go_wp2_with fail
   go_ret
   exact ⟨_, L, rfl, hB, hM.out⟩
  | succ j =>
   obtain rfl : j = m - (i + 1) := by omega
   have him : i < m := by omega
   have t1 : decide ((i : Int) < (m : Int)) = true := decide_eq_true (by omega)
   replace hM := Za hM
   go_wp2_with fail
   obtain ⟨b, hbb⟩ : ∃ b, wr.heap.size = b := ⟨_, rfl⟩
   obtain ⟨wo, rfl⟩ : ∃ wo : World, wo = wr := ⟨_, rfl⟩
   clear k0
   replace hbb := Za hbb
   go_loopg [7, 8] m (fun k rv kv wx => ∃ t : Nat, t + k = m /\ kv = .int .i64 t /\ OwnF 45 wx b rv ((Zed rs ws n m i).take t) /\ Below b wo wx)
   case atStart => exact ⟨0, by omega, rfl, OwnF.nil _ _ _, Below.refl _ _⟩
   case round =>
    obtain ⟨t, htk, rfl, hO, hBx⟩ := hrel
    have hbw : b <= wr.heap.size := Nat.le_trans (Nat.le_of_eq hbb.out.symm) hBx.size
    have hwb : w.heap.size <= b := by rw [<- hbb.out]; exact hB.size
    have hBw : Below w.heap.size w wr := hB.trans (hBx.mono hwb)
    have k1 := Zb hBw cr0
    cases gk with
    | zero =>
     obtain rfl : m = t := by omega
     have t3 : decide ((m : Int) < (m : Int)) = false := by simp
     rw [List.take_of_length_le (by rw [Zfb]; exact Nat.le_refl _)] at hO
     obtain ⟨vA, vc, rfl, -⟩ := hO.fl
     rw [Zfb] at hO ⊢
     have hMw := hM.out.kept (by rw [hbb.out]; exact hBx)
     have hbA : Below wr.heap.size wr (wr.alloc (.cells #[.slice vA m vc] 40)) := (Below.refl _ _).alloc (Nat.le_refl _) _
     have hMA := hMw.kept hbA
     have hFA := hO.kept hbA
     have hRA := Zij wr vA m vc 40
     have hown := hMA.1
     have hLl : L.length = i := by
      have := hM.out.2.1
      rw [this, List.length_take, Zf3]; omega
     have hll : L.length + 1 <= 1000 := by omega
     have hbs : w.heap.size <= (wr.alloc (.cells #[.slice vA m vc] 40)).heap.size := Nat.le_trans hBw.size hbA.size
     have hB2 := hBw.trans (hbA.mono hBw.size)
     replace hMA := Za hMA
     replace hFA := Za hFA
     clear hMw hO
     go_wp2_with (first
      | (at_builtin; refine Zde _ rfl (.tmp 33) (.tmp 35) 22 rfl w.heap.size 40 iS Tryz.underlying22 ki kz0 kz1 kz2 _ _ rfl hown _ _ 1 1 [⟨vA, m, vc⟩] rfl hRA rfl hll hbs ?_; intro v5 w5 hO5 hg5 hk5))
     have hM5 := hMA.out.snoc hne (r := ⟨vA, m, vc⟩) hFA.out hwb (fun s hs k hk => by
      obtain ⟨j, hj, rfl⟩ := List.getElem_of_mem hs
      obtain ⟨cs, a1, -, -⟩ := (hM.out.2.2.1 j _ (List.getElem?_eq_getElem hj)).ownBlk k hk
      rw [<- hbb.out]
      exact a1.lt) hO5 hg5 hk5
     rw [nrmM_at him] at hM5
     have hB5 := hB2.grown hg5 hbs (fun k hk => hown.row_ge k hk)
     replace hM5 := Za hM5
     go_roundg (m - (i + 1))
     case measure => omega
     case rel => exact ⟨i + 1, _, by omega, by go_num, hM5.out, hB5⟩
    | succ k2 =>
     obtain rfl : k2 = m - (t + 1) := by omega
     have htm : t < m := by omega
     have t3 : decide ((t : Int) < (m : Int)) = true := decide_eq_true (by omega)
     replace hO := Za hO
     go_wp2_with fail
     refine (Zm9 (some ⟨g0, o0, none⟩) none C n c 0 0 e0 i t ws (Zaa rs i) (Zaa rs t) wr (hw.out.below hBw) hn9 (fun r _ => h.out.i64 _ _) (fun r _ => h.out.i64 _ _)
      (fun W r hbW hr => Zqo _ _ n c 0 0 rs r i W ((h.out.below hBw).below hbW) hr (fun q hq => by rw [hrow.out q (List.mem_of_getElem? hq)]; exact him) (by omega) (by omega))
      (fun W r hbW hr => Zqo _ _ n c 0 0 rs r t W ((h.out.below hBw).below hbW) hr (fun q hq => by rw [hrow.out q (List.mem_of_getElem? hq)]; exact htm) (by omega) (by omega))).mono ?_
     rintro e w1 ⟨hb1, na, A1, q1, c1, nb, B1, m1, d1, rfl, hf⟩
     have hO1 := hO.out.kept hb1
     have hbA : Below w1.heap.size w1 (w1.alloc (.cells #[.bool na, .slice A1 q1 c1, .bool nb, .slice B1 m1 d1] 45)) := (Below.refl _ _).alloc (Nat.le_refl _) _
     have hOA := hO1.kept hbA
     have hfA := hf.below hbA
     have hbl : Blk (w1.alloc (.cells #[.bool na, .slice A1 q1 c1, .bool nb, .slice B1 m1 d1] 45)) w1.heap.size 45 #[.bool na, .slice A1 q1 c1, .bool nb, .slice B1 m1 d1] := Blk.new _ _ _
     have hBA := (hBx.trans (hb1.mono hbw)).trans (hbA.mono (Nat.le_trans hbw hb1.size))
     have hbs : b <= (w1.alloc (.cells #[.bool na, .slice A1 q1 c1, .bool nb, .slice B1 m1 d1] 45)).heap.size := Nat.le_trans hbw (Nat.le_trans hb1.size hbA.size)
     have hlen : ((Zed rs ws n m i).take t).length + 1 <= 1000 := by rw [List.length_take, Zfb]; omega
     have hR := Zdh w1.heap.size hbl
     clear hf hO1 hb1
     go_wp2_with (first
      | (at_builtin; refine Zbq _ rfl (.tmp 25) (.tmp 31) 40 rfl b 45 iF Tryz.underlying40 hi hz0 hz1 hz2 _ _ rfl hOA _ _ _ _ [⟨na, A1, q1, c1, nb, B1, m1, d1, ((Zar ws (Zaa rs i) (Zaa rs t) n : Int) : Rat)⟩] rfl hR rfl (by intro e he; rw [List.mem_singleton] at he; subst he; exact hfA) hlen hbs ?_; intro v2 w2 hO2 hg2 hk2))
     have hO3 : OwnF 45 w2 b v2 ((Zed rs ws n m i).take (t + 1)) := by
      rw [<- Zsq htm]; exact hO2
     have hB3 := hBA.grown hg2 hbs (fun k hk => hOA.row_ge k hk)
     replace hO3 := Za hO3
     go_roundg (m - (t + 1))
     case measure => omega
     case rel => exact ⟨t + 1, by omega, by go_num, hO3.out, hB3⟩
def Zey (side : Bool) (rs : List RI) (right weights : List Int) : Bool :=
 !decide (n0I rs = 0) && (decide (weights.length = rs.length) && (!Zcx 1 weights && ((!side || (decide (right.length = rs.length) && !Zcx (-1099511627776) right)) && rs.all (Zd1 (n0I rs)))))
def Zjd (side : Bool) (rs : List RI) (right weights : List Int) : Int := if Zcp rs = true then 4 else if Zey side rs right weights = true then 0 else 8
theorem Zl7 (rs : List RI) (rr ws : List Int) : Zjd true rs rr ws = Zcm rs rr ws := by
 unfold Zjd Zcm
 have : Zey true rs rr ws = Zkg rs rr ws := by
  unfold Zey Zkg
  cases decide (n0I rs = 0) <;> cases decide (ws.length = rs.length) <;> cases decide (rr.length = rs.length) <;> cases Zcx 1 ws <;> cases Zcx (-1099511627776) rr <;> rfl
 rw [this]
theorem Zka (rs : List RI) (rr ws : List Int) : Zjd false rs rr ws = Zcm rs (List.replicate (min rs.length 200) 0) ws := by
 unfold Zjd Zcm
 cases hl : Zcp rs with
 | true => rfl
 | false =>
  have h200 : rs.length <= 200 := by
   unfold Zcp at hl
   simp only [Bool.or_eq_false_iff, decide_eq_false_iff_not] at hl
   omega
  have h1 : Zcx (-1099511627776) (List.replicate (min rs.length 200) 0) = false := by
   unfold Zcx
   rw [List.any_eq_false]
   intro x hx
   rw [List.eq_of_mem_replicate hx]
   decide
  have h2 : decide ((List.replicate (min rs.length 200) (0 : Int)).length = rs.length) = true := by
   rw [decide_eq_true_eq, List.length_replicate]; omega
  have : Zey false rs rr ws = Zkg rs (List.replicate (min rs.length 200) 0) ws := by
   unfold Zey Zkg
   rw [h1, h2]
   cases decide (n0I rs = 0) <;> cases decide (ws.length = rs.length) <;> cases Zcx 1 ws <;> rfl
  rw [this]
theorem Zgy {s : Bool} {rs : List RI} {a b : List Int} (h : Zcp rs = true) : Zjd s rs a b = 4 := by unfold Zjd; rw [if_pos h]
theorem Zoq {s : Bool} {rs : List RI} {a b : List Int} (h : Zcp rs = false) (h0 : Zey s rs a b = false) : Zjd s rs a b = 8 := by unfold Zjd; rw [if_neg (by simp [h]), if_neg (by simp [h0])]
theorem Zrd {s : Bool} {rs : List RI} {a b : List Int} (h : Zcp rs = false) (h0 : Zey s rs a b = true) : Zjd s rs a b = 0 := by unfold Zjd; rw [if_neg (by simp [h]), if_pos h0]
theorem Zfr (A B C : Option Addr) (n c m d k e0 : Nat) (rs : List RI) (rr ws : List Int) (w : World) (h : MIL w A n c rs) (hr : LimI w B m d rr) (hw : LimI w C k e0 ws) (E : Int) (hE : Zjd true rs rr ws = E) :
    Calls Tryz.prog 42 #[.slice A n c, .slice B m d, .slice C k e0, .bool true] w fun e w' => e = .returned (.int .i64 E) /\ Below w.heap.size w w' := by
 have hl := h.1
 have hnc := h.2.1
 have hcm := h.2.2.1
 have hrl := hr.1
 have hwl := hw.1
 have hrm := hr.nlen
 have hwm := hw.nlen
 unfold maxLen at hcm hrm hwm
 replace hE := Za hE
 by_cases h12 : 200 < n
 ·have t1 : decide ((200 : Int) < (n : Int)) = true := decide_eq_true (by omega)
  obtain rfl : E = 4 := by rw [<- hE.out]; exact Zgy (by unfold Zcp; rw [hl, decide_eq_true h12]; rfl)
  go_enter Tryz.func42, Tryz.ntmps42
  go_wp2_with fail
  go_ret
  exact ⟨rfl, by first | exact Below.refl _ _ | exact Ze (Below.refl _ _) _⟩
 have t1 : decide ((200 : Int) < (n : Int)) = false := decide_eq_false (by omega)
 have hlong : ∀ r, r ∈ rs -> 12 < r.n -> E = 4 := fun r hr1 hr2 => by
  rw [<- hE.out]
  refine Zgy ?_
  unfold Zcp
  rw [Bool.or_eq_true, List.any_eq_true]
  exact .inr ⟨r, hr1, by unfold RI.long; simpa using hr2⟩
 have hshort : (∀ (j : Nat) (r : RI), j < n -> rs[j]? = some r -> r.n <= 12) -> Zcp rs = false := fun hf => by
  unfold Zcp
  rw [hl, decide_eq_false h12, Bool.false_or, List.any_eq_false]
  intro e he
  obtain ⟨j, hj, hje⟩ := List.getElem_of_mem he
  have := hf j e (by rw [hl] at hj; exact hj) (by rw [List.getElem?_eq_getElem hj, hje])
  unfold RI.long; simp; omega
 replace hlong := Za hlong
 replace hshort := Za hshort
 replace h := Za h
 replace hl := Za hl
 replace hr := Za hr
 replace hw := Za hw
 replace hrl := Za hrl
 replace hwl := Za hwl
 go_enter Tryz.func42, Tryz.ntmps42
 go_wp2_with fail
 go_loopw [9] (fun iv wr => ∃ i : Nat, i <= n /\ iv = .int .i64 i /\ Hid (∀ (j : Nat) (r : RI), j < i -> rs[j]? = some r -> r.n <= 12) /\ Below w.heap.size w wr) (fun iv _ => n - (intOf iv).toNat)
 case atStart => exact ⟨0, Nat.zero_le _, rfl, Za (fun j e hj => by omega), Below.refl _ _⟩
 case round =>
  obtain ⟨i, hik, rfl, hall, hBp⟩ := hrel
  by_cases hin : i < n
  case pos =>
   have htk : decide ((i : Int) < (n : Int)) = true := decide_eq_true (by omega)
   obtain ⟨g, o, r, rfl, he, c0, hL⟩ := (h.out.below hBp).at_ hin
   have hrn := hL.nlen
   unfold maxLen at hrn
   by_cases hx : 12 < r.n
   ·obtain rfl : E = 4 := hlong.out r (List.mem_of_getElem? he) hx
    have t2 : decide ((12 : Int) < (r.n : Int)) = true := decide_eq_true (by omega)
    replace he := Za he
    clear hL
    go_wp2_with fail
    go_ret
    exact ⟨rfl, by first | exact hBp | exact Ze hBp _⟩
   ·have t2 : decide ((12 : Int) < (r.n : Int)) = false := decide_eq_false (by omega)
    have hall2 : Hid (∀ (j : Nat) (r : RI), j < i + 1 -> rs[j]? = some r -> r.n <= 12) := Za (fun j e' hj he' => by
     rcases Nat.lt_or_ge j i with h' | h'
     ·exact hall.out j e' h' he'
     ·obtain rfl : j = i := by omega
      rw [he] at he'
      cases he'
      omega)
    replace he := Za he
    clear hL
    go_wp2_with fail
    go_roundw
    case rel => exact ⟨i + 1, by omega, by go_num, hall2, (by first | exact hBp | exact Ze hBp _)⟩
    case measure => simp [intOf]; omega
  obtain rfl : n = i := by omega
  have htk : decide ((n : Int) < (n : Int)) = false := by simp
  have hlm := hshort.out hall.out
  have hbad : Zey true rs rr ws = false -> E = 8 := fun hf => by rw [<- hE.out]; exact Zoq hlm hf
  have hgood : Zey true rs rr ws = true -> E = 0 := fun hf => by rw [<- hE.out]; exact Zrd hlm hf
  unfold Zey at hbad hgood
  rw [hrl.out, hwl.out, hl.out] at hbad hgood
  rw [Bool.not_true, Bool.false_or] at hbad hgood
  replace hbad := Za hbad
  replace hgood := Za hgood
  clear hE hall hshort hlong hlm
  by_cases hn0 : n = 0
  ·subst hn0
   obtain rfl : E = 8 := hbad.out (by
    have : rs = [] := List.eq_nil_of_length_eq_zero hl.out
    rw [this]; rfl)
   clear h hgood hbad
   go_wp2_with fail
   go_ret
   exact ⟨rfl, by first | exact hBp | exact Ze hBp _⟩
  have t2 : ((n : Int) == 0) = false := by simp; omega
  have t2' : decide (n = 0) = false := by simpa using hn0
  obtain ⟨g, o, r0, rfl, he0, c0, hL0⟩ := h.out.at_ (i := 0) (by omega)
  have hr0l := hL0.nlen
  unfold maxLen at hr0l
  have hn0' := Zpp he0
  clear he0 hL0
  rw [Nat.add_zero] at c0
  have k0 := Zb hBp c0
  rw [hn0'] at hbad hgood
  by_cases hz : r0.n = 0
  ·obtain rfl : E = 8 := hbad.out (by rw [decide_eq_true hz]; rfl)
   have t3 : ((r0.n : Int) == 0) = true := by simp [hz]
   have t3' : decide (r0.n = 0) = true := by simpa using hz
   clear hbad hgood
   replace hn0' := Za hn0'
   replace hz := Za hz
   go_wp2_with fail
   go_ret
   exact ⟨rfl, by first | exact hBp | exact Ze hBp _⟩
  have t3 : ((r0.n : Int) == 0) = false := by simpa using hz
  have t3' : decide (r0.n = 0) = false := by simpa using hz
  rw [t3', Bool.not_false, Bool.true_and] at hbad hgood
  replace hn0' := Za hn0'
  replace hz := Za hz
  by_cases kn : k = n
  case neg =>
   have t4 : ((k : Int) == (n : Int)) = false := beq_eq_false_iff_ne.2 (by omega)
   have t4n : ((k : Int) != (n : Int)) = true := by rw [bne, t4]; rfl
   have t4' : decide (k = n) = false := by simpa using kn
   obtain rfl : E = 8 := hbad.out (by rw [t4']; rfl)
   clear hbad hgood
   replace kn := Za kn
   go_wp2_with fail
   go_ret
   exact ⟨rfl, by first | exact hBp | exact Ze hBp _⟩
  have t4 : ((k : Int) == (n : Int)) = true := beq_iff_eq.2 (by omega)
  have t4n : ((k : Int) != (n : Int)) = false := by rw [bne, t4]; rfl
  have t4' : decide (k = n) = true := by simpa using kn
  rw [t4', Bool.true_and] at hbad hgood
  replace kn := Za kn
  obtain ⟨xw, hxw⟩ : ∃ xw, Zcx 1 ws = xw := ⟨_, rfl⟩
  have hW := Za (fun W1 (hb : Below w.heap.size w W1) => Zdb C k e0 ws 1 W1 (hw.out.below hb) xw hxw)
  rw [hxw] at hbad hgood
  clear hxw hw
  cases xw
  case true =>
   obtain rfl : E = 8 := hbad.out rfl
   clear hbad hgood
   go_wp2_with fail
   refine (hW.out _ (by first | exact hBp | exact Ze hBp _)).mono ?_
   rintro e w1 ⟨rfl, hb1⟩
   have hB1 : Below w.heap.size w w1 := by first | exact (hBp).trans (hb1.mono (hBp).size) | exact (Ze (hBp) _).trans (hb1.mono (hBp).size)
   clear hb1
   have k1 := Zb hB1 c0
   simp only [Bool.not_false, Bool.not_true]
   go_wp2_with fail
   go_ret
   exact ⟨rfl, by first | exact hB1 | exact Ze hB1 _⟩
  rw [Bool.not_false, Bool.true_and] at hbad hgood
  by_cases mn : m = n
  case neg =>
   have t5 : ((m : Int) == (n : Int)) = false := beq_eq_false_iff_ne.2 (by omega)
   have t5n : ((m : Int) != (n : Int)) = true := by rw [bne, t5]; rfl
   have t5' : decide (m = n) = false := by simpa using mn
   obtain rfl : E = 8 := hbad.out (by rw [t5']; rfl)
   clear hbad hgood
   replace mn := Za mn
   go_wp2_with fail
   refine (hW.out _ (by first | exact hBp | exact Ze hBp _)).mono ?_
   rintro e w1 ⟨rfl, hb1⟩
   have hB1 : Below w.heap.size w w1 := by first | exact (hBp).trans (hb1.mono (hBp).size) | exact (Ze (hBp) _).trans (hb1.mono (hBp).size)
   clear hb1
   have k1 := Zb hB1 c0
   simp only [Bool.not_false, Bool.not_true]
   go_wp2_with fail
   go_ret
   exact ⟨rfl, by first | exact hB1 | exact Ze hB1 _⟩
  have t5 : ((m : Int) == (n : Int)) = true := beq_iff_eq.2 (by omega)
  have t5n : ((m : Int) != (n : Int)) = false := by rw [bne, t5]; rfl
  have t5' : decide (m = n) = true := by simpa using mn
  rw [t5', Bool.true_and] at hbad hgood
  replace mn := Za mn
  obtain ⟨xr, hxr⟩ : ∃ xr, Zcx (-1099511627776) rr = xr := ⟨_, rfl⟩
  have hR := Za (fun W1 (hb : Below w.heap.size w W1) => Zdb B m d rr (-1099511627776) W1 (hr.out.below hb) xr hxr)
  rw [hxr] at hbad hgood
  clear hxr hr
  cases xr
  case true =>
   obtain rfl : E = 8 := hbad.out rfl
   clear hbad hgood
   go_wp2_with fail
   refine (hW.out _ (by first | exact hBp | exact Ze hBp _)).mono ?_
   rintro e w1 ⟨rfl, hb1⟩
   have hB1 : Below w.heap.size w w1 := by first | exact (hBp).trans (hb1.mono (hBp).size) | exact (Ze (hBp) _).trans (hb1.mono (hBp).size)
   clear hb1
   have k1 := Zb hB1 c0
   simp only [Bool.not_false, Bool.not_true]
   go_wp2_with fail
   refine (hR.out _ (by first | exact hB1 | exact Ze hB1 _)).mono ?_
   rintro e w2 ⟨rfl, hb2⟩
   have hB2 : Below w.heap.size w w2 := by first | exact (hB1).trans (hb2.mono (hB1).size) | exact (Ze (hB1) _).trans (hb2.mono (hB1).size)
   clear hb2
   have k2 := Zb hB2 c0
   simp only [Bool.not_false, Bool.not_true]
   go_wp2_with fail
   go_ret
   exact ⟨rfl, by first | exact hB2 | exact Ze hB2 _⟩
  rw [Bool.not_false, Bool.true_and] at hbad hgood
  go_wp2_with fail
  refine (hW.out _ (by first | exact hBp | exact Ze hBp _)).mono ?_
  rintro e w1 ⟨rfl, hb1⟩
  have hB1 : Below w.heap.size w w1 := by first | exact (hBp).trans (hb1.mono (hBp).size) | exact (Ze (hBp) _).trans (hb1.mono (hBp).size)
  clear hb1
  have k1 := Zb hB1 c0
  simp only [Bool.not_false, Bool.not_true]
  go_wp2_with fail
  refine (hR.out _ (by first | exact hB1 | exact Ze hB1 _)).mono ?_
  rintro e w2 ⟨rfl, hb2⟩
  have hB2 : Below w.heap.size w w2 := by first | exact (hB1).trans (hb2.mono (hB1).size) | exact (Ze (hB1) _).trans (hb2.mono (hB1).size)
  clear hb2
  have k2 := Zb hB2 c0
  simp only [Bool.not_false, Bool.not_true]
  go_wp2_with fail
  clear k0
  go_loopw [10] (fun iv wr => ∃ i : Nat, i <= n /\ iv = .int .i64 i /\ Hid (∀ j e, j < i -> rs[j]? = some e -> Zd1 r0.n e = true) /\ Below w.heap.size w wr) (fun iv _ => n - (intOf iv).toNat)
  case atStart => exact ⟨0, Nat.zero_le _, rfl, Za (fun j e hj => by omega), (by first | exact hB2 | exact Ze hB2 _)⟩
  case round =>
   clear k1 hB1 k2 hB2 hBp
   obtain ⟨i, hik2, rfl, hall, hBp⟩ := hrel
   have k0 := Zb hBp c0
   clear c0
   by_cases hin2 : i < n
   case neg =>
    obtain rfl : n = i := by omega
    obtain rfl : E = 0 := by
     refine hgood.out ?_
     rw [List.all_eq_true]
     intro e he
     obtain ⟨j, hj, hje⟩ := List.getElem_of_mem he
     exact hall.out j e (by rw [hl.out] at hj; exact hj) (by rw [List.getElem?_eq_getElem hj, hje])
    clear hbad
    go_wp2_with fail
    go_ret
    exact ⟨rfl, hBp⟩
   have htk2 : decide ((i : Int) < (n : Int)) = true := decide_eq_true (by omega)
   have bi : (i : Int) < (n : Int) := by omega
   have b0 : (0 : Int) < (n : Int) := by omega
   obtain ⟨g', o', r, hA, he, c1, hL⟩ := (h.out.below hBp).at_ hin2
   cases hA
   have hrnl := hL.nlen
   unfold maxLen at hrnl
   have bad : Zd1 r0.n r = false -> E = 8 := fun hf => hbad.out (by
    rw [List.all_eq_false]
    exact ⟨r, List.mem_of_getElem? he, by rw [hf]; decide⟩)
   have good : Zd1 r0.n r = true -> Hid (∀ j e, j < i + 1 -> rs[j]? = some e -> Zd1 r0.n e = true) := fun hf => Za (fun j e' hj he' => by
    rcases Nat.lt_or_ge j i with h' | h'
    ·exact hall.out j e' h' he'
    ·obtain rfl : j = i := by omega
     rw [he] at he'
     cases he'
     exact hf)
   replace bad := Za bad
   replace good := Za good
   replace he := Za he
   clear hbad
   by_cases hq : r.n = r0.n
   case neg =>
    have t6 : ((r.n : Int) == (r0.n : Int)) = false := beq_eq_false_iff_ne.2 (by omega)
    have t7 : ((r.n : Int) != (r0.n : Int)) = true := by rw [bne, t6]; rfl
    have t6' : decide (r.n = r0.n) = false := by simpa using hq
    obtain rfl : E = 8 := bad.out (by unfold Zd1; rw [t6']; rfl)
    clear hL hgood
    go_wp2_with fail
    go_quiet (fail)
    go_wp2_with fail
    go_ret
    exact ⟨rfl, by first | exact hBp | exact Ze hBp _⟩
   have t6 : ((r.n : Int) == (r0.n : Int)) = true := beq_iff_eq.2 (by omega)
   have t7 : ((r.n : Int) != (r0.n : Int)) = false := by rw [bne, t6]; rfl
   have t6' : decide (r.n = r0.n) = true := by simpa using hq
   obtain ⟨x, hx⟩ : ∃ x, Zcx (-1099511627776) r.l = x := ⟨_, rfl⟩
   have hC := Za (fun W1 (hb : Below wr.heap.size wr W1) => Zdb r.A r.n r.c r.l (-1099511627776) W1 (hL.below hb) x hx)
   replace hx := Za hx
   replace hq := Za hq
   clear hL
   cases x
   ·have hall2 := good.out (by unfold Zd1; rw [t6', hx.out]; rfl)
    go_wp2_with fail
    go_region_with (go_at_call 89; refine (hC.out _ (by first | exact Below.refl _ _ | exact Ze (Below.refl _ _) _)).mono ?_; rintro e' w5 ⟨rfl, hb5⟩; simp only [Bool.not_false, Bool.not_true])
    all_goals go_wp2_with fail
    all_goals exact ⟨⟨i + 1, by omega, by go_num, hall2, (by first | exact hBp.trans (hb5.mono hBp.size) | exact (Ze hBp _).trans (hb5.mono hBp.size))⟩, by simp [intOf]; omega⟩
   ·obtain rfl : E = 8 := bad.out (by unfold Zd1; rw [hx.out]; simp)
    clear hgood
    go_wp2_with fail
    go_region_with (go_at_call 89; refine (hC.out _ (by first | exact Below.refl _ _ | exact Ze (Below.refl _ _) _)).mono ?_; rintro e' w5 ⟨rfl, hb5⟩; simp only [Bool.not_false, Bool.not_true])
    all_goals go_wp2_with fail
    all_goals (go_ret; exact ⟨rfl, (by first | exact hBp.trans (hb5.mono hBp.size) | exact (Ze hBp _).trans (hb5.mono hBp.size))⟩)
theorem Zeo (A B C : Option Addr) (n c m d k e0 : Nat) (rs : List RI) (rr ws : List Int) (w : World) (h : MIL w A n c rs) (hr : LimI w B m d rr) (hw : LimI w C k e0 ws) (E : Int) (hE : Zjd false rs rr ws = E) :
    Calls Tryz.prog 42 #[.slice A n c, .slice B m d, .slice C k e0, .bool false] w fun e w' => e = .returned (.int .i64 E) /\ Below w.heap.size w w' := by
 have hl := h.1
 have hnc := h.2.1
 have hcm := h.2.2.1
 have hrl := hr.1
 have hwl := hw.1
 have hrm := hr.nlen
 have hwm := hw.nlen
 unfold maxLen at hcm hrm hwm
 replace hE := Za hE
 by_cases h12 : 200 < n
 ·have t1 : decide ((200 : Int) < (n : Int)) = true := decide_eq_true (by omega)
  obtain rfl : E = 4 := by rw [<- hE.out]; exact Zgy (by unfold Zcp; rw [hl, decide_eq_true h12]; rfl)
  go_enter Tryz.func42, Tryz.ntmps42
  go_wp2_with fail
  go_ret
  exact ⟨rfl, by first | exact Below.refl _ _ | exact Ze (Below.refl _ _) _⟩
 have t1 : decide ((200 : Int) < (n : Int)) = false := decide_eq_false (by omega)
 have hlong : ∀ r, r ∈ rs -> 12 < r.n -> E = 4 := fun r hr1 hr2 => by
  rw [<- hE.out]
  refine Zgy ?_
  unfold Zcp
  rw [Bool.or_eq_true, List.any_eq_true]
  exact .inr ⟨r, hr1, by unfold RI.long; simpa using hr2⟩
 have hshort : (∀ (j : Nat) (r : RI), j < n -> rs[j]? = some r -> r.n <= 12) -> Zcp rs = false := fun hf => by
  unfold Zcp
  rw [hl, decide_eq_false h12, Bool.false_or, List.any_eq_false]
  intro e he
  obtain ⟨j, hj, hje⟩ := List.getElem_of_mem he
  have := hf j e (by rw [hl] at hj; exact hj) (by rw [List.getElem?_eq_getElem hj, hje])
  unfold RI.long; simp; omega
 replace hlong := Za hlong
 replace hshort := Za hshort
 replace h := Za h
 replace hl := Za hl
 replace hr := Za hr
 replace hw := Za hw
 replace hrl := Za hrl
 replace hwl := Za hwl
 go_enter Tryz.func42, Tryz.ntmps42
 go_wp2_with fail
 go_loopw [9] (fun iv wr => ∃ i : Nat, i <= n /\ iv = .int .i64 i /\ Hid (∀ (j : Nat) (r : RI), j < i -> rs[j]? = some r -> r.n <= 12) /\ Below w.heap.size w wr) (fun iv _ => n - (intOf iv).toNat)
 case atStart => exact ⟨0, Nat.zero_le _, rfl, Za (fun j e hj => by omega), Below.refl _ _⟩
 case round =>
  obtain ⟨i, hik, rfl, hall, hBp⟩ := hrel
  by_cases hin : i < n
  case pos =>
   have htk : decide ((i : Int) < (n : Int)) = true := decide_eq_true (by omega)
   obtain ⟨g, o, r, rfl, he, c0, hL⟩ := (h.out.below hBp).at_ hin
   have hrn := hL.nlen
   unfold maxLen at hrn
   by_cases hx : 12 < r.n
   ·obtain rfl : E = 4 := hlong.out r (List.mem_of_getElem? he) hx
    have t2 : decide ((12 : Int) < (r.n : Int)) = true := decide_eq_true (by omega)
    replace he := Za he
    clear hL
    go_wp2_with fail
    go_ret
    exact ⟨rfl, by first | exact hBp | exact Ze hBp _⟩
   ·have t2 : decide ((12 : Int) < (r.n : Int)) = false := decide_eq_false (by omega)
    have hall2 : Hid (∀ (j : Nat) (r : RI), j < i + 1 -> rs[j]? = some r -> r.n <= 12) := Za (fun j e' hj he' => by
     rcases Nat.lt_or_ge j i with h' | h'
     ·exact hall.out j e' h' he'
     ·obtain rfl : j = i := by omega
      rw [he] at he'
      cases he'
      omega)
    replace he := Za he
    clear hL
    go_wp2_with fail
    go_roundw
    case rel => exact ⟨i + 1, by omega, by go_num, hall2, (by first | exact hBp | exact Ze hBp _)⟩
    case measure => simp [intOf]; omega
  obtain rfl : n = i := by omega
  have htk : decide ((n : Int) < (n : Int)) = false := by simp
  have hlm := hshort.out hall.out
  have hbad : Zey false rs rr ws = false -> E = 8 := fun hf => by rw [<- hE.out]; exact Zoq hlm hf
  have hgood : Zey false rs rr ws = true -> E = 0 := fun hf => by rw [<- hE.out]; exact Zrd hlm hf
  unfold Zey at hbad hgood
  rw [hrl.out, hwl.out, hl.out] at hbad hgood
  rw [Bool.not_false, Bool.true_or, Bool.true_and] at hbad hgood
  replace hbad := Za hbad
  replace hgood := Za hgood
  clear hE hall hshort hlong hlm
  by_cases hn0 : n = 0
  ·subst hn0
   obtain rfl : E = 8 := hbad.out (by
    have : rs = [] := List.eq_nil_of_length_eq_zero hl.out
    rw [this]; rfl)
   clear h hgood hbad
   go_wp2_with fail
   go_ret
   exact ⟨rfl, by first | exact hBp | exact Ze hBp _⟩
  have t2 : ((n : Int) == 0) = false := by simp; omega
  have t2' : decide (n = 0) = false := by simpa using hn0
  obtain ⟨g, o, r0, rfl, he0, c0, hL0⟩ := h.out.at_ (i := 0) (by omega)
  have hr0l := hL0.nlen
  unfold maxLen at hr0l
  have hn0' := Zpp he0
  clear he0 hL0
  rw [Nat.add_zero] at c0
  have k0 := Zb hBp c0
  rw [hn0'] at hbad hgood
  by_cases hz : r0.n = 0
  ·obtain rfl : E = 8 := hbad.out (by rw [decide_eq_true hz]; rfl)
   have t3 : ((r0.n : Int) == 0) = true := by simp [hz]
   have t3' : decide (r0.n = 0) = true := by simpa using hz
   clear hbad hgood
   replace hn0' := Za hn0'
   replace hz := Za hz
   go_wp2_with fail
   go_ret
   exact ⟨rfl, by first | exact hBp | exact Ze hBp _⟩
  have t3 : ((r0.n : Int) == 0) = false := by simpa using hz
  have t3' : decide (r0.n = 0) = false := by simpa using hz
  rw [t3', Bool.not_false, Bool.true_and] at hbad hgood
  replace hn0' := Za hn0'
  replace hz := Za hz
  by_cases kn : k = n
  case neg =>
   have t4 : ((k : Int) == (n : Int)) = false := beq_eq_false_iff_ne.2 (by omega)
   have t4n : ((k : Int) != (n : Int)) = true := by rw [bne, t4]; rfl
   have t4' : decide (k = n) = false := by simpa using kn
   obtain rfl : E = 8 := hbad.out (by rw [t4']; rfl)
   clear hbad hgood
   replace kn := Za kn
   go_wp2_with fail
   go_ret
   exact ⟨rfl, by first | exact hBp | exact Ze hBp _⟩
  have t4 : ((k : Int) == (n : Int)) = true := beq_iff_eq.2 (by omega)
  have t4n : ((k : Int) != (n : Int)) = false := by rw [bne, t4]; rfl
  have t4' : decide (k = n) = true := by simpa using kn
  rw [t4', Bool.true_and] at hbad hgood
  replace kn := Za kn
  obtain ⟨xw, hxw⟩ : ∃ xw, Zcx 1 ws = xw := ⟨_, rfl⟩
  have hW := Za (fun W1 (hb : Below w.heap.size w W1) => Zdb C k e0 ws 1 W1 (hw.out.below hb) xw hxw)
  rw [hxw] at hbad hgood
  clear hxw hw
  cases xw
  case true =>
   obtain rfl : E = 8 := hbad.out rfl
   clear hbad hgood
   go_wp2_with fail
   refine (hW.out _ (by first | exact hBp | exact Ze hBp _)).mono ?_
   rintro e w1 ⟨rfl, hb1⟩
   have hB1 : Below w.heap.size w w1 := by first | exact (hBp).trans (hb1.mono (hBp).size) | exact (Ze (hBp) _).trans (hb1.mono (hBp).size)
   clear hb1
   have k1 := Zb hB1 c0
   simp only [Bool.not_false, Bool.not_true]
   go_wp2_with fail
   go_ret
   exact ⟨rfl, by first | exact hB1 | exact Ze hB1 _⟩
  rw [Bool.not_false, Bool.true_and] at hbad hgood
  go_wp2_with fail
  refine (hW.out _ (by first | exact hBp | exact Ze hBp _)).mono ?_
  rintro e w1 ⟨rfl, hb1⟩
  have hB1 : Below w.heap.size w w1 := by first | exact (hBp).trans (hb1.mono (hBp).size) | exact (Ze (hBp) _).trans (hb1.mono (hBp).size)
  clear hb1
  have k1 := Zb hB1 c0
  simp only [Bool.not_false, Bool.not_true]
  go_wp2_with fail
  clear k0
  go_loopw [10] (fun iv wr => ∃ i : Nat, i <= n /\ iv = .int .i64 i /\ Hid (∀ j e, j < i -> rs[j]? = some e -> Zd1 r0.n e = true) /\ Below w.heap.size w wr) (fun iv _ => n - (intOf iv).toNat)
  case atStart => exact ⟨0, Nat.zero_le _, rfl, Za (fun j e hj => by omega), (by first | exact hB1 | exact Ze hB1 _)⟩
  case round =>
   clear k1 hB1 hBp
   obtain ⟨i, hik2, rfl, hall, hBp⟩ := hrel
   have k0 := Zb hBp c0
   clear c0
   by_cases hin2 : i < n
   case neg =>
    obtain rfl : n = i := by omega
    obtain rfl : E = 0 := by
     refine hgood.out ?_
     rw [List.all_eq_true]
     intro e he
     obtain ⟨j, hj, hje⟩ := List.getElem_of_mem he
     exact hall.out j e (by rw [hl.out] at hj; exact hj) (by rw [List.getElem?_eq_getElem hj, hje])
    clear hbad
    go_wp2_with fail
    go_ret
    exact ⟨rfl, hBp⟩
   have htk2 : decide ((i : Int) < (n : Int)) = true := decide_eq_true (by omega)
   have bi : (i : Int) < (n : Int) := by omega
   have b0 : (0 : Int) < (n : Int) := by omega
   obtain ⟨g', o', r, hA, he, c1, hL⟩ := (h.out.below hBp).at_ hin2
   cases hA
   have hrnl := hL.nlen
   unfold maxLen at hrnl
   have bad : Zd1 r0.n r = false -> E = 8 := fun hf => hbad.out (by
    rw [List.all_eq_false]
    exact ⟨r, List.mem_of_getElem? he, by rw [hf]; decide⟩)
   have good : Zd1 r0.n r = true -> Hid (∀ j e, j < i + 1 -> rs[j]? = some e -> Zd1 r0.n e = true) := fun hf => Za (fun j e' hj he' => by
    rcases Nat.lt_or_ge j i with h' | h'
    ·exact hall.out j e' h' he'
    ·obtain rfl : j = i := by omega
     rw [he] at he'
     cases he'
     exact hf)
   replace bad := Za bad
   replace good := Za good
   replace he := Za he
   clear hbad
   by_cases hq : r.n = r0.n
   case neg =>
    have t6 : ((r.n : Int) == (r0.n : Int)) = false := beq_eq_false_iff_ne.2 (by omega)
    have t7 : ((r.n : Int) != (r0.n : Int)) = true := by rw [bne, t6]; rfl
    have t6' : decide (r.n = r0.n) = false := by simpa using hq
    obtain rfl : E = 8 := bad.out (by unfold Zd1; rw [t6']; rfl)
    clear hL hgood
    go_wp2_with fail
    go_quiet (fail)
    go_wp2_with fail
    go_ret
    exact ⟨rfl, by first | exact hBp | exact Ze hBp _⟩
   have t6 : ((r.n : Int) == (r0.n : Int)) = true := beq_iff_eq.2 (by omega)
   have t7 : ((r.n : Int) != (r0.n : Int)) = false := by rw [bne, t6]; rfl
   have t6' : decide (r.n = r0.n) = true := by simpa using hq
   obtain ⟨x, hx⟩ : ∃ x, Zcx (-1099511627776) r.l = x := ⟨_, rfl⟩
   have hC := Za (fun W1 (hb : Below wr.heap.size wr W1) => Zdb r.A r.n r.c r.l (-1099511627776) W1 (hL.below hb) x hx)
   replace hx := Za hx
   replace hq := Za hq
   clear hL
   cases x
   ·have hall2 := good.out (by unfold Zd1; rw [t6', hx.out]; rfl)
    go_wp2_with fail
    go_region_with (go_at_call 89; refine (hC.out _ (by first | exact Below.refl _ _ | exact Ze (Below.refl _ _) _)).mono ?_; rintro e' w5 ⟨rfl, hb5⟩; simp only [Bool.not_false, Bool.not_true])
    all_goals go_wp2_with fail
    all_goals exact ⟨⟨i + 1, by omega, by go_num, hall2, (by first | exact hBp.trans (hb5.mono hBp.size) | exact (Ze hBp _).trans (hb5.mono hBp.size))⟩, by simp [intOf]; omega⟩
   ·obtain rfl : E = 8 := bad.out (by unfold Zd1; rw [hx.out]; simp)
    clear hgood
    go_wp2_with fail
    go_region_with (go_at_call 89; refine (hC.out _ (by first | exact Below.refl _ _ | exact Ze (Below.refl _ _) _)).mono ?_; rintro e' w5 ⟨rfl, hb5⟩; simp only [Bool.not_false, Bool.not_true])
    all_goals go_wp2_with fail
    all_goals (go_ret; exact ⟨rfl, (by first | exact hBp.trans (hb5.mono hBp.size) | exact (Ze hBp _).trans (hb5.mono hBp.size))⟩)
theorem Ziy (w : World) : LimI w none 0 0 [] := ⟨rfl, Nat.le_refl _, Nat.zero_le _, by simp, fun h => absurd h (by omega)⟩
theorem MatOA.lower {tS tF : TypeId} {w : World} {b b' : Nat} {v : Value} {L : List RS} {Q : List (List Rat)} (h : MatOA tS tF w b v L Q) (hb : b' <= b) : MatOA tS tF w b' v L Q := by
 obtain ⟨m1, m2, m3, m4⟩ := h
 refine ⟨?_, m2, fun i r hr => (m3 i r hr).lower hb, m4⟩
 rcases m1 with m1 | ⟨g, sp, e, h1, h2⟩
 ·exact .inl m1
 ·exact .inr ⟨g, sp, e, Nat.le_trans hb h1, h2⟩
theorem Zoo (A C : Option Addr) (n c k e0 : Nat) (rs : List RI) (ws : List Int) (w : World) (h : MIL w A n c rs) (hw : LimI w C k e0 ws) (E : Int) (hE : Zcm rs (List.replicate (min n 200) 0) ws = E) (h0 : E ≠ 0) :
    Calls Tryz.prog 17 #[.slice A n c, .slice C k e0] w fun e w' => e = .returned (.tuple #[.slice none 0 0, .int .i64 E]) /\ Below w.heap.size w w' := by
 rw [<- h.1, <- Zka rs [] ws] at hE
 have t1 : decide (E ≠ 0) = true := decide_eq_true h0
 have t1' : (E != 0) = true := by simpa using h0
 have t1'' : (E == 0) = false := by simpa using h0
 replace h := Za h
 replace hw := Za hw
 replace hE := Za hE
 replace h0 := Za h0
 go_enter Tryz.func17, Tryz.ntmps17
 go_wp2_with fail
 refine (Zeo A none C n c 0 0 k e0 rs [] ws w h.out (Ziy _) hw.out E hE.out).mono ?_
 rintro e w1 ⟨rfl, hb1⟩
 go_wp2_with fail
 refine (Zeo A none C n c 0 0 k e0 rs [] ws w1 (h.out.below hb1) (Ziy _) (hw.out.below hb1) E hE.out).mono ?_
 rintro e w2 ⟨rfl, hb2⟩
 go_wp2_with fail
 go_returns
 exact ⟨rfl, hb1.trans (hb2.mono hb1.size)⟩
theorem Zqc (A C : Option Addr) (n c e0 m : Nat) (rs : List RI) (ws : List Int) (w : World) (h : MIL w A n c rs) (hw : LimI w C n e0 ws) (hn0 : 0 < n) (hn9 : n <= 200) (hm0 : 0 < m) (hm9 : m <= 12) (hrow : ∀ r ∈ rs, r.n = m) (hE : Zcm rs (List.replicate (min n 200) 0) ws = 0) :
    Calls Tryz.prog 17 #[.slice A n c, .slice C n e0] w fun e w' => ∃ v L, e = .returned (.tuple #[v, .int .i64 0]) /\ Below w.heap.size w w' /\ MatOA 40 45 w' w.heap.size v L (Zes rs ws n m) := by
 rw [<- h.1, <- Zka rs [] ws] at hE
 replace h := Za h
 replace hw := Za hw
 replace hE := Za hE
 replace hrow := Za hrow
 go_enter Tryz.func17, Tryz.ntmps17
 go_wp2_with fail
 refine (Zeo A none C n c 0 0 n e0 rs [] ws w h.out (Ziy _) hw.out 0 hE.out).mono ?_
 rintro e w1 ⟨rfl, hb1⟩
 go_wp2_with fail
 refine (Zk2 A C n c e0 m rs ws w1 (h.out.below hb1) (hw.out.below hb1) hn0 (by omega) hm0 (by omega) hrow.out).mono ?_
 rintro e w2 ⟨v, L, rfl, hb2, hM⟩
 replace hM := Za hM
 go_wp2_with fail
 go_returns
 exact ⟨v, L, rfl, hb1.trans (hb2.mono hb1.size), hM.out.lower hb1.size⟩
def ModI (rs : List RI) (n m k : Nat) : Prop := (∀ (j : Nat) (r : RI), j < n -> j < 210 -> rs[j]? = some r -> (r.n <= 4 \/ 12 < r.n) /\ r.n <= 15) /\ (n <= 12 \/ 200 < n) /\ n <= 210 /\ m <= 300 /\ k <= 300
theorem Zip (A B C : Option Addr) (n c m d k e0 : Nat) (rs : List RI) (w : World) (h : MIL w A n c rs) (hm : m <= maxLen) (hk : k <= maxLen) :
    Calls Tryz.prog 15 #[.slice A n c, .slice B m d, .slice C k e0] w fun e w' => ∃ b : Bool, e = .returned (.bool b) /\ Below w.heap.size w w' /\ (b = false -> ModI rs n m k) := by
 have hnc := h.2.1
 have hcm := h.2.2.1
 unfold maxLen at hcm hm hk
 replace h := Za h
 go_enter Tryz.func15, Tryz.ntmps15
 go_wp2_with fail
 go_loopw [7] (fun iv wr => ∃ i : Nat, i <= n /\ i <= 210 /\ iv = .int .i64 i /\ Hid (∀ (j : Nat) (r : RI), j < i -> rs[j]? = some r -> (r.n <= 4 \/ 12 < r.n) /\ r.n <= 15) /\ Below w.heap.size w wr) (fun iv _ => n - (intOf iv).toNat)
 case atStart => exact ⟨0, Nat.zero_le _, Nat.zero_le _, rfl, Za (fun j r hj => by omega), Below.refl _ _⟩
 case round =>
  obtain ⟨i, hik, hi2, rfl, hall, hBp⟩ := hrel
  by_cases hin : i < n /\ i < 210
  case pos =>
   have t1 : decide ((i : Int) < (n : Int)) = true := decide_eq_true (by omega)
   have t2 : decide ((i : Int) < 210) = true := decide_eq_true (by omega)
   have bi : (i : Int) < (n : Int) := by omega
   obtain ⟨g, o, r, rfl, he, c0, hL⟩ := (h.out.below hBp).at_ hin.1
   have hrn := hL.nlen
   unfold maxLen at hrn
   clear hL
   by_cases hx : (4 < r.n /\ r.n <= 12) \/ 15 < r.n
   ·rcases hx with ⟨hx1, hx2⟩ | hx1
    ·have u1 : decide ((4 : Int) < (r.n : Int)) = true := decide_eq_true (by omega)
     have u2 : decide ((r.n : Int) <= 12) = true := decide_eq_true (by omega)
     replace he := Za he
     go_wp2_with fail
     go_ret
     exact ⟨true, rfl, by first | exact hBp | exact Ze hBp _, fun h => by cases h⟩
    ·have u1 : decide ((4 : Int) < (r.n : Int)) = true := decide_eq_true (by omega)
     have u2 : decide ((r.n : Int) <= 12) = false := decide_eq_false (by omega)
     have u3 : decide ((15 : Int) < (r.n : Int)) = true := decide_eq_true (by omega)
     replace he := Za he
     go_wp2_with fail
     go_ret
     exact ⟨true, rfl, by first | exact hBp | exact Ze hBp _, fun h => by cases h⟩
   ·have hall2 : Hid (∀ (j : Nat) (r : RI), j < i + 1 -> rs[j]? = some r -> (r.n <= 4 \/ 12 < r.n) /\ r.n <= 15) := Za (fun j e' hj he' => by
      rcases Nat.lt_or_ge j i with h' | h'
      ·exact hall.out j e' h' he'
      ·obtain rfl : j = i := by omega
       rw [he] at he'
       cases he'
       omega)
    replace he := Za he
    have u3 : decide ((15 : Int) < (r.n : Int)) = false := decide_eq_false (by omega)
    by_cases h4 : 4 < r.n
    ·have u1 : decide ((4 : Int) < (r.n : Int)) = true := decide_eq_true (by omega)
     have u2 : decide ((r.n : Int) <= 12) = false := decide_eq_false (by omega)
     go_wp2_with fail
     go_roundw
     case rel => exact ⟨i + 1, by omega, by omega, by go_num, hall2, (by first | exact hBp | exact Ze hBp _)⟩
     case measure => simp [intOf]; omega
    ·have u1 : decide ((4 : Int) < (r.n : Int)) = false := decide_eq_false (by omega)
     go_wp2_with fail
     go_roundw
     case rel => exact ⟨i + 1, by omega, by omega, by go_num, hall2, (by first | exact hBp | exact Ze hBp _)⟩
     case measure => simp [intOf]; omega
  have hmod : (n <= 12 \/ 200 < n) -> n <= 210 -> m <= 300 -> k <= 300 -> ModI rs n m k := fun a1 a2 a3 a4 => ⟨fun j r hj hj2 hr => hall.out j r (by omega) hr, a1, a2, a3, a4⟩
  replace hmod := Za hmod
  clear hall h
  obtain ⟨x1, y1⟩ : ∃ b, decide ((12 : Int) < (n : Int)) = b := ⟨_, rfl⟩
  obtain ⟨x2, y2⟩ : ∃ b, decide ((n : Int) <= 200) = b := ⟨_, rfl⟩
  obtain ⟨x3, y3⟩ : ∃ b, decide ((210 : Int) < (n : Int)) = b := ⟨_, rfl⟩
  obtain ⟨x4, y4⟩ : ∃ b, decide ((300 : Int) < (m : Int)) = b := ⟨_, rfl⟩
  obtain ⟨x5, y5⟩ : ∃ b, decide ((300 : Int) < (k : Int)) = b := ⟨_, rfl⟩
  have hfin : ∀ b : Bool, ((x1 && x2) || (x3 || (x4 || x5))) = b -> (b = false -> ModI rs n m k) := fun b hb hf => by
   subst hf
   simp only [Bool.or_eq_false_iff] at hb
   obtain ⟨h1, h2, h3, h4⟩ := hb
   rw [h2] at y3; rw [h3] at y4; rw [h4] at y5
   have z3 := of_decide_eq_false y3
   have z4 := of_decide_eq_false y4
   have z5 := of_decide_eq_false y5
   refine hmod.out ?_ (by omega) (by omega) (by omega)
   cases x1 with
   | false => have := of_decide_eq_false y1; omega
   | true =>
    cases x2 with
    | false => have := of_decide_eq_false y2; omega
    | true => cases h1
  replace hfin := Za hfin
  by_cases hi : i < n
  ·obtain rfl : i = 210 := by omega
   have t1 : decide (((210 : Nat) : Int) < (n : Int)) = true := decide_eq_true (by omega)
   have t2 : decide (((210 : Nat) : Int) < 210) = false := by decide
   cases x1 <;> cases x2 <;> cases x3 <;> cases x4 <;> cases x5
   all_goals go_wp2_with fail
   all_goals (go_ret; exact ⟨_, rfl, (by first | exact hBp | exact Ze hBp _), hfin.out _ rfl⟩)
  ·have t1 : decide ((i : Int) < (n : Int)) = false := decide_eq_false (by omega)
   cases x1 <;> cases x2 <;> cases x3 <;> cases x4 <;> cases x5
   all_goals go_wp2_with fail
   all_goals (go_ret; exact ⟨_, rfl, (by first | exact hBp | exact Ze hBp _), hfin.out _ rfl⟩)
def CD (D M : Nat) (q : Rat) : Prop := ∃ z : Int, q = (z : Rat) / (D : Rat) /\ z.natAbs <= M
section
variable {D M N : Nat} {p q : Rat}
theorem CD.mono (h : CD D M q) (hM : M <= N) : CD D N q := by
 obtain ⟨z, e, hz⟩ := h
 exact ⟨z, e, Nat.le_trans hz hM⟩
theorem CD.add (h : CD D M p) (k : CD D N q) : CD D (M + N) (p + q) := by
 obtain ⟨y, e, hy⟩ := h
 obtain ⟨z, f, hz⟩ := k
 refine ⟨y + z, ?_, by omega⟩
 rw [e, f, Rat.intCast_add]
 grind
theorem CD.sub (h : CD D M p) (k : CD D N q) : CD D (M + N) (p - q) := by
 obtain ⟨y, e, hy⟩ := h
 obtain ⟨z, f, hz⟩ := k
 refine ⟨y - z, ?_, by omega⟩
 rw [e, f, Rat.intCast_sub]
 grind
theorem CD.mul {E : Nat} (h : CD D M p) (k : CD E N q) : CD (D * E) (M * N) (p * q) := by
 obtain ⟨y, e, hy⟩ := h
 obtain ⟨z, f, hz⟩ := k
 refine ⟨y * z, ?_, by rw [Int.natAbs_mul]; exact Nat.mul_le_mul hy hz⟩
 rw [e, f, Rat.intCast_mul, Rat.natCast_mul]
 grind
theorem CD.whole (z : Int) : CD 1 z.natAbs (z : Rat) := ⟨z, by grind, Nat.le_refl _⟩
theorem CD.lift {E : Nat} (h : CD D M q) (hE : 0 < E) : CD (D * E) (M * E) q := by
 obtain ⟨z, e, hz⟩ := h
 refine ⟨z * E, ?_, by rw [Int.natAbs_mul]; exact Nat.mul_le_mul hz (by omega)⟩
 have h1 : (E : Rat) ≠ 0 := by
  intro h0
  have : ((E : Int) : Rat) = ((0 : Int) : Rat) := by simpa using h0
  have := Rat.intCast_inj.1 this
  omega
 rw [e, Rat.intCast_mul, Rat.natCast_mul]
 have h2 : ((E : Int) : Rat) = (E : Rat) := by first | rfl | exact Rat.intCast_natCast E | push_cast
 rw [h2]
 grind
end
section
variable {k n m : Nat} {R : List (List Rat)}
end
def MatD (w : World) (D : List (List DF)) (E : Int) (e : Ending) (w' : World) : Prop :=
 ∃ A n c, e = .returned (.tuple #[.slice A n c, .int .i64 E]) /\ Below w.heap.size w w' /\ XM w' A n c D
def dfZ : DF := ⟨false, [], false, []⟩
theorem Zuy {n : Nat} (f g : Nat -> Rat) : sumQ n (fun i => f i + g i) = sumQ n f + sumQ n g := by
 induction n with
 | zero => simp only [sumQ]; grind
 | succ n ih => simp only [sumQ]; rw [ih]; grind
theorem Zkw {n : Nat} (f g : Nat -> Rat) : sumQ n (fun i => f i - g i) = sumQ n f - sumQ n g := by
 induction n with
 | zero => simp only [sumQ]; grind
 | succ n ih => simp only [sumQ]; rw [ih]; grind
theorem Zgp {n : Nat} (f : Nat -> Rat) (c : Rat) : sumQ n (fun i => f i * c) = sumQ n f * c := by
 induction n with
 | zero => simp only [sumQ]; grind
 | succ n ih => simp only [sumQ]; rw [ih]; grind
theorem Zis {n m : Nat} (f : Nat -> Nat -> Rat) : sumQ n (fun r => sumQ m (fun k => f r k)) = sumQ m (fun k => sumQ n (fun r => f r k)) := by
 induction n with
 | zero => simp only [sumQ]; rw [Ze4 (fun _ _ => rfl)]
 | succ n ih => simp only [sumQ]; rw [ih, Zuy]
theorem Zhw (ws : List Int) (a b : Nat -> Int) (n : Nat) : ((Zar ws a b n : Int) : Rat) = sumQ n (fun r => (Zac ws r : Rat) * ((a r : Rat) * (b r : Rat))) := by
 induction n with
 | zero => rfl
 | succ n ih =>
  simp only [Zar, sumQ]
  rw [Rat.intCast_add, Rat.intCast_mul, Rat.intCast_mul, ih]
  rfl
section
variable (rs : List RI) (rr ws : List Int) (x : Nat -> Rat)
def Zca (t r : Nat) : Rat := (Zac rr r : Rat) - sumQ t (fun k => (Zaa rs k r : Rat) * x k)
def Zlb (m t : Nat) : Rat := sumQ t (fun r => Zca rs rr x m r * Zca rs rr x m r * (Zac ws r : Rat))
def Zec (n t : Nat) : Rat := ((Zar ws (Zac rr) (Zac rr) n : Int) : Rat) - sumQ t (fun k => x k * ((Zar ws (Zaa rs k) (Zac rr) n : Int) : Rat))
def Zn9 (n m : Nat) : Prop := ∀ i, i < m -> sumQ m (fun j => ((Zar ws (Zaa rs i) (Zaa rs j) n : Int) : Rat) * x j) = ((Zar ws (Zaa rs i) (Zac rr) n : Int) : Rat)
end
section
variable {rs : List RI} {rr ws : List Int} {x : Nat -> Rat} {n m : Nat}
theorem Zso (t r : Nat) : Zca rs rr x (t + 1) r = Zca rs rr x t r - (Zaa rs t r : Rat) * x t := by
 unfold Zca
 simp only [sumQ]
 grind
theorem Zrw (r : Nat) : Zca rs rr x 0 r = (Zac rr r : Rat) := by
 unfold Zca
 simp only [sumQ]
 grind
theorem Ztk (hN : Zn9 rs rr ws x n m) {k : Nat} (hk : k < m) : sumQ n (fun r => (Zac ws r : Rat) * (Zca rs rr x m r * (Zaa rs k r : Rat))) = 0 := by
 have h1 : sumQ n (fun r => (Zac ws r : Rat) * (Zca rs rr x m r * (Zaa rs k r : Rat))) = sumQ n (fun r => (Zac ws r : Rat) * ((Zaa rs k r : Rat) * (Zac rr r : Rat)) - sumQ m (fun j => (Zac ws r : Rat) * ((Zaa rs k r : Rat) * (Zaa rs j r : Rat)) * x j)) := Zx fun r _ => by
  have h2 : sumQ m (fun j => (Zac ws r : Rat) * ((Zaa rs k r : Rat) * (Zaa rs j r : Rat)) * x j) = sumQ m (fun j => (Zaa rs j r : Rat) * x j) * ((Zac ws r : Rat) * (Zaa rs k r : Rat)) := by
   rw [<- Zgp]
   exact Zx fun j _ => by grind
  rw [h2]
  unfold Zca
  grind
 have h3 : sumQ n (fun r => sumQ m (fun j => (Zac ws r : Rat) * ((Zaa rs k r : Rat) * (Zaa rs j r : Rat)) * x j)) = sumQ m (fun j => ((Zar ws (Zaa rs k) (Zaa rs j) n : Int) : Rat) * x j) := by
  rw [Zis]
  exact Zx fun j _ => by rw [Zgp, Zhw]
 rw [h1, Zkw, h3, hN k hk, Zhw]
 grind
theorem Zun (hN : Zn9 rs rr ws x n m) : Zlb rs rr ws x m n = Zec rs rr ws x n m := by
 have h1 : Zlb rs rr ws x m n = sumQ n (fun r => (Zac ws r : Rat) * (Zca rs rr x m r * (Zac rr r : Rat)) - sumQ m (fun k => (Zac ws r : Rat) * (Zca rs rr x m r * (Zaa rs k r : Rat)) * x k)) := Zx fun r _ => by
  have h2 : sumQ m (fun k => (Zac ws r : Rat) * (Zca rs rr x m r * (Zaa rs k r : Rat)) * x k) = sumQ m (fun j => (Zaa rs j r : Rat) * x j) * ((Zac ws r : Rat) * Zca rs rr x m r) := by
   rw [<- Zgp]
   exact Zx fun j _ => by grind
  have h4 : sumQ m (fun j => (Zaa rs j r : Rat) * x j) = (Zac rr r : Rat) - Zca rs rr x m r := by unfold Zca; grind
  rw [h2, h4]
  grind
 have h3 : sumQ n (fun r => sumQ m (fun k => (Zac ws r : Rat) * (Zca rs rr x m r * (Zaa rs k r : Rat)) * x k)) = 0 := by
  rw [Zis]
  exact Ze4 fun k hk => by rw [Zgp, Ztk hN hk]; grind
 have h5 : sumQ n (fun r => (Zac ws r : Rat) * (Zca rs rr x m r * (Zac rr r : Rat))) = Zec rs rr ws x n m := by
  have h6 : sumQ n (fun r => (Zac ws r : Rat) * (Zca rs rr x m r * (Zac rr r : Rat))) = sumQ n (fun r => (Zac ws r : Rat) * ((Zac rr r : Rat) * (Zac rr r : Rat)) - sumQ m (fun k => x k * ((Zac ws r : Rat) * ((Zaa rs k r : Rat) * (Zac rr r : Rat))))) := Zx fun r _ => by
   have h2 : sumQ m (fun k => x k * ((Zac ws r : Rat) * ((Zaa rs k r : Rat) * (Zac rr r : Rat)))) = sumQ m (fun j => (Zaa rs j r : Rat) * x j) * ((Zac ws r : Rat) * (Zac rr r : Rat)) := by
    rw [<- Zgp]
    exact Zx fun j _ => by grind
   rw [h2]
   unfold Zca
   grind
  rw [h6, Zkw]
  unfold Zec
  rw [<- Zhw, Zis]
  congr 1
  refine Zx fun k _ => ?_
  rw [Zhw]
  have := Zgp (n := n) (fun r => (Zac ws r : Rat) * ((Zaa rs k r : Rat) * (Zac rr r : Rat))) (x k)
  rw [show x k * sumQ n (fun r => (Zac ws r : Rat) * ((Zaa rs k r : Rat) * (Zac rr r : Rat))) = sumQ n (fun r => (Zac ws r : Rat) * ((Zaa rs k r : Rat) * (Zac rr r : Rat))) * x k by grind, <- this]
  exact Zx fun r _ => by grind
 rw [h1, Zkw, h3, h5]
 grind
end
def B40 (z : Int) : Prop := z.natAbs <= 1099511627776
theorem b40_pw : 1099511627776 <= pw 2 := by decide +kernel
section
variable {D M N : Nat} {q : Rat}
theorem CD.small (h : CD D M q) (hD : 0 < D) : q.num.natAbs <= M /\ q.den <= D := by
 obtain ⟨z, e, hz⟩ := h
 have hD0 : ((D : Int) : Rat) ≠ 0 := by
  intro h0
  have := Rat.intCast_inj.1 (show ((D : Int) : Rat) = ((0 : Int) : Rat) by simpa using h0)
  omega
 have e2 : ((D : Int) : Rat) * q = (z : Rat) := by
  have h2 : ((D : Int) : Rat) = (D : Rat) := Rat.intCast_natCast D
  rw [h2] at hD0 ⊢
  rw [e]
  grind
 exact Zfn ⟨z, e2, hz⟩ ⟨(D : Int), rfl, by simp⟩ hD0
theorem CD.sm (h : CD D M q) (hD : 0 < D) {i j : Nat} (hM : M <= pw i) (hDj : D <= pw j) (hi : i < 1000) (hj : j < 1000) : Sm q :=
 ⟨Nat.lt_of_le_of_lt (Nat.le_trans (h.small hD).1 hM) (Zmm hi), Nat.lt_of_le_of_lt (Nat.le_trans (h.small hD).2 hDj) (Zmm hj)⟩
theorem CD.liftL {E : Nat} (h : CD E M q) (hD : 0 < D) (hE : E = 1) : CD D (M * D) q := by
 subst hE
 have := h.lift hD
 rwa [Nat.one_mul] at this
theorem CD.zero : CD D M 0 := ⟨0, by rw [show ((0 : Int) : Rat) = 0 from rfl]; grind, Nat.zero_le _⟩
theorem CD.sumQ {n : Nat} {f : Nat -> Rat} (h : ∀ i, i < n -> CD D M (f i)) : CD D (n * M) (sumQ n f) := by
 induction n with
 | zero => exact CD.zero
 | succ n ih =>
  rw [Nat.succ_mul]
  exact (ih fun i hi => h i (by omega)).add (h n (by omega))
end
theorem Zud {B n : Nat} {Q : Nat -> Nat -> Rat} {x y : Nat -> Rat} (hQ : ∀ a b, a < n -> b < n -> BndQ B (Q a b)) (hy : ∀ a, a < n -> BndQ B (y a)) (hE : ∀ i, i < n -> sumQ n (fun j => Q i j * x j) = y i) (h0 : Zav n Q ≠ 0) :
    ∃ D, 0 < D /\ D <= Za7 B n /\ ∀ k, k < n -> CD D (Za7 B n) (x k) := by
 obtain ⟨d, hd, hdb⟩ := Zgk hQ
 have hd0 : d ≠ 0 := fun e => h0 (by rw [hd, e]; rfl)
 refine ⟨d.natAbs, by omega, hdb, fun k hk => ?_⟩
 have hc := Zt3 Q x y hE hk
 obtain ⟨z, hz, hzb⟩ := Zgk (B := B) (n := n) (M := fun a b => if b = k then y a else Q a b) (fun a b ha hb => by
  show BndQ B (if b = k then y a else Q a b)
  by_cases h : b = k
  ·rw [if_pos h]; exact hy a ha
  ·rw [if_neg h]; exact hQ a b ha hb)
 rw [hz, hd] at hc
 have hdr : (d : Rat) ≠ 0 := fun e => hd0 (by exact_mod_cast e)
 rcases Int.natAbs_eq d with h | h
 ·refine ⟨z, ?_, hzb⟩
  have h1 : ((d.natAbs : Nat) : Rat) = (d : Rat) := by rw [<- Rat.intCast_natCast, <- h]
  rw [h1, <- hc]
  grind
 ·refine ⟨-z, ?_, by rw [Int.natAbs_neg]; exact hzb⟩
  have h1 : ((d.natAbs : Nat) : Rat) = -(d : Rat) := by
   rw [<- Rat.intCast_natCast, show ((d.natAbs : Nat) : Int) = -d by omega, Rat.intCast_neg]
  rw [h1, Rat.intCast_neg, <- hc]
  grind
structure Zj0 (rs : List RI) (rr ws : List Int) (x : Nat -> Rat) (n m : Nat) : Prop where
 xk : ∀ k, k < m -> Sm (x k)
 f : ∀ r k, r < n -> k < m -> Sm ((Zaa rs k r : Rat) * x k)
 res : ∀ r t, r < n -> t <= m -> Sm (Zca rs rr x t r)
 sq : ∀ r, r < n -> Sm (Zca rs rr x m r * Zca rs rr x m r)
 wsq : ∀ r, r < n -> Sm (Zca rs rr x m r * Zca rs rr x m r * (Zac ws r : Rat))
 sum : ∀ t, t <= n -> Sm (Zlb rs rr ws x m t)
 c : ∀ k, k < m -> Sm ((Zar ws (Zaa rs k) (Zac rr) n : Int) : Rat)
 xc : ∀ k, k < m -> Sm (x k * ((Zar ws (Zaa rs k) (Zac rr) n : Int) : Rat))
 left : ∀ t, t <= m -> Sm (Zec rs rr ws x n t)
theorem Zq4 {ws : List Int} {a b : Nat -> Int} : ∀ (n : Nat), (∀ r, r < n -> B40 (Zac ws r) /\ B40 (a r) /\ B40 (b r)) -> (Zar ws a b n).natAbs <= n * (1099511627776 * (1099511627776 * 1099511627776))
 | 0, _ => by simp [Zar]
 | n + 1, h => by
  have ih := Zq4 n (fun r hr => h r (by omega))
  obtain ⟨h1, h2, h3⟩ := h n (by omega)
  have h4 : ((Zac ws n) * (a n * b n)).natAbs <= 1099511627776 * (1099511627776 * 1099511627776) := by
   rw [Int.natAbs_mul, Int.natAbs_mul]
   exact Nat.mul_le_mul h1 (Nat.mul_le_mul h2 h3)
  have h5 : Zar ws a b (n + 1) = Zar ws a b n + Zac ws n * (a n * b n) := rfl
  rw [h5, Nat.succ_mul]
  exact Nat.le_trans (Int.natAbs_add_le _ _) (Nat.add_le_add ih h4)
theorem Zs8 : 200 * (1099511627776 * (1099511627776 * 1099511627776)) <= pw 4 := by decide +kernel
theorem Zf6 {ws : List Int} {a b : Nat -> Int} {n : Nat} (hn : n <= 200) (h : ∀ r, r < n -> B40 (Zac ws r) /\ B40 (a r) /\ B40 (b r)) : (Zar ws a b n).natAbs <= pw 4 :=
 Nat.le_trans (Zq4 n h) (Nat.le_trans (Nat.mul_le_mul hn (Nat.le_refl _)) Zs8)
theorem Zdx {a b i j : Nat} (ha : a <= pw i) (hb : b <= pw j) : a * b <= pw (i + j) := by rw [Ziq]; exact Nat.mul_le_mul ha hb
theorem k_pw {n : Nat} (h : n <= 4294967296) : n <= pw 1 := by
 have : pw 1 = 4294967296 := by decide +kernel
 rw [this]; exact h
theorem Zry {rs : List RI} {rr ws : List Int} {x : Nat -> Rat} {n m e D Z : Nat} (hn : n <= 200) (hm : m <= 200) (hD : 0 < D) (hDe : D <= pw e) (hZe : Z <= pw e) (he : 2 * e + 20 < 1000) (hx : ∀ k, k < m -> CD D Z (x k))
    (ha : ∀ r k, r < n -> k < m -> B40 (Zaa rs k r)) (hb : ∀ r, r < n -> B40 (Zac rr r)) (hw : ∀ r, r < n -> B40 (Zac ws r)) : Zj0 rs rr ws x n m := by
 have w40 : ∀ z : Int, B40 z -> CD 1 (pw 2) (z : Rat) := fun z hz => (CD.whole z).mono (Nat.le_trans hz b40_pw)
 have hD2 : D * D <= pw (e + e) := Zdx hDe hDe
 have hDD : 0 < D * D := Nat.mul_pos hD hD
 have cf : ∀ r k, r < n -> k < m -> CD D (pw (2 + e)) ((Zaa rs k r : Rat) * x k) := fun r k hr hk => by
  have := (w40 _ (ha r k hr hk)).mul (hx k hk)
  rw [Nat.one_mul] at this
  exact this.mono (Zdx (Nat.le_refl _) hZe)
 have cres : ∀ r t, r < n -> t <= m -> CD D (pw (e + 4)) (Zca rs rr x t r) := fun r t hr ht => by
  unfold Zca
  have h1 := (w40 _ (hb r hr)).liftL hD rfl
  have h2 := CD.sumQ (n := t) (f := fun k => (Zaa rs k r : Rat) * x k) (fun k hk => cf r k hr (by omega))
  refine (h1.sub h2).mono ?_
  have h3 : pw 2 * D <= pw (e + 3) := Nat.le_trans (Zdx (Nat.le_refl _) hDe) (Zb8 (by omega))
  have h4 : t * pw (2 + e) <= pw (e + 3) := Nat.le_trans (Zdx (k_pw (show t <= 4294967296 by omega)) (Nat.le_refl _)) (Zb8 (by omega))
  exact Nat.le_trans (Nat.add_le_add h3 h4) (Zkv (e + 3))
 have csq : ∀ r, r < n -> CD (D * D) (pw (e + 4 + (e + 4))) (Zca rs rr x m r * Zca rs rr x m r) := fun r hr =>
  ((cres r m hr (Nat.le_refl _)).mul (cres r m hr (Nat.le_refl _))).mono (Zdx (Nat.le_refl _) (Nat.le_refl _))
 have cw : ∀ r, r < n -> CD (D * D) (pw (e + 4 + (e + 4) + 2)) (Zca rs rr x m r * Zca rs rr x m r * (Zac ws r : Rat)) := fun r hr => by
  have := (csq r hr).mul (w40 _ (hw r hr))
  rw [Nat.mul_one] at this
  exact this.mono (Zdx (Nat.le_refl _) (Nat.le_refl _))
 have csum : ∀ t, t <= n -> CD (D * D) (pw (1 + (e + 4 + (e + 4) + 2))) (Zlb rs rr ws x m t) := fun t ht =>
  (CD.sumQ (n := t) (f := fun r => Zca rs rr x m r * Zca rs rr x m r * (Zac ws r : Rat)) (fun r hr => cw r (by omega))).mono (Zdx (k_pw (by omega)) (Nat.le_refl _))
 have cc : ∀ a b : Nat -> Int, (∀ r, r < n -> B40 (a r) /\ B40 (b r)) -> CD 1 (pw 4) ((Zar ws a b n : Int) : Rat) := fun a b h => (CD.whole _).mono (Zf6 hn fun r hr => ⟨hw r hr, h r hr⟩)
 have cxc : ∀ k, k < m -> CD D (pw (e + 4)) (x k * ((Zar ws (Zaa rs k) (Zac rr) n : Int) : Rat)) := fun k hk => by
  have := (hx k hk).mul (cc (Zaa rs k) (Zac rr) (fun r hr => ⟨ha r k hr hk, hb r hr⟩))
  rw [Nat.mul_one] at this
  exact this.mono (Zdx hZe (Nat.le_refl _))
 have cleft : ∀ t, t <= m -> CD D (pw (e + 6)) (Zec rs rr ws x n t) := fun t ht => by
  unfold Zec
  have h1 := (cc (Zac rr) (Zac rr) (fun r hr => ⟨hb r hr, hb r hr⟩)).liftL hD rfl
  have h2 := CD.sumQ (n := t) (f := fun k => x k * ((Zar ws (Zaa rs k) (Zac rr) n : Int) : Rat)) (fun k hk => cxc k (by omega))
  refine (h1.sub h2).mono ?_
  have h3 : pw 4 * D <= pw (e + 5) := Nat.le_trans (Zdx (Nat.le_refl _) hDe) (Zb8 (by omega))
  have h4 : t * pw (e + 4) <= pw (e + 5) := Nat.le_trans (Zdx (k_pw (show t <= 4294967296 by omega)) (Nat.le_refl _)) (Zb8 (by omega))
  exact Nat.le_trans (Nat.add_le_add h3 h4) (Zkv (e + 5))
 refine ⟨fun k hk => (hx k hk).sm hD hZe hDe (by omega) (by omega), fun r k hr hk => (cf r k hr hk).sm hD (Nat.le_refl _) hDe (by omega) (by omega), fun r t hr ht => (cres r t hr ht).sm hD (Nat.le_refl _) hDe (by omega) (by omega),
  fun r hr => (csq r hr).sm hDD (Nat.le_refl _) hD2 (by omega) (by omega), fun r hr => (cw r hr).sm hDD (Nat.le_refl _) hD2 (by omega) (by omega), fun t ht => (csum t ht).sm hDD (Nat.le_refl _) hD2 (by omega) (by omega),
  fun k hk => (cc (Zaa rs k) (Zac rr) (fun r hr => ⟨ha r k hr hk, hb r hr⟩)).sm (by omega) (Nat.le_refl _) (Zfg 0) (by omega) (by omega), fun k hk => (cxc k hk).sm hD (Nat.le_refl _) hDe (by omega) (by omega), fun t ht => (cleft t ht).sm hD (Nat.le_refl _) hDe (by omega) (by omega)⟩
end Go.Proofs.YtigdclhagmnopaaGreat
