/- The reference of linear: Great, with the greatest sizes. -/
import Derived.Deep.LoopGhost
import Derived.ProofKit
import Derived.Deep.Slices
import Derived.Deep.Fields
import Derived.ChangeSame
import Derived.Test.YtigdclhagmnopaaGreatProg
import Derived.Test.YtigdclhagmnopaaGreatZl54
set_option maxRecDepth 100000
set_option maxHeartbeats 8000000
set_option linter.unusedSimpArgs false
set_option linter.unusedVariables false
namespace Go.Proofs.YtigdclhagmnopaaGreat
open Go.RowKit
attribute [local go_sem] Zi
def Zl1 (r : RX) : Prop := ((r.n <= 5 \/ 12 < r.n) /\ r.n <= 15) /\ ∀ e ∈ r.es, Zcy e.few = false
def calmT (rs : List RX) : Prop := ((rs.length <= 5 \/ 12 < rs.length) /\ rs.length <= 15) /\ ∀ k r, k < 16 -> rs[k]? = some r -> Zl1 r
theorem calmT.calm {rs : List RX} (h : calmT rs) : calmM rs := ⟨h.1.1, fun k r hk hr => ⟨(h.2 k r hk hr).1.1, (h.2 k r hk hr).2⟩⟩
theorem calmT.row {rs : List RX} (h : calmT rs) {r : RX} (hr : r ∈ rs) : Zl1 r := by
 obtain ⟨k, hk, e⟩ := List.getElem_of_mem hr
 exact h.2 k r (by have := h.1.2; omega) (by rw [List.getElem?_eq_getElem hk, e])
theorem Zi9 (A : Option Addr) (n c : Nat) (rs : List RX) (w : World) (h : MXL w A n c rs) :
    Calls Tryz.prog 10 #[.slice A n c] w fun e w' => ∃ b, e = .returned (.bool b) /\ Below w.heap.size w w' /\ (b = false -> calmT rs) := by
 have hl := h.1
 have hnc := h.2.1
 have hcm := h.2.2.1
 unfold maxLen at hcm
 replace h := Za h
 replace hl := Za hl
 go_enter Tryz.func10, Tryz.ntmps10
 go_wp2_with fail
 go_loopg [3] n (fun k iv wr => ∃ i : Nat, i + k = n /\ i <= 16 /\ iv = .int .i64 i /\ Hid (∀ a r, a < i -> rs[a]? = some r -> Zl1 r) /\ Below w.heap.size w wr)
 case atStart => exact ⟨0, by omega, by omega, rfl, Za (fun a r ha => by omega), Below.refl _ _⟩
 case round =>
  obtain ⟨i, hik, hi16, rfl, hc, hB⟩ := hrel
  by_cases hend : i < n /\ i < 16
  case neg =>
   have hcc : Hid (∀ a r, a < 16 -> rs[a]? = some r -> Zl1 r) := Za (fun a r ha hr => by
    have hi := (List.getElem?_eq_some_iff.1 hr).1
    exact hc.out a r (by rw [hl.out] at hi; omega) hr)
   have fin : Hid (∀ b : Bool, b = (decide (5 < n) && decide (n <= 12) || decide (15 < n)) -> b = false -> calmT rs) := Za (fun b hb hf => ⟨by
    rw [hf] at hb
    have : ¬ (5 < n /\ n <= 12) := fun h => by rw [decide_eq_true h.1, decide_eq_true h.2] at hb; cases hb
    have h15 : ¬ 15 < n := fun h => by rw [decide_eq_true h, Bool.or_true] at hb; cases hb
    rw [hl.out]; omega, hcc.out⟩)
   by_cases hin : i < n
   case pos =>
    have t1 : decide ((i : Int) < (n : Int)) = true := decide_eq_true (by omega)
    have t2 : decide ((i : Int) < 16) = false := decide_eq_false (by omega)
    have t2' : decide (i < 16) = false := decide_eq_false (by omega)
    have u5 : decide ((5 : Int) < (n : Int)) = true := decide_eq_true (by omega)
    have u12 : decide ((n : Int) <= 12) = false := decide_eq_false (by omega)
    have u15 : decide ((15 : Int) < (n : Int)) = true := decide_eq_true (by omega)
    go_wp2_with fail
    go_ret
    exact ⟨_, rfl, hB, fun hf => absurd hf (by decide)⟩
   have t1 : decide ((i : Int) < (n : Int)) = false := decide_eq_false (by omega)
   by_cases h5 : 5 < n
   ·have u5 : decide ((5 : Int) < (n : Int)) = true := decide_eq_true (by omega)
    by_cases h12 : n <= 12
    ·have u12 : decide ((n : Int) <= 12) = true := decide_eq_true (by omega)
     go_wp2_with fail
     go_ret
     exact ⟨_, rfl, hB, fun hf => absurd hf (by decide)⟩
    ·have u12 : decide ((n : Int) <= 12) = false := decide_eq_false (by omega)
     have u15 : decide ((15 : Int) < (n : Int)) = decide (15 < n) := decide_eq_decide.2 (by omega)
     go_wp2_with fail
     go_ret
     exact ⟨_, rfl, hB, fun hf => fin.out _ (by first | (rw [decide_eq_false h12, Bool.and_false, Bool.false_or]) | (rw [decide_eq_false h12, Bool.and_false, Bool.false_or, u15])) hf⟩
   ·have u5 : decide ((5 : Int) < (n : Int)) = false := decide_eq_false (by omega)
    have u15 : decide ((15 : Int) < (n : Int)) = false := decide_eq_false (by omega)
    go_wp2_with fail
    go_ret
    exact ⟨_, rfl, hB, fun hf => fin.out _ (by rw [decide_eq_false h5, decide_eq_false (by omega : ¬ 15 < n)]; rfl) rfl⟩
  obtain ⟨hin, hi16'⟩ := hend
  obtain ⟨gk', rfl⟩ : ∃ j, gk = j + 1 := ⟨gk - 1, by omega⟩
  obtain rfl : gk' = n - (i + 1) := by omega
  have t1 : decide ((i : Int) < (n : Int)) = true := decide_eq_true (by omega)
  have t2 : decide ((i : Int) < 16) = true := decide_eq_true (by omega)
  have t2' : decide (i < 16) = true := decide_eq_true (by omega)
  have bi : (i : Int) < (n : Int) := by omega
  obtain ⟨g, o, r, rfl, hr, k0, hF⟩ := (h.out.below hB).at_ hin
  have hrl := Nat.le_trans hF.2.1 hF.2.2.1
  unfold maxLen at hrl
  have hes : Hid (r.es.length = r.n) := Za hF.1
  have hrowF := Za (fun (W : World) (hb : Below wr.heap.size wr W) => hF.below hb)
  replace hr := Za hr
  clear hF
  by_cases hgr : 5 < r.n /\ r.n <= 12 \/ 15 < r.n
  case pos =>
   by_cases h12 : r.n <= 12
   ·have u5 : decide ((5 : Int) < (r.n : Int)) = true := decide_eq_true (by omega)
    have u12 : decide ((r.n : Int) <= 12) = true := decide_eq_true (by omega)
    replace hgr := Za hgr
    go_wp2_with fail
    go_ret
    exact ⟨_, rfl, hB, fun hf => absurd hf (by decide)⟩
   ·have u5 : decide ((5 : Int) < (r.n : Int)) = true := decide_eq_true (by omega)
    have u12 : decide ((r.n : Int) <= 12) = false := decide_eq_false (by omega)
    have u15 : decide ((15 : Int) < (r.n : Int)) = true := decide_eq_true (by omega)
    replace hgr := Za hgr
    go_wp2_with fail
    go_ret
    exact ⟨_, rfl, hB, fun hf => absurd hf (by decide)⟩
  have hcr : Hid ((r.n <= 5 \/ 12 < r.n) /\ r.n <= 15) := Za (by omega)
  have INNER : ∀ wz : World, wz = wr -> True := fun _ _ => trivial
  clear INNER
  obtain ⟨wr0, hwr0⟩ : ∃ wx : World, wx = wr := ⟨_, rfl⟩
  subst hwr0
  by_cases h5 : 5 < r.n
  case pos =>
   have u5 : decide ((5 : Int) < (r.n : Int)) = true := decide_eq_true (by omega)
   have u12 : decide ((r.n : Int) <= 12) = false := decide_eq_false (by omega)
   have u15 : decide ((15 : Int) < (r.n : Int)) = false := decide_eq_false (by omega)
   replace hgr := Za hgr
   go_wp2_with fail
   go_loopg [4] r.n (fun k iv wx => ∃ j : Nat, j + k = r.n /\ iv = .int .i64 j /\ Hid (∀ a e, a < j -> r.es[a]? = some e -> Zcy e.few = false) /\ Below wr0.heap.size wr0 wx)
   case atStart => exact ⟨0, by omega, rfl, Za (fun a e ha => by omega), Below.refl _ _⟩
   case round =>
    obtain ⟨j, hjk, rfl, hce, hB2⟩ := hrel
    have k1 := Zb hB2 k0
    have hBx := Za (hB.trans (hB2.mono hB.size))
    cases gk with
    | zero =>
     obtain rfl : j = r.n := by omega
     have t3 : decide ((r.n : Int) < (r.n : Int)) = false := by simp
     have hc2 : Hid (∀ a x, a < i + 1 -> rs[a]? = some x -> Zl1 x) := Za (fun a x ha hx => by
      by_cases he : a = i
      ·subst he
       have := hr.out
       rw [this] at hx
       cases hx
       refine ⟨hcr.out, fun e he => ?_⟩
       obtain ⟨t, ht, hte⟩ := List.getElem_of_mem he
       exact hce.out t e (by rw [hes.out] at ht; exact ht) (by rw [List.getElem?_eq_getElem ht, hte])
      ·exact hc.out a x (by omega) hx)
     go_wp2_with fail
     go_roundg (n - (i + 1))
     case measure => omega
     case rel => exact ⟨i + 1, by omega, by omega, by go_num, hc2, hBx.out⟩
    | succ gk' =>
     obtain rfl : gk' = r.n - (j + 1) := by omega
     have hjn : j < r.n := by omega
     have t3 : decide ((j : Int) < (r.n : Int)) = true := decide_eq_true (by omega)
     have bj : (j : Int) < (r.n : Int) := by omega
     obtain ⟨g2, o2, e, hA2, hee, ⟨c0, c1, c2, c3⟩, hLa, hLb⟩ := (hrowF.out _ hB2).at_ hjn
     rw [hA2] at k1
     replace hA2 := Za hA2
     have hn1 := Nat.le_trans hLa.2.1 hLa.2.2.1
     have hm1 := Nat.le_trans hLb.2.1 hLb.2.2.1
     obtain ⟨b, hb⟩ : ∃ b, Zcy (max e.n e.m) = b := ⟨_, rfl⟩
     replace hee := Za hee
     have hb' := Za hb
     go_wp2_with fail
     refine (Zlv _ _ _ _ _ _ _ _ _ hn1 hm1 b hb).mono ?_
     rintro e2 w5 ⟨rfl, hb5⟩
     have hB5 := hB2.trans (hb5.mono hB2.size)
     clear hb hLa hLb
     cases b with
     | true =>
      go_wp2_with fail
      go_ret
      exact ⟨_, rfl, hBx.out.trans (hb5.mono hBx.out.size), fun hf => absurd hf (by decide)⟩
     | false =>
      have hce2 : Hid (∀ a e, a < j + 1 -> r.es[a]? = some e -> Zcy e.few = false) := Za (fun a x ha hx => by
       by_cases he : a = j
       ·subst he
        have := hee.out
        rw [this] at hx
        cases hx
        exact hb'.out
       ·exact hce.out a x (by omega) hx)
      go_wp2_with fail
      go_roundg (r.n - (j + 1))
      case measure => omega
      case rel => exact ⟨j + 1, by omega, by go_num, hce2, hB5⟩
  have u5 : decide ((5 : Int) < (r.n : Int)) = false := decide_eq_false (by omega)
  have u15 : decide ((15 : Int) < (r.n : Int)) = false := decide_eq_false (by omega)
  replace hgr := Za hgr
  go_wp2_with fail
  go_loopg [4] r.n (fun k iv wx => ∃ j : Nat, j + k = r.n /\ iv = .int .i64 j /\ Hid (∀ a e, a < j -> r.es[a]? = some e -> Zcy e.few = false) /\ Below wr0.heap.size wr0 wx)
  case atStart => exact ⟨0, by omega, rfl, Za (fun a e ha => by omega), Below.refl _ _⟩
  case round =>
   obtain ⟨j, hjk, rfl, hce, hB2⟩ := hrel
   have k1 := Zb hB2 k0
   have hBx := Za (hB.trans (hB2.mono hB.size))
   cases gk with
   | zero =>
    obtain rfl : j = r.n := by omega
    have t3 : decide ((r.n : Int) < (r.n : Int)) = false := by simp
    have hc2 : Hid (∀ a x, a < i + 1 -> rs[a]? = some x -> Zl1 x) := Za (fun a x ha hx => by
     by_cases he : a = i
     ·subst he
      have := hr.out
      rw [this] at hx
      cases hx
      refine ⟨hcr.out, fun e he => ?_⟩
      obtain ⟨t, ht, hte⟩ := List.getElem_of_mem he
      exact hce.out t e (by rw [hes.out] at ht; exact ht) (by rw [List.getElem?_eq_getElem ht, hte])
     ·exact hc.out a x (by omega) hx)
    go_wp2_with fail
    go_roundg (n - (i + 1))
    case measure => omega
    case rel => exact ⟨i + 1, by omega, by omega, by go_num, hc2, hBx.out⟩
   | succ gk' =>
    obtain rfl : gk' = r.n - (j + 1) := by omega
    have hjn : j < r.n := by omega
    have t3 : decide ((j : Int) < (r.n : Int)) = true := decide_eq_true (by omega)
    have bj : (j : Int) < (r.n : Int) := by omega
    obtain ⟨g2, o2, e, hA2, hee, ⟨c0, c1, c2, c3⟩, hLa, hLb⟩ := (hrowF.out _ hB2).at_ hjn
    rw [hA2] at k1
    replace hA2 := Za hA2
    have hn1 := Nat.le_trans hLa.2.1 hLa.2.2.1
    have hm1 := Nat.le_trans hLb.2.1 hLb.2.2.1
    obtain ⟨b, hb⟩ : ∃ b, Zcy (max e.n e.m) = b := ⟨_, rfl⟩
    replace hee := Za hee
    have hb' := Za hb
    go_wp2_with fail
    refine (Zlv _ _ _ _ _ _ _ _ _ hn1 hm1 b hb).mono ?_
    rintro e2 w5 ⟨rfl, hb5⟩
    have hB5 := hB2.trans (hb5.mono hB2.size)
    clear hb hLa hLb
    cases b with
    | true =>
     go_wp2_with fail
     go_ret
     exact ⟨_, rfl, hBx.out.trans (hb5.mono hBx.out.size), fun hf => absurd hf (by decide)⟩
    | false =>
     have hce2 : Hid (∀ a e, a < j + 1 -> r.es[a]? = some e -> Zcy e.few = false) := Za (fun a x ha hx => by
      by_cases he : a = j
      ·subst he
       have := hee.out
       rw [this] at hx
       cases hx
       exact hb'.out
      ·exact hce.out a x (by omega) hx)
     go_wp2_with fail
     go_roundg (r.n - (j + 1))
     case measure => omega
     case rel => exact ⟨j + 1, by omega, by go_num, hce2, hB5⟩
theorem Ztp (A : Option Addr) (n c : Nat) (rs : List RX) (w : World) (h : MXL w A n c rs) (E : Int) (hs : sqE rs = E) (hE : E ≠ 0) :
    Calls Tryz.prog 24 #[.slice A n c] w fun e w' => e = .returned (.tuple #[.agg #[.bool false, .slice none 0 0, .bool false, .slice none 0 0], .int .i64 E]) /\ Below w.heap.size w w' := by
 obtain ⟨W0, hW0, hB0, q0, s0⟩ := Za8 w 45 #[.bool false, .slice none 0 0, .bool false, .slice none 0 0]
 have t1 : decide (E ≠ 0) = true := decide_eq_true hE
 have t1' : (E != 0) = true := by simpa using hE
 replace h := Za (h.below hB0)
 replace hs := Za hs
 replace hE := Za hE
 go_enter Tryz.func24, Tryz.ntmps24
 go_wp2_with fail
 (try rw [hW0])
 refine (Zcl A n c rs W0 h.out E hs.out).mono ?_
 rintro e w1 ⟨rfl, hb1⟩
 have q1 := Zc hb1 q0
 obtain ⟨c0, c1, c2, c3, f0, f1, f2, f3⟩ := q1.four
 go_wp2_with fail
 obtain ⟨W5, hW5, hB5, q2, -, -, s5⟩ := Zx false none 0 0 false none 0 0 (hB0.trans (hb1.mono hB0.size)) (Nat.le_refl _) q1
 (try rw [hW5])
 obtain ⟨r0, r1, r2, r3, -⟩ := q2.four
 refine bodyPost_ret (v := .tuple #[.agg #[.bool false, .slice none 0 0, .bool false, .slice none 0 0], .int .i64 E]) (by simp [results, Tryz.results24, go_sem, r0, r1, r2, r3]) rfl ?_
 exact ⟨rfl, hB5⟩
theorem Zrg (A : Option Addr) (n c : Nat) (rs : List RX) (w : World) (h : MXL w A n c rs) (hs : sqE rs = 0) (hg : GoodD (qM rs) n) :
    Calls Tryz.prog 24 #[.slice A n c] w fun e w' => ∃ na A n c nb B m d, e = .returned (.tuple #[.agg #[.bool na, .slice A n c, .bool nb, .slice B m d], .int .i64 0]) /\ Below w.heap.size w w' /\ Fr w' na A n c nb B m d (Zg4 (qM rs)) := by
 obtain ⟨hE1, hE2⟩ := Zc4 hs
 obtain ⟨f1, f2, f3, f4, f5⟩ := Zbg hE1
 have hl := h.1
 have hQr := Zgb h hE1
 rw [show n0R rs = n by omega] at hQr
 obtain ⟨W0, hW0, hB0, q0, s0⟩ := Za8 w 45 #[.bool false, .slice none 0 0, .bool false, .slice none 0 0]
 have hF := Za ((h.good hE1).below hB0)
 replace h := Za (h.below hB0)
 replace hs := Za hs
 replace hQr := Za hQr
 have hn1 : 1 <= n := by omega
 have hn12 : n <= 12 := by omega
 clear f3 f4 f5 hE1 hE2 f1 f2
 go_enter Tryz.func24, Tryz.ntmps24
 go_wp2_with fail
 (try rw [hW0])
 refine (Zcl A n c rs W0 h.out 0 hs.out).mono ?_
 rintro e w1 ⟨rfl, hb1⟩
 have q1 := Zc hb1 q0
 clear hW0
 go_wp2_with fail
 refine (ldet_ok A n c (qM rs) w1 (hF.out.below hb1) (by omega) (by omega) hQr.out hg.1 hg.2.1 hg.2.2.1 hg.2.2.2.1).mono ?_
 rintro e w2 ⟨hb2, na, A2, n2, c2, nb, B2, m2, d2, rfl, hf2⟩
 rw [hg.2.2.2.2] at hf2
 have hB2 := hB0.trans ((hb1.trans (hb2.mono hb1.size)).mono hB0.size)
 have q2 := Zc hb2 q1
 obtain ⟨c0, c1, c2', c3, f0, f1, f2, f3⟩ := q2.four
 obtain ⟨W5, hW5, hB5, q5, kW, -, s5⟩ := Zx na A2 n2 c2 nb B2 m2 d2 hB2 (Nat.le_refl _) q2
 have hf5 := Za (Fr.keep hf2 kW)
 clear hf2
 go_wp2_with fail
 (try rw [hW5])
 obtain ⟨r0, r1, r2, r3, -⟩ := q5.four
 refine bodyPost_ret (v := .tuple #[.agg #[.bool na, .slice A2 n2 c2, .bool nb, .slice B2 m2 d2], .int .i64 0]) (by simp [results, Tryz.results24, go_sem, r0, r1, r2, r3]) rfl ?_
 exact ⟨_, _, _, _, _, _, _, _, rfl, hB5, hf5.out⟩
theorem Ztt (A : Option Addr) (n c : Nat) (rs : List RX) (w : World) (h : MXL w A n c rs) (E : Int) (hs : sqE rs = E) (hE : E ≠ 0) :
    Calls Tryz.prog 25 #[.slice A n c] w fun e w' => e = .returned (.tuple #[.agg #[.bool false, .slice none 0 0, .bool false, .slice none 0 0], .int .i64 E]) /\ Below w.heap.size w w' := by
 obtain ⟨W0, hW0, hB0, q0, s0⟩ := Za8 w 45 #[.bool false, .slice none 0 0, .bool false, .slice none 0 0]
 have t1 : decide (E ≠ 0) = true := decide_eq_true hE
 have t1' : (E != 0) = true := by simpa using hE
 replace h := Za (h.below hB0)
 replace hs := Za hs
 replace hE := Za hE
 go_enter Tryz.func25, Tryz.ntmps25
 go_wp2_with fail
 (try rw [hW0])
 refine (Zbc A n c rs W0 h.out E hs.out).mono ?_
 rintro e w1 ⟨rfl, hb1⟩
 have q1 := Zc hb1 q0
 clear hW0
 go_wp2_with fail
 refine (Zbc A n c rs w1 (h.out.below hb1) E hs.out).mono ?_
 rintro e w2 ⟨rfl, hb2⟩
 replace q1 := Zc hb2 q1
 replace hb1 := hb1.trans (hb2.mono hb1.size)
 obtain ⟨c0, c1, c2, c3, f0, f1, f2, f3⟩ := q1.four
 go_wp2_with fail
 obtain ⟨W5, hW5, hB5, q2, -, -, s5⟩ := Zx false none 0 0 false none 0 0 (hB0.trans (hb1.mono hB0.size)) (Nat.le_refl _) q1
 (try rw [hW5])
 obtain ⟨r0, r1, r2, r3, -⟩ := q2.four
 refine bodyPost_ret (v := .tuple #[.agg #[.bool false, .slice none 0 0, .bool false, .slice none 0 0], .int .i64 E]) (by simp [results, Tryz.results25, go_sem, r0, r1, r2, r3]) rfl ?_
 exact ⟨rfl, hB5⟩
theorem Zq4 (A : Option Addr) (n c : Nat) (rs : List RX) (w : World) (h : MXL w A n c rs) (hs : sqE rs = 0) (hn5 : n <= 5) (hok : okR (pw 190) (pw 190) n n 0 0 (qM rs)) :
    Calls Tryz.prog 25 #[.slice A n c] w fun e w' => ∃ na A n c nb B m d, e = .returned (.tuple #[.agg #[.bool na, .slice A n c, .bool nb, .slice B m d], .int .i64 0]) /\ Below w.heap.size w w' /\ Fr w' na A n c nb B m d (Zg4 (qM rs)) := by
 obtain ⟨hE1, hE2⟩ := Zc4 hs
 obtain ⟨f1, f2, f3, f4, f5⟩ := Zbg hE1
 have hl := h.1
 have hQr := Zgb h hE1
 rw [show n0R rs = n by omega] at hQr
 obtain ⟨W0, hW0, hB0, q0, s0⟩ := Za8 w 45 #[.bool false, .slice none 0 0, .bool false, .slice none 0 0]
 have hF := Za ((h.good hE1).below hB0)
 replace h := Za (h.below hB0)
 replace hs := Za hs
 replace hQr := Za hQr
 have hn1 : 1 <= n := by omega
 have hn12 : n <= 12 := by omega
 clear f3 f4 f5 hE1 hE2 f1 f2
 go_enter Tryz.func25, Tryz.ntmps25
 go_wp2_with fail
 (try rw [hW0])
 refine (Zbc A n c rs W0 h.out 0 hs.out).mono ?_
 rintro e w1 ⟨rfl, hb1⟩
 have q1 := Zc hb1 q0
 clear hW0
 go_wp2_with fail
 refine (rdet_ok A n c (qM rs) w1 (hF.out.below hb1) (by omega) hn5 hQr.out hok).mono ?_
 rintro e w2 ⟨hb2, na, A2, n2, c2, nb, B2, m2, d2, rfl, hf2⟩
 have hB2 := hB0.trans ((hb1.trans (hb2.mono hb1.size)).mono hB0.size)
 have q2 := Zc hb2 q1
 obtain ⟨c0, c1, c2', c3, f0, f1, f2, f3⟩ := q2.four
 obtain ⟨W5, hW5, hB5, q5, kW, -, s5⟩ := Zx na A2 n2 c2 nb B2 m2 d2 hB2 (Nat.le_refl _) q2
 have hf5 := Za (Fr.keep hf2 kW)
 clear hf2
 go_wp2_with fail
 (try rw [hW5])
 obtain ⟨r0, r1, r2, r3, -⟩ := q5.four
 refine bodyPost_ret (v := .tuple #[.agg #[.bool na, .slice A2 n2 c2, .bool nb, .slice B2 m2 d2], .int .i64 0]) (by simp [results, Tryz.results25, go_sem, r0, r1, r2, r3]) rfl ?_
 exact ⟨_, _, _, _, _, _, _, _, rfl, hB5, hf5.out⟩
section
variable {k n m : Nat} {R : List (List Rat)}
def Zjn (k m n : Nat) (R : List (List Rat)) : Prop :=
    okZ (pw 200) m n 0 0 (Zo R) 1 /\ okR (pw 200) (pw 200) m n 0 0 R /\ Zft R n m /\ (Z6 n 0 0 (Zo R) false 1).2.1 = (Zs n 0 0 R false).2.1 /\ (Zs n 0 0 R false).2.1 <= n /\
    ((Zs n 0 0 R false).2.1 < n -> Zai n (Zl R) = 0) /\
    ((Zs n 0 0 R false).2.1 = n -> Zai n (Zl R) ≠ 0 /\ ∃ X : Nat -> Nat -> Rat, Zdw (Zl (Zs n 0 0 R false).1) X n m /\ Zdw (fun i j => (Zaa (Z6 n 0 0 (Zo R) false 1).1 i j : Rat)) X n m /\ SolQ (Zl R) X n m /\
     ∀ i k', (X i k').num.natAbs <= pw ((k * m + k + 1) * n) /\ (X i k').den <= pw ((k * m + k + 1) * n))
theorem SmE.solve (h : SmE k R) (hl : R.length = n) (hn : n <= 900) (hrow : ∀ i, i < n -> (R[i]?.getD []).length = m) (hnm : n <= m) (h1 : (k * m + k + 1) * n + k * m < 189) (h2 : k < 189) (h3 : 2 * ((k * m + k + 1) * n) + k * m + 1 < 400) : Zjn k m n R := by
 unfold Zjn
 have hb := Zjp (b := k * m + k) n hn
 obtain ⟨B, hB⟩ : ∃ B, Zay (pw (k * m + k)) n = B := ⟨_, rfl⟩
 rw [hB] at hb
 obtain ⟨b, hbe⟩ : ∃ b, (k * m + k + 1) * n = b := ⟨_, rfl⟩
 rw [hbe] at hb h1 h3 ⊢
 have bb : B * B <= pw (b + b) := by rw [Zdf]; exact Nat.mul_le_mul hb hb
 have bs : B * pw (k * m) <= pw (b + k * m) := by rw [Zdf]; exact Nat.mul_le_mul hb (Nat.le_refl _)
 have g1 : (n + 1) * (B * B) < pw 400 := by
  have h5 : n + 1 <= pw 1 := by rw [Za6, Zc7]; omega
  have h6 : (n + 1) * (B * B) <= pw (1 + (b + b)) := by rw [Zdf]; exact Nat.mul_le_mul h5 bb
  exact Nat.lt_of_le_of_lt h6 (Zek (by omega))
 have g2 : B * B * pw (k * m) < pw 400 := by
  have h6 : B * B * pw (k * m) <= pw (b + b + k * m) := by rw [Zdf]; exact Nat.mul_le_mul bb (Nat.le_refl _)
  exact Nat.lt_of_le_of_lt h6 (Zek (by omega))
 have g3 : B * pw (k * m) < pw 300 := Nat.lt_of_le_of_lt bs (Zek (by omega))
 have hs := Zp0 (B := pw (k * m + k)) (S := pw (k * m)) (Zb5 _) (Zb5 _) R hl hrow (fun i hi => h.denAt (hrow i hi)) (fun i j hi => h.whole (hrow i hi) j) hnm (by rw [hB]; exact g1) (by rw [hB]; exact g2) (by rw [hB]; exact g3)
 rw [hB] at hs
 obtain ⟨o1, o2, o3, o4, o5, o6⟩ := hs
 have p1 : B < pw 200 := Nat.lt_of_le_of_lt hb (Zek (by omega))
 have p2 : B * pw (k * m) < pw 200 := Nat.lt_of_le_of_lt bs (Zek (by omega))
 refine ⟨Zii p1 _ _ _ _ _ o1, Zf0 p1 p2 _ _ _ _ o2, ⟨fun i t hi ht => ?_, fun i j => ?_⟩, o3, o4, o5, fun hr => ?_⟩
 ·refine Nat.lt_of_le_of_lt (h.denTo i t) (Zek ?_)
  have : k * t <= k * m := Nat.mul_le_mul (Nat.le_refl _) ht
  omega
 ·exact Nat.lt_of_le_of_lt (h i j).1 (Zek (by omega))
 ·obtain ⟨q1, X, q2, q3, q4, q5⟩ := o6 hr
  exact ⟨q1, X, q2, q3, q4, fun i k' => ⟨Nat.le_trans (q5 i k').1 hb, Nat.le_trans (q5 i k').2 hb⟩⟩
end
theorem Zfk {Q : List (List Rat)} {b : List Rat} {n : Nat} (hrow : ∀ i, i < n -> (Q[i]?.getD []).length = n) (hq : Q.length = n) (i j : Nat) : Zl (wideB Q b n n) i j = if i < n then (if j < n then Zl Q i j else if j = n then b[i]?.getD 0 else 0) else 0 := by
 by_cases hi : i < n
 ·rw [if_pos hi]
  unfold Zl
  rw [Zd4 hi, if_pos hi]
  have hr := hrow i hi
  by_cases hj : j < n
  ·rw [if_pos hj, List.getElem?_append_left (by omega)]
  ·rw [if_neg hj, List.getElem?_append_right (by omega), hr]
   by_cases hjn : j = n
   ·subst hjn; rw [if_pos rfl, Nat.sub_self]; rfl
   ·rw [if_neg hjn, List.getElem?_eq_none (by simp; omega)]; rfl
 ·rw [if_neg hi]
  unfold Zl
  rw [List.getElem?_eq_none (l := wideB Q b n n) (by rw [Zi6]; omega)]; rfl
theorem Zff {Q : List (List Rat)} {n : Nat} (hrow : ∀ i, i < n -> (Q[i]?.getD []).length = n) (hq : Q.length = n) (i j : Nat) : Zl (wideI Q n n 0) i j = if i < n then (if j < n then Zl Q i j else if j - n < n then (if i = j - n then 1 else 0) else 0) else 0 := by
 by_cases hi : i < n
 ·rw [if_pos hi]
  unfold Zl
  rw [Zd7 hi, if_pos hi]
  have hr := hrow i hi
  by_cases hj : j < n
  ·rw [if_pos hj, List.getElem?_append_left (by omega)]
  ·rw [if_neg hj, List.getElem?_append_right (by omega), hr]
   unfold Ze3
   rw [List.getElem?_map]
   by_cases hjn : j - n < n
   ·rw [if_pos hjn, List.getElem?_range hjn]; rfl
   ·rw [if_neg hjn, List.getElem?_eq_none (by simp; omega)]; rfl
 ·rw [if_neg hi]
  unfold Zl
  rw [List.getElem?_eq_none (l := wideI Q n n 0) (by rw [Zir]; omega)]; rfl
theorem Zf8 (k : Nat) : (0 : Rat).num.natAbs <= pw k /\ (0 : Rat).den <= pw k := ⟨Nat.zero_le _, Zb5 _⟩
theorem smE_one (k : Nat) : (1 : Rat).num.natAbs <= pw k /\ (1 : Rat).den <= pw k := ⟨Zb5 _, Zb5 _⟩
theorem SmE.wideB {k n : Nat} {Q : List (List Rat)} {b : List Rat} (h : SmE k Q) (hb : ∀ i : Nat, (b[i]?.getD 0).num.natAbs <= pw k /\ (b[i]?.getD 0).den <= pw k) (hrow : ∀ i, i < n -> (Q[i]?.getD []).length = n) (hq : Q.length = n) : SmE k (wideB Q b n n) := fun i j => by
 rw [Zfk hrow hq]
 split
 ·split
  ·exact h i j
  ·split
   ·exact hb i
   ·exact Zf8 k
 ·exact Zf8 k
theorem SmE.wideI {k n : Nat} {Q : List (List Rat)} (h : SmE k Q) (hrow : ∀ i, i < n -> (Q[i]?.getD []).length = n) (hq : Q.length = n) : SmE k (wideI Q n n 0) := fun i j => by
 rw [Zff hrow hq]
 split
 ·split
  ·exact h i j
  ·split
   ·split
    ·exact smE_one k
    ·exact Zf8 k
   ·exact Zf8 k
 ·exact Zf8 k
def FracD (w : World) (d : DF) (E : Int) (e : Ending) (w' : World) : Prop :=
 ∃ A n c B m d1, e = .returned (.tuple #[.agg #[.bool d.na, .slice A n c, .bool d.nb, .slice B m d1], .int .i64 E]) /\ Below w.heap.size w w' /\ Lim w' A n c d.la /\ Lim w' B m d1 d.lb
def RowD (w : World) (ds : List DF) (E : Int) (e : Ending) (w' : World) : Prop :=
 ∃ A n c, e = .returned (.tuple #[.slice A n c, .int .i64 E]) /\ Below w.heap.size w w' /\ XL w' A n c ds
def MatD (w : World) (D : List (List DF)) (E : Int) (e : Ending) (w' : World) : Prop :=
 ∃ A n c, e = .returned (.tuple #[.slice A n c, .int .i64 E]) /\ Below w.heap.size w w' /\ XM w' A n c D
def dfZ : DF := ⟨false, [], false, []⟩
theorem FracD.of_fr {w w' : World} {e : Ending} {q : Rat} (h : ∃ na A n c nb B m d, e = .returned (.tuple #[.agg #[.bool na, .slice A n c, .bool nb, .slice B m d], .int .i64 0]) /\ Below w.heap.size w w' /\ Fr w' na A n c nb B m d q) : FracD w (dfQ q) 0 e w' := by
 obtain ⟨na, A, n, c, nb, B, m, d, e1, hb, hf⟩ := h
 have h1 := hf.1.1
 have h2 := hf.2.1
 have h3 := hf.2.2.2
 rw [Int.natAbs_natCast] at h3
 have h4 : nb = false := by rw [h2]; exact decide_eq_false (by omega)
 subst h1 h4
 exact ⟨_, _, _, _, _, _, e1, hb, hf.1.2.2, h3⟩
def SmallQ (Q : List (List Rat)) (n : Nat) : Prop := 0 < n /\ n <= 5 /\ Q.length = n /\ (∀ i, i < n -> (Q[i]?.getD []).length = n) /\ SmE 2 Q
theorem SmallQ.det {Q : List (List Rat)} {n : Nat} (h : SmallQ Q n) : GoodD Q n /\ okR (pw 190) (pw 190) n n 0 0 Q /\ Zg4 Q = Zai n (Zl Q) := by
 obtain ⟨h1, h2, h3, h4, h5⟩ := h
 have hb : (2 * n + 2 + 1) * n <= 13 * 5 := Nat.mul_le_mul (by omega) (by omega)
 have hb2 : 2 * n * n <= 10 * 5 := Nat.mul_le_mul (by omega) (by omega)
 exact h5.det h3 (by omega) h4 (by omega) (by decide) (by omega)
theorem Ztm (E0 : Int) (Q : List (List Rat)) (n : Nat) (hq : E0 = 0 -> SmallQ Q n) : ∃ d : DF, (E0 = 0 -> d = dfQ (Zai n (Zl Q))) /\ ∀ (w : World) (A : Option Addr) (c : Nat) (rs : List RX), MXL w A n c rs -> sqE rs = E0 -> qM rs = Q ->
    Calls Tryz.prog 24 #[.slice A n c] w (FracD w d E0) /\ Calls Tryz.prog 25 #[.slice A n c] w (FracD w d E0) := by
 by_cases hE : E0 = 0
 ·subst hE
  obtain ⟨g1, g2, g3⟩ := (hq rfl).det
  refine ⟨dfQ (Zai n (Zl Q)), fun _ => rfl, fun w A c rs h hs hqm => ?_⟩
  rw [<- g3]
  have h5 := (hq rfl).2.1
  subst hqm
  exact ⟨(Zrg A n c rs w h hs g1).mono fun e w' he => FracD.of_fr he, (Zq4 A n c rs w h hs h5 g2).mono fun e w' he => FracD.of_fr he⟩
 ·refine ⟨dfZ, fun h => absurd h hE, fun w A c rs h hs hqm => ⟨(Ztp A n c rs w h E0 hs hE).mono fun e w' he => ?_, (Ztt A n c rs w h E0 hs hE).mono fun e w' he => ?_⟩⟩
  ·exact ⟨_, _, _, _, _, _, he.1, he.2, Lim.nil _ _ _ (Nat.zero_le _), Lim.nil _ _ _ (Nat.zero_le _)⟩
  ·exact ⟨_, _, _, _, _, _, he.1, he.2, Lim.nil _ _ _ (Nat.zero_le _), Lim.nil _ _ _ (Nat.zero_le _)⟩
theorem SmallQ.solveB {Q : List (List Rat)} {n : Nat} {b : List Rat} (h : SmallQ Q n) (hb : ∀ i : Nat, (b[i]?.getD 0).num.natAbs <= pw 2 /\ (b[i]?.getD 0).den <= pw 2) : Zjn 2 (n + 1) n (wideB Q b n n) := (h.2.2.2.2.wideB hb h.2.2.2.1 h.2.2.1).solve (Zi6 Q b n n) (m := n + 1) (by have := h.2.1; omega)
 (fun i hi => by rw [Zd4 hi, if_pos hi, List.length_append, h.2.2.2.1 i hi]; rfl) (by omega)
 (by
  have h2 := h.2.1
  have : (2 * (n + 1) + 2 + 1) * n <= 15 * 5 := Nat.mul_le_mul (by omega) (by omega)
  omega) (by decide)
 (by
  have h2 := h.2.1
  have : (2 * (n + 1) + 2 + 1) * n <= 15 * 5 := Nat.mul_le_mul (by omega) (by omega)
  omega)
theorem SmallQ.solveI {Q : List (List Rat)} {n : Nat} (h : SmallQ Q n) : Zjn 2 (n + n) n (wideI Q n n 0) := (h.2.2.2.2.wideI h.2.2.2.1 h.2.2.1).solve (Zir Q n n 0) (m := n + n) (by have := h.2.1; omega)
 (fun i hi => by rw [Zd7 hi, if_pos hi, List.length_append, h.2.2.2.1 i hi, Zc2]) (by omega)
 (by
  have h2 := h.2.1
  have : (2 * (n + n) + 2 + 1) * n <= 23 * 5 := Nat.mul_le_mul (by omega) (by omega)
  omega) (by decide)
 (by
  have h2 := h.2.1
  have : (2 * (n + n) + 2 + 1) * n <= 23 * 5 := Nat.mul_le_mul (by omega) (by omega)
  omega)
theorem OwnF.xl {t : TypeId} {w : World} {base : Nat} {v : Value} {qs : List Rat} (h : OwnF t w base v qs) : ∃ A n c, v = .slice A n c /\ XL w A n c (qs.map dfQ) := by
 obtain ⟨A, c, e, hf⟩ := h.fl
 exact ⟨A, _, c, e, hf.xl⟩
theorem Zpw (E0 : Int) (V : Bool) (Q : List (List Rat)) (b : List Rat) (n nb : Nat) (hq : E0 = 0 -> SmallQ Q n) (hb : V = true -> ∀ i : Nat, (b[i]?.getD 0).num.natAbs <= pw 2 /\ (b[i]?.getD 0).den <= pw 2) : ∃ (E : Int) (ds : List DF),
    (E0 = 0 -> V = true -> nb = n -> (Zai n (Zl Q) = 0 /\ E = 18 /\ ds = []) \/ (Zai n (Zl Q) ≠ 0 /\ E = 0 /\ ∃ X : Nat -> Rat, ds = ((List.range n).map X).map dfQ /\ (∀ i, i < n -> Za5 n (fun j => Zl Q i j * X j) = b[i]?.getD 0) /\ ∀ i, (X i).num.natAbs <= pw ((2 * (n + 1) + 2 + 1) * n) /\ (X i).den <= pw ((2 * (n + 1) + 2 + 1) * n))) /\
    ∀ (w : World) (A B : Option Addr) (c cb : Nat) (rs : List RX) (es : List FX), MXL w A n c rs -> FXL w B nb cb es -> sqE rs = E0 -> qM rs = Q -> Za7 es = V -> es.map FX.q = b ->
    Calls Tryz.prog 26 #[.slice A n c, .slice B nb cb] w (RowD w ds E) /\ Calls Tryz.prog 27 #[.slice A n c, .slice B nb cb] w (RowD w ds E) := by
 have none_ : ∀ (E : Int) (w w' : World) (e : Ending), (e = .returned (.tuple #[.slice none 0 0, .int .i64 E]) /\ Below w.heap.size w w') -> RowD w [] E e w' := fun E w w' e h => ⟨_, _, _, h.1, h.2, XL.nil _⟩
 by_cases hE : E0 = 0
 ·subst hE
  by_cases hv : nb ≠ n \/ V = false
  ·refine ⟨8, [], fun _ h1 h2 => ?_, fun w A B c cb rs es h hbx hs hqm hvv _ => ?_⟩
   ·rcases hv with hv | hv
    ·exact absurd h2 hv
    ·rw [hv] at h1; cases h1
   ·rw [<- hvv] at hv
    exact ⟨(Zos A B n c nb cb rs es w h hbx hs hv).mono fun e w' he => none_ _ _ _ _ he, (Znh A B n c nb cb rs es w h hbx hs hv).mono fun e w' he => none_ _ _ _ _ he⟩
  ·obtain ⟨rfl, rfl⟩ : nb = n /\ V = true := ⟨Classical.byContradiction fun h => hv (.inl h), by cases V with
     | true => rfl
     | false => exact absurd (.inr rfl) hv⟩
   have hS := hq rfl
   have h5 := hS.2.1
   obtain ⟨o1, o2, o3, o4, o5, o6, o7⟩ := hS.solveB (hb rfl)
   have hdet : Zai nb (Zl (wideB Q b nb nb)) = Zai nb (Zl Q) := Zar fun i j hi hj => by rw [Zfk hS.2.2.2.1 hS.2.2.1, if_pos hi, if_pos hj]
   by_cases hr : (Zs nb 0 0 (wideB Q b nb nb) false).2.1 = nb
   ·obtain ⟨x1, X, x2, x3, x4, x5⟩ := o7 hr
    refine ⟨0, ((List.range nb).map fun j => X j nb).map dfQ, fun _ _ _ => .inr ⟨by rw [<- hdet]; exact x1, rfl, fun j => X j nb, rfl, fun i hi => ?_, fun i => x5 i nb⟩, fun w A B c cb rs es h hbx hs hqm hvv hbq => ?_⟩
    ·have h6 := x4 i nb hi (Nat.le_refl _) (by omega)
     rw [Zfk hS.2.2.2.1 hS.2.2.1, if_pos hi, if_neg (Nat.lt_irrefl _), if_pos rfl] at h6
     rw [<- h6]
     exact Zag fun j hj => by rw [Zfk hS.2.2.2.1 hS.2.2.1, if_pos hi, if_pos hj]
    ·subst hqm hbq
     refine ⟨(Zse A B nb c cb rs es w h hbx hs hvv (by omega) o1 o3 (o4.trans hr) X x3).mono fun e w' he => ?_, (Zrn A B nb c cb rs es w h hbx hs hvv (by omega) o2 hr X x2).mono fun e w' he => ?_⟩
     ·obtain ⟨v, rfl, hbw, hO⟩ := he
      obtain ⟨A1, n1, c1, rfl, hx⟩ := hO.xl
      exact ⟨_, _, _, rfl, hbw, hx⟩
     ·obtain ⟨v, rfl, hbw, hO⟩ := he
      obtain ⟨A1, n1, c1, rfl, hx⟩ := hO.xl
      exact ⟨_, _, _, rfl, hbw, hx⟩
   ·have hr' : (Zs nb 0 0 (wideB Q b nb nb) false).2.1 < nb := by omega
    refine ⟨18, [], fun _ _ _ => .inl ⟨by rw [<- hdet]; exact o6 hr', rfl, rfl⟩, fun w A B c cb rs es h hbx hs hqm hvv hbq => ?_⟩
    subst hqm hbq
    exact ⟨(Zrk A B nb c cb rs es w h hbx hs hvv (by omega) o1 o3 (by rw [o4]; exact hr')).mono fun e w' he => none_ _ _ _ _ he, (Zr5 A B nb c cb rs es w h hbx hs hvv (by omega) o2 hr').mono fun e w' he => none_ _ _ _ _ he⟩
 ·refine ⟨E0, [], fun h => absurd h hE, fun w A B c cb rs es h hbx hs hqm hvv _ => ?_⟩
  exact ⟨(Zpi A B n c nb cb rs es w h hbx E0 hs hE).mono fun e w' he => none_ _ _ _ _ he, (Zpt A B n c nb cb rs es w h hbx E0 hs hE).mono fun e w' he => none_ _ _ _ _ he⟩
theorem Zmj (E0 : Int) (Q : List (List Rat)) (n : Nat) (hq : E0 = 0 -> SmallQ Q n) : ∃ (E : Int) (D : List (List DF)),
    (E0 = 0 -> (Zai n (Zl Q) = 0 /\ E = 18 /\ D = []) \/ (Zai n (Zl Q) ≠ 0 /\ E = 0 /\ ∃ X : Nat -> Nat -> Rat, D = ((List.range n).map fun i => (List.range n).map fun c => X i c).map (fun r => r.map dfQ) /\ (∀ i c, i < n -> c < n -> Za5 n (fun j => Zl Q i j * X j c) = if i = c then 1 else 0) /\
     ∀ i c, (X i c).num.natAbs <= pw ((2 * (n + n) + 2 + 1) * n) /\ (X i c).den <= pw ((2 * (n + n) + 2 + 1) * n))) /\
    ∀ (w : World) (A : Option Addr) (c : Nat) (rs : List RX), MXL w A n c rs -> sqE rs = E0 -> qM rs = Q ->
    Calls Tryz.prog 28 #[.slice A n c] w (MatD w D E) /\ Calls Tryz.prog 29 #[.slice A n c] w (MatD w D E) := by
 have none_ : ∀ (E : Int) (w w' : World) (e : Ending), (e = .returned (.tuple #[.slice none 0 0, .int .i64 E]) /\ Below w.heap.size w w') -> MatD w [] E e w' := fun E w w' e h => ⟨_, _, _, h.1, h.2, XM.nil _⟩
 by_cases hE : E0 = 0
 ·subst hE
  have hS := hq rfl
  have h5 := hS.2.1
  have h0 := hS.1
  obtain ⟨o1, o2, o3, o4, o5, o6, o7⟩ := hS.solveI
  have hdet : Zai n (Zl (wideI Q n n 0)) = Zai n (Zl Q) := Zar fun i j hi hj => by rw [Zff hS.2.2.2.1 hS.2.2.1, if_pos hi, if_pos hj]
  by_cases hr : (Zs n 0 0 (wideI Q n n 0) false).2.1 = n
  ·obtain ⟨x1, X, x2, x3, x4, x5⟩ := o7 hr
   have hsol : Zcg X n (n + n) = (List.range n).map fun i => (List.range n).map fun c => X i (n + c) := by unfold Zcg; rw [Nat.add_sub_cancel]
   refine ⟨0, ((List.range n).map fun i => (List.range n).map fun c => X i (n + c)).map (fun r => r.map dfQ), fun _ => .inr ⟨by rw [<- hdet]; exact x1, rfl, fun i c => X i (n + c), rfl, fun i c hi hc => ?_, fun i c => x5 i (n + c)⟩, fun w A c rs h hs hqm => ?_⟩
   ·have h6 := x4 i (n + c) hi (by omega) (by omega)
    rw [Zff hS.2.2.2.1 hS.2.2.1, if_pos hi, if_neg (by omega), Nat.add_sub_cancel_left, if_pos hc] at h6
    rw [<- h6]
    exact Zag fun j hj => by rw [Zff hS.2.2.2.1 hS.2.2.1, if_pos hi, if_pos hj]
   ·subst hqm
    rw [<- hsol]
    refine ⟨(Znj A n c rs w h hs (by omega) o1 o3 (o4.trans hr) X x3).mono fun e w' he => ?_, (Zoz A n c rs w h hs (by omega) o2 hr X x2).mono fun e w' he => ?_⟩
    ·obtain ⟨gO, L, rfl, hbw, hM, hLq⟩ := he
     have hl : L.length = n := by rw [<- List.length_map (f := RF.q), hLq]; unfold Zcg; simp
     have h7 := (hM.mfl hl (Nat.le_refl n) (by unfold maxLen; omega)).xm
     rw [hLq] at h7
     exact ⟨_, _, _, rfl, hbw, h7⟩
    ·obtain ⟨v, L, rfl, hbw, hM, hLq⟩ := he
     have hl : L.length = n := by rw [<- List.length_map (f := RF.q), hLq]; unfold Zcg; simp
     obtain ⟨go, cap, rfl, hc1, hc2, -, hMB, -⟩ := hM.mat (by decide) (fun e => by rw [e] at hl; simp at hl; omega)
     rw [hl] at hc1 ⊢
     have h7 := (hMB.mfl hl hc1 hc2).xm
     rw [hLq] at h7
     exact ⟨_, _, _, rfl, hbw, h7⟩
  ·have hr' : (Zs n 0 0 (wideI Q n n 0) false).2.1 < n := by omega
   refine ⟨18, [], fun _ => .inl ⟨by rw [<- hdet]; exact o6 hr', rfl, rfl⟩, fun w A c rs h hs hqm => ?_⟩
   subst hqm
   exact ⟨(Zow A n c rs w h hs (by omega) o1 o3 (by rw [o4]; exact hr')).mono fun e w' he => none_ _ _ _ _ he, (Znw A n c rs w h hs (by omega) o2 hr').mono fun e w' he => none_ _ _ _ _ he⟩
 ·refine ⟨E0, [], fun h => absurd h hE, fun w A c rs h hs hqm => ?_⟩
  exact ⟨(Zmf A n c rs w h E0 hs hE).mono fun e w' he => none_ _ _ _ _ he, (Zmm A n c rs w h E0 hs hE).mono fun e w' he => none_ _ _ _ _ he⟩
def FX.bare (e : FX) : FX := ⟨e.na, none, e.n, 0, e.la, e.nb, none, e.m, 0, e.lb⟩
def RX.bare (r : RX) : RX := ⟨none, r.n, 0, r.es.map FX.bare⟩
theorem Zpo (es : List FX) : Za7 (es.map FX.bare) = Za7 es := by
 unfold Za7; rw [List.all_map]; rfl
theorem Zi4 (rs : List RX) : Zdc (rs.map RX.bare) = Zdc rs := by
 have h1 : Zdx (rs.map RX.bare) = Zdx rs := by unfold Zdx; rw [List.length_map, List.any_map]; rfl
 have h2 : n0R (rs.map RX.bare) = n0R rs := by unfold n0R; rw [List.getElem?_map]; cases rs[0]? <;> rfl
 have h3 : ∀ k, (rs.map RX.bare).all (Zcm k) = rs.all (Zcm k) := fun k => by
  rw [List.all_map]
  congr 1
  funext r
  show Zcm k r.bare = Zcm k r
  unfold Zcm
  show (decide (r.n = k) && Za7 (r.es.map FX.bare)) = _
  rw [Zpo]
 unfold Zdc
 rw [h1, h2, h3]
theorem Zoc (rs : List RX) : sqE (rs.map RX.bare) = sqE rs := by
 have h2 : n0R (rs.map RX.bare) = n0R rs := by unfold n0R; rw [List.getElem?_map]; cases rs[0]? <;> rfl
 unfold sqE
 rw [Zi4, h2, List.length_map]
theorem Zqp (rs : List RX) : qM (rs.map RX.bare) = qM rs := by
 unfold qM
 rw [List.map_map]
 refine List.map_congr_left fun r _ => ?_
 show (r.es.map FX.bare).map FX.q = r.es.map FX.q
 rw [List.map_map]; rfl
theorem Zqk (rs : List RX) : ((rs.map RX.bare).map fun r => r.es.map FX.df) = rs.map fun r => r.es.map FX.df := by
 rw [List.map_map]
 refine List.map_congr_left fun r _ => ?_
 show (r.es.map FX.bare).map FX.df = r.es.map FX.df
 rw [List.map_map]; rfl
def FX.fe (x : FX) : FE := ⟨x.na, x.A, x.n, x.c, x.nb, x.B, x.m, x.d, 0⟩
def OwnX (t : TypeId) (w : World) (base : Nat) (v : Value) (xs : List FX) : Prop := RowF t w base v (xs.map FX.fe) /\ ∀ x ∈ xs, x.in_ w
section
variable {t tS : TypeId} {w w' : World} {base : Nat} {v : Value} {xs : List FX}
theorem OwnX.nil (t : TypeId) (w : World) (base : Nat) : OwnX t w base (.slice none 0 0) [] := ⟨.inl ⟨rfl, rfl⟩, fun e h => (by cases h)⟩
theorem OwnX.kept (h : OwnX t w base v xs) (hb : Below w.heap.size w w') : OwnX t w' base v xs := ⟨h.1.kept hb, fun x hx => FX.in_below (h.2 x hx) hb⟩
theorem OwnX.fxl (h : OwnX t w base v xs) (hl : xs.length <= 1000) : ∃ A c, v = .slice A xs.length c /\ FXL w A xs.length c xs := by
 obtain ⟨h1, h2⟩ := h
 rcases h1 with ⟨rfl, e⟩ | ⟨g, sp, rfl, h4, h5, h6⟩
 ·obtain rfl : xs = [] := by simpa using e
  exact ⟨none, 0, rfl, rfl, Nat.le_refl _, Nat.zero_le _, fun e h => (by cases h), fun h => absurd h (by simp)⟩
 ·rw [List.length_map] at h5 ⊢
  refine ⟨_, xs.length + sp, rfl, rfl, Nat.le_add_right _ _, h5, h2, fun _ => ⟨g, 0, rfl, fun k e he => ?_⟩⟩
  have hc := Zdr (es := xs.map FX.fe ++ List.replicate sp Zal) (i := k) (e := e.fe) (by
   have hk := (List.getElem?_eq_some_iff.1 he).1
   rw [List.getElem?_append_left (by rw [List.length_map]; exact hk), List.getElem?_map, he]; rfl)
  unfold At4
  simp only [Nat.zero_add, h6.cell]
  exact hc
theorem FXL.grownS {A : Option Addr} {n c : Nat} {es : List FX} {rs : List RS} (h : FXL w A n c es) (hv : RowS tS w base v rs) (hg : w.grownBy w' v.ownBlock) : FXL w' A n c es := by
 obtain ⟨h1, h2, h3, h4, h5⟩ := h
 refine ⟨h1, h2, h3, fun e he => ⟨hv.keep hg (h4 e he).1, hv.keep hg (h4 e he).2⟩, fun hn => ?_⟩
 obtain ⟨g, o, e1, hc⟩ := h5 hn
 have e0 := List.getElem?_eq_getElem (l := es) (i := 0) (by omega)
 have hb0 := (hc 0 _ e0).1
 have hne : v.ownBlock ≠ some g := fun e => by
  rcases hv with ⟨rfl, _⟩ | ⟨g', sp, rfl, _, _, hbk⟩
  ·cases e
  ·have hgg : g' = g := by simpa [Value.ownBlock] using e
   subst hgg
   rw [hbk.cell] at hb0
   unfold Z1 at hb0
   rw [Zbv] at hb0
   simp only [List.getElem?_toArray, List.getElem?_map] at hb0
   cases hx : (rs ++ List.replicate sp Zau)[o + 0 * 4]? with
   | none => rw [hx] at hb0; cases hb0
   | some r => rw [hx] at hb0; cases hb0
 have hcell : ∀ (i : Nat) (u : Value), w.cell? ⟨g, i, none⟩ = some u -> w'.cell? ⟨g, i, none⟩ = some u := fun i u hu => by
  rw [<- hu]
  exact World.cell?_of_block (hg.block g (Zr hu) (fun e => hne e.symm))
 refine ⟨g, o, e1, fun k e he => ?_⟩
 obtain ⟨a, b, c', d⟩ := hc k e he
 exact ⟨hcell _ _ a, hcell _ _ b, hcell _ _ c', hcell _ _ d⟩
def RX.rs (r : RX) : RS := ⟨r.A, r.n, r.c⟩
def OwnM (tS : TypeId) (w : World) (base : Nat) (v : Value) (rx : List RX) : Prop := RowS tS w base v (rx.map RX.rs) /\ ∀ r ∈ rx, FXL w r.A r.n r.c r.es
theorem OwnM.nil (tS : TypeId) (w : World) (base : Nat) : OwnM tS w base (.slice none 0 0) [] := ⟨.inl ⟨rfl, rfl⟩, fun e h => (by cases h)⟩
theorem OwnM.kept {rx : List RX} (h : OwnM tS w base v rx) (hb : Below w.heap.size w w') : OwnM tS w' base v rx := ⟨h.1.kept hb, fun x hx => (h.2 x hx).below hb⟩
theorem OwnM.mxl {rx : List RX} (h : OwnM tS w base v rx) : ∃ A c, v = .slice A rx.length c /\ MXL w A rx.length c rx := by
 obtain ⟨h1, h2⟩ := h
 rcases h1 with ⟨rfl, e⟩ | ⟨g, sp, rfl, h4, h5, h6⟩
 ·obtain rfl : rx = [] := by simpa using e
  exact ⟨none, 0, rfl, rfl, Nat.le_refl _, Nat.zero_le _, fun e h => (by cases h), fun h => absurd h (by simp)⟩
 ·rw [List.length_map] at h5 ⊢
  refine ⟨_, rx.length + sp, rfl, rfl, Nat.le_add_right _ _, h5, h2, fun _ => ⟨g, 0, rfl, fun k r hr => ?_⟩⟩
  rw [Nat.zero_add, h6.cell]
  refine Zb2 (e := r.rs) ?_
  have hk := (List.getElem?_eq_some_iff.1 hr).1
  rw [List.getElem?_append_left (by rw [List.length_map]; exact hk), List.getElem?_map, hr]; rfl
end
section
variable {P : Program} (w : World)
theorem Zi5 {ops : Array Oper} {rest : List Oper} {o : Oper} {a : Act} {Q : Exit -> Act -> World -> Prop} (hgd : o.guard = none) (s x : Operand) (t : TypeId)
    (ho : o.op = .call { callee := .builtin .append, args := #[s, x], argTypes := #[t, t] })
    (base : Nat) (e : TypeId) (i : TypeInfo) (ht : P.underlying t = some (.slice e)) (hi : P.info? e = some i) (hz : i.zero = some (.agg #[.bool false, .slice none 0 0, .bool false, .slice none 0 0])) (hsi : i.size = 4) (hby : i.bytes = 64)
    (v : Value) (xs : List FX) (hs : a.eval s = v) (hown : OwnX e w base v xs)
    (B : Nat) (A : Option Addr) (m c : Nat) (fs : List FX) (hx : a.eval x = .slice A m c) (hr : Reads w B 4 A m (Zm (fs.map FX.fe))) (hm : fs.length = m) (hfs : ∀ e ∈ fs, e.in_ w)
    (h63 : xs.length + m <= 1000) (hbase : base <= w.heap.size)
    (h : ∀ v' w', OwnX e w' base v' (xs ++ fs) -> w.grownBy w' v.ownBlock -> wpList P ops Q rest (a.put o.dst v') w') : wpList P ops Q (o :: rest) a w := by
 obtain ⟨h1, h2⟩ := hown
 obtain ⟨v', w', hrun, h3, h4⟩ := Zfr (P := P) w base t o.type e i ht hi hz hsi hby v _ h1 B A m c (fs.map FX.fe) hr (by rw [List.length_map]; exact hm) (by rw [List.length_map]; exact h63) hbase
 refine Go.Lib.wpList_append_run w hgd s x t t ho v (.slice A m c) hs hx v' w' hrun (h v' w' ⟨by rw [List.map_append]; exact h3, fun e he => ?_⟩ h4)
 have hk : ∀ (A : Option Addr) (n c : Nat) (l : List Nat), Lim w A n c l -> Lim w' A n c l := fun _ _ _ _ hL => h1.keep h4 hL
 rcases List.mem_append.1 he with he | he
 ·exact ⟨hk _ _ _ _ (h2 e he).1, hk _ _ _ _ (h2 e he).2⟩
 ·exact ⟨hk _ _ _ _ (hfs e he).1, hk _ _ _ _ (hfs e he).2⟩
end
theorem Znc {w : World} {A : Option Addr} {n c : Nat} {es : List FX} (h : FXL w A n c es) (hv : Za7 es = true) (hl : ∀ e ∈ es, Zcy e.few = false) (i : Nat) : ((es.map FX.q)[i]?.getD 0).num.natAbs <= pw 2 /\ ((es.map FX.q)[i]?.getD 0).den <= pw 2 := by
 rw [List.getElem?_map]
 cases he : es[i]? with
 | none => exact ⟨Nat.zero_le _, Zb5 _⟩
 | some e =>
  simp only [Option.map_some, Option.getD_some]
  have hem := List.mem_of_getElem? he
  have hin := h.2.2.2.1 e hem
  have hla := hl e hem
  unfold Za7 at hv
  rw [List.all_eq_true] at hv
  have hfi := hv e hem
  unfold FX.fine at hfi
  rw [Bool.and_eq_true, decide_eq_true_eq] at hfi
  have hfew : e.few <= 2 := by
   refine Classical.byContradiction fun hx => ?_
   unfold Zcy at hla
   rw [decide_eq_true (by omega : 2 < e.few), decide_eq_true hfi.1] at hla
   cases hla
  unfold FX.few at hfew
  have hfr := (Zj0 hin.1 hin.2 hfi.2).num_lt
  exact ⟨Nat.le_trans (Nat.le_of_lt hfr.1) (Zce (by omega)), Nat.le_trans (Nat.le_of_lt hfr.2) (Zce (by omega))⟩
theorem Znm {w : World} {A : Option Addr} {n c : Nat} {rs : List RX} (h : MXL w A n c rs) (hc : calmM rs) (hE : sqE rs = 0) : SmallQ (qM rs) n := by
 obtain ⟨hE1, hE2⟩ := Zc4 hE
 obtain ⟨a1, a2, a3⟩ := Zqh h hE1 hc
 obtain ⟨f1, -⟩ := Zbg hE1
 have hl := h.1
 have hQr := Zgb h hE1
 rw [show n0R rs = n by omega] at hQr
 exact ⟨by omega, a1, Zmg h, hQr, a3⟩
theorem Zpe {k : Nat} (h : Zcy k = false) : k <= 20 := by
 unfold Zcy at h
 rw [Bool.or_eq_false_iff, decide_eq_false_iff_not] at h
 omega
theorem Zp5 (A B : Option Addr) (n c nb cb : Nat) (rs : List RX) (es : List FX) (w : World) (h : MXL w A n c rs) (hb : FXL w B nb cb es) :
    Calls Tryz.prog 5 #[.slice A n c, .slice B nb cb] w fun e w' => e = .returned (.bool true) /\ Below w.heap.size w w' := by
 obtain ⟨iF, hi, hz0, hz1, hz2⟩ := info_parts Zcq
 obtain ⟨iS, ki, kz0, kz1, kz2⟩ := info_parts Zfl
 replace h := Za h
 replace hb := Za hb
 go_enter Tryz.func5, Tryz.ntmps5
 go_wp2_with fail
 refine (Zi9 A n c rs w h.out).mono ?_
 rintro e w1 ⟨b1, rfl, hb1, hc1⟩
 cases b1 with
 | true =>
  clear hc1
  go_wp2_with fail
  go_ret
  exact ⟨rfl, hb1⟩
 | false =>
  have hcm := Za (hc1 rfl)
  clear hc1
  obtain ⟨Y1, hY1⟩ : ∃ Y, w1.alloc (.cells #[.slice B nb cb] 40) = Y := ⟨_, rfl⟩
  have hBY : Below w1.heap.size w1 Y1 := by rw [<- hY1]; exact (Below.refl _ _).alloc (Nat.le_refl _) _
  have hbl : Blk Y1 w1.heap.size 40 #[.slice B nb cb] := by rw [<- hY1]; exact Blk.new _ _ _
  have hB1 := hb1.trans (hBY.mono hb1.size)
  have hM1 : MXL Y1 (some ⟨w1.heap.size, 0, none⟩) 1 1 [⟨B, nb, cb, es⟩] := ⟨rfl, Nat.le_refl _, by unfold maxLen; omega, fun r hr => by
   rw [List.mem_singleton] at hr; subst hr; exact hb.out.below hB1, fun _ => ⟨_, 0, rfl, fun k r hk => by
   have hk0 : k = 0 := by have := (List.getElem?_eq_some_iff.1 hk).1; simp at this; exact this
   subst hk0
   cases hk
   have := hbl.cell 0
   simpa using this⟩⟩
  replace hM1 := Za hM1
  go_wp2_with fail
  (try rw [hY1])
  refine (Zi9 _ 1 1 _ Y1 hM1.out).mono ?_
  rintro e w2 ⟨b2, rfl, hb2, hc2⟩
  have hB2 := hB1.trans (hb2.mono hB1.size)
  clear hY1 hM1 hbl hBY
  cases b2 with
  | true =>
   clear hc2
   go_wp2_with fail
   go_ret
   exact ⟨rfl, hB2⟩
  | false =>
   have hcb := Za ((hc2 rfl).row (List.mem_singleton.2 rfl)).2
   have hrl := Za h.out.1
   have hn15 : n <= 15 := by have := hcm.out.1.2; rw [hrl.out] at this; exact this
   have hncap : n <= c := h.out.2.1
   have hcmax : c <= maxLen := h.out.2.2.1
   unfold maxLen at hcmax
   clear hc2 hb1 hb2 hB1
   replace hB2 := Za hB2
   go_wp2_with fail
   go_loopg [6, 5] n (fun k iv ov wr => ∃ (i : Nat) (rx : List RX), i + k = n /\ iv = .int .i64 i /\ OwnM 40 wr w2.heap.size ov rx /\ Hid (rx.map RX.bare = (rs.map RX.bare).take i) /\ Below w2.heap.size w2 wr)
   case atStart => exact ⟨0, [], by omega, rfl, OwnM.nil _ _ _, Za (by simp), Below.refl _ _⟩
   case round =>
    obtain ⟨i, rx, hik, rfl, hO, hbare, hBr⟩ := hrel
    have hrxl : rx.length = i := by
     have h1 := congrArg List.length hbare.out
     rw [List.length_map, List.length_take, List.length_map, hrl.out] at h1
     omega
    have hBw := hB2.out.trans (hBr.mono hB2.out.size)
    cases gk with
    | zero =>
     obtain rfl : i = n := by omega
     have t1 : decide ((i : Int) < (i : Int)) = false := by simp
     obtain ⟨A9, c9, rfl, hX⟩ := hO.mxl
     rw [hrxl] at hX ⊢
     have hb9 : rx.map RX.bare = rs.map RX.bare := by rw [hbare.out]; exact List.take_of_length_le (by rw [List.length_map, hrl.out]; exact Nat.le_refl _)
     have e1 : sqE rx = sqE rs := by rw [<- Zoc rx, hb9, Zoc]
     have e2 : qM rx = qM rs := by rw [<- Zqp rx, hb9, Zqp]
     have e3 : Zdc rx = Zdc rs := by rw [<- Zi4 rx, hb9, Zi4]
     have e4 : (rx.map fun r => r.es.map FX.df) = rs.map fun r => r.es.map FX.df := by rw [<- Zqk rx, hb9, Zqk]
     obtain ⟨E0, hE0⟩ : ∃ E, sqE rs = E := ⟨_, rfl⟩
     obtain ⟨EM, hEM⟩ : ∃ E, Zdc rs = E := ⟨_, rfl⟩
     have hsm : E0 = 0 -> SmallQ (qM rs) i := fun h0 => Znm h.out hcm.out.calm (hE0.trans h0)
     have hbs : Za7 es = true -> ∀ j : Nat, ((es.map FX.q)[j]?.getD 0).num.natAbs <= pw 2 /\ ((es.map FX.q)[j]?.getD 0).den <= pw 2 := fun hv => Znc hb.out hv hcb.out
     obtain ⟨d, -, P1⟩ := Ztm E0 (qM rs) i hsm
     obtain ⟨ES, ds, -, P2⟩ := Zpw E0 (Za7 es) (qM rs) (es.map FX.q) i nb hsm hbs
     obtain ⟨EI, DI, -, P3⟩ := Zmj E0 (qM rs) i hsm
     have K1 := Za (fun (W : World) (hx : Below wr.heap.size wr W) => (P1 W A9 c9 rx (hX.below hx) (e1.trans hE0) e2).1)
     have K2 := Za (fun (W : World) (hx : Below wr.heap.size wr W) => (P1 W A c rs ((h.out.below hBw).below hx) hE0 rfl).2)
     have K3 := Za (fun (W : World) (hx : Below wr.heap.size wr W) => (P2 W A9 B c9 cb rx es (hX.below hx) ((hb.out.below hBw).below hx) (e1.trans hE0) e2 rfl rfl).1)
     have K4 := Za (fun (W : World) (hx : Below wr.heap.size wr W) => (P2 W A B c cb rs es ((h.out.below hBw).below hx) ((hb.out.below hBw).below hx) hE0 rfl rfl rfl).2)
     have K5 := Za (fun (W : World) (hx : Below wr.heap.size wr W) => (P3 W A9 c9 rx (hX.below hx) (e1.trans hE0) e2).1)
     have K6 := Za (fun (W : World) (hx : Below wr.heap.size wr W) => (P3 W A c rs ((h.out.below hBw).below hx) hE0 rfl).2)
     have K7 := Za (fun (W : World) (hx : Below wr.heap.size wr W) => Zj2 A9 i c9 rx W (hX.below hx) EM (e3.trans hEM))
     have K8 := Za (fun (W : World) (hx : Below wr.heap.size wr W) => Zgf A i c rs W ((h.out.below hBw).below hx) EM hEM)
     have K9 := Za (fun (W : World) (hx : Below wr.heap.size wr W) => Zl2 A9 A i c9 c _ W ((hX.below hx).xm) (by rw [e4]; exact ((h.out.below hBw).below hx).xm))
     clear P1 P2 P3 hsm hbs e1 e2 e3 e4 hE0 hEM hX hO hb9 hbare h hb hcm hcb hrl hrxl hB2 hBr
     go_wp2_with fail
     refine (K1.out wr (Below.refl _ _)).mono ?_
     rintro e w3 ⟨A1, n1, c1, B1, m1, d1, rfl, hb3, l1, l2⟩
     obtain ⟨g9, hg9⟩ : ∃ g, w3.heap.size = g := ⟨_, rfl⟩
     obtain ⟨V3, hV3, hbV3, qv3, -, -, -⟩ := Zn 45 #[.bool d.na, .slice A1 n1 c1, .bool d.nb, .slice B1 m1 d1] (Below.refl w3.heap.size w3) (Nat.le_refl _)
     rw [hg9] at qv3
     have hB3 : Below wr.heap.size wr V3 := hb3.trans (hbV3.mono hb3.size)
     have l1' := Za (l1.below hbV3)
     have l2' := Za (l2.below hbV3)
     replace qv3 := Za qv3
     clear l1 l2 K1
     go_wp2_with fail
     (try rw [hg9])
     (try rw [hV3])
     refine (K2.out V3 hB3).mono ?_
     rintro e w4 ⟨A2, n2, c2, B2, m2, d2, rfl, hb4, l3, l4⟩
     obtain ⟨g11, hg11⟩ : ∃ g, w4.heap.size = g := ⟨_, rfl⟩
     obtain ⟨V4, hV4, hbV4, qv4, -, -, -⟩ := Zn 45 #[.bool d.na, .slice A2 n2 c2, .bool d.nb, .slice B2 m2 d2] (Below.refl w4.heap.size w4) (Nat.le_refl _)
     rw [hg11] at qv4
     have hb34 : Below V3.heap.size V3 V4 := hb4.trans (hbV4.mono hb4.size)
     have hB4 : Below wr.heap.size wr V4 := hB3.trans (hb34.mono hB3.size)
     replace l1' := Za (l1'.out.below hb34)
     replace l2' := Za (l2'.out.below hb34)
     have l3' := Za (l3.below hbV4)
     have l4' := Za (l4.below hbV4)
     replace qv3 := Za (qv3.out.below hb34 qv3.out.lt)
     replace qv4 := Za qv4
     clear l3 l4 K2 hV3 hbV3 hB3
     go_wp2_with fail
     (try rw [hg11])
     (try rw [hV4])
     refine (K3.out V4 hB4).mono ?_
     rintro e w5 ⟨A3, n3, c3, rfl, hb5, x1⟩
     have hB5 := hB4.trans (hb5.mono hB4.size)
     replace x1 := Za x1
     clear K3 hV4
     go_wp2_with fail
     refine (K4.out w5 hB5).mono ?_
     rintro e w6 ⟨A4, n4, c4, rfl, hb6, x2⟩
     have hB6 := hB5.trans (hb6.mono hB5.size)
     obtain rfl : n4 = n3 := by rw [<- x2.1, <- x1.out.1]
     replace x1 := Za (x1.out.below hb6)
     replace x2 := Za x2
     clear K4
     go_wp2_with fail
     refine (K5.out w6 hB6).mono ?_
     rintro e w7 ⟨A5, n5, c5, rfl, hb7, y1⟩
     have hB7 := hB6.trans (hb7.mono hB6.size)
     replace y1 := Za y1
     clear K5
     go_wp2_with fail
     refine (K6.out w7 hB7).mono ?_
     rintro e w8 ⟨A6, n6, c6, rfl, hb8, y2⟩
     have hB8 := hB7.trans (hb8.mono hB7.size)
     obtain rfl : n6 = n5 := by rw [<- y2.1, <- y1.out.1]
     have hb78 := hb7.trans (hb8.mono hb7.size)
     have hb48 : Below V4.heap.size V4 w8 := (hb5.trans (hb6.mono hb5.size)).trans (hb78.mono (hb5.trans (hb6.mono hb5.size)).size)
     replace x1 := Za (x1.out.below hb78)
     replace x2 := Za (x2.out.below hb78)
     replace y1 := Za (y1.out.below hb8)
     replace y2 := Za y2
     replace l1' := Za (l1'.out.below hb48)
     replace l2' := Za (l2'.out.below hb48)
     replace l3' := Za (l3'.out.below hb48)
     replace l4' := Za (l4'.out.below hb48)
     replace qv3 := Za (qv3.out.below hb48 qv3.out.lt)
     replace qv4 := Za (qv4.out.below hb48 qv4.out.lt)
     clear K6
     go_wp2_with fail
     refine (K7.out w8 hB8).mono ?_
     rintro e w9 ⟨rfl, hb9⟩
     have hB9 := hB8.trans (hb9.mono hB8.size)
     go_wp2_with fail
     refine (K8.out w9 hB9).mono ?_
     rintro e w10 ⟨rfl, hb10⟩
     have hB10 := hB9.trans (hb10.mono hB9.size)
     have hb8a := hb9.trans (hb10.mono hb9.size)
     have q3 := qv3.out.below hb8a qv3.out.lt
     have q4 := qv4.out.below hb8a qv4.out.lt
     obtain ⟨r0, r1, r2, r3, -⟩ := q3.four
     obtain ⟨s0, s1, s2, s3, -⟩ := q4.four
     clear K7 K8 qv3 qv4 q3 q4
     go_wp2_with fail
     refine (Zk9 d.na d.nb A1 B1 A2 B2 n1 c1 m1 d1 n2 c2 m2 d2 d.la d.lb w10 (l1'.out.below hb8a) (l2'.out.below hb8a) (l3'.out.below hb8a) (l4'.out.below hb8a)).mono ?_
     rintro e w11 ⟨rfl, hb11⟩
     have hB11 := hB10.trans (hb11.mono hB10.size)
     have hb8b := hb8a.trans (hb11.mono hb8a.size)
     clear r0 r1 r2 r3 s0 s1 s2 s3 l1' l2' l3' l4'
     go_wp2_with fail
     refine (Zin A3 A4 n4 c3 c4 ds w11 (x1.out.below hb8b) (x2.out.below hb8b)).mono ?_
     rintro e w12 ⟨rfl, hb12⟩
     have hB12 := hB11.trans (hb12.mono hB11.size)
     have hb8c := hb8b.trans (hb12.mono hb8b.size)
     go_wp2_with fail
     refine (Zl2 A5 A6 n6 c5 c6 DI w12 (y1.out.below hb8c) (y2.out.below hb8c)).mono ?_
     rintro e w13 ⟨rfl, hb13⟩
     have hB13 := hB12.trans (hb13.mono hB12.size)
     go_wp2_with fail
     refine (K9.out w13 hB13).mono ?_
     rintro e w14 ⟨rfl, hb14⟩
     have hB14 := hB13.trans (hb14.mono hB13.size)
     go_wp2_with fail
     go_ret
     exact ⟨by simp, hBw.trans (hB14.mono hBw.size)⟩
    | succ k' =>
     obtain rfl : k' = n - (i + 1) := by omega
     have hin : i < n := by omega
     have t1 : decide ((i : Int) < (n : Int)) = true := decide_eq_true (by omega)
     have bi : (i : Int) < (n : Int) := by omega
     obtain ⟨gm, om, r, rfl, hr, k0, hF⟩ := (h.out.below hBw).at_ hin
     have hcr := hcm.out.row (List.mem_of_getElem? hr)
     have hr15 := hcr.1.2
     have hfew := Za hcr.2
     have hrn := hF.2.1
     have hrc := hF.2.2.1
     unfold maxLen at hrc
     have hesl := Za hF.1
     replace hO := Za hO
     replace hF := Za hF
     replace hr := Za hr
     replace hBw := Za hBw
     replace hBr := Za hBr
     clear hcr
     obtain ⟨wo, hwo⟩ : ∃ x : World, x = wr := ⟨_, rfl⟩
     subst hwo
     go_wp2_with fail
     go_loopg [8, 7] r.n (fun k kv ov wr => ∃ (t : Nat) (xs : List FX), t + k = r.n /\ kv = .int .i64 t /\ OwnX 45 wr wo.heap.size ov xs /\ Hid (xs.map FX.bare = (r.es.map FX.bare).take t) /\ Below wo.heap.size wo wr)
     case atStart => exact ⟨0, [], by omega, rfl, OwnX.nil _ _ _, Za (by simp), Below.refl _ _⟩
     case round =>
      obtain ⟨t, xs, htk, rfl, hx, hxb, hBt⟩ := hrel
      have hxl : xs.length = t := by
       have h1 := congrArg List.length hxb.out
       rw [List.length_map, List.length_take, List.length_map, hesl.out] at h1
       omega
      have k1 := Zb hBt k0
      cases gk with
      | zero =>
       obtain rfl : t = r.n := by omega
       have t2 : decide ((r.n : Int) < (r.n : Int)) = false := by simp
       obtain ⟨A7, c7, rfl, hX7⟩ := hx.fxl (by omega)
       rw [hxl] at hX7 ⊢
       have hOr := hO.out.kept hBt
       have hbA : Below wr.heap.size wr (wr.alloc (.cells #[.slice A7 r.n c7] 40)) := (Below.refl _ _).alloc (Nat.le_refl _) _
       have hOa := hOr.kept hbA
       have hXa := hX7.below hbA
       have hRA := Zgu wr A7 r.n c7 40
       have hll : (rx.map RX.rs).length + 1 <= 1000 := by rw [List.length_map, hrxl]; omega
       have hbs : w2.heap.size <= (wr.alloc (.cells #[.slice A7 r.n c7] 40)).heap.size := Nat.le_trans hBr.out.size (Nat.le_trans hBt.size hbA.size)
       have hBB := hBr.out.trans ((hBt.trans (hbA.mono hBt.size)).mono hBr.out.size)
       have hown := hOa.1
       replace hOa := Za hOa
       replace hXa := Za hXa
       have hnb : Hid ((rx ++ [RX.mk A7 r.n c7 xs]).map RX.bare = (rs.map RX.bare).take (i + 1)) := Za (by
        rw [List.map_append, hbare.out, List.take_add_one, List.getElem?_map, hr.out]
        congr 1
        show [RX.mk none r.n 0 (xs.map FX.bare)] = [r.bare]
        rw [hxb.out, List.take_of_length_le (by rw [List.length_map, hesl.out]; exact Nat.le_refl _)]; rfl)
       replace hll := Za hll
       clear hOr hX7 hx
       go_wp2_with (at_builtin; refine Zcf _ rfl (.tmp 55) (.tmp 57) 22 rfl w2.heap.size 40 iS Tryz.underlying22 ki kz0 kz1 kz2 _ _ rfl hown _ _ 1 1 [⟨A7, r.n, c7⟩] rfl hRA rfl hll.out hbs ?_; intro v5 w5 hO5 hg5 hk5)
       have hM5 : OwnM 40 w5 w2.heap.size v5 (rx ++ [RX.mk A7 r.n c7 xs]) := ⟨by rw [List.map_append]; exact hO5, fun r' hr' => by
        rcases List.mem_append.1 hr' with hr' | hr'
        ·exact (hOa.out.2 r' hr').grownS hown hg5
        ·rw [List.mem_singleton] at hr'; subst hr'; exact hXa.out.grownS hown hg5⟩
       have hB5 := hBB.grown hg5 hbs (fun k hk => hown.row_ge k hk)
       replace hM5 := Za hM5
       go_roundg (n - (i + 1))
       case measure => omega
       case rel => exact ⟨i + 1, _, by omega, by go_num, hM5.out, hnb, hB5⟩
      | succ k2 =>
       obtain rfl : k2 = r.n - (t + 1) := by omega
       have htn : t < r.n := by omega
       have t2 : decide ((t : Int) < (r.n : Int)) = true := decide_eq_true (by omega)
       have bt : (t : Int) < (r.n : Int) := by omega
       obtain ⟨g2, o2, e2, hA2, he2, ⟨r0, r1, r2, r3⟩, l1, l2⟩ := (hF.out.below hBt).at_ htn
       rw [hA2] at k1
       have hfe := Zpe (hfew.out e2 (List.mem_of_getElem? he2))
       unfold FX.few at hfe
       have hbare2 : Hid ((r.es.map FX.bare).take t ++ [e2.bare] = (r.es.map FX.bare).take (t + 1)) := Za (by
        rw [List.take_add_one, List.getElem?_map, he2]; rfl)
       replace hx := Za hx
       replace hA2 := Za hA2
       replace he2 := Za he2
       go_wp2_with fail
       refine (Zru e2.na e2.nb e2.A e2.B e2.n e2.c e2.m e2.d e2.la e2.lb wr l1 l2 (by omega) (by omega)).mono ?_
       rintro e w5 ⟨A5, c5, B5, d5, rfl, hb5, l3, l4⟩
       obtain ⟨Y5, hY5⟩ : ∃ Y, w5.alloc (.cells #[.bool e2.na, .slice A5 e2.n c5, .bool e2.nb, .slice B5 e2.m d5] 45) = Y := ⟨_, rfl⟩
       have hBY5 : Below w5.heap.size w5 Y5 := by rw [<- hY5]; exact (Below.refl _ _).alloc (Nat.le_refl _) _
       have hbl5 : Blk Y5 w5.heap.size 45 #[.bool e2.na, .slice A5 e2.n c5, .bool e2.nb, .slice B5 e2.m d5] := by rw [<- hY5]; exact Blk.new _ _ _
       have hr5 : Below wr.heap.size wr Y5 := hb5.trans (hBY5.mono hb5.size)
       have hxY := hx.out.kept hr5
       have hfY : FX.in_ Y5 ⟨e2.na, A5, e2.n, c5, e2.la, e2.nb, B5, e2.m, d5, e2.lb⟩ := ⟨l3.below hBY5, l4.below hBY5⟩
       have hBo := hBt.trans (hr5.mono hBt.size)
       have hbo := hBo.size
       have hll : xs.length + 1 <= 1000 := by omega
       replace hll := Za hll
       replace hfY := Za hfY
       clear r0 r1 r2 r3 l1 l2 l3 l4 k1
       go_wp2_with ((try rw [hY5]); at_builtin; refine Zi5 _ rfl (.tmp 44) (.tmp 53) 40 rfl wo.heap.size 45 iF Tryz.underlying40 hi hz0 hz1 hz2 _ _ rfl hxY _ (some ⟨w5.heap.size, 0, none⟩) 1 1 [⟨e2.na, A5, e2.n, c5, e2.la, e2.nb, B5, e2.m, d5, e2.lb⟩] rfl (Zde (0 : Rat) hbl5) rfl (by intro e he; rw [List.mem_singleton] at he; subst he; exact hfY.out) hll.out hbo ?_; intro v6 w6 hO6 hg6)
       have hB6 := hBo.grown hg6 hbo (fun k hk => (hxY.1.row_ge k hk))
       have hxb6 : Hid ((xs ++ [FX.mk e2.na A5 e2.n c5 e2.la e2.nb B5 e2.m d5 e2.lb]).map FX.bare = (r.es.map FX.bare).take (t + 1)) := Za (by
        rw [List.map_append, hxb.out, <- hbare2.out]; rfl)
       go_roundg (r.n - (t + 1))
       case measure => omega
       case rel => exact ⟨t + 1, _, by omega, by go_num, hO6, hxb6, hB6⟩
open Go.ChangeShapes Go.WideShapes Go.Deep Go.RowKit
section
variable {H : Type} {enc : TypeId × Value -> H} {P : Program} {w : World} {base : Nat} {spare : Nat -> Bool} {held : Bool}
end
section
variable {H : Type} {enc : TypeId × Value -> H} {P : Program}
theorem Zlk {f : Func} {s : ChangeSpec} {apart fresh handsOn again : Bool} {W W' : World} {args : Array Value} {v : Value} {ds gs : List (DataW H)} {before pa pv : List MemPlace}
    (hW : DataW.Whole enc P f.params.toList s.vars apart W args.toList ds gs before)
    (hres : ∀ (b : Nat) (sp : Nat -> Bool) (hd : Bool), DataW.TrodAll enc P W' b sp hd f.resultTypes.toList (v.resultList f.resultTypes.size) (s.fn H (ds ++ gs)).results [])
    (hargs : ∀ sp : Nat -> Bool, (∀ p ∈ before, sp p.block = true) -> DataW.TrodAll enc P W' 0 sp true f.params.toList args.toList (s.fn H (ds ++ gs)).args pa)
    (hvars : ∀ sp : Nat -> Bool, (∀ p ∈ before, sp p.block = true) -> DataW.TrodVars enc P W' sp s.vars (s.fn H (ds ++ gs)).vars pv)
    (hps : before = pa ++ pv) (hb : Below W.heap.size W W')
    (hok : ∀ (j : Nat) (t : TypeId) (r : Value), f.resultTypes[j]? = some t -> (v.resultList f.resultTypes.size)[j]? = some r -> Value.okWide P W' .any 0 t r) :
    s.post enc P f apart fresh handsOn again W args v W' := by
 have hlt : ∀ p ∈ before, p.block < W.heap.size := fun p hp => hW.lt p hp
 have hold : ∀ p ∈ before, (fun b => decide (b < W.heap.size)) p.block = true := fun p hp => by simpa using hlt p hp
 refine ⟨ds, gs, before, [], pa, pv, hW, hres _ _ _, hargs _ hold, hvars _ hold, World.keptBut_mono (fun p hp => ⟨hp, ?_⟩) (hb.frame (· ∈ before)), fun _ => ?_⟩
 ·rw [hps, List.mem_append] at hp
  exact Or.inr hp
 ·obtain ⟨_, _, _, _, _, hz, hn⟩ := hW
  refine ⟨hok, _, _, ([] ++ pa) ++ pv, ⟨[] ++ pa, pv, trodAll_append (hargs _ (fun _ _ => rfl)) (hres _ _ _), hvars _ (fun _ _ => rfl), rfl, ?_, ?_⟩, ?_⟩
  ·intro b off hp
   have hin : MemPlace.cell b off ∈ before := by rw [hps]; simpa using hp
   rw [hb.frozen (hlt _ hin)]
   exact hz b off hin
  ·intro ha
   have := hn ha
   rw [hps] at this
   simpa using this
  ·intro p hp _
   rw [hps]
   simpa using hp
end
theorem Zqm {α : Type} (P : Nat -> α -> Prop) (n : Nat) (h : ∀ i, i < n -> ∃ e, P i e) : ∃ es : List α, es.length = n /\ ∀ (k : Nat) (e : α), es[k]? = some e -> P k e := by
 induction n with
 | zero => exact ⟨[], rfl, fun k e h => by simp at h⟩
 | succ n ih =>
  obtain ⟨es, h1, h2⟩ := ih fun i hi => h i (by omega)
  obtain ⟨e, he⟩ := h n (by omega)
  refine ⟨es ++ [e], by simp [h1], fun k e' hk => ?_⟩
  rcases Nat.lt_or_ge k es.length with hlt | hge
  ·rw [List.getElem?_append_left hlt] at hk; exact h2 k e' hk
  ·rw [List.getElem?_append_right hge] at hk
   rcases Nat.eq_or_lt_of_le hge with h0 | h0
   ·rw [show k - es.length = 0 by omega] at hk
    simp at hk
    subst hk
    rw [<- h0, h1]; exact he
   ·rw [List.getElem?_eq_none (by simp; omega)] at hk
    cases hk
theorem Zhv {w : World} {a : Addr} {v : Value} (h : w.cell? a = some v) : a = ⟨a.block, a.off, none⟩ := by
 obtain ⟨b, o, s⟩ := a
 cases s with
 | none => rfl
 | some s =>
  exfalso
  unfold World.cell? at h
  simp at h
  split at h <;> simp at h
section
variable {H : Type} {enc : TypeId × Value -> H} {w : World} {base : Nat} {spare : Nat -> Bool} {held : Bool}
end
theorem Zqn {z : Int} (h : (Lit.int .u32 z).wf = true) : 0 <= z /\ z <= 4294967295 := by
 simp only [Lit.wf, Bool.and_eq_true, decide_eq_true_eq] at h
 exact h
section
variable {H : Type} {enc : TypeId × Value -> H} {w : World} {base : Nat} {spare : Nat -> Bool} {held : Bool}
theorem Zqy {fuel : Nat} {cs : List Value} {x : DataW H × List MemPlace} (h : DataW.trod enc Tryz.prog w base spare held fuel 41 cs = some x) : ∃ (A : Option Addr) (n c : Nat) (l : List Nat), cs = [.slice A n c] /\ Lim w A n c l := by
 rcases open_ints Tryz.underlying41 Tryz.underlying84 (by kernel_rfl) h with ⟨rfl, _⟩ | ⟨a, len, cap, zs, rfl, _, hl, hm, hz, _, hcell, hwf⟩
 ·exact ⟨none, 0, 0, [], rfl, Lim.nil _ _ _ (Nat.zero_le _)⟩
 ·have hlz : len <= zs.length := by rw [hz]; split <;> omega
  refine ⟨some a, len, cap, (zs.take len).map Int.toNat, rfl, by simp; omega, hl, hm, fun v hv => ?_, fun hn => ?_⟩
  ·obtain ⟨z, hz1, rfl⟩ := List.mem_map.1 hv
   have := Zqn (hwf z (List.mem_of_mem_take hz1))
   omega
  ·have h0 := hcell 0 (by omega)
   have hp := Zhv h0
   obtain ⟨b, o, s⟩ : ∃ b o, a = ⟨b, o, none⟩ := by
    obtain ⟨b, o, s⟩ := a
    refine ⟨b, o, ?_⟩
    unfold Addr.add at hp
    split at hp <;> simp_all
   subst s
   refine ⟨b, o, rfl, fun k hk => ?_⟩
   have hc := hcell k (by omega)
   rw [Zi] at hc
   rw [hc]
   have hkz : k < zs.length := by omega
   have hw := Zqn (hwf zs[k] (List.getElem_mem hkz))
   rw [List.getElem?_map, List.getElem?_take, if_pos hk, List.getElem?_eq_getElem hkz, List.getD_eq_getElem?_getD, List.getElem?_eq_getElem hkz]
   simp [limb]
   omega
theorem Zjs {fuel : Nat} {cs : List Value} {x : DataW H × List MemPlace} (h : DataW.trod enc Tryz.prog w base spare held fuel 43 cs = some x) : ∃ (na : Bool) (A : Option Addr) (n c : Nat) (l : List Nat), cs = [.bool na, .slice A n c] /\ Lim w A n c l := by
 obtain ⟨xs, n', _, _, hl, hxl, hfl⟩ := DataW.trod_struct Tryz.underlying43 h
 have c2 : Tryz.prog.cellsOf 43 = 2 := by kernel_rfl
 have c0 : Tryz.prog.cellsOf 4 = 1 := by kernel_rfl
 have c1 : Tryz.prog.cellsOf 41 = 1 := by kernel_rfl
 rw [c2] at hl
 obtain ⟨x, y, rfl⟩ : ∃ x y, cs = [x, y] := by
  match cs, hl with
  | [x, y], _ => exact ⟨x, y, rfl⟩
 have f0 := hfl 0 _ rfl
 have f1 := hfl 1 _ rfl
 simp only [List.getElem_toArray, List.getElem_cons_zero, List.getElem_cons_succ] at f0 f1
 rw [c0] at f0
 rw [c1] at f1
 have g0 : xs[0]? = some (xs[0]'(by rw [hxl]; decide)) := List.getElem?_eq_getElem _
 have g1 : xs[1]? = some (xs[1]'(by rw [hxl]; decide)) := List.getElem?_eq_getElem _
 rw [g0] at f0
 rw [g1] at f1
 obtain ⟨b, e0, _⟩ := DataW.trod_bool Tryz.underlying4 f0
 obtain ⟨A, n, c, l, e1, hL⟩ := Zqy f1
 simp at e0 e1
 subst e0 e1
 exact ⟨b, A, n, c, l, rfl, hL⟩
theorem Zo9 {fuel : Nat} {cs : List Value} {x : DataW H × List MemPlace} (h : DataW.trod enc Tryz.prog w base spare held fuel 45 cs = some x) :
    ∃ (na nb : Bool) (A B : Option Addr) (n c m d : Nat) (la lb : List Nat), cs = [.bool na, .slice A n c, .bool nb, .slice B m d] /\ Lim w A n c la /\ Lim w B m d lb := by
 obtain ⟨xs, n', _, _, hl, hxl, hfl⟩ := DataW.trod_struct Tryz.underlying45 h
 have c4 : Tryz.prog.cellsOf 45 = 4 := by kernel_rfl
 have c2 : Tryz.prog.cellsOf 43 = 2 := by kernel_rfl
 rw [c4] at hl
 obtain ⟨x, y, z, u, rfl⟩ : ∃ x y z u, cs = [x, y, z, u] := by
  match cs, hl with
  | [x, y, z, u], _ => exact ⟨x, y, z, u, rfl⟩
 have f0 := hfl 0 _ rfl
 have f1 := hfl 1 _ rfl
 simp only [List.getElem_toArray, List.getElem_cons_zero, List.getElem_cons_succ] at f0 f1
 rw [c2] at f0 f1
 have g0 : xs[0]? = some (xs[0]'(by rw [hxl]; decide)) := List.getElem?_eq_getElem _
 have g1 : xs[1]? = some (xs[1]'(by rw [hxl]; decide)) := List.getElem?_eq_getElem _
 rw [g0] at f0
 rw [g1] at f1
 obtain ⟨na, A, n, c, la, e0, h0⟩ := Zjs f0
 obtain ⟨nb, B, m, d, lb, e1, h1⟩ := Zjs f1
 simp at e0 e1
 obtain ⟨rfl, rfl⟩ := e0
 obtain ⟨rfl, rfl⟩ := e1
 exact ⟨na, nb, A, B, n, c, m, d, la, lb, rfl, h0, h1⟩
end
end Go.Proofs.YtigdclhagmnopaaGreat
