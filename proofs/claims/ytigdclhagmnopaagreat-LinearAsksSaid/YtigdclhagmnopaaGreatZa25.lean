/- Rows of fractions: Few, Large, and the reference's vector. The reference of linear: Great. Polynomials: lists of whole numbers, the coefficient of the lowest power first. -/
import Derived.Deep.LoopGhost
import Derived.Test.YtigdclhagmnopaaGreatZa23
import Derived.Test.YtigdclhagmnopaaGreatZa24
import Derived.Test.YtigdclhagmnopaaGreatZa01
set_option linter.unusedSimpArgs false
set_option linter.unusedVariables false

namespace Go.Proofs.YtigdclhagmnopaaGreat
open Go.RowKit
attribute [local go_sem] add_lit

theorem FX.lens {w : World} {e : FX} (h : e.in_ w) : e.n ≤ maxLen ∧ e.m ≤ maxLen := ⟨Nat.le_trans h.1.2.1 h.1.2.2.1, Nat.le_trans h.2.2.1 h.2.2.2.1⟩

set_option maxRecDepth 100000 in
set_option maxHeartbeats 1000000 in
theorem Few_any (na nb : Bool) (A B : Option Addr) (n c m d : Nat) (w : World) (hn : n ≤ maxLen) (hm : m ≤ maxLen) :
    Calls Tryz.prog 36 #[.agg #[.bool na, .slice A n c, .bool nb, .slice B m d]] w fun e w' => e = .returned (.int .i64 (max n m : Nat)) ∧ Below w.heap.size w w' := by
  unfold maxLen at hn hm
  obtain ⟨W0, hW0, hB0, q0, s0⟩ := alloc1 w 45 #[.bool na, .slice A n c, .bool nb, .slice B m d]
  obtain ⟨a0, a1, a2, a3, -⟩ := q0.four
  have hx : max (n : Int) (m : Int) = ((max n m : Nat) : Int) := by omega
  go_enter Tryz.func36, Tryz.ntmps36
  go_wp2_with fail
  go_ret
  exact ⟨rfl, (by first | exact hB0 | exact below_dn hB0 _)⟩

/-- A fraction that the laws leave aside. -/
def largeN (k : Nat) : Bool := (decide (2 < k) && decide (k ≤ 8)) || decide (20 < k)
set_option maxRecDepth 100000 in
set_option maxHeartbeats 1000000 in
theorem Large_any (na nb : Bool) (A B : Option Addr) (n c m d : Nat) (w : World) (hn : n ≤ maxLen) (hm : m ≤ maxLen) (b : Bool) (hb : largeN (max n m) = b) :
    Calls Tryz.prog 49 #[.agg #[.bool na, .slice A n c, .bool nb, .slice B m d]] w fun e w' => e = .returned (.bool b) ∧ Below w.heap.size w w' := by
  obtain ⟨W0, hW0, hB0, q0, s0⟩ := alloc1 w 45 #[.bool na, .slice A n c, .bool nb, .slice B m d]
  obtain ⟨a0, a1, a2, a3, -⟩ := q0.four
  obtain ⟨k, hk⟩ : ∃ k, max n m = k := ⟨_, rfl⟩
  rw [hk] at hb
  have hkl : k ≤ maxLen := by omega
  unfold maxLen at hkl
  go_enter Tryz.func49, Tryz.ntmps49
  go_wp2_with fail
  refine (Few_any na nb A B n c m d W0 hn hm).mono ?_
  rw [hk]
  rintro e w1 ⟨rfl, hb1⟩
  have hB1 := hB0.trans (hb1.mono hB0.size)
  clear hn hm hk
  unfold largeN at hb
  by_cases h1 : 2 < k
  · have t1 : decide ((2 : Int) < (k : Int)) = true := decide_eq_true (by omega)
    by_cases h2 : k ≤ 8
    · have t2 : decide ((k : Int) ≤ 8) = true := decide_eq_true (by omega)
      obtain rfl : b = true := by rw [← hb, decide_eq_true h1, decide_eq_true h2]; rfl
      clear hb
      go_wp2_with fail
      go_ret
      exact ⟨rfl, hB1⟩
    · have t2 : decide ((k : Int) ≤ 8) = false := decide_eq_false (by omega)
      have t3 : decide ((20 : Int) < (k : Int)) = b := by rw [← hb, decide_eq_true h1, decide_eq_false h2]; simp only [Bool.and_false, Bool.false_or]; exact decide_eq_decide.2 (by omega)
      have t3' : decide (20 < k) = b := by rw [← hb, decide_eq_true h1, decide_eq_false h2]; rfl
      clear hb
      go_wp2_with fail
      go_ret
      exact ⟨rfl, hB1⟩
  · have t1 : decide ((2 : Int) < (k : Int)) = false := decide_eq_false (by omega)
    have t3 : decide ((20 : Int) < (k : Int)) = b := by rw [← hb, decide_eq_false h1]; simp only [Bool.false_and, Bool.false_or]; exact decide_eq_decide.2 (by omega)
    have t3' : decide (20 < k) = b := by rw [← hb, decide_eq_false h1]; rfl
    clear hb
    go_wp2_with fail
    go_ret
    exact ⟨rfl, hB1⟩

/-- Is an element valid, and small enough? -/
def FX.fine (e : FX) : Bool := decide (e.few ≤ 8) && e.ok
def vecOk (es : List FX) : Bool := es.all FX.fine

set_option maxRecDepth 100000 in
set_option maxHeartbeats 2000000 in
theorem rvector_any (A : Option Addr) (n c : Nat) (es : List FX) (w : World) (h : FXL w A n c es) (b : Bool) (hb : vecOk es = b) :
    Calls Tryz.prog 78 #[.slice A n c] w fun e w' => e = .returned (.bool b) ∧ Below w.heap.size w w' := by
  have hl := h.1
  have hnc := h.2.1
  have hcm := h.2.2.1
  unfold maxLen at hcm
  replace hl := hide hl
  replace hb := hide hb
  replace h := hide h
  go_enter Tryz.func78, Tryz.ntmps78
  go_wp2_with fail
  go_loopw [3] (fun iv wr => ∃ i : Nat, i ≤ n ∧ iv = .int .i64 i ∧ Hid (∀ j e, j < i → es[j]? = some e → e.fine = true) ∧ Below w.heap.size w wr) (fun iv _ => n - (intOf iv).toNat)
  case atStart => exact ⟨0, Nat.zero_le _, rfl, hide (fun j e hj => by omega), Below.refl _ _⟩
  case round =>
    obtain ⟨i, hik, rfl, hall, hBp⟩ := hrel
    by_cases hin : i < n
    case neg =>
      obtain rfl : n = i := by omega
      have htk : decide ((n : Int) < (n : Int)) = false := by simp
      obtain rfl : b = true := by
        rw [← hb.out]
        unfold vecOk
        rw [List.all_eq_true]
        intro e he
        obtain ⟨j, hj, hje⟩ := List.getElem_of_mem he
        exact hall.out j e (by rw [hl.out] at hj; exact hj) (by rw [List.getElem?_eq_getElem hj, hje])
      go_wp2_with fail
      go_ret
      exact ⟨rfl, hBp⟩
    have htk : decide ((i : Int) < (n : Int)) = true := decide_eq_true (by omega)
    obtain ⟨g, o, e, rfl, he, hc, hLa, hLb⟩ := (h.out.below hBp).at_ hin
    obtain ⟨c0, c1, c2, c3⟩ := hc
    have ha0 := hLa.2.1
    have ha1 := hLa.2.2.1
    have hb0 := hLb.2.1
    have hb1 := hLb.2.2.1
    unfold maxLen at ha1 hb1
    have bad : e.fine = false → b = false := fun hf => by
      rw [← hb.out]
      unfold vecOk
      rw [List.all_eq_false]
      exact ⟨e, List.mem_of_getElem? he, by rw [hf]; decide⟩
    replace bad := hide bad
    by_cases h1 : 8 < e.n
    · have t1 : decide ((8 : Int) < (e.n : Int)) = true := decide_eq_true (by omega)
      obtain rfl : b = false := bad.out (by unfold FX.fine FX.few; rw [decide_eq_false (by omega)]; rfl)
      replace he := hide he
      go_wp2_with fail
      go_ret
      exact ⟨rfl, hBp⟩
    have t1 : decide ((8 : Int) < (e.n : Int)) = false := decide_eq_false (by omega)
    by_cases h2 : 8 < e.m
    · have t2 : decide ((8 : Int) < (e.m : Int)) = true := decide_eq_true (by omega)
      obtain rfl : b = false := bad.out (by unfold FX.fine FX.few; rw [decide_eq_false (by omega)]; rfl)
      replace he := hide he
      go_wp2_with fail
      go_ret
      exact ⟨rfl, hBp⟩
    have t2 : decide ((8 : Int) < (e.m : Int)) = false := decide_eq_false (by omega)
    obtain ⟨x, hx⟩ : ∃ x, e.ok = x := ⟨_, rfl⟩
    have hC := hide (fun W1 (hb : Below wr.heap.size wr W1) => rfCheck_any e.na e.nb e.A e.B e.n e.c e.m e.d e.la e.lb W1 (hLa.below hb) (hLb.below hb) x hx)
    clear hLa hLb
    cases x
    · obtain rfl : b = false := bad.out (by unfold FX.fine; rw [hx]; simp)
      replace he := hide he
      clear hx
      go_wp2_with fail
      refine (hC.out _ (by first | exact Below.refl _ _ | exact below_dn (Below.refl _ _) _)).mono ?_
      rintro e' w1 ⟨rfl, hb1⟩
      simp only [errOf, Bool.false_eq_true, if_false]
      go_wp2_with fail
      go_ret
      exact ⟨rfl, (by first | exact hBp.trans (hb1.mono hBp.size) | exact (below_dn hBp _).trans (hb1.mono hBp.size))⟩
    · have hall2 : Hid (∀ j e, j < i + 1 → es[j]? = some e → e.fine = true) := hide (fun j e' hj he' => by
        rcases Nat.lt_or_ge j i with h' | h'
        · exact hall.out j e' h' he'
        · obtain rfl : j = i := by omega
          rw [he] at he'
          cases he'
          unfold FX.fine FX.few
          rw [hx, decide_eq_true (by omega)]; rfl)
      replace he := hide he
      clear hx
      go_wp2_with fail
      refine (hC.out _ (by first | exact Below.refl _ _ | exact below_dn (Below.refl _ _) _)).mono ?_
      rintro e' w1 ⟨rfl, hb1⟩
      simp only [errOf, if_true]
      go_wp2_with fail
      go_roundw
      case rel => exact ⟨i + 1, by omega, by go_num, hall2, (by first | exact hBp.trans (hb1.mono hBp.size) | exact (below_dn hBp _).trans (hb1.mono hBp.size))⟩
      case measure => simp [intOf]; omega
end Go.Proofs.YtigdclhagmnopaaGreat

namespace Go.Proofs.YtigdclhagmnopaaGreat
open Go.RowKit
attribute [local go_sem] add_lit

/-- A row that Great leaves alone. -/
def calmR (r : RX) : Prop := (r.n ≤ 5 ∨ 12 < r.n) ∧ ∀ e ∈ r.es, largeN e.few = false
/-- A matrix that Great leaves alone. -/
def calmM (rs : List RX) : Prop := (rs.length ≤ 5 ∨ 12 < rs.length) ∧ ∀ k r, k < 16 → rs[k]? = some r → calmR r

set_option maxRecDepth 100000 in
set_option maxHeartbeats 4000000 in
theorem rGreat_any (A : Option Addr) (n c : Nat) (rs : List RX) (w : World) (h : MXL w A n c rs) :
    Calls Tryz.prog 10 #[.slice A n c] w fun e w' => ∃ b, e = .returned (.bool b) ∧ Below w.heap.size w w' ∧ (b = false → calmM rs) := by
  have hl := h.1
  have hnc := h.2.1
  have hcm := h.2.2.1
  unfold maxLen at hcm
  replace h := hide h
  replace hl := hide hl
  go_enter Tryz.func10, Tryz.ntmps10
  go_wp2_with fail
  go_loopg [3] n (fun k iv wr => ∃ i : Nat, i + k = n ∧ i ≤ 16 ∧ iv = .int .i64 i ∧ Hid (∀ a r, a < i → rs[a]? = some r → calmR r) ∧ Below w.heap.size w wr)
  case atStart => exact ⟨0, by omega, by omega, rfl, hide (fun a r ha => by omega), Below.refl _ _⟩
  case round =>
    obtain ⟨i, hik, hi16, rfl, hc, hB⟩ := hrel
    by_cases hend : i < n ∧ i < 16
    case neg =>
      have hcc : Hid (∀ a r, a < 16 → rs[a]? = some r → calmR r) := hide (fun a r ha hr => by
        have hi := (List.getElem?_eq_some_iff.1 hr).1
        exact hc.out a r (by rw [hl.out] at hi; omega) hr)
      have fin : Hid (∀ b : Bool, b = (decide (5 < n) && decide (n ≤ 12) || decide (15 < n)) → b = false → calmM rs) := hide (fun b hb hf => ⟨by
        rw [hf] at hb
        have : ¬ (5 < n ∧ n ≤ 12) := fun h => by rw [decide_eq_true h.1, decide_eq_true h.2] at hb; cases hb
        rw [hl.out]; omega, hcc.out⟩)
      by_cases hin : i < n
      case pos =>
        have t1 : decide ((i : Int) < (n : Int)) = true := decide_eq_true (by omega)
        have t2 : decide ((i : Int) < 16) = false := decide_eq_false (by omega)
        have t2' : decide (i < 16) = false := decide_eq_false (by omega)
        have u5 : decide ((5 : Int) < (n : Int)) = true := decide_eq_true (by omega)
        have u12 : decide ((n : Int) ≤ 12) = false := decide_eq_false (by omega)
        have u15 : decide ((15 : Int) < (n : Int)) = true := decide_eq_true (by omega)
        go_wp2_with fail
        go_ret
        exact ⟨_, rfl, hB, fun hf => absurd hf (by decide)⟩
      have t1 : decide ((i : Int) < (n : Int)) = false := decide_eq_false (by omega)
      by_cases h5 : 5 < n
      · have u5 : decide ((5 : Int) < (n : Int)) = true := decide_eq_true (by omega)
        by_cases h12 : n ≤ 12
        · have u12 : decide ((n : Int) ≤ 12) = true := decide_eq_true (by omega)
          go_wp2_with fail
          go_ret
          exact ⟨_, rfl, hB, fun hf => absurd hf (by decide)⟩
        · have u12 : decide ((n : Int) ≤ 12) = false := decide_eq_false (by omega)
          have u15 : decide ((15 : Int) < (n : Int)) = decide (15 < n) := decide_eq_decide.2 (by omega)
          go_wp2_with fail
          go_ret
          exact ⟨_, rfl, hB, fun hf => fin.out _ (by first | (rw [decide_eq_false h12, Bool.and_false, Bool.false_or]) | (rw [decide_eq_false h12, Bool.and_false, Bool.false_or, u15])) hf⟩
      · have u5 : decide ((5 : Int) < (n : Int)) = false := decide_eq_false (by omega)
        have u15 : decide ((15 : Int) < (n : Int)) = false := decide_eq_false (by omega)
        go_wp2_with fail
        go_ret
        exact ⟨_, rfl, hB, fun hf => fin.out _ (by rw [decide_eq_false h5, decide_eq_false (by omega : ¬ 15 < n)]; rfl) rfl⟩
    obtain ⟨hin, hi16'⟩ := hend
    obtain ⟨gk', rfl⟩ : ∃ j, gk = j + 1 := ⟨gk - 1, by omega⟩
    obtain rfl : gk' = n - (i + 1) := by omega
    have t1 : decide ((i : Int) < (n : Int)) = true := decide_eq_true (by omega)
    have t2 : decide ((i : Int) < 16) = true := decide_eq_true (by omega)
    have t2' : decide (i < 16) = true := decide_eq_true (by omega)
    have bi : (i : Int) < (n : Int) := by omega
    obtain ⟨g, o, r, rfl, hr, k0, hF⟩ := (h.out.below hB).at_ hin
    have hrl := Nat.le_trans hF.2.1 hF.2.2.1
    unfold maxLen at hrl
    have hes : Hid (r.es.length = r.n) := hide hF.1
    have hrowF := hide (fun (W : World) (hb : Below wr.heap.size wr W) => hF.below hb)
    replace hr := hide hr
    clear hF
    by_cases hgr : 5 < r.n ∧ r.n ≤ 12 ∨ 15 < r.n
    case pos =>
      by_cases h12 : r.n ≤ 12
      · have u5 : decide ((5 : Int) < (r.n : Int)) = true := decide_eq_true (by omega)
        have u12 : decide ((r.n : Int) ≤ 12) = true := decide_eq_true (by omega)
        replace hgr := hide hgr
        go_wp2_with fail
        go_ret
        exact ⟨_, rfl, hB, fun hf => absurd hf (by decide)⟩
      · have u5 : decide ((5 : Int) < (r.n : Int)) = true := decide_eq_true (by omega)
        have u12 : decide ((r.n : Int) ≤ 12) = false := decide_eq_false (by omega)
        have u15 : decide ((15 : Int) < (r.n : Int)) = true := decide_eq_true (by omega)
        replace hgr := hide hgr
        go_wp2_with fail
        go_ret
        exact ⟨_, rfl, hB, fun hf => absurd hf (by decide)⟩
    have hcr : Hid (r.n ≤ 5 ∨ 12 < r.n) := hide (by omega)
    have INNER : ∀ wz : World, wz = wr → True := fun _ _ => trivial
    clear INNER
    obtain ⟨wr0, hwr0⟩ : ∃ wx : World, wx = wr := ⟨_, rfl⟩
    subst hwr0
    by_cases h5 : 5 < r.n
    case pos =>
      have u5 : decide ((5 : Int) < (r.n : Int)) = true := decide_eq_true (by omega)
      have u12 : decide ((r.n : Int) ≤ 12) = false := decide_eq_false (by omega)
      have u15 : decide ((15 : Int) < (r.n : Int)) = false := decide_eq_false (by omega)
      replace hgr := hide hgr
      go_wp2_with fail
      go_loopg [4] r.n (fun k iv wx => ∃ j : Nat, j + k = r.n ∧ iv = .int .i64 j ∧ Hid (∀ a e, a < j → r.es[a]? = some e → largeN e.few = false) ∧ Below wr0.heap.size wr0 wx)
      case atStart => exact ⟨0, by omega, rfl, hide (fun a e ha => by omega), Below.refl _ _⟩
      case round =>
        obtain ⟨j, hjk, rfl, hce, hB2⟩ := hrel
        have k1 := keep_cell hB2 k0
        have hBx := hide (hB.trans (hB2.mono hB.size))
        cases gk with
        | zero =>
          obtain rfl : j = r.n := by omega
          have t3 : decide ((r.n : Int) < (r.n : Int)) = false := by simp
          have hc2 : Hid (∀ a x, a < i + 1 → rs[a]? = some x → calmR x) := hide (fun a x ha hx => by
            by_cases he : a = i
            · subst he
              have := hr.out
              rw [this] at hx
              cases hx
              refine ⟨hcr.out, fun e he => ?_⟩
              obtain ⟨t, ht, hte⟩ := List.getElem_of_mem he
              exact hce.out t e (by rw [hes.out] at ht; exact ht) (by rw [List.getElem?_eq_getElem ht, hte])
            · exact hc.out a x (by omega) hx)
          go_wp2_with fail
          go_roundg (n - (i + 1))
          case measure => omega
          case rel => exact ⟨i + 1, by omega, by omega, by go_num, hc2, hBx.out⟩
        | succ gk' =>
          obtain rfl : gk' = r.n - (j + 1) := by omega
          have hjn : j < r.n := by omega
          have t3 : decide ((j : Int) < (r.n : Int)) = true := decide_eq_true (by omega)
          have bj : (j : Int) < (r.n : Int) := by omega
          obtain ⟨g2, o2, e, hA2, hee, ⟨c0, c1, c2, c3⟩, hLa, hLb⟩ := (hrowF.out _ hB2).at_ hjn
          rw [hA2] at k1
          replace hA2 := hide hA2
          have hn1 := Nat.le_trans hLa.2.1 hLa.2.2.1
          have hm1 := Nat.le_trans hLb.2.1 hLb.2.2.1
          obtain ⟨b, hb⟩ : ∃ b, largeN (max e.n e.m) = b := ⟨_, rfl⟩
          replace hee := hide hee
          have hb' := hide hb
          go_wp2_with fail
          refine (Large_any _ _ _ _ _ _ _ _ _ hn1 hm1 b hb).mono ?_
          rintro e2 w5 ⟨rfl, hb5⟩
          have hB5 := hB2.trans (hb5.mono hB2.size)
          clear hb hLa hLb
          cases b with
          | true =>
            go_wp2_with fail
            go_ret
            exact ⟨_, rfl, hBx.out.trans (hb5.mono hBx.out.size), fun hf => absurd hf (by decide)⟩
          | false =>
            have hce2 : Hid (∀ a e, a < j + 1 → r.es[a]? = some e → largeN e.few = false) := hide (fun a x ha hx => by
              by_cases he : a = j
              · subst he
                have := hee.out
                rw [this] at hx
                cases hx
                exact hb'.out
              · exact hce.out a x (by omega) hx)
            go_wp2_with fail
            go_roundg (r.n - (j + 1))
            case measure => omega
            case rel => exact ⟨j + 1, by omega, by go_num, hce2, hB5⟩
    have u5 : decide ((5 : Int) < (r.n : Int)) = false := decide_eq_false (by omega)
    have u15 : decide ((15 : Int) < (r.n : Int)) = false := decide_eq_false (by omega)
    replace hgr := hide hgr
    go_wp2_with fail
    go_loopg [4] r.n (fun k iv wx => ∃ j : Nat, j + k = r.n ∧ iv = .int .i64 j ∧ Hid (∀ a e, a < j → r.es[a]? = some e → largeN e.few = false) ∧ Below wr0.heap.size wr0 wx)
    case atStart => exact ⟨0, by omega, rfl, hide (fun a e ha => by omega), Below.refl _ _⟩
    case round =>
      obtain ⟨j, hjk, rfl, hce, hB2⟩ := hrel
      have k1 := keep_cell hB2 k0
      have hBx := hide (hB.trans (hB2.mono hB.size))
      cases gk with
      | zero =>
        obtain rfl : j = r.n := by omega
        have t3 : decide ((r.n : Int) < (r.n : Int)) = false := by simp
        have hc2 : Hid (∀ a x, a < i + 1 → rs[a]? = some x → calmR x) := hide (fun a x ha hx => by
          by_cases he : a = i
          · subst he
            have := hr.out
            rw [this] at hx
            cases hx
            refine ⟨hcr.out, fun e he => ?_⟩
            obtain ⟨t, ht, hte⟩ := List.getElem_of_mem he
            exact hce.out t e (by rw [hes.out] at ht; exact ht) (by rw [List.getElem?_eq_getElem ht, hte])
          · exact hc.out a x (by omega) hx)
        go_wp2_with fail
        go_roundg (n - (i + 1))
        case measure => omega
        case rel => exact ⟨i + 1, by omega, by omega, by go_num, hc2, hBx.out⟩
      | succ gk' =>
        obtain rfl : gk' = r.n - (j + 1) := by omega
        have hjn : j < r.n := by omega
        have t3 : decide ((j : Int) < (r.n : Int)) = true := decide_eq_true (by omega)
        have bj : (j : Int) < (r.n : Int) := by omega
        obtain ⟨g2, o2, e, hA2, hee, ⟨c0, c1, c2, c3⟩, hLa, hLb⟩ := (hrowF.out _ hB2).at_ hjn
        rw [hA2] at k1
        replace hA2 := hide hA2
        have hn1 := Nat.le_trans hLa.2.1 hLa.2.2.1
        have hm1 := Nat.le_trans hLb.2.1 hLb.2.2.1
        obtain ⟨b, hb⟩ : ∃ b, largeN (max e.n e.m) = b := ⟨_, rfl⟩
        replace hee := hide hee
        have hb' := hide hb
        go_wp2_with fail
        refine (Large_any _ _ _ _ _ _ _ _ _ hn1 hm1 b hb).mono ?_
        rintro e2 w5 ⟨rfl, hb5⟩
        have hB5 := hB2.trans (hb5.mono hB2.size)
        clear hb hLa hLb
        cases b with
        | true =>
          go_wp2_with fail
          go_ret
          exact ⟨_, rfl, hBx.out.trans (hb5.mono hBx.out.size), fun hf => absurd hf (by decide)⟩
        | false =>
          have hce2 : Hid (∀ a e, a < j + 1 → r.es[a]? = some e → largeN e.few = false) := hide (fun a x ha hx => by
            by_cases he : a = j
            · subst he
              have := hee.out
              rw [this] at hx
              cases hx
              exact hb'.out
            · exact hce.out a x (by omega) hx)
          go_wp2_with fail
          go_roundg (r.n - (j + 1))
          case measure => omega
          case rel => exact ⟨j + 1, by omega, by go_num, hce2, hB5⟩
end Go.Proofs.YtigdclhagmnopaaGreat

namespace Go.Proofs.YtigdclhagmnopaaGreat
open Go.RowKit

/-- A coefficient that is not valid. -/
def WE.bad (e : WE) : Bool := decide (40 < e.l.length) || !e.ok
/-- Is the list a valid polynomial? -/
def pOk (es : List WE) : Bool := decide (es.length ≤ 9) && !es.any WE.bad && !(es.getLast?.any fun e => e.l.isEmpty)

/-- Zeros at the end cut off. -/
def trimP : List Int → List Int
  | [] => []
  | x :: l => match trimP l with
    | [] => if x = 0 then [] else [x]
    | y :: m => x :: y :: m

/-- Coefficients that are small enough. -/
def okP (xs : List Int) : Bool := decide (xs.length ≤ 9) && xs.all fun x => decide (x.natAbs < pw 40)

theorem trimP_take {xs : List Int} {k : Nat} (hz : ∀ j, k ≤ j → xs[j]?.getD 0 = 0) (hk : k = 0 ∨ xs[k - 1]?.getD 0 ≠ 0) : trimP xs = xs.take k := by
  induction xs generalizing k with
  | nil => simp [trimP]
  | cons x l ih =>
    cases k with
    | zero =>
      have h0 := hz 0 (Nat.le_refl _)
      have := ih (k := 0) (fun j _ => by have := hz (j + 1) (by omega); simpa using this) (.inl rfl)
      simp at h0
      simp [trimP, this, h0]
    | succ k =>
      have h1 : ∀ j, k ≤ j → l[j]?.getD 0 = 0 := fun j hj => by have := hz (j + 1) (by omega); simpa using this
      rcases Nat.eq_zero_or_pos k with rfl | h
      · have := ih (k := 0) (fun j _ => h1 j (by omega)) (.inl rfl)
        have hx : x ≠ 0 := by rcases hk with hk | hk; omega; simpa using hk
        simp [trimP, this, hx]
      · have hk' : l[k - 1]?.getD 0 ≠ 0 := by
          rcases hk with hk | hk
          · omega
          · rw [show k + 1 - 1 = (k - 1) + 1 by omega] at hk; simpa using hk
        have h2 := ih h1 (.inr hk')
        have hne : l.take k ≠ [] := by
          intro he
          have : l[k - 1]? = none := by
            rcases Nat.lt_or_ge (k - 1) l.length with h' | h'
            · have := congrArg List.length he; rw [List.length_take, List.length_nil] at this; omega
            · exact List.getElem?_eq_none h'
          rw [this] at hk'; simp at hk'
        rw [trimP, h2, List.take_succ_cons]
        cases hl : l.take k with
        | nil => exact absurd hl hne
        | cons y m => rfl

/-- The slice holds valid numbers, worth xs. -/
def PolyL (w : World) (A : Option Addr) (n c : Nat) (xs : List Int) : Prop := ∃ es, WL w A n c es ∧ es.map WE.num = xs ∧ ∀ e ∈ es, e.ok = true

theorem WE.num_zero {w : World} {e : WE} (h : Lim w e.A e.n e.c e.l) (hk : e.ok = true) : e.n = 0 ↔ e.num = 0 := by
  have h1 := (okW_iff h.lt).1 hk
  have h2 := h.len
  constructor
  · intro h0
    have : e.l = [] := List.eq_nil_of_length_eq_zero (by omega)
    unfold WE.num; rw [this]; cases e.neg <;> simp [sg, val]
  · intro h0
    have h3 := h1.2.2
    unfold WE.num at h0
    rw [h0] at h3
    rw [← h2, h3]; simp [digits_zero]
theorem WE.wd {w : World} {e : WE} (h : Lim w e.A e.n e.c e.l) (hk : e.ok = true) : Wd w e.neg e.A e.n e.c e.num := Wd.of_ok h hk
theorem WE.len40 {w : World} {e : WE} (h : Lim w e.A e.n e.c e.l) (hk : e.ok = true) : e.l.length ≤ 40 ↔ e.num.natAbs < pw 40 := by
  have h1 := (okW_iff h.lt).1 hk
  have h3 := h1.2.2
  have : e.l.length = (digits e.num.natAbs).length := by unfold WE.num; rw [← h3]
  rw [this, length_digits_le]

theorem PolyL.pok {w : World} {A : Option Addr} {n c : Nat} {es : List WE} (h : WL w A n c es) (hk : ∀ e ∈ es, e.ok = true) (hl : ∀ x, (es.map WE.num).getLast? = some x → x ≠ 0) : pOk es = okP (es.map WE.num) := by
  have h1 : es.any WE.bad = !(es.map WE.num).all fun x => decide (x.natAbs < pw 40) := by
    rw [List.all_map, Bool.eq_iff_iff]
    simp only [List.any_eq_true, Bool.not_eq_true', List.all_eq_false, Function.comp]
    constructor
    · rintro ⟨e, he, hb⟩
      refine ⟨e, he, ?_⟩
      simp only [WE.bad, hk e he, Bool.not_true, Bool.or_false, decide_eq_true_eq] at hb
      have := WE.len40 (h.2.2.2.2 e he) (hk e he)
      simp only [decide_eq_true_eq]
      intro h'
      have := this.2 h'
      omega
    · rintro ⟨e, he, hb⟩
      refine ⟨e, he, ?_⟩
      simp only [WE.bad, hk e he, Bool.not_true, Bool.or_false, decide_eq_true_eq]
      have := WE.len40 (h.2.2.2.2 e he) (hk e he)
      simp only [decide_eq_true_eq] at hb
      rcases Nat.lt_or_ge 40 e.l.length with h' | h'
      · exact h'
      · exact absurd (this.1 h') hb
  have h2 : (es.getLast?.any fun e => e.l.isEmpty) = false := by
    rcases Option.eq_none_or_eq_some es.getLast? with h' | ⟨e, h'⟩
    · rw [h']; rfl
    · rw [h']
      have he := List.mem_of_getLast? h'
      have hx := hl e.num (by rw [List.getLast?_map, h']; rfl)
      have h0 := WE.num_zero (h.2.2.2.2 e he) (hk e he)
      simp only [Option.any_some]
      rw [Bool.eq_false_iff]
      intro hh
      have : e.l = [] := by simpa using hh
      exact hx (h0.1 (by rw [← (h.2.2.2.2 e he).len, this]; rfl))
  unfold pOk okP
  rw [h1, h2]
  simp
theorem trimP_last (xs : List Int) : ∀ x, (trimP xs).getLast? = some x → x ≠ 0 := by
  induction xs with
  | nil => simp [trimP]
  | cons a l ih =>
    intro x hx
    rw [trimP] at hx
    cases hl : trimP l with
    | nil =>
      rw [hl] at hx
      by_cases ha : a = 0
      · simp [ha] at hx
      · simp [ha] at hx; rw [← hx]; exact ha
    | cons y m =>
      rw [hl] at hx ih
      exact ih x (by simpa using hx)
theorem PolyL.below {w w' : World} {A : Option Addr} {n c : Nat} {xs : List Int} (h : PolyL w A n c xs) (hb : Below w.heap.size w w') : PolyL w' A n c xs := by
  obtain ⟨es, h1, h2, h3⟩ := h
  exact ⟨es, h1.below hb, h2, h3⟩
theorem PolyL.take {w : World} {A : Option Addr} {n c : Nat} {xs : List Int} (h : PolyL w A n c xs) {k : Nat} (hk : k ≤ n) : PolyL w A k c (xs.take k) := by
  obtain ⟨es, h1, h2, h3⟩ := h
  exact ⟨es.take k, h1.take hk, by rw [List.map_take, h2], fun e he => h3 e (List.mem_of_mem_take he)⟩
theorem PolyL.len {w : World} {A : Option Addr} {n c : Nat} {xs : List Int} (h : PolyL w A n c xs) : xs.length = n := by
  obtain ⟨es, h1, h2, h3⟩ := h
  rw [← h2, List.length_map]; exact h1.len
theorem PolyL.nil (w : World) (A : Option Addr) (c : Nat) (hc : c ≤ maxLen) : PolyL w A 0 c [] := ⟨[], WL.nil w A c hc, rfl, fun e h => by cases h⟩

/-- A result (polynomial, error). -/
def ResPoly (w : World) (xs : List Int) (e : Ending) (w' : World) : Prop :=
  Below w.heap.size w w' ∧ ∃ A n c code, e = .returned (.tuple #[.slice A n c, .int .i64 code]) ∧ ((okP (trimP xs) = true ∧ code = 0 ∧ PolyL w' A n c (trimP xs)) ∨ (okP (trimP xs) = false ∧ code = 16 ∧ n = 0 ∧ c = 0))
/-- A result (polynomial, error) for a polynomial that is not valid. -/
def BadPoly (w : World) (e : Ending) (w' : World) : Prop := Below w.heap.size w w' ∧ ∃ A, e = .returned (.tuple #[.slice A 0 0, .int .i64 8])
end Go.Proofs.YtigdclhagmnopaaGreat
