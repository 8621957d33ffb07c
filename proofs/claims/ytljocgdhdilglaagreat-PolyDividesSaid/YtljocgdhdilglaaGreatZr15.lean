/- Package poly: join, Add, Sub. -/
import Derived.Test.YtljocgdhdilglaaGreatZr12
import Derived.Test.YtljocgdhdilglaaGreatZr13
import Derived.Test.YtljocgdhdilglaaGreatZr14
set_option linter.unusedSimpArgs false
set_option linter.unusedVariables false

namespace Go.Proofs.YtljocgdhdilglaaGreat
open Go.RowKit
attribute [local go_sem] add_lit

theorem infoW : (Tryz.prog.info? 25).map (fun i => (i.zero, i.size, i.bytes)) = some (some (.agg #[.bool false, .slice none 0 0]), 2, 32) := by kernel_rfl

/-- Two lists joined place by place, 0 behind the end. -/
def joinP (f : Int → Int → Int) (xs ys : List Int) : List Int := (List.range (max xs.length ys.length)).map fun i => f (xs[i]?.getD 0) (ys[i]?.getD 0)

theorem joinP_eq {f : Int → Int → Int} {xs ys o : List Int} {N : Nat} (hN : N = max xs.length ys.length) (hl : o.length = N) (h : ∀ j, j < N → o[j]?.getD 0 = f (xs[j]?.getD 0) (ys[j]?.getD 0)) : o = joinP f xs ys := by
  apply List.ext_getElem
  · simp [joinP, hl, hN]
  · intro i h1 h2
    have := h i (by omega)
    rw [List.getElem?_eq_getElem h1] at this
    simpa [joinP] using this

theorem pOk_parts {es : List WE} (h : pOk es = true) : es.length ≤ 9 ∧ (∀ e ∈ es, e.ok = true ∧ e.l.length ≤ 40) := by
  unfold pOk at h
  simp only [Bool.and_eq_true, decide_eq_true_eq, Bool.not_eq_true', List.any_eq_false] at h
  refine ⟨h.1.1, fun e he => ?_⟩
  have := h.1.2 e he
  unfold WE.bad at this
  simp at this
  exact ⟨this.2, this.1⟩
theorem WE.small {w : World} {e : WE} (h : Lim w e.A e.n e.c e.l) (hk : e.ok = true) (hl : e.l.length ≤ 40) : e.num.natAbs < pw 40 := (WE.len40 h hk).1 hl
theorem pw40_2 {a b : Int} (ha : a.natAbs < pw 40) (hb : b.natAbs < pw 40) : (a + b).natAbs < pw 4096 ∧ (a - b).natAbs < pw 4096 := by
  have h1 : pw 40 + pw 40 ≤ pw 4096 := by
    have := pw_le (show 41 ≤ 4096 by omega)
    rw [pw_succ] at this
    have := pw_pos 40
    omega
  omega


/-- An element of a polynomial, or 0 behind its end, as the walk meets it. -/
theorem WL.num_at {w : World} {A : Option Addr} {n c : Nat} {es : List WE} (_h : WL w A n c es) {i : Nat} {e : WE} (he : es[i]? = some e) : (es.map WE.num)[i]?.getD 0 = e.num := by rw [List.getElem?_map, he]; rfl
theorem WL.num_none {w : World} {A : Option Addr} {n c : Nat} {es : List WE} (h : WL w A n c es) {i : Nat} (hi : n ≤ i) : (es.map WE.num)[i]?.getD 0 = 0 := by rw [List.getElem?_eq_none (by rw [List.length_map, h.len]; exact hi)]; rfl
theorem getI_set_ne {l : List Int} {i j : Nat} (v : Int) (h : i ≠ j) : (l.set i v)[j]?.getD 0 = l[j]?.getD 0 := by rw [List.getElem?_set_ne h]
theorem getI_set_eq {l : List Int} {i : Nat} (v : Int) (h : i < l.length) : (l.set i v)[i]?.getD 0 = v := by rw [List.getElem?_set_self h]; rfl

set_option maxRecDepth 100000 in
set_option maxHeartbeats 2000000 in
theorem pjoinAdd_ok (A B : Option Addr) (n c m d : Nat) (ps qs : List WE) (w : World) (hp : WL w A n c ps) (hq : WL w B m d qs) (kp : pOk ps = true) (kq : pOk qs = true) :
    Calls Tryz.prog 49 #[.slice A n c, .slice B m d, .func (.func 50) #[] #[]] w (ResPoly w (joinP (fun a b => a + b) (ps.map WE.num) (qs.map WE.num))) := by
  obtain ⟨iw, hi, hz0, hz1, hz2⟩ := info_parts infoW
  have hnc := hp.2.1
  have hmd := hq.2.1
  have hcm := hp.2.2.1
  have hdm := hq.2.2.1
  unfold maxLen at hcm hdm
  obtain ⟨hn9, hpk⟩ := pOk_parts kp
  obtain ⟨hm9, hqk⟩ := pOk_parts kq
  have hpl := hide hp.len
  have hql := hide hq.len
  rw [hp.len] at hn9
  rw [hq.len] at hm9
  replace hpk := hide hpk
  replace hqk := hide hqk
  have i0 : ∀ W, (Instr.index 71 (.agg #[.slice A n c, .slice B m d]) (.int .i64 0)).run Tryz.prog W = .ok (.slice A n c) W := fun _ => by kernel_rfl
  have i1 : ∀ W, (Instr.index 71 (.agg #[.slice A n c, .slice B m d]) (.int .i64 1)).run Tryz.prog W = .ok (.slice B m d) W := fun _ => by kernel_rfl
  replace kp : Hid (errOf (pOk ps) = 0) := by unfold Hid; rw [kp]; rfl
  replace kq : Hid (errOf (pOk qs) = 0) := by unfold Hid; rw [kq]; rfl
  rcases Nat.lt_or_ge n m with hnm | hnm
  · have hmk := makeW (P := Tryz.prog) 22 25 Tryz.underlying22 hi hz0 hz1 hz2 (m : Int) m rfl (by omega)
    go_enter Tryz.func49, Tryz.ntmps49
    go_wp2_with fail
    refine wp_loop_rounds 3 ?_
    rw [rounds_succ]
    go_wp2_with fail
    refine (pCheck_any _ _ _ _ _ hp).mono ?_
    rintro e w1 ⟨he1, hb1⟩
    rw [kp.out] at he1
    subst he1
    go_wp2_with fail
    rw [rounds_succ]
    go_wp2_with fail
    refine (pCheck_any _ _ _ _ _ (hq.below hb1)).mono ?_
    rintro e w2 ⟨he2, hb2⟩
    rw [kq.out] at he2
    subst he2
    have hB2 : Below w.heap.size w w2 := hb1.trans (hb2.mono hb1.size)
    go_wp2_with fail
    rw [rounds_succ]
    go_wp2_with fail
    go_loopw [35] (fun iv wr => ∃ k : Nat, k ≤ m ∧ iv = .int .i64 k ∧ ∃ o, POwn 25 wr w2.heap.size o ∧ Hid (o.length = m) ∧ Hid (∀ j, j < k → o[j]?.getD 0 = (fun a b => a + b) ((ps.map WE.num)[j]?.getD 0) ((qs.map WE.num)[j]?.getD 0)) ∧ Below w.heap.size w wr) (fun iv _ => m - (intOf iv).toNat)
    case atStart => exact ⟨0, Nat.zero_le _, rfl, List.replicate m 0, POwn.new _ _ _, by unfold Hid; simp, fun j hj => by omega, hB2.alloc hB2.size _⟩
    case round =>
      obtain ⟨k, hk, rfl, o, hown, hol, hod, hBp⟩ := hrel
      have hsz := hown.lt
      by_cases hkN : k < m
      · have hqa : k < m := by omega
        by_cases hpa : k < n
        · obtain ⟨b1, o1, e1, rfl, he1, hc1, hc1', hL1⟩ := (hp.below hBp).at_ hpa
          have hw1 := WE.wd hL1 (hpk.out e1 (List.mem_of_getElem? he1)).1
          have hs1 := WE.small hL1 (hpk.out e1 (List.mem_of_getElem? he1)).1 (hpk.out e1 (List.mem_of_getElem? he1)).2
          have hx1 := hp.num_at he1
          have hlt1 := lt_of_cell hc1
          obtain ⟨neg1, A1, n1, c1, l1⟩ := e1
          dsimp only at hc1 hc1' hL1 hw1 hs1 hx1
          generalize WE.num ⟨neg1, A1, n1, c1, l1⟩ = x1 at *
          replace hx1 := hide hx1
          replace he1 := hide he1
          obtain ⟨b2, o2, e2, rfl, he2, hc2, hc2', hL2⟩ := (hq.below hBp).at_ hqa
          have hw2 := WE.wd hL2 (hqk.out e2 (List.mem_of_getElem? he2)).1
          have hs2 := WE.small hL2 (hqk.out e2 (List.mem_of_getElem? he2)).1 (hqk.out e2 (List.mem_of_getElem? he2)).2
          have hx2 := hq.num_at he2
          have hlt2 := lt_of_cell hc2
          obtain ⟨neg2, A2, n2, c2, l2⟩ := e2
          dsimp only at hc2 hc2' hL2 hw2 hs2 hx2
          generalize WE.num ⟨neg2, A2, n2, c2, l2⟩ = x2 at *
          replace hx2 := hide hx2
          replace he2 := hide he2
          go_wp2_with fail
          refine (Add_ok _ _ _ _ _ _ _ _ x1 x2 _ (by exact (hw1.alloc _).alloc _) (by exact (hw2.alloc _).alloc _)).mono ?_
          rintro e w3 ⟨hb3, neg3, A3, n3, c3, code3, rfl, hR3⟩
          have hW3 := hR3.small (pw40_2 hs1 hs2).1
          have hown3 := ((hown.alloc _).alloc _).below hb3
          obtain ⟨negO, AO, nO, cO, hO1, hO2, -⟩ := hown3.at_ (i := k) (by rw [hol.out]; exact hkN)
          have hf1 := hown3.frozen (k * 2)
          have hf2 := hown3.frozen (k * 2 + 1)
          have hBw3 : Below w.heap.size w w3 := (((hBp.alloc hBp.size _).alloc (by have := hBp.size; simp; omega) _)).trans (hb3.mono (by have := hBp.size; simp; omega))
          have hBo : w.heap.size ≤ w2.heap.size := hB2.size
          replace hown3 := hide hown3
          clear hR3
          go_wp2_with fail
          go_roundw
          case rel => exact ⟨k + 1, by omega, by go_num, o.set k (x1 + x2), hown3.out.set_ (by rw [hol.out]; exact hkN) hW3, by rw [List.length_set]; exact hol.out, fun j hj => by
              rcases Nat.lt_or_ge j k with h' | h'
              · rw [getI_set_ne _ (by omega)]; exact hod.out j h'
              · obtain rfl : j = k := by omega
                rw [getI_set_eq _ (by rw [hol.out]; exact hkN), hx1.out, hx2.out], (hBw3.setCell (p := ⟨w2.heap.size, k * 2, none⟩) hBo _).setCell (p := ⟨w2.heap.size, k * 2 + 1, none⟩) hBo _⟩
          case measure => simp [intOf]; omega
        · have hx1 := hide (hp.num_none (i := k) (by omega))
          have hw1 := Wd.zero wr
          have hs1 : (0 : Int).natAbs < pw 40 := pw_pos 40
          obtain ⟨b2, o2, e2, rfl, he2, hc2, hc2', hL2⟩ := (hq.below hBp).at_ hqa
          have hw2 := WE.wd hL2 (hqk.out e2 (List.mem_of_getElem? he2)).1
          have hs2 := WE.small hL2 (hqk.out e2 (List.mem_of_getElem? he2)).1 (hqk.out e2 (List.mem_of_getElem? he2)).2
          have hx2 := hq.num_at he2
          have hlt2 := lt_of_cell hc2
          obtain ⟨neg2, A2, n2, c2, l2⟩ := e2
          dsimp only at hc2 hc2' hL2 hw2 hs2 hx2
          generalize WE.num ⟨neg2, A2, n2, c2, l2⟩ = x2 at *
          replace hx2 := hide hx2
          replace he2 := hide he2
          go_wp2_with fail
          refine (Add_ok _ _ _ _ _ _ _ _ 0 x2 _ (by exact (hw1.alloc _).alloc _) (by exact (hw2.alloc _).alloc _)).mono ?_
          rintro e w3 ⟨hb3, neg3, A3, n3, c3, code3, rfl, hR3⟩
          have hW3 := hR3.small (pw40_2 hs1 hs2).1
          have hown3 := ((hown.alloc _).alloc _).below hb3
          obtain ⟨negO, AO, nO, cO, hO1, hO2, -⟩ := hown3.at_ (i := k) (by rw [hol.out]; exact hkN)
          have hf1 := hown3.frozen (k * 2)
          have hf2 := hown3.frozen (k * 2 + 1)
          have hBw3 : Below w.heap.size w w3 := (((hBp.alloc hBp.size _).alloc (by have := hBp.size; simp; omega) _)).trans (hb3.mono (by have := hBp.size; simp; omega))
          have hBo : w.heap.size ≤ w2.heap.size := hB2.size
          replace hown3 := hide hown3
          clear hR3
          go_wp2_with fail
          go_roundw
          case rel => exact ⟨k + 1, by omega, by go_num, o.set k (0 + x2), hown3.out.set_ (by rw [hol.out]; exact hkN) hW3, by rw [List.length_set]; exact hol.out, fun j hj => by
              rcases Nat.lt_or_ge j k with h' | h'
              · rw [getI_set_ne _ (by omega)]; exact hod.out j h'
              · obtain rfl : j = k := by omega
                rw [getI_set_eq _ (by rw [hol.out]; exact hkN), hx1.out, hx2.out], (hBw3.setCell (p := ⟨w2.heap.size, k * 2, none⟩) hBo _).setCell (p := ⟨w2.heap.size, k * 2 + 1, none⟩) hBo _⟩
          case measure => simp [intOf]; omega
      · obtain rfl : k = m := by omega
        have hJ : o = joinP (fun a b => a + b) (ps.map WE.num) (qs.map WE.num) := joinP_eq (by rw [List.length_map, List.length_map, hpl.out, hql.out]; omega) hol.out hod.out
        have hP := hown.poly (by rw [hol.out]; unfold maxLen; omega)
        rw [hol.out, hJ] at hP
        replace hJ := hide hJ
        go_wp2_with fail
        refine (pmade_any _ _ _ _ _ hP).mono ?_
        rintro e w4 ⟨hb4, A4, n4, c4, code4, rfl, hR4⟩
        replace hR4 := hide hR4
        go_wp2_with fail
        go_returns
        exact ⟨hBp.trans (hb4.mono hBp.size), A4, n4, c4, code4, rfl, hR4.out⟩
  · have hmk := makeW (P := Tryz.prog) 22 25 Tryz.underlying22 hi hz0 hz1 hz2 (n : Int) n rfl (by omega)
    go_enter Tryz.func49, Tryz.ntmps49
    go_wp2_with fail
    refine wp_loop_rounds 3 ?_
    rw [rounds_succ]
    go_wp2_with fail
    refine (pCheck_any _ _ _ _ _ hp).mono ?_
    rintro e w1 ⟨he1, hb1⟩
    rw [kp.out] at he1
    subst he1
    go_wp2_with fail
    rw [rounds_succ]
    go_wp2_with fail
    refine (pCheck_any _ _ _ _ _ (hq.below hb1)).mono ?_
    rintro e w2 ⟨he2, hb2⟩
    rw [kq.out] at he2
    subst he2
    have hB2 : Below w.heap.size w w2 := hb1.trans (hb2.mono hb1.size)
    go_wp2_with fail
    rw [rounds_succ]
    go_wp2_with fail
    go_loopw [35] (fun iv wr => ∃ k : Nat, k ≤ n ∧ iv = .int .i64 k ∧ ∃ o, POwn 25 wr w2.heap.size o ∧ Hid (o.length = n) ∧ Hid (∀ j, j < k → o[j]?.getD 0 = (fun a b => a + b) ((ps.map WE.num)[j]?.getD 0) ((qs.map WE.num)[j]?.getD 0)) ∧ Below w.heap.size w wr) (fun iv _ => n - (intOf iv).toNat)
    case atStart => exact ⟨0, Nat.zero_le _, rfl, List.replicate n 0, POwn.new _ _ _, by unfold Hid; simp, fun j hj => by omega, hB2.alloc hB2.size _⟩
    case round =>
      obtain ⟨k, hk, rfl, o, hown, hol, hod, hBp⟩ := hrel
      have hsz := hown.lt
      by_cases hkN : k < n
      · have hpa : k < n := by omega
        by_cases hqa : k < m
        · obtain ⟨b1, o1, e1, rfl, he1, hc1, hc1', hL1⟩ := (hp.below hBp).at_ hpa
          have hw1 := WE.wd hL1 (hpk.out e1 (List.mem_of_getElem? he1)).1
          have hs1 := WE.small hL1 (hpk.out e1 (List.mem_of_getElem? he1)).1 (hpk.out e1 (List.mem_of_getElem? he1)).2
          have hx1 := hp.num_at he1
          have hlt1 := lt_of_cell hc1
          obtain ⟨neg1, A1, n1, c1, l1⟩ := e1
          dsimp only at hc1 hc1' hL1 hw1 hs1 hx1
          generalize WE.num ⟨neg1, A1, n1, c1, l1⟩ = x1 at *
          replace hx1 := hide hx1
          replace he1 := hide he1
          obtain ⟨b2, o2, e2, rfl, he2, hc2, hc2', hL2⟩ := (hq.below hBp).at_ hqa
          have hw2 := WE.wd hL2 (hqk.out e2 (List.mem_of_getElem? he2)).1
          have hs2 := WE.small hL2 (hqk.out e2 (List.mem_of_getElem? he2)).1 (hqk.out e2 (List.mem_of_getElem? he2)).2
          have hx2 := hq.num_at he2
          have hlt2 := lt_of_cell hc2
          obtain ⟨neg2, A2, n2, c2, l2⟩ := e2
          dsimp only at hc2 hc2' hL2 hw2 hs2 hx2
          generalize WE.num ⟨neg2, A2, n2, c2, l2⟩ = x2 at *
          replace hx2 := hide hx2
          replace he2 := hide he2
          go_wp2_with fail
          refine (Add_ok _ _ _ _ _ _ _ _ x1 x2 _ (by exact (hw1.alloc _).alloc _) (by exact (hw2.alloc _).alloc _)).mono ?_
          rintro e w3 ⟨hb3, neg3, A3, n3, c3, code3, rfl, hR3⟩
          have hW3 := hR3.small (pw40_2 hs1 hs2).1
          have hown3 := ((hown.alloc _).alloc _).below hb3
          obtain ⟨negO, AO, nO, cO, hO1, hO2, -⟩ := hown3.at_ (i := k) (by rw [hol.out]; exact hkN)
          have hf1 := hown3.frozen (k * 2)
          have hf2 := hown3.frozen (k * 2 + 1)
          have hBw3 : Below w.heap.size w w3 := (((hBp.alloc hBp.size _).alloc (by have := hBp.size; simp; omega) _)).trans (hb3.mono (by have := hBp.size; simp; omega))
          have hBo : w.heap.size ≤ w2.heap.size := hB2.size
          replace hown3 := hide hown3
          clear hR3
          go_wp2_with fail
          go_roundw
          case rel => exact ⟨k + 1, by omega, by go_num, o.set k (x1 + x2), hown3.out.set_ (by rw [hol.out]; exact hkN) hW3, by rw [List.length_set]; exact hol.out, fun j hj => by
              rcases Nat.lt_or_ge j k with h' | h'
              · rw [getI_set_ne _ (by omega)]; exact hod.out j h'
              · obtain rfl : j = k := by omega
                rw [getI_set_eq _ (by rw [hol.out]; exact hkN), hx1.out, hx2.out], (hBw3.setCell (p := ⟨w2.heap.size, k * 2, none⟩) hBo _).setCell (p := ⟨w2.heap.size, k * 2 + 1, none⟩) hBo _⟩
          case measure => simp [intOf]; omega
        · obtain ⟨b1, o1, e1, rfl, he1, hc1, hc1', hL1⟩ := (hp.below hBp).at_ hpa
          have hw1 := WE.wd hL1 (hpk.out e1 (List.mem_of_getElem? he1)).1
          have hs1 := WE.small hL1 (hpk.out e1 (List.mem_of_getElem? he1)).1 (hpk.out e1 (List.mem_of_getElem? he1)).2
          have hx1 := hp.num_at he1
          have hlt1 := lt_of_cell hc1
          obtain ⟨neg1, A1, n1, c1, l1⟩ := e1
          dsimp only at hc1 hc1' hL1 hw1 hs1 hx1
          generalize WE.num ⟨neg1, A1, n1, c1, l1⟩ = x1 at *
          replace hx1 := hide hx1
          replace he1 := hide he1
          have hx2 := hide (hq.num_none (i := k) (by omega))
          have hw2 := Wd.zero wr
          have hs2 : (0 : Int).natAbs < pw 40 := pw_pos 40
          go_wp2_with fail
          refine (Add_ok _ _ _ _ _ _ _ _ x1 0 _ (by exact (hw1.alloc _).alloc _) (by exact (hw2.alloc _).alloc _)).mono ?_
          rintro e w3 ⟨hb3, neg3, A3, n3, c3, code3, rfl, hR3⟩
          have hW3 := hR3.small (pw40_2 hs1 hs2).1
          have hown3 := ((hown.alloc _).alloc _).below hb3
          obtain ⟨negO, AO, nO, cO, hO1, hO2, -⟩ := hown3.at_ (i := k) (by rw [hol.out]; exact hkN)
          have hf1 := hown3.frozen (k * 2)
          have hf2 := hown3.frozen (k * 2 + 1)
          have hBw3 : Below w.heap.size w w3 := (((hBp.alloc hBp.size _).alloc (by have := hBp.size; simp; omega) _)).trans (hb3.mono (by have := hBp.size; simp; omega))
          have hBo : w.heap.size ≤ w2.heap.size := hB2.size
          replace hown3 := hide hown3
          clear hR3
          go_wp2_with fail
          go_roundw
          case rel => exact ⟨k + 1, by omega, by go_num, o.set k (x1 + 0), hown3.out.set_ (by rw [hol.out]; exact hkN) hW3, by rw [List.length_set]; exact hol.out, fun j hj => by
              rcases Nat.lt_or_ge j k with h' | h'
              · rw [getI_set_ne _ (by omega)]; exact hod.out j h'
              · obtain rfl : j = k := by omega
                rw [getI_set_eq _ (by rw [hol.out]; exact hkN), hx1.out, hx2.out], (hBw3.setCell (p := ⟨w2.heap.size, k * 2, none⟩) hBo _).setCell (p := ⟨w2.heap.size, k * 2 + 1, none⟩) hBo _⟩
          case measure => simp [intOf]; omega
      · obtain rfl : k = n := by omega
        have hJ : o = joinP (fun a b => a + b) (ps.map WE.num) (qs.map WE.num) := joinP_eq (by rw [List.length_map, List.length_map, hpl.out, hql.out]; omega) hol.out hod.out
        have hP := hown.poly (by rw [hol.out]; unfold maxLen; omega)
        rw [hol.out, hJ] at hP
        replace hJ := hide hJ
        go_wp2_with fail
        refine (pmade_any _ _ _ _ _ hP).mono ?_
        rintro e w4 ⟨hb4, A4, n4, c4, code4, rfl, hR4⟩
        replace hR4 := hide hR4
        go_wp2_with fail
        go_returns
        exact ⟨hBp.trans (hb4.mono hBp.size), A4, n4, c4, code4, rfl, hR4.out⟩

set_option maxHeartbeats 400000 in
theorem pAdd_ok (A B : Option Addr) (n c m d : Nat) (ps qs : List WE) (w : World) (hp : WL w A n c ps) (hq : WL w B m d qs) (kp : pOk ps = true) (kq : pOk qs = true) :
    Calls Tryz.prog 21 #[.slice A n c, .slice B m d] w (ResPoly w (joinP (fun a b => a + b) (ps.map WE.num) (qs.map WE.num))) := by
  go_enter Tryz.func21, Tryz.ntmps21
  go_wp2_with fail
  refine (pjoinAdd_ok _ _ _ _ _ _ _ _ _ hp hq kp kq).mono ?_
  rintro e w4 ⟨hb4, A4, n4, c4, code4, rfl, hR4⟩
  replace hR4 := hide hR4
  go_wp2_with fail
  go_returns
  exact ⟨hb4, A4, n4, c4, code4, rfl, hR4.out⟩

set_option maxRecDepth 100000 in
set_option maxHeartbeats 1000000 in
theorem pjoinAdd_bad (A B : Option Addr) (n c m d : Nat) (ps qs : List WE) (w : World) (hp : WL w A n c ps) (hq : WL w B m d qs) (hk : (pOk ps && pOk qs) = false) :
    Calls Tryz.prog 49 #[.slice A n c, .slice B m d, .func (.func 50) #[] #[]] w (BadPoly w) := by
  have i0 : ∀ W, (Instr.index 71 (.agg #[.slice A n c, .slice B m d]) (.int .i64 0)).run Tryz.prog W = .ok (.slice A n c) W := fun _ => by kernel_rfl
  have i1 : ∀ W, (Instr.index 71 (.agg #[.slice A n c, .slice B m d]) (.int .i64 1)).run Tryz.prog W = .ok (.slice B m d) W := fun _ => by kernel_rfl
  by_cases kp : pOk ps = true
  · have kq : Hid (errOf (pOk qs) = 8) := by have : pOk qs = false := by simpa [kp] using hk
                                             unfold Hid; rw [this]; rfl
    replace kp : Hid (errOf (pOk ps) = 0) := by unfold Hid; rw [kp]; rfl
    clear hk
    go_enter Tryz.func49, Tryz.ntmps49
    go_wp2_with fail
    refine wp_loop_rounds 3 ?_
    rw [rounds_succ]
    go_wp2_with fail
    refine (pCheck_any _ _ _ _ _ hp).mono ?_
    rintro e w1 ⟨he1, hb1⟩
    rw [kp.out] at he1
    subst he1
    go_wp2_with fail
    rw [rounds_succ]
    go_wp2_with fail
    refine (pCheck_any _ _ _ _ _ (hq.below hb1)).mono ?_
    rintro e w2 ⟨he2, hb2⟩
    rw [kq.out] at he2
    subst he2
    go_wp2_with fail
    go_returns
    exact ⟨hb1.trans (hb2.mono hb1.size), none, rfl⟩
  · replace kp : Hid (errOf (pOk ps) = 8) := by have : pOk ps = false := by simpa using kp
                                                unfold Hid; rw [this]; rfl
    clear hk
    go_enter Tryz.func49, Tryz.ntmps49
    go_wp2_with fail
    refine wp_loop_rounds 3 ?_
    rw [rounds_succ]
    go_wp2_with fail
    refine (pCheck_any _ _ _ _ _ hp).mono ?_
    rintro e w1 ⟨he1, hb1⟩
    rw [kp.out] at he1
    subst he1
    go_wp2_with fail
    go_returns
    exact ⟨hb1, none, rfl⟩

set_option maxHeartbeats 400000 in
theorem pAdd_bad (A B : Option Addr) (n c m d : Nat) (ps qs : List WE) (w : World) (hp : WL w A n c ps) (hq : WL w B m d qs) (hk : (pOk ps && pOk qs) = false) :
    Calls Tryz.prog 21 #[.slice A n c, .slice B m d] w (BadPoly w) := by
  go_enter Tryz.func21, Tryz.ntmps21
  go_wp2_with fail
  refine (pjoinAdd_bad _ _ _ _ _ _ _ _ _ hp hq hk).mono ?_
  rintro e w4 ⟨hb4, A4, rfl⟩
  go_wp2_with fail
  go_returns
  exact ⟨hb4, A4, rfl⟩

set_option maxRecDepth 100000 in
set_option maxHeartbeats 2000000 in
theorem pjoinSub_ok (A B : Option Addr) (n c m d : Nat) (ps qs : List WE) (w : World) (hp : WL w A n c ps) (hq : WL w B m d qs) (kp : pOk ps = true) (kq : pOk qs = true) :
    Calls Tryz.prog 49 #[.slice A n c, .slice B m d, .func (.func 51) #[] #[]] w (ResPoly w (joinP (fun a b => a - b) (ps.map WE.num) (qs.map WE.num))) := by
  obtain ⟨iw, hi, hz0, hz1, hz2⟩ := info_parts infoW
  have hnc := hp.2.1
  have hmd := hq.2.1
  have hcm := hp.2.2.1
  have hdm := hq.2.2.1
  unfold maxLen at hcm hdm
  obtain ⟨hn9, hpk⟩ := pOk_parts kp
  obtain ⟨hm9, hqk⟩ := pOk_parts kq
  have hpl := hide hp.len
  have hql := hide hq.len
  rw [hp.len] at hn9
  rw [hq.len] at hm9
  replace hpk := hide hpk
  replace hqk := hide hqk
  have i0 : ∀ W, (Instr.index 71 (.agg #[.slice A n c, .slice B m d]) (.int .i64 0)).run Tryz.prog W = .ok (.slice A n c) W := fun _ => by kernel_rfl
  have i1 : ∀ W, (Instr.index 71 (.agg #[.slice A n c, .slice B m d]) (.int .i64 1)).run Tryz.prog W = .ok (.slice B m d) W := fun _ => by kernel_rfl
  replace kp : Hid (errOf (pOk ps) = 0) := by unfold Hid; rw [kp]; rfl
  replace kq : Hid (errOf (pOk qs) = 0) := by unfold Hid; rw [kq]; rfl
  rcases Nat.lt_or_ge n m with hnm | hnm
  · have hmk := makeW (P := Tryz.prog) 22 25 Tryz.underlying22 hi hz0 hz1 hz2 (m : Int) m rfl (by omega)
    go_enter Tryz.func49, Tryz.ntmps49
    go_wp2_with fail
    refine wp_loop_rounds 3 ?_
    rw [rounds_succ]
    go_wp2_with fail
    refine (pCheck_any _ _ _ _ _ hp).mono ?_
    rintro e w1 ⟨he1, hb1⟩
    rw [kp.out] at he1
    subst he1
    go_wp2_with fail
    rw [rounds_succ]
    go_wp2_with fail
    refine (pCheck_any _ _ _ _ _ (hq.below hb1)).mono ?_
    rintro e w2 ⟨he2, hb2⟩
    rw [kq.out] at he2
    subst he2
    have hB2 : Below w.heap.size w w2 := hb1.trans (hb2.mono hb1.size)
    go_wp2_with fail
    rw [rounds_succ]
    go_wp2_with fail
    go_loopw [35] (fun iv wr => ∃ k : Nat, k ≤ m ∧ iv = .int .i64 k ∧ ∃ o, POwn 25 wr w2.heap.size o ∧ Hid (o.length = m) ∧ Hid (∀ j, j < k → o[j]?.getD 0 = (fun a b => a - b) ((ps.map WE.num)[j]?.getD 0) ((qs.map WE.num)[j]?.getD 0)) ∧ Below w.heap.size w wr) (fun iv _ => m - (intOf iv).toNat)
    case atStart => exact ⟨0, Nat.zero_le _, rfl, List.replicate m 0, POwn.new _ _ _, by unfold Hid; simp, fun j hj => by omega, hB2.alloc hB2.size _⟩
    case round =>
      obtain ⟨k, hk, rfl, o, hown, hol, hod, hBp⟩ := hrel
      have hsz := hown.lt
      by_cases hkN : k < m
      · have hqa : k < m := by omega
        by_cases hpa : k < n
        · obtain ⟨b1, o1, e1, rfl, he1, hc1, hc1', hL1⟩ := (hp.below hBp).at_ hpa
          have hw1 := WE.wd hL1 (hpk.out e1 (List.mem_of_getElem? he1)).1
          have hs1 := WE.small hL1 (hpk.out e1 (List.mem_of_getElem? he1)).1 (hpk.out e1 (List.mem_of_getElem? he1)).2
          have hx1 := hp.num_at he1
          have hlt1 := lt_of_cell hc1
          obtain ⟨neg1, A1, n1, c1, l1⟩ := e1
          dsimp only at hc1 hc1' hL1 hw1 hs1 hx1
          generalize WE.num ⟨neg1, A1, n1, c1, l1⟩ = x1 at *
          replace hx1 := hide hx1
          replace he1 := hide he1
          obtain ⟨b2, o2, e2, rfl, he2, hc2, hc2', hL2⟩ := (hq.below hBp).at_ hqa
          have hw2 := WE.wd hL2 (hqk.out e2 (List.mem_of_getElem? he2)).1
          have hs2 := WE.small hL2 (hqk.out e2 (List.mem_of_getElem? he2)).1 (hqk.out e2 (List.mem_of_getElem? he2)).2
          have hx2 := hq.num_at he2
          have hlt2 := lt_of_cell hc2
          obtain ⟨neg2, A2, n2, c2, l2⟩ := e2
          dsimp only at hc2 hc2' hL2 hw2 hs2 hx2
          generalize WE.num ⟨neg2, A2, n2, c2, l2⟩ = x2 at *
          replace hx2 := hide hx2
          replace he2 := hide he2
          go_wp2_with fail
          refine (Sub_ok _ _ _ _ _ _ _ _ x1 x2 _ (by exact (hw1.alloc _).alloc _) (by exact (hw2.alloc _).alloc _)).mono ?_
          rintro e w3 ⟨hb3, neg3, A3, n3, c3, code3, rfl, hR3⟩
          have hW3 := hR3.small (pw40_2 hs1 hs2).2
          have hown3 := ((hown.alloc _).alloc _).below hb3
          obtain ⟨negO, AO, nO, cO, hO1, hO2, -⟩ := hown3.at_ (i := k) (by rw [hol.out]; exact hkN)
          have hf1 := hown3.frozen (k * 2)
          have hf2 := hown3.frozen (k * 2 + 1)
          have hBw3 : Below w.heap.size w w3 := (((hBp.alloc hBp.size _).alloc (by have := hBp.size; simp; omega) _)).trans (hb3.mono (by have := hBp.size; simp; omega))
          have hBo : w.heap.size ≤ w2.heap.size := hB2.size
          replace hown3 := hide hown3
          clear hR3
          go_wp2_with fail
          go_roundw
          case rel => exact ⟨k + 1, by omega, by go_num, o.set k (x1 - x2), hown3.out.set_ (by rw [hol.out]; exact hkN) hW3, by rw [List.length_set]; exact hol.out, fun j hj => by
              rcases Nat.lt_or_ge j k with h' | h'
              · rw [getI_set_ne _ (by omega)]; exact hod.out j h'
              · obtain rfl : j = k := by omega
                rw [getI_set_eq _ (by rw [hol.out]; exact hkN), hx1.out, hx2.out], (hBw3.setCell (p := ⟨w2.heap.size, k * 2, none⟩) hBo _).setCell (p := ⟨w2.heap.size, k * 2 + 1, none⟩) hBo _⟩
          case measure => simp [intOf]; omega
        · have hx1 := hide (hp.num_none (i := k) (by omega))
          have hw1 := Wd.zero wr
          have hs1 : (0 : Int).natAbs < pw 40 := pw_pos 40
          obtain ⟨b2, o2, e2, rfl, he2, hc2, hc2', hL2⟩ := (hq.below hBp).at_ hqa
          have hw2 := WE.wd hL2 (hqk.out e2 (List.mem_of_getElem? he2)).1
          have hs2 := WE.small hL2 (hqk.out e2 (List.mem_of_getElem? he2)).1 (hqk.out e2 (List.mem_of_getElem? he2)).2
          have hx2 := hq.num_at he2
          have hlt2 := lt_of_cell hc2
          obtain ⟨neg2, A2, n2, c2, l2⟩ := e2
          dsimp only at hc2 hc2' hL2 hw2 hs2 hx2
          generalize WE.num ⟨neg2, A2, n2, c2, l2⟩ = x2 at *
          replace hx2 := hide hx2
          replace he2 := hide he2
          go_wp2_with fail
          refine (Sub_ok _ _ _ _ _ _ _ _ 0 x2 _ (by exact (hw1.alloc _).alloc _) (by exact (hw2.alloc _).alloc _)).mono ?_
          rintro e w3 ⟨hb3, neg3, A3, n3, c3, code3, rfl, hR3⟩
          have hW3 := hR3.small (pw40_2 hs1 hs2).2
          have hown3 := ((hown.alloc _).alloc _).below hb3
          obtain ⟨negO, AO, nO, cO, hO1, hO2, -⟩ := hown3.at_ (i := k) (by rw [hol.out]; exact hkN)
          have hf1 := hown3.frozen (k * 2)
          have hf2 := hown3.frozen (k * 2 + 1)
          have hBw3 : Below w.heap.size w w3 := (((hBp.alloc hBp.size _).alloc (by have := hBp.size; simp; omega) _)).trans (hb3.mono (by have := hBp.size; simp; omega))
          have hBo : w.heap.size ≤ w2.heap.size := hB2.size
          replace hown3 := hide hown3
          clear hR3
          go_wp2_with fail
          go_roundw
          case rel => exact ⟨k + 1, by omega, by go_num, o.set k (0 - x2), hown3.out.set_ (by rw [hol.out]; exact hkN) hW3, by rw [List.length_set]; exact hol.out, fun j hj => by
              rcases Nat.lt_or_ge j k with h' | h'
              · rw [getI_set_ne _ (by omega)]; exact hod.out j h'
              · obtain rfl : j = k := by omega
                rw [getI_set_eq _ (by rw [hol.out]; exact hkN), hx1.out, hx2.out], (hBw3.setCell (p := ⟨w2.heap.size, k * 2, none⟩) hBo _).setCell (p := ⟨w2.heap.size, k * 2 + 1, none⟩) hBo _⟩
          case measure => simp [intOf]; omega
      · obtain rfl : k = m := by omega
        have hJ : o = joinP (fun a b => a - b) (ps.map WE.num) (qs.map WE.num) := joinP_eq (by rw [List.length_map, List.length_map, hpl.out, hql.out]; omega) hol.out hod.out
        have hP := hown.poly (by rw [hol.out]; unfold maxLen; omega)
        rw [hol.out, hJ] at hP
        replace hJ := hide hJ
        go_wp2_with fail
        refine (pmade_any _ _ _ _ _ hP).mono ?_
        rintro e w4 ⟨hb4, A4, n4, c4, code4, rfl, hR4⟩
        replace hR4 := hide hR4
        go_wp2_with fail
        go_returns
        exact ⟨hBp.trans (hb4.mono hBp.size), A4, n4, c4, code4, rfl, hR4.out⟩
  · have hmk := makeW (P := Tryz.prog) 22 25 Tryz.underlying22 hi hz0 hz1 hz2 (n : Int) n rfl (by omega)
    go_enter Tryz.func49, Tryz.ntmps49
    go_wp2_with fail
    refine wp_loop_rounds 3 ?_
    rw [rounds_succ]
    go_wp2_with fail
    refine (pCheck_any _ _ _ _ _ hp).mono ?_
    rintro e w1 ⟨he1, hb1⟩
    rw [kp.out] at he1
    subst he1
    go_wp2_with fail
    rw [rounds_succ]
    go_wp2_with fail
    refine (pCheck_any _ _ _ _ _ (hq.below hb1)).mono ?_
    rintro e w2 ⟨he2, hb2⟩
    rw [kq.out] at he2
    subst he2
    have hB2 : Below w.heap.size w w2 := hb1.trans (hb2.mono hb1.size)
    go_wp2_with fail
    rw [rounds_succ]
    go_wp2_with fail
    go_loopw [35] (fun iv wr => ∃ k : Nat, k ≤ n ∧ iv = .int .i64 k ∧ ∃ o, POwn 25 wr w2.heap.size o ∧ Hid (o.length = n) ∧ Hid (∀ j, j < k → o[j]?.getD 0 = (fun a b => a - b) ((ps.map WE.num)[j]?.getD 0) ((qs.map WE.num)[j]?.getD 0)) ∧ Below w.heap.size w wr) (fun iv _ => n - (intOf iv).toNat)
    case atStart => exact ⟨0, Nat.zero_le _, rfl, List.replicate n 0, POwn.new _ _ _, by unfold Hid; simp, fun j hj => by omega, hB2.alloc hB2.size _⟩
    case round =>
      obtain ⟨k, hk, rfl, o, hown, hol, hod, hBp⟩ := hrel
      have hsz := hown.lt
      by_cases hkN : k < n
      · have hpa : k < n := by omega
        by_cases hqa : k < m
        · obtain ⟨b1, o1, e1, rfl, he1, hc1, hc1', hL1⟩ := (hp.below hBp).at_ hpa
          have hw1 := WE.wd hL1 (hpk.out e1 (List.mem_of_getElem? he1)).1
          have hs1 := WE.small hL1 (hpk.out e1 (List.mem_of_getElem? he1)).1 (hpk.out e1 (List.mem_of_getElem? he1)).2
          have hx1 := hp.num_at he1
          have hlt1 := lt_of_cell hc1
          obtain ⟨neg1, A1, n1, c1, l1⟩ := e1
          dsimp only at hc1 hc1' hL1 hw1 hs1 hx1
          generalize WE.num ⟨neg1, A1, n1, c1, l1⟩ = x1 at *
          replace hx1 := hide hx1
          replace he1 := hide he1
          obtain ⟨b2, o2, e2, rfl, he2, hc2, hc2', hL2⟩ := (hq.below hBp).at_ hqa
          have hw2 := WE.wd hL2 (hqk.out e2 (List.mem_of_getElem? he2)).1
          have hs2 := WE.small hL2 (hqk.out e2 (List.mem_of_getElem? he2)).1 (hqk.out e2 (List.mem_of_getElem? he2)).2
          have hx2 := hq.num_at he2
          have hlt2 := lt_of_cell hc2
          obtain ⟨neg2, A2, n2, c2, l2⟩ := e2
          dsimp only at hc2 hc2' hL2 hw2 hs2 hx2
          generalize WE.num ⟨neg2, A2, n2, c2, l2⟩ = x2 at *
          replace hx2 := hide hx2
          replace he2 := hide he2
          go_wp2_with fail
          refine (Sub_ok _ _ _ _ _ _ _ _ x1 x2 _ (by exact (hw1.alloc _).alloc _) (by exact (hw2.alloc _).alloc _)).mono ?_
          rintro e w3 ⟨hb3, neg3, A3, n3, c3, code3, rfl, hR3⟩
          have hW3 := hR3.small (pw40_2 hs1 hs2).2
          have hown3 := ((hown.alloc _).alloc _).below hb3
          obtain ⟨negO, AO, nO, cO, hO1, hO2, -⟩ := hown3.at_ (i := k) (by rw [hol.out]; exact hkN)
          have hf1 := hown3.frozen (k * 2)
          have hf2 := hown3.frozen (k * 2 + 1)
          have hBw3 : Below w.heap.size w w3 := (((hBp.alloc hBp.size _).alloc (by have := hBp.size; simp; omega) _)).trans (hb3.mono (by have := hBp.size; simp; omega))
          have hBo : w.heap.size ≤ w2.heap.size := hB2.size
          replace hown3 := hide hown3
          clear hR3
          go_wp2_with fail
          go_roundw
          case rel => exact ⟨k + 1, by omega, by go_num, o.set k (x1 - x2), hown3.out.set_ (by rw [hol.out]; exact hkN) hW3, by rw [List.length_set]; exact hol.out, fun j hj => by
              rcases Nat.lt_or_ge j k with h' | h'
              · rw [getI_set_ne _ (by omega)]; exact hod.out j h'
              · obtain rfl : j = k := by omega
                rw [getI_set_eq _ (by rw [hol.out]; exact hkN), hx1.out, hx2.out], (hBw3.setCell (p := ⟨w2.heap.size, k * 2, none⟩) hBo _).setCell (p := ⟨w2.heap.size, k * 2 + 1, none⟩) hBo _⟩
          case measure => simp [intOf]; omega
        · obtain ⟨b1, o1, e1, rfl, he1, hc1, hc1', hL1⟩ := (hp.below hBp).at_ hpa
          have hw1 := WE.wd hL1 (hpk.out e1 (List.mem_of_getElem? he1)).1
          have hs1 := WE.small hL1 (hpk.out e1 (List.mem_of_getElem? he1)).1 (hpk.out e1 (List.mem_of_getElem? he1)).2
          have hx1 := hp.num_at he1
          have hlt1 := lt_of_cell hc1
          obtain ⟨neg1, A1, n1, c1, l1⟩ := e1
          dsimp only at hc1 hc1' hL1 hw1 hs1 hx1
          generalize WE.num ⟨neg1, A1, n1, c1, l1⟩ = x1 at *
          replace hx1 := hide hx1
          replace he1 := hide he1
          have hx2 := hide (hq.num_none (i := k) (by omega))
          have hw2 := Wd.zero wr
          have hs2 : (0 : Int).natAbs < pw 40 := pw_pos 40
          go_wp2_with fail
          refine (Sub_ok _ _ _ _ _ _ _ _ x1 0 _ (by exact (hw1.alloc _).alloc _) (by exact (hw2.alloc _).alloc _)).mono ?_
          rintro e w3 ⟨hb3, neg3, A3, n3, c3, code3, rfl, hR3⟩
          have hW3 := hR3.small (pw40_2 hs1 hs2).2
          have hown3 := ((hown.alloc _).alloc _).below hb3
          obtain ⟨negO, AO, nO, cO, hO1, hO2, -⟩ := hown3.at_ (i := k) (by rw [hol.out]; exact hkN)
          have hf1 := hown3.frozen (k * 2)
          have hf2 := hown3.frozen (k * 2 + 1)
          have hBw3 : Below w.heap.size w w3 := (((hBp.alloc hBp.size _).alloc (by have := hBp.size; simp; omega) _)).trans (hb3.mono (by have := hBp.size; simp; omega))
          have hBo : w.heap.size ≤ w2.heap.size := hB2.size
          replace hown3 := hide hown3
          clear hR3
          go_wp2_with fail
          go_roundw
          case rel => exact ⟨k + 1, by omega, by go_num, o.set k (x1 - 0), hown3.out.set_ (by rw [hol.out]; exact hkN) hW3, by rw [List.length_set]; exact hol.out, fun j hj => by
              rcases Nat.lt_or_ge j k with h' | h'
              · rw [getI_set_ne _ (by omega)]; exact hod.out j h'
              · obtain rfl : j = k := by omega
                rw [getI_set_eq _ (by rw [hol.out]; exact hkN), hx1.out, hx2.out], (hBw3.setCell (p := ⟨w2.heap.size, k * 2, none⟩) hBo _).setCell (p := ⟨w2.heap.size, k * 2 + 1, none⟩) hBo _⟩
          case measure => simp [intOf]; omega
      · obtain rfl : k = n := by omega
        have hJ : o = joinP (fun a b => a - b) (ps.map WE.num) (qs.map WE.num) := joinP_eq (by rw [List.length_map, List.length_map, hpl.out, hql.out]; omega) hol.out hod.out
        have hP := hown.poly (by rw [hol.out]; unfold maxLen; omega)
        rw [hol.out, hJ] at hP
        replace hJ := hide hJ
        go_wp2_with fail
        refine (pmade_any _ _ _ _ _ hP).mono ?_
        rintro e w4 ⟨hb4, A4, n4, c4, code4, rfl, hR4⟩
        replace hR4 := hide hR4
        go_wp2_with fail
        go_returns
        exact ⟨hBp.trans (hb4.mono hBp.size), A4, n4, c4, code4, rfl, hR4.out⟩

set_option maxHeartbeats 400000 in
theorem pSub_ok (A B : Option Addr) (n c m d : Nat) (ps qs : List WE) (w : World) (hp : WL w A n c ps) (hq : WL w B m d qs) (kp : pOk ps = true) (kq : pOk qs = true) :
    Calls Tryz.prog 22 #[.slice A n c, .slice B m d] w (ResPoly w (joinP (fun a b => a - b) (ps.map WE.num) (qs.map WE.num))) := by
  go_enter Tryz.func22, Tryz.ntmps22
  go_wp2_with fail
  refine (pjoinSub_ok _ _ _ _ _ _ _ _ _ hp hq kp kq).mono ?_
  rintro e w4 ⟨hb4, A4, n4, c4, code4, rfl, hR4⟩
  replace hR4 := hide hR4
  go_wp2_with fail
  go_returns
  exact ⟨hb4, A4, n4, c4, code4, rfl, hR4.out⟩

set_option maxRecDepth 100000 in
set_option maxHeartbeats 1000000 in
theorem pjoinSub_bad (A B : Option Addr) (n c m d : Nat) (ps qs : List WE) (w : World) (hp : WL w A n c ps) (hq : WL w B m d qs) (hk : (pOk ps && pOk qs) = false) :
    Calls Tryz.prog 49 #[.slice A n c, .slice B m d, .func (.func 51) #[] #[]] w (BadPoly w) := by
  have i0 : ∀ W, (Instr.index 71 (.agg #[.slice A n c, .slice B m d]) (.int .i64 0)).run Tryz.prog W = .ok (.slice A n c) W := fun _ => by kernel_rfl
  have i1 : ∀ W, (Instr.index 71 (.agg #[.slice A n c, .slice B m d]) (.int .i64 1)).run Tryz.prog W = .ok (.slice B m d) W := fun _ => by kernel_rfl
  by_cases kp : pOk ps = true
  · have kq : Hid (errOf (pOk qs) = 8) := by have : pOk qs = false := by simpa [kp] using hk
                                             unfold Hid; rw [this]; rfl
    replace kp : Hid (errOf (pOk ps) = 0) := by unfold Hid; rw [kp]; rfl
    clear hk
    go_enter Tryz.func49, Tryz.ntmps49
    go_wp2_with fail
    refine wp_loop_rounds 3 ?_
    rw [rounds_succ]
    go_wp2_with fail
    refine (pCheck_any _ _ _ _ _ hp).mono ?_
    rintro e w1 ⟨he1, hb1⟩
    rw [kp.out] at he1
    subst he1
    go_wp2_with fail
    rw [rounds_succ]
    go_wp2_with fail
    refine (pCheck_any _ _ _ _ _ (hq.below hb1)).mono ?_
    rintro e w2 ⟨he2, hb2⟩
    rw [kq.out] at he2
    subst he2
    go_wp2_with fail
    go_returns
    exact ⟨hb1.trans (hb2.mono hb1.size), none, rfl⟩
  · replace kp : Hid (errOf (pOk ps) = 8) := by have : pOk ps = false := by simpa using kp
                                                unfold Hid; rw [this]; rfl
    clear hk
    go_enter Tryz.func49, Tryz.ntmps49
    go_wp2_with fail
    refine wp_loop_rounds 3 ?_
    rw [rounds_succ]
    go_wp2_with fail
    refine (pCheck_any _ _ _ _ _ hp).mono ?_
    rintro e w1 ⟨he1, hb1⟩
    rw [kp.out] at he1
    subst he1
    go_wp2_with fail
    go_returns
    exact ⟨hb1, none, rfl⟩

set_option maxHeartbeats 400000 in
theorem pSub_bad (A B : Option Addr) (n c m d : Nat) (ps qs : List WE) (w : World) (hp : WL w A n c ps) (hq : WL w B m d qs) (hk : (pOk ps && pOk qs) = false) :
    Calls Tryz.prog 22 #[.slice A n c, .slice B m d] w (BadPoly w) := by
  go_enter Tryz.func22, Tryz.ntmps22
  go_wp2_with fail
  refine (pjoinSub_bad _ _ _ _ _ _ _ _ _ hp hq hk).mono ?_
  rintro e w4 ⟨hb4, A4, rfl⟩
  go_wp2_with fail
  go_returns
  exact ⟨hb4, A4, rfl⟩

end Go.Proofs.YtljocgdhdilglaaGreat
