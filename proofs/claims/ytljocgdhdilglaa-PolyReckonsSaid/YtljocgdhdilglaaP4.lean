/- Package poly: Mul, Deriv. -/
import Derived.Test.YtljocgdhdilglaaP3
import Derived.Test.YtljocgdhdilglaaPA
import Derived.Test.YtljocgdhdilglaaF1
namespace Go.Proofs.Ytljocgdhdilglaa
open Go.RowKit
attribute [local go_sem] add_lit

theorem derP_step (xs : List Int) {i : Nat} (h : 0 < i) : (List.range (i - 1)).map (fun j => xs[j + 1]?.getD 0 * ((j + 1 : Nat) : Int)) ++ [xs[i]?.getD 0 * (i : Int)] = (List.range (i + 1 - 1)).map (fun j => xs[j + 1]?.getD 0 * ((j + 1 : Nat) : Int)) := by
  obtain ⟨k, rfl⟩ : ∃ k, i = k + 1 := ⟨i - 1, by omega⟩
  rw [show k + 1 + 1 - 1 = k + 1 by omega, show k + 1 - 1 = k by omega, List.range_succ, List.map_append]
  rfl

set_option maxRecDepth 100000 in
set_option maxHeartbeats 1000000 in
theorem pMul_ok (A B : Option Addr) (n c m d : Nat) (ps qs : List WE) (w : World) (hp : WL w A n c ps) (hq : WL w B m d qs) (kp : pOk ps = true) (kq : pOk qs = true) :
    Calls Try.prog 10 #[.slice A n c, .slice B m d] w (ResPoly w (mulP (ps.map WE.num) (qs.map WE.num))) := by
  have i0 : ∀ W, (Instr.index 44 (.agg #[.slice A n c, .slice B m d]) (.int .i64 0)).run Try.prog W = .ok (.slice A n c) W := fun _ => by kernel_rfl
  have i1 : ∀ W, (Instr.index 44 (.agg #[.slice A n c, .slice B m d]) (.int .i64 1)).run Try.prog W = .ok (.slice B m d) W := fun _ => by kernel_rfl
  have hT := fun W hp hq => hide (ptimes_any A B n c m d ps qs W hp hq kp kq)
  replace kp : Hid (errOf (pOk ps) = 0) := by unfold Hid; rw [kp]; rfl
  replace kq : Hid (errOf (pOk qs) = 0) := by unfold Hid; rw [kq]; rfl
  go_enter Try.func10, Try.ntmps10
  go_wp2_with fail
  refine wp_loop_rounds 3 ?_
  rw [rounds_succ]
  go_wp2_with fail
  refine (pCheck_any _ _ _ _ _ hp).mono ?_
  rintro e w1 ⟨he1, hb1⟩
  rw [kp.out] at he1
  subst he1
  go_wp2_with fail
  rw [rounds_succ]
  go_wp2_with fail
  refine (pCheck_any _ _ _ _ _ (hq.below hb1)).mono ?_
  rintro e w2 ⟨he2, hb2⟩
  rw [kq.out] at he2
  subst he2
  have hB2 : Below w.heap.size w w2 := hb1.trans (hb2.mono hb1.size)
  go_wp2_with fail
  rw [rounds_succ]
  go_wp2_with fail
  refine (hT w2 (hp.below hB2) (hq.below hB2)).out.mono ?_
  rintro e w3 ⟨A3, n3, c3, rfl, hP3, hb3⟩
  have hB3 := hB2.trans (hb3.mono hB2.size)
  clear hT
  go_wp2_with fail
  refine (pmade_any _ _ _ _ _ hP3).mono ?_
  rintro e w4 ⟨hb4, A4, n4, c4, code4, rfl, hR4⟩
  rw [trimP_idem] at hR4
  replace hR4 := hide hR4
  go_wp2_with fail
  go_returns
  exact ⟨hB3.trans (hb4.mono hB3.size), A4, n4, c4, code4, rfl, hR4.out⟩

set_option maxRecDepth 100000 in
set_option maxHeartbeats 1000000 in
theorem pMul_bad (A B : Option Addr) (n c m d : Nat) (ps qs : List WE) (w : World) (hp : WL w A n c ps) (hq : WL w B m d qs) (hk : (pOk ps && pOk qs) = false) :
    Calls Try.prog 10 #[.slice A n c, .slice B m d] w (BadPoly w) := by
  have i0 : ∀ W, (Instr.index 44 (.agg #[.slice A n c, .slice B m d]) (.int .i64 0)).run Try.prog W = .ok (.slice A n c) W := fun _ => by kernel_rfl
  have i1 : ∀ W, (Instr.index 44 (.agg #[.slice A n c, .slice B m d]) (.int .i64 1)).run Try.prog W = .ok (.slice B m d) W := fun _ => by kernel_rfl
  by_cases kp : pOk ps = true
  · have kq : Hid (errOf (pOk qs) = 8) := by have : pOk qs = false := by simpa [kp] using hk
                                             unfold Hid; rw [this]; rfl
    replace kp : Hid (errOf (pOk ps) = 0) := by unfold Hid; rw [kp]; rfl
    clear hk
    go_enter Try.func10, Try.ntmps10
    go_wp2_with fail
    refine wp_loop_rounds 3 ?_
    rw [rounds_succ]
    go_wp2_with fail
    refine (pCheck_any _ _ _ _ _ hp).mono ?_
    rintro e w1 ⟨he1, hb1⟩
    rw [kp.out] at he1
    subst he1
    go_wp2_with fail
    rw [rounds_succ]
    go_wp2_with fail
    refine (pCheck_any _ _ _ _ _ (hq.below hb1)).mono ?_
    rintro e w2 ⟨he2, hb2⟩
    rw [kq.out] at he2
    subst he2
    go_wp2_with fail
    go_returns
    exact ⟨hb1.trans (hb2.mono hb1.size), none, rfl⟩
  · replace kp : Hid (errOf (pOk ps) = 8) := by have : pOk ps = false := by simpa using kp
                                                unfold Hid; rw [this]; rfl
    clear hk
    go_enter Try.func10, Try.ntmps10
    go_wp2_with fail
    refine wp_loop_rounds 3 ?_
    rw [rounds_succ]
    go_wp2_with fail
    refine (pCheck_any _ _ _ _ _ hp).mono ?_
    rintro e w1 ⟨he1, hb1⟩
    rw [kp.out] at he1
    subst he1
    go_wp2_with fail
    go_returns
    exact ⟨hb1, none, rfl⟩


set_option maxRecDepth 100000 in
set_option maxHeartbeats 4000000 in
theorem pderived_any (A : Option Addr) (n c : Nat) (ps : List WE) (w : World) (hp : WL w A n c ps) (kp : pOk ps = true) :
    Calls Try.prog 33 #[.slice A n c] w (OutP w (derP (ps.map WE.num))) := by
  obtain ⟨iw, hi, hz0, hz1, hz2⟩ := info_parts infoW
  have hnc := hp.2.1
  have hcm := hp.2.2.1
  unfold maxLen at hcm
  obtain ⟨hn9, hpk⟩ := pOk_parts kp
  have hpl := hide hp.len
  rw [hp.len] at hn9
  replace hpk := hide hpk
  clear kp
  obtain ⟨xs, hxs⟩ : ∃ xs, ps.map WE.num = xs := ⟨_, rfl⟩
  rw [hxs]
  have hxl : Hid (xs.length = n) := by unfold Hid; rw [← hxs, List.length_map]; exact hpl.out
  have hxb : Hid (∀ i : Nat, (xs[i]?.getD 0).natAbs < pw 40) := fun i => by
    rw [← hxs, List.getElem?_map]
    rcases Option.eq_none_or_eq_some ps[i]? with h | ⟨e, h⟩
    · rw [h]; exact pw_pos 40
    · rw [h]; exact WE.small (hp.2.2.2.2 e (List.mem_of_getElem? h)) (hpk.out e (List.mem_of_getElem? h)).1 (hpk.out e (List.mem_of_getElem? h)).2
  replace hxs := hide hxs
  go_enter Try.func33, Try.ntmps33
  go_wp2_with fail
  go_loopw [10, 3] (fun iv ov wr => ∃ i : Nat, i ≤ n ∧ iv = .int .i64 i ∧ OwnP 36 wr w.heap.size ov ((List.range (i - 1)).map (fun j => xs[j + 1]?.getD 0 * ((j + 1 : Nat) : Int))) ∧ Below w.heap.size w wr) (fun iv _ _ => n - (intOf iv).toNat)
  case atStart => exact ⟨0, Nat.zero_le _, rfl, OwnP.nil _ _ _, Below.refl _ _⟩
  case round =>
    obtain ⟨i, hik, rfl, hown, hBp⟩ := hrel
    have hsz := hBp.size
    by_cases hin : i < n
    · obtain ⟨b1, o1, e1, rfl, he1, hc1, hc1', hL1⟩ := (hp.below hBp).at_ hin
      have hw1 := WE.wd hL1 (hpk.out e1 (List.mem_of_getElem? he1)).1
      have hx1 := hp.num_at he1
      rw [hxs.out] at hx1
      have hlt1 := lt_of_cell hc1
      obtain ⟨neg1, A1, n1, c1, l1⟩ := e1
      dsimp only at hc1 hc1' hL1 hw1 hx1
      generalize WE.num ⟨neg1, A1, n1, c1, l1⟩ = x1 at *
      replace hx1 := hide hx1
      replace he1 := hide he1
      have hBA := Blk.new wr 36 #[.bool neg1, .slice A1 n1 c1]
      have hBo := hBp.alloc hBp.size (.cells #[.bool neg1, .slice A1 n1 c1] 36)
      have hownA := hown.alloc (.cells #[.bool neg1, .slice A1 n1 c1] 36)
      have hwA := hw1.alloc (.cells #[.bool neg1, .slice A1 n1 c1] 36)
      by_cases hi0 : 0 < i
      · have d1 : decide ((0 : Int) < (i : Int)) = true := by simp; omega
        replace hBA := hide hBA
        go_wp2_with fail
        have g0 := hBA.out.cell 0
        have g1 := hBA.out.cell 1
        obtain ⟨w4, hw4⟩ : ∃ w4, wr.alloc (.cells #[.bool neg1, .slice A1 n1 c1] 36) = w4 := ⟨_, rfl⟩
        have hz4 : wr.heap.size < w4.heap.size := by rw [← hw4]; simp
        rw [hw4] at hBo hownA hwA hBA g0 g1 ⊢
        clear hw4
        have g0' : w4.cell? ⟨wr.heap.size, 0, none⟩ = some (.bool neg1) := g0
        have g1' : w4.cell? ⟨wr.heap.size, 1, none⟩ = some (.slice A1 n1 c1) := g1
        clear g0 g1 hown
        have hM : (x1 * (i : Int)).natAbs < pw 4096 := by
          have h1 := hxb.out i
          rw [hx1.out] at h1
          have h2 : ((i : Int)).natAbs < pw 40 := by have := pw_le (show 1 ≤ 40 by omega); rw [show pw 1 = 4294967296 by rfl] at this; omega
          exact pw_bound (i := 0) (by omega) (by rw [Nat.zero_add, Nat.one_mul]; exact natAbs_mul_lt h1 h2)
        have hw4 : Wd w4.drew neg1 A1 n1 c1 x1 := hwA
        have g2' : w4.drew.cell? ⟨wr.heap.size, 0, none⟩ = some (.bool neg1) := g0'
        have g3' : w4.drew.cell? ⟨wr.heap.size, 1, none⟩ = some (.slice A1 n1 c1) := g1'
        have hne := World.new_ne w4 _ g0'
        have hne' := World.new_ne w4 _ g1'
        go_region_held3 (fun w' => w'.cell? ⟨wr.heap.size, 0, none⟩ = some (.bool neg1) ∧ w'.cell? ⟨wr.heap.size, 1, none⟩ = some (.slice A1 n1 c1))
          (((try dsimp only); (repeat' apply And.intro); all_goals (first | go_keep | (simp [*, go_sem]; done))))
          (first
            | (go_at_call 54; refine (From_any _ w4.drew (by omega) (by omega)).mono ?_; rintro e w5 ⟨hb5, neg5, A5, n5, c5, rfl, hW5⟩; have k0 := keep_cell hb5 g2'; have k1 := keep_cell hb5 g3'; have hw5 := hw4.below hb5; have hB5 : Below w4.heap.size w4 w5 := below_drewL hb5; have hB5' := hB5.size)
            | (go_at_call 54; refine (From_any _ (w4.alloc (.cells #[.bool false, .slice none 0 0] 36)).drew (by omega) (by omega)).mono ?_; rintro e w5 ⟨hb5, neg5, A5, n5, c5, rfl, hW5⟩; have k0 := keep_cell hb5 ((World.cell?_alloc_lt w4 _ ⟨wr.heap.size, 0, none⟩ hz4).trans g0'); have k1 := keep_cell hb5 ((World.cell?_alloc_lt w4 _ ⟨wr.heap.size, 1, none⟩ hz4).trans g1'); have hw5 := Wd.below (w := (w4.alloc (.cells #[.bool false, .slice none 0 0] 36)).drew) (hwA.alloc _) hb5; have hB5 : Below w4.heap.size w4 w5 := ((Below.refl w4.heap.size w4).alloc (Nat.le_refl _) (.cells #[.bool false, .slice none 0 0] 36)).trans ((below_drewL hb5).mono (by simp)); have zb5 := keep_blk hb5 (Blk.new w4 36 #[.bool false, .slice none 0 0]))
            | (go_at_call 52; refine (Mul_ok _ _ _ _ _ _ _ _ x1 (i : Int) w5 (by exact hw5) (by exact hW5)).mono ?_; rintro e w6 ⟨hb6, neg6, A6, n6, c6, code6, rfl, hR6⟩; have hB6 : Below w4.heap.size w4 w6 := hB5.trans (hb6.mono hB5.size); have k2 := keep_cell hb6 k0; have k3 := keep_cell hb6 k1; have zb6 := keep_blk hb6 zb5; have z0 := zb6.cell 0; have z1 := zb6.cell 1; have z2 := zb6.frozen 0; have z3 := zb6.frozen 1)
            | (go_at_call 52; refine (Mul_ok _ _ _ _ _ _ _ _ x1 (i : Int) w5 (by exact hw5) (by exact hW5)).mono ?_; rintro e w6 ⟨hb6, neg6, A6, n6, c6, code6, rfl, hR6⟩; have hB6 : Below w4.heap.size w4 w6 := hB5.trans (hb6.mono hB5.size); have k2 := keep_cell hb6 k0; have k3 := keep_cell hb6 k1)
            | (go_at_call 52; refine (Mul_ok _ _ _ _ _ _ _ _ x1 (i : Int) (w5.alloc (.cells #[.bool false, .slice none 0 0] 36)) (by exact hw5.alloc _) (by exact hW5.alloc _)).mono ?_; rintro e w6 ⟨hb6, neg6, A6, n6, c6, code6, rfl, hR6⟩; have hB6 : Below w4.heap.size w4 w6 := (hB5.alloc hB5.size _).trans (hb6.mono (Nat.le_trans hB5.size (by simp))); have k2 := keep_cell hb6 ((World.cell?_alloc_lt w5 _ _ (lt_of_cell k0)).trans k0); have k3 := keep_cell hb6 ((World.cell?_alloc_lt w5 _ _ (lt_of_cell k1)).trans k1); have zb6 := keep_blk hb6 (Blk.new w5 36 #[.bool false, .slice none 0 0]); have z0 := zb6.cell 0; have z1 := zb6.cell 1; have z2 := zb6.frozen 0; have z3 := zb6.frozen 1))
        all_goals (
          have hW6 := hR6.small hM
          clear hR6
          first
            | (obtain ⟨W, hWe, hDB, hDK, hDW⟩ := done_new 36 hB6 hB6.size hW6; rw [hWe])
            | (obtain ⟨W, hWe, hDB, hDK, hDW⟩ := done_set hB6 (by first | exact Nat.le_refl _ | exact hB5.size) zb6 hW6; rw [hWe])
          clear hWe
          have hownW := hownA.kept hDB
          have hBW := hBo.trans (hDB.mono hBo.size)
          have y0 := hDK.out.cell 0
          have y1 := hDK.out.cell 1
          have y0' : W.cell? ⟨_, 0, none⟩ = some (.bool neg6) := y0
          have y1' : W.cell? ⟨_, 1, none⟩ = some (.slice A6 n6 c6) := y1
          clear y0 y1 hownA hBo hB6 hb6 k0 k1 k2 k3 hW5 hw5 hW6
          go_wp2_with (at_builtin; refine wpList_append_num _ rfl (.tmp 24) (.tmp 26) 22 rfl w.heap.size 36 iw Try.underlying22 hi hz0 hz1 hz2 _ _ rfl (by exact hownW.alloc _) _ _ 1 1 [⟨neg6, A6, n6, c6, digits (x1 * (i : Int)).natAbs⟩] rfl (reads_num _ _ _ _ _ _ _) rfl (List.forall_mem_singleton.2 ⟨hDW.2.2.alloc _, hDW.ok⟩) (by rw [List.length_map, List.length_range]; omega) (by have := hBW.size; simp; omega) ?_; intro v7 w7 hown7 hg7 hk7)
          have hB7 := (hBW.alloc hBW.size _).grown hg7 (by have := hBW.size; simp; omega) hownW.row_ge
          have hown8 := hown7.snoc hDW
          rw [← hx1.out, derP_step xs hi0] at hown8
          go_roundw
          case rel => exact ⟨i + 1, by omega, by go_num, hown8, hB7⟩
          case measure => simp [intOf]; omega)
      · obtain rfl : i = 0 := by omega
        simp only [Nat.zero_mul, Nat.add_zero] at hc1 hc1'
        go_wp2_with fail
        go_roundw
        case rel => exact ⟨1, by omega, by go_num, hownA, hBo⟩
        case measure => simp [intOf]; omega
    · obtain rfl : i = n := by omega
      have hO : (List.range (i - 1)).map (fun j => xs[j + 1]?.getD 0 * ((j + 1 : Nat) : Int)) = derP xs := by unfold derP; rw [hxl.out]
      rw [hO] at hown
      obtain ⟨A9, c9, rfl, hP9⟩ := hown.poly
      go_wp2_with fail
      go_returns
      exact ⟨_, _, _, rfl, hP9, hBp⟩

set_option maxRecDepth 100000 in
set_option maxHeartbeats 1000000 in
theorem pDeriv_ok (A : Option Addr) (n c : Nat) (ps : List WE) (w : World) (hp : WL w A n c ps) (kp : pOk ps = true) :
    Calls Try.prog 12 #[.slice A n c] w (ResPoly w (derP (ps.map WE.num))) := by
  have hT := fun W hp => hide (pderived_any A n c ps W hp kp)
  replace kp : Hid (errOf (pOk ps) = 0) := by unfold Hid; rw [kp]; rfl
  go_enter Try.func12, Try.ntmps12
  go_wp2_with fail
  refine (pCheck_any _ _ _ _ _ hp).mono ?_
  rintro e w1 ⟨he1, hb1⟩
  rw [kp.out] at he1
  subst he1
  go_wp2_with fail
  refine (hT w1 (hp.below hb1)).out.mono ?_
  rintro e w3 ⟨A3, n3, c3, rfl, hP3, hb3⟩
  have hB3 := hb1.trans (hb3.mono hb1.size)
  clear hT
  go_wp2_with fail
  refine (pmade_any _ _ _ _ _ hP3).mono ?_
  rintro e w4 ⟨hb4, A4, n4, c4, code4, rfl, hR4⟩
  replace hR4 := hide hR4
  go_wp2_with fail
  go_returns
  exact ⟨hB3.trans (hb4.mono hB3.size), A4, n4, c4, code4, rfl, hR4.out⟩

set_option maxHeartbeats 400000 in
theorem pDeriv_bad (A : Option Addr) (n c : Nat) (ps : List WE) (w : World) (hp : WL w A n c ps) (kp : pOk ps = false) :
    Calls Try.prog 12 #[.slice A n c] w (BadPoly w) := by
  replace kp : Hid (errOf (pOk ps) = 8) := by unfold Hid; rw [kp]; rfl
  go_enter Try.func12, Try.ntmps12
  go_wp2_with fail
  refine (pCheck_any _ _ _ _ _ hp).mono ?_
  rintro e w1 ⟨he1, hb1⟩
  rw [kp.out] at he1
  subst he1
  go_wp2_with fail
  go_returns
  exact ⟨hb1, none, rfl⟩
end Go.Proofs.Ytljocgdhdilglaa
