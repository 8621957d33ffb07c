/- The reference of layer 4: Derived, Deriv. -/
import Derived.Test.YtljocgdhdilglaaS3
namespace Go.Proofs.Ytljocgdhdilglaa
open Go.RowKit
attribute [local go_sem] add_lit

set_option maxRecDepth 100000 in
set_option maxHeartbeats 2000000 in
theorem sderived_any (A : Option Addr) (n c : Nat) (ps : List WE) (w : World) (hp : WL w A n c ps) (kp : pOk ps = true) :
    Calls Try.prog 34 #[.slice A n c] w (OutP w (derP (ps.map WE.num))) := by
  obtain ⟨iw, hi, hz0, hz1, hz2⟩ := info_parts infoW
  have hnc := hp.2.1
  have hcm := hp.2.2.1
  unfold maxLen at hcm
  obtain ⟨hn9, hpk⟩ := pOk_parts kp
  have hxb := hide (pOk_small hp kp)
  have hpl := hide hp.len
  rw [hp.len] at hn9
  replace hpk := hide hpk
  clear kp
  obtain ⟨xs, hxs⟩ : ∃ xs, ps.map WE.num = xs := ⟨_, rfl⟩
  rw [hxs] at hxb ⊢
  have hxl : Hid (xs.length = n) := by unfold Hid; rw [← hxs, List.length_map]; exact hpl.out
  replace hxs := hide hxs
  go_enter Try.func34, Try.ntmps34
  go_wp2_with fail
  go_loopw [4, 3] (fun iv ov wr => ∃ i : Nat, 0 < i ∧ i ≤ max n 1 ∧ iv = .int .i64 i ∧ OwnP 36 wr w.heap.size ov ((List.range (i - 1)).map (fun j => xs[j + 1]?.getD 0 * ((j + 1 : Nat) : Int))) ∧ Below w.heap.size w wr) (fun iv _ _ => max n 1 - (intOf iv).toNat)
  case atStart => exact ⟨1, Nat.one_pos, by omega, rfl, OwnP.nil _ _ _, Below.refl _ _⟩
  case round =>
    obtain ⟨i, hi0, hik, rfl, hown, hBp⟩ := hrel
    have hsz := hBp.size
    by_cases hin : i < n
    · obtain ⟨b1, o1, e1, rfl, he1, hc1, hc1', hL1⟩ := (hp.below hBp).at_ hin
      have hw1 := WE.wd hL1 (hpk.out e1 (List.mem_of_getElem? he1)).1
      have hx1 := hp.num_at he1
      rw [hxs.out] at hx1
      have hlt1 := lt_of_cell hc1
      obtain ⟨neg1, A1, n1, c1, l1⟩ := e1
      dsimp only at hc1 hc1' hL1 hw1 hx1
      generalize WE.num ⟨neg1, A1, n1, c1, l1⟩ = x1 at *
      replace hx1 := hide hx1
      replace he1 := hide he1
      clear hL1
      have hM : (x1 * (i : Int)).natAbs < pw 4096 := by
        have h1 := hxb.out i
        rw [hx1.out] at h1
        have h2 : ((i : Int)).natAbs < pw 40 := by have := pw_le (show 1 ≤ 40 by omega); rw [show pw 1 = 4294967296 by rfl] at this; omega
        exact pw_bound (i := 0) (by omega) (by rw [Nat.zero_add, Nat.one_mul]; exact natAbs_mul_lt h1 h2)
      go_wp2_with fail
      have hw4 : Wd wr.drew neg1 A1 n1 c1 x1 := hw1
      have g2' : wr.drew.cell? ⟨b1, o1 + i * 2, none⟩ = some (.bool neg1) := hc1
      have g3' : wr.drew.cell? ⟨b1, o1 + i * 2 + 1, none⟩ = some (.slice A1 n1 c1) := hc1'
      have hne := World.new_ne wr _ hc1
      have hne' := World.new_ne wr _ hc1'
      go_region_held3 (fun w' => w'.cell? ⟨b1, o1 + i * 2, none⟩ = some (.bool neg1) ∧ w'.cell? ⟨b1, o1 + i * 2 + 1, none⟩ = some (.slice A1 n1 c1))
          (((try dsimp only); (repeat' apply And.intro); all_goals (first | go_keep | (simp [*, go_sem]; done))))
          (first
            | (go_at_call 55; refine (rFrom_any _ wr.drew (by omega) (by omega)).mono ?_; rintro e w5 ⟨hb5, neg5, A5, n5, c5, rfl, hW5⟩; have k0 := keep_cell hb5 g2'; have k1 := keep_cell hb5 g3'; have hw5 := hw4.below hb5; have hB5 : Below wr.heap.size wr w5 := below_drewL hb5; have hB5' := hB5.size)
            | (go_at_call 55; refine (rFrom_any _ (wr.alloc (.cells #[.bool false, .slice none 0 0] 36)).drew (by omega) (by omega)).mono ?_; rintro e w5 ⟨hb5, neg5, A5, n5, c5, rfl, hW5⟩; have k0 := keep_cell hb5 ((World.cell?_alloc_lt wr _ ⟨b1, o1 + i * 2, none⟩ hlt1).trans hc1); have k1 := keep_cell hb5 ((World.cell?_alloc_lt wr _ ⟨b1, o1 + i * 2 + 1, none⟩ hlt1).trans hc1'); have hw5 := Wd.below (w := (wr.alloc (.cells #[.bool false, .slice none 0 0] 36)).drew) (hw1.alloc _) hb5; have hB5 : Below wr.heap.size wr w5 := ((Below.refl wr.heap.size wr).alloc (Nat.le_refl _) (.cells #[.bool false, .slice none 0 0] 36)).trans ((below_drewL hb5).mono (by simp)); have zb5 := keep_blk hb5 (Blk.new wr 36 #[.bool false, .slice none 0 0]))
            | (go_at_call 53; refine (rMul_ok _ _ _ _ _ _ _ _ x1 (i : Int) w5 (by exact hw5) (by exact hW5)).mono ?_; rintro e w6 ⟨hb6, neg6, A6, n6, c6, code6, rfl, hR6⟩; have hB6 : Below wr.heap.size wr w6 := hB5.trans (hb6.mono hB5.size); have k2 := keep_cell hb6 k0; have k3 := keep_cell hb6 k1; have zb6 := keep_blk hb6 zb5; have z0 := zb6.cell 0; have z1 := zb6.cell 1; have z2 := zb6.frozen 0; have z3 := zb6.frozen 1)
            | (go_at_call 53; refine (rMul_ok _ _ _ _ _ _ _ _ x1 (i : Int) w5 (by exact hw5) (by exact hW5)).mono ?_; rintro e w6 ⟨hb6, neg6, A6, n6, c6, code6, rfl, hR6⟩; have hB6 : Below wr.heap.size wr w6 := hB5.trans (hb6.mono hB5.size); have k2 := keep_cell hb6 k0; have k3 := keep_cell hb6 k1)
            | (go_at_call 53; refine (rMul_ok _ _ _ _ _ _ _ _ x1 (i : Int) (w5.alloc (.cells #[.bool false, .slice none 0 0] 36)) (by exact hw5.alloc _) (by exact hW5.alloc _)).mono ?_; rintro e w6 ⟨hb6, neg6, A6, n6, c6, code6, rfl, hR6⟩; have hB6 : Below wr.heap.size wr w6 := (hB5.alloc hB5.size _).trans (hb6.mono (Nat.le_trans hB5.size (by simp))); have k2 := keep_cell hb6 ((World.cell?_alloc_lt w5 _ _ (lt_of_cell k0)).trans k0); have k3 := keep_cell hb6 ((World.cell?_alloc_lt w5 _ _ (lt_of_cell k1)).trans k1); have zb6 := keep_blk hb6 (Blk.new w5 36 #[.bool false, .slice none 0 0]); have z0 := zb6.cell 0; have z1 := zb6.cell 1; have z2 := zb6.frozen 0; have z3 := zb6.frozen 1))
      all_goals (
          have hW6 := hR6.small hM
          clear hR6
          first
            | (obtain ⟨W, hWe, hDB, hDK, hDW⟩ := done_new 36 hB6 hB6.size hW6; rw [hWe])
            | (obtain ⟨W, hWe, hDB, hDK, hDW⟩ := done_set hB6 (by first | exact Nat.le_refl _ | exact hB5.size) zb6 hW6; rw [hWe])
          clear hWe
          have hownW := hown.kept hDB
          have hBW := hBp.trans (hDB.mono hBp.size)
          have y0' : W.cell? ⟨_, 0, none⟩ = some (.bool neg6) := hDK.out.cell 0
          have y1' : W.cell? ⟨_, 1, none⟩ = some (.slice A6 n6 c6) := hDK.out.cell 1
          clear hown hBp hB6 hb6 k0 k1 k2 k3 hW5 hw5 hW6
          go_wp2_with (at_builtin; refine wpList_append_num _ rfl (.tmp 23) (.tmp 25) 22 rfl w.heap.size 36 iw Try.underlying22 hi hz0 hz1 hz2 _ _ rfl (by exact hownW.alloc _) _ _ 1 1 [⟨neg6, A6, n6, c6, digits (x1 * (i : Int)).natAbs⟩] rfl (reads_num _ _ _ _ _ _ _) rfl (List.forall_mem_singleton.2 ⟨hDW.2.2.alloc _, hDW.ok⟩) (by rw [List.length_map, List.length_range]; omega) (by have := hBW.size; simp; omega) ?_; intro v7 w7 hown7 hg7 hk7)
          have hB7 := (hBW.alloc hBW.size _).grown hg7 (by have := hBW.size; simp; omega) hownW.row_ge
          have hown8 := hown7.snoc hDW
          rw [← hx1.out, derP_step xs hi0] at hown8
          go_roundw
          case rel => exact ⟨i + 1, by omega, by omega, by go_num, hown8, hB7⟩
          case measure => simp [intOf]; omega)
    · have hO : (List.range (i - 1)).map (fun j => xs[j + 1]?.getD 0 * ((j + 1 : Nat) : Int)) = derP xs := by unfold derP; rw [hxl.out, show i - 1 = n - 1 by omega]
      rw [hO] at hown
      clear hO
      have d1 : decide ((i : Int) < (n : Int)) = false := by simp; omega
      obtain ⟨A9, c9, rfl, hP9⟩ := hown.poly
      go_wp2_with fail
      go_returns
      exact ⟨_, _, _, rfl, hP9, hBp⟩

set_option maxRecDepth 100000 in
set_option maxHeartbeats 400000 in
theorem sDeriv_ok (A : Option Addr) (n c : Nat) (ps : List WE) (w : World) (hp : WL w A n c ps) (kp : pOk ps = true) :
    Calls Try.prog 13 #[.slice A n c] w (ResPoly w (derP (ps.map WE.num))) := by
  have hT := fun W hp => hide (sderived_any A n c ps W hp kp)
  have hlen : Hid ((derP (ps.map WE.num)).length ≤ 900) := by
    have := (pOk_parts kp).1
    unfold Hid derP; simp; omega
  replace kp : Hid (errOf (pOk ps) = 0) := by unfold Hid; rw [kp]; rfl
  go_enter Try.func13, Try.ntmps13
  go_wp2_with fail
  refine (sCheck_any _ _ _ _ _ hp).mono ?_
  rintro e w1 ⟨he1, hb1⟩
  rw [kp.out] at he1
  subst he1
  go_wp2_with fail
  refine (hT w1 (hp.below hb1)).out.mono ?_
  rintro e w3 ⟨A3, n3, c3, rfl, hP3, hb3⟩
  have hB3 := hb1.trans (hb3.mono hb1.size)
  clear hT
  go_wp2_with fail
  refine (smade_any _ _ _ _ _ hP3 (by rw [← hP3.len]; exact hlen.out)).mono ?_
  rintro e w4 ⟨hb4, A4, n4, c4, code4, rfl, hR4⟩
  replace hR4 := hide hR4
  go_wp2_with fail
  go_returns
  exact ⟨hB3.trans (hb4.mono hB3.size), A4, n4, c4, code4, rfl, hR4.out⟩

set_option maxHeartbeats 400000 in
theorem sDeriv_bad (A : Option Addr) (n c : Nat) (ps : List WE) (w : World) (hp : WL w A n c ps) (kp : pOk ps = false) :
    Calls Try.prog 13 #[.slice A n c] w (BadPoly w) := by
  replace kp : Hid (errOf (pOk ps) = 8) := by unfold Hid; rw [kp]; rfl
  go_enter Try.func13, Try.ntmps13
  go_wp2_with fail
  refine (sCheck_any _ _ _ _ _ hp).mono ?_
  rintro e w1 ⟨he1, hb1⟩
  rw [kp.out] at he1
  subst he1
  go_wp2_with fail
  refine (sCheck_any _ _ _ _ _ (hp.below hb1)).mono ?_
  rintro e w2 ⟨he2, hb2⟩
  rw [kp.out] at he2
  subst he2
  go_wp2_with fail
  go_returns
  exact ⟨hb1.trans (hb2.mono hb1.size), none, rfl⟩
end Go.Proofs.Ytljocgdhdilglaa
