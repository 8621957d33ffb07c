/- Reference of centroid: Moments. -/
import Derived.Deep.CutBlock
import Derived.Deep.DeepCutAuto
import Derived.Test.YtkippclhbkjbmaaGreatZm49
import Derived.Test.YtkippclhbkjbmaaGreatZm45
import Derived.Test.YtkippclhbkjbmaaGreatZm47
set_option linter.unusedSimpArgs false
set_option linter.unusedVariables false

namespace Go.Proofs.YtkippclhbkjbmaaGreat
open Go.RowKit
attribute [local go_sem] add_lit

set_option maxRecDepth 100000 in
set_option maxHeartbeats 4000000 in
theorem rmoments_bad (W H : Int) (A : Option Addr) (n c : Nat) (B : Option Addr) (m d : Nat) (ps l : List Int) (w : World) (hp : LimI w A n c ps) (hl : LimI w B m d l) (h9 : n ≤ 1000000000) (h8 : m ≤ 1000000000) (iW : I64 W) (iH : I64 H) (E : Int) (hE : startE W H n ps l = E) (hE0 : E ≠ 0) :
    Calls Tryz.prog 10 #[.agg #[.int .i64 W, .int .i64 H, .slice A n c], .slice B m d] w (MomP w E Mom.zero) := by
  obtain ⟨W0, hW0, hB, ⟨q0, qm⟩, sz⟩ := alloc2 w 24 #[.int .i64 W, .int .i64 H, .slice A n c] 34 #[.int .i64 0, .bool false, .slice none 0 0, .bool false, .slice none 0 0, .bool false, .slice none 0 0, .bool false, .slice none 0 0, .bool false, .slice none 0 0, .bool false, .slice none 0 0, .bool false, .slice none 0 0, .bool false, .slice none 0 0, .bool false, .slice none 0 0, .bool false, .slice none 0 0]
  have c0 := q0.cell 0
  have c1 := q0.cell 1
  have c2 := q0.cell 2
  simp at c0 c1 c2
  replace hp := hide (hp.below hB)
  replace hl := hide (hl.below hB)
  have hEb : (E == 0) = false := by simpa using hE0
  go_enter Tryz.func10, Tryz.ntmps10
  go_wp2_with fail
  refine (rStart_ok W H A n c B m d ps l W0 hp.out hl.out h9 h8 iW iH E hE).mono ?_
  rintro e w1 ⟨rfl, hb1⟩
  clear hW0 c0 c1 c2
  replace hB := hB.trans (hb1.mono hB.size)
  replace qm := keep_blk hb1 qm
  go_wp2_with ((refine wpList_store_mid rfl 34 _ _ rfl (w.heap.size + 1) 0 #[.int .i64 0, .bool false, .slice none 0 0, .bool false, .slice none 0 0, .bool false, .slice none 0 0, .bool false, .slice none 0 0, .bool false, .slice none 0 0, .bool false, .slice none 0 0, .bool false, .slice none 0 0, .bool false, .slice none 0 0, .bool false, .slice none 0 0, .bool false, .slice none 0 0] rfl rfl (qm.there (by simp)) info_mom (by simp [Value.oneCell']) ?_; obtain ⟨V3, hV3, hB3, qm3, -⟩ := set_all [.int .i64 0, .bool false, .slice none 0 0, .bool false, .slice none 0 0, .bool false, .slice none 0 0, .bool false, .slice none 0 0, .bool false, .slice none 0 0, .bool false, .slice none 0 0, .bool false, .slice none 0 0, .bool false, .slice none 0 0, .bool false, .slice none 0 0, .bool false, .slice none 0 0] [.int .i64 0, .bool false, .slice none 0 0, .bool false, .slice none 0 0, .bool false, .slice none 0 0, .bool false, .slice none 0 0, .bool false, .slice none 0 0, .bool false, .slice none 0 0, .bool false, .slice none 0 0, .bool false, .slice none 0 0, .bool false, .slice none 0 0, .bool false, .slice none 0 0] rfl rfl rfl hB (by omega) qm; rw [hV3]))
  obtain ⟨d0, hd1, hd2⟩ := und_mom
  refine bodyPost_ret (results_cell_tmp rfl _ _ (w.heap.size + 1) [.int .i64 0, .bool false, .slice none 0 0, .bool false, .slice none 0 0, .bool false, .slice none 0 0, .bool false, .slice none 0 0, .bool false, .slice none 0 0, .bool false, .slice none 0 0, .bool false, .slice none 0 0, .bool false, .slice none 0 0, .bool false, .slice none 0 0, .bool false, .slice none 0 0] d0 rfl (qm3.rangeAt [] (rest := []) rfl) hd1 hd2 info_mom) rfl ?_
  exact ⟨hB3, _, rfl, MomF.zero _⟩


theorem pw2_of' {a : Int} (h : a.natAbs ≤ 9000000000000000000) : a.natAbs < pw 2 := by
  refine Nat.lt_of_le_of_lt h ?_
  rw [pw_succ, pw_succ, pw_zero]; decide
set_option maxRecDepth 100000 in
set_option maxHeartbeats 8000000 in
theorem rmoments_good (W H : Int) (A : Option Addr) (n c : Nat) (B : Option Addr) (m d : Nat) (ps l : List Int) (w : World) (hp : LimI w A n c ps) (hl : LimI w B m d l) (h8 : m ≤ 40) (iW : I64 W) (iH : I64 H) (hE : startE W H n ps l = 0) :
    Calls Tryz.prog 10 #[.agg #[.int .i64 W, .int .i64 H, .slice A n c], .slice B m d] w fun e w' => (psum ps l ≤ 0 → MomP w 18 Mom.zero e w') ∧ (0 < psum ps l → MomP w 0 (momOf W ps l) e w') := by
  have hmx : Tryz.prog.follows .mixedOrders = true := by kernel_rfl
  obtain ⟨hfo, hli⟩ := startE_zero hE
  have hf := fieldOk_size hfo
  have hlm : l.length = m := hl.lenI
  have hr := rng_of hfo hli hlm
  have h9 : n ≤ 10000 := by
    have : W * H ≤ 100 * 100 := Int.mul_le_mul hf.2.1 hf.2.2.2.1 (by omega) (by omega)
    omega
  have hps : psum ps l = sumK (pix ps) l m := by unfold psum; rw [hlm]
  have hSb := hr.sum (k := m) (Nat.le_refl _)
  have hTx := hr.pl (k := m) false hf (Nat.le_refl _)
  have hTy := hr.pl (k := m) true hf (Nat.le_refl _)
  rw [← hps] at hSb
  have eX : Rat.divInt (sumK (pl false W ps) l m) (psum ps l) = mean1 (colv W) ps l := by unfold mean1; rw [hlm]; rfl
  have eY : Rat.divInt (sumK (pl true W ps) l m) (psum ps l) = mean1 (rowv W) ps l := by unfold mean1; rw [hlm]; rfl
  have hsec : ∀ (ra rb : Bool), 0 < psum ps l → secK (plc ra W) (plc rb W) (pix ps) (mean1 (plc ra W) ps l) (mean1 (plc rb W) ps l) l m / ((psum ps l : Int) : Rat) = central (plc ra W) (plc rb W) ps l := fun ra rb h => by
    unfold central mean1 mean2
    rw [hlm]
    exact sec_div (plc ra W) (plc rb W) (pix ps) l m (psum ps l) h hps.symm
  have hMo : momOf W ps l = ⟨psum ps l, prQ (mean1 (colv W) ps l), prQ (mean1 (rowv W) ps l), prQ (central (plc false W) (plc false W) ps l), prQ (central (plc false W) (plc true W) ps l), prQ (central (plc true W) (plc true W) ps l)⟩ := rfl
  have hsX : 0 < psum ps l → SmN 2 2 (mean1 (colv W) ps l) := fun h => by rw [← eX]; exact SmN.div h (pw2_of' (by omega)) (pw2_of' (by omega))
  have hsY : 0 < psum ps l → SmN 2 2 (mean1 (rowv W) ps l) := fun h => by rw [← eY]; exact SmN.div h (pw2_of' (by omega)) (pw2_of' (by omega))
  have hm1 : ∀ (rw_ : Bool), mean1 (plc rw_ W) ps l = if rw_ then mean1 (rowv W) ps l else mean1 (colv W) ps l := fun b => by cases b <;> rfl
  clear hfo hli hTx hTy hlm
  generalize psum ps l = S at *
  replace hf := hide hf
  replace hr := hide hr
  replace hps := hide hps
  replace hsec := hide hsec
  replace hMo := hide hMo
  replace eX := hide eX
  replace eY := hide eY
  replace hm1 := hide hm1
  obtain ⟨W0, hW0, hB, ⟨q0, qm⟩, sz⟩ := alloc2 w 24 #[.int .i64 W, .int .i64 H, .slice A n c] 34 #[.int .i64 0, .bool false, .slice none 0 0, .bool false, .slice none 0 0, .bool false, .slice none 0 0, .bool false, .slice none 0 0, .bool false, .slice none 0 0, .bool false, .slice none 0 0, .bool false, .slice none 0 0, .bool false, .slice none 0 0, .bool false, .slice none 0 0, .bool false, .slice none 0 0]
  have c0 := q0.cell 0
  have c1 := q0.cell 1
  have c2 := q0.cell 2
  simp at c0 c1 c2
  replace hp := hide (hp.below hB)
  replace hl := hide (hl.below hB)
  go_enter Tryz.func10, Tryz.ntmps10
  go_wp2_with fail
  refine (rStart_ok W H A n c B m d ps l W0 hp.out hl.out (by omega) (by omega) iW iH 0 hE).mono ?_
  rintro e w1 ⟨rfl, hb1⟩
  clear hW0 c0 c1 c2
  replace hB := hB.trans (hb1.mono hB.size)
  replace q0 := keep_blk hb1 q0
  replace qm := keep_blk hb1 qm
  replace hp := hide (hp.out.below hb1)
  replace hl := hide (hl.out.below hb1)
  have c0 := q0.cell 0
  have c1 := q0.cell 1
  have c2 := q0.cell 2
  simp at c0 c1 c2
  go_wp2_with fail
  refine (sum_ok W H A n c B m d ps l w1 hp.out hl.out (by omega) (by omega) hr.out).mono ?_
  rw [← hps.out]
  rintro e w2 ⟨rfl, hb2⟩
  clear c0 c1 c2 hb1
  replace hB := hB.trans (hb2.mono hB.size)
  replace q0 := keep_blk hb2 q0
  replace qm := keep_blk hb2 qm
  replace hp := hide (hp.out.below hb2)
  replace hl := hide (hl.out.below hb2)
  clear hb2
  have hlq := (Array.getElem?_eq_some_iff.1 qm).1
  by_cases hs : S ≤ 0
  · have ts : decide (S ≤ 0) = true := by simpa using hs
    go_wp2_with ((refine wpList_store_mid rfl 34 _ _ rfl (w.heap.size + 1) 0 #[.int .i64 0, .bool false, .slice none 0 0, .bool false, .slice none 0 0, .bool false, .slice none 0 0, .bool false, .slice none 0 0, .bool false, .slice none 0 0, .bool false, .slice none 0 0, .bool false, .slice none 0 0, .bool false, .slice none 0 0, .bool false, .slice none 0 0, .bool false, .slice none 0 0] rfl rfl (qm.there (by simp)) info_mom (by simp [Value.oneCell']) ?_; obtain ⟨V3, hV3, hB3, qm3, -⟩ := set_all [.int .i64 0, .bool false, .slice none 0 0, .bool false, .slice none 0 0, .bool false, .slice none 0 0, .bool false, .slice none 0 0, .bool false, .slice none 0 0, .bool false, .slice none 0 0, .bool false, .slice none 0 0, .bool false, .slice none 0 0, .bool false, .slice none 0 0, .bool false, .slice none 0 0] [.int .i64 0, .bool false, .slice none 0 0, .bool false, .slice none 0 0, .bool false, .slice none 0 0, .bool false, .slice none 0 0, .bool false, .slice none 0 0, .bool false, .slice none 0 0, .bool false, .slice none 0 0, .bool false, .slice none 0 0, .bool false, .slice none 0 0, .bool false, .slice none 0 0] rfl rfl rfl hB (by omega) qm; rw [hV3]))
    obtain ⟨d0, hd1, hd2⟩ := und_mom
    refine bodyPost_ret (results_cell_tmp rfl _ _ (w.heap.size + 1) [.int .i64 0, .bool false, .slice none 0 0, .bool false, .slice none 0 0, .bool false, .slice none 0 0, .bool false, .slice none 0 0, .bool false, .slice none 0 0, .bool false, .slice none 0 0, .bool false, .slice none 0 0, .bool false, .slice none 0 0, .bool false, .slice none 0 0, .bool false, .slice none 0 0] d0 rfl (qm3.rangeAt [] (rest := []) rfl) hd1 hd2 info_mom) rfl ?_
    exact ⟨fun _ => ⟨hB3, _, rfl, MomF.zero _⟩, fun h => absurd h (by omega)⟩
  have ts : decide (S ≤ 0) = false := by simpa using hs
  have hs0 : 0 < S := by omega
  replace hsX := hsX hs0
  replace hsY := hsY hs0
  have hS7 : ∀ wx, Below w2.heap.size w2 wx → wx.cell? ⟨w.heap.size, 0, none⟩ = some (.int .i64 W) ∧ wx.cell? ⟨w.heap.size, 1, none⟩ = some (.int .i64 H) ∧ wx.cell? ⟨w.heap.size, 2, none⟩ = some (.slice A n c) := fun wx hbx => by
    have q := keep_blk hbx q0
    have c0 := q.cell 0
    have c1 := q.cell 1
    have c2 := q.cell 2
    simp at c0 c1 c2
    exact ⟨c0, c1, c2⟩
  go_upto_region 7 with fail
  go_cut [8] from 22 to 31 (fun pv wx => ∃ g8 : Nat, pv = .pointer (some ⟨g8, 0, none⟩) ∧ w2.heap.size ≤ g8 ∧ Below w2.heap.size w2 wx ∧ ∃ (nax : Bool) (Ax : Option Addr) (nx cx : Nat) (nbx : Bool) (Bx : Option Addr) (mx dx : Nat) (nay : Bool) (Ay : Option Addr) (ny cy : Nat) (nby : Bool) (By : Option Addr) (my dy : Nat), Blk wx g8 34 #[.int .i64 S, .bool nax, .slice Ax nx cx, .bool nbx, .slice Bx mx dx, .bool nay, .slice Ay ny cy, .bool nby, .slice By my dy, .bool false, .slice none 0 0, .bool false, .slice none 0 0, .bool false, .slice none 0 0, .bool false, .slice none 0 0, .bool false, .slice none 0 0, .bool false, .slice none 0 0] ∧ Fr wx nax Ax nx cx nbx Bx mx dx (mean1 (colv W) ps l) ∧ Fr wx nay Ay ny cy nby By my dy (mean1 (rowv W) ps l))
  case first =>
    refine wp_held [] (fun wx => wx.cell? ⟨w.heap.size, 0, none⟩ = some (.int .i64 W) ∧ wx.cell? ⟨w.heap.size, 1, none⟩ = some (.int .i64 H) ∧ wx.cell? ⟨w.heap.size, 2, none⟩ = some (.slice A n c)) hmx (hS7 _ (below_dn (Below.refl _ _) 1)) (fun _ => ?_)
    have hb8 : Below w2.heap.size w2 w2.drew := below_dn (Below.refl _ _) 1
    refine wpAnyL_take (i := 0) (v := ?v1) rfl (by kernel_rfl) (by kernel_rfl) (by kernel_rfl) (by kernel_rfl) (by kernel_rfl) (Or.inl ⟨by rfl, ?hy1⟩) (hS7 _ hb8) ?rest1
    case hy1 => (intro W2 hSw; (try dsimp only at hSw); go_simp; try with_reducible rfl)
    try simp only [Act.put, List.setIfInBounds_toArray, List.set_cons_zero, List.set_cons_succ]
    refine wpAnyL_take (i := 1) (v := ?v2) rfl (by kernel_rfl) (by kernel_rfl) (by kernel_rfl) (by kernel_rfl) (by kernel_rfl) (Or.inl ⟨by rfl, ?hy2⟩) (hS7 _ hb8) ?rest2
    case hy2 => (intro W2 hSw; (try dsimp only at hSw); go_simp; try with_reducible rfl)
    try simp only [Act.put, List.setIfInBounds_toArray, List.set_cons_zero, List.set_cons_succ]
    refine wpAnyL_take (i := 2) (v := ?v3) rfl (by kernel_rfl) (by kernel_rfl) (by kernel_rfl) (by kernel_rfl) (by kernel_rfl) (Or.inl ⟨by rfl, ?hy3⟩) (hS7 _ hb8) ?rest3
    case hy3 => (intro W2 hSw; (try dsimp only at hSw); go_simp; try with_reducible rfl)
    try simp only [Act.put, List.setIfInBounds_toArray, List.set_cons_zero, List.set_cons_succ]
    refine wpAnyL_take (i := 3) (v := ?v4) rfl (by kernel_rfl) (by kernel_rfl) (by kernel_rfl) (by kernel_rfl) (by kernel_rfl) (Or.inl ⟨by rfl, ?hy4⟩) (hS7 _ hb8) ?rest4
    case hy4 => (intro W2 hSw; (try dsimp only at hSw); go_simp; try with_reducible rfl)
    try simp only [Act.put, List.setIfInBounds_toArray, List.set_cons_zero, List.set_cons_succ]
    refine wpAnyL_take (i := 5) (v := ?v5) rfl (by kernel_rfl) (by kernel_rfl) (by kernel_rfl) (by kernel_rfl) (by kernel_rfl) (Or.inl ⟨by rfl, ?hy5⟩) (hS7 _ hb8) ?rest5
    case hy5 => (intro W2 hSw; (try dsimp only at hSw); go_simp; try with_reducible rfl)
    try simp only [Act.put, List.setIfInBounds_toArray, List.set_cons_zero, List.set_cons_succ]
    refine wpAnyL_take (i := 6) (v := ?v6) rfl (by kernel_rfl) (by kernel_rfl) (by kernel_rfl) (by kernel_rfl) (by kernel_rfl) (Or.inl ⟨by rfl, ?hy6⟩) (hS7 _ hb8) ?rest6
    case hy6 => (intro W2 hSw; (try dsimp only at hSw); go_simp; try with_reducible rfl)
    try simp only [Act.put, List.setIfInBounds_toArray, List.set_cons_zero, List.set_cons_succ]
    refine wpAnyL_take (i := 7) (v := ?v7) rfl (by kernel_rfl) (by kernel_rfl) (by kernel_rfl) (by kernel_rfl) (by kernel_rfl) (Or.inl ⟨by rfl, ?hy7⟩) (hS7 _ hb8) ?rest7
    case hy7 => (intro W2 hSw; (try dsimp only at hSw); go_simp; try with_reducible rfl)
    try simp only [Act.put, List.setIfInBounds_toArray, List.set_cons_zero, List.set_cons_succ]
    refine wpAnyL_two (i := 4) (j := 10) rfl rfl (by kernel_rfl) (fun K hK => ?_) (fun K hK => ?_)
    · have hp1 := hp.out.below hb8
      have hl1 := hl.out.below hb8
      go_simp
      refine (mean_ok W H A n c B m d ps l false S _ hp1 hl1 hf.out (by omega) hr.out hs0 (by omega)).mono ?_
      rw [eX.out]
      rintro e wx ⟨hbc, nax, Ax, nx, cx, nbx, Bx, mx, dx, rfl, hx⟩
      clear hp1 hl1
      replace hb8 := hb8.trans (hbc.mono hb8.size)
      replace hx := hide hx
      clear hbc
      refine hK.out _ _ (fun _ => hS7 _ hb8) ?_
      clear hK K
      try simp only [Act.put, List.setIfInBounds_toArray, List.set_cons_zero, List.set_cons_succ]
      refine wpAnyL_two (i := 8) (j := 10) rfl rfl (by kernel_rfl) (fun K hK => ?_) (fun K hK => ?_)
      · have hp1 := hp.out.below hb8
        have hl1 := hl.out.below hb8
        go_simp
        refine (mean_ok W H A n c B m d ps l true S _ hp1 hl1 hf.out (by omega) hr.out hs0 (by omega)).mono ?_
        rw [eY.out]
        rintro e wy ⟨hbc, nay, Ay, ny, cy, nby, By, my, dy, rfl, hy⟩
        clear hp1 hl1
        replace hb8 := hb8.trans (hbc.mono hb8.size)
        replace hy := hide hy
        replace hx := hide (hx.out.below hbc)
        clear hbc
        refine hK.out _ _ (fun _ => hS7 _ hb8) ?_
        clear hK K
        try simp only [Act.put, List.setIfInBounds_toArray, List.set_cons_zero, List.set_cons_succ]
        refine wpAnyL_take (i := 9) (v := ?v8) rfl (by kernel_rfl) (by kernel_rfl) (by kernel_rfl) (by kernel_rfl) (by kernel_rfl) (Or.inl ⟨by rfl, ?hy8⟩) (hS7 _ hb8) ?rest8
        case hy8 => (intro W2 hSw; (try dsimp only at hSw); go_simp; try with_reducible rfl)
        try simp only [Act.put, List.setIfInBounds_toArray, List.set_cons_zero, List.set_cons_succ]
        refine wpAnyL_one (i := 10) rfl (by kernel_rfl) (fun K hK => ?_)
        go_simp
        obtain ⟨V, hVe, hBV, hV, hk1, hk2, sV⟩ := new_obj 34 #[.int .i64 0, .bool false, .slice none 0 0, .bool false, .slice none 0 0, .bool false, .slice none 0 0, .bool false, .slice none 0 0, .bool false, .slice none 0 0, .bool false, .slice none 0 0, .bool false, .slice none 0 0, .bool false, .slice none 0 0, .bool false, .slice none 0 0, .bool false, .slice none 0 0] hb8 hb8.size
        have hgV := hb8.size
        rw [hVe]
        replace hx := hide (hx.out.keep hk1)
        replace hy := hide (hy.out.keep hk1)
        replace hb8 := hBV
        clear hVe hBV hk1 hk2 sV
        refine hK.out _ _ (fun _ => hS7 _ hb8) ?_
        clear hK K
        try simp only [Act.put, List.setIfInBounds_toArray, List.set_cons_zero, List.set_cons_succ]
        refine wpAnyL_one (i := 11) rfl (by kernel_rfl) (fun K hK => ?_)
        refine wp_store_mid 34 _ _ rfl _ 0 #[.int .i64 S, .bool nax, .slice Ax nx cx, .bool nbx, .slice Bx mx dx, .bool nay, .slice Ay ny cy, .bool nby, .slice By my dy, .bool false, .slice none 0 0, .bool false, .slice none 0 0, .bool false, .slice none 0 0, .bool false, .slice none 0 0, .bool false, .slice none 0 0, .bool false, .slice none 0 0] rfl rfl (hV.there (by simp)) info_mom (by simp [Value.oneCell']) ?_
        obtain ⟨w9, hw9, hb9, q20, hst⟩ := set_all [.int .i64 S, .bool nax, .slice Ax nx cx, .bool nbx, .slice Bx mx dx, .bool nay, .slice Ay ny cy, .bool nby, .slice By my dy, .bool false, .slice none 0 0, .bool false, .slice none 0 0, .bool false, .slice none 0 0, .bool false, .slice none 0 0, .bool false, .slice none 0 0, .bool false, .slice none 0 0] [.int .i64 0, .bool false, .slice none 0 0, .bool false, .slice none 0 0, .bool false, .slice none 0 0, .bool false, .slice none 0 0, .bool false, .slice none 0 0, .bool false, .slice none 0 0, .bool false, .slice none 0 0, .bool false, .slice none 0 0, .bool false, .slice none 0 0, .bool false, .slice none 0 0] rfl rfl rfl hb8 hgV hV
        rw [hw9]
        replace hx := hide (hx.out.keep hst.1)
        replace hy := hide (hy.out.keep hst.1)
        replace hb8 := hb9
        clear hw9 hb9 hst
        refine hK.out _ _ (fun _ => hS7 _ hb8) ?_
        clear hK K
        try simp only [Act.put, List.setIfInBounds_toArray, List.set_cons_zero, List.set_cons_succ]
        refine wpAnyL_done (by kernel_rfl) ?_ _
        refine OnlyNormal.normal ?_
        try simp only [Act.put, List.setIfInBounds_toArray, List.set_cons_zero, List.set_cons_succ, List.getElem_toArray, List.getElem_cons_succ, List.getElem_cons_zero]
        go_simp
        go_wp2_with fail
        go_meet
        exact ⟨_, rfl, hgV, hb8, _, _, _, _, _, _, _, _, _, _, _, _, _, _, _, _, q20, hx.out, hy.out⟩
      · go_simp
        obtain ⟨V, hVe, hBV, hV, hk1, hk2, sV⟩ := new_obj 34 #[.int .i64 0, .bool false, .slice none 0 0, .bool false, .slice none 0 0, .bool false, .slice none 0 0, .bool false, .slice none 0 0, .bool false, .slice none 0 0, .bool false, .slice none 0 0, .bool false, .slice none 0 0, .bool false, .slice none 0 0, .bool false, .slice none 0 0, .bool false, .slice none 0 0] hb8 hb8.size
        have hgV := hb8.size
        rw [hVe]
        replace hx := hide (hx.out.keep hk1)
        replace hb8 := hBV
        clear hVe hBV hk1 hk2 sV
        refine hK.out _ _ (fun _ => hS7 _ hb8) ?_
        clear hK K
        try simp only [Act.put, List.setIfInBounds_toArray, List.set_cons_zero, List.set_cons_succ]
        refine wpAnyL_one (i := 8) rfl (by kernel_rfl) (fun K hK => ?_)
        have hp1 := hp.out.below hb8
        have hl1 := hl.out.below hb8
        go_simp
        refine (mean_ok W H A n c B m d ps l true S _ hp1 hl1 hf.out (by omega) hr.out hs0 (by omega)).mono ?_
        rw [eY.out]
        rintro e wy ⟨hbc, nay, Ay, ny, cy, nby, By, my, dy, rfl, hy⟩
        clear hp1 hl1
        replace hb8 := hb8.trans (hbc.mono hb8.size)
        replace hy := hide hy
        replace hx := hide (hx.out.below hbc)
        replace hV := keep_blk hbc hV
        clear hbc
        refine hK.out _ _ (fun _ => hS7 _ hb8) ?_
        clear hK K
        try simp only [Act.put, List.setIfInBounds_toArray, List.set_cons_zero, List.set_cons_succ]
        refine wpAnyL_take (i := 9) (v := ?v9) rfl (by kernel_rfl) (by kernel_rfl) (by kernel_rfl) (by kernel_rfl) (by kernel_rfl) (Or.inl ⟨by rfl, ?hy9⟩) (hS7 _ hb8) ?rest9
        case hy9 => (intro W2 hSw; (try dsimp only at hSw); go_simp; try with_reducible rfl)
        try simp only [Act.put, List.setIfInBounds_toArray, List.set_cons_zero, List.set_cons_succ]
        refine wpAnyL_one (i := 11) rfl (by kernel_rfl) (fun K hK => ?_)
        refine wp_store_mid 34 _ _ rfl _ 0 #[.int .i64 S, .bool nax, .slice Ax nx cx, .bool nbx, .slice Bx mx dx, .bool nay, .slice Ay ny cy, .bool nby, .slice By my dy, .bool false, .slice none 0 0, .bool false, .slice none 0 0, .bool false, .slice none 0 0, .bool false, .slice none 0 0, .bool false, .slice none 0 0, .bool false, .slice none 0 0] rfl rfl (hV.there (by simp)) info_mom (by simp [Value.oneCell']) ?_
        obtain ⟨w9, hw9, hb9, q20, hst⟩ := set_all [.int .i64 S, .bool nax, .slice Ax nx cx, .bool nbx, .slice Bx mx dx, .bool nay, .slice Ay ny cy, .bool nby, .slice By my dy, .bool false, .slice none 0 0, .bool false, .slice none 0 0, .bool false, .slice none 0 0, .bool false, .slice none 0 0, .bool false, .slice none 0 0, .bool false, .slice none 0 0] [.int .i64 0, .bool false, .slice none 0 0, .bool false, .slice none 0 0, .bool false, .slice none 0 0, .bool false, .slice none 0 0, .bool false, .slice none 0 0, .bool false, .slice none 0 0, .bool false, .slice none 0 0, .bool false, .slice none 0 0, .bool false, .slice none 0 0, .bool false, .slice none 0 0] rfl rfl rfl hb8 hgV hV
        rw [hw9]
        replace hx := hide (hx.out.keep hst.1)
        replace hy := hide (hy.out.keep hst.1)
        replace hb8 := hb9
        clear hw9 hb9 hst
        refine hK.out _ _ (fun _ => hS7 _ hb8) ?_
        clear hK K
        try simp only [Act.put, List.setIfInBounds_toArray, List.set_cons_zero, List.set_cons_succ]
        refine wpAnyL_done (by kernel_rfl) ?_ _
        refine OnlyNormal.normal ?_
        try simp only [Act.put, List.setIfInBounds_toArray, List.set_cons_zero, List.set_cons_succ, List.getElem_toArray, List.getElem_cons_succ, List.getElem_cons_zero]
        go_simp
        go_wp2_with fail
        go_meet
        exact ⟨_, rfl, hgV, hb8, _, _, _, _, _, _, _, _, _, _, _, _, _, _, _, _, q20, hx.out, hy.out⟩
    · go_simp
      obtain ⟨V, hVe, hBV, hV, hk1, hk2, sV⟩ := new_obj 34 #[.int .i64 0, .bool false, .slice none 0 0, .bool false, .slice none 0 0, .bool false, .slice none 0 0, .bool false, .slice none 0 0, .bool false, .slice none 0 0, .bool false, .slice none 0 0, .bool false, .slice none 0 0, .bool false, .slice none 0 0, .bool false, .slice none 0 0, .bool false, .slice none 0 0] (Below.refl w2.heap.size w2) (Nat.le_refl _)
      have hgV := Nat.le_refl w2.heap.size
      rw [hVe]
      replace hb8 : Below w2.heap.size w2 V.drew := below_dn hBV 1
      replace hV : Blk V.drew w2.heap.size 34 #[.int .i64 0, .bool false, .slice none 0 0, .bool false, .slice none 0 0, .bool false, .slice none 0 0, .bool false, .slice none 0 0, .bool false, .slice none 0 0, .bool false, .slice none 0 0, .bool false, .slice none 0 0, .bool false, .slice none 0 0, .bool false, .slice none 0 0, .bool false, .slice none 0 0] := hV
      clear hVe hBV hk1 hk2 sV
      refine hK.out _ _ (fun _ => hS7 _ hb8) ?_
      clear hK K
      try simp only [Act.put, List.setIfInBounds_toArray, List.set_cons_zero, List.set_cons_succ]
      refine wpAnyL_one (i := 4) rfl (by kernel_rfl) (fun K hK => ?_)
      have hp1 := hp.out.below hb8
      have hl1 := hl.out.below hb8
      go_simp
      refine (mean_ok W H A n c B m d ps l false S _ hp1 hl1 hf.out (by omega) hr.out hs0 (by omega)).mono ?_
      rw [eX.out]
      rintro e wx ⟨hbc, nax, Ax, nx, cx, nbx, Bx, mx, dx, rfl, hx⟩
      clear hp1 hl1
      replace hb8 := hb8.trans (hbc.mono hb8.size)
      replace hx := hide hx
      replace hV := keep_blk hbc hV
      clear hbc
      refine hK.out _ _ (fun _ => hS7 _ hb8) ?_
      clear hK K
      try simp only [Act.put, List.setIfInBounds_toArray, List.set_cons_zero, List.set_cons_succ]
      refine wpAnyL_one (i := 8) rfl (by kernel_rfl) (fun K hK => ?_)
      have hp1 := hp.out.below hb8
      have hl1 := hl.out.below hb8
      go_simp
      refine (mean_ok W H A n c B m d ps l true S _ hp1 hl1 hf.out (by omega) hr.out hs0 (by omega)).mono ?_
      rw [eY.out]
      rintro e wy ⟨hbc, nay, Ay, ny, cy, nby, By, my, dy, rfl, hy⟩
      clear hp1 hl1
      replace hb8 := hb8.trans (hbc.mono hb8.size)
      replace hy := hide hy
      replace hx := hide (hx.out.below hbc)
      replace hV := keep_blk hbc hV
      clear hbc
      refine hK.out _ _ (fun _ => hS7 _ hb8) ?_
      clear hK K
      try simp only [Act.put, List.setIfInBounds_toArray, List.set_cons_zero, List.set_cons_succ]
      refine wpAnyL_take (i := 9) (v := ?v10) rfl (by kernel_rfl) (by kernel_rfl) (by kernel_rfl) (by kernel_rfl) (by kernel_rfl) (Or.inl ⟨by rfl, ?hy10⟩) (hS7 _ hb8) ?rest10
      case hy10 => (intro W2 hSw; (try dsimp only at hSw); go_simp; try with_reducible rfl)
      try simp only [Act.put, List.setIfInBounds_toArray, List.set_cons_zero, List.set_cons_succ]
      refine wpAnyL_one (i := 11) rfl (by kernel_rfl) (fun K hK => ?_)
      refine wp_store_mid 34 _ _ rfl _ 0 #[.int .i64 S, .bool nax, .slice Ax nx cx, .bool nbx, .slice Bx mx dx, .bool nay, .slice Ay ny cy, .bool nby, .slice By my dy, .bool false, .slice none 0 0, .bool false, .slice none 0 0, .bool false, .slice none 0 0, .bool false, .slice none 0 0, .bool false, .slice none 0 0, .bool false, .slice none 0 0] rfl rfl (hV.there (by simp)) info_mom (by simp [Value.oneCell']) ?_
      obtain ⟨w9, hw9, hb9, q20, hst⟩ := set_all [.int .i64 S, .bool nax, .slice Ax nx cx, .bool nbx, .slice Bx mx dx, .bool nay, .slice Ay ny cy, .bool nby, .slice By my dy, .bool false, .slice none 0 0, .bool false, .slice none 0 0, .bool false, .slice none 0 0, .bool false, .slice none 0 0, .bool false, .slice none 0 0, .bool false, .slice none 0 0] [.int .i64 0, .bool false, .slice none 0 0, .bool false, .slice none 0 0, .bool false, .slice none 0 0, .bool false, .slice none 0 0, .bool false, .slice none 0 0, .bool false, .slice none 0 0, .bool false, .slice none 0 0, .bool false, .slice none 0 0, .bool false, .slice none 0 0, .bool false, .slice none 0 0] rfl rfl rfl hb8 hgV hV
      rw [hw9]
      replace hx := hide (hx.out.keep hst.1)
      replace hy := hide (hy.out.keep hst.1)
      replace hb8 := hb9
      clear hw9 hb9 hst
      refine hK.out _ _ (fun _ => hS7 _ hb8) ?_
      clear hK K
      try simp only [Act.put, List.setIfInBounds_toArray, List.set_cons_zero, List.set_cons_succ]
      refine wpAnyL_done (by kernel_rfl) ?_ _
      refine OnlyNormal.normal ?_
      try simp only [Act.put, List.setIfInBounds_toArray, List.set_cons_zero, List.set_cons_succ, List.getElem_toArray, List.getElem_cons_succ, List.getElem_cons_zero]
      go_simp
      go_wp2_with fail
      go_meet
      exact ⟨_, rfl, hgV, hb8, _, _, _, _, _, _, _, _, _, _, _, _, _, _, _, _, q20, hx.out, hy.out⟩
  case rest =>
    obtain ⟨g8, rfl, hg8, hb8, nax, Ax, nx, cx, nbx, Bx, mx, dx, nay, Ay, ny, cy, nby, By, my, dy, q8, hx, hy⟩ := hcut
    replace hg8 := hide hg8
    have hg0 := hB.size
    have q0w := keep_blk hb8 q0
    have fc0 := q0w.cell 0
    have fc1 := q0w.cell 1
    have fc2 := q0w.cell 2
    simp at fc0 fc1 fc2
    have bb1 := q8.cell 1
    have bb2 := q8.cell 2
    have bb3 := q8.cell 3
    have bb4 := q8.cell 4
    have bb5 := q8.cell 5
    have bb6 := q8.cell 6
    have bb7 := q8.cell 7
    have bb8 := q8.cell 8
    simp at bb1 bb2 bb3 bb4 bb5 bb6 bb7 bb8
    go_wp2_with fail
    refine (second_ok W H A n c B m d ps l false false S nax nbx nax nbx Ax Bx Ax Bx nx cx mx dx nx cx mx dx _ _ _ (hp.out.below hb8) (hl.out.below hb8) hf.out h8 hr.out hx hx hsX hsX hs0 (by omega)).mono ?_
    have hse1 := hsec.out false false hs0
    simp only [hm1.out, if_true, if_false, Bool.false_eq_true] at hse1
    rw [hse1]
    rintro e v1 ⟨hbc, na1, A1, n1, c1, nb1, B1, m1, d1, rfl, h1⟩
    replace hb8 := hb8.trans (hbc.mono hb8.size)
    replace hx := hx.below hbc
    replace hy := hy.below hbc
    replace q8 := keep_blk hbc q8
    clear hbc fc0 fc1 fc2 bb1 bb2 bb3 bb4 bb5 bb6 bb7 bb8 q0w hse1
    have y0 := q8.cell 9
    have y1 := q8.cell 10
    have y2 := q8.cell 11
    have y3 := q8.cell 12
    simp at y0 y1 y2 y3
    have z0 := q8.frozen 9
    have z1 := q8.frozen 10
    have z2 := q8.frozen 11
    have z3 := q8.frozen 12
    obtain ⟨u1, hu1, hbu, q8u, hst⟩ := set_mid (t := 34) (B := w2.heap.size) (w0 := w2) (g := g8) [.bool false, .slice none 0 0, .bool false, .slice none 0 0, .bool false, .slice none 0 0, .bool false, .slice none 0 0] [.bool na1, .slice A1 n1 c1, .bool nb1, .slice B1 m1 d1] [.bool false, .slice none 0 0, .bool false, .slice none 0 0] [.int .i64 S, .bool nax, .slice Ax nx cx, .bool nbx, .slice Bx mx dx, .bool nay, .slice Ay ny cy, .bool nby, .slice By my dy] v1 9 rfl rfl rfl rfl hb8 hg8.out q8
    simp only [World.setCells, Nat.reduceAdd, Nat.zero_add] at hu1
    replace hx := hx.keep hst.1
    replace hy := hy.keep hst.1
    replace h1 := h1.keep hst.1
    replace hb8 := hbu
    replace q8 : Blk u1 g8 34 #[.int .i64 S, .bool nax, .slice Ax nx cx, .bool nbx, .slice Bx mx dx, .bool nay, .slice Ay ny cy, .bool nby, .slice By my dy, .bool na1, .slice A1 n1 c1, .bool nb1, .slice B1 m1 d1, .bool false, .slice none 0 0, .bool false, .slice none 0 0, .bool false, .slice none 0 0, .bool false, .slice none 0 0] := q8u
    have q0w := keep_blk hb8 q0
    have fc0 := q0w.cell 0
    have fc1 := q0w.cell 1
    have fc2 := q0w.cell 2
    simp at fc0 fc1 fc2
    have bb1 := q8.cell 1
    have bb2 := q8.cell 2
    have bb3 := q8.cell 3
    have bb4 := q8.cell 4
    have bb5 := q8.cell 5
    have bb6 := q8.cell 6
    have bb7 := q8.cell 7
    have bb8 := q8.cell 8
    simp at bb1 bb2 bb3 bb4 bb5 bb6 bb7 bb8
    go_wp2_with fail
    clear y0 y1 y2 y3 z0 z1 z2 z3 hu1 hst hbu q8u
    refine (second_ok W H A n c B m d ps l false true S nax nbx nay nby Ax Bx Ay By nx cx mx dx ny cy my dy _ _ _ (hp.out.below hb8) (hl.out.below hb8) hf.out h8 hr.out hx hy hsX hsY hs0 (by omega)).mono ?_
    have hse2 := hsec.out false true hs0
    simp only [hm1.out, if_true, if_false, Bool.false_eq_true] at hse2
    rw [hse2]
    rintro e v2 ⟨hbc, na2, A2, n2, c2, nb2, B2, m2, d2, rfl, h2⟩
    replace hb8 := hb8.trans (hbc.mono hb8.size)
    replace hx := hx.below hbc
    replace hy := hy.below hbc
    replace h1 := h1.below hbc
    replace q8 := keep_blk hbc q8
    clear hbc fc0 fc1 fc2 bb1 bb2 bb3 bb4 bb5 bb6 bb7 bb8 q0w hse2
    have y0 := q8.cell 13
    have y1 := q8.cell 14
    have y2 := q8.cell 15
    have y3 := q8.cell 16
    simp at y0 y1 y2 y3
    have z0 := q8.frozen 13
    have z1 := q8.frozen 14
    have z2 := q8.frozen 15
    have z3 := q8.frozen 16
    obtain ⟨u2, hu2, hbu, q8u, hst⟩ := set_mid (t := 34) (B := w2.heap.size) (w0 := w2) (g := g8) [.bool false, .slice none 0 0, .bool false, .slice none 0 0] [.bool na2, .slice A2 n2 c2, .bool nb2, .slice B2 m2 d2] [.bool false, .slice none 0 0, .bool false, .slice none 0 0] [.int .i64 S, .bool nax, .slice Ax nx cx, .bool nbx, .slice Bx mx dx, .bool nay, .slice Ay ny cy, .bool nby, .slice By my dy, .bool na1, .slice A1 n1 c1, .bool nb1, .slice B1 m1 d1] v2 13 rfl rfl rfl rfl hb8 hg8.out q8
    simp only [World.setCells, Nat.reduceAdd, Nat.zero_add] at hu2
    replace hx := hx.keep hst.1
    replace hy := hy.keep hst.1
    replace h1 := h1.keep hst.1
    replace h2 := h2.keep hst.1
    replace hb8 := hbu
    replace q8 : Blk u2 g8 34 #[.int .i64 S, .bool nax, .slice Ax nx cx, .bool nbx, .slice Bx mx dx, .bool nay, .slice Ay ny cy, .bool nby, .slice By my dy, .bool na1, .slice A1 n1 c1, .bool nb1, .slice B1 m1 d1, .bool na2, .slice A2 n2 c2, .bool nb2, .slice B2 m2 d2, .bool false, .slice none 0 0, .bool false, .slice none 0 0] := q8u
    have q0w := keep_blk hb8 q0
    have fc0 := q0w.cell 0
    have fc1 := q0w.cell 1
    have fc2 := q0w.cell 2
    simp at fc0 fc1 fc2
    have bb1 := q8.cell 1
    have bb2 := q8.cell 2
    have bb3 := q8.cell 3
    have bb4 := q8.cell 4
    have bb5 := q8.cell 5
    have bb6 := q8.cell 6
    have bb7 := q8.cell 7
    have bb8 := q8.cell 8
    simp at bb1 bb2 bb3 bb4 bb5 bb6 bb7 bb8
    go_wp2_with fail
    clear y0 y1 y2 y3 z0 z1 z2 z3 hu2 hst hbu q8u
    refine (second_ok W H A n c B m d ps l true true S nay nby nay nby Ay By Ay By ny cy my dy ny cy my dy _ _ _ (hp.out.below hb8) (hl.out.below hb8) hf.out h8 hr.out hy hy hsY hsY hs0 (by omega)).mono ?_
    have hse3 := hsec.out true true hs0
    simp only [hm1.out, if_true, if_false, Bool.false_eq_true] at hse3
    rw [hse3]
    rintro e v3 ⟨hbc, na3, A3, n3, c3, nb3, B3, m3, d3, rfl, h3⟩
    replace hb8 := hb8.trans (hbc.mono hb8.size)
    replace hx := hx.below hbc
    replace hy := hy.below hbc
    replace h1 := h1.below hbc
    replace h2 := h2.below hbc
    replace q8 := keep_blk hbc q8
    clear hbc fc0 fc1 fc2 bb1 bb2 bb3 bb4 bb5 bb6 bb7 bb8 q0w hse3
    have y0 := q8.cell 17
    have y1 := q8.cell 18
    have y2 := q8.cell 19
    have y3 := q8.cell 20
    simp at y0 y1 y2 y3
    have z0 := q8.frozen 17
    have z1 := q8.frozen 18
    have z2 := q8.frozen 19
    have z3 := q8.frozen 20
    obtain ⟨u3, hu3, hbu, q8u, hst⟩ := set_mid (t := 34) (B := w2.heap.size) (w0 := w2) (g := g8) [] [.bool na3, .slice A3 n3 c3, .bool nb3, .slice B3 m3 d3] [.bool false, .slice none 0 0, .bool false, .slice none 0 0] [.int .i64 S, .bool nax, .slice Ax nx cx, .bool nbx, .slice Bx mx dx, .bool nay, .slice Ay ny cy, .bool nby, .slice By my dy, .bool na1, .slice A1 n1 c1, .bool nb1, .slice B1 m1 d1, .bool na2, .slice A2 n2 c2, .bool nb2, .slice B2 m2 d2] v3 17 rfl rfl rfl rfl hb8 hg8.out q8
    simp only [World.setCells, Nat.reduceAdd, Nat.zero_add] at hu3
    replace hx := hx.keep hst.1
    replace hy := hy.keep hst.1
    replace h1 := h1.keep hst.1
    replace h2 := h2.keep hst.1
    replace h3 := h3.keep hst.1
    replace hb8 := hbu
    replace q8 : Blk u3 g8 34 #[.int .i64 S, .bool nax, .slice Ax nx cx, .bool nbx, .slice Bx mx dx, .bool nay, .slice Ay ny cy, .bool nby, .slice By my dy, .bool na1, .slice A1 n1 c1, .bool nb1, .slice B1 m1 d1, .bool na2, .slice A2 n2 c2, .bool nb2, .slice B2 m2 d2, .bool na3, .slice A3 n3 c3, .bool nb3, .slice B3 m3 d3] := q8u
    have q0w := keep_blk hb8 q0
    have fc0 := q0w.cell 0
    have fc1 := q0w.cell 1
    have fc2 := q0w.cell 2
    simp at fc0 fc1 fc2
    have bb1 := q8.cell 1
    have bb2 := q8.cell 2
    have bb3 := q8.cell 3
    have bb4 := q8.cell 4
    have bb5 := q8.cell 5
    have bb6 := q8.cell 6
    have bb7 := q8.cell 7
    have bb8 := q8.cell 8
    simp at bb1 bb2 bb3 bb4 bb5 bb6 bb7 bb8
    have qmz := keep_blk hb8 qm
    have hBz := hB.trans (hb8.mono hB.size)
    obtain ⟨d0, hd1, hd2⟩ := und_mom
    go_wp2_with (first | (refine wpList_load_mid rfl 34 _ rfl g8 0 rfl [.int .i64 S, .bool nax, .slice Ax nx cx, .bool nbx, .slice Bx mx dx, .bool nay, .slice Ay ny cy, .bool nby, .slice By my dy, .bool na1, .slice A1 n1 c1, .bool nb1, .slice B1 m1 d1, .bool na2, .slice A2 n2 c2, .bool nb2, .slice B2 m2 d2, .bool na3, .slice A3 n3 c3, .bool nb3, .slice B3 m3 d3] d0 (q8.rangeAt [] (rest := []) rfl) hd1 hd2 info_mom ?_) | (refine wpList_store_mid rfl 34 _ _ rfl (w.heap.size + 1) 0 #[.int .i64 S, .bool nax, .slice Ax nx cx, .bool nbx, .slice Bx mx dx, .bool nay, .slice Ay ny cy, .bool nby, .slice By my dy, .bool na1, .slice A1 n1 c1, .bool nb1, .slice B1 m1 d1, .bool na2, .slice A2 n2 c2, .bool nb2, .slice B2 m2 d2, .bool na3, .slice A3 n3 c3, .bool nb3, .slice B3 m3 d3] rfl rfl (qmz.there (by simp)) info_mom (by simp [Value.oneCell']) ?_; obtain ⟨V9, hV9, hB9, qm9, hst9⟩ := set_all [.int .i64 S, .bool nax, .slice Ax nx cx, .bool nbx, .slice Bx mx dx, .bool nay, .slice Ay ny cy, .bool nby, .slice By my dy, .bool na1, .slice A1 n1 c1, .bool nb1, .slice B1 m1 d1, .bool na2, .slice A2 n2 c2, .bool nb2, .slice B2 m2 d2, .bool na3, .slice A3 n3 c3, .bool nb3, .slice B3 m3 d3] [.int .i64 0, .bool false, .slice none 0 0, .bool false, .slice none 0 0, .bool false, .slice none 0 0, .bool false, .slice none 0 0, .bool false, .slice none 0 0, .bool false, .slice none 0 0, .bool false, .slice none 0 0, .bool false, .slice none 0 0, .bool false, .slice none 0 0, .bool false, .slice none 0 0] rfl rfl rfl hBz (by omega) qmz; rw [hV9]))
    refine bodyPost_ret (results_cell_tmp rfl _ _ (w.heap.size + 1) [.int .i64 S, .bool nax, .slice Ax nx cx, .bool nbx, .slice Bx mx dx, .bool nay, .slice Ay ny cy, .bool nby, .slice By my dy, .bool na1, .slice A1 n1 c1, .bool nb1, .slice B1 m1 d1, .bool na2, .slice A2 n2 c2, .bool nb2, .slice B2 m2 d2, .bool na3, .slice A3 n3 c3, .bool nb3, .slice B3 m3 d3] d0 rfl (qm9.rangeAt [] (rest := []) rfl) hd1 hd2 info_mom) rfl ?_
    refine ⟨fun h => absurd h (by omega), fun _ => ⟨hB9, _, rfl, ?_⟩⟩
    rw [hMo.out]
    exact ⟨_, _, _, _, _, _, _, _, _, _, _, _, _, _, _, _, _, _, _, _, _, _, _, _, _, _, _, _, _, _, _, _, _, _, _, _, _, _, _, _, rfl, (hx.keep hst9.1).fz, (hy.keep hst9.1).fz, (h1.keep hst9.1).fz, (h2.keep hst9.1).fz, (h3.keep hst9.1).fz⟩
end Go.Proofs.YtkippclhbkjbmaaGreat
