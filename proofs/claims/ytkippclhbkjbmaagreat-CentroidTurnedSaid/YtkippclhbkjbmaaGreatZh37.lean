/- Reference of centroid: mean. -/
import Derived.Test.YtkippclhbkjbmaaGreatZh36
import Derived.Test.YtkippclhbkjbmaaGreatZh26
set_option linter.unusedSimpArgs false
set_option linter.unusedVariables false

namespace Go.Proofs.YtkippclhbkjbmaaGreat
open Go.RowKit
attribute [local go_sem] add_lit

def pl (row : Bool) (W : Int) (ps : List Int) (i : Int) : Int := plc row W i * pix ps i
theorem plc_bound {row : Bool} {W H i : Int} {n : Nat} (h : 1 ≤ W ∧ W ≤ 100 ∧ 1 ≤ H ∧ H ≤ 100 ∧ (n : Int) = W * H) (h0 : 0 ≤ i) (h1 : i < n) : 0 ≤ plc row W i ∧ plc row W i ≤ 99 := by
  cases row
  · exact colv_bound h h0 h1
  · exact rowv_bound h h0 h1
theorem mul_rng {p x : Int} (h0 : 0 ≤ p) (h1 : p ≤ 99) (a : -8589934592 ≤ x) (b : x ≤ 8589934592) : -(99 * 8589934592) ≤ p * x ∧ p * x ≤ 99 * 8589934592 := by
  have e1 : (p * x).natAbs ≤ 99 * 8589934592 := by
    rw [Int.natAbs_mul]; exact Nat.mul_le_mul (by omega) (by omega)
  omega
theorem Rng.pl {W H : Int} {ps l : List Int} {n m k : Nat} (row : Bool) (hf : 1 ≤ W ∧ W ≤ 100 ∧ 1 ≤ H ∧ H ≤ 100 ∧ (n : Int) = W * H) (h : Rng ps l n m) (hk : k ≤ m) : -(99 * 8589934592 * (k : Int)) ≤ sumK (pl row W ps) l k ∧ sumK (pl row W ps) l k ≤ 99 * 8589934592 * (k : Int) := by
  induction k with
  | zero => simp [sumK]
  | succ k ih =>
    have h1 := ih (by omega)
    have h2 := h k (by omega)
    have h3 := plc_bound (row := row) hf h2.1 h2.2.1
    have h4 := mul_rng h3.1 h3.2 h2.2.2.1 h2.2.2.2
    simp only [sumK, Go.Proofs.YtkippclhbkjbmaaGreat.pl]
    omega

set_option maxRecDepth 100000 in
set_option maxHeartbeats 2000000 in
theorem mean_ok (W H : Int) (A : Option Addr) (n c : Nat) (B : Option Addr) (m d : Nat) (ps l : List Int) (row : Bool) (s : Int) (w : World) (hp : LimI w A n c ps) (hl : LimI w B m d l) (hf : 1 ≤ W ∧ W ≤ 100 ∧ 1 ≤ H ∧ H ≤ 100 ∧ (n : Int) = W * H) (h8 : m ≤ 1000) (hr : Rng ps l n m) (s0 : 0 < s) (s1 : s ≤ 9223372036854775807) :
    Calls Tryz.prog 35 #[.agg #[.int .i64 W, .int .i64 H, .slice A n c], .slice B m d, .bool row, .int .i64 s] w (FracW w (Rat.divInt (sumK (pl row W ps) l m) s)) := by
  have hmx : Tryz.prog.follows .mixedOrders = true := by kernel_rfl
  have h9 : n ≤ 10000 := by
    have : W * H ≤ 100 * 100 := Int.mul_le_mul hf.2.1 hf.2.2.2.1 (by omega) (by omega)
    omega
  replace hf := hide hf
  obtain ⟨W0, hW0, hB, ⟨q0, q9⟩, sz⟩ := alloc2 w 24 #[.int .i64 W, .int .i64 H, .slice A n c] 32 #[.bool false, .slice none 0 0, .bool false, .slice none 0 0]
  have c0 := q0.cell 0
  have c1 := q0.cell 1
  have c2 := q0.cell 2
  simp at c0 c1 c2
  replace hp := hide (hp.below hB)
  replace hl := hide (hl.below hB)
  go_enter Tryz.func35, Tryz.ntmps35
  go_wp2_with fail
  clear hW0 c0 c1 c2
  go_loopw [9, 10] (fun sv i wr => ∃ k : Nat, k ≤ m ∧ i = .int .i64 k ∧ sv = .int .i64 (sumK (pl row W ps) l k) ∧ Below W0.heap.size W0 wr) (fun _ i _ => m - (intOf i).toNat)
  case atStart => exact ⟨0, by omega, rfl, rfl, Below.refl _ _⟩
  case round =>
    obtain ⟨k, h1, rfl, rfl, hbr⟩ := hrel
    have q0 := keep_blk hbr q0
    have q9 := keep_blk hbr q9
    have hBr := hB.trans (hbr.mono hB.size)
    have hp := hide (hp.out.below hbr)
    have hl := hide (hl.out.below hbr)
    have hb1 := hr.pl (k := k) row hf.out (by omega)
    by_cases hk : k < m
    case neg =>
      obtain rfl : k = m := by omega
      have htk : decide ((k : Int) < (k : Int)) = false := by simp
      go_wp2_with fail
      refine (rOf_pos _ s wr (by omega) (by omega) s0 s1).mono ?_
      rintro e w2 ⟨hb2, na, A2, n2, c2', nb, B2, m2, d2, rfl, hF⟩
      have hB2 := hBr.trans (hb2.mono hBr.size)
      have q9 := keep_blk hb2 q9
      have z2 : w.heap.size + 1 < w2.heap.size := by have := hb2.size; have := hbr.size; omega
      obtain ⟨V, hV, hB3, q3, hk3, hk3', s3⟩ := new_obj 32 #[.bool false, .slice none 0 0, .bool false, .slice none 0 0] hB2 (by omega)
      replace hF := hide (hF.keep hk3)
      replace q9 := hk3' _ _ _ q9
      obtain ⟨y0, y1, y2, y3, z0, z1, z2', z3⟩ := q3.four
      obtain ⟨y0', y1', y2', y3', z0', z1', z2'', z3'⟩ := q9.four
      go_wp2_with fail
      obtain ⟨V2, hV2, hB4, q4, hst⟩ := set_frac na A2 n2 c2' nb B2 m2 d2 hB3 (by omega) q3
      rw [hV2]
      replace hF := hide (hF.out.keep hst.1)
      replace q9 := hst.2.1 _ _ _ (by omega) q9
      obtain ⟨V3, hV3, hB5, q5, hst5⟩ := set_frac na A2 n2 c2' nb B2 m2 d2 hB4 (by omega) q9
      rw [hV3]
      replace hF := hF.out.keep hst5.1
      obtain ⟨r0, r1, r2, r3, -⟩ := q5.four
      refine bodyPost_ret (v := .agg #[.bool na, .slice A2 n2 c2', .bool nb, .slice B2 m2 d2]) (by simp [results, Tryz.results35, go_sem, r0, r1, r2, r3]) rfl ?_
      exact ⟨hB5, _, _, _, _, _, _, _, _, rfl, hF⟩
    have htk : decide ((k : Int) < (m : Int)) = true := by simp; omega
    obtain ⟨g, o, rfl, hc⟩ := hl.out.2.2.2.2 (by omega)
    have hck := hc k hk
    clear hc
    have hS : sumK (pl row W ps) l (k + 1) = sumK (pl row W ps) l k + plc row W (l[k]?.getD 0) * pix ps (l[k]?.getD 0) := rfl
    have hx4 := hr k hk
    obtain ⟨g', o', rfl, hc'⟩ := hp.out.2.2.2.2 (by omega)
    obtain ⟨j, hj⟩ : ∃ j : Nat, l[k]?.getD 0 = j := ⟨(l[k]?.getD 0).toNat, by omega⟩
    have hcj := hc' j (by omega)
    have hpj : pix ps (j : Int) = ps[j]?.getD 0 := by simp [pix]
    rw [hj] at hck hS hx4
    rw [← hpj] at hcj
    have hjn : j < n := by omega
    have hpb := plc_bound (row := row) hf.out hx4.1 hx4.2.1
    have hmb := mul_rng hpb.1 hpb.2 hx4.2.2.1 hx4.2.2.2
    have hpl := fun w => place_ok W H (some ⟨g', o', none⟩) n c (j : Int) row w (by omega) (by omega) hf.out.1 hf.out.2.1
    generalize pix ps (j : Int) = x at *
    generalize plc row W (j : Int) = p at *
    have hmul : wrap64 (p * x) = p * x := by unfold wrap64; omega
    have hadd : wrap64 (sumK (pl row W ps) l k + p * x) = sumK (pl row W ps) l (k + 1) := by rw [hS]; unfold wrap64; omega
    replace hS := hide hS
    replace hb1 := hide hb1
    replace hx4 := hide hx4
    replace hpb := hide hpb
    replace hmb := hide hmb
    replace hj := hide hj
    replace hpl := hide hpl
    have hr' := hide hr
    clear hc' hpj
    have c0 := q0.cell 0
    have c1 := q0.cell 1
    have c2 := q0.cell 2
    simp at c0 c1 c2
    go_wp2_with fail
    refine wp_held [] (fun W' => W'.cell? ⟨w.heap.size, 0, none⟩ = some (.int .i64 W) ∧ W'.cell? ⟨w.heap.size, 1, none⟩ = some (.int .i64 H) ∧ W'.cell? ⟨w.heap.size, 2, none⟩ = some (.slice (some ⟨g', o', none⟩) n c) ∧ W'.cell? ⟨g, o + k, none⟩ = some (.int .i64 j) ∧ W'.cell? ⟨g', o' + j, none⟩ = some (.int .i64 x)) hmx ⟨c0, c1, c2, hck, hcj⟩ (fun _ => ?_)
    refine wpAnyL_take (i := 0) (v := ?v1) rfl (by kernel_rfl) (by kernel_rfl) (by kernel_rfl) (by kernel_rfl) (by kernel_rfl) (Or.inl ⟨by rfl, ?hy1⟩) ⟨c0, c1, c2, hck, hcj⟩ ?rest1
    case hy1 => (intro W2 hSw; (try dsimp only at hSw); go_simp; try with_reducible rfl)
    try simp only [Act.put, List.setIfInBounds_toArray, List.set_cons_zero, List.set_cons_succ]
    refine wpAnyL_take (i := 1) (v := ?v2) rfl (by kernel_rfl) (by kernel_rfl) (by kernel_rfl) (by kernel_rfl) (by kernel_rfl) (Or.inl ⟨by rfl, ?hy2⟩) ⟨c0, c1, c2, hck, hcj⟩ ?rest2
    case hy2 => (intro W2 hSw; (try dsimp only at hSw); go_simp; try with_reducible rfl)
    try simp only [Act.put, List.setIfInBounds_toArray, List.set_cons_zero, List.set_cons_succ]
    refine wpAnyL_take (i := 2) (v := ?v3) rfl (by kernel_rfl) (by kernel_rfl) (by kernel_rfl) (by kernel_rfl) (by kernel_rfl) (Or.inl ⟨by rfl, ?hy3⟩) ⟨c0, c1, c2, hck, hcj⟩ ?rest3
    case hy3 => (intro W2 hSw; (try dsimp only at hSw); go_simp; try with_reducible rfl)
    try simp only [Act.put, List.setIfInBounds_toArray, List.set_cons_zero, List.set_cons_succ]
    refine wpAnyL_take (i := 3) (v := ?v4) rfl (by kernel_rfl) (by kernel_rfl) (by kernel_rfl) (by kernel_rfl) (by kernel_rfl) (Or.inl ⟨by rfl, ?hy4⟩) ⟨c0, c1, c2, hck, hcj⟩ ?rest4
    case hy4 => (intro W2 hSw; (try dsimp only at hSw); go_simp; try with_reducible rfl)
    try simp only [Act.put, List.setIfInBounds_toArray, List.set_cons_zero, List.set_cons_succ]
    refine wpAnyL_take (i := 4) (v := ?v5) rfl (by kernel_rfl) (by kernel_rfl) (by kernel_rfl) (by kernel_rfl) (by kernel_rfl) (Or.inl ⟨by rfl, ?hy5⟩) ⟨c0, c1, c2, hck, hcj⟩ ?rest5
    case hy5 => (intro W2 hSw; (try dsimp only at hSw); go_simp; try with_reducible rfl)
    try simp only [Act.put, List.setIfInBounds_toArray, List.set_cons_zero, List.set_cons_succ]
    refine wpAnyL_take (i := 5) (v := ?v6) rfl (by kernel_rfl) (by kernel_rfl) (by kernel_rfl) (by kernel_rfl) (by kernel_rfl) (Or.inl ⟨by rfl, ?hy6⟩) ⟨c0, c1, c2, hck, hcj⟩ ?rest6
    case hy6 => (intro W2 hSw; (try dsimp only at hSw); go_simp; try with_reducible rfl)
    try simp only [Act.put, List.setIfInBounds_toArray, List.set_cons_zero, List.set_cons_succ]
    refine wpAnyL_take (i := 6) (v := ?v7) rfl (by kernel_rfl) (by kernel_rfl) (by kernel_rfl) (by kernel_rfl) (by kernel_rfl) (Or.inl ⟨by rfl, ?hy7⟩) ⟨c0, c1, c2, hck, hcj⟩ ?rest7
    case hy7 => (intro W2 hSw; (try dsimp only at hSw); go_simp; try with_reducible rfl)
    try simp only [Act.put, List.setIfInBounds_toArray, List.set_cons_zero, List.set_cons_succ]
    refine wpAnyL_take (i := 8) (v := ?v8) rfl (by kernel_rfl) (by kernel_rfl) (by kernel_rfl) (by kernel_rfl) (by kernel_rfl) (Or.inl ⟨by rfl, ?hy8⟩) ⟨c0, c1, c2, hck, hcj⟩ ?rest8
    case hy8 => (intro W2 hSw; (try dsimp only at hSw); go_simp; try with_reducible rfl)
    try simp only [Act.put, List.setIfInBounds_toArray, List.set_cons_zero, List.set_cons_succ]
    refine wpAnyL_take (i := 9) (v := ?v9) rfl (by kernel_rfl) (by kernel_rfl) (by kernel_rfl) (by kernel_rfl) (by kernel_rfl) (Or.inl ⟨by rfl, ?hy9⟩) ⟨c0, c1, c2, hck, hcj⟩ ?rest9
    case hy9 => (intro W2 hSw; (try dsimp only at hSw); go_simp; try with_reducible rfl)
    try simp only [Act.put, List.setIfInBounds_toArray, List.set_cons_zero, List.set_cons_succ]
    refine wpAnyL_take (i := 10) (v := ?v10) rfl (by kernel_rfl) (by kernel_rfl) (by kernel_rfl) (by kernel_rfl) (by kernel_rfl) (Or.inl ⟨by rfl, ?hy10⟩) ⟨c0, c1, c2, hck, hcj⟩ ?rest10
    case hy10 => (intro W2 hSw; (try dsimp only at hSw); go_simp; try with_reducible rfl)
    try simp only [Act.put, List.setIfInBounds_toArray, List.set_cons_zero, List.set_cons_succ]
    refine wpAnyL_take (i := 11) (v := ?v11) rfl (by kernel_rfl) (by kernel_rfl) (by kernel_rfl) (by kernel_rfl) (by kernel_rfl) (Or.inl ⟨by rfl, ?hy11⟩) ⟨c0, c1, c2, hck, hcj⟩ ?rest11
    case hy11 => (intro W2 hSw; (try dsimp only at hSw); go_simp; try with_reducible rfl)
    try simp only [Act.put, List.setIfInBounds_toArray, List.set_cons_zero, List.set_cons_succ]
    refine wpAnyL_take (i := 12) (v := ?v12) rfl (by kernel_rfl) (by kernel_rfl) (by kernel_rfl) (by kernel_rfl) (by kernel_rfl) (Or.inl ⟨by rfl, ?hy12⟩) ⟨c0, c1, c2, hck, hcj⟩ ?rest12
    case hy12 => (intro W2 hSw; (try dsimp only at hSw); go_simp; try with_reducible rfl)
    try simp only [Act.put, List.setIfInBounds_toArray, List.set_cons_zero, List.set_cons_succ]
    refine wpAnyL_take (i := 13) (v := ?v13) rfl (by kernel_rfl) (by kernel_rfl) (by kernel_rfl) (by kernel_rfl) (by kernel_rfl) (Or.inl ⟨by rfl, ?hy13⟩) ⟨c0, c1, c2, hck, hcj⟩ ?rest13
    case hy13 => (intro W2 hSw; (try dsimp only at hSw); go_simp; try with_reducible rfl)
    try simp only [Act.put, List.setIfInBounds_toArray, List.set_cons_zero, List.set_cons_succ]
    refine wpAnyL_take (i := 14) (v := ?v14) rfl (by kernel_rfl) (by kernel_rfl) (by kernel_rfl) (by kernel_rfl) (by kernel_rfl) (Or.inl ⟨by rfl, ?hy14⟩) ⟨c0, c1, c2, hck, hcj⟩ ?rest14
    case hy14 => (intro W2 hSw; (try dsimp only at hSw); go_simp; try with_reducible rfl)
    try simp only [Act.put, List.setIfInBounds_toArray, List.set_cons_zero, List.set_cons_succ]
    refine wpAnyL_take (i := 15) (v := ?v15) rfl (by kernel_rfl) (by kernel_rfl) (by kernel_rfl) (by kernel_rfl) (by kernel_rfl) (Or.inl ⟨by rfl, ?hy15⟩) ⟨c0, c1, c2, hck, hcj⟩ ?rest15
    case hy15 => (intro W2 hSw; (try dsimp only at hSw); go_simp; try with_reducible rfl)
    try simp only [Act.put, List.setIfInBounds_toArray, List.set_cons_zero, List.set_cons_succ]
    refine wpAnyL_one (i := 7) rfl (by kernel_rfl) (fun K hK => ?_)
    go_simp
    refine (hpl.out _).mono ?_
    rintro e w1 ⟨rfl, hb1⟩
    replace hb1 := below_drewL hb1
    have q0 := keep_blk hb1 q0
    have hp := hide (hp.out.below hb1)
    have hl := hide (hl.out.below hb1)
    have hck : w1.cell? ⟨g, o + k, none⟩ = some (.int .i64 j) := (hb1.cell (lt_of_cell hck)).trans hck
    have hcj : w1.cell? ⟨g', o' + j, none⟩ = some (.int .i64 x) := (hb1.cell (lt_of_cell hcj)).trans hcj
    have c0 := q0.cell 0
    have c1 := q0.cell 1
    have c2 := q0.cell 2
    simp at c0 c1 c2
    have hbr2 := hbr.trans (hb1.mono hbr.size)
    refine hK.out _ _ (fun _ => ⟨c0, c1, c2, hck, hcj⟩) ?_
    clear hK K
    try simp only [Act.put, List.setIfInBounds_toArray, List.set_cons_zero, List.set_cons_succ]
    refine wpAnyL_take (i := 16) (v := ?v16) rfl (by kernel_rfl) (by kernel_rfl) (by kernel_rfl) (by kernel_rfl) (by kernel_rfl) (Or.inl ⟨by rfl, ?hy16⟩) ⟨c0, c1, c2, hck, hcj⟩ ?rest16
    case hy16 => (intro W2 hSw; (try dsimp only at hSw); go_simp; try with_reducible rfl)
    try simp only [Act.put, List.setIfInBounds_toArray, List.set_cons_zero, List.set_cons_succ]
    refine wpAnyL_take (i := 17) (v := ?v17) rfl (by kernel_rfl) (by kernel_rfl) (by kernel_rfl) (by kernel_rfl) (by kernel_rfl) (Or.inl ⟨by rfl, ?hy17⟩) ⟨c0, c1, c2, hck, hcj⟩ ?rest17
    case hy17 => (intro W2 hSw; (try dsimp only at hSw); go_simp; try with_reducible rfl)
    try simp only [Act.put, List.setIfInBounds_toArray, List.set_cons_zero, List.set_cons_succ]
    refine wpAnyL_take (i := 18) (v := ?v18) rfl (by kernel_rfl) (by kernel_rfl) (by kernel_rfl) (by kernel_rfl) (by kernel_rfl) (Or.inl ⟨by rfl, ?hy18⟩) ⟨c0, c1, c2, hck, hcj⟩ ?rest18
    case hy18 => (intro W2 hSw; (try dsimp only at hSw); go_simp; try with_reducible rfl)
    try simp only [Act.put, List.setIfInBounds_toArray, List.set_cons_zero, List.set_cons_succ]
    refine wpAnyL_done (by kernel_rfl) ?_ _
    refine OnlyNormal.normal ?_
    go_wp2_with fail
    go_round
    case rel => exact ⟨k + 1, by omega, by go_num, by rw [hmul, hadd], by first | exact hbr2 | exact below_dn hbr2 1⟩
    case measure => simp [intOf]; omega
end Go.Proofs.YtkippclhbkjbmaaGreat
