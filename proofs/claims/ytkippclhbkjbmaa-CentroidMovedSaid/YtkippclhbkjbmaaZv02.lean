/- The law's body: CentroidMoved returns true. Arguments opened: a field, a list of numbers. The law CentroidMoved holds: for every input it returns true, and each argument reads as before. -/
import Derived.Laws.Rows
import Derived.ProofKit
import Derived.Deep.Slices
import Derived.Deep.Fields
import Derived.ChangeSame
import Derived.Test.YtkippclhbkjbmaaProg
import Derived.Test.YtkippclhbkjbmaaRows
import Derived.Carry
import Derived.Test.YtkippclhbkjbmaaZn51
import Derived.Test.YtkippclhbkjbmaaZv01
import Derived.Test.YtkippclhbkjbmaaZn53
import Derived.Test.YtkippclhbkjbmaaZn19
set_option linter.unusedSimpArgs false
set_option linter.unusedVariables false

namespace Go.Proofs.Ytkippclhbkjbmaa
open Go.RowKit
attribute [local go_sem] add_lit

set_option maxRecDepth 100000 in
set_option maxHeartbeats 16000000 in
theorem law_moved (W H : Int) (A : Option Addr) (n c : Nat) (B : Option Addr) (m d : Nat) (ps l : List Int) (dx dy : Int) (w : World) (hp : LimI w A n c ps) (hl : LimI w B m d l) (iW : I64 W) (iH : I64 H) :
    Calls Try.prog 5 #[.agg #[.int .i64 W, .int .i64 H, .slice A n c], .slice B m d, .int .i64 dx, .int .i64 dy] w fun e w' => e = .returned (.bool true) ∧ Below w.heap.size w w' := by
  have hmx : Try.prog.follows .mixedOrders = true := by kernel_rfl
  obtain ⟨W0, hW0, hB, q0, s0⟩ := alloc1 w 24 #[.int .i64 W, .int .i64 H, .slice A n c]
  have hlm : l.length = m := hl.lenI
  have hpl : ps.length = n := hp.lenI
  replace hp := hide hp
  replace hl := hide hl
  go_enter Try.func5, Try.ntmps5
  go_wp2_with fail
  refine (alive_ok W0).mono ?_
  rintro e w1 ⟨rfl, hbw⟩
  replace hB := hB.trans (hbw.mono hB.size)
  replace q0 := keep_blk hbw q0
  clear hW0 hbw s0
  have c0 := q0.cell 0
  have c1 := q0.cell 1
  have c2 := q0.cell 2
  simp at c0 c1 c2
  obtain ⟨b, hb⟩ : ∃ b, (!(decide (100 < (n : Int)) || decide (40 < (m : Int))) && decide (startE W H n ps l = 0)) = b := ⟨_, rfl⟩
  go_wp2_with fail
  refine (valid_any W H A n c B m d ps l w1 (hp.out.below hB) (hl.out.below hB) iW iH b hb).mono ?_
  rintro e w2 ⟨rfl, hbw⟩
  replace hB := hB.trans (hbw.mono hB.size)
  replace q0 := keep_blk hbw q0
  clear hbw c0 c1 c2
  cases b
  case false =>
    go_wp2_with fail
    go_ret
    exact ⟨rfl, hB⟩
  simp at hb
  obtain ⟨⟨h9, h8⟩, hE⟩ := hb
  replace h9 : n ≤ 100 := by omega
  replace h8 : m ≤ 40 := by omega
  obtain ⟨hfo, hli⟩ := startE_zero hE
  have hf := fieldOk_size hfo
  have hr := rng_of hfo hli hlm
  have hdis : ∀ i j, i < j → j < m → l[i]?.getD 0 < l[j]?.getD 0 := fun i j hi hj => listed_incr hli i j hi (by omega)
  have hpx : ∀ k, k < m → (pix ps (l[k]?.getD 0)).natAbs ≤ 4294967296 := fun k hk => by
    have h := listed_in hli (k := k) (by omega)
    have h2 := fieldOk_pix hfo h.1 h.2
    omega
  have hm0 : 0 < m := by rw [← hlm]; exact listed_pos hli
  have hn0 : 0 < n := by
    have h := listed_in hli (k := 0) (by omega)
    omega
  have hps : psum ps l = sumK (pix ps) l m := by unfold psum; rw [hlm]
  replace hlm := hide hlm
  replace hpl := hide hpl
  replace hf := hide hf
  replace hr := hide hr
  replace hdis := hide hdis
  replace hpx := hide hpx
  replace hli := hide hli
  replace hfo := hide hfo
  have hin : Hid (∀ k, k < m → 0 ≤ l[k]?.getD 0 ∧ l[k]?.getD 0 < n) := hide (fun k hk => listed_in hli.out (by have := hlm.out; omega))
  by_cases o1 : dx < 0
  · have t_o1 : decide (dx < 0) = true := by simpa using o1
    go_wp2_with fail
    go_ret
    exact ⟨rfl, hB⟩
  have t_o1 : decide (dx < 0) = false := by simpa using o1
  by_cases o2 : 9 < dx
  · have t_o2 : decide (9 < dx) = true := by simpa using o2
    go_wp2_with fail
    go_ret
    exact ⟨rfl, hB⟩
  have t_o2 : decide (9 < dx) = false := by simpa using o2
  by_cases o3 : dy < 0
  · have t_o3 : decide (dy < 0) = true := by simpa using o3
    go_wp2_with fail
    go_ret
    exact ⟨rfl, hB⟩
  have t_o3 : decide (dy < 0) = false := by simpa using o3
  by_cases o4 : 9 < dy
  · have t_o4 : decide (9 < dy) = true := by simpa using o4
    go_wp2_with fail
    go_ret
    exact ⟨rfl, hB⟩
  have t_o4 : decide (9 < dy) = false := by simpa using o4
  have hf0 := hf.out
  obtain ⟨W2, hW2⟩ : ∃ W2, W + dx = W2 := ⟨_, rfl⟩
  obtain ⟨H2, hH2⟩ : ∃ H2, H + dy = H2 := ⟨_, rfl⟩
  have hwW : IntKind.i64.wrap (W + dx) = W2 := by rw [wrI (by omega), hW2]
  have hwW' : wrap64 (W + dx) = W2 := by rw [wrapS (by omega), hW2]
  have hwH : IntKind.i64.wrap (H + dy) = H2 := by rw [wrI (by omega), hH2]
  have hwH' : wrap64 (H + dy) = H2 := by rw [wrapS (by omega), hH2]
  have b1 : 0 ≤ W2 ∧ W2 ≤ 109 ∧ 0 ≤ H2 ∧ H2 ≤ 109 := by omega
  replace hW2 := hide hW2
  replace hH2 := hide hH2
  replace hf0 := hide hf0
  replace b1 := hide b1
  have c0 := q0.cell 0
  have c1 := q0.cell 1
  have c2 := q0.cell 2
  simp at c0 c1 c2
  by_cases o5 : 100 < W2
  · have t_o5 : decide (100 < W2) = true := by simpa using o5
    go_wp2_with fail
    go_ret
    exact ⟨rfl, hB⟩
  have t_o5 : decide (100 < W2) = false := by simpa using o5
  by_cases o6 : 100 < H2
  · have t_o6 : decide (100 < H2) = true := by simpa using o6
    go_wp2_with fail
    go_ret
    exact ⟨rfl, hB⟩
  have t_o6 : decide (100 < H2) = false := by simpa using o6
  obtain ⟨N, hN⟩ : ∃ N : Nat, (N : Int) = W2 * H2 := ⟨(W2 * H2).toNat, Int.toNat_of_nonneg (Int.mul_nonneg b1.out.1 b1.out.2.2.1)⟩
  have hN9 : N ≤ 10000 := by
    have : W2 * H2 ≤ 100 * 100 := Int.mul_le_mul (by omega) (by omega) b1.out.2.2.1 (by omega)
    omega
  have hwN : IntKind.i64.wrap (W2 * H2) = (N : Int) := by rw [← hN, wrI (by omega)]
  have hwN' : wrap64 (W2 * H2) = (N : Int) := by rw [← hN, wrapS (by omega)]
  have hN' : Hid ((N : Int) = (W + dx) * (H + dy)) := hide (by rw [hW2.out, hH2.out]; exact hN)
  replace hN := hide hN
  obtain ⟨i0, hi, hz0, hz1, hz2⟩ := info_parts infoL
  have hmk := makeL (P := Try.prog) 22 2 Try.underlying22 hi hz0 hz1 hz2 N (by omega)
  replace hmk := hide hmk
  obtain ⟨il, hj0, hjz0, hjz1, hjz2⟩ := info_parts infoL2
  obtain ⟨E, hEE⟩ : ∃ E, momE' ps l = E := ⟨_, rfl⟩
  obtain ⟨M, hMM⟩ : ∃ M, momM' W ps l = M := ⟨_, rfl⟩
  go_wp2_with fail
  refine (moments_any W H A n c B m d ps l w2 (hp.out.below hB) (hl.out.below hB) h8 iW iH hE E M hEE hMM).mono ?_
  rintro e w3 ⟨hb3, csM, rfl, hFm⟩
  clear c0 c1 c2
  replace hB := hB.trans (hb3.mono hB.size)
  replace q0 := keep_blk hb3 q0
  obtain ⟨pn0, pA0, pk0, pc0, pm0, pB0, pj0, pd0, pn1, pA1, pk1, pc1, pm1, pB1, pj1, pd1, pn2, pA2, pk2, pc2, pm2, pB2, pj2, pd2, pn3, pA3, pk3, pc3, pm3, pB3, pj3, pd3, pn4, pA4, pk4, pc4, pm4, pB4, pj4, pd4, rfl, f0, f1, f2, f3, f4⟩ := hFm
  replace hMM := hide hMM
  replace hEE := hide hEE
  replace hE := hide hE
  replace f0 := hide f0
  replace f1 := hide f1
  replace f2 := hide f2
  replace f3 := hide f3
  replace f4 := hide f4
  obtain ⟨sv, hsv⟩ : ∃ sv, M.s = sv := ⟨_, rfl⟩
  rw [hsv]
  replace hsv := hide hsv
  have hBw3 : w.heap.size ≤ w3.heap.size := hB.size
  obtain ⟨V3, hV3, hB3, q6, -, -, -⟩ := new_obj 31 #[.int .i64 0, .bool false, .slice none 0 0, .bool false, .slice none 0 0, .bool false, .slice none 0 0, .bool false, .slice none 0 0, .bool false, .slice none 0 0, .bool false, .slice none 0 0, .bool false, .slice none 0 0, .bool false, .slice none 0 0, .bool false, .slice none 0 0, .bool false, .slice none 0 0] (Below.refl w3.heap.size w3) (Nat.le_refl _)
  obtain ⟨V4, hV4, hB4, qm, -⟩ := set_all [.int .i64 sv, .bool pn0, .slice pA0 pk0 pc0, .bool pm0, .slice pB0 pj0 pd0, .bool pn1, .slice pA1 pk1 pc1, .bool pm1, .slice pB1 pj1 pd1, .bool pn2, .slice pA2 pk2 pc2, .bool pm2, .slice pB2 pj2 pd2, .bool pn3, .slice pA3 pk3 pc3, .bool pm3, .slice pB3 pj3 pd3, .bool pn4, .slice pA4 pk4 pc4, .bool pm4, .slice pB4 pj4 pd4] [.int .i64 0, .bool false, .slice none 0 0, .bool false, .slice none 0 0, .bool false, .slice none 0 0, .bool false, .slice none 0 0, .bool false, .slice none 0 0, .bool false, .slice none 0 0, .bool false, .slice none 0 0, .bool false, .slice none 0 0, .bool false, .slice none 0 0, .bool false, .slice none 0 0] rfl rfl rfl hB3 (Nat.le_refl _) q6
  replace hB := hB.trans (hB4.mono hB.size)
  replace q0 := keep_blk hB4 q0
  replace f0 := hide (f0.out.below hB4)
  replace f1 := hide (f1.out.below hB4)
  replace f2 := hide (f2.out.below hB4)
  replace f3 := hide (f3.out.below hB4)
  replace f4 := hide (f4.out.below hB4)
  go_wp2_with (refine wpList_store_mid rfl 31 _ _ rfl w3.heap.size 0 #[.int .i64 sv, .bool pn0, .slice pA0 pk0 pc0, .bool pm0, .slice pB0 pj0 pd0, .bool pn1, .slice pA1 pk1 pc1, .bool pm1, .slice pB1 pj1 pd1, .bool pn2, .slice pA2 pk2 pc2, .bool pm2, .slice pB2 pj2 pd2, .bool pn3, .slice pA3 pk3 pc3, .bool pm3, .slice pB3 pj3 pd3, .bool pn4, .slice pA4 pk4 pc4, .bool pm4, .slice pB4 pj4 pd4] rfl rfl (q6.there (by simp)) info_mom (by simp [Value.oneCell']) ?_; rw [hV4])
  clear hV3 hV4 hB3 hB4 q6 hb3
  generalize w3.heap.size = g10 at *
  have hgm := qm.lt
  have hSf : ∀ wx, Below V4.heap.size V4 wx → wx.cell? ⟨w.heap.size, 0, none⟩ = some (.int .i64 W) ∧ wx.cell? ⟨w.heap.size, 1, none⟩ = some (.int .i64 H) ∧ wx.cell? ⟨w.heap.size, 2, none⟩ = some (.slice A n c) := fun wx hbx => by
    have e0 := (keep_blk hbx q0).cell 0
    have e1 := (keep_blk hbx q0).cell 1
    have e2 := (keep_blk hbx q0).cell 2
    simp at e0 e1 e2
    exact ⟨e0, e1, e2⟩
  replace hSf := hide hSf
  have hBl : ∀ wx, Below V4.heap.size V4 wx → Below w.heap.size w wx := fun wx hbx => hB.trans (hbx.mono hB.size)
  replace hBl := hide hBl
  have hb8 : Below V4.heap.size V4 V4.drew := below_dn (Below.refl _ _) 1
  replace qm := hide qm
  replace q0 := hide q0
  refine wp_held [] (fun wx => wx.cell? ⟨w.heap.size, 0, none⟩ = some (.int .i64 W) ∧ wx.cell? ⟨w.heap.size, 1, none⟩ = some (.int .i64 H) ∧ wx.cell? ⟨w.heap.size, 2, none⟩ = some (.slice A n c)) hmx (hSf.out _ hb8) (fun _ => ?_)
  refine wpAnyL_take (i := 0) (v := ?v1) rfl (by kernel_rfl) (by kernel_rfl) (by kernel_rfl) (by kernel_rfl) (by kernel_rfl) (Or.inl ⟨by rfl, ?hy1⟩) (hSf.out _ hb8) ?rest1
  case hy1 => (intro W2 hSw; (try dsimp only at hSw); go_simp; try with_reducible rfl)
  try simp only [Act.put, List.setIfInBounds_toArray, List.set_cons_zero, List.set_cons_succ]
  refine wpAnyL_take (i := 1) (v := ?v2) rfl (by kernel_rfl) (by kernel_rfl) (by kernel_rfl) (by kernel_rfl) (by kernel_rfl) (Or.inl ⟨by rfl, ?hy2⟩) (hSf.out _ hb8) ?rest2
  case hy2 => (intro W2 hSw; (try dsimp only at hSw); go_simp; try with_reducible rfl)
  try simp only [Act.put, List.setIfInBounds_toArray, List.set_cons_zero, List.set_cons_succ]
  refine wpAnyL_take (i := 2) (v := ?v3) rfl (by kernel_rfl) (by kernel_rfl) (by kernel_rfl) (by kernel_rfl) (by kernel_rfl) (Or.inl ⟨by rfl, ?hy3⟩) (hSf.out _ hb8) ?rest3
  case hy3 => (intro W2 hSw; (try dsimp only at hSw); go_simp; try with_reducible rfl)
  try simp only [Act.put, List.setIfInBounds_toArray, List.set_cons_zero, List.set_cons_succ]
  refine wpAnyL_take (i := 3) (v := ?v4) rfl (by kernel_rfl) (by kernel_rfl) (by kernel_rfl) (by kernel_rfl) (by kernel_rfl) (Or.inl ⟨by rfl, ?hy4⟩) (hSf.out _ hb8) ?rest4
  case hy4 => (intro W2 hSw; (try dsimp only at hSw); go_simp; try with_reducible rfl)
  try simp only [Act.put, List.setIfInBounds_toArray, List.set_cons_zero, List.set_cons_succ]
  refine wpAnyL_take (i := 4) (v := ?v5) rfl (by kernel_rfl) (by kernel_rfl) (by kernel_rfl) (by kernel_rfl) (by kernel_rfl) (Or.inl ⟨by rfl, ?hy5⟩) (hSf.out _ hb8) ?rest5
  case hy5 => (intro W2 hSw; (try dsimp only at hSw); go_simp; try with_reducible rfl)
  try simp only [Act.put, List.setIfInBounds_toArray, List.set_cons_zero, List.set_cons_succ]
  refine wpAnyL_take (i := 5) (v := ?v6) rfl (by kernel_rfl) (by kernel_rfl) (by kernel_rfl) (by kernel_rfl) (by kernel_rfl) (Or.inl ⟨by rfl, ?hy6⟩) (hSf.out _ hb8) ?rest6
  case hy6 => (intro W2 hSw; (try dsimp only at hSw); go_simp; try with_reducible rfl)
  try simp only [Act.put, List.setIfInBounds_toArray, List.set_cons_zero, List.set_cons_succ]
  refine wpAnyL_take (i := 6) (v := ?v7) rfl (by kernel_rfl) (by kernel_rfl) (by kernel_rfl) (by kernel_rfl) (by kernel_rfl) (Or.inl ⟨by rfl, ?hy7⟩) (hSf.out _ hb8) ?rest7
  case hy7 => (intro W2 hSw; (try dsimp only at hSw); go_simp; try with_reducible rfl)
  try simp only [Act.put, List.setIfInBounds_toArray, List.set_cons_zero, List.set_cons_succ]
  refine wpAnyL_take (i := 7) (v := ?v8) rfl (by kernel_rfl) (by kernel_rfl) (by kernel_rfl) (by kernel_rfl) (by kernel_rfl) (Or.inl ⟨by rfl, ?hy8⟩) (hSf.out _ hb8) ?rest8
  case hy8 => (intro W2 hSw; (try dsimp only at hSw); go_simp; try with_reducible rfl)
  try simp only [Act.put, List.setIfInBounds_toArray, List.set_cons_zero, List.set_cons_succ]
  refine wpAnyL_take (i := 8) (v := ?v9) rfl (by kernel_rfl) (by kernel_rfl) (by kernel_rfl) (by kernel_rfl) (by kernel_rfl) (Or.inl ⟨by rfl, ?hy9⟩) (hSf.out _ hb8) ?rest9
  case hy9 => (intro W2 hSw; (try dsimp only at hSw); go_simp; try with_reducible rfl)
  try simp only [Act.put, List.setIfInBounds_toArray, List.set_cons_zero, List.set_cons_succ]
  refine wpAnyL_take (i := 9) (v := ?v10) rfl (by kernel_rfl) (by kernel_rfl) (by kernel_rfl) (by kernel_rfl) (by kernel_rfl) (Or.inl ⟨by rfl, ?hy10⟩) (hSf.out _ hb8) ?rest10
  case hy10 => (intro W2 hSw; (try dsimp only at hSw); go_simp; try with_reducible rfl)
  try simp only [Act.put, List.setIfInBounds_toArray, List.set_cons_zero, List.set_cons_succ]
  refine wpAnyL_take (i := 10) (v := ?v11) rfl (by kernel_rfl) (by kernel_rfl) (by kernel_rfl) (by kernel_rfl) (by kernel_rfl) (Or.inl ⟨by rfl, ?hy11⟩) (hSf.out _ hb8) ?rest11
  case hy11 => (intro W2 hSw; (try dsimp only at hSw); go_simp; try with_reducible rfl)
  try simp only [Act.put, List.setIfInBounds_toArray, List.set_cons_zero, List.set_cons_succ]
  refine wpAnyL_take (i := 11) (v := ?v12) rfl (by kernel_rfl) (by kernel_rfl) (by kernel_rfl) (by kernel_rfl) (by kernel_rfl) (Or.inl ⟨by rfl, ?hy12⟩) (hSf.out _ hb8) ?rest12
  case hy12 => (intro W2 hSw; (try dsimp only at hSw); go_simp; try with_reducible rfl)
  try simp only [Act.put, List.setIfInBounds_toArray, List.set_cons_zero, List.set_cons_succ]
  refine wpAnyL_take (i := 12) (v := ?v13) rfl (by kernel_rfl) (by kernel_rfl) (by kernel_rfl) (by kernel_rfl) (by kernel_rfl) (Or.inl ⟨by rfl, ?hy13⟩) (hSf.out _ hb8) ?rest13
  case hy13 => (intro W2 hSw; (try dsimp only at hSw); go_simp; try with_reducible rfl)
  try simp only [Act.put, List.setIfInBounds_toArray, List.set_cons_zero, List.set_cons_succ]
  refine wpAnyL_take (i := 13) (v := ?v14) rfl (by kernel_rfl) (by kernel_rfl) (by kernel_rfl) (by kernel_rfl) (by kernel_rfl) (Or.inl ⟨by rfl, ?hy14⟩) (hSf.out _ hb8) ?rest14
  case hy14 => (intro W2 hSw; (try dsimp only at hSw); go_simp; try with_reducible rfl)
  try simp only [Act.put, List.setIfInBounds_toArray, List.set_cons_zero, List.set_cons_succ]
  refine wpAnyL_take (i := 14) (v := ?v15) rfl (by kernel_rfl) (by kernel_rfl) (by kernel_rfl) (by kernel_rfl) (by kernel_rfl) (Or.inl ⟨by rfl, ?hy15⟩) (hSf.out _ hb8) ?rest15
  case hy15 => (intro W2 hSw; (try dsimp only at hSw); go_simp; try with_reducible rfl)
  try simp only [Act.put, List.setIfInBounds_toArray, List.set_cons_zero, List.set_cons_succ]
  refine wpAnyL_take (i := 15) (v := ?v16) rfl (by kernel_rfl) (by kernel_rfl) (by kernel_rfl) (by kernel_rfl) (by kernel_rfl) (Or.inl ⟨by rfl, ?hy16⟩) (hSf.out _ hb8) ?rest16
  case hy16 => (intro W2 hSw; (try dsimp only at hSw); go_simp; try with_reducible rfl)
  try simp only [Act.put, List.setIfInBounds_toArray, List.set_cons_zero, List.set_cons_succ]
  refine wpAnyL_take (i := 16) (v := ?v17) rfl (by kernel_rfl) (by kernel_rfl) (by kernel_rfl) (by kernel_rfl) (by kernel_rfl) (Or.inl ⟨by rfl, ?hy17⟩) (hSf.out _ hb8) ?rest17
  case hy17 => (intro W2 hSw; (try dsimp only at hSw); go_simp; try with_reducible rfl)
  try simp only [Act.put, List.setIfInBounds_toArray, List.set_cons_zero, List.set_cons_succ]
  refine wpAnyL_trioG 17 19 18 88 12 89 1 2 24 (fun g => .slice (some ⟨g, 0, none⟩) N N) (fun g => .pointer (some ⟨g, 0, none⟩)) (fun g => .agg #[.int .i64 W2, .int .i64 H2, .slice (some ⟨g, 0, none⟩) N N]) (List.replicate N (Value.int .i64 0)).toArray #[.int .i64 0, .int .i64 0, .slice none 0 0] (fun a => a.tmps[74]?.getD undef = .int .i64 W2 ∧ a.tmps[78]?.getD undef = .int .i64 H2 ∧ a.tmps[87]?.getD undef = .int .i64 N) (fun x y z => ⟨by kernel_rfl, by kernel_rfl, by kernel_rfl⟩) (by decide) (by decide) (by decide) (by decide) (by decide) (by kernel_rfl) (by kernel_rfl) (by kernel_rfl) (by kernel_rfl) (by kernel_rfl) (by simp) (by simp) (by simp) (fun wx hbx => hSf.out _ (hb8.trans (hbx.mono hb8.size))) ?hA1 ?hA2 ?hA3 ?_
  case hA1 => (clear hSf hBl hb8; intro K a' w' hGa h; obtain ⟨e74, e78, e87⟩ := hGa; refine wpOp_shut (i := 17) rfl (fun K2 hK2 => ?_); go_simp; simp only [e87, hmk.out]; go_simp; exact hK2.out _ _ h)
  case hA2 => (intro K a' w' h; refine wpOp_shut (i := 19) rfl (fun K2 hK2 => ?_); go_simp; exact hK2.out _ _ h)
  case hA3 => (clear hSf hBl hb8; intro K a' g w' hGa e88 h; obtain ⟨e74, e78, e87⟩ := hGa; refine wpOp_shut (i := 18) rfl (fun K2 hK2 => ?_); go_simp; (try simp only [e74, e78, e88]); (try go_simp); exact hK2.out _ _ h)
  intro ga h1 we hbe k1 k2 j1 j2 hgh hlt
  clear hmk hi hz0 hz1 hz2 hwN hwN'
  have hbe8 := hb8.trans (hbe.mono hb8.size)
  have hsz8 := hb8.size
  try simp only [puts3, puts, Act.put, List.setIfInBounds_toArray, List.set_cons_zero, List.set_cons_succ]
  have y0 := k2.cell 0
  have y1 := k2.cell 1
  have y2 := k2.cell 2
  simp at y0 y1 y2
  have z0 := k2.frozen 0
  have z1 := k2.frozen 1
  have z2 := k2.frozen 2
  refine (set_all [.int .i64 W2, .int .i64 H2, .slice (some ⟨ga, 0, none⟩) N N] [.int .i64 0, .int .i64 0, .slice none 0 0] rfl rfl rfl hbe8 (Nat.le_trans hsz8 j2) k2).elim (fun V hq => ?_)
  have hV := hq.1
  have hBV := hq.2.1
  have r2 := hq.2.2.1
  clear hq
  have fa : V.heap[ga]? = we.heap[ga]? := by rw [← hV]; exact setCells_far _ _ _ _ _ hgh
  have hszV : we.heap.size = V.heap.size := by rw [← hV]; simp [World.setCells]
  simp only [World.setCells, Nat.reduceAdd, Nat.zero_add] at hV
  have hMa : MutI V ga (movP W dx dy ps l N 0) := MutI.blk (MutI.of_rep k1) fa
  refine nameL V.heap.size (fun g0 hg0 => ?_)
  have hG : Hid (ga < g0 ∧ h1 < g0 ∧ V4.heap.size ≤ ga ∧ V4.heap.size ≤ h1 ∧ ga ≠ h1 ∧ V4.heap.size ≤ g0) := hide ⟨by omega, by omega, by omega, by omega, hgh, by omega⟩
  have hg0' : g0 ≤ V.heap.size := by omega
  refine wpAnyL_one (i := 20) rfl (by kernel_rfl) (fun K hK => ?_)
  go_simp
  (try rw [hV])
  refine hK.out _ _ (fun _ => hSf.out _ hBV) ?_
  clear hK K y0 y1 y2 z0 z1 z2 hV fa k1 k2 hbe hbe8 j1 j2 hlt hgh hszV hg0
  try simp only [Act.put, List.setIfInBounds_toArray, List.set_cons_zero, List.set_cons_succ]
  refine wpAnyL_done (by kernel_rfl) ?_ _
  refine OnlyNormal.normal ?_
  go_wp2_with fail
  go_loopw [13, 14, 15] (fun mv pv iv wx => ∃ k : Nat, k ≤ m ∧ iv = .int .i64 k ∧ pv = .bool (posK ps l k) ∧ Below V4.heap.size V4 wx ∧ g0 ≤ wx.heap.size ∧ Blk wx h1 24 #[.int .i64 W2, .int .i64 H2, .slice (some ⟨ga, 0, none⟩) N N] ∧ MutI wx ga (movP W dx dy ps l N k) ∧ OwnI 3 wx g0 mv (movd W dx dy l k)) (fun _ _ iv _ => m - (intOf iv).toNat)
  case atStart => exact ⟨0, by omega, rfl, rfl, hBV, hg0', r2, hMa, ⟨World.ownsRow_nil _ _ _ _, by simp [movd]⟩⟩
  case round =>
    clear hBV r2 hMa hg0'
    obtain ⟨k, hk1, rfl, rfl, hbr, hg0r, r2, hMa, hO⟩ := hrel
    obtain ⟨x0, x1, x2⟩ := hSf.out _ hbr
    by_cases hk : k < m
    case neg =>
      obtain rfl : m = k := by omega
      have htk : decide ((m : Int) < (m : Int)) = false := by simp
      obtain ⟨A3, c3, rfl, hLT⟩ := hO.lim
      rw [movd_length] at hLT ⊢
      have hIG : ∀ x ∈ movP W dx dy ps l N m, I64 x := movP_mem (by unfold I64; omega) hp.out.2.2.2.1 m
      have hLa : LimI wr (some ⟨ga, 0, none⟩) N N (movP W dx dy ps l N m) := LimI.of_mut hMa (movP_length ..) (Nat.le_refl _) (by simp only [maxLen]; omega) hIG
      have hEt : startE W2 H2 N (movP W dx dy ps l N m) (movd W dx dy l m) = 0 := by
        rw [← hW2.out, ← hH2.out]
        exact start_moved hm0 hpl.out hfo.out (by omega) (by omega) (by rw [hW2.out]; omega) (by rw [hH2.out]; omega) hN'.out hin.out hdis.out
      have hps2 : psum (movP W dx dy ps l N m) (movd W dx dy l m) = psum ps l := psum_moved hlm.out hf.out (by omega) (by omega) hN'.out hin.out hdis.out
      have hE2 : momE' (movP W dx dy ps l N m) (movd W dx dy l m) = E := by unfold momE'; rw [hps2]; exact hEE.out
      obtain ⟨pos, hpos⟩ : ∃ b, posK ps l m = b := ⟨_, rfl⟩
      rw [hpos]
      replace hpos := hide hpos
      have iW2 : I64 W2 := by have := b1.out; unfold I64; omega
      have iH2 : I64 H2 := by have := b1.out; unfold I64; omega
      clear hIG hO hMa x0 x1 x2
      have c0 := r2.cell 0
      have c1 := r2.cell 1
      have c2 := r2.cell 2
      simp at c0 c1 c2
      have hf0' := hf.out
      by_cases hs0 : psum ps l ≤ 0
      case pos =>
        have hz : E = 18 := by rw [← hEE.out]; unfold momE'; rw [if_pos hs0]
        subst hz
        have hM2 : momM' W2 (movP W dx dy ps l N m) (movd W dx dy l m) = Mom.zero := by unfold momM'; rw [hps2, if_pos hs0]
        go_wp2_with fail
        refine (moments_any W2 H2 (some ⟨ga, 0, none⟩) N N A3 m c3 _ _ wr hLa hLT h8 iW2 iH2 hEt 18 Mom.zero hE2 hM2).mono ?_
        rintro e w5 ⟨hb5, csN, rfl, hFn⟩
        clear c0 c1 c2
        obtain ⟨sn0, sA0, sk0, sc0, sm0, sB0, sj0, sd0, sn1, sA1, sk1, sc1, sm1, sB1, sj1, sd1, sn2, sA2, sk2, sc2, sm2, sB2, sj2, sd2, sn3, sA3, sk3, sc3, sm3, sB3, sj3, sd3, sn4, sA4, sk4, sc4, sm4, sB4, sj4, sd4, rfl, -, -, -, -, -⟩ := hFn
        obtain ⟨V7, hV7, hB7, q17, -, -, -⟩ := new_obj 31 #[.int .i64 0, .bool false, .slice none 0 0, .bool false, .slice none 0 0, .bool false, .slice none 0 0, .bool false, .slice none 0 0, .bool false, .slice none 0 0, .bool false, .slice none 0 0, .bool false, .slice none 0 0, .bool false, .slice none 0 0, .bool false, .slice none 0 0, .bool false, .slice none 0 0] (Below.refl w5.heap.size w5) (Nat.le_refl _)
        obtain ⟨U7, hU7, hC7, q17b, -⟩ := set_all [.int .i64 0, .bool sn0, .slice sA0 sk0 sc0, .bool sm0, .slice sB0 sj0 sd0, .bool sn1, .slice sA1 sk1 sc1, .bool sm1, .slice sB1 sj1 sd1, .bool sn2, .slice sA2 sk2 sc2, .bool sm2, .slice sB2 sj2 sd2, .bool sn3, .slice sA3 sk3 sc3, .bool sm3, .slice sB3 sj3 sd3, .bool sn4, .slice sA4 sk4 sc4, .bool sm4, .slice sB4 sj4 sd4] [.int .i64 0, .bool false, .slice none 0 0, .bool false, .slice none 0 0, .bool false, .slice none 0 0, .bool false, .slice none 0 0, .bool false, .slice none 0 0, .bool false, .slice none 0 0, .bool false, .slice none 0 0, .bool false, .slice none 0 0, .bool false, .slice none 0 0, .bool false, .slice none 0 0] rfl rfl rfl hB7 (Nat.le_refl _) q17
        have hbe := (hbr.trans (hb5.mono hbr.size)).trans (hC7.mono (hbr.trans (hb5.mono hbr.size)).size)
        go_wp2_with (refine wpList_store_mid rfl 31 _ _ rfl w5.heap.size 0 #[.int .i64 0, .bool sn0, .slice sA0 sk0 sc0, .bool sm0, .slice sB0 sj0 sd0, .bool sn1, .slice sA1 sk1 sc1, .bool sm1, .slice sB1 sj1 sd1, .bool sn2, .slice sA2 sk2 sc2, .bool sm2, .slice sB2 sj2 sd2, .bool sn3, .slice sA3 sk3 sc3, .bool sm3, .slice sB3 sj3 sd3, .bool sn4, .slice sA4 sk4 sc4, .bool sm4, .slice sB4 sj4 sd4] rfl rfl (q17.there (by simp)) info_mom (by simp [Value.oneCell']) ?_; rw [hU7])
        go_ret
        exact ⟨rfl, hBl.out _ hbe⟩
      have hz : E = 0 := by rw [← hEE.out]; unfold momE'; rw [if_neg hs0]
      subst hz
      have hs1 : 0 < psum ps l := by omega
      obtain ⟨mx, hmX⟩ : ∃ q, mean1 (colv W) ps l = q := ⟨_, rfl⟩
      obtain ⟨my, hmY⟩ : ∃ q, mean1 (rowv W) ps l = q := ⟨_, rfl⟩
      have hMv : M = momOf W ps l := by rw [← hMM.out]; unfold momM'; rw [if_neg hs0]
      have hM2 : momM' W2 (movP W dx dy ps l N m) (movd W dx dy l m) = ⟨sv, prQ (mx + (dx : Rat)), prQ (my + (dy : Rat)), M.xx, M.xy, M.yy⟩ := by
        unfold momM'
        rw [hps2, if_neg hs0, ← hW2.out, mom_moved hlm.out hf.out (by omega) (by omega) hN'.out hin.out hdis.out hs1, hmX, hmY, ← hsv.out, hMv]
        rfl
      have huc : ∀ j, j < m → 0 ≤ colv W (l[j]?.getD 0) ∧ colv W (l[j]?.getD 0) ≤ 99 := fun j hj => colv_bound hf0' (hr.out j hj).1 (hr.out j hj).2.1
      have hur : ∀ j, j < m → 0 ≤ rowv W (l[j]?.getD 0) ∧ rowv W (l[j]?.getD 0) ≤ 99 := fun j hj => rowv_bound hf0' (hr.out j hj).1 (hr.out j hj).2.1
      have sX : SmN 2 2 mx := by rw [← hmX]; exact mean1_smN hlm.out hr.out (fun j hj => by have := huc j hj; omega) h8 hs1
      have sY : SmN 2 2 my := by rw [← hmY]; exact mean1_smN hlm.out hr.out (fun j hj => by have := hur j hj; omega) h8 hs1
      replace f0 : Hid (Fr wr pn0 pA0 pk0 pc0 pm0 pB0 pj0 pd0 mx) := hide (by rw [← hmX]; have h := f0.out.below hbr; rw [hMv] at h; exact h)
      replace f1 : Hid (Fr wr pn1 pA1 pk1 pc1 pm1 pB1 pj1 pd1 my) := hide (by rw [← hmY]; have h := f1.out.below hbr; rw [hMv] at h; exact h)
      replace f2 := hide (f2.out.below hbr)
      replace f3 := hide (f3.out.below hbr)
      replace f4 := hide (f4.out.below hbr)
      have hcw : ∀ k, k < m → 0 ≤ colv W (l[k]?.getD 0) ∧ colv W (l[k]?.getD 0) ≤ W - 1 := fun k hk => ⟨(huc k hk).1, by
        have := Int.emod_lt_of_pos (l[k]?.getD 0) (show 0 < W by omega)
        unfold colv; omega⟩
      have hrw : ∀ k, k < m → 0 ≤ rowv W (l[k]?.getD 0) ∧ rowv W (l[k]?.getD 0) ≤ H - 1 := fun k hk => ⟨(hur k hk).1, by
        have := (mov_facts (dx := dx) (dy := dy) hf0' (by omega) (by omega) (hin.out k hk).1 (hin.out k hk).2).2.2.2.2.2.2.2.1
        unfold rowv; omega⟩
      have bX : pos = true → Rat.divInt 0 1 ≤ mx ∧ mx ≤ Rat.divInt (W - 1) 1 := fun h => by rw [← hmX]; exact mean_in hlm.out hcw (by rw [hpos.out, h]) hs1
      have bY : pos = true → Rat.divInt 0 1 ≤ my ∧ my ≤ Rat.divInt (H - 1) 1 := fun h => by rw [← hmY]; exact mean_in hlm.out hrw (by rw [hpos.out, h]) hs1
      obtain ⟨R, hR⟩ : ∃ R, accB [decide (cmpQ (Rat.divInt 0 1) mx ≤ 0), decide (cmpQ mx (Rat.divInt (W - 1) 1) ≤ 0), decide (cmpQ (Rat.divInt 0 1) my ≤ 0), decide (cmpQ my (Rat.divInt (H - 1) 1) ≤ 0)] 4 = R := ⟨_, rfl⟩
      have hR2 : Hid (pos = true → R = true) := hide (fun h => by rw [← hR]; exact box_in (bX h).1 (bX h).2 (bY h).1 (bY h).2)
      replace hR := hide hR
      replace sX := hide sX
      replace sY := hide sY
      replace hmX := hide hmX
      replace hmY := hide hmY
      replace hMv := hide hMv
      replace hs1 := hide hs1
      clear hcw hrw bX bY huc hur
      go_wp2_with fail
      refine (moments_any W2 H2 (some ⟨ga, 0, none⟩) N N A3 m c3 _ _ wr hLa hLT h8 iW2 iH2 hEt 0 _ hE2 hM2).mono ?_
      rintro e w5 ⟨hb5, csN, rfl, hFn⟩
      clear c0 c1 c2 hLa hLT hEt hE2 hM2 r2
      have hbv : Below V4.heap.size V4 w5 := hbr.trans (hb5.mono hbr.size)
      replace f0 := hide (f0.out.below hb5)
      replace f1 := hide (f1.out.below hb5)
      replace f2 := hide (f2.out.below hb5)
      replace f3 := hide (f3.out.below hb5)
      replace f4 := hide (f4.out.below hb5)
      obtain ⟨sn0, sA0, sk0, sc0, sm0, sB0, sj0, sd0, sn1, sA1, sk1, sc1, sm1, sB1, sj1, sd1, sn2, sA2, sk2, sc2, sm2, sB2, sj2, sd2, sn3, sA3, sk3, sc3, sm3, sB3, sj3, sd3, sn4, sA4, sk4, sc4, sm4, sB4, sj4, sd4, rfl, g0', g1', g2', g3', g4'⟩ := hFn
      have s0 : Hid (Fr w5 sn0 sA0 sk0 sc0 sm0 sB0 sj0 sd0 (mx + (dx : Rat))) := hide g0'
      have s1 : Hid (Fr w5 sn1 sA1 sk1 sc1 sm1 sB1 sj1 sd1 (my + (dy : Rat))) := hide g1'
      have s2 : Hid (Fz w5 sn2 sA2 sk2 sc2 sm2 sB2 sj2 sd2 M.xx) := hide g2'
      have s3 : Hid (Fz w5 sn3 sA3 sk3 sc3 sm3 sB3 sj3 sd3 M.xy) := hide g3'
      have s4 : Hid (Fz w5 sn4 sA4 sk4 sc4 sm4 sB4 sj4 sd4 M.yy) := hide g4'
      clear g0' g1' g2' g3' g4'
      obtain ⟨V7, hV7, hB7, q17, -, -, -⟩ := new_obj 31 #[.int .i64 0, .bool false, .slice none 0 0, .bool false, .slice none 0 0, .bool false, .slice none 0 0, .bool false, .slice none 0 0, .bool false, .slice none 0 0, .bool false, .slice none 0 0, .bool false, .slice none 0 0, .bool false, .slice none 0 0, .bool false, .slice none 0 0, .bool false, .slice none 0 0] (Below.refl w5.heap.size w5) (Nat.le_refl _)
      obtain ⟨U7, hU7, hC7, qn, -⟩ := set_all [.int .i64 sv, .bool sn0, .slice sA0 sk0 sc0, .bool sm0, .slice sB0 sj0 sd0, .bool sn1, .slice sA1 sk1 sc1, .bool sm1, .slice sB1 sj1 sd1, .bool sn2, .slice sA2 sk2 sc2, .bool sm2, .slice sB2 sj2 sd2, .bool sn3, .slice sA3 sk3 sc3, .bool sm3, .slice sB3 sj3 sd3, .bool sn4, .slice sA4 sk4 sc4, .bool sm4, .slice sB4 sj4 sd4] [.int .i64 0, .bool false, .slice none 0 0, .bool false, .slice none 0 0, .bool false, .slice none 0 0, .bool false, .slice none 0 0, .bool false, .slice none 0 0, .bool false, .slice none 0 0, .bool false, .slice none 0 0, .bool false, .slice none 0 0, .bool false, .slice none 0 0, .bool false, .slice none 0 0] rfl rfl rfl hB7 (Nat.le_refl _) q17
      replace hbv := hbv.trans (hC7.mono hbv.size)
      replace f0 := hide (f0.out.below hC7)
      replace f1 := hide (f1.out.below hC7)
      replace f2 := hide (f2.out.below hC7)
      replace f3 := hide (f3.out.below hC7)
      replace f4 := hide (f4.out.below hC7)
      replace s0 := hide (s0.out.below hC7)
      replace s1 := hide (s1.out.below hC7)
      replace s2 := hide (s2.out.below hC7)
      replace s3 := hide (s3.out.below hC7)
      replace s4 := hide (s4.out.below hC7)
      have qmx := keep_blk hbv qm.out
      have a1 := qmx.cell 1
      have a2 := qmx.cell 2
      have a3 := qmx.cell 3
      have a4 := qmx.cell 4
      simp at a1 a2 a3 a4
      have b1 := qn.cell 1
      have b2 := qn.cell 2
      have b3 := qn.cell 3
      have b4 := qn.cell 4
      simp at b1 b2 b3 b4
      go_wp2_with (refine wpList_store_mid rfl 31 _ _ rfl w5.heap.size 0 #[.int .i64 sv, .bool sn0, .slice sA0 sk0 sc0, .bool sm0, .slice sB0 sj0 sd0, .bool sn1, .slice sA1 sk1 sc1, .bool sm1, .slice sB1 sj1 sd1, .bool sn2, .slice sA2 sk2 sc2, .bool sm2, .slice sB2 sj2 sd2, .bool sn3, .slice sA3 sk3 sc3, .bool sm3, .slice sB3 sj3 sd3, .bool sn4, .slice sA4 sk4 sc4, .bool sm4, .slice sB4 sj4 sd4] rfl rfl (q17.there (by simp)) info_mom (by simp [Value.oneCell']) ?_; rw [hU7])
      refine (fSub_ok _ _ _ _ _ _ _ _ _ _ _ _ _ _ _ _ _ _ U7 s0.out f0.out (add_sm sX.out (by omega)) (sX.out.sm (by omega) (by omega))).mono ?_
      rintro e w6 ⟨hb6, xn0, xA0, xk0, xc0, xm0, xB0, xj0, xd0, rfl, xf⟩
      rw [add_sub_int] at xf
      replace xf := hide xf
      clear a1 a2 a3 a4 b1 b2 b3 b4 hV7 hU7 hB7 hC7 q17
      generalize w5.heap.size = g17 at *
      replace hbv := hbv.trans (hb6.mono hbv.size)
      replace qmx := keep_blk hb6 qmx
      replace qn := keep_blk hb6 qn
      replace f0 := hide (f0.out.below hb6)
      replace f1 := hide (f1.out.below hb6)
      replace f2 := hide (f2.out.below hb6)
      replace f3 := hide (f3.out.below hb6)
      replace f4 := hide (f4.out.below hb6)
      replace s1 := hide (s1.out.below hb6)
      replace s2 := hide (s2.out.below hb6)
      replace s3 := hide (s3.out.below hb6)
      replace s4 := hide (s4.out.below hb6)
      clear s0
      obtain ⟨V8, hV8, hB8, q18, -, -, -⟩ := new_obj 29 #[.bool false, .slice none 0 0, .bool false, .slice none 0 0] (Below.refl w6.heap.size w6) (Nat.le_refl _)
      obtain ⟨U8, hU8, hC8, qx, -⟩ := set_all [.bool xn0, .slice xA0 xk0 xc0, .bool xm0, .slice xB0 xj0 xd0] [.bool false, .slice none 0 0, .bool false, .slice none 0 0] rfl rfl rfl hB8 (Nat.le_refl _) q18
      replace hbv := hbv.trans (hC8.mono hbv.size)
      replace qmx := keep_blk hC8 qmx
      replace qn := keep_blk hC8 qn
      replace f0 := hide (f0.out.below hC8)
      replace f1 := hide (f1.out.below hC8)
      replace f2 := hide (f2.out.below hC8)
      replace f3 := hide (f3.out.below hC8)
      replace f4 := hide (f4.out.below hC8)
      replace s1 := hide (s1.out.below hC8)
      replace s2 := hide (s2.out.below hC8)
      replace s3 := hide (s3.out.below hC8)
      replace s4 := hide (s4.out.below hC8)
      replace xf := hide (xf.out.below hC8)
      have a5 := qmx.cell 5
      have a6 := qmx.cell 6
      have a7 := qmx.cell 7
      have a8 := qmx.cell 8
      simp at a5 a6 a7 a8
      have b5 := qn.cell 5
      have b6 := qn.cell 6
      have b7 := qn.cell 7
      have b8 := qn.cell 8
      simp at b5 b6 b7 b8
      go_wp2_with (refine wpList_store_mid rfl 29 _ _ rfl w6.heap.size 0 #[.bool xn0, .slice xA0 xk0 xc0, .bool xm0, .slice xB0 xj0 xd0] rfl rfl (q18.there (by simp)) info_frac (by simp [Value.oneCell']) ?_; rw [hU8])
      refine (fSub_ok _ _ _ _ _ _ _ _ _ _ _ _ _ _ _ _ _ _ U8 s1.out f1.out (add_sm sY.out (by omega)) (sY.out.sm (by omega) (by omega))).mono ?_
      rintro e w7 ⟨hb7, yn0, yA0, yk0, yc0, ym0, yB0, yj0, yd0, rfl, yf⟩
      rw [add_sub_int] at yf
      replace yf := hide yf
      clear a5 a6 a7 a8 b5 b6 b7 b8 hV8 hU8 hB8 hC8 q18
      generalize w6.heap.size = g19 at *
      replace hbv := hbv.trans (hb7.mono hbv.size)
      replace qmx := keep_blk hb7 qmx
      replace qn := keep_blk hb7 qn
      replace qx := keep_blk hb7 qx
      replace f0 := hide (f0.out.below hb7)
      replace f1 := hide (f1.out.below hb7)
      replace f2 := hide (f2.out.below hb7)
      replace f3 := hide (f3.out.below hb7)
      replace f4 := hide (f4.out.below hb7)
      replace s2 := hide (s2.out.below hb7)
      replace s3 := hide (s3.out.below hb7)
      replace s4 := hide (s4.out.below hb7)
      replace xf := hide (xf.out.below hb7)
      clear s1
      obtain ⟨V9, hV9, hB9, q19, -, -, -⟩ := new_obj 29 #[.bool false, .slice none 0 0, .bool false, .slice none 0 0] (Below.refl w7.heap.size w7) (Nat.le_refl _)
      obtain ⟨U9, hU9, hC9, qy, -⟩ := set_all [.bool yn0, .slice yA0 yk0 yc0, .bool ym0, .slice yB0 yj0 yd0] [.bool false, .slice none 0 0, .bool false, .slice none 0 0] rfl rfl rfl hB9 (Nat.le_refl _) q19
      replace hbv := hbv.trans (hC9.mono hbv.size)
      replace qmx := keep_blk hC9 qmx
      replace qn := keep_blk hC9 qn
      replace qx := keep_blk hC9 qx
      replace f0 := hide (f0.out.below hC9)
      replace f1 := hide (f1.out.below hC9)
      replace f2 := hide (f2.out.below hC9)
      replace f3 := hide (f3.out.below hC9)
      replace f4 := hide (f4.out.below hC9)
      replace s2 := hide (s2.out.below hC9)
      replace s3 := hide (s3.out.below hC9)
      replace s4 := hide (s4.out.below hC9)
      replace xf := hide (xf.out.below hC9)
      replace yf := hide (yf.out.below hC9)
      go_wp2_with (refine wpList_store_mid rfl 29 _ _ rfl w7.heap.size 0 #[.bool yn0, .slice yA0 yk0 yc0, .bool ym0, .slice yB0 yj0 yd0] rfl rfl (q19.there (by simp)) info_frac (by simp [Value.oneCell']) ?_; rw [hU9])
      clear hV9 hU9 hB9 hC9 q19 hb7 hb6 hb5
      generalize w7.heap.size = g21 at *
      have hS : ∀ wx, Below U9.heap.size U9 wx → wx.cell? ⟨g19, 0, none⟩ = some (.bool xn0) ∧ wx.cell? ⟨g19, 1, none⟩ = some (.slice xA0 xk0 xc0) ∧ wx.cell? ⟨g19, 2, none⟩ = some (.bool xm0) ∧ wx.cell? ⟨g19, 3, none⟩ = some (.slice xB0 xj0 xd0) ∧ wx.cell? ⟨g21, 0, none⟩ = some (.bool yn0) ∧ wx.cell? ⟨g21, 1, none⟩ = some (.slice yA0 yk0 yc0) ∧ wx.cell? ⟨g21, 2, none⟩ = some (.bool ym0) ∧ wx.cell? ⟨g21, 3, none⟩ = some (.slice yB0 yj0 yd0) ∧ wx.cell? ⟨g10, 9, none⟩ = some (.bool pn2) ∧ wx.cell? ⟨g10, 10, none⟩ = some (.slice pA2 pk2 pc2) ∧ wx.cell? ⟨g10, 11, none⟩ = some (.bool pm2) ∧ wx.cell? ⟨g10, 12, none⟩ = some (.slice pB2 pj2 pd2) ∧ wx.cell? ⟨g10, 13, none⟩ = some (.bool pn3) ∧ wx.cell? ⟨g10, 14, none⟩ = some (.slice pA3 pk3 pc3) ∧ wx.cell? ⟨g10, 15, none⟩ = some (.bool pm3) ∧ wx.cell? ⟨g10, 16, none⟩ = some (.slice pB3 pj3 pd3) ∧ wx.cell? ⟨g10, 17, none⟩ = some (.bool pn4) ∧ wx.cell? ⟨g10, 18, none⟩ = some (.slice pA4 pk4 pc4) ∧ wx.cell? ⟨g10, 19, none⟩ = some (.bool pm4) ∧ wx.cell? ⟨g10, 20, none⟩ = some (.slice pB4 pj4 pd4) ∧ wx.cell? ⟨g17, 9, none⟩ = some (.bool sn2) ∧ wx.cell? ⟨g17, 10, none⟩ = some (.slice sA2 sk2 sc2) ∧ wx.cell? ⟨g17, 11, none⟩ = some (.bool sm2) ∧ wx.cell? ⟨g17, 12, none⟩ = some (.slice sB2 sj2 sd2) ∧ wx.cell? ⟨g17, 13, none⟩ = some (.bool sn3) ∧ wx.cell? ⟨g17, 14, none⟩ = some (.slice sA3 sk3 sc3) ∧ wx.cell? ⟨g17, 15, none⟩ = some (.bool sm3) ∧ wx.cell? ⟨g17, 16, none⟩ = some (.slice sB3 sj3 sd3) ∧ wx.cell? ⟨g17, 17, none⟩ = some (.bool sn4) ∧ wx.cell? ⟨g17, 18, none⟩ = some (.slice sA4 sk4 sc4) ∧ wx.cell? ⟨g17, 19, none⟩ = some (.bool sm4) ∧ wx.cell? ⟨g17, 20, none⟩ = some (.slice sB4 sj4 sd4) := fun wx hbx => by
        have v1 := keep_blk hbx qx
        have v2 := keep_blk hbx qy
        have v3 := keep_blk hbx qmx
        have v4 := keep_blk hbx qn
        have e0 := v1.cell 0
        have e1 := v1.cell 1
        have e2 := v1.cell 2
        have e3 := v1.cell 3
        have h0 := v2.cell 0
        have h1 := v2.cell 1
        have h2 := v2.cell 2
        have h3 := v2.cell 3
        have a9 := v3.cell 9
        have a10 := v3.cell 10
        have a11 := v3.cell 11
        have a12 := v3.cell 12
        have a13 := v3.cell 13
        have a14 := v3.cell 14
        have a15 := v3.cell 15
        have a16 := v3.cell 16
        have a17 := v3.cell 17
        have a18 := v3.cell 18
        have a19 := v3.cell 19
        have a20 := v3.cell 20
        have b9 := v4.cell 9
        have b10 := v4.cell 10
        have b11 := v4.cell 11
        have b12 := v4.cell 12
        have b13 := v4.cell 13
        have b14 := v4.cell 14
        have b15 := v4.cell 15
        have b16 := v4.cell 16
        have b17 := v4.cell 17
        have b18 := v4.cell 18
        have b19 := v4.cell 19
        have b20 := v4.cell 20
        simp at e0 e1 e2 e3 h0 h1 h2 h3 a9 a10 a11 a12 a13 a14 a15 a16 a17 a18 a19 a20 b9 b10 b11 b12 b13 b14 b15 b16 b17 b18 b19 b20
        exact ⟨e0, e1, e2, e3, h0, h1, h2, h3, a9, a10, a11, a12, a13, a14, a15, a16, a17, a18, a19, a20, b9, b10, b11, b12, b13, b14, b15, b16, b17, b18, b19, b20⟩
      replace hS := hide hS
      replace qmx := hide qmx
      clear qx qy qn
      have hb : Below U9.heap.size U9 U9.drew := below_dn (Below.refl _ _) 1
      refine wp_held [] (fun wx => wx.cell? ⟨g19, 0, none⟩ = some (.bool xn0) ∧ wx.cell? ⟨g19, 1, none⟩ = some (.slice xA0 xk0 xc0) ∧ wx.cell? ⟨g19, 2, none⟩ = some (.bool xm0) ∧ wx.cell? ⟨g19, 3, none⟩ = some (.slice xB0 xj0 xd0) ∧ wx.cell? ⟨g21, 0, none⟩ = some (.bool yn0) ∧ wx.cell? ⟨g21, 1, none⟩ = some (.slice yA0 yk0 yc0) ∧ wx.cell? ⟨g21, 2, none⟩ = some (.bool ym0) ∧ wx.cell? ⟨g21, 3, none⟩ = some (.slice yB0 yj0 yd0) ∧ wx.cell? ⟨g10, 9, none⟩ = some (.bool pn2) ∧ wx.cell? ⟨g10, 10, none⟩ = some (.slice pA2 pk2 pc2) ∧ wx.cell? ⟨g10, 11, none⟩ = some (.bool pm2) ∧ wx.cell? ⟨g10, 12, none⟩ = some (.slice pB2 pj2 pd2) ∧ wx.cell? ⟨g10, 13, none⟩ = some (.bool pn3) ∧ wx.cell? ⟨g10, 14, none⟩ = some (.slice pA3 pk3 pc3) ∧ wx.cell? ⟨g10, 15, none⟩ = some (.bool pm3) ∧ wx.cell? ⟨g10, 16, none⟩ = some (.slice pB3 pj3 pd3) ∧ wx.cell? ⟨g10, 17, none⟩ = some (.bool pn4) ∧ wx.cell? ⟨g10, 18, none⟩ = some (.slice pA4 pk4 pc4) ∧ wx.cell? ⟨g10, 19, none⟩ = some (.bool pm4) ∧ wx.cell? ⟨g10, 20, none⟩ = some (.slice pB4 pj4 pd4) ∧ wx.cell? ⟨g17, 9, none⟩ = some (.bool sn2) ∧ wx.cell? ⟨g17, 10, none⟩ = some (.slice sA2 sk2 sc2) ∧ wx.cell? ⟨g17, 11, none⟩ = some (.bool sm2) ∧ wx.cell? ⟨g17, 12, none⟩ = some (.slice sB2 sj2 sd2) ∧ wx.cell? ⟨g17, 13, none⟩ = some (.bool sn3) ∧ wx.cell? ⟨g17, 14, none⟩ = some (.slice sA3 sk3 sc3) ∧ wx.cell? ⟨g17, 15, none⟩ = some (.bool sm3) ∧ wx.cell? ⟨g17, 16, none⟩ = some (.slice sB3 sj3 sd3) ∧ wx.cell? ⟨g17, 17, none⟩ = some (.bool sn4) ∧ wx.cell? ⟨g17, 18, none⟩ = some (.slice sA4 sk4 sc4) ∧ wx.cell? ⟨g17, 19, none⟩ = some (.bool sm4) ∧ wx.cell? ⟨g17, 20, none⟩ = some (.slice sB4 sj4 sd4)) hmx (hS.out _ hb) (fun _ => ?_)
      refine wpAnyL_one (i := 0) rfl (by kernel_rfl) (fun K hK => ?_)
      go_simp
      refine hK.out _ _ (fun _ => hS.out _ hb) ?_
      clear hK K
      try simp only [Act.put, List.setIfInBounds_toArray, List.set_cons_zero, List.set_cons_succ]
      refine wpAnyL_one (i := 1) rfl (by kernel_rfl) (fun K hK => ?_)
      go_simp
      refine hK.out _ _ (fun _ => hS.out _ hb) ?_
      clear hK K
      try simp only [Act.put, List.setIfInBounds_toArray, List.set_cons_zero, List.set_cons_succ]
      refine wpAnyL_one (i := 2) rfl (by kernel_rfl) (fun K hK => ?_)
      go_simp
      refine hK.out _ _ (fun _ => hS.out _ hb) ?_
      clear hK K
      try simp only [Act.put, List.setIfInBounds_toArray, List.set_cons_zero, List.set_cons_succ]
      refine wpAnyL_one (i := 3) rfl (by kernel_rfl) (fun K hK => ?_)
      go_simp
      refine hK.out _ _ (fun _ => hS.out _ hb) ?_
      clear hK K
      try simp only [Act.put, List.setIfInBounds_toArray, List.set_cons_zero, List.set_cons_succ]
      refine wpAnyL_one (i := 4) rfl (by kernel_rfl) (fun K hK => ?_)
      go_simp
      refine hK.out _ _ (fun _ => hS.out _ hb) ?_
      clear hK K
      try simp only [Act.put, List.setIfInBounds_toArray, List.set_cons_zero, List.set_cons_succ]
      refine wpAnyL_one (i := 5) rfl (by kernel_rfl) (fun K hK => ?_)
      go_simp
      refine hK.out _ _ (fun _ => hS.out _ hb) ?_
      clear hK K
      try simp only [Act.put, List.setIfInBounds_toArray, List.set_cons_zero, List.set_cons_succ]
      refine wpAnyL_one (i := 6) rfl (by kernel_rfl) (fun K hK => ?_)
      go_simp
      refine hK.out _ _ (fun _ => hS.out _ hb) ?_
      clear hK K
      try simp only [Act.put, List.setIfInBounds_toArray, List.set_cons_zero, List.set_cons_succ]
      refine wpAnyL_take (i := 7) (v := ?v3001) rfl (by kernel_rfl) (by kernel_rfl) (by kernel_rfl) (by kernel_rfl) (by kernel_rfl) (Or.inl ⟨by kernel_rfl, ?hy3001⟩) (hS.out _ hb) ?rest3001
      case hy3001 => (intro W2 hSw; (try dsimp only at hSw); go_simp; try with_reducible rfl)
      try simp only [Act.put, List.setIfInBounds_toArray, List.set_cons_zero, List.set_cons_succ]
      refine wpAnyL_take (i := 8) (v := ?v3002) rfl (by kernel_rfl) (by kernel_rfl) (by kernel_rfl) (by kernel_rfl) (by kernel_rfl) (Or.inl ⟨by kernel_rfl, ?hy3002⟩) (hS.out _ hb) ?rest3002
      case hy3002 => (intro W2 hSw; (try dsimp only at hSw); go_simp; try with_reducible rfl)
      try simp only [Act.put, List.setIfInBounds_toArray, List.set_cons_zero, List.set_cons_succ]
      refine wpAnyL_one (i := 9) rfl (by kernel_rfl) (fun K hK => ?_)
      go_simp
      refine (lawOf_ok dx 1 _ (by omega) (by omega) (by omega) (by omega)).mono ?_
      rintro e zaa ⟨hbz, tn0, tA0, tk0, tc0, tm0, tB0, tj0, td0, rfl, tf⟩
      replace hb := hb.trans (hbz.mono hb.size)
      replace tf : Hid (Fz zaa tn0 tA0 tk0 tc0 tm0 tB0 tj0 td0 (prQ (dx : Rat))) := hide (by rw [← prQ_int]; exact tf.fz)
      clear hbz
      refine hK.out _ _ (fun _ => hS.out _ hb) ?_
      clear hK K
      try simp only [Act.put, List.setIfInBounds_toArray, List.set_cons_zero, List.set_cons_succ]
      refine wpAnyL_one (i := 10) rfl (by kernel_rfl) (fun K hK => ?_)
      go_simp
      refine (rfSame_fz xn0 xm0 tn0 tm0 xA0 xB0 tA0 tB0 xk0 xc0 xj0 xd0 tk0 tc0 tj0 td0 (prQ (dx : Rat)) (prQ (dx : Rat)) zaa (xf.out.fz.below hb) tf.out true (by simp)).mono ?_
      rintro e za ⟨rfl, hbz⟩
      replace hb := hb.trans (hbz.mono hb.size)
      clear tf
      clear hbz
      refine hK.out _ _ (fun _ => hS.out _ hb) ?_
      clear hK K
      try simp only [Act.put, List.setIfInBounds_toArray, List.set_cons_zero, List.set_cons_succ]
      refine wpAnyL_one (i := 11) rfl (by kernel_rfl) (fun K hK => ?_)
      go_simp
      refine hK.out _ _ (fun _ => hS.out _ hb) ?_
      clear hK K
      try simp only [Act.put, List.setIfInBounds_toArray, List.set_cons_zero, List.set_cons_succ]
      refine wpAnyL_one (i := 12) rfl (by kernel_rfl) (fun K hK => ?_)
      go_simp
      refine hK.out _ _ (fun _ => hS.out _ hb) ?_
      clear hK K
      try simp only [Act.put, List.setIfInBounds_toArray, List.set_cons_zero, List.set_cons_succ]
      refine wpAnyL_one (i := 13) rfl (by kernel_rfl) (fun K hK => ?_)
      go_simp
      refine hK.out _ _ (fun _ => hS.out _ hb) ?_
      clear hK K
      try simp only [Act.put, List.setIfInBounds_toArray, List.set_cons_zero, List.set_cons_succ]
      refine wpAnyL_take (i := 14) (v := ?v3003) rfl (by kernel_rfl) (by kernel_rfl) (by kernel_rfl) (by kernel_rfl) (by kernel_rfl) (Or.inl ⟨by kernel_rfl, ?hy3003⟩) (hS.out _ hb) ?rest3003
      case hy3003 => (intro W2 hSw; (try dsimp only at hSw); go_simp; try with_reducible rfl)
      try simp only [Act.put, List.setIfInBounds_toArray, List.set_cons_zero, List.set_cons_succ]
      refine wpAnyL_take (i := 15) (v := ?v3004) rfl (by kernel_rfl) (by kernel_rfl) (by kernel_rfl) (by kernel_rfl) (by kernel_rfl) (Or.inl ⟨by kernel_rfl, ?hy3004⟩) (hS.out _ hb) ?rest3004
      case hy3004 => (intro W2 hSw; (try dsimp only at hSw); go_simp; try with_reducible rfl)
      try simp only [Act.put, List.setIfInBounds_toArray, List.set_cons_zero, List.set_cons_succ]
      refine wpAnyL_one (i := 16) rfl (by kernel_rfl) (fun K hK => ?_)
      go_simp
      refine (lawOf_ok dy 1 _ (by omega) (by omega) (by omega) (by omega)).mono ?_
      rintro e zba ⟨hbz, tn0, tA0, tk0, tc0, tm0, tB0, tj0, td0, rfl, tf⟩
      replace hb := hb.trans (hbz.mono hb.size)
      replace tf : Hid (Fz zba tn0 tA0 tk0 tc0 tm0 tB0 tj0 td0 (prQ (dy : Rat))) := hide (by rw [← prQ_int]; exact tf.fz)
      clear hbz
      refine hK.out _ _ (fun _ => hS.out _ hb) ?_
      clear hK K
      try simp only [Act.put, List.setIfInBounds_toArray, List.set_cons_zero, List.set_cons_succ]
      refine wpAnyL_one (i := 17) rfl (by kernel_rfl) (fun K hK => ?_)
      go_simp
      refine (rfSame_fz yn0 ym0 tn0 tm0 yA0 yB0 tA0 tB0 yk0 yc0 yj0 yd0 tk0 tc0 tj0 td0 (prQ (dy : Rat)) (prQ (dy : Rat)) zba (yf.out.fz.below hb) tf.out true (by simp)).mono ?_
      rintro e zb ⟨rfl, hbz⟩
      replace hb := hb.trans (hbz.mono hb.size)
      clear tf
      clear hbz
      refine hK.out _ _ (fun _ => hS.out _ hb) ?_
      clear hK K
      try simp only [Act.put, List.setIfInBounds_toArray, List.set_cons_zero, List.set_cons_succ]
      refine wpAnyL_one (i := 18) rfl (by kernel_rfl) (fun K hK => ?_)
      go_simp
      refine hK.out _ _ (fun _ => hS.out _ hb) ?_
      clear hK K
      try simp only [Act.put, List.setIfInBounds_toArray, List.set_cons_zero, List.set_cons_succ]
      refine wpAnyL_one (i := 19) rfl (by kernel_rfl) (fun K hK => ?_)
      go_simp
      refine hK.out _ _ (fun _ => hS.out _ hb) ?_
      clear hK K
      try simp only [Act.put, List.setIfInBounds_toArray, List.set_cons_zero, List.set_cons_succ]
      refine wpAnyL_one (i := 20) rfl (by kernel_rfl) (fun K hK => ?_)
      go_simp
      refine hK.out _ _ (fun _ => hS.out _ hb) ?_
      clear hK K
      try simp only [Act.put, List.setIfInBounds_toArray, List.set_cons_zero, List.set_cons_succ]
      refine wpAnyL_take (i := 21) (v := ?v3005) rfl (by kernel_rfl) (by kernel_rfl) (by kernel_rfl) (by kernel_rfl) (by kernel_rfl) (Or.inl ⟨by kernel_rfl, ?hy3005⟩) (hS.out _ hb) ?rest3005
      case hy3005 => (intro W2 hSw; (try dsimp only at hSw); go_simp; try with_reducible rfl)
      try simp only [Act.put, List.setIfInBounds_toArray, List.set_cons_zero, List.set_cons_succ]
      refine wpAnyL_take (i := 22) (v := ?v3006) rfl (by kernel_rfl) (by kernel_rfl) (by kernel_rfl) (by kernel_rfl) (by kernel_rfl) (Or.inl ⟨by kernel_rfl, ?hy3006⟩) (hS.out _ hb) ?rest3006
      case hy3006 => (intro W2 hSw; (try dsimp only at hSw); go_simp; try with_reducible rfl)
      try simp only [Act.put, List.setIfInBounds_toArray, List.set_cons_zero, List.set_cons_succ]
      refine wpAnyL_take (i := 23) (v := ?v3007) rfl (by kernel_rfl) (by kernel_rfl) (by kernel_rfl) (by kernel_rfl) (by kernel_rfl) (Or.inl ⟨by kernel_rfl, ?hy3007⟩) (hS.out _ hb) ?rest3007
      case hy3007 => (intro W2 hSw; (try dsimp only at hSw); go_simp; try with_reducible rfl)
      try simp only [Act.put, List.setIfInBounds_toArray, List.set_cons_zero, List.set_cons_succ]
      refine wpAnyL_take (i := 24) (v := ?v3008) rfl (by kernel_rfl) (by kernel_rfl) (by kernel_rfl) (by kernel_rfl) (by kernel_rfl) (Or.inl ⟨by kernel_rfl, ?hy3008⟩) (hS.out _ hb) ?rest3008
      case hy3008 => (intro W2 hSw; (try dsimp only at hSw); go_simp; try with_reducible rfl)
      try simp only [Act.put, List.setIfInBounds_toArray, List.set_cons_zero, List.set_cons_succ]
      refine wpAnyL_one (i := 25) rfl (by kernel_rfl) (fun K hK => ?_)
      go_simp
      refine (rfSame_fz pn2 pm2 sn2 sm2 pA2 pB2 sA2 sB2 pk2 pc2 pj2 pd2 sk2 sc2 sj2 sd2 M.xx M.xx _ (f2.out.below hb) (s2.out.below hb) true (by simp)).mono ?_
      rintro e zc ⟨rfl, hbz⟩
      replace hb := hb.trans (hbz.mono hb.size)
      clear hbz
      refine hK.out _ _ (fun _ => hS.out _ hb) ?_
      clear hK K
      try simp only [Act.put, List.setIfInBounds_toArray, List.set_cons_zero, List.set_cons_succ]
      refine wpAnyL_one (i := 26) rfl (by kernel_rfl) (fun K hK => ?_)
      go_simp
      refine hK.out _ _ (fun _ => hS.out _ hb) ?_
      clear hK K
      try simp only [Act.put, List.setIfInBounds_toArray, List.set_cons_zero, List.set_cons_succ]
      refine wpAnyL_one (i := 27) rfl (by kernel_rfl) (fun K hK => ?_)
      go_simp
      refine hK.out _ _ (fun _ => hS.out _ hb) ?_
      clear hK K
      try simp only [Act.put, List.setIfInBounds_toArray, List.set_cons_zero, List.set_cons_succ]
      refine wpAnyL_one (i := 28) rfl (by kernel_rfl) (fun K hK => ?_)
      go_simp
      refine hK.out _ _ (fun _ => hS.out _ hb) ?_
      clear hK K
      try simp only [Act.put, List.setIfInBounds_toArray, List.set_cons_zero, List.set_cons_succ]
      refine wpAnyL_take (i := 29) (v := ?v3009) rfl (by kernel_rfl) (by kernel_rfl) (by kernel_rfl) (by kernel_rfl) (by kernel_rfl) (Or.inl ⟨by kernel_rfl, ?hy3009⟩) (hS.out _ hb) ?rest3009
      case hy3009 => (intro W2 hSw; (try dsimp only at hSw); go_simp; try with_reducible rfl)
      try simp only [Act.put, List.setIfInBounds_toArray, List.set_cons_zero, List.set_cons_succ]
      refine wpAnyL_take (i := 30) (v := ?v3010) rfl (by kernel_rfl) (by kernel_rfl) (by kernel_rfl) (by kernel_rfl) (by kernel_rfl) (Or.inl ⟨by kernel_rfl, ?hy3010⟩) (hS.out _ hb) ?rest3010
      case hy3010 => (intro W2 hSw; (try dsimp only at hSw); go_simp; try with_reducible rfl)
      try simp only [Act.put, List.setIfInBounds_toArray, List.set_cons_zero, List.set_cons_succ]
      refine wpAnyL_take (i := 31) (v := ?v3011) rfl (by kernel_rfl) (by kernel_rfl) (by kernel_rfl) (by kernel_rfl) (by kernel_rfl) (Or.inl ⟨by kernel_rfl, ?hy3011⟩) (hS.out _ hb) ?rest3011
      case hy3011 => (intro W2 hSw; (try dsimp only at hSw); go_simp; try with_reducible rfl)
      try simp only [Act.put, List.setIfInBounds_toArray, List.set_cons_zero, List.set_cons_succ]
      refine wpAnyL_take (i := 32) (v := ?v3012) rfl (by kernel_rfl) (by kernel_rfl) (by kernel_rfl) (by kernel_rfl) (by kernel_rfl) (Or.inl ⟨by kernel_rfl, ?hy3012⟩) (hS.out _ hb) ?rest3012
      case hy3012 => (intro W2 hSw; (try dsimp only at hSw); go_simp; try with_reducible rfl)
      try simp only [Act.put, List.setIfInBounds_toArray, List.set_cons_zero, List.set_cons_succ]
      refine wpAnyL_one (i := 33) rfl (by kernel_rfl) (fun K hK => ?_)
      go_simp
      refine (rfSame_fz pn3 pm3 sn3 sm3 pA3 pB3 sA3 sB3 pk3 pc3 pj3 pd3 sk3 sc3 sj3 sd3 M.xy M.xy _ (f3.out.below hb) (s3.out.below hb) true (by simp)).mono ?_
      rintro e zd ⟨rfl, hbz⟩
      replace hb := hb.trans (hbz.mono hb.size)
      clear hbz
      refine hK.out _ _ (fun _ => hS.out _ hb) ?_
      clear hK K
      try simp only [Act.put, List.setIfInBounds_toArray, List.set_cons_zero, List.set_cons_succ]
      refine wpAnyL_one (i := 34) rfl (by kernel_rfl) (fun K hK => ?_)
      go_simp
      refine hK.out _ _ (fun _ => hS.out _ hb) ?_
      clear hK K
      try simp only [Act.put, List.setIfInBounds_toArray, List.set_cons_zero, List.set_cons_succ]
      refine wpAnyL_one (i := 35) rfl (by kernel_rfl) (fun K hK => ?_)
      go_simp
      refine hK.out _ _ (fun _ => hS.out _ hb) ?_
      clear hK K
      try simp only [Act.put, List.setIfInBounds_toArray, List.set_cons_zero, List.set_cons_succ]
      refine wpAnyL_one (i := 36) rfl (by kernel_rfl) (fun K hK => ?_)
      go_simp
      refine hK.out _ _ (fun _ => hS.out _ hb) ?_
      clear hK K
      try simp only [Act.put, List.setIfInBounds_toArray, List.set_cons_zero, List.set_cons_succ]
      refine wpAnyL_take (i := 37) (v := ?v3013) rfl (by kernel_rfl) (by kernel_rfl) (by kernel_rfl) (by kernel_rfl) (by kernel_rfl) (Or.inl ⟨by kernel_rfl, ?hy3013⟩) (hS.out _ hb) ?rest3013
      case hy3013 => (intro W2 hSw; (try dsimp only at hSw); go_simp; try with_reducible rfl)
      try simp only [Act.put, List.setIfInBounds_toArray, List.set_cons_zero, List.set_cons_succ]
      refine wpAnyL_take (i := 38) (v := ?v3014) rfl (by kernel_rfl) (by kernel_rfl) (by kernel_rfl) (by kernel_rfl) (by kernel_rfl) (Or.inl ⟨by kernel_rfl, ?hy3014⟩) (hS.out _ hb) ?rest3014
      case hy3014 => (intro W2 hSw; (try dsimp only at hSw); go_simp; try with_reducible rfl)
      try simp only [Act.put, List.setIfInBounds_toArray, List.set_cons_zero, List.set_cons_succ]
      refine wpAnyL_take (i := 39) (v := ?v3015) rfl (by kernel_rfl) (by kernel_rfl) (by kernel_rfl) (by kernel_rfl) (by kernel_rfl) (Or.inl ⟨by kernel_rfl, ?hy3015⟩) (hS.out _ hb) ?rest3015
      case hy3015 => (intro W2 hSw; (try dsimp only at hSw); go_simp; try with_reducible rfl)
      try simp only [Act.put, List.setIfInBounds_toArray, List.set_cons_zero, List.set_cons_succ]
      refine wpAnyL_take (i := 40) (v := ?v3016) rfl (by kernel_rfl) (by kernel_rfl) (by kernel_rfl) (by kernel_rfl) (by kernel_rfl) (Or.inl ⟨by kernel_rfl, ?hy3016⟩) (hS.out _ hb) ?rest3016
      case hy3016 => (intro W2 hSw; (try dsimp only at hSw); go_simp; try with_reducible rfl)
      try simp only [Act.put, List.setIfInBounds_toArray, List.set_cons_zero, List.set_cons_succ]
      refine wpAnyL_one (i := 41) rfl (by kernel_rfl) (fun K hK => ?_)
      go_simp
      refine (rfSame_fz pn4 pm4 sn4 sm4 pA4 pB4 sA4 sB4 pk4 pc4 pj4 pd4 sk4 sc4 sj4 sd4 M.yy M.yy _ (f4.out.below hb) (s4.out.below hb) true (by simp)).mono ?_
      rintro e ze ⟨rfl, hbz⟩
      replace hb := hb.trans (hbz.mono hb.size)
      clear hbz
      refine hK.out _ _ (fun _ => hS.out _ hb) ?_
      clear hK K
      try simp only [Act.put, List.setIfInBounds_toArray, List.set_cons_zero, List.set_cons_succ]
      refine wpAnyL_one (i := 42) rfl (by kernel_rfl) (fun K hK => ?_)
      go_simp
      refine hK.out _ _ (fun _ => hS.out _ hb) ?_
      clear hK K
      try simp only [Act.put, List.setIfInBounds_toArray, List.set_cons_zero, List.set_cons_succ]
      refine wpAnyL_one (i := 43) rfl (by kernel_rfl) (fun K hK => ?_)
      go_simp
      refine hK.out _ _ (fun _ => hS.out _ hb) ?_
      clear hK K
      try simp only [Act.put, List.setIfInBounds_toArray, List.set_cons_zero, List.set_cons_succ]
      refine wpAnyL_done (by kernel_rfl) ?_ _
      refine OnlyNormal.normal ?_
      replace hbv := hbv.trans (hb.mono hbv.size)
      replace f0 := hide (f0.out.below hb)
      replace f1 := hide (f1.out.below hb)
      replace qmx := keep_blk hb qmx.out
      clear hS hb f2 f3 f4 s2 s3 s4 xf yf
      go_wp2_with fail
      have hS : ∀ wx, Below ze.heap.size ze wx → wx.cell? ⟨w.heap.size, 0, none⟩ = some (.int .i64 W) ∧ wx.cell? ⟨w.heap.size, 1, none⟩ = some (.int .i64 H) ∧ wx.cell? ⟨g10, 1, none⟩ = some (.bool pn0) ∧ wx.cell? ⟨g10, 2, none⟩ = some (.slice pA0 pk0 pc0) ∧ wx.cell? ⟨g10, 3, none⟩ = some (.bool pm0) ∧ wx.cell? ⟨g10, 4, none⟩ = some (.slice pB0 pj0 pd0) ∧ wx.cell? ⟨g10, 5, none⟩ = some (.bool pn1) ∧ wx.cell? ⟨g10, 6, none⟩ = some (.slice pA1 pk1 pc1) ∧ wx.cell? ⟨g10, 7, none⟩ = some (.bool pm1) ∧ wx.cell? ⟨g10, 8, none⟩ = some (.slice pB1 pj1 pd1) := fun wx hbx => by
        have v3 := keep_blk hbx qmx
        obtain ⟨u0, u1, -⟩ := hSf.out wx (hbv.trans (hbx.mono hbv.size))
        have a1 := v3.cell 1
        have a2 := v3.cell 2
        have a3 := v3.cell 3
        have a4 := v3.cell 4
        have a5 := v3.cell 5
        have a6 := v3.cell 6
        have a7 := v3.cell 7
        have a8 := v3.cell 8
        simp at a1 a2 a3 a4 a5 a6 a7 a8
        exact ⟨u0, u1, a1, a2, a3, a4, a5, a6, a7, a8⟩
      replace hS := hide hS
      have hb : Below ze.heap.size ze ze.drew := below_dn (Below.refl _ _) 1
      have hwm : IntKind.i64.wrap (W - 1) = W - 1 := wrI (by omega)
      have hhm : IntKind.i64.wrap (H - 1) = H - 1 := wrI (by omega)
      refine wp_held [] (fun wx => wx.cell? ⟨w.heap.size, 0, none⟩ = some (.int .i64 W) ∧ wx.cell? ⟨w.heap.size, 1, none⟩ = some (.int .i64 H) ∧ wx.cell? ⟨g10, 1, none⟩ = some (.bool pn0) ∧ wx.cell? ⟨g10, 2, none⟩ = some (.slice pA0 pk0 pc0) ∧ wx.cell? ⟨g10, 3, none⟩ = some (.bool pm0) ∧ wx.cell? ⟨g10, 4, none⟩ = some (.slice pB0 pj0 pd0) ∧ wx.cell? ⟨g10, 5, none⟩ = some (.bool pn1) ∧ wx.cell? ⟨g10, 6, none⟩ = some (.slice pA1 pk1 pc1) ∧ wx.cell? ⟨g10, 7, none⟩ = some (.bool pm1) ∧ wx.cell? ⟨g10, 8, none⟩ = some (.slice pB1 pj1 pd1)) hmx (hS.out _ hb) (fun _ => ?_)
      refine wpAnyL_take (i := 1) (v := ?v3017) rfl (by kernel_rfl) (by kernel_rfl) (by kernel_rfl) (by kernel_rfl) (by kernel_rfl) (Or.inl ⟨by kernel_rfl, ?hy3017⟩) (hS.out _ hb) ?rest3017
      case hy3017 => (intro W2 hSw; (try dsimp only at hSw); go_simp; try with_reducible rfl)
      try simp only [Act.put, List.setIfInBounds_toArray, List.set_cons_zero, List.set_cons_succ]
      refine wpAnyL_take (i := 2) (v := ?v3018) rfl (by kernel_rfl) (by kernel_rfl) (by kernel_rfl) (by kernel_rfl) (by kernel_rfl) (Or.inl ⟨by kernel_rfl, ?hy3018⟩) (hS.out _ hb) ?rest3018
      case hy3018 => (intro W2 hSw; (try dsimp only at hSw); go_simp; try with_reducible rfl)
      try simp only [Act.put, List.setIfInBounds_toArray, List.set_cons_zero, List.set_cons_succ]
      refine wpAnyL_take (i := 3) (v := .int .i64 (W - 1)) rfl (by kernel_rfl) (by kernel_rfl) (by kernel_rfl) (by kernel_rfl) (by kernel_rfl) (Or.inl ⟨by kernel_rfl, ?hy3019⟩) (hS.out _ hb) ?rest3019
      case hy3019 => (intro W2' hSw; (try dsimp only at hSw); go_simp; (try rw [hwm]))
      try simp only [Act.put, List.setIfInBounds_toArray, List.set_cons_zero, List.set_cons_succ]
      refine wpAnyL_take (i := 6) (v := ?v3020) rfl (by kernel_rfl) (by kernel_rfl) (by kernel_rfl) (by kernel_rfl) (by kernel_rfl) (Or.inl ⟨by kernel_rfl, ?hy3020⟩) (hS.out _ hb) ?rest3020
      case hy3020 => (intro W2 hSw; (try dsimp only at hSw); go_simp; try with_reducible rfl)
      try simp only [Act.put, List.setIfInBounds_toArray, List.set_cons_zero, List.set_cons_succ]
      refine wpAnyL_take (i := 7) (v := ?v3021) rfl (by kernel_rfl) (by kernel_rfl) (by kernel_rfl) (by kernel_rfl) (by kernel_rfl) (Or.inl ⟨by kernel_rfl, ?hy3021⟩) (hS.out _ hb) ?rest3021
      case hy3021 => (intro W2 hSw; (try dsimp only at hSw); go_simp; try with_reducible rfl)
      try simp only [Act.put, List.setIfInBounds_toArray, List.set_cons_zero, List.set_cons_succ]
      refine wpAnyL_take (i := 8) (v := .int .i64 (H - 1)) rfl (by kernel_rfl) (by kernel_rfl) (by kernel_rfl) (by kernel_rfl) (by kernel_rfl) (Or.inl ⟨by kernel_rfl, ?hy3022⟩) (hS.out _ hb) ?rest3022
      case hy3022 => (intro W2' hSw; (try dsimp only at hSw); go_simp; (try rw [hhm]))
      try simp only [Act.put, List.setIfInBounds_toArray, List.set_cons_zero, List.set_cons_succ]
      refine wpAnyL_take (i := 11) (v := ?v3023) rfl (by kernel_rfl) (by kernel_rfl) (by kernel_rfl) (by kernel_rfl) (by kernel_rfl) (Or.inl ⟨by kernel_rfl, ?hy3023⟩) (hS.out _ hb) ?rest3023
      case hy3023 => (intro W2 hSw; (try dsimp only at hSw); go_simp; try with_reducible rfl)
      try simp only [Act.put, List.setIfInBounds_toArray, List.set_cons_zero, List.set_cons_succ]
      refine wpAnyL_take (i := 12) (v := ?v3024) rfl (by kernel_rfl) (by kernel_rfl) (by kernel_rfl) (by kernel_rfl) (by kernel_rfl) (Or.inl ⟨by kernel_rfl, ?hy3024⟩) (hS.out _ hb) ?rest3024
      case hy3024 => (intro W2 hSw; (try dsimp only at hSw); go_simp; try with_reducible rfl)
      try simp only [Act.put, List.setIfInBounds_toArray, List.set_cons_zero, List.set_cons_succ]
      refine wpAnyL_take (i := 13) (v := ?v3025) rfl (by kernel_rfl) (by kernel_rfl) (by kernel_rfl) (by kernel_rfl) (by kernel_rfl) (Or.inl ⟨by kernel_rfl, ?hy3025⟩) (hS.out _ hb) ?rest3025
      case hy3025 => (intro W2 hSw; (try dsimp only at hSw); go_simp; try with_reducible rfl)
      try simp only [Act.put, List.setIfInBounds_toArray, List.set_cons_zero, List.set_cons_succ]
      refine wpAnyL_take (i := 14) (v := ?v3026) rfl (by kernel_rfl) (by kernel_rfl) (by kernel_rfl) (by kernel_rfl) (by kernel_rfl) (Or.inl ⟨by kernel_rfl, ?hy3026⟩) (hS.out _ hb) ?rest3026
      case hy3026 => (intro W2 hSw; (try dsimp only at hSw); go_simp; try with_reducible rfl)
      try simp only [Act.put, List.setIfInBounds_toArray, List.set_cons_zero, List.set_cons_succ]
      refine wpAnyL_one (i := 0) rfl (by kernel_rfl) (fun K hK => ?_)
      go_simp
      refine (lawOf_ok 0 1 _ (by omega) (by omega) (by omega) (by omega)).mono ?_
      rintro e zf0 ⟨hbz, tn0, tA0, tk0, tc0, tm0, tB0, tj0, td0, rfl, tf0⟩
      replace hb := hb.trans (hbz.mono hb.size)
      replace tf0 := hide tf0
      clear hbz
      refine hK.out _ _ (fun _ => hS.out _ hb) ?_
      clear hK K
      try simp only [Act.put, List.setIfInBounds_toArray, List.set_cons_zero, List.set_cons_succ]
      refine wpAnyL_one (i := 4) rfl (by kernel_rfl) (fun K hK => ?_)
      go_simp
      refine (lawOf_ok (W - 1) 1 _ (by omega) (by omega) (by omega) (by omega)).mono ?_
      rintro e zf1 ⟨hbz, tn1, tA1, tk1, tc1, tm1, tB1, tj1, td1, rfl, tf1⟩
      replace hb := hb.trans (hbz.mono hb.size)
      replace tf1 := hide tf1
      replace tf0 := hide (tf0.out.below hbz)
      clear hbz
      refine hK.out _ _ (fun _ => hS.out _ hb) ?_
      clear hK K
      try simp only [Act.put, List.setIfInBounds_toArray, List.set_cons_zero, List.set_cons_succ]
      refine wpAnyL_one (i := 5) rfl (by kernel_rfl) (fun K hK => ?_)
      go_simp
      refine (lawOf_ok 0 1 _ (by omega) (by omega) (by omega) (by omega)).mono ?_
      rintro e zf2 ⟨hbz, tn2, tA2, tk2, tc2, tm2, tB2, tj2, td2, rfl, tf2⟩
      replace hb := hb.trans (hbz.mono hb.size)
      replace tf2 := hide tf2
      replace tf0 := hide (tf0.out.below hbz)
      replace tf1 := hide (tf1.out.below hbz)
      clear hbz
      refine hK.out _ _ (fun _ => hS.out _ hb) ?_
      clear hK K
      try simp only [Act.put, List.setIfInBounds_toArray, List.set_cons_zero, List.set_cons_succ]
      refine wpAnyL_one (i := 9) rfl (by kernel_rfl) (fun K hK => ?_)
      go_simp
      refine (lawOf_ok (H - 1) 1 _ (by omega) (by omega) (by omega) (by omega)).mono ?_
      rintro e zf3 ⟨hbz, tn3, tA3, tk3, tc3, tm3, tB3, tj3, td3, rfl, tf3⟩
      replace hb := hb.trans (hbz.mono hb.size)
      replace tf3 := hide tf3
      replace tf0 := hide (tf0.out.below hbz)
      replace tf1 := hide (tf1.out.below hbz)
      replace tf2 := hide (tf2.out.below hbz)
      clear hbz
      refine hK.out _ _ (fun _ => hS.out _ hb) ?_
      clear hK K
      try simp only [Act.put, List.setIfInBounds_toArray, List.set_cons_zero, List.set_cons_succ]
      refine wpAnyL_one (i := 10) rfl (by kernel_rfl) (fun K hK => ?_)
      go_simp
      refine hK.out _ _ (fun _ => hS.out _ hb) ?_
      clear hK K
      try simp only [Act.put, List.setIfInBounds_toArray, List.set_cons_zero, List.set_cons_succ]
      refine wpAnyL_one (i := 15) rfl (by kernel_rfl) (fun K hK => ?_)
      go_simp
      refine (holds_ok tn0 tm0 tA0 tB0 tk0 tc0 tj0 td0 tn1 tm1 tA1 tB1 tk1 tc1 tj1 td1 tn2 tm2 tA2 tB2 tk2 tc2 tj2 td2 tn3 tm3 tA3 tB3 tk3 tc3 tj3 td3 pn0 pm0 pA0 pB0 pk0 pc0 pj0 pd0 pn1 pm1 pA1 pB1 pk1 pc1 pj1 pd1 (Rat.divInt 0 1) (Rat.divInt (W - 1) 1) (Rat.divInt 0 1) (Rat.divInt (H - 1) 1) mx my zf3 tf0.out (sm100 (by omega) (by omega) (by omega)) tf1.out (sm100 (by omega) (by omega) (by omega)) tf2.out (sm100 (by omega) (by omega) (by omega)) tf3.out (sm100 (by omega) (by omega) (by omega)) (f0.out.below hb) (sX.out.sm (by omega) (by omega)) (f1.out.below hb) (sY.out.sm (by omega) (by omega)) R hR.out).mono ?_
      rintro e zg ⟨rfl, hbz⟩
      replace hb := hb.trans (hbz.mono hb.size)
      clear tf0 tf1 tf2 tf3
      clear hbz
      refine hK.out _ _ (fun _ => hS.out _ hb) ?_
      clear hK K
      try simp only [Act.put, List.setIfInBounds_toArray, List.set_cons_zero, List.set_cons_succ]
      refine wpAnyL_one (i := 16) rfl (by kernel_rfl) (fun K hK => ?_)
      go_simp
      refine hK.out _ _ (fun _ => hS.out _ hb) ?_
      clear hK K
      try simp only [Act.put, List.setIfInBounds_toArray, List.set_cons_zero, List.set_cons_succ]
      refine wpAnyL_take (i := 17) (v := ?v3027) rfl (by kernel_rfl) (by kernel_rfl) (by kernel_rfl) (by kernel_rfl) (by kernel_rfl) (Or.inl ⟨by kernel_rfl, ?hy3027⟩) (hS.out _ hb) ?rest3027
      case hy3027 => (intro W2 hSw; (try dsimp only at hSw); go_simp; try with_reducible rfl)
      try simp only [Act.put, List.setIfInBounds_toArray, List.set_cons_zero, List.set_cons_succ]
      refine wpAnyL_take (i := 18) (v := ?v3028) rfl (by kernel_rfl) (by kernel_rfl) (by kernel_rfl) (by kernel_rfl) (by kernel_rfl) (Or.inl ⟨by kernel_rfl, ?hy3028⟩) (hS.out _ hb) ?rest3028
      case hy3028 => (intro W2 hSw; (try dsimp only at hSw); go_simp; try with_reducible rfl)
      try simp only [Act.put, List.setIfInBounds_toArray, List.set_cons_zero, List.set_cons_succ]
      refine wpAnyL_one (i := 19) rfl (by kernel_rfl) (fun K hK => ?_)
      go_simp
      refine hK.out _ _ (fun _ => hS.out _ hb) ?_
      clear hK K
      try simp only [Act.put, List.setIfInBounds_toArray, List.set_cons_zero, List.set_cons_succ]
      refine wpAnyL_one (i := 20) rfl (by kernel_rfl) (fun K hK => ?_)
      go_simp
      refine hK.out _ _ (fun _ => hS.out _ hb) ?_
      clear hK K
      try simp only [Act.put, List.setIfInBounds_toArray, List.set_cons_zero, List.set_cons_succ]
      refine wpAnyL_done (by kernel_rfl) ?_ _
      refine OnlyNormal.normal ?_
      replace hbv := hbv.trans (hb.mono hbv.size)
      clear hS hb f0 f1 qmx
      cases pos
      case false =>
        cases R
        case false => (go_wp2_with fail; go_ret; exact ⟨rfl, hBl.out _ hbv⟩)
        case true => (go_wp2_with fail; go_ret; exact ⟨rfl, hBl.out _ hbv⟩)
      case true =>
        obtain rfl : R = true := hR2.out rfl
        go_wp2_with fail
        go_ret
        exact ⟨rfl, hBl.out _ hbv⟩
    have htk : decide ((k : Int) < (m : Int)) = true := by simp; omega
    obtain ⟨gl, ol, rfl, hc⟩ := hl.out.2.2.2.2 hm0
    have hck := ((hBl.out _ hbr).cell (lt_of_cell (hc k hk))).trans (hc k hk)
    obtain ⟨gp, op, rfl, hcq⟩ := hp.out.2.2.2.2 hn0
    have hlk := hin.out k hk
    have hmd : movd W dx dy l (k + 1) = movd W dx dy l k ++ [mov W dx dy (l[k]?.getD 0)] := rfl
    have hmp : movP W dx dy ps l N (k + 1) = (movP W dx dy ps l N k).set (mov W dx dy (l[k]?.getD 0)).toNat (ps[(l[k]?.getD 0).toNat]?.getD 0) := rfl
    have hpk : posK ps l (k + 1) = (posK ps l k && decide (0 ≤ ps[(l[k]?.getD 0).toNat]?.getD 0)) := rfl
    have hckl := lt_of_cell (hc k hk)
    have hckw := hc k hk
    clear hc
    obtain ⟨j, hj⟩ : ∃ j : Nat, l[k]?.getD 0 = j := ⟨(l[k]?.getD 0).toNat, by omega⟩
    rw [hj] at hck hlk hmd hmp hpk hckw
    rw [Int.toNat_natCast] at hmp hpk
    have hjn : j < n := by omega
    have hcpw := hcq j hjn
    have hcpl := lt_of_cell hcpw
    have hcp := ((hBl.out _ hbr).cell hcpl).trans hcpw
    clear hcq
    have sf := mov_facts (dx := dx) (dy := dy) (i := (j : Int)) hf.out (by omega) (by omega) (by omega) (by omega)
    obtain ⟨s, hs⟩ : ∃ s : Nat, mov W dx dy (j : Int) = s := ⟨(mov W dx dy (j : Int)).toNat, by omega⟩
    rw [hs] at hmd hmp sf
    rw [Int.toNat_natCast] at hmp
    have hsN : s < N := by
      have := hN'.out
      omega
    have e5 := mov_wrap (W2 := W2) (show 0 ≤ (j : Int) by omega) hW2.out hs sf.2.2.2.2.2.2.2.2 sf.2.2.2.2.2.2.1 (by have := hf.out; omega) sf.2.2.2.2.1 (by omega) (by omega) (by omega)
    have hac := (hMa s (by rw [movP_length]; exact hsN)).1
    have haf := (hMa s (by rw [movP_length]; exact hsN)).2
    generalize (movP W dx dy ps l N k)[s]?.getD 0 = oldv at *
    generalize ps[j]?.getD 0 = P at *
    have hWn : ¬ W = 0 := by have := hf.out.1; omega
    have hWz : (W == 0) = false := by simpa using hWn
    have hj0' : (0 : Int) ≤ (j : Int) := by omega
    have hji : (j : Int) < (n : Int) := by omega
    have hsi : (s : Int) < (N : Int) := by omega
    have hs0 : (0 : Int) ≤ (s : Int) := by omega
    have q2 := r2.cell 0
    have q3 := r2.cell 2
    simp at q2 q3
    obtain ⟨pos, hpos⟩ : ∃ pos, posK ps l k = pos := ⟨_, rfl⟩
    rw [hpos] at hpk ⊢
    replace hpos := hide hpos
    replace hpk := hide hpk
    replace hmd := hide hmd
    replace hmp := hide hmp
    replace e5 := hide e5
    replace hs := hide hs
    replace sf := hide sf
    replace hj := hide hj
    replace hlk := hide hlk
    replace hMa := hide hMa
    replace hO := hide hO
    replace r2 := hide r2
    go_wp2_with fail
    refine wp_held [] (fun wx => wx.cell? ⟨w.heap.size, 0, none⟩ = some (.int .i64 W) ∧ wx.cell? ⟨h1, 0, none⟩ = some (.int .i64 W2) ∧ wx.cell? ⟨gl, ol + k, none⟩ = some (.int .i64 j)) hmx ⟨x0, q2, hck⟩ (fun _ => ?_)
    refine wpAnyL_take (i := 0) (v := ?v18) rfl (by kernel_rfl) (by kernel_rfl) (by kernel_rfl) (by kernel_rfl) (by kernel_rfl) (Or.inl ⟨by rfl, ?hy18⟩) ⟨x0, q2, hck⟩ ?rest18
    case hy18 => (intro W2 hSw; (try dsimp only at hSw); go_simp; try with_reducible rfl)
    try simp only [Act.put, List.setIfInBounds_toArray, List.set_cons_zero, List.set_cons_succ]
    refine wpAnyL_take (i := 1) (v := ?v19) rfl (by kernel_rfl) (by kernel_rfl) (by kernel_rfl) (by kernel_rfl) (by kernel_rfl) (Or.inl ⟨by rfl, ?hy19⟩) ⟨x0, q2, hck⟩ ?rest19
    case hy19 => (intro W2 hSw; (try dsimp only at hSw); go_simp; try with_reducible rfl)
    try simp only [Act.put, List.setIfInBounds_toArray, List.set_cons_zero, List.set_cons_succ]
    refine wpAnyL_take (i := 2) (v := ?v20) rfl (by kernel_rfl) (by kernel_rfl) (by kernel_rfl) (by kernel_rfl) (by kernel_rfl) (Or.inl ⟨by rfl, ?hy20⟩) ⟨x0, q2, hck⟩ ?rest20
    case hy20 => (intro W2 hSw; (try dsimp only at hSw); go_simp; try with_reducible rfl)
    try simp only [Act.put, List.setIfInBounds_toArray, List.set_cons_zero, List.set_cons_succ]
    refine wpAnyL_take (i := 3) (v := ?v21) rfl (by kernel_rfl) (by kernel_rfl) (by kernel_rfl) (by kernel_rfl) (by kernel_rfl) (Or.inl ⟨by rfl, ?hy21⟩) ⟨x0, q2, hck⟩ ?rest21
    case hy21 => (intro W2 hSw; (try dsimp only at hSw); go_simp; try with_reducible rfl)
    try simp only [Act.put, List.setIfInBounds_toArray, List.set_cons_zero, List.set_cons_succ]
    refine wpAnyL_take (i := 4) (v := ?v22) rfl (by kernel_rfl) (by kernel_rfl) (by kernel_rfl) (by kernel_rfl) (by kernel_rfl) (Or.inl ⟨by rfl, ?hy22⟩) ⟨x0, q2, hck⟩ ?rest22
    case hy22 => (intro W2 hSw; (try dsimp only at hSw); go_simp; try with_reducible rfl)
    try simp only [Act.put, List.setIfInBounds_toArray, List.set_cons_zero, List.set_cons_succ]
    refine wpAnyL_take (i := 5) (v := ?v23) rfl (by kernel_rfl) (by kernel_rfl) (by kernel_rfl) (by kernel_rfl) (by kernel_rfl) (Or.inl ⟨by rfl, ?hy23⟩) ⟨x0, q2, hck⟩ ?rest23
    case hy23 => (intro W2 hSw; (try dsimp only at hSw); go_simp; try with_reducible rfl)
    try simp only [Act.put, List.setIfInBounds_toArray, List.set_cons_zero, List.set_cons_succ]
    refine wpAnyL_take (i := 6) (v := ?v24) rfl (by kernel_rfl) (by kernel_rfl) (by kernel_rfl) (by kernel_rfl) (by kernel_rfl) (Or.inl ⟨by rfl, ?hy24⟩) ⟨x0, q2, hck⟩ ?rest24
    case hy24 => (intro W2 hSw; (try dsimp only at hSw); go_simp; try with_reducible rfl)
    try simp only [Act.put, List.setIfInBounds_toArray, List.set_cons_zero, List.set_cons_succ]
    refine wpAnyL_take (i := 7) (v := ?v25) rfl (by kernel_rfl) (by kernel_rfl) (by kernel_rfl) (by kernel_rfl) (by kernel_rfl) (Or.inl ⟨by rfl, ?hy25⟩) ⟨x0, q2, hck⟩ ?rest25
    case hy25 => (intro W2 hSw; (try dsimp only at hSw); go_simp; try with_reducible rfl)
    try simp only [Act.put, List.setIfInBounds_toArray, List.set_cons_zero, List.set_cons_succ]
    refine wpAnyL_take (i := 8) (v := ?v26) rfl (by kernel_rfl) (by kernel_rfl) (by kernel_rfl) (by kernel_rfl) (by kernel_rfl) (Or.inl ⟨by rfl, ?hy26⟩) ⟨x0, q2, hck⟩ ?rest26
    case hy26 => (intro W2 hSw; (try dsimp only at hSw); go_simp; try with_reducible rfl)
    try simp only [Act.put, List.setIfInBounds_toArray, List.set_cons_zero, List.set_cons_succ]
    refine wpAnyL_take (i := 9) (v := ?v27) rfl (by kernel_rfl) (by kernel_rfl) (by kernel_rfl) (by kernel_rfl) (by kernel_rfl) (Or.inl ⟨by rfl, ?hy27⟩) ⟨x0, q2, hck⟩ ?rest27
    case hy27 => (intro W2 hSw; (try dsimp only at hSw); go_simp; try with_reducible rfl)
    try simp only [Act.put, List.setIfInBounds_toArray, List.set_cons_zero, List.set_cons_succ]
    refine wpAnyL_take (i := 10) (v := ?v28) rfl (by kernel_rfl) (by kernel_rfl) (by kernel_rfl) (by kernel_rfl) (by kernel_rfl) (Or.inl ⟨by rfl, ?hy28⟩) ⟨x0, q2, hck⟩ ?rest28
    case hy28 => (intro W2 hSw; (try dsimp only at hSw); go_simp; try with_reducible rfl)
    try simp only [Act.put, List.setIfInBounds_toArray, List.set_cons_zero, List.set_cons_succ]
    refine wpAnyL_take (i := 11) (v := ?v29) rfl (by kernel_rfl) (by kernel_rfl) (by kernel_rfl) (by kernel_rfl) (by kernel_rfl) (Or.inl ⟨by rfl, ?hy29⟩) ⟨x0, q2, hck⟩ ?rest29
    case hy29 => (intro W2 hSw; (try dsimp only at hSw); go_simp; try with_reducible rfl)
    try simp only [Act.put, List.setIfInBounds_toArray, List.set_cons_zero, List.set_cons_succ]
    refine wpAnyL_take (i := 12) (v := ?v30) rfl (by kernel_rfl) (by kernel_rfl) (by kernel_rfl) (by kernel_rfl) (by kernel_rfl) (Or.inl ⟨by rfl, ?hy30⟩) ⟨x0, q2, hck⟩ ?rest30
    case hy30 => (intro W2 hSw; (try dsimp only at hSw); go_simp; try with_reducible rfl)
    try simp only [Act.put, List.setIfInBounds_toArray, List.set_cons_zero, List.set_cons_succ]
    refine wpAnyL_take (i := 13) (v := ?v31) rfl (by kernel_rfl) (by kernel_rfl) (by kernel_rfl) (by kernel_rfl) (by kernel_rfl) (Or.inl ⟨by rfl, ?hy31⟩) ⟨x0, q2, hck⟩ ?rest31
    case hy31 => (intro W2 hSw; (try dsimp only at hSw); go_simp; try with_reducible rfl)
    try simp only [Act.put, List.setIfInBounds_toArray, List.set_cons_zero, List.set_cons_succ]
    refine wpAnyL_take (i := 14) (v := ?v32) rfl (by kernel_rfl) (by kernel_rfl) (by kernel_rfl) (by kernel_rfl) (by kernel_rfl) (Or.inl ⟨by rfl, ?hy32⟩) ⟨x0, q2, hck⟩ ?rest32
    case hy32 => (intro W2 hSw; (try dsimp only at hSw); go_simp; try with_reducible rfl)
    try simp only [Act.put, List.setIfInBounds_toArray, List.set_cons_zero, List.set_cons_succ]
    refine wpAnyL_take (i := 15) (v := ?v33) rfl (by kernel_rfl) (by kernel_rfl) (by kernel_rfl) (by kernel_rfl) (by kernel_rfl) (Or.inl ⟨by rfl, ?hy33⟩) ⟨x0, q2, hck⟩ ?rest33
    case hy33 => (intro W2 hSw; (try dsimp only at hSw); go_simp; try with_reducible rfl)
    try simp only [Act.put, List.setIfInBounds_toArray, List.set_cons_zero, List.set_cons_succ]
    refine wpAnyL_take (i := 16) (v := ?v34) rfl (by kernel_rfl) (by kernel_rfl) (by kernel_rfl) (by kernel_rfl) (by kernel_rfl) (Or.inl ⟨by rfl, ?hy34⟩) ⟨x0, q2, hck⟩ ?rest34
    case hy34 => (intro W2 hSw; (try dsimp only at hSw); go_simp; try with_reducible rfl)
    try simp only [Act.put, List.setIfInBounds_toArray, List.set_cons_zero, List.set_cons_succ]
    refine wpAnyL_take (i := 17) (v := ?v35) rfl (by kernel_rfl) (by kernel_rfl) (by kernel_rfl) (by kernel_rfl) (by kernel_rfl) (Or.inl ⟨by rfl, ?hy35⟩) ⟨x0, q2, hck⟩ ?rest35
    case hy35 => (intro W2 hSw; (try dsimp only at hSw); go_simp; try with_reducible rfl)
    try simp only [Act.put, List.setIfInBounds_toArray, List.set_cons_zero, List.set_cons_succ]
    refine wpAnyL_take (i := 18) (v := ?v36) rfl (by kernel_rfl) (by kernel_rfl) (by kernel_rfl) (by kernel_rfl) (by kernel_rfl) (Or.inl ⟨by rfl, ?hy36⟩) ⟨x0, q2, hck⟩ ?rest36
    case hy36 => (intro W2 hSw; (try dsimp only at hSw); go_simp; try with_reducible rfl)
    try simp only [Act.put, List.setIfInBounds_toArray, List.set_cons_zero, List.set_cons_succ]
    refine wpAnyL_take (i := 19) (v := ?v37) rfl (by kernel_rfl) (by kernel_rfl) (by kernel_rfl) (by kernel_rfl) (by kernel_rfl) (Or.inl ⟨by rfl, ?hy37⟩) ⟨x0, q2, hck⟩ ?rest37
    case hy37 => (intro W2 hSw; (try dsimp only at hSw); go_simp; try with_reducible rfl)
    try simp only [Act.put, List.setIfInBounds_toArray, List.set_cons_zero, List.set_cons_succ]
    refine wpAnyL_take (i := 20) (v := ?v38) rfl (by kernel_rfl) (by kernel_rfl) (by kernel_rfl) (by kernel_rfl) (by kernel_rfl) (Or.inl ⟨by rfl, ?hy38⟩) ⟨x0, q2, hck⟩ ?rest38
    case hy38 => (intro W2 hSw; (try dsimp only at hSw); go_simp; try with_reducible rfl)
    try simp only [Act.put, List.setIfInBounds_toArray, List.set_cons_zero, List.set_cons_succ]
    refine wpAnyL_take (i := 21) (v := .int .i64 (s : Int)) rfl (by kernel_rfl) (by kernel_rfl) (by kernel_rfl) (by kernel_rfl) (by kernel_rfl) (Or.inl ⟨by rfl, ?hy39⟩) ⟨x0, q2, hck⟩ ?rest39
    case hy39 => (intro W2' hSw; (try dsimp only at hSw); go_simp; (try rw [e5.out]))
    try simp only [Act.put, List.setIfInBounds_toArray, List.set_cons_zero, List.set_cons_succ]
    refine wpAnyL_one (i := 22) rfl (by kernel_rfl) (fun K hK => ?_)
    go_simp
    refine hK.out _ _ (fun _ => ⟨x0, q2, hck⟩) ?_
    clear hK K
    try simp only [Act.put, List.setIfInBounds_toArray, List.set_cons_zero, List.set_cons_succ]
    refine wpAnyL_done (by kernel_rfl) ?_ _
    refine OnlyNormal.normal ?_
    go_wp2_with fail
    refine wp_held [12] (fun wx => wx.cell? ⟨w.heap.size, 2, none⟩ = some (.slice (some ⟨gp, op, none⟩) n c) ∧ wx.cell? ⟨h1, 2, none⟩ = some (.slice (some ⟨ga, 0, none⟩) N N) ∧ wx.cell? ⟨gl, ol + k, none⟩ = some (.int .i64 j) ∧ wx.cell? ⟨gp, op + j, none⟩ = some (.int .i64 P)) hmx ⟨x2, q3, hck, hcp⟩ (fun _ => ?_)
    refine wpAnyL_take (i := 0) (v := ?v40) rfl (by kernel_rfl) (by kernel_rfl) (by kernel_rfl) (by kernel_rfl) (by kernel_rfl) (Or.inl ⟨by rfl, ?hy40⟩) ⟨x2, q3, hck, hcp⟩ ?rest40
    case hy40 => (intro W2 hSw; (try dsimp only at hSw); go_simp; try with_reducible rfl)
    try simp only [Act.put, List.setIfInBounds_toArray, List.set_cons_zero, List.set_cons_succ]
    refine wpAnyL_take (i := 1) (v := ?v41) rfl (by kernel_rfl) (by kernel_rfl) (by kernel_rfl) (by kernel_rfl) (by kernel_rfl) (Or.inl ⟨by rfl, ?hy41⟩) ⟨x2, q3, hck, hcp⟩ ?rest41
    case hy41 => (intro W2 hSw; (try dsimp only at hSw); go_simp; try with_reducible rfl)
    try simp only [Act.put, List.setIfInBounds_toArray, List.set_cons_zero, List.set_cons_succ]
    refine wpAnyL_take (i := 2) (v := ?v42) rfl (by kernel_rfl) (by kernel_rfl) (by kernel_rfl) (by kernel_rfl) (by kernel_rfl) (Or.inl ⟨by rfl, ?hy42⟩) ⟨x2, q3, hck, hcp⟩ ?rest42
    case hy42 => (intro W2 hSw; (try dsimp only at hSw); go_simp; try with_reducible rfl)
    try simp only [Act.put, List.setIfInBounds_toArray, List.set_cons_zero, List.set_cons_succ]
    refine wpAnyL_take (i := 3) (v := ?v43) rfl (by kernel_rfl) (by kernel_rfl) (by kernel_rfl) (by kernel_rfl) (by kernel_rfl) (Or.inl ⟨by rfl, ?hy43⟩) ⟨x2, q3, hck, hcp⟩ ?rest43
    case hy43 => (intro W2 hSw; (try dsimp only at hSw); go_simp; try with_reducible rfl)
    try simp only [Act.put, List.setIfInBounds_toArray, List.set_cons_zero, List.set_cons_succ]
    refine wpAnyL_take (i := 4) (v := ?v44) rfl (by kernel_rfl) (by kernel_rfl) (by kernel_rfl) (by kernel_rfl) (by kernel_rfl) (Or.inl ⟨by rfl, ?hy44⟩) ⟨x2, q3, hck, hcp⟩ ?rest44
    case hy44 => (intro W2 hSw; (try dsimp only at hSw); go_simp; try with_reducible rfl)
    try simp only [Act.put, List.setIfInBounds_toArray, List.set_cons_zero, List.set_cons_succ]
    refine wpAnyL_take (i := 5) (v := ?v45) rfl (by kernel_rfl) (by kernel_rfl) (by kernel_rfl) (by kernel_rfl) (by kernel_rfl) (Or.inl ⟨by rfl, ?hy45⟩) ⟨x2, q3, hck, hcp⟩ ?rest45
    case hy45 => (intro W2 hSw; (try dsimp only at hSw); go_simp; try with_reducible rfl)
    try simp only [Act.put, List.setIfInBounds_toArray, List.set_cons_zero, List.set_cons_succ]
    refine wpAnyL_take (i := 6) (v := ?v46) rfl (by kernel_rfl) (by kernel_rfl) (by kernel_rfl) (by kernel_rfl) (by kernel_rfl) (Or.inl ⟨by rfl, ?hy46⟩) ⟨x2, q3, hck, hcp⟩ ?rest46
    case hy46 => (intro W2 hSw; (try dsimp only at hSw); go_simp; try with_reducible rfl)
    try simp only [Act.put, List.setIfInBounds_toArray, List.set_cons_zero, List.set_cons_succ]
    refine wpAnyL_take (i := 7) (v := ?v47) rfl (by kernel_rfl) (by kernel_rfl) (by kernel_rfl) (by kernel_rfl) (by kernel_rfl) (Or.inl ⟨by rfl, ?hy47⟩) ⟨x2, q3, hck, hcp⟩ ?rest47
    case hy47 => (intro W2 hSw; (try dsimp only at hSw); go_simp; try with_reducible rfl)
    try simp only [Act.put, List.setIfInBounds_toArray, List.set_cons_zero, List.set_cons_succ]
    refine wpAnyL_take (i := 8) (v := ?v48) rfl (by kernel_rfl) (by kernel_rfl) (by kernel_rfl) (by kernel_rfl) (by kernel_rfl) (Or.inl ⟨by rfl, ?hy48⟩) ⟨x2, q3, hck, hcp⟩ ?rest48
    case hy48 => (intro W2 hSw; (try dsimp only at hSw); go_simp; try with_reducible rfl)
    try simp only [Act.put, List.setIfInBounds_toArray, List.set_cons_zero, List.set_cons_succ]
    refine wpAnyL_take (i := 9) (v := ?v49) rfl (by kernel_rfl) (by kernel_rfl) (by kernel_rfl) (by kernel_rfl) (by kernel_rfl) (Or.inl ⟨by rfl, ?hy49⟩) ⟨x2, q3, hck, hcp⟩ ?rest49
    case hy49 => (intro W2 hSw; (try dsimp only at hSw); go_simp; try with_reducible rfl)
    try simp only [Act.put, List.setIfInBounds_toArray, List.set_cons_zero, List.set_cons_succ]
    refine wpAnyL_take (i := 10) (v := ?v50) rfl (by kernel_rfl) (by kernel_rfl) (by kernel_rfl) (by kernel_rfl) (by kernel_rfl) (Or.inl ⟨by rfl, ?hy50⟩) ⟨x2, q3, hck, hcp⟩ ?rest50
    case hy50 => (intro W2 hSw; (try dsimp only at hSw); go_simp; try with_reducible rfl)
    try simp only [Act.put, List.setIfInBounds_toArray, List.set_cons_zero, List.set_cons_succ]
    refine wpAnyL_take (i := 11) (v := ?v51) rfl (by kernel_rfl) (by kernel_rfl) (by kernel_rfl) (by kernel_rfl) (by kernel_rfl) (Or.inl ⟨by rfl, ?hy51⟩) ⟨x2, q3, hck, hcp⟩ ?rest51
    case hy51 => (intro W2 hSw; (try dsimp only at hSw); go_simp; try with_reducible rfl)
    try simp only [Act.put, List.setIfInBounds_toArray, List.set_cons_zero, List.set_cons_succ]
    refine nameL (wr.setCell ⟨ga, s, none⟩ (.int .i64 P)).drew.drew (fun wx hwx => ?_)
    have hbx : Below V4.heap.size V4 wx := by rw [← hwx]; exact below_dn (below_dn (hbr.setCell (p := ⟨ga, s, none⟩) hG.out.2.2.1 (.int .i64 P)) 1) 1
    have r2x : Blk wx h1 24 #[.int .i64 W2, .int .i64 H2, .slice (some ⟨ga, 0, none⟩) N N] := by rw [← hwx]; exact ((r2.out.far (p := ⟨ga, s, none⟩) (fun e => hG.out.2.2.2.2.1 e.symm) (.int .i64 P)).drew).drew
    have hMax : MutI wx ga (movP W dx dy ps l N (k + 1)) := by rw [← hwx, hmp.out]; exact hMa.out.set_ s P
    have hOx := hO.out.blk (w' := (wr.setCell ⟨ga, s, none⟩ (.int .i64 P)).drew.drew) (fun g hg _ => Below.heap_setCell _ ⟨ga, s, none⟩ _ g (fun e => by have := hG.out.1; have e2 : g = ga := e; omega))
    rw [hwx] at hOx
    have hszx : g0 ≤ wx.heap.size := by rw [← hwx]; simpa using hg0r
    refine wpAnyL_late (i := 12) rfl (by kernel_rfl) (by kernel_rfl) (fun K hK => ?_)
    go_simp
    (try rw [hwx])
    refine hK.out _ _ ?_
    clear hK K
    try simp only [Act.put, List.setIfInBounds_toArray, List.set_cons_zero, List.set_cons_succ]
    clear hwx r2 hMa hO hac haf x0 x1 x2 q2 q3 hcp hck hbr hg0r
    refine wpAnyL_done (by kernel_rfl) ?_ _
    refine OnlyNormal.normal ?_
    obtain ⟨V, hV, hBV, qV, -, -, -⟩ := new_obj 3 #[.int .i64 (s : Int)] (Below.refl g0 wx) hszx
    have hsI : I64 (s : Int) := by unfold I64; omega
    have hsV : g0 ≤ V.heap.size := Nat.le_trans hszx hBV.size
    have hR := (LimI.of_blk (l := [(s : Int)]) qV rfl (by simpa using hsI) (by simp)).reads
    have hOV := hOx.1.alloc (.cells #[.int .i64 (s : Int)] 3)
    rw [hV] at hOV
    have hI2 := hOx.2
    rw [movd_length] at hOV
    replace hOV := hide hOV
    replace hR := hide hR
    replace hI2 := hide hI2
    clear hOx
    go_wp2_with (at_builtin; refine wpList_append_any _ rfl (.tmp 130) (.tmp 132) 35 rfl g0 3 il _ 1 8 Try.underlying35 hj0 hjz0 hjz1 hjz2 rfl (by omega) _ k ((movd W dx dy l k).map intv) rfl hOV.out _ (some ⟨wx.heap.size, 0, none⟩) 1 1 [intv (s : Int)] rfl hR.out (oneCell_ints [(s : Int)]) (by simp only [maxLen]; omega) (by omega) hsV ?_; intro v5 w5 hO5 hg5 hat5)
    have hB5 : Below g0 wx w5 := hBV.grown hg5 hsV (fun k hk => row_geL hOV.out k hk)
    have hb5 : Below V4.heap.size V4 w5 := hbx.trans (hB5.mono hG.out.2.2.2.2.2)
    have r5 : Hid (Blk w5 h1 24 #[.int .i64 W2, .int .i64 H2, .slice (some ⟨ga, 0, none⟩) N N]) := hide (r2x.below hB5 hG.out.2.1)
    have hM5 : Hid (MutI w5 ga (movP W dx dy ps l N (k + 1))) := hide (hMax.belowB hG.out.1 hB5)
    have hO5' : Hid (OwnI 3 w5 g0 v5 (movd W dx dy l (k + 1))) := hide (by rw [hmd.out]; exact OwnI.append (m := [(s : Int)]) (movd_length ..).symm rfl hO5 hI2.out (by simpa using hsI))
    have hsz5 : g0 ≤ w5.heap.size := Nat.le_trans hszx hB5.size
    clear hsV hV hBV qV hR hOV hI2 hO5 hg5 hat5 hB5 r2x hMax hszx hbx
    obtain ⟨x0, x1, x2⟩ := hSf.out _ hb5
    have hck := ((hBl.out _ hb5).cell hckl).trans hckw
    have hcp := ((hBl.out _ hb5).cell hcpl).trans hcpw
    go_wp2_with fail
    cases pos
    case false =>
      refine wp_held [] (fun wx => wx.cell? ⟨w.heap.size, 2, none⟩ = some (.slice (some ⟨gp, op, none⟩) n c) ∧ wx.cell? ⟨gl, ol + k, none⟩ = some (.int .i64 j) ∧ wx.cell? ⟨gp, op + j, none⟩ = some (.int .i64 P)) hmx ⟨x2, hck, hcp⟩ (fun _ => ?_)
      refine wpAnyL_one (i := 0) rfl (by kernel_rfl) (fun K hK => ?_)
      go_simp
      refine hK.out _ _ (fun _ => ⟨x2, hck, hcp⟩) ?_
      clear hK K
      try simp only [Act.put, List.setIfInBounds_toArray, List.set_cons_zero, List.set_cons_succ]
      refine wpAnyL_one (i := 1) rfl (by kernel_rfl) (fun K hK => ?_)
      go_simp
      refine hK.out _ _ (fun _ => ⟨x2, hck, hcp⟩) ?_
      clear hK K
      try simp only [Act.put, List.setIfInBounds_toArray, List.set_cons_zero, List.set_cons_succ]
      refine wpAnyL_take (i := 2) (v := undef) rfl (by kernel_rfl) (by kernel_rfl) (by kernel_rfl) (by kernel_rfl) (by kernel_rfl) (Or.inr ⟨by kernel_rfl, rfl⟩) ⟨x2, hck, hcp⟩ ?_
      try simp only [Act.put, List.setIfInBounds_toArray, List.set_cons_zero, List.set_cons_succ]
      refine wpAnyL_take (i := 3) (v := undef) rfl (by kernel_rfl) (by kernel_rfl) (by kernel_rfl) (by kernel_rfl) (by kernel_rfl) (Or.inr ⟨by kernel_rfl, rfl⟩) ⟨x2, hck, hcp⟩ ?_
      try simp only [Act.put, List.setIfInBounds_toArray, List.set_cons_zero, List.set_cons_succ]
      refine wpAnyL_take (i := 4) (v := undef) rfl (by kernel_rfl) (by kernel_rfl) (by kernel_rfl) (by kernel_rfl) (by kernel_rfl) (Or.inr ⟨by kernel_rfl, rfl⟩) ⟨x2, hck, hcp⟩ ?_
      try simp only [Act.put, List.setIfInBounds_toArray, List.set_cons_zero, List.set_cons_succ]
      refine wpAnyL_take (i := 5) (v := undef) rfl (by kernel_rfl) (by kernel_rfl) (by kernel_rfl) (by kernel_rfl) (by kernel_rfl) (Or.inr ⟨by kernel_rfl, rfl⟩) ⟨x2, hck, hcp⟩ ?_
      try simp only [Act.put, List.setIfInBounds_toArray, List.set_cons_zero, List.set_cons_succ]
      refine wpAnyL_take (i := 6) (v := undef) rfl (by kernel_rfl) (by kernel_rfl) (by kernel_rfl) (by kernel_rfl) (by kernel_rfl) (Or.inr ⟨by kernel_rfl, rfl⟩) ⟨x2, hck, hcp⟩ ?_
      try simp only [Act.put, List.setIfInBounds_toArray, List.set_cons_zero, List.set_cons_succ]
      refine wpAnyL_take (i := 7) (v := undef) rfl (by kernel_rfl) (by kernel_rfl) (by kernel_rfl) (by kernel_rfl) (by kernel_rfl) (Or.inr ⟨by kernel_rfl, rfl⟩) ⟨x2, hck, hcp⟩ ?_
      try simp only [Act.put, List.setIfInBounds_toArray, List.set_cons_zero, List.set_cons_succ]
      refine wpAnyL_take (i := 8) (v := undef) rfl (by kernel_rfl) (by kernel_rfl) (by kernel_rfl) (by kernel_rfl) (by kernel_rfl) (Or.inr ⟨by kernel_rfl, rfl⟩) ⟨x2, hck, hcp⟩ ?_
      try simp only [Act.put, List.setIfInBounds_toArray, List.set_cons_zero, List.set_cons_succ]
      refine wpAnyL_take (i := 9) (v := undef) rfl (by kernel_rfl) (by kernel_rfl) (by kernel_rfl) (by kernel_rfl) (by kernel_rfl) (Or.inr ⟨by kernel_rfl, rfl⟩) ⟨x2, hck, hcp⟩ ?_
      try simp only [Act.put, List.setIfInBounds_toArray, List.set_cons_zero, List.set_cons_succ]
      refine wpAnyL_take (i := 10) (v := undef) rfl (by kernel_rfl) (by kernel_rfl) (by kernel_rfl) (by kernel_rfl) (by kernel_rfl) (Or.inr ⟨by kernel_rfl, rfl⟩) ⟨x2, hck, hcp⟩ ?_
      try simp only [Act.put, List.setIfInBounds_toArray, List.set_cons_zero, List.set_cons_succ]
      refine wpAnyL_one (i := 11) rfl (by kernel_rfl) (fun K hK => ?_)
      go_simp
      refine hK.out _ _ (fun _ => ⟨x2, hck, hcp⟩) ?_
      clear hK K
      try simp only [Act.put, List.setIfInBounds_toArray, List.set_cons_zero, List.set_cons_succ]
      refine wpAnyL_one (i := 12) rfl (by kernel_rfl) (fun K hK => ?_)
      go_simp
      refine hK.out _ _ (fun _ => ⟨x2, hck, hcp⟩) ?_
      clear hK K
      try simp only [Act.put, List.setIfInBounds_toArray, List.set_cons_zero, List.set_cons_succ]
      refine wpAnyL_done (by kernel_rfl) ?_ _
      refine OnlyNormal.normal ?_
      go_wp2_with fail
      go_round
      case rel => exact ⟨k + 1, by omega, by go_num, by rw [hpk.out]; rfl, below_dn hb5 1, by simpa using hsz5, r5.out.drew, hM5.out, hO5'.out⟩
      case measure => simp [intOf]; omega
    case true =>
      refine wp_held [] (fun wx => wx.cell? ⟨w.heap.size, 2, none⟩ = some (.slice (some ⟨gp, op, none⟩) n c) ∧ wx.cell? ⟨gl, ol + k, none⟩ = some (.int .i64 j) ∧ wx.cell? ⟨gp, op + j, none⟩ = some (.int .i64 P)) hmx ⟨x2, hck, hcp⟩ (fun _ => ?_)
      refine wpAnyL_one (i := 0) rfl (by kernel_rfl) (fun K hK => ?_)
      go_simp
      refine hK.out _ _ (fun _ => ⟨x2, hck, hcp⟩) ?_
      clear hK K
      try simp only [Act.put, List.setIfInBounds_toArray, List.set_cons_zero, List.set_cons_succ]
      refine wpAnyL_one (i := 1) rfl (by kernel_rfl) (fun K hK => ?_)
      go_simp
      refine hK.out _ _ (fun _ => ⟨x2, hck, hcp⟩) ?_
      clear hK K
      try simp only [Act.put, List.setIfInBounds_toArray, List.set_cons_zero, List.set_cons_succ]
      have hpt : posK ps l (k + 1) = decide (0 ≤ P) := by rw [hpk.out, Bool.true_and]
      replace hpt := hide hpt
      refine wpAnyL_take (i := 2) (v := ?v52) rfl (by kernel_rfl) (by kernel_rfl) (by kernel_rfl) (by kernel_rfl) (by kernel_rfl) (Or.inl ⟨by kernel_rfl, ?hy52⟩) ⟨x2, hck, hcp⟩ ?rest52
      case hy52 => (intro W2 hSw; (try dsimp only at hSw); go_simp; try with_reducible rfl)
      try simp only [Act.put, List.setIfInBounds_toArray, List.set_cons_zero, List.set_cons_succ]
      refine wpAnyL_take (i := 3) (v := ?v53) rfl (by kernel_rfl) (by kernel_rfl) (by kernel_rfl) (by kernel_rfl) (by kernel_rfl) (Or.inl ⟨by kernel_rfl, ?hy53⟩) ⟨x2, hck, hcp⟩ ?rest53
      case hy53 => (intro W2 hSw; (try dsimp only at hSw); go_simp; try with_reducible rfl)
      try simp only [Act.put, List.setIfInBounds_toArray, List.set_cons_zero, List.set_cons_succ]
      refine wpAnyL_take (i := 4) (v := ?v54) rfl (by kernel_rfl) (by kernel_rfl) (by kernel_rfl) (by kernel_rfl) (by kernel_rfl) (Or.inl ⟨by kernel_rfl, ?hy54⟩) ⟨x2, hck, hcp⟩ ?rest54
      case hy54 => (intro W2 hSw; (try dsimp only at hSw); go_simp; try with_reducible rfl)
      try simp only [Act.put, List.setIfInBounds_toArray, List.set_cons_zero, List.set_cons_succ]
      refine wpAnyL_take (i := 5) (v := ?v55) rfl (by kernel_rfl) (by kernel_rfl) (by kernel_rfl) (by kernel_rfl) (by kernel_rfl) (Or.inl ⟨by kernel_rfl, ?hy55⟩) ⟨x2, hck, hcp⟩ ?rest55
      case hy55 => (intro W2 hSw; (try dsimp only at hSw); go_simp; try with_reducible rfl)
      try simp only [Act.put, List.setIfInBounds_toArray, List.set_cons_zero, List.set_cons_succ]
      refine wpAnyL_take (i := 6) (v := ?v56) rfl (by kernel_rfl) (by kernel_rfl) (by kernel_rfl) (by kernel_rfl) (by kernel_rfl) (Or.inl ⟨by kernel_rfl, ?hy56⟩) ⟨x2, hck, hcp⟩ ?rest56
      case hy56 => (intro W2 hSw; (try dsimp only at hSw); go_simp; try with_reducible rfl)
      try simp only [Act.put, List.setIfInBounds_toArray, List.set_cons_zero, List.set_cons_succ]
      refine wpAnyL_take (i := 7) (v := ?v57) rfl (by kernel_rfl) (by kernel_rfl) (by kernel_rfl) (by kernel_rfl) (by kernel_rfl) (Or.inl ⟨by kernel_rfl, ?hy57⟩) ⟨x2, hck, hcp⟩ ?rest57
      case hy57 => (intro W2 hSw; (try dsimp only at hSw); go_simp; try with_reducible rfl)
      try simp only [Act.put, List.setIfInBounds_toArray, List.set_cons_zero, List.set_cons_succ]
      refine wpAnyL_take (i := 8) (v := ?v58) rfl (by kernel_rfl) (by kernel_rfl) (by kernel_rfl) (by kernel_rfl) (by kernel_rfl) (Or.inl ⟨by kernel_rfl, ?hy58⟩) ⟨x2, hck, hcp⟩ ?rest58
      case hy58 => (intro W2 hSw; (try dsimp only at hSw); go_simp; try with_reducible rfl)
      try simp only [Act.put, List.setIfInBounds_toArray, List.set_cons_zero, List.set_cons_succ]
      refine wpAnyL_take (i := 9) (v := ?v59) rfl (by kernel_rfl) (by kernel_rfl) (by kernel_rfl) (by kernel_rfl) (by kernel_rfl) (Or.inl ⟨by kernel_rfl, ?hy59⟩) ⟨x2, hck, hcp⟩ ?rest59
      case hy59 => (intro W2 hSw; (try dsimp only at hSw); go_simp; try with_reducible rfl)
      try simp only [Act.put, List.setIfInBounds_toArray, List.set_cons_zero, List.set_cons_succ]
      refine wpAnyL_take (i := 10) (v := .bool (decide (0 ≤ P))) rfl (by kernel_rfl) (by kernel_rfl) (by kernel_rfl) (by kernel_rfl) (by kernel_rfl) (Or.inl ⟨by kernel_rfl, ?hy60⟩) ⟨x2, hck, hcp⟩ ?rest60
      case hy60 => (intro W2' hSw; (try dsimp only at hSw); go_simp; (try with_reducible rfl))
      try simp only [Act.put, List.setIfInBounds_toArray, List.set_cons_zero, List.set_cons_succ]
      generalize decide (0 ≤ P) = dp at *
      refine wpAnyL_one (i := 11) rfl (by kernel_rfl) (fun K hK => ?_)
      go_simp
      refine hK.out _ _ (fun _ => ⟨x2, hck, hcp⟩) ?_
      clear hK K
      try simp only [Act.put, List.setIfInBounds_toArray, List.set_cons_zero, List.set_cons_succ]
      refine wpAnyL_one (i := 12) rfl (by kernel_rfl) (fun K hK => ?_)
      go_simp
      refine hK.out _ _ (fun _ => ⟨x2, hck, hcp⟩) ?_
      clear hK K
      try simp only [Act.put, List.setIfInBounds_toArray, List.set_cons_zero, List.set_cons_succ]
      refine wpAnyL_done (by kernel_rfl) ?_ _
      refine OnlyNormal.normal ?_
      go_wp2_with fail
      go_round
      case rel => exact ⟨k + 1, by omega, by go_num, by rw [hpt.out], below_dn hb5 1, by simpa using hsz5, r5.out.drew, hM5.out, hO5'.out⟩
      case measure => simp [intOf]; omega
end Go.Proofs.Ytkippclhbkjbmaa

namespace Go.Proofs.Ytkippclhbkjbmaa
open Go.ChangeShapes Go.WideShapes Go.Deep Go.RowKit

section
variable {H : Type} {enc : TypeId × Value → H} {P : Program}
theorem post_of_below {f : Func} {s : ChangeSpec} {apart fresh handsOn again : Bool} {W W' : World} {args : Array Value} {v : Value} {ds gs : List (DataW H)} {before pa pv : List MemPlace}
    (hW : DataW.Whole enc P f.params.toList s.vars apart W args.toList ds gs before)
    (hres : ∀ (b : Nat) (sp : Nat → Bool) (hd : Bool), DataW.TrodAll enc P W' b sp hd f.resultTypes.toList (v.resultList f.resultTypes.size) (s.fn H (ds ++ gs)).results [])
    (hargs : ∀ sp : Nat → Bool, (∀ p ∈ before, sp p.block = true) → DataW.TrodAll enc P W' 0 sp true f.params.toList args.toList (s.fn H (ds ++ gs)).args pa)
    (hvars : ∀ sp : Nat → Bool, (∀ p ∈ before, sp p.block = true) → DataW.TrodVars enc P W' sp s.vars (s.fn H (ds ++ gs)).vars pv)
    (hps : before = pa ++ pv) (hb : Below W.heap.size W W')
    (hok : ∀ (j : Nat) (t : TypeId) (r : Value), f.resultTypes[j]? = some t → (v.resultList f.resultTypes.size)[j]? = some r → Value.okWide P W' .any 0 t r) :
    s.post enc P f apart fresh handsOn again W args v W' := by
  have hlt : ∀ p ∈ before, p.block < W.heap.size := fun p hp => hW.lt p hp
  have hold : ∀ p ∈ before, (fun b => decide (b < W.heap.size)) p.block = true := fun p hp => by simpa using hlt p hp
  refine ⟨ds, gs, before, [], pa, pv, hW, hres _ _ _, hargs _ hold, hvars _ hold, World.keptBut_mono (fun p hp => ⟨hp, ?_⟩) (hb.frame (· ∈ before)), fun _ => ?_⟩
  · rw [hps, List.mem_append] at hp
    exact Or.inr hp
  · obtain ⟨_, _, _, _, _, hz, hn⟩ := hW
    refine ⟨hok, _, _, ([] ++ pa) ++ pv, ⟨[] ++ pa, pv, trodAll_append (hargs _ (fun _ _ => rfl)) (hres _ _ _), hvars _ (fun _ _ => rfl), rfl, ?_, ?_⟩, ?_⟩
    · intro b off hp
      have hin : MemPlace.cell b off ∈ before := by rw [hps]; simpa using hp
      rw [hb.frozen (hlt _ hin)]
      exact hz b off hin
    · intro ha
      have := hn ha
      rw [hps] at this
      simpa using this
    · intro p hp _
      rw [hps]
      simpa using hp
end

theorem plain_cell {w : World} {a : Addr} {v : Value} (h : w.cell? a = some v) : a = ⟨a.block, a.off, none⟩ := by
  obtain ⟨b, o, s⟩ := a
  cases s with
  | none => rfl
  | some s =>
    exfalso
    unfold World.cell? at h
    simp at h
    split at h <;> simp at h

theorem wf_i64 {z : Int} (h : (Lit.int .i64 z).wf = true) : I64 z := by
  simp only [Lit.wf, Bool.and_eq_true, decide_eq_true_eq] at h
  exact h

section
variable {H : Type} {enc : TypeId × Value → H} {w : World} {base : Nat} {spare : Nat → Bool} {held : Bool}
theorem open_i64 {t e : TypeId} {fuel : Nat} {cs : List Value} {x : DataW H × List MemPlace} (ht : Try.prog.underlying t = some (.slice e)) (he : Try.prog.underlying e = some (.int .i64)) (hc : Try.prog.cellsOf e = 1) (h : DataW.trod enc Try.prog w base spare held fuel t cs = some x) : ∃ (A : Option Addr) (n c : Nat) (l : List Int), cs = [.slice A n c] ∧ LimI w A n c l := by
  rcases open_ints ht he hc h with ⟨rfl, _⟩ | ⟨a, len, cap, zs, rfl, _, hl, hm, hz, _, hcell, hwf⟩
  · exact ⟨none, 0, 0, [], rfl, rfl, Nat.zero_le _, Nat.zero_le _, by simp, fun h => absurd h (by omega)⟩
  · have hlz : len ≤ zs.length := by rw [hz]; split <;> omega
    refine ⟨some a, len, cap, zs.take len, rfl, by simp; omega, hl, hm, fun v hv => wf_i64 (hwf v (List.mem_of_mem_take hv)), fun hn => ?_⟩
    have h0 := hcell 0 (by omega)
    have hp := plain_cell h0
    obtain ⟨b, o, s⟩ : ∃ b o, a = ⟨b, o, none⟩ := by
      obtain ⟨b, o, s⟩ := a
      refine ⟨b, o, ?_⟩
      unfold Addr.add at hp
      split at hp <;> simp_all
    subst s
    refine ⟨b, o, rfl, fun k hk => ?_⟩
    have hc := hcell k (by omega)
    rw [add_lit] at hc
    rw [hc]
    have hkz : k < zs.length := by omega
    rw [List.getElem?_take, if_pos hk, List.getD_eq_getElem?_getD]

set_option maxRecDepth 100000 in
theorem open_list {r : Reach} {b0 : Nat} {v : Value} {d : DataW H} {p : List MemPlace} (hv : Value.okWide Try.prog w r b0 35 v) (h : DataW.Trod enc Try.prog w base spare held 35 v d p) : ∃ (A : Option Addr) (n c : Nat) (l : List Int), v = .slice A n c ∧ LimI w A n c l := by
  obtain ⟨A, n, c, rfl⟩ := okWide_slice Try.underlying35 hv
  obtain ⟨fuel, hf⟩ := h
  obtain ⟨A', n', c', l, hcs, hL⟩ := open_i64 Try.underlying35 Try.underlying3 (by kernel_rfl) hf
  simp [Value.cells] at hcs
  obtain ⟨rfl, rfl, rfl⟩ := hcs
  exact ⟨A, n, c, l, rfl, hL⟩

set_option maxRecDepth 100000 in
theorem open_field {r : Reach} {b0 : Nat} {v : Value} {d : DataW H} {p : List MemPlace} (hv : Value.okWide Try.prog w r b0 24 v) (h : DataW.Trod enc Try.prog w base spare held 24 v d p) :
    ∃ (W Hh : Int) (A : Option Addr) (n c : Nat) (l : List Int), v = .agg #[.int .i64 W, .int .i64 Hh, .slice A n c] ∧ LimI w A n c l ∧ I64 W ∧ I64 Hh := by
  obtain ⟨cs, rfl, hsz⟩ := okWide_struct Try.underlying24 hv
  obtain ⟨fuel, hf⟩ := h
  obtain ⟨xs, n', _, _, hl, hxl, hfl⟩ := DataW.trod_struct Try.underlying24 hf
  have c3 : Try.prog.cellsOf 24 = 3 := by kernel_rfl
  have c1 : Try.prog.cellsOf 3 = 1 := by kernel_rfl
  have c2 : Try.prog.cellsOf 22 = 1 := by kernel_rfl
  rw [c3] at hsz
  obtain ⟨x, y, z, rfl⟩ : ∃ x y z, cs = #[x, y, z] := by
    obtain ⟨l⟩ := cs
    match l, hsz with
    | [x, y, z], _ => exact ⟨x, y, z, rfl⟩
  have f0 := hfl 0 _ rfl
  have f1 := hfl 1 _ rfl
  have f2 := hfl 2 _ rfl
  simp only [List.getElem_toArray, List.getElem_cons_zero, List.getElem_cons_succ] at f0 f1 f2
  rw [c1] at f0 f1
  rw [c2] at f2
  have g0 : xs[0]? = some (xs[0]'(by rw [hxl]; decide)) := List.getElem?_eq_getElem _
  have g1 : xs[1]? = some (xs[1]'(by rw [hxl]; decide)) := List.getElem?_eq_getElem _
  have g2 : xs[2]? = some (xs[2]'(by rw [hxl]; decide)) := List.getElem?_eq_getElem _
  rw [g0] at f0
  rw [g1] at f1
  rw [g2] at f2
  obtain ⟨W, e0, _, wf0⟩ := DataW.trod_int Try.underlying3 f0
  obtain ⟨Hh, e1, _, wf1⟩ := DataW.trod_int Try.underlying3 f1
  obtain ⟨A, n, c, l, e2, hL⟩ := open_i64 Try.underlying22 Try.underlying2 (by kernel_rfl) f2
  simp [Value.cells] at e0 e1 e2
  subst e0 e1 e2
  exact ⟨W, Hh, A, n, c, l, rfl, hL, wf_i64 wf0, wf_i64 wf1⟩
end
end Go.Proofs.Ytkippclhbkjbmaa

namespace Go.Proofs.Ytkippclhbkjbmaa
open Go.ChangeShapes Go.WideShapes Go.ChangeAt Go.RowKit

theorem own_knob : ownKnob Try.prog.godebug = none := by kernel_rfl
theorem laid_out : laidOutB Try.prog = true := by kernel_rfl

set_option maxRecDepth 100000 in
theorem moved_lifted (os : Os) (started : os.Started) (H : Type) (enc : TypeId × Value → H) :
    ReturnsInHanded {} Try.checked os 5 .any (Rows.centroidMovedSpec.pre6 enc Try.prog Try.f5 Rows.centroidMovedRow.domain false) (Rows.centroidMovedSpec.post enc Try.prog Try.f5 false true false false) := by
  refine returnsInHanded_of_change (C := Try.checked) own_knob started (by kernel_rfl) Try.func5
    (ChangeSpec.witness6 (enc := enc) (C := Try.checked) false ⟨#[], #[.agg #[.int .i64 0, .int .i64 0, .slice none 0 0], .slice none 0 0, .int .i64 0, .int .i64 0], []⟩ 8 (by kernel_rfl) (by kernel_rfl) (by kernel_rfl) (by kernel_rfl)) ?_
  intro W base args ds gs before hval0 hW hcnd _
  have hval : ∀ (j : Nat) t v, Try.f5.params[j]? = some t → args[j]? = some v → Value.okWide Try.prog W .any base t v := hval0
  have hW' := hW
  obtain ⟨p, q, hA0, hV, rfl, hfz, hnd⟩ := hW
  have hA : DataW.TrodAll enc Try.prog W 0 (fun _ => true) true Try.f5.params.toList args.toList ds p := hA0
  rw [Try.params5] at hA hval
  obtain ⟨v0, v1, v2, v3, d0, d1, d2, d3, p0, p1, p2, p3, rfl, rfl, hpp, z0, z1, z2, z3⟩ := trodAll_four hA
  replace hpp : p = p0 ++ (p1 ++ (p2 ++ p3)) := by rw [hpp]; simp
  subst hpp
  obtain ⟨rfl, rfl⟩ := trodVars_none hV
  obtain ⟨Wf, Hf, A, n, c, ps, rfl, hp, iW, iH⟩ := open_field (hval 0 24 v0 rfl rfl) z0
  obtain ⟨B, m, d, l, rfl, hl⟩ := open_list (hval 1 35 v1 rfl rfl) z1
  obtain ⟨off, e2, -, -, -⟩ := open_int Try.underlying3 (hval 2 3 v2 rfl rfl) z2
  subst e2
  obtain ⟨more, e3, -, -, -⟩ := open_int Try.underlying3 (hval 3 3 v3 rfl rfl) z3
  subst e3
  clear hA0 hval0
  simp only [List.append_nil] at hW'
  have hlt : ∀ x ∈ p0 ++ (p1 ++ (p2 ++ p3)), x.block < W.heap.size := fun x hx => hW'.lt x hx
  refine (law_moved Wf Hf A n c B m d ps l off more W hp hl iW iH).mono fun e W' ⟨he, hw⟩ => ?_
  subst he
  exact ⟨_, rfl, post_of_below (pa := p0 ++ (p1 ++ (p2 ++ p3))) (pv := []) hW' (fun _ _ _ => trodAll_mk1 (shut_bool Try.underlying4 true))
    (fun sp hsp => trodAll_mk4 (WideElems.Trod_stays laid_out (by kernel_rfl) (of_decide_eq_true (by kernel_rfl)) z0 (fun x hx => hw.same (hlt x (List.mem_append_left _ hx))) (fun x hx => hsp x (List.mem_append_left _ hx))) (WideElems.Trod_stays laid_out (by kernel_rfl) (of_decide_eq_true (by kernel_rfl)) z1 (fun x hx => hw.same (hlt x (List.mem_append_right _ (List.mem_append_left _ hx)))) (fun x hx => hsp x (List.mem_append_right _ (List.mem_append_left _ hx)))) (WideElems.Trod_stays laid_out (by kernel_rfl) (of_decide_eq_true (by kernel_rfl)) z2 (fun x hx => hw.same (hlt x (List.mem_append_right _ (List.mem_append_right _ (List.mem_append_left _ hx))))) (fun x hx => hsp x (List.mem_append_right _ (List.mem_append_right _ (List.mem_append_left _ hx))))) (WideElems.Trod_stays laid_out (by kernel_rfl) (of_decide_eq_true (by kernel_rfl)) z3 (fun x hx => hw.same (hlt x (List.mem_append_right _ (List.mem_append_right _ (List.mem_append_right _ hx))))) (fun x hx => hsp x (List.mem_append_right _ (List.mem_append_right _ (List.mem_append_right _ hx))))))
    (fun _ _ => rfl) (List.append_nil _).symm hw (ok_one (by kernel_rfl) rfl (okWide_bool_mk Try.underlying4 true))⟩

theorem moved_holds : Rows.CentroidMovedSaid :=
  OpenClaim.holds_of_wide 5 Try.f5 rfl rfl rfl rfl rfl rfl rfl ⟨rfl, rfl, rfl, rfl, rfl⟩ rfl rfl rfl rfl rfl (by kernel_rfl) Try.func5 (by kernel_rfl)
    (of_decide_eq_true (by kernel_rfl)) (by unfold Func.isWrapper; first | (rw [if_pos (by decide +kernel)]; kernel_rfl) | (rw [if_neg (by decide +kernel)]; exact ⟨rfl, rfl⟩))
    (fun os started H enc _ => moved_lifted os started H enc)

#print axioms moved_holds
end Go.Proofs.Ytkippclhbkjbmaa
