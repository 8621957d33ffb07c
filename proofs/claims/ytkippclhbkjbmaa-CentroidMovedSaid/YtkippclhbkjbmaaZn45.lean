/- Package centroid: the closure of Moments. Package centroid: Moments. -/
import Derived.Test.YtkippclhbkjbmaaZn38
import Derived.Test.YtkippclhbkjbmaaZn30
import Derived.Test.YtkippclhbkjbmaaZn32
import Derived.Test.YtkippclhbkjbmaaZn27
import Derived.Test.YtkippclhbkjbmaaZn20
set_option linter.unusedSimpArgs false
set_option linter.unusedVariables false

namespace Go.Proofs.Ytkippclhbkjbmaa
open Go.RowKit
attribute [local go_sem] add_lit

set_option maxRecDepth 100000 in
set_option maxHeartbeats 2000000 in
theorem about_ok (gc : Nat) (t : TypeId) (nx nx' ny ny' nz nz' : Bool) (Ax Bx Ay By Az Bz : Option Addr) (ax cx bx dx ay cy bb dy az cz bz dz : Nat) (X Y Z : Rat) (w : World) (hq : Blk w gc t #[.int .i64 0]) (hX : Fr w nx Ax ax cx nx' Bx bx dx X) (hY : Fr w ny Ay ay cy ny' By bb dy Y) (hZ : Fr w nz Az az cz nz' Bz bz dz Z) (sX : Sm X) (sY : Sm Y) (sZ : Sm Z) (sP : Sm (Y * Z)) :
    Calls Try.prog 21 #[.agg #[.bool nx, .slice Ax ax cx, .bool nx', .slice Bx bx dx], .agg #[.bool ny, .slice Ay ay cy, .bool ny', .slice By bb dy], .agg #[.bool nz, .slice Az az cz, .bool nz', .slice Bz bz dz], .pointer (some ⟨gc, 0, none⟩)] w (FracW w (X - Y * Z)) := by
  have hmx : Try.prog.follows .mixedOrders = true := by kernel_rfl
  have hgc : gc < w.heap.size := (Array.getElem?_eq_some_iff.1 hq).1
  obtain ⟨W0, hW0, hB, ⟨qx, qy, qz, q9⟩, sz⟩ := alloc4 w 29 #[.bool nx, .slice Ax ax cx, .bool nx', .slice Bx bx dx] 29 #[.bool ny, .slice Ay ay cy, .bool ny', .slice By bb dy] 29 #[.bool nz, .slice Az az cz, .bool nz', .slice Bz bz dz] 29 #[.bool false, .slice none 0 0, .bool false, .slice none 0 0]
  replace hq := hq.below hB hgc
  replace hX := hide (hX.below hB)
  replace hY := hide (hY.below hB)
  replace hZ := hide (hZ.below hB)
  go_enter Try.func21, Try.ntmps21
  go_wp2_with fail
  clear hW0
  have hSv : ∀ wx, Below W0.heap.size W0 wx → (wx.cell? ⟨w.heap.size, 0, none⟩ = some (.bool nx) ∧ wx.cell? ⟨w.heap.size, 1, none⟩ = some (.slice Ax ax cx) ∧ wx.cell? ⟨w.heap.size, 2, none⟩ = some (.bool nx') ∧ wx.cell? ⟨w.heap.size, 3, none⟩ = some (.slice Bx bx dx)) ∧ (wx.cell? ⟨w.heap.size + 1, 0, none⟩ = some (.bool ny) ∧ wx.cell? ⟨w.heap.size + 1, 1, none⟩ = some (.slice Ay ay cy) ∧ wx.cell? ⟨w.heap.size + 1, 2, none⟩ = some (.bool ny') ∧ wx.cell? ⟨w.heap.size + 1, 3, none⟩ = some (.slice By bb dy)) ∧ wx.cell? ⟨w.heap.size + 1 + 1, 0, none⟩ = some (.bool nz) ∧ wx.cell? ⟨w.heap.size + 1 + 1, 1, none⟩ = some (.slice Az az cz) ∧ wx.cell? ⟨w.heap.size + 1 + 1, 2, none⟩ = some (.bool nz') ∧ wx.cell? ⟨w.heap.size + 1 + 1, 3, none⟩ = some (.slice Bz bz dz) := fun wx hbx => by
    obtain ⟨e0, e1, e2, e3, -⟩ := (keep_blk hbx qx).four
    obtain ⟨f0, f1, f2, f3, -⟩ := (keep_blk hbx qy).four
    obtain ⟨g0, g1, g2, g3, -⟩ := (keep_blk hbx qz).four
    exact ⟨⟨e0, e1, e2, e3⟩, ⟨f0, f1, f2, f3⟩, g0, g1, g2, g3⟩
  refine wp_held [] (fun wx => (wx.cell? ⟨w.heap.size, 0, none⟩ = some (.bool nx) ∧ wx.cell? ⟨w.heap.size, 1, none⟩ = some (.slice Ax ax cx) ∧ wx.cell? ⟨w.heap.size, 2, none⟩ = some (.bool nx') ∧ wx.cell? ⟨w.heap.size, 3, none⟩ = some (.slice Bx bx dx)) ∧ (wx.cell? ⟨w.heap.size + 1, 0, none⟩ = some (.bool ny) ∧ wx.cell? ⟨w.heap.size + 1, 1, none⟩ = some (.slice Ay ay cy) ∧ wx.cell? ⟨w.heap.size + 1, 2, none⟩ = some (.bool ny') ∧ wx.cell? ⟨w.heap.size + 1, 3, none⟩ = some (.slice By bb dy)) ∧ wx.cell? ⟨w.heap.size + 1 + 1, 0, none⟩ = some (.bool nz) ∧ wx.cell? ⟨w.heap.size + 1 + 1, 1, none⟩ = some (.slice Az az cz) ∧ wx.cell? ⟨w.heap.size + 1 + 1, 2, none⟩ = some (.bool nz') ∧ wx.cell? ⟨w.heap.size + 1 + 1, 3, none⟩ = some (.slice Bz bz dz)) hmx (hSv _ (below_dn (Below.refl _ _) 1)) (fun _ => ?_)
  have hb6 : Below W0.heap.size W0 W0.drew := below_dn (Below.refl _ _) 1
  refine wpAnyL_take (i := 0) (v := ?v1) rfl (by kernel_rfl) (by kernel_rfl) (by kernel_rfl) (by kernel_rfl) (by kernel_rfl) (Or.inl ⟨by rfl, ?hy1⟩) (hSv _ hb6) ?rest1
  case hy1 => (intro W2 hSw; (try dsimp only at hSw); go_simp; try with_reducible rfl)
  try simp only [Act.put, List.setIfInBounds_toArray, List.set_cons_zero, List.set_cons_succ]
  refine wpAnyL_take (i := 1) (v := ?v2) rfl (by kernel_rfl) (by kernel_rfl) (by kernel_rfl) (by kernel_rfl) (by kernel_rfl) (Or.inl ⟨by rfl, ?hy2⟩) (hSv _ hb6) ?rest2
  case hy2 => (intro W2 hSw; (try dsimp only at hSw); go_simp; try with_reducible rfl)
  try simp only [Act.put, List.setIfInBounds_toArray, List.set_cons_zero, List.set_cons_succ]
  refine wpAnyL_take (i := 2) (v := ?v3) rfl (by kernel_rfl) (by kernel_rfl) (by kernel_rfl) (by kernel_rfl) (by kernel_rfl) (Or.inl ⟨by rfl, ?hy3⟩) (hSv _ hb6) ?rest3
  case hy3 => (intro W2 hSw; (try dsimp only at hSw); go_simp; try with_reducible rfl)
  try simp only [Act.put, List.setIfInBounds_toArray, List.set_cons_zero, List.set_cons_succ]
  refine wpAnyL_one (i := 3) rfl (by kernel_rfl) (fun K hK => ?_)
  have h1 := hY.out.below hb6
  have h2 := hZ.out.below hb6
  go_simp
  refine (fMul_ok _ _ _ _ _ _ _ _ _ _ _ _ _ _ _ _ _ _ _ h1 h2 sY sZ).mono ?_
  rintro e w1 ⟨hb1, np, P, k1, k2, np1, P1, k3, k4, rfl, hP⟩
  clear h1 h2
  replace hb6 := hb6.trans (hb1.mono hb6.size)
  replace hP := hide hP
  refine hK.out _ _ (fun _ => hSv _ hb6) ?_
  clear hK K
  try simp only [Act.put, List.setIfInBounds_toArray, List.set_cons_zero, List.set_cons_succ]
  refine wpAnyL_take (i := 4) (v := ?v4) rfl (by kernel_rfl) (by kernel_rfl) (by kernel_rfl) (by kernel_rfl) (by kernel_rfl) (Or.inl ⟨by rfl, ?hy4⟩) (hSv _ hb6) ?rest4
  case hy4 => (intro W2 hSw; (try dsimp only at hSw); go_simp; try with_reducible rfl)
  try simp only [Act.put, List.setIfInBounds_toArray, List.set_cons_zero, List.set_cons_succ]
  refine wpAnyL_take (i := 5) (v := ?v5) rfl (by kernel_rfl) (by kernel_rfl) (by kernel_rfl) (by kernel_rfl) (by kernel_rfl) (Or.inl ⟨by rfl, ?hy5⟩) (hSv _ hb6) ?rest5
  case hy5 => (intro W2 hSw; (try dsimp only at hSw); go_simp; try with_reducible rfl)
  try simp only [Act.put, List.setIfInBounds_toArray, List.set_cons_zero, List.set_cons_succ]
  refine wpAnyL_one (i := 6) rfl (by kernel_rfl) (fun K hK => ?_)
  have hq1 := keep_blk hb6 hq
  go_simp
  refine (keep_ok gc t np np1 P P1 k1 k2 k3 k4 w1 hq1).mono ?_
  rintro e w2 ⟨rfl, hb2⟩
  clear hq1
  replace hb6 := hb6.trans (hb2.mono hb6.size)
  replace hP := hide (hP.out.below hb2)
  refine hK.out _ _ (fun _ => hSv _ hb6) ?_
  clear hK K
  try simp only [Act.put, List.setIfInBounds_toArray, List.set_cons_zero, List.set_cons_succ]
  refine wpAnyL_one (i := 7) rfl (by kernel_rfl) (fun K hK => ?_)
  have h1 := hX.out.below hb6
  go_simp
  refine (fSub_ok _ _ _ _ _ _ _ _ _ _ _ _ _ _ _ _ _ _ _ h1 hP.out sX sP).mono ?_
  rintro e w3 ⟨hb3, nr, R, j1, j2, nr1, R1, j3, j4, rfl, hR⟩
  clear h1
  replace hb6 := hb6.trans (hb3.mono hb6.size)
  replace hR := hide hR
  refine hK.out _ _ (fun _ => hSv _ hb6) ?_
  clear hK K
  try simp only [Act.put, List.setIfInBounds_toArray, List.set_cons_zero, List.set_cons_succ]
  refine wpAnyL_take (i := 8) (v := ?v6) rfl (by kernel_rfl) (by kernel_rfl) (by kernel_rfl) (by kernel_rfl) (by kernel_rfl) (Or.inl ⟨by rfl, ?hy6⟩) (hSv _ hb6) ?rest6
  case hy6 => (intro W2 hSw; (try dsimp only at hSw); go_simp; try with_reducible rfl)
  try simp only [Act.put, List.setIfInBounds_toArray, List.set_cons_zero, List.set_cons_succ]
  refine wpAnyL_take (i := 9) (v := ?v7) rfl (by kernel_rfl) (by kernel_rfl) (by kernel_rfl) (by kernel_rfl) (by kernel_rfl) (Or.inl ⟨by rfl, ?hy7⟩) (hSv _ hb6) ?rest7
  case hy7 => (intro W2 hSw; (try dsimp only at hSw); go_simp; try with_reducible rfl)
  try simp only [Act.put, List.setIfInBounds_toArray, List.set_cons_zero, List.set_cons_succ]
  refine wpAnyL_one (i := 10) rfl (by kernel_rfl) (fun K hK => ?_)
  have hq1 := keep_blk hb6 hq
  go_simp
  refine (keep_ok gc t nr nr1 R R1 j1 j2 j3 j4 w3 hq1).mono ?_
  rintro e w4 ⟨rfl, hb4⟩
  clear hq1
  replace hb6 := hb6.trans (hb4.mono hb6.size)
  replace hR := hide (hR.out.below hb4)
  refine hK.out _ _ (fun _ => hSv _ hb6) ?_
  clear hK K
  try simp only [Act.put, List.setIfInBounds_toArray, List.set_cons_zero, List.set_cons_succ]
  have q9 := keep_blk hb6 q9
  have hBf := hB.trans (hb6.mono hB.size)
  obtain ⟨x0, x1, x2, x3, z0, z1, z2, z3⟩ := q9.four
  obtain ⟨V3, hV3, hB5, q5, hst5⟩ := set_frac nr R j1 j2 nr1 R1 j3 j4 hBf (by omega) q9
  have qx := hst5.2.1 _ _ _ (by omega) (keep_blk hb6 qx)
  have qy := hst5.2.1 _ _ _ (by omega) (keep_blk hb6 qy)
  have qz := hst5.2.1 _ _ _ (by omega) (keep_blk hb6 qz)
  obtain ⟨e0, e1, e2, e3, -⟩ := qx.four
  obtain ⟨f0, f1, f2, f3, -⟩ := qy.four
  obtain ⟨g0, g1, g2, g3, -⟩ := qz.four
  refine wpAnyL_one (i := 11) rfl (by kernel_rfl) (fun K hK => ?_)
  go_simp
  (try rw [hV3])
  refine hK.out _ _ (fun _ => ⟨⟨e0, e1, e2, e3⟩, ⟨f0, f1, f2, f3⟩, g0, g1, g2, g3⟩) ?_
  clear hK K
  try simp only [Act.put, List.setIfInBounds_toArray, List.set_cons_zero, List.set_cons_succ]
  refine wpAnyL_done (by kernel_rfl) ?_ _
  refine OnlyNormal.normal ?_
  replace hR := hR.out.keep hst5.1
  obtain ⟨r0, r1, r2, r3, -⟩ := q5.four
  go_wp2_with fail
  refine bodyPost_ret (v := .agg #[.bool nr, .slice R j1 j2, .bool nr1, .slice R1 j3 j4]) (by simp [results, Try.results21, go_sem, r0, r1, r2, r3]) rfl ?_
  exact ⟨hB5, _, _, _, _, _, _, _, _, rfl, hR⟩
end Go.Proofs.Ytkippclhbkjbmaa

namespace Go.Proofs.Ytkippclhbkjbmaa
open Go.RowKit
attribute [local go_sem] add_lit

theorem imul_rng {a b : Int} {M N : Nat} (h1 : a.natAbs ≤ M) (h2 : b.natAbs ≤ N) : (a * b).natAbs ≤ M * N := by
  rw [Int.natAbs_mul]; exact Nat.mul_le_mul h1 h2
theorem sumK_rng {g : Int → Int} {l : List Int} {m k N : Nat} (h : ∀ j, j < m → (g (l[j]?.getD 0)).natAbs ≤ N) (hk : k ≤ m) (hm : m ≤ 40) : (sumK g l k).natAbs ≤ 40 * N :=
  Nat.le_trans (sumK_le l k (fun j hj => h j (by omega))) (Nat.mul_le_mul_right N (by omega))
theorem wrap_small {x : Int} (h : x.natAbs ≤ 9000000000000000000) : wrap64 x = x := by unfold wrap64; omega

/-- The six summands. -/
def gm (W : Int) (ps : List Int) : Nat → Int → Int
  | 0, i => pix ps i
  | 1, i => colv W i * pix ps i
  | 2, i => rowv W i * pix ps i
  | 3, i => colv W i * colv W i * pix ps i
  | 4, i => colv W i * rowv W i * pix ps i
  | _, i => rowv W i * rowv W i * pix ps i
theorem gm_rng {W H : Int} {ps l : List Int} {n m j q : Nat} (hf : 1 ≤ W ∧ W ≤ 100 ∧ 1 ≤ H ∧ H ≤ 100 ∧ (n : Int) = W * H) (hr : Rng ps l n m) (hj : j < m) : (gm W ps q (l[j]?.getD 0)).natAbs ≤ 9801 * 8589934592 := by
  have h := hr j hj
  have a := colv_bound hf h.1 h.2.1
  have b := rowv_bound hf h.1 h.2.1
  have c : (pix ps (l[j]?.getD 0)).natAbs ≤ 8589934592 := by omega
  have e1 : (colv W (l[j]?.getD 0)).natAbs ≤ 99 := by omega
  have e2 : (rowv W (l[j]?.getD 0)).natAbs ≤ 99 := by omega
  have cc := Nat.le_trans (imul_rng (imul_rng e1 e1) c) (show 99 * 99 * 8589934592 ≤ 9801 * 8589934592 by omega)
  have cr := Nat.le_trans (imul_rng (imul_rng e1 e2) c) (show 99 * 99 * 8589934592 ≤ 9801 * 8589934592 by omega)
  have rr := Nat.le_trans (imul_rng (imul_rng e2 e2) c) (show 99 * 99 * 8589934592 ≤ 9801 * 8589934592 by omega)
  have c1 := Nat.le_trans (imul_rng e1 c) (show 99 * 8589934592 ≤ 9801 * 8589934592 by omega)
  have r1 := Nat.le_trans (imul_rng e2 c) (show 99 * 8589934592 ≤ 9801 * 8589934592 by omega)
  match q with
  | 0 => exact Nat.le_trans c (by omega)
  | 1 => exact c1
  | 2 => exact r1
  | 3 => exact cc
  | 4 => exact cr
  | _ + 5 => exact rr
theorem rng_of {W H : Int} {n m : Nat} {ps l : List Int} (hf : fieldOk W H n ps = true) (hl : listed l n = true) (hm : l.length = m) : Rng ps l n m := fun k hk => by
  have h := listed_in hl (k := k) (by omega)
  have h2 := fieldOk_pix hf h.1 h.2
  exact ⟨h.1, h.2, by omega, by omega⟩


set_option maxRecDepth 100000 in
set_option maxHeartbeats 4000000 in
theorem moments_bad (W H : Int) (A : Option Addr) (n c : Nat) (B : Option Addr) (m d : Nat) (ps l : List Int) (w : World) (hp : LimI w A n c ps) (hl : LimI w B m d l) (h9 : n ≤ 1000000000) (h8 : m ≤ 1000000000) (iW : I64 W) (iH : I64 H) (E : Int) (hE : startE W H n ps l = E) (hE0 : E ≠ 0) :
    Calls Try.prog 6 #[.agg #[.int .i64 W, .int .i64 H, .slice A n c], .slice B m d] w (MomP w E Mom.zero) := by
  obtain ⟨W0, hW0, hB, ⟨q0, qm⟩, sz⟩ := alloc2 w 24 #[.int .i64 W, .int .i64 H, .slice A n c] 31 #[.int .i64 0, .bool false, .slice none 0 0, .bool false, .slice none 0 0, .bool false, .slice none 0 0, .bool false, .slice none 0 0, .bool false, .slice none 0 0, .bool false, .slice none 0 0, .bool false, .slice none 0 0, .bool false, .slice none 0 0, .bool false, .slice none 0 0, .bool false, .slice none 0 0]
  have c0 := q0.cell 0
  have c1 := q0.cell 1
  have c2 := q0.cell 2
  simp at c0 c1 c2
  replace hp := hide (hp.below hB)
  replace hl := hide (hl.below hB)
  have hEb : (E == 0) = false := by simpa using hE0
  go_enter Try.func6, Try.ntmps6
  go_wp2_with fail
  refine (start_ok W H A n c B m d ps l W0 hp.out hl.out h9 h8 iW iH E hE).mono ?_
  rintro e w1 ⟨⟨W', H', A', n', c', B', m', d', rfl, -⟩, hb1⟩
  clear hW0 c0 c1 c2
  replace hB := hB.trans (hb1.mono hB.size)
  replace qm := keep_blk hb1 qm
  obtain ⟨V1, hV1, hB1, q6, hk1, hk1', sV1⟩ := new_obj 53 #[.int .i64 0, .int .i64 0, .slice none 0 0, .slice none 0 0] hB hB.size
  obtain ⟨V2, hV2, hB2, q6b, hst⟩ := set_src W' H' A' n' c' B' m' d' hB1 hB.size q6
  have hsz := hb1.size
  replace qm := hst _ _ _ (by omega) (hk1' _ _ _ qm)
  obtain ⟨a0, a1, a2, a3, f0, f1, f2, f3⟩ := q6.four
  go_wp2_with ((refine wpList_store_mid rfl 31 _ _ rfl (w.heap.size + 1) 0 #[.int .i64 0, .bool false, .slice none 0 0, .bool false, .slice none 0 0, .bool false, .slice none 0 0, .bool false, .slice none 0 0, .bool false, .slice none 0 0, .bool false, .slice none 0 0, .bool false, .slice none 0 0, .bool false, .slice none 0 0, .bool false, .slice none 0 0, .bool false, .slice none 0 0] rfl rfl (qm.there (by simp)) info_mom (by simp [Value.oneCell']) ?_; obtain ⟨V3, hV3, hB3, qm3, -⟩ := set_all [.int .i64 0, .bool false, .slice none 0 0, .bool false, .slice none 0 0, .bool false, .slice none 0 0, .bool false, .slice none 0 0, .bool false, .slice none 0 0, .bool false, .slice none 0 0, .bool false, .slice none 0 0, .bool false, .slice none 0 0, .bool false, .slice none 0 0, .bool false, .slice none 0 0] [.int .i64 0, .bool false, .slice none 0 0, .bool false, .slice none 0 0, .bool false, .slice none 0 0, .bool false, .slice none 0 0, .bool false, .slice none 0 0, .bool false, .slice none 0 0, .bool false, .slice none 0 0, .bool false, .slice none 0 0, .bool false, .slice none 0 0, .bool false, .slice none 0 0] rfl rfl rfl hB2 (by omega) qm; rw [hV3]))
  obtain ⟨d0, hd1, hd2⟩ := und_mom
  refine bodyPost_ret (results_cell_tmp rfl _ _ (w.heap.size + 1) [.int .i64 0, .bool false, .slice none 0 0, .bool false, .slice none 0 0, .bool false, .slice none 0 0, .bool false, .slice none 0 0, .bool false, .slice none 0 0, .bool false, .slice none 0 0, .bool false, .slice none 0 0, .bool false, .slice none 0 0, .bool false, .slice none 0 0, .bool false, .slice none 0 0] d0 rfl (qm3.rangeAt [] (rest := []) rfl) hd1 hd2 info_mom) rfl ?_
  exact ⟨hB3, _, rfl, MomF.zero _⟩

end Go.Proofs.Ytkippclhbkjbmaa
