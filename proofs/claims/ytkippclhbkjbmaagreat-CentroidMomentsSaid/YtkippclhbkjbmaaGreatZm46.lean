/- Package centroid: the closure of Moments. -/
import Derived.Test.YtkippclhbkjbmaaGreatZm45
import Derived.Test.YtkippclhbkjbmaaGreatZm28
import Derived.Test.YtkippclhbkjbmaaGreatZm37
import Derived.Test.YtkippclhbkjbmaaGreatZm25
set_option linter.unusedSimpArgs false
set_option linter.unusedVariables false

namespace Go.Proofs.YtkippclhbkjbmaaGreat
open Go.RowKit
attribute [local go_sem] add_lit

set_option maxRecDepth 100000 in
set_option maxHeartbeats 2000000 in
theorem about_ok (gc : Nat) (t : TypeId) (nx nx' ny ny' nz nz' : Bool) (Ax Bx Ay By Az Bz : Option Addr) (ax cx bx dx ay cy bb dy az cz bz dz : Nat) (X Y Z : Rat) (w : World) (hq : Blk w gc t #[.int .i64 0]) (hX : Fr w nx Ax ax cx nx' Bx bx dx X) (hY : Fr w ny Ay ay cy ny' By bb dy Y) (hZ : Fr w nz Az az cz nz' Bz bz dz Z) (sX : Sm X) (sY : Sm Y) (sZ : Sm Z) (sP : Sm (Y * Z)) :
    Calls Tryz.prog 30 #[.agg #[.bool nx, .slice Ax ax cx, .bool nx', .slice Bx bx dx], .agg #[.bool ny, .slice Ay ay cy, .bool ny', .slice By bb dy], .agg #[.bool nz, .slice Az az cz, .bool nz', .slice Bz bz dz], .pointer (some ⟨gc, 0, none⟩)] w (FracW w (X - Y * Z)) := by
  have hmx : Tryz.prog.follows .mixedOrders = true := by kernel_rfl
  have hgc : gc < w.heap.size := (Array.getElem?_eq_some_iff.1 hq).1
  obtain ⟨W0, hW0, hB, ⟨qx, qy, qz, q9⟩, sz⟩ := alloc4 w 32 #[.bool nx, .slice Ax ax cx, .bool nx', .slice Bx bx dx] 32 #[.bool ny, .slice Ay ay cy, .bool ny', .slice By bb dy] 32 #[.bool nz, .slice Az az cz, .bool nz', .slice Bz bz dz] 32 #[.bool false, .slice none 0 0, .bool false, .slice none 0 0]
  replace hq := hq.below hB hgc
  replace hX := hide (hX.below hB)
  replace hY := hide (hY.below hB)
  replace hZ := hide (hZ.below hB)
  go_enter Tryz.func30, Tryz.ntmps30
  go_wp2_with fail
  clear hW0
  have hSv : ∀ wx, Below W0.heap.size W0 wx → (wx.cell? ⟨w.heap.size, 0, none⟩ = some (.bool nx) ∧ wx.cell? ⟨w.heap.size, 1, none⟩ = some (.slice Ax ax cx) ∧ wx.cell? ⟨w.heap.size, 2, none⟩ = some (.bool nx') ∧ wx.cell? ⟨w.heap.size, 3, none⟩ = some (.slice Bx bx dx)) ∧ (wx.cell? ⟨w.heap.size + 1, 0, none⟩ = some (.bool ny) ∧ wx.cell? ⟨w.heap.size + 1, 1, none⟩ = some (.slice Ay ay cy) ∧ wx.cell? ⟨w.heap.size + 1, 2, none⟩ = some (.bool ny') ∧ wx.cell? ⟨w.heap.size + 1, 3, none⟩ = some (.slice By bb dy)) ∧ wx.cell? ⟨w.heap.size + 1 + 1, 0, none⟩ = some (.bool nz) ∧ wx.cell? ⟨w.heap.size + 1 + 1, 1, none⟩ = some (.slice Az az cz) ∧ wx.cell? ⟨w.heap.size + 1 + 1, 2, none⟩ = some (.bool nz') ∧ wx.cell? ⟨w.heap.size + 1 + 1, 3, none⟩ = some (.slice Bz bz dz) := fun wx hbx => by
    obtain ⟨e0, e1, e2, e3, -⟩ := (keep_blk hbx qx).four
    obtain ⟨f0, f1, f2, f3, -⟩ := (keep_blk hbx qy).four
    obtain ⟨g0, g1, g2, g3, -⟩ := (keep_blk hbx qz).four
    exact ⟨⟨e0, e1, e2, e3⟩, ⟨f0, f1, f2, f3⟩, g0, g1, g2, g3⟩
  refine wp_held [] (fun wx => (wx.cell? ⟨w.heap.size, 0, none⟩ = some (.bool nx) ∧ wx.cell? ⟨w.heap.size, 1, none⟩ = some (.slice Ax ax cx) ∧ wx.cell? ⟨w.heap.size, 2, none⟩ = some (.bool nx') ∧ wx.cell? ⟨w.heap.size, 3, none⟩ = some (.slice Bx bx dx)) ∧ (wx.cell? ⟨w.heap.size + 1, 0, none⟩ = some (.bool ny) ∧ wx.cell? ⟨w.heap.size + 1, 1, none⟩ = some (.slice Ay ay cy) ∧ wx.cell? ⟨w.heap.size + 1, 2, none⟩ = some (.bool ny') ∧ wx.cell? ⟨w.heap.size + 1, 3, none⟩ = some (.slice By bb dy)) ∧ wx.cell? ⟨w.heap.size + 1 + 1, 0, none⟩ = some (.bool nz) ∧ wx.cell? ⟨w.heap.size + 1 + 1, 1, none⟩ = some (.slice Az az cz) ∧ wx.cell? ⟨w.heap.size + 1 + 1, 2, none⟩ = some (.bool nz') ∧ wx.cell? ⟨w.heap.size + 1 + 1, 3, none⟩ = some (.slice Bz bz dz)) hmx (hSv _ (below_dn (Below.refl _ _) 1)) (fun _ => ?_)
  have hb6 : Below W0.heap.size W0 W0.drew := below_dn (Below.refl _ _) 1
  refine wpAnyL_take (i := 0) (v := ?v1) rfl (by kernel_rfl) (by kernel_rfl) (by kernel_rfl) (by kernel_rfl) (by kernel_rfl) (Or.inl ⟨by rfl, ?hy1⟩) (hSv _ hb6) ?rest1
  case hy1 => (intro W2 hSw; (try dsimp only at hSw); go_simp; try with_reducible rfl)
  try simp only [Act.put, List.setIfInBounds_toArray, List.set_cons_zero, List.set_cons_succ]
  refine wpAnyL_take (i := 1) (v := ?v2) rfl (by kernel_rfl) (by kernel_rfl) (by kernel_rfl) (by kernel_rfl) (by kernel_rfl) (Or.inl ⟨by rfl, ?hy2⟩) (hSv _ hb6) ?rest2
  case hy2 => (intro W2 hSw; (try dsimp only at hSw); go_simp; try with_reducible rfl)
  try simp only [Act.put, List.setIfInBounds_toArray, List.set_cons_zero, List.set_cons_succ]
  refine wpAnyL_take (i := 2) (v := ?v3) rfl (by kernel_rfl) (by kernel_rfl) (by kernel_rfl) (by kernel_rfl) (by kernel_rfl) (Or.inl ⟨by rfl, ?hy3⟩) (hSv _ hb6) ?rest3
  case hy3 => (intro W2 hSw; (try dsimp only at hSw); go_simp; try with_reducible rfl)
  try simp only [Act.put, List.setIfInBounds_toArray, List.set_cons_zero, List.set_cons_succ]
  refine wpAnyL_one (i := 3) rfl (by kernel_rfl) (fun K hK => ?_)
  have h1 := hY.out.below hb6
  have h2 := hZ.out.below hb6
  go_simp
  refine (fMul_ok _ _ _ _ _ _ _ _ _ _ _ _ _ _ _ _ _ _ _ h1 h2 sY sZ).mono ?_
  rintro e w1 ⟨hb1, np, P, k1, k2, np1, P1, k3, k4, rfl, hP⟩
  clear h1 h2
  replace hb6 := hb6.trans (hb1.mono hb6.size)
  replace hP := hide hP
  refine hK.out _ _ (fun _ => hSv _ hb6) ?_
  clear hK K
  try simp only [Act.put, List.setIfInBounds_toArray, List.set_cons_zero, List.set_cons_succ]
  refine wpAnyL_take (i := 4) (v := ?v4) rfl (by kernel_rfl) (by kernel_rfl) (by kernel_rfl) (by kernel_rfl) (by kernel_rfl) (Or.inl ⟨by rfl, ?hy4⟩) (hSv _ hb6) ?rest4
  case hy4 => (intro W2 hSw; (try dsimp only at hSw); go_simp; try with_reducible rfl)
  try simp only [Act.put, List.setIfInBounds_toArray, List.set_cons_zero, List.set_cons_succ]
  refine wpAnyL_take (i := 5) (v := ?v5) rfl (by kernel_rfl) (by kernel_rfl) (by kernel_rfl) (by kernel_rfl) (by kernel_rfl) (Or.inl ⟨by rfl, ?hy5⟩) (hSv _ hb6) ?rest5
  case hy5 => (intro W2 hSw; (try dsimp only at hSw); go_simp; try with_reducible rfl)
  try simp only [Act.put, List.setIfInBounds_toArray, List.set_cons_zero, List.set_cons_succ]
  refine wpAnyL_one (i := 6) rfl (by kernel_rfl) (fun K hK => ?_)
  have hq1 := keep_blk hb6 hq
  go_simp
  refine (keep_ok gc t np np1 P P1 k1 k2 k3 k4 w1 hq1).mono ?_
  rintro e w2 ⟨rfl, hb2⟩
  clear hq1
  replace hb6 := hb6.trans (hb2.mono hb6.size)
  replace hP := hide (hP.out.below hb2)
  refine hK.out _ _ (fun _ => hSv _ hb6) ?_
  clear hK K
  try simp only [Act.put, List.setIfInBounds_toArray, List.set_cons_zero, List.set_cons_succ]
  refine wpAnyL_one (i := 7) rfl (by kernel_rfl) (fun K hK => ?_)
  have h1 := hX.out.below hb6
  go_simp
  refine (fSub_ok _ _ _ _ _ _ _ _ _ _ _ _ _ _ _ _ _ _ _ h1 hP.out sX sP).mono ?_
  rintro e w3 ⟨hb3, nr, R, j1, j2, nr1, R1, j3, j4, rfl, hR⟩
  clear h1
  replace hb6 := hb6.trans (hb3.mono hb6.size)
  replace hR := hide hR
  refine hK.out _ _ (fun _ => hSv _ hb6) ?_
  clear hK K
  try simp only [Act.put, List.setIfInBounds_toArray, List.set_cons_zero, List.set_cons_succ]
  refine wpAnyL_take (i := 8) (v := ?v6) rfl (by kernel_rfl) (by kernel_rfl) (by kernel_rfl) (by kernel_rfl) (by kernel_rfl) (Or.inl ⟨by rfl, ?hy6⟩) (hSv _ hb6) ?rest6
  case hy6 => (intro W2 hSw; (try dsimp only at hSw); go_simp; try with_reducible rfl)
  try simp only [Act.put, List.setIfInBounds_toArray, List.set_cons_zero, List.set_cons_succ]
  refine wpAnyL_take (i := 9) (v := ?v7) rfl (by kernel_rfl) (by kernel_rfl) (by kernel_rfl) (by kernel_rfl) (by kernel_rfl) (Or.inl ⟨by rfl, ?hy7⟩) (hSv _ hb6) ?rest7
  case hy7 => (intro W2 hSw; (try dsimp only at hSw); go_simp; try with_reducible rfl)
  try simp only [Act.put, List.setIfInBounds_toArray, List.set_cons_zero, List.set_cons_succ]
  refine wpAnyL_one (i := 10) rfl (by kernel_rfl) (fun K hK => ?_)
  have hq1 := keep_blk hb6 hq
  go_simp
  refine (keep_ok gc t nr nr1 R R1 j1 j2 j3 j4 w3 hq1).mono ?_
  rintro e w4 ⟨rfl, hb4⟩
  clear hq1
  replace hb6 := hb6.trans (hb4.mono hb6.size)
  replace hR := hide (hR.out.below hb4)
  refine hK.out _ _ (fun _ => hSv _ hb6) ?_
  clear hK K
  try simp only [Act.put, List.setIfInBounds_toArray, List.set_cons_zero, List.set_cons_succ]
  have q9 := keep_blk hb6 q9
  have hBf := hB.trans (hb6.mono hB.size)
  obtain ⟨x0, x1, x2, x3, z0, z1, z2, z3⟩ := q9.four
  obtain ⟨V3, hV3, hB5, q5, hst5⟩ := set_frac nr R j1 j2 nr1 R1 j3 j4 hBf (by omega) q9
  have qx := hst5.2.1 _ _ _ (by omega) (keep_blk hb6 qx)
  have qy := hst5.2.1 _ _ _ (by omega) (keep_blk hb6 qy)
  have qz := hst5.2.1 _ _ _ (by omega) (keep_blk hb6 qz)
  obtain ⟨e0, e1, e2, e3, -⟩ := qx.four
  obtain ⟨f0, f1, f2, f3, -⟩ := qy.four
  obtain ⟨g0, g1, g2, g3, -⟩ := qz.four
  refine wpAnyL_one (i := 11) rfl (by kernel_rfl) (fun K hK => ?_)
  go_simp
  (try rw [hV3])
  refine hK.out _ _ (fun _ => ⟨⟨e0, e1, e2, e3⟩, ⟨f0, f1, f2, f3⟩, g0, g1, g2, g3⟩) ?_
  clear hK K
  try simp only [Act.put, List.setIfInBounds_toArray, List.set_cons_zero, List.set_cons_succ]
  refine wpAnyL_done (by kernel_rfl) ?_ _
  refine OnlyNormal.normal ?_
  replace hR := hR.out.keep hst5.1
  obtain ⟨r0, r1, r2, r3, -⟩ := q5.four
  go_wp2_with fail
  refine bodyPost_ret (v := .agg #[.bool nr, .slice R j1 j2, .bool nr1, .slice R1 j3 j4]) (by simp [results, Tryz.results30, go_sem, r0, r1, r2, r3]) rfl ?_
  exact ⟨hB5, _, _, _, _, _, _, _, _, rfl, hR⟩
end Go.Proofs.YtkippclhbkjbmaaGreat
