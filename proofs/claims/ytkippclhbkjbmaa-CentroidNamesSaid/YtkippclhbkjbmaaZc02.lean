/- The law's body: CentroidNames returns true. Arguments opened: a field, a list of numbers. The law CentroidNames holds: it returns true. -/
import Derived.ProofKit
import Derived.Deep.Slices
import Derived.Deep.Fields
import Derived.ChangeSame
import Derived.Test.YtkippclhbkjbmaaProg
import Derived.Test.YtkippclhbkjbmaaRows
import Derived.Carry
import Derived.Test.YtkippclhbkjbmaaZn51
import Derived.Test.YtkippclhbkjbmaaZn53
import Derived.Test.YtkippclhbkjbmaaZc01
import Derived.Test.YtkippclhbkjbmaaZn54
import Derived.Test.YtkippclhbkjbmaaZn19
set_option linter.unusedSimpArgs false
set_option linter.unusedVariables false

namespace Go.Proofs.Ytkippclhbkjbmaa
open Go.RowKit
attribute [local go_sem] add_lit

deriving instance DecidableEq for Mom
theorem info_fld : (Try.prog.info? 24).map (·.size) = some 3 := by kernel_rfl
theorem nm_s1 : startE 2 2 4 [1, 0, 0, 3] [0, 1, 2, 3] = 0 := by decide +kernel
theorem nm_e1 : momE' [1, 0, 0, 3] [0, 1, 2, 3] = 0 := by decide +kernel
theorem nm_m1 : momM' 2 [1, 0, 0, 3] [0, 1, 2, 3] = ⟨4, (3, 4), (3, 4), (3, 16), (3, 16), (3, 16)⟩ := by decide +kernel
theorem nm_s2 : startE 3 1 3 [-1, 0, 2] [0, 2] = 0 := by decide +kernel
theorem nm_e2 : momE' [-1, 0, 2] [0, 2] = 0 := by decide +kernel
theorem nm_m2 : momM' 3 [-1, 0, 2] [0, 2] = ⟨1, (4, 1), (0, 1), (-8, 1), (0, 1), (0, 1)⟩ := by decide +kernel
theorem nm_s3 : startE 2 1 2 [1, -1] [0, 1] = 0 := by decide +kernel
theorem nm_e3 : momE' [1, -1] [0, 1] = 18 := by decide +kernel
theorem nm_m3 : momM' 2 [1, -1] [0, 1] = Mom.zero := by decide +kernel
theorem nm_s4 : startE 1 1 1 [1] [] = 2 := by decide +kernel
theorem nm_s5 : startE 2 1 2 [1, 2] [1, 0] = 2 := by decide +kernel
theorem nm_s6 : startE 2 1 2 [1, 2] [2] = 2 := by decide +kernel
theorem nm_s7 : startE 0 0 0 [] [0] = 8 := by decide +kernel
theorem nm_b1 : boundE 2 1 2 [2, 2] [0, 1] 2 = 18 := by decide +kernel
theorem nm_b2 : boundE 2 1 2 [2, 2] [0, 1] (-1) = 2 := by decide +kernel
theorem nm_b3 : boundE 2 1 2 [2, 2] [0, 1] 4294967297 = 2 := by decide +kernel
theorem nm_34 : prQ (Rat.divInt 3 4) = (3, 4) := by decide +kernel
theorem nm_316 : prQ (Rat.divInt 3 16) = (3, 16) := by decide +kernel
theorem nm_41 : prQ (Rat.divInt 4 1) = (4, 1) := by decide +kernel
theorem nm_81 : prQ (Rat.divInt (-8) 1) = (-8, 1) := by decide +kernel
theorem nm_21 : prQ (Rat.divInt 2 1) = (2, 1) := by decide +kernel
theorem nm_sm {a b : Int} (h0 : 0 < b) (h1 : a.natAbs ≤ 100) (h2 : b.natAbs ≤ 100) : Sm (Rat.divInt a b) := by
  have h : 100 < pw 1 := by rw [pw_succ, pw_zero]; decide
  exact (SmN.div (i := 1) (j := 1) h0 (by omega) (by omega)).sm (by omega) (by omega)
theorem nm_h1 : accB [decide (cmpQ (Rat.divInt 0 1) (Rat.divInt 1 2) ≤ 0), decide (cmpQ (Rat.divInt 1 2) (Rat.divInt 1 2) ≤ 0), decide (cmpQ (Rat.divInt 1 1) (Rat.divInt 1 1) ≤ 0), decide (cmpQ (Rat.divInt 1 1) (Rat.divInt 1 1) ≤ 0)] 4 = true := by decide +kernel
theorem nm_h2 : accB [decide (cmpQ (Rat.divInt 0 1) (Rat.divInt 1 2) ≤ 0), decide (cmpQ (Rat.divInt 1 2) (Rat.divInt 1 2) ≤ 0), decide (cmpQ (Rat.divInt 1 1) (Rat.divInt 2 1) ≤ 0), decide (cmpQ (Rat.divInt 2 1) (Rat.divInt 1 1) ≤ 0)] 4 = false := by decide +kernel
theorem holds_bad (n0 m0 : Bool) (A0 B0 : Option Addr) (k0 c0 j0 d0 : Nat) (n1 m1 : Bool) (A1 B1 : Option Addr) (k1 c1 j1 d1 : Nat) (n2 m2 : Bool) (A2 B2 : Option Addr) (k2 c2 j2 d2 : Nat) (n3 m3 : Bool) (A3 B3 : Option Addr) (k3 c3 j3 d3 : Nat) (n4 m4 : Bool) (A4 B4 : Option Addr) (k4 c4 j4 d4 : Nat) (q0 q1 q2 q3 q4 : Int × Int) (w : World) (h0 : Fz w n0 A0 k0 c0 m0 B0 j0 d0 q0) (h1 : Fz w n1 A1 k1 c1 m1 B1 j1 d1 q1) (h2 : Fz w n2 A2 k2 c2 m2 B2 j2 d2 q2) (h3 : Fz w n3 A3 k3 c3 m3 B3 j3 d3 q3) (h4 : Fz w n4 A4 k4 c4 m4 B4 j4 d4 q4)
    (s0 : q0 = (0, 1)) (s1 : q1 = (1, 2)) (s2 : q2 = (1, 1)) (s3 : q3 = (1, 1)) (s4 : q4 = (1, 2)) :
    Calls Try.prog 10 #[.agg #[.bool n0, .slice A0 k0 c0, .bool m0, .slice B0 j0 d0, .bool n1, .slice A1 k1 c1, .bool m1, .slice B1 j1 d1, .bool n2, .slice A2 k2 c2, .bool m2, .slice B2 j2 d2, .bool n3, .slice A3 k3 c3, .bool m3, .slice B3 j3 d3], .agg #[.bool n4, .slice A4 k4 c4, .bool m4, .slice B4 j4 d4], .agg #[.bool false, .slice none 0 0, .bool false, .slice none 0 0]] w fun e w' => e = .returned (.tuple #[.bool false, .int .i64 8]) ∧ Below w.heap.size w w' := by
  have hz : Lim w none 0 0 [] := ⟨rfl, Nat.le_refl _, by unfold maxLen; omega, fun _ h => absurd h (by simp), fun h => absurd h (by omega)⟩
  have hd : ∀ z : Nat, z ≤ 2 → (digits z).length ≤ 6 := fun z hz => by
    have : z = 0 ∨ z = 1 ∨ z = 2 := by omega
    rcases this with rfl | rfl | rfl <;> decide +kernel
  have key : ∀ (n m : Bool) (A B : Option Addr) (k c j d : Nat) (q : Int × Int), Fz w n A k c m B j d q → q.1.natAbs ≤ 2 → q.2.natAbs ≤ 2 → (Lim w A k c (digits q.1.natAbs) ∧ Lim w B j d (digits q.2.natAbs) ∧ (k ≤ 6 ∧ j ≤ 6)) := fun n m A B k c j d q h a b =>
    ⟨h.1.2.2, h.2.2.2, by have := h.1.2.2.1; have := hd _ a; omega, by have := h.2.2.2.1; have := hd _ b; omega⟩
  obtain ⟨a0, b0, e0⟩ := key _ _ _ _ _ _ _ _ _ h0 (by rw [s0]; decide) (by rw [s0]; decide)
  obtain ⟨a1, b1, e1⟩ := key _ _ _ _ _ _ _ _ _ h1 (by rw [s1]; decide) (by rw [s1]; decide)
  obtain ⟨a2, b2, e2⟩ := key _ _ _ _ _ _ _ _ _ h2 (by rw [s2]; decide) (by rw [s2]; decide)
  obtain ⟨a3, b3, e3⟩ := key _ _ _ _ _ _ _ _ _ h3 (by rw [s3]; decide) (by rw [s3]; decide)
  obtain ⟨a4, b4, e4⟩ := key _ _ _ _ _ _ _ _ _ h4 (by rw [s4]; decide) (by rw [s4]; decide)
  have hx : okF false [] false [] = false := by decide +kernel
  refine (holds_any n0 m0 A0 B0 k0 c0 j0 d0 n1 m1 A1 B1 k1 c1 j1 d1 n2 m2 A2 B2 k2 c2 j2 d2 n3 m3 A3 B3 k3 c3 j3 d3 n4 m4 A4 B4 k4 c4 j4 d4 false false none none 0 0 0 0 _ _ _ _ _ _ _ _ _ _ [] [] _ _ _ _ _ false w a0 b0 e0 rfl a1 b1 e1 rfl a2 b2 e2 rfl a3 b3 e3 rfl a4 b4 e4 rfl hz hz (by omega) hx _ _ _ _ rfl rfl rfl rfl _ _ rfl rfl).mono ?_
  rintro e w' ⟨rfl, hb⟩
  refine ⟨?_, hb⟩
  have hE : ∀ a b c d : Bool, accE [errOf a, errOf b, errOf (c && false), errOf (false && d)] 4 ≠ 0 := by decide +kernel
  rw [if_neg (hE _ _ _ _), if_neg (hE _ _ _ _)]

set_option maxRecDepth 100000 in
set_option maxHeartbeats 16000000 in
theorem law_names (w : World) :
    Calls Try.prog 3 #[] w fun e w' => e = .returned (.bool true) ∧ Below w.heap.size w w' := by
  have hmx : Try.prog.follows .mixedOrders = true := by kernel_rfl
  have hB : Below w.heap.size w w := Below.refl _ _
  go_enter Try.func3, Try.ntmps3
  obtain ⟨dd, hd1, hd2⟩ := und_box
  obtain ⟨V1, hV1, hX1, y1, -, -, -⟩ := new_obj 2 #[.int .i64 1, .int .i64 0, .int .i64 0, .int .i64 3] (Below.refl w.heap.size w) (Nat.le_refl _)
  replace hB := hB.trans (hX1.mono hB.size)
  have hp := hide (LimI.of_blk (l := [1, 0, 0, 3]) y1 rfl (by decide) (by decide))
  obtain ⟨V2, hV2, hX2, y2, -, -, -⟩ := new_obj 24 #[.int .i64 0, .int .i64 0, .slice none 0 0] (Below.refl V1.heap.size V1) (Nat.le_refl _)
  obtain ⟨U2, hU2, hY2, q1, -⟩ := set_all [.int .i64 2, .int .i64 2, .slice (some ⟨w.heap.size, 0, none⟩) 4 4] [.int .i64 0, .int .i64 0, .slice none 0 0] rfl rfl rfl hX2 (Nat.le_refl _) y2
  replace hB := hB.trans (hY2.mono hB.size)
  replace hp := hide (hp.out.below hY2)
  have c0 := q1.cell 0
  have c1 := q1.cell 1
  have c2 := q1.cell 2
  simp at c0 c1 c2
  obtain ⟨V3, hV3, hX3, y3, -, -, -⟩ := new_obj 3 #[.int .i64 0, .int .i64 1, .int .i64 2, .int .i64 3] (Below.refl U2.heap.size U2) (Nat.le_refl _)
  replace hB := hB.trans (hX3.mono hB.size)
  replace q1 := keep_blk hX3 q1
  replace hp := hide (hp.out.below hX3)
  have hl := hide (LimI.of_blk (l := [0, 1, 2, 3]) y3 rfl (by decide) (by decide))
  go_wp2_with (first | (refine wpList_store_mid rfl 24 _ _ rfl V1.heap.size 0 #[.int .i64 2, .int .i64 2, .slice (some ⟨w.heap.size, 0, none⟩) 4 4] rfl rfl (y2.there (by simp)) info_fld (by simp [Value.oneCell']) ?_; rw [hU2]))
  refine (moments_any 2 2 _ 4 4 _ 4 4 [1, 0, 0, 3] [0, 1, 2, 3] V3 hp.out hl.out (by decide) (by decide) (by decide) nm_s1 0 _ nm_e1 nm_m1).mono ?_
  rintro e w1 ⟨hb, csA, rfl, hFa⟩
  clear hV1 hX1 y1 hV2 hX2 y2 hU2 hY2 hV3 hX3 y3
  replace hB := hB.trans (hb.mono hB.size)
  replace q1 := keep_blk hb q1
  replace hp := hide (hp.out.below hb)
  replace hl := hide (hl.out.below hb)
  clear c0 c1 c2 q1 hb hp hl
  obtain ⟨pn0, pA0, pk0, pc0, pm0, pB0, pj0, pd0, pn1, pA1, pk1, pc1, pm1, pB1, pj1, pd1, pn2, pA2, pk2, pc2, pm2, pB2, pj2, pd2, pn3, pA3, pk3, pc3, pm3, pB3, pj3, pd3, pn4, pA4, pk4, pc4, pm4, pB4, pj4, pd4, rfl, pf0, pf1, -, pf3, pf4⟩ := hFa
  replace pf0 := hide pf0
  replace pf1 := hide pf1
  replace pf3 := hide pf3
  replace pf4 := hide pf4
  obtain ⟨V4, hV4, hX4, y4, -, -, -⟩ := new_obj 31 #[.int .i64 0, .bool false, .slice none 0 0, .bool false, .slice none 0 0, .bool false, .slice none 0 0, .bool false, .slice none 0 0, .bool false, .slice none 0 0, .bool false, .slice none 0 0, .bool false, .slice none 0 0, .bool false, .slice none 0 0, .bool false, .slice none 0 0, .bool false, .slice none 0 0] (Below.refl w1.heap.size w1) (Nat.le_refl _)
  obtain ⟨U4, hU4, hY4, qm, -⟩ := set_all [.int .i64 4, .bool pn0, .slice pA0 pk0 pc0, .bool pm0, .slice pB0 pj0 pd0, .bool pn1, .slice pA1 pk1 pc1, .bool pm1, .slice pB1 pj1 pd1, .bool pn2, .slice pA2 pk2 pc2, .bool pm2, .slice pB2 pj2 pd2, .bool pn3, .slice pA3 pk3 pc3, .bool pm3, .slice pB3 pj3 pd3, .bool pn4, .slice pA4 pk4 pc4, .bool pm4, .slice pB4 pj4 pd4] [.int .i64 0, .bool false, .slice none 0 0, .bool false, .slice none 0 0, .bool false, .slice none 0 0, .bool false, .slice none 0 0, .bool false, .slice none 0 0, .bool false, .slice none 0 0, .bool false, .slice none 0 0, .bool false, .slice none 0 0, .bool false, .slice none 0 0, .bool false, .slice none 0 0] rfl rfl rfl hX4 (Nat.le_refl _) y4
  replace hB := hB.trans (hY4.mono hB.size)
  replace pf0 := hide (pf0.out.below hY4)
  replace pf1 := hide (pf1.out.below hY4)
  replace pf3 := hide (pf3.out.below hY4)
  replace pf4 := hide (pf4.out.below hY4)
  obtain ⟨V5, hV5, hX5, y5, -, -, -⟩ := new_obj 2 #[.int .i64 (-1), .int .i64 0, .int .i64 2] (Below.refl U4.heap.size U4) (Nat.le_refl _)
  replace hB := hB.trans (hX5.mono hB.size)
  replace qm := keep_blk hX5 qm
  replace pf0 := hide (pf0.out.below hX5)
  replace pf1 := hide (pf1.out.below hX5)
  replace pf3 := hide (pf3.out.below hX5)
  replace pf4 := hide (pf4.out.below hX5)
  have hp := hide (LimI.of_blk (l := [-1, 0, 2]) y5 rfl (by decide) (by decide))
  go_wp2_with (first | (refine wpList_store_mid rfl 31 _ _ rfl w1.heap.size 0 #[.int .i64 4, .bool pn0, .slice pA0 pk0 pc0, .bool pm0, .slice pB0 pj0 pd0, .bool pn1, .slice pA1 pk1 pc1, .bool pm1, .slice pB1 pj1 pd1, .bool pn2, .slice pA2 pk2 pc2, .bool pm2, .slice pB2 pj2 pd2, .bool pn3, .slice pA3 pk3 pc3, .bool pm3, .slice pB3 pj3 pd3, .bool pn4, .slice pA4 pk4 pc4, .bool pm4, .slice pB4 pj4 pd4] rfl rfl (y4.there (by simp)) info_mom (by simp [Value.oneCell']) ?_; rw [hU4]))
  refine (lawRow_ok _ 3 3 V5).mono ?_
  rintro e w2 ⟨rfl, hb⟩
  clear hV4 hX4 y4 hU4 hY4 hV5 hX5 y5
  replace hB := hB.trans (hb.mono hB.size)
  replace qm := keep_blk hb qm
  replace pf0 := hide (pf0.out.below hb)
  replace pf1 := hide (pf1.out.below hb)
  replace pf3 := hide (pf3.out.below hb)
  replace pf4 := hide (pf4.out.below hb)
  replace hp := hide (hp.out.below hb)
  clear hb
  obtain ⟨V6, hV6, hX6, y6, -, -, -⟩ := new_obj 3 #[.int .i64 0, .int .i64 2] (Below.refl w2.heap.size w2) (Nat.le_refl _)
  replace hB := hB.trans (hX6.mono hB.size)
  replace qm := keep_blk hX6 qm
  replace pf0 := hide (pf0.out.below hX6)
  replace pf1 := hide (pf1.out.below hX6)
  replace pf3 := hide (pf3.out.below hX6)
  replace pf4 := hide (pf4.out.below hX6)
  replace hp := hide (hp.out.below hX6)
  have hl := hide (LimI.of_blk (l := [0, 2]) y6 rfl (by decide) (by decide))
  go_wp2_with fail
  refine (moments_any 3 1 _ 3 3 _ 2 2 [-1, 0, 2] [0, 2] V6 hp.out hl.out (by decide) (by decide) (by decide) nm_s2 0 _ nm_e2 nm_m2).mono ?_
  rintro e w3 ⟨hb, csA, rfl, hFa⟩
  clear hV6 hX6 y6
  replace hB := hB.trans (hb.mono hB.size)
  replace qm := keep_blk hb qm
  replace pf0 := hide (pf0.out.below hb)
  replace pf1 := hide (pf1.out.below hb)
  replace pf3 := hide (pf3.out.below hb)
  replace pf4 := hide (pf4.out.below hb)
  replace hp := hide (hp.out.below hb)
  replace hl := hide (hl.out.below hb)
  clear hb hp hl
  obtain ⟨qn0, qA0, qk0, qc0, qm0, qB0, qj0, qd0, qn1, qA1, qk1, qc1, qm1, qB1, qj1, qd1, qn2, qA2, qk2, qc2, qm2, qB2, qj2, qd2, qn3, qA3, qk3, qc3, qm3, qB3, qj3, qd3, qn4, qA4, qk4, qc4, qm4, qB4, qj4, qd4, rfl, qf0, -, qf2, -, -⟩ := hFa
  replace qf0 := hide qf0
  replace qf2 := hide qf2
  obtain ⟨V7, hV7, hX7, y7, -, -, -⟩ := new_obj 31 #[.int .i64 0, .bool false, .slice none 0 0, .bool false, .slice none 0 0, .bool false, .slice none 0 0, .bool false, .slice none 0 0, .bool false, .slice none 0 0, .bool false, .slice none 0 0, .bool false, .slice none 0 0, .bool false, .slice none 0 0, .bool false, .slice none 0 0, .bool false, .slice none 0 0] (Below.refl w3.heap.size w3) (Nat.le_refl _)
  obtain ⟨U7, hU7, hY7, qn, -⟩ := set_all [.int .i64 1, .bool qn0, .slice qA0 qk0 qc0, .bool qm0, .slice qB0 qj0 qd0, .bool qn1, .slice qA1 qk1 qc1, .bool qm1, .slice qB1 qj1 qd1, .bool qn2, .slice qA2 qk2 qc2, .bool qm2, .slice qB2 qj2 qd2, .bool qn3, .slice qA3 qk3 qc3, .bool qm3, .slice qB3 qj3 qd3, .bool qn4, .slice qA4 qk4 qc4, .bool qm4, .slice qB4 qj4 qd4] [.int .i64 0, .bool false, .slice none 0 0, .bool false, .slice none 0 0, .bool false, .slice none 0 0, .bool false, .slice none 0 0, .bool false, .slice none 0 0, .bool false, .slice none 0 0, .bool false, .slice none 0 0, .bool false, .slice none 0 0, .bool false, .slice none 0 0, .bool false, .slice none 0 0] rfl rfl rfl hX7 (Nat.le_refl _) y7
  replace hB := hB.trans (hY7.mono hB.size)
  replace qm := keep_blk hY7 qm
  replace pf0 := hide (pf0.out.below hY7)
  replace pf1 := hide (pf1.out.below hY7)
  replace pf3 := hide (pf3.out.below hY7)
  replace pf4 := hide (pf4.out.below hY7)
  replace qf0 := hide (qf0.out.below hY7)
  replace qf2 := hide (qf2.out.below hY7)
  obtain ⟨V8, hV8, hX8, y8, -, -, -⟩ := new_obj 2 #[.int .i64 1, .int .i64 (-1)] (Below.refl U7.heap.size U7) (Nat.le_refl _)
  replace hB := hB.trans (hX8.mono hB.size)
  replace qm := keep_blk hX8 qm
  replace qn := keep_blk hX8 qn
  replace pf0 := hide (pf0.out.below hX8)
  replace pf1 := hide (pf1.out.below hX8)
  replace pf3 := hide (pf3.out.below hX8)
  replace pf4 := hide (pf4.out.below hX8)
  replace qf0 := hide (qf0.out.below hX8)
  replace qf2 := hide (qf2.out.below hX8)
  have hp := hide (LimI.of_blk (l := [1, -1]) y8 rfl (by decide) (by decide))
  go_wp2_with (first | (refine wpList_store_mid rfl 31 _ _ rfl w3.heap.size 0 #[.int .i64 1, .bool qn0, .slice qA0 qk0 qc0, .bool qm0, .slice qB0 qj0 qd0, .bool qn1, .slice qA1 qk1 qc1, .bool qm1, .slice qB1 qj1 qd1, .bool qn2, .slice qA2 qk2 qc2, .bool qm2, .slice qB2 qj2 qd2, .bool qn3, .slice qA3 qk3 qc3, .bool qm3, .slice qB3 qj3 qd3, .bool qn4, .slice qA4 qk4 qc4, .bool qm4, .slice qB4 qj4 qd4] rfl rfl (y7.there (by simp)) info_mom (by simp [Value.oneCell']) ?_; rw [hU7]))
  refine (lawRow_ok _ 2 2 V8).mono ?_
  rintro e w4 ⟨rfl, hb⟩
  clear hV7 hX7 y7 hU7 hY7 hV8 hX8 y8
  replace hB := hB.trans (hb.mono hB.size)
  replace qm := keep_blk hb qm
  replace qn := keep_blk hb qn
  replace pf0 := hide (pf0.out.below hb)
  replace pf1 := hide (pf1.out.below hb)
  replace pf3 := hide (pf3.out.below hb)
  replace pf4 := hide (pf4.out.below hb)
  replace qf0 := hide (qf0.out.below hb)
  replace qf2 := hide (qf2.out.below hb)
  replace hp := hide (hp.out.below hb)
  clear hb
  obtain ⟨V9, hV9, hX9, y9, -, -, -⟩ := new_obj 3 #[.int .i64 0, .int .i64 1] (Below.refl w4.heap.size w4) (Nat.le_refl _)
  replace hB := hB.trans (hX9.mono hB.size)
  replace qm := keep_blk hX9 qm
  replace qn := keep_blk hX9 qn
  replace pf0 := hide (pf0.out.below hX9)
  replace pf1 := hide (pf1.out.below hX9)
  replace pf3 := hide (pf3.out.below hX9)
  replace pf4 := hide (pf4.out.below hX9)
  replace qf0 := hide (qf0.out.below hX9)
  replace qf2 := hide (qf2.out.below hX9)
  replace hp := hide (hp.out.below hX9)
  have hl := hide (LimI.of_blk (l := [0, 1]) y9 rfl (by decide) (by decide))
  go_wp2_with fail
  refine (moments_any 2 1 _ 2 2 _ 2 2 [1, -1] [0, 1] V9 hp.out hl.out (by decide) (by decide) (by decide) nm_s3 18 _ nm_e3 nm_m3).mono ?_
  rintro e w5 ⟨hb, csA, rfl, hFa⟩
  clear hV9 hX9 y9
  replace hB := hB.trans (hb.mono hB.size)
  replace qm := keep_blk hb qm
  replace qn := keep_blk hb qn
  replace pf0 := hide (pf0.out.below hb)
  replace pf1 := hide (pf1.out.below hb)
  replace pf3 := hide (pf3.out.below hb)
  replace pf4 := hide (pf4.out.below hb)
  replace qf0 := hide (qf0.out.below hb)
  replace qf2 := hide (qf2.out.below hb)
  replace hp := hide (hp.out.below hb)
  replace hl := hide (hl.out.below hb)
  clear hp hl
  clear hb
  obtain ⟨rn0, rA0, rk0, rc0, rm0, rB0, rj0, rd0, rn1, rA1, rk1, rc1, rm1, rB1, rj1, rd1, rn2, rA2, rk2, rc2, rm2, rB2, rj2, rd2, rn3, rA3, rk3, rc3, rm3, rB3, rj3, rd3, rn4, rA4, rk4, rc4, rm4, rB4, rj4, rd4, rfl, -, -, -, -, -⟩ := hFa
  obtain ⟨V10, hV10, hX10, y10, -, -, -⟩ := new_obj 31 #[.int .i64 0, .bool false, .slice none 0 0, .bool false, .slice none 0 0, .bool false, .slice none 0 0, .bool false, .slice none 0 0, .bool false, .slice none 0 0, .bool false, .slice none 0 0, .bool false, .slice none 0 0, .bool false, .slice none 0 0, .bool false, .slice none 0 0, .bool false, .slice none 0 0] (Below.refl w5.heap.size w5) (Nat.le_refl _)
  obtain ⟨U10, hU10, hY10, qu, -⟩ := set_all [.int .i64 0, .bool rn0, .slice rA0 rk0 rc0, .bool rm0, .slice rB0 rj0 rd0, .bool rn1, .slice rA1 rk1 rc1, .bool rm1, .slice rB1 rj1 rd1, .bool rn2, .slice rA2 rk2 rc2, .bool rm2, .slice rB2 rj2 rd2, .bool rn3, .slice rA3 rk3 rc3, .bool rm3, .slice rB3 rj3 rd3, .bool rn4, .slice rA4 rk4 rc4, .bool rm4, .slice rB4 rj4 rd4] [.int .i64 0, .bool false, .slice none 0 0, .bool false, .slice none 0 0, .bool false, .slice none 0 0, .bool false, .slice none 0 0, .bool false, .slice none 0 0, .bool false, .slice none 0 0, .bool false, .slice none 0 0, .bool false, .slice none 0 0, .bool false, .slice none 0 0, .bool false, .slice none 0 0] rfl rfl rfl hX10 (Nat.le_refl _) y10
  replace hB := hB.trans (hY10.mono hB.size)
  replace qm := keep_blk hY10 qm
  replace qn := keep_blk hY10 qn
  replace pf0 := hide (pf0.out.below hY10)
  replace pf1 := hide (pf1.out.below hY10)
  replace pf3 := hide (pf3.out.below hY10)
  replace pf4 := hide (pf4.out.below hY10)
  replace qf0 := hide (qf0.out.below hY10)
  replace qf2 := hide (qf2.out.below hY10)
  clear qu
  obtain ⟨V11, hV11, hX11, y11, -, -, -⟩ := new_obj 2 #[.int .i64 1] (Below.refl U10.heap.size U10) (Nat.le_refl _)
  replace hB := hB.trans (hX11.mono hB.size)
  replace qm := keep_blk hX11 qm
  replace qn := keep_blk hX11 qn
  replace pf0 := hide (pf0.out.below hX11)
  replace pf1 := hide (pf1.out.below hX11)
  replace pf3 := hide (pf3.out.below hX11)
  replace pf4 := hide (pf4.out.below hX11)
  replace qf0 := hide (qf0.out.below hX11)
  replace qf2 := hide (qf2.out.below hX11)
  have hp := hide (LimI.of_blk (l := [1]) y11 rfl (by decide) (by decide))
  go_wp2_with (first | (refine wpList_store_mid rfl 31 _ _ rfl w5.heap.size 0 #[.int .i64 0, .bool rn0, .slice rA0 rk0 rc0, .bool rm0, .slice rB0 rj0 rd0, .bool rn1, .slice rA1 rk1 rc1, .bool rm1, .slice rB1 rj1 rd1, .bool rn2, .slice rA2 rk2 rc2, .bool rm2, .slice rB2 rj2 rd2, .bool rn3, .slice rA3 rk3 rc3, .bool rm3, .slice rB3 rj3 rd3, .bool rn4, .slice rA4 rk4 rc4, .bool rm4, .slice rB4 rj4 rd4] rfl rfl (y10.there (by simp)) info_mom (by simp [Value.oneCell']) ?_; rw [hU10]))
  refine (lawRow_ok _ 1 1 V11).mono ?_
  rintro e w6 ⟨rfl, hb⟩
  clear hV10 hX10 y10 hU10 hY10 hV11 hX11 y11
  replace hB := hB.trans (hb.mono hB.size)
  replace qm := keep_blk hb qm
  replace qn := keep_blk hb qn
  replace pf0 := hide (pf0.out.below hb)
  replace pf1 := hide (pf1.out.below hb)
  replace pf3 := hide (pf3.out.below hb)
  replace pf4 := hide (pf4.out.below hb)
  replace qf0 := hide (qf0.out.below hb)
  replace qf2 := hide (qf2.out.below hb)
  replace hp := hide (hp.out.below hb)
  clear hb
  go_wp2_with fail
  refine (moments_bad 1 1 _ 1 1 none 0 0 [1] [] w6 hp.out ⟨rfl, Nat.le_refl _, by unfold maxLen; omega, fun _ h => absurd h (by simp), fun h => absurd h (by omega)⟩ (by omega) (by omega) (by decide) (by decide) 2 nm_s4 (by decide)).mono ?_
  rintro e w7 ⟨hb, csA, rfl, hFa⟩
  replace hB := hB.trans (hb.mono hB.size)
  replace qm := keep_blk hb qm
  replace qn := keep_blk hb qn
  replace pf0 := hide (pf0.out.below hb)
  replace pf1 := hide (pf1.out.below hb)
  replace pf3 := hide (pf3.out.below hb)
  replace pf4 := hide (pf4.out.below hb)
  replace qf0 := hide (qf0.out.below hb)
  replace qf2 := hide (qf2.out.below hb)
  replace hp := hide (hp.out.below hb)
  clear hp
  clear hb
  obtain ⟨rn0, rA0, rk0, rc0, rm0, rB0, rj0, rd0, rn1, rA1, rk1, rc1, rm1, rB1, rj1, rd1, rn2, rA2, rk2, rc2, rm2, rB2, rj2, rd2, rn3, rA3, rk3, rc3, rm3, rB3, rj3, rd3, rn4, rA4, rk4, rc4, rm4, rB4, rj4, rd4, rfl, -, -, -, -, -⟩ := hFa
  obtain ⟨V12, hV12, hX12, y12, -, -, -⟩ := new_obj 31 #[.int .i64 0, .bool false, .slice none 0 0, .bool false, .slice none 0 0, .bool false, .slice none 0 0, .bool false, .slice none 0 0, .bool false, .slice none 0 0, .bool false, .slice none 0 0, .bool false, .slice none 0 0, .bool false, .slice none 0 0, .bool false, .slice none 0 0, .bool false, .slice none 0 0] (Below.refl w7.heap.size w7) (Nat.le_refl _)
  obtain ⟨U12, hU12, hY12, qu, -⟩ := set_all [.int .i64 0, .bool rn0, .slice rA0 rk0 rc0, .bool rm0, .slice rB0 rj0 rd0, .bool rn1, .slice rA1 rk1 rc1, .bool rm1, .slice rB1 rj1 rd1, .bool rn2, .slice rA2 rk2 rc2, .bool rm2, .slice rB2 rj2 rd2, .bool rn3, .slice rA3 rk3 rc3, .bool rm3, .slice rB3 rj3 rd3, .bool rn4, .slice rA4 rk4 rc4, .bool rm4, .slice rB4 rj4 rd4] [.int .i64 0, .bool false, .slice none 0 0, .bool false, .slice none 0 0, .bool false, .slice none 0 0, .bool false, .slice none 0 0, .bool false, .slice none 0 0, .bool false, .slice none 0 0, .bool false, .slice none 0 0, .bool false, .slice none 0 0, .bool false, .slice none 0 0, .bool false, .slice none 0 0] rfl rfl rfl hX12 (Nat.le_refl _) y12
  replace hB := hB.trans (hY12.mono hB.size)
  replace qm := keep_blk hY12 qm
  replace qn := keep_blk hY12 qn
  replace pf0 := hide (pf0.out.below hY12)
  replace pf1 := hide (pf1.out.below hY12)
  replace pf3 := hide (pf3.out.below hY12)
  replace pf4 := hide (pf4.out.below hY12)
  replace qf0 := hide (qf0.out.below hY12)
  replace qf2 := hide (qf2.out.below hY12)
  clear qu
  obtain ⟨V13, hV13, hX13, y13, -, -, -⟩ := new_obj 2 #[.int .i64 1, .int .i64 2] (Below.refl U12.heap.size U12) (Nat.le_refl _)
  replace hB := hB.trans (hX13.mono hB.size)
  replace qm := keep_blk hX13 qm
  replace qn := keep_blk hX13 qn
  replace pf0 := hide (pf0.out.below hX13)
  replace pf1 := hide (pf1.out.below hX13)
  replace pf3 := hide (pf3.out.below hX13)
  replace pf4 := hide (pf4.out.below hX13)
  replace qf0 := hide (qf0.out.below hX13)
  replace qf2 := hide (qf2.out.below hX13)
  have hp := hide (LimI.of_blk (l := [1, 2]) y13 rfl (by decide) (by decide))
  go_wp2_with (first | (refine wpList_store_mid rfl 31 _ _ rfl w7.heap.size 0 #[.int .i64 0, .bool rn0, .slice rA0 rk0 rc0, .bool rm0, .slice rB0 rj0 rd0, .bool rn1, .slice rA1 rk1 rc1, .bool rm1, .slice rB1 rj1 rd1, .bool rn2, .slice rA2 rk2 rc2, .bool rm2, .slice rB2 rj2 rd2, .bool rn3, .slice rA3 rk3 rc3, .bool rm3, .slice rB3 rj3 rd3, .bool rn4, .slice rA4 rk4 rc4, .bool rm4, .slice rB4 rj4 rd4] rfl rfl (y12.there (by simp)) info_mom (by simp [Value.oneCell']) ?_; rw [hU12]))
  refine (lawRow_ok _ 2 2 V13).mono ?_
  rintro e w8 ⟨rfl, hb⟩
  clear hV12 hX12 y12 hU12 hY12 hV13 hX13 y13
  replace hB := hB.trans (hb.mono hB.size)
  replace qm := keep_blk hb qm
  replace qn := keep_blk hb qn
  replace pf0 := hide (pf0.out.below hb)
  replace pf1 := hide (pf1.out.below hb)
  replace pf3 := hide (pf3.out.below hb)
  replace pf4 := hide (pf4.out.below hb)
  replace qf0 := hide (qf0.out.below hb)
  replace qf2 := hide (qf2.out.below hb)
  replace hp := hide (hp.out.below hb)
  clear hb
  obtain ⟨V14, hV14, hX14, y14, -, -, -⟩ := new_obj 3 #[.int .i64 1, .int .i64 0] (Below.refl w8.heap.size w8) (Nat.le_refl _)
  replace hB := hB.trans (hX14.mono hB.size)
  replace qm := keep_blk hX14 qm
  replace qn := keep_blk hX14 qn
  replace pf0 := hide (pf0.out.below hX14)
  replace pf1 := hide (pf1.out.below hX14)
  replace pf3 := hide (pf3.out.below hX14)
  replace pf4 := hide (pf4.out.below hX14)
  replace qf0 := hide (qf0.out.below hX14)
  replace qf2 := hide (qf2.out.below hX14)
  replace hp := hide (hp.out.below hX14)
  have hl := hide (LimI.of_blk (l := [1, 0]) y14 rfl (by decide) (by decide))
  go_wp2_with fail
  refine (moments_bad 2 1 _ 2 2 _ 2 2 [1, 2] [1, 0] V14 hp.out hl.out (by omega) (by omega) (by decide) (by decide) 2 nm_s5 (by decide)).mono ?_
  rintro e w9 ⟨hb, csA, rfl, hFa⟩
  clear hV14 hX14 y14
  replace hB := hB.trans (hb.mono hB.size)
  replace qm := keep_blk hb qm
  replace qn := keep_blk hb qn
  replace pf0 := hide (pf0.out.below hb)
  replace pf1 := hide (pf1.out.below hb)
  replace pf3 := hide (pf3.out.below hb)
  replace pf4 := hide (pf4.out.below hb)
  replace qf0 := hide (qf0.out.below hb)
  replace qf2 := hide (qf2.out.below hb)
  replace hp := hide (hp.out.below hb)
  replace hl := hide (hl.out.below hb)
  clear hp hl
  clear hb
  obtain ⟨rn0, rA0, rk0, rc0, rm0, rB0, rj0, rd0, rn1, rA1, rk1, rc1, rm1, rB1, rj1, rd1, rn2, rA2, rk2, rc2, rm2, rB2, rj2, rd2, rn3, rA3, rk3, rc3, rm3, rB3, rj3, rd3, rn4, rA4, rk4, rc4, rm4, rB4, rj4, rd4, rfl, -, -, -, -, -⟩ := hFa
  obtain ⟨V15, hV15, hX15, y15, -, -, -⟩ := new_obj 31 #[.int .i64 0, .bool false, .slice none 0 0, .bool false, .slice none 0 0, .bool false, .slice none 0 0, .bool false, .slice none 0 0, .bool false, .slice none 0 0, .bool false, .slice none 0 0, .bool false, .slice none 0 0, .bool false, .slice none 0 0, .bool false, .slice none 0 0, .bool false, .slice none 0 0] (Below.refl w9.heap.size w9) (Nat.le_refl _)
  obtain ⟨U15, hU15, hY15, qu, -⟩ := set_all [.int .i64 0, .bool rn0, .slice rA0 rk0 rc0, .bool rm0, .slice rB0 rj0 rd0, .bool rn1, .slice rA1 rk1 rc1, .bool rm1, .slice rB1 rj1 rd1, .bool rn2, .slice rA2 rk2 rc2, .bool rm2, .slice rB2 rj2 rd2, .bool rn3, .slice rA3 rk3 rc3, .bool rm3, .slice rB3 rj3 rd3, .bool rn4, .slice rA4 rk4 rc4, .bool rm4, .slice rB4 rj4 rd4] [.int .i64 0, .bool false, .slice none 0 0, .bool false, .slice none 0 0, .bool false, .slice none 0 0, .bool false, .slice none 0 0, .bool false, .slice none 0 0, .bool false, .slice none 0 0, .bool false, .slice none 0 0, .bool false, .slice none 0 0, .bool false, .slice none 0 0, .bool false, .slice none 0 0] rfl rfl rfl hX15 (Nat.le_refl _) y15
  replace hB := hB.trans (hY15.mono hB.size)
  replace qm := keep_blk hY15 qm
  replace qn := keep_blk hY15 qn
  replace pf0 := hide (pf0.out.below hY15)
  replace pf1 := hide (pf1.out.below hY15)
  replace pf3 := hide (pf3.out.below hY15)
  replace pf4 := hide (pf4.out.below hY15)
  replace qf0 := hide (qf0.out.below hY15)
  replace qf2 := hide (qf2.out.below hY15)
  clear qu
  obtain ⟨V16, hV16, hX16, y16, -, -, -⟩ := new_obj 2 #[.int .i64 1, .int .i64 2] (Below.refl U15.heap.size U15) (Nat.le_refl _)
  replace hB := hB.trans (hX16.mono hB.size)
  replace qm := keep_blk hX16 qm
  replace qn := keep_blk hX16 qn
  replace pf0 := hide (pf0.out.below hX16)
  replace pf1 := hide (pf1.out.below hX16)
  replace pf3 := hide (pf3.out.below hX16)
  replace pf4 := hide (pf4.out.below hX16)
  replace qf0 := hide (qf0.out.below hX16)
  replace qf2 := hide (qf2.out.below hX16)
  have hp := hide (LimI.of_blk (l := [1, 2]) y16 rfl (by decide) (by decide))
  go_wp2_with (first | (refine wpList_store_mid rfl 31 _ _ rfl w9.heap.size 0 #[.int .i64 0, .bool rn0, .slice rA0 rk0 rc0, .bool rm0, .slice rB0 rj0 rd0, .bool rn1, .slice rA1 rk1 rc1, .bool rm1, .slice rB1 rj1 rd1, .bool rn2, .slice rA2 rk2 rc2, .bool rm2, .slice rB2 rj2 rd2, .bool rn3, .slice rA3 rk3 rc3, .bool rm3, .slice rB3 rj3 rd3, .bool rn4, .slice rA4 rk4 rc4, .bool rm4, .slice rB4 rj4 rd4] rfl rfl (y15.there (by simp)) info_mom (by simp [Value.oneCell']) ?_; rw [hU15]))
  refine (lawRow_ok _ 2 2 V16).mono ?_
  rintro e w10 ⟨rfl, hb⟩
  clear hV15 hX15 y15 hU15 hY15 hV16 hX16 y16
  replace hB := hB.trans (hb.mono hB.size)
  replace qm := keep_blk hb qm
  replace qn := keep_blk hb qn
  replace pf0 := hide (pf0.out.below hb)
  replace pf1 := hide (pf1.out.below hb)
  replace pf3 := hide (pf3.out.below hb)
  replace pf4 := hide (pf4.out.below hb)
  replace qf0 := hide (qf0.out.below hb)
  replace qf2 := hide (qf2.out.below hb)
  replace hp := hide (hp.out.below hb)
  clear hb
  obtain ⟨V17, hV17, hX17, y17, -, -, -⟩ := new_obj 3 #[.int .i64 2] (Below.refl w10.heap.size w10) (Nat.le_refl _)
  replace hB := hB.trans (hX17.mono hB.size)
  replace qm := keep_blk hX17 qm
  replace qn := keep_blk hX17 qn
  replace pf0 := hide (pf0.out.below hX17)
  replace pf1 := hide (pf1.out.below hX17)
  replace pf3 := hide (pf3.out.below hX17)
  replace pf4 := hide (pf4.out.below hX17)
  replace qf0 := hide (qf0.out.below hX17)
  replace qf2 := hide (qf2.out.below hX17)
  replace hp := hide (hp.out.below hX17)
  have hl := hide (LimI.of_blk (l := [2]) y17 rfl (by decide) (by decide))
  go_wp2_with fail
  refine (moments_bad 2 1 _ 2 2 _ 1 1 [1, 2] [2] V17 hp.out hl.out (by omega) (by omega) (by decide) (by decide) 2 nm_s6 (by decide)).mono ?_
  rintro e w11 ⟨hb, csA, rfl, hFa⟩
  clear hV17 hX17 y17
  replace hB := hB.trans (hb.mono hB.size)
  replace qm := keep_blk hb qm
  replace qn := keep_blk hb qn
  replace pf0 := hide (pf0.out.below hb)
  replace pf1 := hide (pf1.out.below hb)
  replace pf3 := hide (pf3.out.below hb)
  replace pf4 := hide (pf4.out.below hb)
  replace qf0 := hide (qf0.out.below hb)
  replace qf2 := hide (qf2.out.below hb)
  replace hp := hide (hp.out.below hb)
  replace hl := hide (hl.out.below hb)
  clear hp hl
  clear hb
  obtain ⟨rn0, rA0, rk0, rc0, rm0, rB0, rj0, rd0, rn1, rA1, rk1, rc1, rm1, rB1, rj1, rd1, rn2, rA2, rk2, rc2, rm2, rB2, rj2, rd2, rn3, rA3, rk3, rc3, rm3, rB3, rj3, rd3, rn4, rA4, rk4, rc4, rm4, rB4, rj4, rd4, rfl, -, -, -, -, -⟩ := hFa
  obtain ⟨V18, hV18, hX18, y18, -, -, -⟩ := new_obj 31 #[.int .i64 0, .bool false, .slice none 0 0, .bool false, .slice none 0 0, .bool false, .slice none 0 0, .bool false, .slice none 0 0, .bool false, .slice none 0 0, .bool false, .slice none 0 0, .bool false, .slice none 0 0, .bool false, .slice none 0 0, .bool false, .slice none 0 0, .bool false, .slice none 0 0] (Below.refl w11.heap.size w11) (Nat.le_refl _)
  obtain ⟨U18, hU18, hY18, qu, -⟩ := set_all [.int .i64 0, .bool rn0, .slice rA0 rk0 rc0, .bool rm0, .slice rB0 rj0 rd0, .bool rn1, .slice rA1 rk1 rc1, .bool rm1, .slice rB1 rj1 rd1, .bool rn2, .slice rA2 rk2 rc2, .bool rm2, .slice rB2 rj2 rd2, .bool rn3, .slice rA3 rk3 rc3, .bool rm3, .slice rB3 rj3 rd3, .bool rn4, .slice rA4 rk4 rc4, .bool rm4, .slice rB4 rj4 rd4] [.int .i64 0, .bool false, .slice none 0 0, .bool false, .slice none 0 0, .bool false, .slice none 0 0, .bool false, .slice none 0 0, .bool false, .slice none 0 0, .bool false, .slice none 0 0, .bool false, .slice none 0 0, .bool false, .slice none 0 0, .bool false, .slice none 0 0, .bool false, .slice none 0 0] rfl rfl rfl hX18 (Nat.le_refl _) y18
  replace hB := hB.trans (hY18.mono hB.size)
  replace qm := keep_blk hY18 qm
  replace qn := keep_blk hY18 qn
  replace pf0 := hide (pf0.out.below hY18)
  replace pf1 := hide (pf1.out.below hY18)
  replace pf3 := hide (pf3.out.below hY18)
  replace pf4 := hide (pf4.out.below hY18)
  replace qf0 := hide (qf0.out.below hY18)
  replace qf2 := hide (qf2.out.below hY18)
  clear qu
  obtain ⟨V19, hV19, hX19, y19, -, -, -⟩ := new_obj 3 #[.int .i64 0] (Below.refl U18.heap.size U18) (Nat.le_refl _)
  replace hB := hB.trans (hX19.mono hB.size)
  replace qm := keep_blk hX19 qm
  replace qn := keep_blk hX19 qn
  replace pf0 := hide (pf0.out.below hX19)
  replace pf1 := hide (pf1.out.below hX19)
  replace pf3 := hide (pf3.out.below hX19)
  replace pf4 := hide (pf4.out.below hX19)
  replace qf0 := hide (qf0.out.below hX19)
  replace qf2 := hide (qf2.out.below hX19)
  have hl := hide (LimI.of_blk (l := [0]) y19 rfl (by decide) (by decide))
  go_wp2_with (first | (refine wpList_store_mid rfl 31 _ _ rfl w11.heap.size 0 #[.int .i64 0, .bool rn0, .slice rA0 rk0 rc0, .bool rm0, .slice rB0 rj0 rd0, .bool rn1, .slice rA1 rk1 rc1, .bool rm1, .slice rB1 rj1 rd1, .bool rn2, .slice rA2 rk2 rc2, .bool rm2, .slice rB2 rj2 rd2, .bool rn3, .slice rA3 rk3 rc3, .bool rm3, .slice rB3 rj3 rd3, .bool rn4, .slice rA4 rk4 rc4, .bool rm4, .slice rB4 rj4 rd4] rfl rfl (y18.there (by simp)) info_mom (by simp [Value.oneCell']) ?_; rw [hU18]))
  refine (moments_bad 0 0 none 0 0 _ 1 1 [] [0] V19 ⟨rfl, Nat.le_refl _, by unfold maxLen; omega, fun _ h => absurd h (by simp), fun h => absurd h (by omega)⟩ hl.out (by omega) (by omega) (by decide) (by decide) 8 nm_s7 (by decide)).mono ?_
  rintro e w12 ⟨hb, csA, rfl, hFa⟩
  clear hV18 hX18 y18 hU18 hY18 hV19 hX19 y19
  replace hB := hB.trans (hb.mono hB.size)
  replace qm := keep_blk hb qm
  replace qn := keep_blk hb qn
  replace pf0 := hide (pf0.out.below hb)
  replace pf1 := hide (pf1.out.below hb)
  replace pf3 := hide (pf3.out.below hb)
  replace pf4 := hide (pf4.out.below hb)
  replace qf0 := hide (qf0.out.below hb)
  replace qf2 := hide (qf2.out.below hb)
  replace hl := hide (hl.out.below hb)
  clear hl
  clear hb
  obtain ⟨rn0, rA0, rk0, rc0, rm0, rB0, rj0, rd0, rn1, rA1, rk1, rc1, rm1, rB1, rj1, rd1, rn2, rA2, rk2, rc2, rm2, rB2, rj2, rd2, rn3, rA3, rk3, rc3, rm3, rB3, rj3, rd3, rn4, rA4, rk4, rc4, rm4, rB4, rj4, rd4, rfl, -, -, -, -, -⟩ := hFa
  obtain ⟨V20, hV20, hX20, y20, -, -, -⟩ := new_obj 31 #[.int .i64 0, .bool false, .slice none 0 0, .bool false, .slice none 0 0, .bool false, .slice none 0 0, .bool false, .slice none 0 0, .bool false, .slice none 0 0, .bool false, .slice none 0 0, .bool false, .slice none 0 0, .bool false, .slice none 0 0, .bool false, .slice none 0 0, .bool false, .slice none 0 0] (Below.refl w12.heap.size w12) (Nat.le_refl _)
  obtain ⟨U20, hU20, hY20, qu, -⟩ := set_all [.int .i64 0, .bool rn0, .slice rA0 rk0 rc0, .bool rm0, .slice rB0 rj0 rd0, .bool rn1, .slice rA1 rk1 rc1, .bool rm1, .slice rB1 rj1 rd1, .bool rn2, .slice rA2 rk2 rc2, .bool rm2, .slice rB2 rj2 rd2, .bool rn3, .slice rA3 rk3 rc3, .bool rm3, .slice rB3 rj3 rd3, .bool rn4, .slice rA4 rk4 rc4, .bool rm4, .slice rB4 rj4 rd4] [.int .i64 0, .bool false, .slice none 0 0, .bool false, .slice none 0 0, .bool false, .slice none 0 0, .bool false, .slice none 0 0, .bool false, .slice none 0 0, .bool false, .slice none 0 0, .bool false, .slice none 0 0, .bool false, .slice none 0 0, .bool false, .slice none 0 0, .bool false, .slice none 0 0] rfl rfl rfl hX20 (Nat.le_refl _) y20
  replace hB := hB.trans (hY20.mono hB.size)
  replace qm := keep_blk hY20 qm
  replace qn := keep_blk hY20 qn
  replace pf0 := hide (pf0.out.below hY20)
  replace pf1 := hide (pf1.out.below hY20)
  replace pf3 := hide (pf3.out.below hY20)
  replace pf4 := hide (pf4.out.below hY20)
  replace qf0 := hide (qf0.out.below hY20)
  replace qf2 := hide (qf2.out.below hY20)
  clear qu
  obtain ⟨V21, hV21, hX21, y21, -, -, -⟩ := new_obj 2 #[.int .i64 2, .int .i64 2] (Below.refl U20.heap.size U20) (Nat.le_refl _)
  replace hB := hB.trans (hX21.mono hB.size)
  replace qm := keep_blk hX21 qm
  replace qn := keep_blk hX21 qn
  replace pf0 := hide (pf0.out.below hX21)
  replace pf1 := hide (pf1.out.below hX21)
  replace pf3 := hide (pf3.out.below hX21)
  replace pf4 := hide (pf4.out.below hX21)
  replace qf0 := hide (qf0.out.below hX21)
  replace qf2 := hide (qf2.out.below hX21)
  have hp := hide (LimI.of_blk (l := [2, 2]) y21 rfl (by decide) (by decide))
  go_wp2_with (first | (refine wpList_store_mid rfl 31 _ _ rfl w12.heap.size 0 #[.int .i64 0, .bool rn0, .slice rA0 rk0 rc0, .bool rm0, .slice rB0 rj0 rd0, .bool rn1, .slice rA1 rk1 rc1, .bool rm1, .slice rB1 rj1 rd1, .bool rn2, .slice rA2 rk2 rc2, .bool rm2, .slice rB2 rj2 rd2, .bool rn3, .slice rA3 rk3 rc3, .bool rm3, .slice rB3 rj3 rd3, .bool rn4, .slice rA4 rk4 rc4, .bool rm4, .slice rB4 rj4 rd4] rfl rfl (y20.there (by simp)) info_mom (by simp [Value.oneCell']) ?_; rw [hU20]))
  refine (lawRow_ok _ 2 2 V21).mono ?_
  rintro e w13 ⟨rfl, hb⟩
  clear hV20 hX20 y20 hU20 hY20 hV21 hX21 y21
  replace hB := hB.trans (hb.mono hB.size)
  replace qm := keep_blk hb qm
  replace qn := keep_blk hb qn
  replace pf0 := hide (pf0.out.below hb)
  replace pf1 := hide (pf1.out.below hb)
  replace pf3 := hide (pf3.out.below hb)
  replace pf4 := hide (pf4.out.below hb)
  replace qf0 := hide (qf0.out.below hb)
  replace qf2 := hide (qf2.out.below hb)
  replace hp := hide (hp.out.below hb)
  clear hb
  obtain ⟨V22, hV22, hX22, y22, -, -, -⟩ := new_obj 3 #[.int .i64 0, .int .i64 1] (Below.refl w13.heap.size w13) (Nat.le_refl _)
  replace hB := hB.trans (hX22.mono hB.size)
  replace qm := keep_blk hX22 qm
  replace qn := keep_blk hX22 qn
  replace pf0 := hide (pf0.out.below hX22)
  replace pf1 := hide (pf1.out.below hX22)
  replace pf3 := hide (pf3.out.below hX22)
  replace pf4 := hide (pf4.out.below hX22)
  replace qf0 := hide (qf0.out.below hX22)
  replace qf2 := hide (qf2.out.below hX22)
  replace hp := hide (hp.out.below hX22)
  have hl := hide (LimI.of_blk (l := [0, 1]) y22 rfl (by decide) (by decide))
  go_wp2_with fail
  refine (bound_one 2 1 _ 2 2 _ 2 2 [2, 2] [0, 1] 2 V22 hp.out hl.out (by omega) (by omega) (by decide) (by decide) 18 nm_b1).mono ?_
  rintro e w14 ⟨hb, csA, rfl, hFa⟩
  clear hV22 hX22 y22
  replace hB := hB.trans (hb.mono hB.size)
  replace qm := keep_blk hb qm
  replace qn := keep_blk hb qn
  replace pf0 := hide (pf0.out.below hb)
  replace pf1 := hide (pf1.out.below hb)
  replace pf3 := hide (pf3.out.below hb)
  replace pf4 := hide (pf4.out.below hb)
  replace qf0 := hide (qf0.out.below hb)
  replace qf2 := hide (qf2.out.below hb)
  replace hp := hide (hp.out.below hb)
  replace hl := hide (hl.out.below hb)
  clear hp hl
  clear hb
  obtain ⟨rn0, rA0, rk0, rc0, rm0, rB0, rj0, rd0, rn1, rA1, rk1, rc1, rm1, rB1, rj1, rd1, rn2, rA2, rk2, rc2, rm2, rB2, rj2, rd2, rn3, rA3, rk3, rc3, rm3, rB3, rj3, rd3, rfl, -, -, -, -⟩ := hFa
  obtain ⟨V23, hV23, hX23, y23, -, -, -⟩ := new_obj 38 #[.bool false, .slice none 0 0, .bool false, .slice none 0 0, .bool false, .slice none 0 0, .bool false, .slice none 0 0, .bool false, .slice none 0 0, .bool false, .slice none 0 0, .bool false, .slice none 0 0, .bool false, .slice none 0 0] (Below.refl w14.heap.size w14) (Nat.le_refl _)
  obtain ⟨U23, hU23, hY23, qu, -⟩ := set_all [.bool rn0, .slice rA0 rk0 rc0, .bool rm0, .slice rB0 rj0 rd0, .bool rn1, .slice rA1 rk1 rc1, .bool rm1, .slice rB1 rj1 rd1, .bool rn2, .slice rA2 rk2 rc2, .bool rm2, .slice rB2 rj2 rd2, .bool rn3, .slice rA3 rk3 rc3, .bool rm3, .slice rB3 rj3 rd3] [.bool false, .slice none 0 0, .bool false, .slice none 0 0, .bool false, .slice none 0 0, .bool false, .slice none 0 0, .bool false, .slice none 0 0, .bool false, .slice none 0 0, .bool false, .slice none 0 0, .bool false, .slice none 0 0] rfl rfl rfl hX23 (Nat.le_refl _) y23
  replace hB := hB.trans (hY23.mono hB.size)
  replace qm := keep_blk hY23 qm
  replace qn := keep_blk hY23 qn
  replace pf0 := hide (pf0.out.below hY23)
  replace pf1 := hide (pf1.out.below hY23)
  replace pf3 := hide (pf3.out.below hY23)
  replace pf4 := hide (pf4.out.below hY23)
  replace qf0 := hide (qf0.out.below hY23)
  replace qf2 := hide (qf2.out.below hY23)
  clear qu
  obtain ⟨V24, hV24, hX24, y24, -, -, -⟩ := new_obj 2 #[.int .i64 2, .int .i64 2] (Below.refl U23.heap.size U23) (Nat.le_refl _)
  replace hB := hB.trans (hX24.mono hB.size)
  replace qm := keep_blk hX24 qm
  replace qn := keep_blk hX24 qn
  replace pf0 := hide (pf0.out.below hX24)
  replace pf1 := hide (pf1.out.below hX24)
  replace pf3 := hide (pf3.out.below hX24)
  replace pf4 := hide (pf4.out.below hX24)
  replace qf0 := hide (qf0.out.below hX24)
  replace qf2 := hide (qf2.out.below hX24)
  have hp := hide (LimI.of_blk (l := [2, 2]) y24 rfl (by decide) (by decide))
  go_wp2_with (first | (refine wpList_store_mid rfl 38 _ _ rfl w14.heap.size 0 #[.bool rn0, .slice rA0 rk0 rc0, .bool rm0, .slice rB0 rj0 rd0, .bool rn1, .slice rA1 rk1 rc1, .bool rm1, .slice rB1 rj1 rd1, .bool rn2, .slice rA2 rk2 rc2, .bool rm2, .slice rB2 rj2 rd2, .bool rn3, .slice rA3 rk3 rc3, .bool rm3, .slice rB3 rj3 rd3] rfl rfl (y23.there (by simp)) info_box (by simp [Value.oneCell']) ?_; rw [hU23]))
  refine (lawRow_ok _ 2 2 V24).mono ?_
  rintro e w15 ⟨rfl, hb⟩
  clear hV23 hX23 y23 hU23 hY23 hV24 hX24 y24
  replace hB := hB.trans (hb.mono hB.size)
  replace qm := keep_blk hb qm
  replace qn := keep_blk hb qn
  replace pf0 := hide (pf0.out.below hb)
  replace pf1 := hide (pf1.out.below hb)
  replace pf3 := hide (pf3.out.below hb)
  replace pf4 := hide (pf4.out.below hb)
  replace qf0 := hide (qf0.out.below hb)
  replace qf2 := hide (qf2.out.below hb)
  replace hp := hide (hp.out.below hb)
  clear hb
  obtain ⟨V25, hV25, hX25, y25, -, -, -⟩ := new_obj 3 #[.int .i64 0, .int .i64 1] (Below.refl w15.heap.size w15) (Nat.le_refl _)
  replace hB := hB.trans (hX25.mono hB.size)
  replace qm := keep_blk hX25 qm
  replace qn := keep_blk hX25 qn
  replace pf0 := hide (pf0.out.below hX25)
  replace pf1 := hide (pf1.out.below hX25)
  replace pf3 := hide (pf3.out.below hX25)
  replace pf4 := hide (pf4.out.below hX25)
  replace qf0 := hide (qf0.out.below hX25)
  replace qf2 := hide (qf2.out.below hX25)
  replace hp := hide (hp.out.below hX25)
  have hl := hide (LimI.of_blk (l := [0, 1]) y25 rfl (by decide) (by decide))
  go_wp2_with fail
  refine (bound_one 2 1 _ 2 2 _ 2 2 [2, 2] [0, 1] (-1) V25 hp.out hl.out (by omega) (by omega) (by decide) (by decide) 2 nm_b2).mono ?_
  rintro e w16 ⟨hb, csA, rfl, hFa⟩
  clear hV25 hX25 y25
  replace hB := hB.trans (hb.mono hB.size)
  replace qm := keep_blk hb qm
  replace qn := keep_blk hb qn
  replace pf0 := hide (pf0.out.below hb)
  replace pf1 := hide (pf1.out.below hb)
  replace pf3 := hide (pf3.out.below hb)
  replace pf4 := hide (pf4.out.below hb)
  replace qf0 := hide (qf0.out.below hb)
  replace qf2 := hide (qf2.out.below hb)
  replace hp := hide (hp.out.below hb)
  replace hl := hide (hl.out.below hb)
  clear hp hl
  clear hb
  obtain ⟨rn0, rA0, rk0, rc0, rm0, rB0, rj0, rd0, rn1, rA1, rk1, rc1, rm1, rB1, rj1, rd1, rn2, rA2, rk2, rc2, rm2, rB2, rj2, rd2, rn3, rA3, rk3, rc3, rm3, rB3, rj3, rd3, rfl, -, -, -, -⟩ := hFa
  obtain ⟨V26, hV26, hX26, y26, -, -, -⟩ := new_obj 38 #[.bool false, .slice none 0 0, .bool false, .slice none 0 0, .bool false, .slice none 0 0, .bool false, .slice none 0 0, .bool false, .slice none 0 0, .bool false, .slice none 0 0, .bool false, .slice none 0 0, .bool false, .slice none 0 0] (Below.refl w16.heap.size w16) (Nat.le_refl _)
  obtain ⟨U26, hU26, hY26, qu, -⟩ := set_all [.bool rn0, .slice rA0 rk0 rc0, .bool rm0, .slice rB0 rj0 rd0, .bool rn1, .slice rA1 rk1 rc1, .bool rm1, .slice rB1 rj1 rd1, .bool rn2, .slice rA2 rk2 rc2, .bool rm2, .slice rB2 rj2 rd2, .bool rn3, .slice rA3 rk3 rc3, .bool rm3, .slice rB3 rj3 rd3] [.bool false, .slice none 0 0, .bool false, .slice none 0 0, .bool false, .slice none 0 0, .bool false, .slice none 0 0, .bool false, .slice none 0 0, .bool false, .slice none 0 0, .bool false, .slice none 0 0, .bool false, .slice none 0 0] rfl rfl rfl hX26 (Nat.le_refl _) y26
  replace hB := hB.trans (hY26.mono hB.size)
  replace qm := keep_blk hY26 qm
  replace qn := keep_blk hY26 qn
  replace pf0 := hide (pf0.out.below hY26)
  replace pf1 := hide (pf1.out.below hY26)
  replace pf3 := hide (pf3.out.below hY26)
  replace pf4 := hide (pf4.out.below hY26)
  replace qf0 := hide (qf0.out.below hY26)
  replace qf2 := hide (qf2.out.below hY26)
  clear qu
  obtain ⟨V27, hV27, hX27, y27, -, -, -⟩ := new_obj 2 #[.int .i64 2, .int .i64 2] (Below.refl U26.heap.size U26) (Nat.le_refl _)
  replace hB := hB.trans (hX27.mono hB.size)
  replace qm := keep_blk hX27 qm
  replace qn := keep_blk hX27 qn
  replace pf0 := hide (pf0.out.below hX27)
  replace pf1 := hide (pf1.out.below hX27)
  replace pf3 := hide (pf3.out.below hX27)
  replace pf4 := hide (pf4.out.below hX27)
  replace qf0 := hide (qf0.out.below hX27)
  replace qf2 := hide (qf2.out.below hX27)
  have hp := hide (LimI.of_blk (l := [2, 2]) y27 rfl (by decide) (by decide))
  go_wp2_with (first | (refine wpList_store_mid rfl 38 _ _ rfl w16.heap.size 0 #[.bool rn0, .slice rA0 rk0 rc0, .bool rm0, .slice rB0 rj0 rd0, .bool rn1, .slice rA1 rk1 rc1, .bool rm1, .slice rB1 rj1 rd1, .bool rn2, .slice rA2 rk2 rc2, .bool rm2, .slice rB2 rj2 rd2, .bool rn3, .slice rA3 rk3 rc3, .bool rm3, .slice rB3 rj3 rd3] rfl rfl (y26.there (by simp)) info_box (by simp [Value.oneCell']) ?_; rw [hU26]))
  refine (lawRow_ok _ 2 2 V27).mono ?_
  rintro e w17 ⟨rfl, hb⟩
  clear hV26 hX26 y26 hU26 hY26 hV27 hX27 y27
  replace hB := hB.trans (hb.mono hB.size)
  replace qm := keep_blk hb qm
  replace qn := keep_blk hb qn
  replace pf0 := hide (pf0.out.below hb)
  replace pf1 := hide (pf1.out.below hb)
  replace pf3 := hide (pf3.out.below hb)
  replace pf4 := hide (pf4.out.below hb)
  replace qf0 := hide (qf0.out.below hb)
  replace qf2 := hide (qf2.out.below hb)
  replace hp := hide (hp.out.below hb)
  clear hb
  obtain ⟨V28, hV28, hX28, y28, -, -, -⟩ := new_obj 3 #[.int .i64 0, .int .i64 1] (Below.refl w17.heap.size w17) (Nat.le_refl _)
  replace hB := hB.trans (hX28.mono hB.size)
  replace qm := keep_blk hX28 qm
  replace qn := keep_blk hX28 qn
  replace pf0 := hide (pf0.out.below hX28)
  replace pf1 := hide (pf1.out.below hX28)
  replace pf3 := hide (pf3.out.below hX28)
  replace pf4 := hide (pf4.out.below hX28)
  replace qf0 := hide (qf0.out.below hX28)
  replace qf2 := hide (qf2.out.below hX28)
  replace hp := hide (hp.out.below hX28)
  have hl := hide (LimI.of_blk (l := [0, 1]) y28 rfl (by decide) (by decide))
  go_wp2_with fail
  refine (bound_one 2 1 _ 2 2 _ 2 2 [2, 2] [0, 1] 4294967297 V28 hp.out hl.out (by omega) (by omega) (by decide) (by decide) 2 nm_b3).mono ?_
  rintro e w18 ⟨hb, csA, rfl, hFa⟩
  clear hV28 hX28 y28
  replace hB := hB.trans (hb.mono hB.size)
  replace qm := keep_blk hb qm
  replace qn := keep_blk hb qn
  replace pf0 := hide (pf0.out.below hb)
  replace pf1 := hide (pf1.out.below hb)
  replace pf3 := hide (pf3.out.below hb)
  replace pf4 := hide (pf4.out.below hb)
  replace qf0 := hide (qf0.out.below hb)
  replace qf2 := hide (qf2.out.below hb)
  replace hp := hide (hp.out.below hb)
  replace hl := hide (hl.out.below hb)
  clear hp hl
  clear hb
  obtain ⟨rn0, rA0, rk0, rc0, rm0, rB0, rj0, rd0, rn1, rA1, rk1, rc1, rm1, rB1, rj1, rd1, rn2, rA2, rk2, rc2, rm2, rB2, rj2, rd2, rn3, rA3, rk3, rc3, rm3, rB3, rj3, rd3, rfl, -, -, -, -⟩ := hFa
  obtain ⟨V29, hV29, hX29, y29, -, -, -⟩ := new_obj 38 #[.bool false, .slice none 0 0, .bool false, .slice none 0 0, .bool false, .slice none 0 0, .bool false, .slice none 0 0, .bool false, .slice none 0 0, .bool false, .slice none 0 0, .bool false, .slice none 0 0, .bool false, .slice none 0 0] (Below.refl w18.heap.size w18) (Nat.le_refl _)
  obtain ⟨U29, hU29, hY29, qu, -⟩ := set_all [.bool rn0, .slice rA0 rk0 rc0, .bool rm0, .slice rB0 rj0 rd0, .bool rn1, .slice rA1 rk1 rc1, .bool rm1, .slice rB1 rj1 rd1, .bool rn2, .slice rA2 rk2 rc2, .bool rm2, .slice rB2 rj2 rd2, .bool rn3, .slice rA3 rk3 rc3, .bool rm3, .slice rB3 rj3 rd3] [.bool false, .slice none 0 0, .bool false, .slice none 0 0, .bool false, .slice none 0 0, .bool false, .slice none 0 0, .bool false, .slice none 0 0, .bool false, .slice none 0 0, .bool false, .slice none 0 0, .bool false, .slice none 0 0] rfl rfl rfl hX29 (Nat.le_refl _) y29
  replace hB := hB.trans (hY29.mono hB.size)
  replace qm := keep_blk hY29 qm
  replace qn := keep_blk hY29 qn
  replace pf0 := hide (pf0.out.below hY29)
  replace pf1 := hide (pf1.out.below hY29)
  replace pf3 := hide (pf3.out.below hY29)
  replace pf4 := hide (pf4.out.below hY29)
  replace qf0 := hide (qf0.out.below hY29)
  replace qf2 := hide (qf2.out.below hY29)
  clear qu
  go_wp2_with (first | (refine wpList_store_mid rfl 38 _ _ rfl w18.heap.size 0 #[.bool rn0, .slice rA0 rk0 rc0, .bool rm0, .slice rB0 rj0 rd0, .bool rn1, .slice rA1 rk1 rc1, .bool rm1, .slice rB1 rj1 rd1, .bool rn2, .slice rA2 rk2 rc2, .bool rm2, .slice rB2 rj2 rd2, .bool rn3, .slice rA3 rk3 rc3, .bool rm3, .slice rB3 rj3 rd3] rfl rfl (y29.there (by simp)) info_box (by simp [Value.oneCell']) ?_; rw [hU29]))
  refine (lawOf_ok 0 1 U29 (by decide) (by decide) (by decide) (by decide)).mono ?_
  rintro e w19 ⟨hb, bn0, bA0, bk0, bc0, bm0, bB0, bj0, bd0, rfl, bf0⟩
  clear hV29 hX29 y29 hU29 hY29
  replace hB := hB.trans (hb.mono hB.size)
  replace qm := keep_blk hb qm
  replace qn := keep_blk hb qn
  replace pf0 := hide (pf0.out.below hb)
  replace pf1 := hide (pf1.out.below hb)
  replace pf3 := hide (pf3.out.below hb)
  replace pf4 := hide (pf4.out.below hb)
  replace qf0 := hide (qf0.out.below hb)
  replace qf2 := hide (qf2.out.below hb)
  replace bf0 := hide bf0
  clear hb
  go_wp2_with fail
  refine (lawOf_ok 1 2 w19 (by decide) (by decide) (by decide) (by decide)).mono ?_
  rintro e w20 ⟨hb, bn1, bA1, bk1, bc1, bm1, bB1, bj1, bd1, rfl, bf1⟩
  replace hB := hB.trans (hb.mono hB.size)
  replace qm := keep_blk hb qm
  replace qn := keep_blk hb qn
  replace pf0 := hide (pf0.out.below hb)
  replace pf1 := hide (pf1.out.below hb)
  replace pf3 := hide (pf3.out.below hb)
  replace pf4 := hide (pf4.out.below hb)
  replace qf0 := hide (qf0.out.below hb)
  replace qf2 := hide (qf2.out.below hb)
  replace bf0 := hide (bf0.out.below hb)
  replace bf1 := hide bf1
  clear hb
  go_wp2_with fail
  refine (lawOf_ok 1 1 w20 (by decide) (by decide) (by decide) (by decide)).mono ?_
  rintro e w21 ⟨hb, bn2, bA2, bk2, bc2, bm2, bB2, bj2, bd2, rfl, bf2⟩
  replace hB := hB.trans (hb.mono hB.size)
  replace qm := keep_blk hb qm
  replace qn := keep_blk hb qn
  replace pf0 := hide (pf0.out.below hb)
  replace pf1 := hide (pf1.out.below hb)
  replace pf3 := hide (pf3.out.below hb)
  replace pf4 := hide (pf4.out.below hb)
  replace qf0 := hide (qf0.out.below hb)
  replace qf2 := hide (qf2.out.below hb)
  replace bf0 := hide (bf0.out.below hb)
  replace bf1 := hide (bf1.out.below hb)
  replace bf2 := hide bf2
  clear hb
  go_wp2_with fail
  refine (lawOf_ok 1 1 w21 (by decide) (by decide) (by decide) (by decide)).mono ?_
  rintro e w22 ⟨hb, bn3, bA3, bk3, bc3, bm3, bB3, bj3, bd3, rfl, bf3⟩
  replace hB := hB.trans (hb.mono hB.size)
  replace qm := keep_blk hb qm
  replace qn := keep_blk hb qn
  replace pf0 := hide (pf0.out.below hb)
  replace pf1 := hide (pf1.out.below hb)
  replace pf3 := hide (pf3.out.below hb)
  replace pf4 := hide (pf4.out.below hb)
  replace qf0 := hide (qf0.out.below hb)
  replace qf2 := hide (qf2.out.below hb)
  replace bf0 := hide (bf0.out.below hb)
  replace bf1 := hide (bf1.out.below hb)
  replace bf2 := hide (bf2.out.below hb)
  replace bf3 := hide bf3
  clear hb
  obtain ⟨V30, hV30, hX30, y30, -, -, -⟩ := new_obj 38 #[.bool false, .slice none 0 0, .bool false, .slice none 0 0, .bool false, .slice none 0 0, .bool false, .slice none 0 0, .bool false, .slice none 0 0, .bool false, .slice none 0 0, .bool false, .slice none 0 0, .bool false, .slice none 0 0] (Below.refl w22.heap.size w22) (Nat.le_refl _)
  obtain ⟨U30, hU30, hY30, qx, -⟩ := set_all [.bool bn0, .slice bA0 bk0 bc0, .bool bm0, .slice bB0 bj0 bd0, .bool bn1, .slice bA1 bk1 bc1, .bool bm1, .slice bB1 bj1 bd1, .bool bn2, .slice bA2 bk2 bc2, .bool bm2, .slice bB2 bj2 bd2, .bool bn3, .slice bA3 bk3 bc3, .bool bm3, .slice bB3 bj3 bd3] [.bool false, .slice none 0 0, .bool false, .slice none 0 0, .bool false, .slice none 0 0, .bool false, .slice none 0 0, .bool false, .slice none 0 0, .bool false, .slice none 0 0, .bool false, .slice none 0 0, .bool false, .slice none 0 0] rfl rfl rfl hX30 (Nat.le_refl _) y30
  replace hB := hB.trans (hY30.mono hB.size)
  replace qm := keep_blk hY30 qm
  replace qn := keep_blk hY30 qn
  replace pf0 := hide (pf0.out.below hY30)
  replace pf1 := hide (pf1.out.below hY30)
  replace pf3 := hide (pf3.out.below hY30)
  replace pf4 := hide (pf4.out.below hY30)
  replace qf0 := hide (qf0.out.below hY30)
  replace qf2 := hide (qf2.out.below hY30)
  replace bf0 := hide (bf0.out.below hY30)
  replace bf1 := hide (bf1.out.below hY30)
  replace bf2 := hide (bf2.out.below hY30)
  replace bf3 := hide (bf3.out.below hY30)
  go_wp2_with (first | (refine wpList_store_mid rfl 38 _ _ rfl w22.heap.size 0 #[.bool bn0, .slice bA0 bk0 bc0, .bool bm0, .slice bB0 bj0 bd0, .bool bn1, .slice bA1 bk1 bc1, .bool bm1, .slice bB1 bj1 bd1, .bool bn2, .slice bA2 bk2 bc2, .bool bm2, .slice bB2 bj2 bd2, .bool bn3, .slice bA3 bk3 bc3, .bool bm3, .slice bB3 bj3 bd3] rfl rfl (y30.there (by simp)) info_box (by simp [Value.oneCell']) ?_; rw [hU30]))
  clear hV30 hX30 y30 hU30 hY30
  have hS : Hid (∀ wx, Below U30.heap.size U30 wx → wx.rangeAt (w22.heap.size) 0 [.bool bn0, .slice bA0 bk0 bc0, .bool bm0, .slice bB0 bj0 bd0, .bool bn1, .slice bA1 bk1 bc1, .bool bm1, .slice bB1 bj1 bd1, .bool bn2, .slice bA2 bk2 bc2, .bool bm2, .slice bB2 bj2 bd2, .bool bn3, .slice bA3 bk3 bc3, .bool bm3, .slice bB3 bj3 bd3]) := hide (fun wx hbx => (keep_blk hbx qx).rangeAt [] (rest := []) rfl)
  have hb : Below U30.heap.size U30 U30.drew := below_dn (Below.refl _ _) 1
  refine wp_held [] (fun wx => wx.rangeAt (w22.heap.size) 0 [.bool bn0, .slice bA0 bk0 bc0, .bool bm0, .slice bB0 bj0 bd0, .bool bn1, .slice bA1 bk1 bc1, .bool bm1, .slice bB1 bj1 bd1, .bool bn2, .slice bA2 bk2 bc2, .bool bm2, .slice bB2 bj2 bd2, .bool bn3, .slice bA3 bk3 bc3, .bool bm3, .slice bB3 bj3 bd3]) hmx (hS.out _ hb) (fun _ => ?_)
  refine wpAnyL_take (i := 0) rfl (by kernel_rfl) (by kernel_rfl) (by kernel_rfl) (by kernel_rfl) (by kernel_rfl) (yieldsIf_load_mid (by rfl) 38 _ rfl (w22.heap.size) 0 rfl [.bool bn0, .slice bA0 bk0 bc0, .bool bm0, .slice bB0 bj0 bd0, .bool bn1, .slice bA1 bk1 bc1, .bool bm1, .slice bB1 bj1 bd1, .bool bn2, .slice bA2 bk2 bc2, .bool bm2, .slice bB2 bj2 bd2, .bool bn3, .slice bA3 bk3 bc3, .bool bm3, .slice bB3 bj3 bd3] dd (fun wx hw => hw) hd1 hd2 info_box) (hS.out _ hb) ?_
  try simp only [Act.put, List.setIfInBounds_toArray, List.set_cons_zero, List.set_cons_succ]
  refine wpAnyL_one (i := 1) rfl (by kernel_rfl) (fun K hK => ?_)
  go_simp
  refine (lawOf_ok 1 2 _ (by decide) (by decide) (by decide) (by decide)).mono ?_
  rintro e z0a ⟨hbz, sn0, sA0, sk0, sc0, sm0, sB0, sj0, sd0, rfl, sf0⟩
  replace hb := hb.trans (hbz.mono hb.size)
  replace sf0 := hide sf0
  clear hbz
  refine hK.out _ _ (fun _ => hS.out _ hb) ?_
  clear hK K
  try simp only [Act.put, List.setIfInBounds_toArray, List.set_cons_zero, List.set_cons_succ]
  refine wpAnyL_one (i := 2) rfl (by kernel_rfl) (fun K hK => ?_)
  go_simp
  refine (lawOf_ok 1 1 _ (by decide) (by decide) (by decide) (by decide)).mono ?_
  rintro e z0b ⟨hbz, sn1, sA1, sk1, sc1, sm1, sB1, sj1, sd1, rfl, sf1⟩
  replace hb := hb.trans (hbz.mono hb.size)
  replace sf1 := hide sf1
  replace sf0 := hide (sf0.out.below hbz)
  clear hbz
  refine hK.out _ _ (fun _ => hS.out _ hb) ?_
  clear hK K
  try simp only [Act.put, List.setIfInBounds_toArray, List.set_cons_zero, List.set_cons_succ]
  refine wpAnyL_one (i := 3) rfl (by kernel_rfl) (fun K hK => ?_)
  go_simp
  refine (holds_ok bn0 bm0 bA0 bB0 bk0 bc0 bj0 bd0 bn1 bm1 bA1 bB1 bk1 bc1 bj1 bd1 bn2 bm2 bA2 bB2 bk2 bc2 bj2 bd2 bn3 bm3 bA3 bB3 bk3 bc3 bj3 bd3 sn0 sm0 sA0 sB0 sk0 sc0 sj0 sd0 sn1 sm1 sA1 sB1 sk1 sc1 sj1 sd1 (Rat.divInt 0 1) (Rat.divInt 1 2) (Rat.divInt 1 1) (Rat.divInt 1 1) (Rat.divInt 1 2) (Rat.divInt 1 1) z0b (bf0.out.below hb) (nm_sm (by decide) (by decide) (by decide)) (bf1.out.below hb) (nm_sm (by decide) (by decide) (by decide)) (bf2.out.below hb) (nm_sm (by decide) (by decide) (by decide)) (bf3.out.below hb) (nm_sm (by decide) (by decide) (by decide)) sf0.out (nm_sm (by decide) (by decide) (by decide)) sf1.out (nm_sm (by decide) (by decide) (by decide)) true nm_h1).mono ?_
  rintro e z0 ⟨rfl, hbz⟩
  replace hb := hb.trans (hbz.mono hb.size)
  clear sf0 sf1
  clear hbz
  refine hK.out _ _ (fun _ => hS.out _ hb) ?_
  clear hK K
  try simp only [Act.put, List.setIfInBounds_toArray, List.set_cons_zero, List.set_cons_succ]
  refine wpAnyL_one (i := 4) rfl (by kernel_rfl) (fun K hK => ?_)
  go_simp
  refine hK.out _ _ (fun _ => hS.out _ hb) ?_
  clear hK K
  try simp only [Act.put, List.setIfInBounds_toArray, List.set_cons_zero, List.set_cons_succ]
  refine wpAnyL_take (i := 5) (v := ?v1) rfl (by kernel_rfl) (by kernel_rfl) (by kernel_rfl) (by kernel_rfl) (by kernel_rfl) (Or.inl ⟨by rfl, ?hy1⟩) (hS.out _ hb) ?rest1
  case hy1 => (intro W2 hSw; (try dsimp only at hSw); go_simp; try with_reducible rfl)
  try simp only [Act.put, List.setIfInBounds_toArray, List.set_cons_zero, List.set_cons_succ]
  refine wpAnyL_take (i := 6) (v := ?v2) rfl (by kernel_rfl) (by kernel_rfl) (by kernel_rfl) (by kernel_rfl) (by kernel_rfl) (Or.inl ⟨by rfl, ?hy2⟩) (hS.out _ hb) ?rest2
  case hy2 => (intro W2 hSw; (try dsimp only at hSw); go_simp; try with_reducible rfl)
  try simp only [Act.put, List.setIfInBounds_toArray, List.set_cons_zero, List.set_cons_succ]
  refine wpAnyL_one (i := 7) rfl (by kernel_rfl) (fun K hK => ?_)
  go_simp
  refine hK.out _ _ (fun _ => hS.out _ hb) ?_
  clear hK K
  try simp only [Act.put, List.setIfInBounds_toArray, List.set_cons_zero, List.set_cons_succ]
  refine wpAnyL_one (i := 8) rfl (by kernel_rfl) (fun K hK => ?_)
  go_simp
  refine hK.out _ _ (fun _ => hS.out _ hb) ?_
  clear hK K
  try simp only [Act.put, List.setIfInBounds_toArray, List.set_cons_zero, List.set_cons_succ]
  refine wpAnyL_done (by kernel_rfl) ?_ _
  refine OnlyNormal.normal ?_
  replace hB := hB.trans (hb.mono hB.size)
  replace qm := keep_blk hb qm
  replace qn := keep_blk hb qn
  replace qx := keep_blk hb qx
  replace pf0 := hide (pf0.out.below hb)
  replace pf1 := hide (pf1.out.below hb)
  replace pf3 := hide (pf3.out.below hb)
  replace pf4 := hide (pf4.out.below hb)
  replace qf0 := hide (qf0.out.below hb)
  replace qf2 := hide (qf2.out.below hb)
  replace bf0 := hide (bf0.out.below hb)
  replace bf1 := hide (bf1.out.below hb)
  replace bf2 := hide (bf2.out.below hb)
  replace bf3 := hide (bf3.out.below hb)
  clear hS hb
  go_wp2_with fail
  have hS : Hid (∀ wx, Below z0.heap.size z0 wx → wx.rangeAt (w22.heap.size) 0 [.bool bn0, .slice bA0 bk0 bc0, .bool bm0, .slice bB0 bj0 bd0, .bool bn1, .slice bA1 bk1 bc1, .bool bm1, .slice bB1 bj1 bd1, .bool bn2, .slice bA2 bk2 bc2, .bool bm2, .slice bB2 bj2 bd2, .bool bn3, .slice bA3 bk3 bc3, .bool bm3, .slice bB3 bj3 bd3]) := hide (fun wx hbx => (keep_blk hbx qx).rangeAt [] (rest := []) rfl)
  have hb : Below z0.heap.size z0 z0.drew := below_dn (Below.refl _ _) 1
  refine wp_held [] (fun wx => wx.rangeAt (w22.heap.size) 0 [.bool bn0, .slice bA0 bk0 bc0, .bool bm0, .slice bB0 bj0 bd0, .bool bn1, .slice bA1 bk1 bc1, .bool bm1, .slice bB1 bj1 bd1, .bool bn2, .slice bA2 bk2 bc2, .bool bm2, .slice bB2 bj2 bd2, .bool bn3, .slice bA3 bk3 bc3, .bool bm3, .slice bB3 bj3 bd3]) hmx (hS.out _ hb) (fun _ => ?_)
  refine wpAnyL_take (i := 0) rfl (by kernel_rfl) (by kernel_rfl) (by kernel_rfl) (by kernel_rfl) (by kernel_rfl) (yieldsIf_load_mid (by rfl) 38 _ rfl (w22.heap.size) 0 rfl [.bool bn0, .slice bA0 bk0 bc0, .bool bm0, .slice bB0 bj0 bd0, .bool bn1, .slice bA1 bk1 bc1, .bool bm1, .slice bB1 bj1 bd1, .bool bn2, .slice bA2 bk2 bc2, .bool bm2, .slice bB2 bj2 bd2, .bool bn3, .slice bA3 bk3 bc3, .bool bm3, .slice bB3 bj3 bd3] dd (fun wx hw => hw) hd1 hd2 info_box) (hS.out _ hb) ?_
  try simp only [Act.put, List.setIfInBounds_toArray, List.set_cons_zero, List.set_cons_succ]
  refine wpAnyL_one (i := 1) rfl (by kernel_rfl) (fun K hK => ?_)
  go_simp
  refine (lawOf_ok 1 2 _ (by decide) (by decide) (by decide) (by decide)).mono ?_
  rintro e z1a ⟨hbz, sn0, sA0, sk0, sc0, sm0, sB0, sj0, sd0, rfl, sf0⟩
  replace hb := hb.trans (hbz.mono hb.size)
  replace sf0 := hide sf0
  clear hbz
  refine hK.out _ _ (fun _ => hS.out _ hb) ?_
  clear hK K
  try simp only [Act.put, List.setIfInBounds_toArray, List.set_cons_zero, List.set_cons_succ]
  refine wpAnyL_one (i := 2) rfl (by kernel_rfl) (fun K hK => ?_)
  go_simp
  refine (lawOf_ok 2 1 _ (by decide) (by decide) (by decide) (by decide)).mono ?_
  rintro e z1b ⟨hbz, sn1, sA1, sk1, sc1, sm1, sB1, sj1, sd1, rfl, sf1⟩
  replace hb := hb.trans (hbz.mono hb.size)
  replace sf1 := hide sf1
  replace sf0 := hide (sf0.out.below hbz)
  clear hbz
  refine hK.out _ _ (fun _ => hS.out _ hb) ?_
  clear hK K
  try simp only [Act.put, List.setIfInBounds_toArray, List.set_cons_zero, List.set_cons_succ]
  refine wpAnyL_one (i := 3) rfl (by kernel_rfl) (fun K hK => ?_)
  go_simp
  refine (holds_ok bn0 bm0 bA0 bB0 bk0 bc0 bj0 bd0 bn1 bm1 bA1 bB1 bk1 bc1 bj1 bd1 bn2 bm2 bA2 bB2 bk2 bc2 bj2 bd2 bn3 bm3 bA3 bB3 bk3 bc3 bj3 bd3 sn0 sm0 sA0 sB0 sk0 sc0 sj0 sd0 sn1 sm1 sA1 sB1 sk1 sc1 sj1 sd1 (Rat.divInt 0 1) (Rat.divInt 1 2) (Rat.divInt 1 1) (Rat.divInt 1 1) (Rat.divInt 1 2) (Rat.divInt 2 1) z1b (bf0.out.below hb) (nm_sm (by decide) (by decide) (by decide)) (bf1.out.below hb) (nm_sm (by decide) (by decide) (by decide)) (bf2.out.below hb) (nm_sm (by decide) (by decide) (by decide)) (bf3.out.below hb) (nm_sm (by decide) (by decide) (by decide)) sf0.out (nm_sm (by decide) (by decide) (by decide)) sf1.out (nm_sm (by decide) (by decide) (by decide)) false nm_h2).mono ?_
  rintro e z1 ⟨rfl, hbz⟩
  replace hb := hb.trans (hbz.mono hb.size)
  clear sf0 sf1
  clear hbz
  refine hK.out _ _ (fun _ => hS.out _ hb) ?_
  clear hK K
  try simp only [Act.put, List.setIfInBounds_toArray, List.set_cons_zero, List.set_cons_succ]
  refine wpAnyL_one (i := 4) rfl (by kernel_rfl) (fun K hK => ?_)
  go_simp
  refine hK.out _ _ (fun _ => hS.out _ hb) ?_
  clear hK K
  try simp only [Act.put, List.setIfInBounds_toArray, List.set_cons_zero, List.set_cons_succ]
  refine wpAnyL_take (i := 5) (v := ?v3) rfl (by kernel_rfl) (by kernel_rfl) (by kernel_rfl) (by kernel_rfl) (by kernel_rfl) (Or.inl ⟨by rfl, ?hy3⟩) (hS.out _ hb) ?rest3
  case hy3 => (intro W2 hSw; (try dsimp only at hSw); go_simp; try with_reducible rfl)
  try simp only [Act.put, List.setIfInBounds_toArray, List.set_cons_zero, List.set_cons_succ]
  refine wpAnyL_take (i := 6) (v := ?v4) rfl (by kernel_rfl) (by kernel_rfl) (by kernel_rfl) (by kernel_rfl) (by kernel_rfl) (Or.inl ⟨by rfl, ?hy4⟩) (hS.out _ hb) ?rest4
  case hy4 => (intro W2 hSw; (try dsimp only at hSw); go_simp; try with_reducible rfl)
  try simp only [Act.put, List.setIfInBounds_toArray, List.set_cons_zero, List.set_cons_succ]
  refine wpAnyL_one (i := 7) rfl (by kernel_rfl) (fun K hK => ?_)
  go_simp
  refine hK.out _ _ (fun _ => hS.out _ hb) ?_
  clear hK K
  try simp only [Act.put, List.setIfInBounds_toArray, List.set_cons_zero, List.set_cons_succ]
  refine wpAnyL_one (i := 8) rfl (by kernel_rfl) (fun K hK => ?_)
  go_simp
  refine hK.out _ _ (fun _ => hS.out _ hb) ?_
  clear hK K
  try simp only [Act.put, List.setIfInBounds_toArray, List.set_cons_zero, List.set_cons_succ]
  refine wpAnyL_done (by kernel_rfl) ?_ _
  refine OnlyNormal.normal ?_
  replace hB := hB.trans (hb.mono hB.size)
  replace qm := keep_blk hb qm
  replace qn := keep_blk hb qn
  replace qx := keep_blk hb qx
  replace pf0 := hide (pf0.out.below hb)
  replace pf1 := hide (pf1.out.below hb)
  replace pf3 := hide (pf3.out.below hb)
  replace pf4 := hide (pf4.out.below hb)
  replace qf0 := hide (qf0.out.below hb)
  replace qf2 := hide (qf2.out.below hb)
  replace bf0 := hide (bf0.out.below hb)
  replace bf1 := hide (bf1.out.below hb)
  replace bf2 := hide (bf2.out.below hb)
  replace bf3 := hide (bf3.out.below hb)
  clear hS hb
  go_wp2_with fail
  have hS : Hid (∀ wx, Below z1.heap.size z1 wx → wx.rangeAt (w22.heap.size) 0 [.bool bn0, .slice bA0 bk0 bc0, .bool bm0, .slice bB0 bj0 bd0, .bool bn1, .slice bA1 bk1 bc1, .bool bm1, .slice bB1 bj1 bd1, .bool bn2, .slice bA2 bk2 bc2, .bool bm2, .slice bB2 bj2 bd2, .bool bn3, .slice bA3 bk3 bc3, .bool bm3, .slice bB3 bj3 bd3]) := hide (fun wx hbx => (keep_blk hbx qx).rangeAt [] (rest := []) rfl)
  have hb : Below z1.heap.size z1 z1.drew := below_dn (Below.refl _ _) 1
  refine wp_held [] (fun wx => wx.rangeAt (w22.heap.size) 0 [.bool bn0, .slice bA0 bk0 bc0, .bool bm0, .slice bB0 bj0 bd0, .bool bn1, .slice bA1 bk1 bc1, .bool bm1, .slice bB1 bj1 bd1, .bool bn2, .slice bA2 bk2 bc2, .bool bm2, .slice bB2 bj2 bd2, .bool bn3, .slice bA3 bk3 bc3, .bool bm3, .slice bB3 bj3 bd3]) hmx (hS.out _ hb) (fun _ => ?_)
  refine wpAnyL_take (i := 0) rfl (by kernel_rfl) (by kernel_rfl) (by kernel_rfl) (by kernel_rfl) (by kernel_rfl) (yieldsIf_load_mid (by rfl) 38 _ rfl (w22.heap.size) 0 rfl [.bool bn0, .slice bA0 bk0 bc0, .bool bm0, .slice bB0 bj0 bd0, .bool bn1, .slice bA1 bk1 bc1, .bool bm1, .slice bB1 bj1 bd1, .bool bn2, .slice bA2 bk2 bc2, .bool bm2, .slice bB2 bj2 bd2, .bool bn3, .slice bA3 bk3 bc3, .bool bm3, .slice bB3 bj3 bd3] dd (fun wx hw => hw) hd1 hd2 info_box) (hS.out _ hb) ?_
  try simp only [Act.put, List.setIfInBounds_toArray, List.set_cons_zero, List.set_cons_succ]
  refine wpAnyL_take (i := 2) (v := ?v5) rfl (by kernel_rfl) (by kernel_rfl) (by kernel_rfl) (by kernel_rfl) (by kernel_rfl) (Or.inl ⟨by rfl, ?hy5⟩) (hS.out _ hb) ?rest5
  case hy5 => (intro W2 hSw; (try dsimp only at hSw); go_simp; try with_reducible rfl)
  try simp only [Act.put, List.setIfInBounds_toArray, List.set_cons_zero, List.set_cons_succ]
  refine wpAnyL_one (i := 1) rfl (by kernel_rfl) (fun K hK => ?_)
  go_simp
  refine (lawOf_ok 1 2 _ (by decide) (by decide) (by decide) (by decide)).mono ?_
  rintro e z2a ⟨hbz, sn0, sA0, sk0, sc0, sm0, sB0, sj0, sd0, rfl, sf0⟩
  replace hb := hb.trans (hbz.mono hb.size)
  replace sf0 := hide sf0
  clear hbz
  refine hK.out _ _ (fun _ => hS.out _ hb) ?_
  clear hK K
  try simp only [Act.put, List.setIfInBounds_toArray, List.set_cons_zero, List.set_cons_succ]
  refine wpAnyL_one (i := 3) rfl (by kernel_rfl) (fun K hK => ?_)
  go_simp
  refine (holds_bad bn0 bm0 bA0 bB0 bk0 bc0 bj0 bd0 bn1 bm1 bA1 bB1 bk1 bc1 bj1 bd1 bn2 bm2 bA2 bB2 bk2 bc2 bj2 bd2 bn3 bm3 bA3 bB3 bk3 bc3 bj3 bd3 sn0 sm0 sA0 sB0 sk0 sc0 sj0 sd0 _ _ _ _ _ z2a (bf0.out.fz.below hb) (bf1.out.fz.below hb) (bf2.out.fz.below hb) (bf3.out.fz.below hb) sf0.out.fz of_01 of_12 of_11 of_11 of_12).mono ?_
  rintro e z2 ⟨rfl, hbz⟩
  replace hb := hb.trans (hbz.mono hb.size)
  clear sf0
  clear hbz
  refine hK.out _ _ (fun _ => hS.out _ hb) ?_
  clear hK K
  try simp only [Act.put, List.setIfInBounds_toArray, List.set_cons_zero, List.set_cons_succ]
  refine wpAnyL_one (i := 4) rfl (by kernel_rfl) (fun K hK => ?_)
  go_simp
  refine hK.out _ _ (fun _ => hS.out _ hb) ?_
  clear hK K
  try simp only [Act.put, List.setIfInBounds_toArray, List.set_cons_zero, List.set_cons_succ]
  refine wpAnyL_take (i := 5) (v := ?v6) rfl (by kernel_rfl) (by kernel_rfl) (by kernel_rfl) (by kernel_rfl) (by kernel_rfl) (Or.inl ⟨by rfl, ?hy6⟩) (hS.out _ hb) ?rest6
  case hy6 => (intro W2 hSw; (try dsimp only at hSw); go_simp; try with_reducible rfl)
  try simp only [Act.put, List.setIfInBounds_toArray, List.set_cons_zero, List.set_cons_succ]
  refine wpAnyL_take (i := 6) (v := ?v7) rfl (by kernel_rfl) (by kernel_rfl) (by kernel_rfl) (by kernel_rfl) (by kernel_rfl) (Or.inl ⟨by rfl, ?hy7⟩) (hS.out _ hb) ?rest7
  case hy7 => (intro W2 hSw; (try dsimp only at hSw); go_simp; try with_reducible rfl)
  try simp only [Act.put, List.setIfInBounds_toArray, List.set_cons_zero, List.set_cons_succ]
  refine wpAnyL_one (i := 7) rfl (by kernel_rfl) (fun K hK => ?_)
  go_simp
  refine hK.out _ _ (fun _ => hS.out _ hb) ?_
  clear hK K
  try simp only [Act.put, List.setIfInBounds_toArray, List.set_cons_zero, List.set_cons_succ]
  refine wpAnyL_one (i := 8) rfl (by kernel_rfl) (fun K hK => ?_)
  go_simp
  refine hK.out _ _ (fun _ => hS.out _ hb) ?_
  clear hK K
  try simp only [Act.put, List.setIfInBounds_toArray, List.set_cons_zero, List.set_cons_succ]
  refine wpAnyL_done (by kernel_rfl) ?_ _
  refine OnlyNormal.normal ?_
  replace hB := hB.trans (hb.mono hB.size)
  replace qm := keep_blk hb qm
  replace qn := keep_blk hb qn
  replace qx := keep_blk hb qx
  replace pf0 := hide (pf0.out.below hb)
  replace pf1 := hide (pf1.out.below hb)
  replace pf3 := hide (pf3.out.below hb)
  replace pf4 := hide (pf4.out.below hb)
  replace qf0 := hide (qf0.out.below hb)
  replace qf2 := hide (qf2.out.below hb)
  replace bf0 := hide (bf0.out.below hb)
  replace bf1 := hide (bf1.out.below hb)
  replace bf2 := hide (bf2.out.below hb)
  replace bf3 := hide (bf3.out.below hb)
  clear hS hb
  go_wp2_with fail
  clear bf0 bf1 bf2 bf3
  have hS : ∀ wx, Below z2.heap.size z2 wx → wx.cell? ⟨w1.heap.size, 0, none⟩ = some (.int .i64 4) ∧ wx.cell? ⟨w1.heap.size, 1, none⟩ = some (.bool pn0) ∧ wx.cell? ⟨w1.heap.size, 2, none⟩ = some (.slice pA0 pk0 pc0) ∧ wx.cell? ⟨w1.heap.size, 3, none⟩ = some (.bool pm0) ∧ wx.cell? ⟨w1.heap.size, 4, none⟩ = some (.slice pB0 pj0 pd0) ∧ wx.cell? ⟨w1.heap.size, 5, none⟩ = some (.bool pn1) ∧ wx.cell? ⟨w1.heap.size, 6, none⟩ = some (.slice pA1 pk1 pc1) ∧ wx.cell? ⟨w1.heap.size, 7, none⟩ = some (.bool pm1) ∧ wx.cell? ⟨w1.heap.size, 8, none⟩ = some (.slice pB1 pj1 pd1) ∧ wx.cell? ⟨w1.heap.size, 13, none⟩ = some (.bool pn3) ∧ wx.cell? ⟨w1.heap.size, 14, none⟩ = some (.slice pA3 pk3 pc3) ∧ wx.cell? ⟨w1.heap.size, 15, none⟩ = some (.bool pm3) ∧ wx.cell? ⟨w1.heap.size, 16, none⟩ = some (.slice pB3 pj3 pd3) ∧ wx.cell? ⟨w1.heap.size, 17, none⟩ = some (.bool pn4) ∧ wx.cell? ⟨w1.heap.size, 18, none⟩ = some (.slice pA4 pk4 pc4) ∧ wx.cell? ⟨w1.heap.size, 19, none⟩ = some (.bool pm4) ∧ wx.cell? ⟨w1.heap.size, 20, none⟩ = some (.slice pB4 pj4 pd4) ∧ wx.cell? ⟨w3.heap.size, 1, none⟩ = some (.bool qn0) ∧ wx.cell? ⟨w3.heap.size, 2, none⟩ = some (.slice qA0 qk0 qc0) ∧ wx.cell? ⟨w3.heap.size, 3, none⟩ = some (.bool qm0) ∧ wx.cell? ⟨w3.heap.size, 4, none⟩ = some (.slice qB0 qj0 qd0) ∧ wx.cell? ⟨w3.heap.size, 9, none⟩ = some (.bool qn2) ∧ wx.cell? ⟨w3.heap.size, 10, none⟩ = some (.slice qA2 qk2 qc2) ∧ wx.cell? ⟨w3.heap.size, 11, none⟩ = some (.bool qm2) ∧ wx.cell? ⟨w3.heap.size, 12, none⟩ = some (.slice qB2 qj2 qd2) := fun wx hbx => by
    have qmx := keep_blk hbx qm
    have qnx := keep_blk hbx qn
    have a0 := qmx.cell 0
    have a1 := qmx.cell 1
    have a2 := qmx.cell 2
    have a3 := qmx.cell 3
    have a4 := qmx.cell 4
    have a5 := qmx.cell 5
    have a6 := qmx.cell 6
    have a7 := qmx.cell 7
    have a8 := qmx.cell 8
    have a13 := qmx.cell 13
    have a14 := qmx.cell 14
    have a15 := qmx.cell 15
    have a16 := qmx.cell 16
    have a17 := qmx.cell 17
    have a18 := qmx.cell 18
    have a19 := qmx.cell 19
    have a20 := qmx.cell 20
    have b1 := qnx.cell 1
    have b2 := qnx.cell 2
    have b3 := qnx.cell 3
    have b4 := qnx.cell 4
    have b9 := qnx.cell 9
    have b10 := qnx.cell 10
    have b11 := qnx.cell 11
    have b12 := qnx.cell 12
    simp at a0 a1 a2 a3 a4 a5 a6 a7 a8 a13 a14 a15 a16 a17 a18 a19 a20 b1 b2 b3 b4 b9 b10 b11 b12
    exact ⟨a0, a1, a2, a3, a4, a5, a6, a7, a8, a13, a14, a15, a16, a17, a18, a19, a20, b1, b2, b3, b4, b9, b10, b11, b12⟩
  replace hS := hide hS
  replace qm := hide qm
  replace qn := hide qn
  have hb : Below z2.heap.size z2 z2.drew := below_dn (Below.refl _ _) 1
  refine wp_held [] (fun wx => wx.cell? ⟨w1.heap.size, 0, none⟩ = some (.int .i64 4) ∧ wx.cell? ⟨w1.heap.size, 1, none⟩ = some (.bool pn0) ∧ wx.cell? ⟨w1.heap.size, 2, none⟩ = some (.slice pA0 pk0 pc0) ∧ wx.cell? ⟨w1.heap.size, 3, none⟩ = some (.bool pm0) ∧ wx.cell? ⟨w1.heap.size, 4, none⟩ = some (.slice pB0 pj0 pd0) ∧ wx.cell? ⟨w1.heap.size, 5, none⟩ = some (.bool pn1) ∧ wx.cell? ⟨w1.heap.size, 6, none⟩ = some (.slice pA1 pk1 pc1) ∧ wx.cell? ⟨w1.heap.size, 7, none⟩ = some (.bool pm1) ∧ wx.cell? ⟨w1.heap.size, 8, none⟩ = some (.slice pB1 pj1 pd1) ∧ wx.cell? ⟨w1.heap.size, 13, none⟩ = some (.bool pn3) ∧ wx.cell? ⟨w1.heap.size, 14, none⟩ = some (.slice pA3 pk3 pc3) ∧ wx.cell? ⟨w1.heap.size, 15, none⟩ = some (.bool pm3) ∧ wx.cell? ⟨w1.heap.size, 16, none⟩ = some (.slice pB3 pj3 pd3) ∧ wx.cell? ⟨w1.heap.size, 17, none⟩ = some (.bool pn4) ∧ wx.cell? ⟨w1.heap.size, 18, none⟩ = some (.slice pA4 pk4 pc4) ∧ wx.cell? ⟨w1.heap.size, 19, none⟩ = some (.bool pm4) ∧ wx.cell? ⟨w1.heap.size, 20, none⟩ = some (.slice pB4 pj4 pd4) ∧ wx.cell? ⟨w3.heap.size, 1, none⟩ = some (.bool qn0) ∧ wx.cell? ⟨w3.heap.size, 2, none⟩ = some (.slice qA0 qk0 qc0) ∧ wx.cell? ⟨w3.heap.size, 3, none⟩ = some (.bool qm0) ∧ wx.cell? ⟨w3.heap.size, 4, none⟩ = some (.slice qB0 qj0 qd0) ∧ wx.cell? ⟨w3.heap.size, 9, none⟩ = some (.bool qn2) ∧ wx.cell? ⟨w3.heap.size, 10, none⟩ = some (.slice qA2 qk2 qc2) ∧ wx.cell? ⟨w3.heap.size, 11, none⟩ = some (.bool qm2) ∧ wx.cell? ⟨w3.heap.size, 12, none⟩ = some (.slice qB2 qj2 qd2)) hmx (hS.out _ hb) (fun _ => ?_)
  refine wpAnyL_one (i := 0) rfl (by kernel_rfl) (fun K hK => ?_)
  go_simp
  refine hK.out _ _ (fun _ => hS.out _ hb) ?_
  clear hK K
  try simp only [Act.put, List.setIfInBounds_toArray, List.set_cons_zero, List.set_cons_succ]
  refine wpAnyL_one (i := 1) rfl (by kernel_rfl) (fun K hK => ?_)
  go_simp
  refine hK.out _ _ (fun _ => hS.out _ hb) ?_
  clear hK K
  try simp only [Act.put, List.setIfInBounds_toArray, List.set_cons_zero, List.set_cons_succ]
  refine wpAnyL_one (i := 2) rfl (by kernel_rfl) (fun K hK => ?_)
  go_simp
  refine hK.out _ _ (fun _ => hS.out _ hb) ?_
  clear hK K
  try simp only [Act.put, List.setIfInBounds_toArray, List.set_cons_zero, List.set_cons_succ]
  refine wpAnyL_one (i := 3) rfl (by kernel_rfl) (fun K hK => ?_)
  go_simp
  refine hK.out _ _ (fun _ => hS.out _ hb) ?_
  clear hK K
  try simp only [Act.put, List.setIfInBounds_toArray, List.set_cons_zero, List.set_cons_succ]
  refine wpAnyL_take (i := 4) (v := ?v8) rfl (by kernel_rfl) (by kernel_rfl) (by kernel_rfl) (by kernel_rfl) (by kernel_rfl) (Or.inl ⟨by rfl, ?hy8⟩) (hS.out _ hb) ?rest8
  case hy8 => (intro W2 hSw; (try dsimp only at hSw); go_simp; try with_reducible rfl)
  try simp only [Act.put, List.setIfInBounds_toArray, List.set_cons_zero, List.set_cons_succ]
  refine wpAnyL_one (i := 5) rfl (by kernel_rfl) (fun K hK => ?_)
  go_simp
  refine hK.out _ _ (fun _ => hS.out _ hb) ?_
  clear hK K
  try simp only [Act.put, List.setIfInBounds_toArray, List.set_cons_zero, List.set_cons_succ]
  refine wpAnyL_one (i := 6) rfl (by kernel_rfl) (fun K hK => ?_)
  go_simp
  refine hK.out _ _ (fun _ => hS.out _ hb) ?_
  clear hK K
  try simp only [Act.put, List.setIfInBounds_toArray, List.set_cons_zero, List.set_cons_succ]
  refine wpAnyL_one (i := 7) rfl (by kernel_rfl) (fun K hK => ?_)
  go_simp
  refine hK.out _ _ (fun _ => hS.out _ hb) ?_
  clear hK K
  try simp only [Act.put, List.setIfInBounds_toArray, List.set_cons_zero, List.set_cons_succ]
  refine wpAnyL_take (i := 8) (v := ?v9) rfl (by kernel_rfl) (by kernel_rfl) (by kernel_rfl) (by kernel_rfl) (by kernel_rfl) (Or.inl ⟨by rfl, ?hy9⟩) (hS.out _ hb) ?rest9
  case hy9 => (intro W2 hSw; (try dsimp only at hSw); go_simp; try with_reducible rfl)
  try simp only [Act.put, List.setIfInBounds_toArray, List.set_cons_zero, List.set_cons_succ]
  refine wpAnyL_take (i := 9) (v := ?v10) rfl (by kernel_rfl) (by kernel_rfl) (by kernel_rfl) (by kernel_rfl) (by kernel_rfl) (Or.inl ⟨by rfl, ?hy10⟩) (hS.out _ hb) ?rest10
  case hy10 => (intro W2 hSw; (try dsimp only at hSw); go_simp; try with_reducible rfl)
  try simp only [Act.put, List.setIfInBounds_toArray, List.set_cons_zero, List.set_cons_succ]
  refine wpAnyL_one (i := 10) rfl (by kernel_rfl) (fun K hK => ?_)
  go_simp
  refine (lawOf_ok 3 4 _ (by decide) (by decide) (by decide) (by decide)).mono ?_
  rintro e u1a ⟨hbz, sn0, sA0, sk0, sc0, sm0, sB0, sj0, sd0, rfl, sf0⟩
  replace hb := hb.trans (hbz.mono hb.size)
  replace sf0 : Hid (Fz u1a sn0 sA0 sk0 sc0 sm0 sB0 sj0 sd0 (3, 4)) := hide (by rw [← nm_34]; exact sf0.fz)
  clear hbz
  refine hK.out _ _ (fun _ => hS.out _ hb) ?_
  clear hK K
  try simp only [Act.put, List.setIfInBounds_toArray, List.set_cons_zero, List.set_cons_succ]
  refine wpAnyL_one (i := 11) rfl (by kernel_rfl) (fun K hK => ?_)
  go_simp
  refine (rfSame_fz pn0 pm0 sn0 sm0 pA0 pB0 sA0 sB0 pk0 pc0 pj0 pd0 sk0 sc0 sj0 sd0 (3, 4) (3, 4) u1a (pf0.out.below hb) sf0.out true (by simp)).mono ?_
  rintro e u1 ⟨rfl, hbz⟩
  replace hb := hb.trans (hbz.mono hb.size)
  clear sf0
  clear hbz
  refine hK.out _ _ (fun _ => hS.out _ hb) ?_
  clear hK K
  try simp only [Act.put, List.setIfInBounds_toArray, List.set_cons_zero, List.set_cons_succ]
  refine wpAnyL_one (i := 12) rfl (by kernel_rfl) (fun K hK => ?_)
  go_simp
  refine hK.out _ _ (fun _ => hS.out _ hb) ?_
  clear hK K
  try simp only [Act.put, List.setIfInBounds_toArray, List.set_cons_zero, List.set_cons_succ]
  refine wpAnyL_one (i := 13) rfl (by kernel_rfl) (fun K hK => ?_)
  go_simp
  refine hK.out _ _ (fun _ => hS.out _ hb) ?_
  clear hK K
  try simp only [Act.put, List.setIfInBounds_toArray, List.set_cons_zero, List.set_cons_succ]
  refine wpAnyL_take (i := 14) (v := ?v11) rfl (by kernel_rfl) (by kernel_rfl) (by kernel_rfl) (by kernel_rfl) (by kernel_rfl) (Or.inl ⟨by rfl, ?hy11⟩) (hS.out _ hb) ?rest11
  case hy11 => (intro W2 hSw; (try dsimp only at hSw); go_simp; try with_reducible rfl)
  try simp only [Act.put, List.setIfInBounds_toArray, List.set_cons_zero, List.set_cons_succ]
  refine wpAnyL_take (i := 15) (v := ?v12) rfl (by kernel_rfl) (by kernel_rfl) (by kernel_rfl) (by kernel_rfl) (by kernel_rfl) (Or.inl ⟨by rfl, ?hy12⟩) (hS.out _ hb) ?rest12
  case hy12 => (intro W2 hSw; (try dsimp only at hSw); go_simp; try with_reducible rfl)
  try simp only [Act.put, List.setIfInBounds_toArray, List.set_cons_zero, List.set_cons_succ]
  refine wpAnyL_one (i := 16) rfl (by kernel_rfl) (fun K hK => ?_)
  go_simp
  refine (lawOf_ok 3 4 _ (by decide) (by decide) (by decide) (by decide)).mono ?_
  rintro e u2a ⟨hbz, sn0, sA0, sk0, sc0, sm0, sB0, sj0, sd0, rfl, sf0⟩
  replace hb := hb.trans (hbz.mono hb.size)
  replace sf0 : Hid (Fz u2a sn0 sA0 sk0 sc0 sm0 sB0 sj0 sd0 (3, 4)) := hide (by rw [← nm_34]; exact sf0.fz)
  clear hbz
  refine hK.out _ _ (fun _ => hS.out _ hb) ?_
  clear hK K
  try simp only [Act.put, List.setIfInBounds_toArray, List.set_cons_zero, List.set_cons_succ]
  refine wpAnyL_one (i := 17) rfl (by kernel_rfl) (fun K hK => ?_)
  go_simp
  refine (rfSame_fz pn1 pm1 sn0 sm0 pA1 pB1 sA0 sB0 pk1 pc1 pj1 pd1 sk0 sc0 sj0 sd0 (3, 4) (3, 4) u2a (pf1.out.below hb) sf0.out true (by simp)).mono ?_
  rintro e u2 ⟨rfl, hbz⟩
  replace hb := hb.trans (hbz.mono hb.size)
  clear sf0
  clear hbz
  refine hK.out _ _ (fun _ => hS.out _ hb) ?_
  clear hK K
  try simp only [Act.put, List.setIfInBounds_toArray, List.set_cons_zero, List.set_cons_succ]
  refine wpAnyL_one (i := 18) rfl (by kernel_rfl) (fun K hK => ?_)
  go_simp
  refine hK.out _ _ (fun _ => hS.out _ hb) ?_
  clear hK K
  try simp only [Act.put, List.setIfInBounds_toArray, List.set_cons_zero, List.set_cons_succ]
  refine wpAnyL_one (i := 19) rfl (by kernel_rfl) (fun K hK => ?_)
  go_simp
  refine hK.out _ _ (fun _ => hS.out _ hb) ?_
  clear hK K
  try simp only [Act.put, List.setIfInBounds_toArray, List.set_cons_zero, List.set_cons_succ]
  refine wpAnyL_take (i := 20) (v := ?v13) rfl (by kernel_rfl) (by kernel_rfl) (by kernel_rfl) (by kernel_rfl) (by kernel_rfl) (Or.inl ⟨by rfl, ?hy13⟩) (hS.out _ hb) ?rest13
  case hy13 => (intro W2 hSw; (try dsimp only at hSw); go_simp; try with_reducible rfl)
  try simp only [Act.put, List.setIfInBounds_toArray, List.set_cons_zero, List.set_cons_succ]
  refine wpAnyL_take (i := 21) (v := ?v14) rfl (by kernel_rfl) (by kernel_rfl) (by kernel_rfl) (by kernel_rfl) (by kernel_rfl) (Or.inl ⟨by rfl, ?hy14⟩) (hS.out _ hb) ?rest14
  case hy14 => (intro W2 hSw; (try dsimp only at hSw); go_simp; try with_reducible rfl)
  try simp only [Act.put, List.setIfInBounds_toArray, List.set_cons_zero, List.set_cons_succ]
  refine wpAnyL_one (i := 22) rfl (by kernel_rfl) (fun K hK => ?_)
  go_simp
  refine (lawOf_ok 3 16 _ (by decide) (by decide) (by decide) (by decide)).mono ?_
  rintro e u3a ⟨hbz, sn0, sA0, sk0, sc0, sm0, sB0, sj0, sd0, rfl, sf0⟩
  replace hb := hb.trans (hbz.mono hb.size)
  replace sf0 : Hid (Fz u3a sn0 sA0 sk0 sc0 sm0 sB0 sj0 sd0 (3, 16)) := hide (by rw [← nm_316]; exact sf0.fz)
  clear hbz
  refine hK.out _ _ (fun _ => hS.out _ hb) ?_
  clear hK K
  try simp only [Act.put, List.setIfInBounds_toArray, List.set_cons_zero, List.set_cons_succ]
  refine wpAnyL_one (i := 23) rfl (by kernel_rfl) (fun K hK => ?_)
  go_simp
  refine (rfSame_fz pn3 pm3 sn0 sm0 pA3 pB3 sA0 sB0 pk3 pc3 pj3 pd3 sk0 sc0 sj0 sd0 (3, 16) (3, 16) u3a (pf3.out.below hb) sf0.out true (by simp)).mono ?_
  rintro e u3 ⟨rfl, hbz⟩
  replace hb := hb.trans (hbz.mono hb.size)
  clear sf0
  clear hbz
  refine hK.out _ _ (fun _ => hS.out _ hb) ?_
  clear hK K
  try simp only [Act.put, List.setIfInBounds_toArray, List.set_cons_zero, List.set_cons_succ]
  refine wpAnyL_one (i := 24) rfl (by kernel_rfl) (fun K hK => ?_)
  go_simp
  refine hK.out _ _ (fun _ => hS.out _ hb) ?_
  clear hK K
  try simp only [Act.put, List.setIfInBounds_toArray, List.set_cons_zero, List.set_cons_succ]
  refine wpAnyL_one (i := 25) rfl (by kernel_rfl) (fun K hK => ?_)
  go_simp
  refine hK.out _ _ (fun _ => hS.out _ hb) ?_
  clear hK K
  try simp only [Act.put, List.setIfInBounds_toArray, List.set_cons_zero, List.set_cons_succ]
  refine wpAnyL_take (i := 26) (v := ?v15) rfl (by kernel_rfl) (by kernel_rfl) (by kernel_rfl) (by kernel_rfl) (by kernel_rfl) (Or.inl ⟨by rfl, ?hy15⟩) (hS.out _ hb) ?rest15
  case hy15 => (intro W2 hSw; (try dsimp only at hSw); go_simp; try with_reducible rfl)
  try simp only [Act.put, List.setIfInBounds_toArray, List.set_cons_zero, List.set_cons_succ]
  refine wpAnyL_take (i := 27) (v := ?v16) rfl (by kernel_rfl) (by kernel_rfl) (by kernel_rfl) (by kernel_rfl) (by kernel_rfl) (Or.inl ⟨by rfl, ?hy16⟩) (hS.out _ hb) ?rest16
  case hy16 => (intro W2 hSw; (try dsimp only at hSw); go_simp; try with_reducible rfl)
  try simp only [Act.put, List.setIfInBounds_toArray, List.set_cons_zero, List.set_cons_succ]
  refine wpAnyL_one (i := 28) rfl (by kernel_rfl) (fun K hK => ?_)
  go_simp
  refine (lawOf_ok 3 16 _ (by decide) (by decide) (by decide) (by decide)).mono ?_
  rintro e u4a ⟨hbz, sn0, sA0, sk0, sc0, sm0, sB0, sj0, sd0, rfl, sf0⟩
  replace hb := hb.trans (hbz.mono hb.size)
  replace sf0 : Hid (Fz u4a sn0 sA0 sk0 sc0 sm0 sB0 sj0 sd0 (3, 16)) := hide (by rw [← nm_316]; exact sf0.fz)
  clear hbz
  refine hK.out _ _ (fun _ => hS.out _ hb) ?_
  clear hK K
  try simp only [Act.put, List.setIfInBounds_toArray, List.set_cons_zero, List.set_cons_succ]
  refine wpAnyL_one (i := 29) rfl (by kernel_rfl) (fun K hK => ?_)
  go_simp
  refine (rfSame_fz pn4 pm4 sn0 sm0 pA4 pB4 sA0 sB0 pk4 pc4 pj4 pd4 sk0 sc0 sj0 sd0 (3, 16) (3, 16) u4a (pf4.out.below hb) sf0.out true (by simp)).mono ?_
  rintro e u4 ⟨rfl, hbz⟩
  replace hb := hb.trans (hbz.mono hb.size)
  clear sf0
  clear hbz
  refine hK.out _ _ (fun _ => hS.out _ hb) ?_
  clear hK K
  try simp only [Act.put, List.setIfInBounds_toArray, List.set_cons_zero, List.set_cons_succ]
  refine wpAnyL_one (i := 30) rfl (by kernel_rfl) (fun K hK => ?_)
  go_simp
  refine hK.out _ _ (fun _ => hS.out _ hb) ?_
  clear hK K
  try simp only [Act.put, List.setIfInBounds_toArray, List.set_cons_zero, List.set_cons_succ]
  refine wpAnyL_one (i := 31) rfl (by kernel_rfl) (fun K hK => ?_)
  go_simp
  refine hK.out _ _ (fun _ => hS.out _ hb) ?_
  clear hK K
  try simp only [Act.put, List.setIfInBounds_toArray, List.set_cons_zero, List.set_cons_succ]
  refine wpAnyL_one (i := 32) rfl (by kernel_rfl) (fun K hK => ?_)
  go_simp
  refine hK.out _ _ (fun _ => hS.out _ hb) ?_
  clear hK K
  try simp only [Act.put, List.setIfInBounds_toArray, List.set_cons_zero, List.set_cons_succ]
  refine wpAnyL_one (i := 33) rfl (by kernel_rfl) (fun K hK => ?_)
  go_simp
  refine hK.out _ _ (fun _ => hS.out _ hb) ?_
  clear hK K
  try simp only [Act.put, List.setIfInBounds_toArray, List.set_cons_zero, List.set_cons_succ]
  refine wpAnyL_one (i := 34) rfl (by kernel_rfl) (fun K hK => ?_)
  go_simp
  refine hK.out _ _ (fun _ => hS.out _ hb) ?_
  clear hK K
  try simp only [Act.put, List.setIfInBounds_toArray, List.set_cons_zero, List.set_cons_succ]
  refine wpAnyL_one (i := 35) rfl (by kernel_rfl) (fun K hK => ?_)
  go_simp
  refine hK.out _ _ (fun _ => hS.out _ hb) ?_
  clear hK K
  try simp only [Act.put, List.setIfInBounds_toArray, List.set_cons_zero, List.set_cons_succ]
  refine wpAnyL_take (i := 36) (v := ?v17) rfl (by kernel_rfl) (by kernel_rfl) (by kernel_rfl) (by kernel_rfl) (by kernel_rfl) (Or.inl ⟨by rfl, ?hy17⟩) (hS.out _ hb) ?rest17
  case hy17 => (intro W2 hSw; (try dsimp only at hSw); go_simp; try with_reducible rfl)
  try simp only [Act.put, List.setIfInBounds_toArray, List.set_cons_zero, List.set_cons_succ]
  refine wpAnyL_take (i := 37) (v := ?v18) rfl (by kernel_rfl) (by kernel_rfl) (by kernel_rfl) (by kernel_rfl) (by kernel_rfl) (Or.inl ⟨by rfl, ?hy18⟩) (hS.out _ hb) ?rest18
  case hy18 => (intro W2 hSw; (try dsimp only at hSw); go_simp; try with_reducible rfl)
  try simp only [Act.put, List.setIfInBounds_toArray, List.set_cons_zero, List.set_cons_succ]
  refine wpAnyL_one (i := 38) rfl (by kernel_rfl) (fun K hK => ?_)
  go_simp
  refine (lawOf_ok 4 1 _ (by decide) (by decide) (by decide) (by decide)).mono ?_
  rintro e u5a ⟨hbz, sn0, sA0, sk0, sc0, sm0, sB0, sj0, sd0, rfl, sf0⟩
  replace hb := hb.trans (hbz.mono hb.size)
  replace sf0 : Hid (Fz u5a sn0 sA0 sk0 sc0 sm0 sB0 sj0 sd0 (4, 1)) := hide (by rw [← nm_41]; exact sf0.fz)
  clear hbz
  refine hK.out _ _ (fun _ => hS.out _ hb) ?_
  clear hK K
  try simp only [Act.put, List.setIfInBounds_toArray, List.set_cons_zero, List.set_cons_succ]
  refine wpAnyL_one (i := 39) rfl (by kernel_rfl) (fun K hK => ?_)
  go_simp
  refine (rfSame_fz qn0 qm0 sn0 sm0 qA0 qB0 sA0 sB0 qk0 qc0 qj0 qd0 sk0 sc0 sj0 sd0 (4, 1) (4, 1) u5a (qf0.out.below hb) sf0.out true (by simp)).mono ?_
  rintro e u5 ⟨rfl, hbz⟩
  replace hb := hb.trans (hbz.mono hb.size)
  clear sf0
  clear hbz
  refine hK.out _ _ (fun _ => hS.out _ hb) ?_
  clear hK K
  try simp only [Act.put, List.setIfInBounds_toArray, List.set_cons_zero, List.set_cons_succ]
  refine wpAnyL_one (i := 40) rfl (by kernel_rfl) (fun K hK => ?_)
  go_simp
  refine hK.out _ _ (fun _ => hS.out _ hb) ?_
  clear hK K
  try simp only [Act.put, List.setIfInBounds_toArray, List.set_cons_zero, List.set_cons_succ]
  refine wpAnyL_one (i := 41) rfl (by kernel_rfl) (fun K hK => ?_)
  go_simp
  refine hK.out _ _ (fun _ => hS.out _ hb) ?_
  clear hK K
  try simp only [Act.put, List.setIfInBounds_toArray, List.set_cons_zero, List.set_cons_succ]
  refine wpAnyL_take (i := 42) (v := ?v19) rfl (by kernel_rfl) (by kernel_rfl) (by kernel_rfl) (by kernel_rfl) (by kernel_rfl) (Or.inl ⟨by rfl, ?hy19⟩) (hS.out _ hb) ?rest19
  case hy19 => (intro W2 hSw; (try dsimp only at hSw); go_simp; try with_reducible rfl)
  try simp only [Act.put, List.setIfInBounds_toArray, List.set_cons_zero, List.set_cons_succ]
  refine wpAnyL_take (i := 43) (v := ?v20) rfl (by kernel_rfl) (by kernel_rfl) (by kernel_rfl) (by kernel_rfl) (by kernel_rfl) (Or.inl ⟨by rfl, ?hy20⟩) (hS.out _ hb) ?rest20
  case hy20 => (intro W2 hSw; (try dsimp only at hSw); go_simp; try with_reducible rfl)
  try simp only [Act.put, List.setIfInBounds_toArray, List.set_cons_zero, List.set_cons_succ]
  refine wpAnyL_one (i := 44) rfl (by kernel_rfl) (fun K hK => ?_)
  go_simp
  refine (lawOf_ok (-8) 1 _ (by decide) (by decide) (by decide) (by decide)).mono ?_
  rintro e u6a ⟨hbz, sn0, sA0, sk0, sc0, sm0, sB0, sj0, sd0, rfl, sf0⟩
  replace hb := hb.trans (hbz.mono hb.size)
  replace sf0 : Hid (Fz u6a sn0 sA0 sk0 sc0 sm0 sB0 sj0 sd0 (-8, 1)) := hide (by rw [← nm_81]; exact sf0.fz)
  clear hbz
  refine hK.out _ _ (fun _ => hS.out _ hb) ?_
  clear hK K
  try simp only [Act.put, List.setIfInBounds_toArray, List.set_cons_zero, List.set_cons_succ]
  refine wpAnyL_one (i := 45) rfl (by kernel_rfl) (fun K hK => ?_)
  go_simp
  refine (rfSame_fz qn2 qm2 sn0 sm0 qA2 qB2 sA0 sB0 qk2 qc2 qj2 qd2 sk0 sc0 sj0 sd0 (-8, 1) (-8, 1) u6a (qf2.out.below hb) sf0.out true (by simp)).mono ?_
  rintro e u6 ⟨rfl, hbz⟩
  replace hb := hb.trans (hbz.mono hb.size)
  clear sf0
  clear hbz
  refine hK.out _ _ (fun _ => hS.out _ hb) ?_
  clear hK K
  try simp only [Act.put, List.setIfInBounds_toArray, List.set_cons_zero, List.set_cons_succ]
  refine wpAnyL_one (i := 46) rfl (by kernel_rfl) (fun K hK => ?_)
  go_simp
  refine hK.out _ _ (fun _ => hS.out _ hb) ?_
  clear hK K
  try simp only [Act.put, List.setIfInBounds_toArray, List.set_cons_zero, List.set_cons_succ]
  refine wpAnyL_one (i := 47) rfl (by kernel_rfl) (fun K hK => ?_)
  go_simp
  refine hK.out _ _ (fun _ => hS.out _ hb) ?_
  clear hK K
  try simp only [Act.put, List.setIfInBounds_toArray, List.set_cons_zero, List.set_cons_succ]
  refine wpAnyL_done (by kernel_rfl) ?_ _
  refine OnlyNormal.normal ?_
  replace hB := hB.trans (hb.mono hB.size)
  clear hS hb qm qn pf0 pf1 pf3 pf4 qf0 qf2
  go_wp2_with fail
  refine (alive_ok u6).mono ?_
  rintro e wz ⟨rfl, hb⟩
  replace hB := hB.trans (hb.mono hB.size)
  go_wp2_with fail
  go_ret
  exact ⟨rfl, hB⟩
end Go.Proofs.Ytkippclhbkjbmaa

namespace Go.Proofs.Ytkippclhbkjbmaa
open Go.ChangeShapes Go.WideShapes Go.Deep Go.RowKit

section
variable {H : Type} {enc : TypeId × Value → H} {P : Program}
theorem post_of_below {f : Func} {s : ChangeSpec} {apart fresh handsOn again : Bool} {W W' : World} {args : Array Value} {v : Value} {ds gs : List (DataW H)} {before pa pv : List MemPlace}
    (hW : DataW.Whole enc P f.params.toList s.vars apart W args.toList ds gs before)
    (hres : ∀ (b : Nat) (sp : Nat → Bool) (hd : Bool), DataW.TrodAll enc P W' b sp hd f.resultTypes.toList (v.resultList f.resultTypes.size) (s.fn H (ds ++ gs)).results [])
    (hargs : ∀ sp : Nat → Bool, (∀ p ∈ before, sp p.block = true) → DataW.TrodAll enc P W' 0 sp true f.params.toList args.toList (s.fn H (ds ++ gs)).args pa)
    (hvars : ∀ sp : Nat → Bool, (∀ p ∈ before, sp p.block = true) → DataW.TrodVars enc P W' sp s.vars (s.fn H (ds ++ gs)).vars pv)
    (hps : before = pa ++ pv) (hb : Below W.heap.size W W')
    (hok : ∀ (j : Nat) (t : TypeId) (r : Value), f.resultTypes[j]? = some t → (v.resultList f.resultTypes.size)[j]? = some r → Value.okWide P W' .any 0 t r) :
    s.post enc P f apart fresh handsOn again W args v W' := by
  have hlt : ∀ p ∈ before, p.block < W.heap.size := fun p hp => hW.lt p hp
  have hold : ∀ p ∈ before, (fun b => decide (b < W.heap.size)) p.block = true := fun p hp => by simpa using hlt p hp
  refine ⟨ds, gs, before, [], pa, pv, hW, hres _ _ _, hargs _ hold, hvars _ hold, World.keptBut_mono (fun p hp => ⟨hp, ?_⟩) (hb.frame (· ∈ before)), fun _ => ?_⟩
  · rw [hps, List.mem_append] at hp
    exact Or.inr hp
  · obtain ⟨_, _, _, _, _, hz, hn⟩ := hW
    refine ⟨hok, _, _, ([] ++ pa) ++ pv, ⟨[] ++ pa, pv, trodAll_append (hargs _ (fun _ _ => rfl)) (hres _ _ _), hvars _ (fun _ _ => rfl), rfl, ?_, ?_⟩, ?_⟩
    · intro b off hp
      have hin : MemPlace.cell b off ∈ before := by rw [hps]; simpa using hp
      rw [hb.frozen (hlt _ hin)]
      exact hz b off hin
    · intro ha
      have := hn ha
      rw [hps] at this
      simpa using this
    · intro p hp _
      rw [hps]
      simpa using hp
end

theorem plain_cell {w : World} {a : Addr} {v : Value} (h : w.cell? a = some v) : a = ⟨a.block, a.off, none⟩ := by
  obtain ⟨b, o, s⟩ := a
  cases s with
  | none => rfl
  | some s =>
    exfalso
    unfold World.cell? at h
    simp at h
    split at h <;> simp at h

theorem wf_i64 {z : Int} (h : (Lit.int .i64 z).wf = true) : I64 z := by
  simp only [Lit.wf, Bool.and_eq_true, decide_eq_true_eq] at h
  exact h

section
variable {H : Type} {enc : TypeId × Value → H} {w : World} {base : Nat} {spare : Nat → Bool} {held : Bool}
theorem open_i64 {t e : TypeId} {fuel : Nat} {cs : List Value} {x : DataW H × List MemPlace} (ht : Try.prog.underlying t = some (.slice e)) (he : Try.prog.underlying e = some (.int .i64)) (hc : Try.prog.cellsOf e = 1) (h : DataW.trod enc Try.prog w base spare held fuel t cs = some x) : ∃ (A : Option Addr) (n c : Nat) (l : List Int), cs = [.slice A n c] ∧ LimI w A n c l := by
  rcases open_ints ht he hc h with ⟨rfl, _⟩ | ⟨a, len, cap, zs, rfl, _, hl, hm, hz, _, hcell, hwf⟩
  · exact ⟨none, 0, 0, [], rfl, rfl, Nat.zero_le _, Nat.zero_le _, by simp, fun h => absurd h (by omega)⟩
  · have hlz : len ≤ zs.length := by rw [hz]; split <;> omega
    refine ⟨some a, len, cap, zs.take len, rfl, by simp; omega, hl, hm, fun v hv => wf_i64 (hwf v (List.mem_of_mem_take hv)), fun hn => ?_⟩
    have h0 := hcell 0 (by omega)
    have hp := plain_cell h0
    obtain ⟨b, o, s⟩ : ∃ b o, a = ⟨b, o, none⟩ := by
      obtain ⟨b, o, s⟩ := a
      refine ⟨b, o, ?_⟩
      unfold Addr.add at hp
      split at hp <;> simp_all
    subst s
    refine ⟨b, o, rfl, fun k hk => ?_⟩
    have hc := hcell k (by omega)
    rw [add_lit] at hc
    rw [hc]
    have hkz : k < zs.length := by omega
    rw [List.getElem?_take, if_pos hk, List.getD_eq_getElem?_getD]

set_option maxRecDepth 100000 in
theorem open_list {r : Reach} {b0 : Nat} {v : Value} {d : DataW H} {p : List MemPlace} (hv : Value.okWide Try.prog w r b0 35 v) (h : DataW.Trod enc Try.prog w base spare held 35 v d p) : ∃ (A : Option Addr) (n c : Nat) (l : List Int), v = .slice A n c ∧ LimI w A n c l := by
  obtain ⟨A, n, c, rfl⟩ := okWide_slice Try.underlying35 hv
  obtain ⟨fuel, hf⟩ := h
  obtain ⟨A', n', c', l, hcs, hL⟩ := open_i64 Try.underlying35 Try.underlying3 (by kernel_rfl) hf
  simp [Value.cells] at hcs
  obtain ⟨rfl, rfl, rfl⟩ := hcs
  exact ⟨A, n, c, l, rfl, hL⟩

set_option maxRecDepth 100000 in
theorem open_field {r : Reach} {b0 : Nat} {v : Value} {d : DataW H} {p : List MemPlace} (hv : Value.okWide Try.prog w r b0 24 v) (h : DataW.Trod enc Try.prog w base spare held 24 v d p) :
    ∃ (W Hh : Int) (A : Option Addr) (n c : Nat) (l : List Int), v = .agg #[.int .i64 W, .int .i64 Hh, .slice A n c] ∧ LimI w A n c l ∧ I64 W ∧ I64 Hh := by
  obtain ⟨cs, rfl, hsz⟩ := okWide_struct Try.underlying24 hv
  obtain ⟨fuel, hf⟩ := h
  obtain ⟨xs, n', _, _, hl, hxl, hfl⟩ := DataW.trod_struct Try.underlying24 hf
  have c3 : Try.prog.cellsOf 24 = 3 := by kernel_rfl
  have c1 : Try.prog.cellsOf 3 = 1 := by kernel_rfl
  have c2 : Try.prog.cellsOf 22 = 1 := by kernel_rfl
  rw [c3] at hsz
  obtain ⟨x, y, z, rfl⟩ : ∃ x y z, cs = #[x, y, z] := by
    obtain ⟨l⟩ := cs
    match l, hsz with
    | [x, y, z], _ => exact ⟨x, y, z, rfl⟩
  have f0 := hfl 0 _ rfl
  have f1 := hfl 1 _ rfl
  have f2 := hfl 2 _ rfl
  simp only [List.getElem_toArray, List.getElem_cons_zero, List.getElem_cons_succ] at f0 f1 f2
  rw [c1] at f0 f1
  rw [c2] at f2
  have g0 : xs[0]? = some (xs[0]'(by rw [hxl]; decide)) := List.getElem?_eq_getElem _
  have g1 : xs[1]? = some (xs[1]'(by rw [hxl]; decide)) := List.getElem?_eq_getElem _
  have g2 : xs[2]? = some (xs[2]'(by rw [hxl]; decide)) := List.getElem?_eq_getElem _
  rw [g0] at f0
  rw [g1] at f1
  rw [g2] at f2
  obtain ⟨W, e0, _, wf0⟩ := DataW.trod_int Try.underlying3 f0
  obtain ⟨Hh, e1, _, wf1⟩ := DataW.trod_int Try.underlying3 f1
  obtain ⟨A, n, c, l, e2, hL⟩ := open_i64 Try.underlying22 Try.underlying2 (by kernel_rfl) f2
  simp [Value.cells] at e0 e1 e2
  subst e0 e1 e2
  exact ⟨W, Hh, A, n, c, l, rfl, hL, wf_i64 wf0, wf_i64 wf1⟩
end
end Go.Proofs.Ytkippclhbkjbmaa

namespace Go.Proofs.Ytkippclhbkjbmaa
open Go.ChangeShapes Go.WideShapes Go.ChangeAt Go.RowKit

theorem own_knob : ownKnob Try.prog.godebug = none := by kernel_rfl
theorem laid_out : laidOutB Try.prog = true := by kernel_rfl

set_option maxRecDepth 100000 in
theorem names_lifted (os : Os) (started : os.Started) (H : Type) (enc : TypeId × Value → H) :
    ReturnsInHanded {} Try.checked os 3 .any (Rows.centroidNamesSpec.pre6 enc Try.prog Try.f3 Rows.centroidNamesRow.domain false) (Rows.centroidNamesSpec.post enc Try.prog Try.f3 false true false false) := by
  refine returnsInHanded_of_change (C := Try.checked) own_knob started (by kernel_rfl) Try.func3
    (ChangeSpec.witness6 (enc := enc) (C := Try.checked) false ⟨#[], #[], []⟩ 8 (by kernel_rfl) (by kernel_rfl) (by kernel_rfl) (by kernel_rfl)) ?_
  intro W base args ds gs before hval0 hW hcnd _
  have hW' := hW
  obtain ⟨p, q, hA0, hV, rfl, hfz, hnd⟩ := hW
  have hA : DataW.TrodAll enc Try.prog W 0 (fun _ => true) true Try.f3.params.toList args.toList ds p := hA0
  rw [Try.params3] at hA
  obtain ⟨rfl, rfl, rfl⟩ := trodAll_none hA
  obtain ⟨rfl, rfl⟩ := trodVars_none hV
  clear hA0 hval0
  simp only [List.append_nil] at hW'
  refine (law_names W).mono fun e W' ⟨he, hw⟩ => ?_
  subst he
  exact ⟨_, rfl, post_of_below (pa := []) (pv := []) hW' (fun _ _ _ => trodAll_mk1 (shut_bool Try.underlying4 true))
    (fun sp hsp => rfl)
    (fun _ _ => rfl) (List.append_nil _).symm hw (ok_one (by kernel_rfl) rfl (okWide_bool_mk Try.underlying4 true))⟩

theorem names_holds : Rows.CentroidNamesSaid :=
  OpenClaim.holds_of_wide 3 Try.f3 rfl rfl rfl rfl rfl rfl rfl ⟨rfl, rfl, rfl, rfl, rfl⟩ rfl rfl rfl rfl rfl (by kernel_rfl) Try.func3 (by kernel_rfl)
    (of_decide_eq_true (by kernel_rfl)) (by unfold Func.isWrapper; first | (rw [if_pos (by decide +kernel)]; kernel_rfl) | (rw [if_neg (by decide +kernel)]; exact ⟨rfl, rfl⟩))
    (fun os started H enc _ => names_lifted os started H enc)

#print axioms names_holds
end Go.Proofs.Ytkippclhbkjbmaa
