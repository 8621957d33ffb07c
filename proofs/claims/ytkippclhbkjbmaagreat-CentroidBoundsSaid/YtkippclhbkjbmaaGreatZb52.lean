/- The law's words: great. The law's body: CentroidBounds returns true. Arguments opened: a field, a list of numbers. Arguments opened: a fraction, a box. -/
import Derived.ProofKit
import Derived.Deep.Slices
import Derived.Deep.Fields
import Derived.ChangeSame
import Derived.Test.YtkippclhbkjbmaaGreatProg
import Derived.Test.YtkippclhbkjbmaaGreatZb31
import Derived.Test.YtkippclhbkjbmaaGreatZb41
import Derived.Test.YtkippclhbkjbmaaGreatZb42
import Derived.Test.YtkippclhbkjbmaaGreatZb50
import Derived.Test.YtkippclhbkjbmaaGreatZb51
import Derived.Test.YtkippclhbkjbmaaGreatZb16
import Derived.Test.YtkippclhbkjbmaaGreatZb01
set_option linter.unusedSimpArgs false
set_option linter.unusedVariables false

namespace Go.Proofs.YtkippclhbkjbmaaGreat
open Go.RowKit
attribute [local go_sem] add_lit

set_option maxRecDepth 100000 in
set_option maxHeartbeats 1000000 in
theorem greatL_ok (W H : Int) (A : Option Addr) (n c : Nat) (B : Option Addr) (m d : Nat) (w : World) (b : Bool) (hb : (decide (100 < (n : Int)) || decide (40 < (m : Int))) = b) :
    Calls Tryz.prog 7 #[.agg #[.int .i64 W, .int .i64 H, .slice A n c], .slice B m d] w fun e w' => e = .returned (.bool b) ∧ Below w.heap.size w w' := by
  obtain ⟨W0, hW0, hB0, q0, s0⟩ := alloc1 w 24 #[.int .i64 W, .int .i64 H, .slice A n c]
  have c0 := q0.cell 0
  have c1 := q0.cell 1
  have c2 := q0.cell 2
  simp at c0 c1 c2
  go_enter Tryz.func7, Tryz.ntmps7
  go_wp2_with fail
  obtain ⟨b1, hb1⟩ : ∃ b1, decide (100 < (n : Int)) = b1 := ⟨_, rfl⟩
  refine (rGreat_ok W H A n c W0 b1 hb1).mono ?_
  rw [hb1] at hb
  rintro e w1 ⟨rfl, hbw⟩
  replace hB0 := hB0.trans (hbw.mono hB0.size)
  clear hb1 c0 c1 c2 hW0
  cases b1
  · simp at hb
    go_wp2_with fail
    go_ret
    exact ⟨by simp [hb], hB0⟩
  · simp at hb
    subst hb
    go_wp2_with fail
    go_ret
    exact ⟨rfl, hB0⟩
end Go.Proofs.YtkippclhbkjbmaaGreat

namespace Go.Proofs.YtkippclhbkjbmaaGreat
open Go.RowKit
attribute [local go_sem] add_lit

theorem accE_all (y0 y1 y2 y3 : Bool) : accE [errOf y0, errOf y1, errOf y2, errOf y3] 4 = if ((y0 && y1) && (y2 && y3)) = true then 0 else 8 := by
  cases y0 <;> cases y1 <;> cases y2 <;> cases y3 <;> rfl
theorem accB_all (d0 d1 d2 d3 : Bool) : accB [d0, d1, d2, d3] 4 = ((d0 && d1) && (d2 && d3)) := by
  cases d0 <;> cases d1 <;> cases d2 <;> cases d3 <;> rfl

/-- Both 'Holds' answer alike. -/
theorem both_holds (n0 m0 : Bool) (A0 B0 : Option Addr) (k0 c0 j0 d0 : Nat) (n1 m1 : Bool) (A1 B1 : Option Addr) (k1 c1 j1 d1 : Nat) (n2 m2 : Bool) (A2 B2 : Option Addr) (k2 c2 j2 d2 : Nat) (n3 m3 : Bool) (A3 B3 : Option Addr) (k3 c3 j3 d3 : Nat) (n4 m4 : Bool) (A4 B4 : Option Addr) (k4 c4 j4 d4 : Nat) (n5 m5 : Bool) (A5 B5 : Option Addr) (k5 c5 j5 d5 : Nat) (L0 M0 L1 M1 L2 M2 L3 M3 L4 M4 L5 M5 : List Nat) (w : World) (h0 : Lim w A0 k0 c0 L0) (g0 : Lim w B0 j0 d0 M0) (h1 : Lim w A1 k1 c1 L1) (g1 : Lim w B1 j1 d1 M1) (h2 : Lim w A2 k2 c2 L2) (g2 : Lim w B2 j2 d2 M2) (h3 : Lim w A3 k3 c3 L3) (g3 : Lim w B3 j3 d3 M3) (h4 : Lim w A4 k4 c4 L4) (g4 : Lim w B4 j4 d4 M4) (h5 : Lim w A5 k5 c5 L5) (g5 : Lim w B5 j5 d5 M5) (s0 : k0 ≤ 6 ∧ j0 ≤ 6) (s1 : k1 ≤ 6 ∧ j1 ≤ 6) (s2 : k2 ≤ 6 ∧ j2 ≤ 6) (s3 : k3 ≤ 6 ∧ j3 ≤ 6) (s4 : k4 ≤ 6 ∧ j4 ≤ 6) (s5 : k5 ≤ 6 ∧ j5 ≤ 6) :
    ∃ (R : Bool) (C : Int), (∀ W, Below w.heap.size w W → Calls Tryz.prog 16 #[.agg #[.bool n0, .slice A0 k0 c0, .bool m0, .slice B0 j0 d0, .bool n1, .slice A1 k1 c1, .bool m1, .slice B1 j1 d1, .bool n2, .slice A2 k2 c2, .bool m2, .slice B2 j2 d2, .bool n3, .slice A3 k3 c3, .bool m3, .slice B3 j3 d3], .agg #[.bool n4, .slice A4 k4 c4, .bool m4, .slice B4 j4 d4], .agg #[.bool n5, .slice A5 k5 c5, .bool m5, .slice B5 j5 d5]] W fun e w' => e = .returned (.tuple #[.bool R, .int .i64 C]) ∧ Below W.heap.size W w') ∧
      (∀ W, Below w.heap.size w W → Calls Tryz.prog 17 #[.agg #[.bool n0, .slice A0 k0 c0, .bool m0, .slice B0 j0 d0, .bool n1, .slice A1 k1 c1, .bool m1, .slice B1 j1 d1, .bool n2, .slice A2 k2 c2, .bool m2, .slice B2 j2 d2, .bool n3, .slice A3 k3 c3, .bool m3, .slice B3 j3 d3], .agg #[.bool n4, .slice A4 k4 c4, .bool m4, .slice B4 j4 d4], .agg #[.bool n5, .slice A5 k5 c5, .bool m5, .slice B5 j5 d5]] W fun e w' => e = .returned (.tuple #[.bool R, .int .i64 C]) ∧ Below W.heap.size W w') := by
  refine ⟨_, _, fun W hb => holds_any n0 m0 A0 B0 k0 c0 j0 d0 n1 m1 A1 B1 k1 c1 j1 d1 n2 m2 A2 B2 k2 c2 j2 d2 n3 m3 A3 B3 k3 c3 j3 d3 n4 m4 A4 B4 k4 c4 j4 d4 n5 m5 A5 B5 k5 c5 j5 d5 L0 M0 L1 M1 L2 M2 L3 M3 L4 M4 L5 M5 _ _ _ _ _ _ W (h0.below hb) (g0.below hb) s0 rfl (h1.below hb) (g1.below hb) s1 rfl (h2.below hb) (g2.below hb) s2 rfl (h3.below hb) (g3.below hb) s3 rfl (h4.below hb) (g4.below hb) s4 rfl (h5.below hb) (g5.below hb) s5 rfl _ _ _ _ rfl rfl rfl rfl _ _ rfl rfl, fun W hb => ?_⟩
  have h := rholds_any n0 m0 A0 B0 k0 c0 j0 d0 n1 m1 A1 B1 k1 c1 j1 d1 n2 m2 A2 B2 k2 c2 j2 d2 n3 m3 A3 B3 k3 c3 j3 d3 n4 m4 A4 B4 k4 c4 j4 d4 n5 m5 A5 B5 k5 c5 j5 d5 L0 M0 L1 M1 L2 M2 L3 M3 L4 M4 L5 M5 _ _ _ _ _ _ W (h0.below hb) (g0.below hb) s0 rfl (h1.below hb) (g1.below hb) s1 rfl (h2.below hb) (g2.below hb) s2 rfl (h3.below hb) (g3.below hb) s3 rfl (h4.below hb) (g4.below hb) s4 rfl (h5.below hb) (g5.below hb) s5 rfl _ _ _ _ rfl rfl rfl rfl _ _ _ rfl rfl rfl
  refine h.mono ?_
  rintro e w' ⟨rfl, hw⟩
  refine ⟨?_, hw⟩
  simp only [accE_all, accB_all]
  generalize ((okF n0 L0 m0 M0 && okF n4 L4 m4 M4) && (okF n4 L4 m4 M4 && okF n1 L1 m1 M1)) = P
  generalize ((okF n2 L2 m2 M2 && okF n5 L5 m5 M5) && (okF n5 L5 m5 M5 && okF n3 L3 m3 M3)) = Q
  cases P <;> cases Q <;> rfl

/-- Both 'Bound' answer alike. -/
theorem both_bounds (W H : Int) (n m : Nat) (ps l : List Int) (off : Int) (h9 : n ≤ 1000000000) (h8 : m ≤ 40) (iW : I64 W) (iH : I64 H) :
    ∃ (E : Int) (a b c' d' : Int × Int), (∀ (A : Option Addr) (c : Nat) (B : Option Addr) (d : Nat) (w : World), LimI w A n c ps → LimI w B m d l → Calls Tryz.prog 14 #[.agg #[.int .i64 W, .int .i64 H, .slice A n c], .slice B m d, .int .i64 off] w (BoxP w E a b c' d')) ∧
      (∀ (A : Option Addr) (c : Nat) (B : Option Addr) (d : Nat) (w : World), LimI w A n c ps → LimI w B m d l → Calls Tryz.prog 15 #[.agg #[.int .i64 W, .int .i64 H, .slice A n c], .slice B m d, .int .i64 off] w (BoxP w E a b c' d')) := by
  by_cases hE : boundE W H n ps l off = 0
  · exact ⟨0, _, _, _, _, fun A c B d w hp hl => (bound_any W H A n c B m d ps l off w hp hl h9 h8 iW iH 0 hE).mono fun e w' h => h.2 rfl, fun A c B d w hp hl => (rbound_any W H A n c B m d ps l off w hp hl h9 h8 iW iH 0 hE).mono fun e w' h => h.2 rfl⟩
  · exact ⟨boundE W H n ps l off, (0, 0), (0, 0), (0, 0), (0, 0), fun A c B d w hp hl => (bound_any W H A n c B m d ps l off w hp hl h9 h8 iW iH _ rfl).mono fun e w' h => h.1 hE, fun A c B d w hp hl => (rbound_any W H A n c B m d ps l off w hp hl h9 h8 iW iH _ rfl).mono fun e w' h => h.1 hE⟩

set_option maxRecDepth 100000 in
set_option maxHeartbeats 1000000 in
theorem small_any (na nb : Bool) (A B : Option Addr) (n c m d : Nat) (la lb : List Nat) (w : World) (ha : Lim w A n c la) (hb : Lim w B m d lb) (b : Bool) (hbb : (decide ((n : Int) ≤ 6) && decide ((m : Int) ≤ 6)) = b) :
    Calls Tryz.prog 13 #[.agg #[.bool na, .slice A n c, .bool nb, .slice B m d]] w fun e w' => e = .returned (.bool b) ∧ Below w.heap.size w w' := by
  have h1 := ha.2.1
  have h2 := ha.2.2.1
  have h3 := hb.2.1
  have h4 := hb.2.2.1
  unfold maxLen at h2 h4
  obtain ⟨W0, hW0, hB0, q0, s0⟩ := alloc1 w 32 #[.bool na, .slice A n c, .bool nb, .slice B m d]
  obtain ⟨a0, a1, a2, a3, -⟩ := q0.four
  by_cases t1 : (n : Int) ≤ 6
  · have d1 : decide ((n : Int) ≤ 6) = true := by simpa using t1
    rw [d1] at hbb
    by_cases t2 : (m : Int) ≤ 6
    · have d2 : decide ((m : Int) ≤ 6) = true := by simpa using t2
      rw [d2] at hbb
      obtain rfl : b = true := by rw [← hbb]; rfl
      go_enter Tryz.func13, Tryz.ntmps13
      go_wp2_with fail
      go_ret
      exact ⟨rfl, hB0⟩
    · have d2 : decide ((m : Int) ≤ 6) = false := by simpa using t2
      rw [d2] at hbb
      obtain rfl : b = false := by rw [← hbb]; rfl
      go_enter Tryz.func13, Tryz.ntmps13
      go_wp2_with fail
      go_ret
      exact ⟨rfl, hB0⟩
  · have d1 : decide ((n : Int) ≤ 6) = false := by simpa using t1
    rw [d1] at hbb
    obtain rfl : b = false := by rw [← hbb]; rfl
    go_enter Tryz.func13, Tryz.ntmps13
    go_wp2_with fail
    go_ret
    exact ⟨rfl, hB0⟩

theorem BoxF.below {w w' : World} {cs : Array Value} {a b c d : Int × Int} (h : BoxF w cs a b c d) (hb : Below w.heap.size w w') : BoxF w' cs a b c d := by
  obtain ⟨pn0, pA0, pk0, pc0, pm0, pB0, pj0, pd0, pn1, pA1, pk1, pc1, pm1, pB1, pj1, pd1, pn2, pA2, pk2, pc2, pm2, pB2, pj2, pd2, pn3, pA3, pk3, pc3, pm3, pB3, pj3, pd3, rfl, hp0, hp1, hp2, hp3⟩ := h
  exact ⟨_, _, _, _, _, _, _, _, _, _, _, _, _, _, _, _, _, _, _, _, _, _, _, _, _, _, _, _, _, _, _, _, rfl, hp0.below hb, hp1.below hb, hp2.below hb, hp3.below hb⟩

set_option maxRecDepth 100000 in
set_option maxHeartbeats 8000000 in
theorem law_bounds (W H : Int) (A : Option Addr) (n c : Nat) (B : Option Addr) (m d : Nat) (ps l : List Int) (off : Int) (n0 m0 : Bool) (A0 B0 : Option Addr) (k0 c0 j0 d0 : Nat) (n1 m1 : Bool) (A1 B1 : Option Addr) (k1 c1 j1 d1 : Nat) (n2 m2 : Bool) (A2 B2 : Option Addr) (k2 c2 j2 d2 : Nat) (n3 m3 : Bool) (A3 B3 : Option Addr) (k3 c3 j3 d3 : Nat) (n4 m4 : Bool) (A4 B4 : Option Addr) (k4 c4 j4 d4 : Nat) (n5 m5 : Bool) (A5 B5 : Option Addr) (k5 c5 j5 d5 : Nat) (L0 M0 L1 M1 L2 M2 L3 M3 L4 M4 L5 M5 : List Nat) (w : World) (hp : LimI w A n c ps) (hl : LimI w B m d l) (iW : I64 W) (iH : I64 H) (h0 : Lim w A0 k0 c0 L0) (g0 : Lim w B0 j0 d0 M0) (h1 : Lim w A1 k1 c1 L1) (g1 : Lim w B1 j1 d1 M1) (h2 : Lim w A2 k2 c2 L2) (g2 : Lim w B2 j2 d2 M2) (h3 : Lim w A3 k3 c3 L3) (g3 : Lim w B3 j3 d3 M3) (h4 : Lim w A4 k4 c4 L4) (g4 : Lim w B4 j4 d4 M4) (h5 : Lim w A5 k5 c5 L5) (g5 : Lim w B5 j5 d5 M5) :
    Calls Tryz.prog 4 #[.agg #[.int .i64 W, .int .i64 H, .slice A n c], .slice B m d, .int .i64 off, .agg #[.bool n0, .slice A0 k0 c0, .bool m0, .slice B0 j0 d0, .bool n1, .slice A1 k1 c1, .bool m1, .slice B1 j1 d1, .bool n2, .slice A2 k2 c2, .bool m2, .slice B2 j2 d2, .bool n3, .slice A3 k3 c3, .bool m3, .slice B3 j3 d3], .agg #[.bool n4, .slice A4 k4 c4, .bool m4, .slice B4 j4 d4], .agg #[.bool n5, .slice A5 k5 c5, .bool m5, .slice B5 j5 d5]] w fun e w' => e = .returned (.bool true) ∧ Below w.heap.size w w' := by
  obtain ⟨W0, hW0, hB, ⟨q0, qb, qx, qy⟩, s0⟩ := alloc4 w 24 #[.int .i64 W, .int .i64 H, .slice A n c] 43 #[.bool n0, .slice A0 k0 c0, .bool m0, .slice B0 j0 d0, .bool n1, .slice A1 k1 c1, .bool m1, .slice B1 j1 d1, .bool n2, .slice A2 k2 c2, .bool m2, .slice B2 j2 d2, .bool n3, .slice A3 k3 c3, .bool m3, .slice B3 j3 d3] 32 #[.bool n4, .slice A4 k4 c4, .bool m4, .slice B4 j4 d4] 32 #[.bool n5, .slice A5 k5 c5, .bool m5, .slice B5 j5 d5]
  have c0 := q0.cell 0
  have c1 := q0.cell 1
  have c2 := q0.cell 2
  simp at c0 c1 c2
  replace hp := hide hp
  replace hl := hide hl
  replace h0 := hide h0
  replace g0 := hide g0
  replace h1 := hide h1
  replace g1 := hide g1
  replace h2 := hide h2
  replace g2 := hide g2
  replace h3 := hide h3
  replace g3 := hide g3
  replace h4 := hide h4
  replace g4 := hide g4
  replace h5 := hide h5
  replace g5 := hide g5
  go_enter Tryz.func4, Tryz.ntmps4
  go_wp2_with fail
  obtain ⟨b, hb⟩ : ∃ b, (decide (100 < (n : Int)) || decide (40 < (m : Int))) = b := ⟨_, rfl⟩
  refine (greatL_ok W H A n c B m d W0 b hb).mono ?_
  rintro e w1 ⟨rfl, hbw⟩
  replace hB := hB.trans (hbw.mono hB.size)
  replace q0 := keep_blk hbw q0
  replace qb := keep_blk hbw qb
  replace qx := keep_blk hbw qx
  replace qy := keep_blk hbw qy
  clear c0 c1 c2 hW0 hbw
  cases b
  case true =>
    go_wp2_with fail
    go_ret
    exact ⟨rfl, hB⟩
  simp at hb
  obtain ⟨h9, h8⟩ : n ≤ 100 ∧ m ≤ 40 := by omega
  clear hb
  have b0 := qb.cell 0
  have b1 := qb.cell 1
  have b2 := qb.cell 2
  have b3 := qb.cell 3
  simp at b0 b1 b2 b3
  go_wp2_with fail
  obtain ⟨b, hb⟩ : ∃ b, (decide ((k0 : Int) ≤ 6) && decide ((j0 : Int) ≤ 6)) = b := ⟨_, rfl⟩
  refine (small_any n0 m0 A0 B0 k0 c0 j0 d0 L0 M0 w1 (h0.out.below hB) (g0.out.below hB) b hb).mono ?_
  rintro e w2 ⟨rfl, hbw⟩
  replace hB := hB.trans (hbw.mono hB.size)
  replace q0 := keep_blk hbw q0
  replace qb := keep_blk hbw qb
  replace qx := keep_blk hbw qx
  replace qy := keep_blk hbw qy
  clear b0 b1 b2 b3 hbw
  cases b
  case false =>
    go_wp2_with fail
    go_ret
    exact ⟨rfl, hB⟩
  have s0 : k0 ≤ 6 ∧ j0 ≤ 6 := by simp at hb; omega
  clear hb
  have b0 := qb.cell 4
  have b1 := qb.cell 5
  have b2 := qb.cell 6
  have b3 := qb.cell 7
  simp at b0 b1 b2 b3
  go_wp2_with fail
  obtain ⟨b, hb⟩ : ∃ b, (decide ((k1 : Int) ≤ 6) && decide ((j1 : Int) ≤ 6)) = b := ⟨_, rfl⟩
  refine (small_any n1 m1 A1 B1 k1 c1 j1 d1 L1 M1 w2 (h1.out.below hB) (g1.out.below hB) b hb).mono ?_
  rintro e w3 ⟨rfl, hbw⟩
  replace hB := hB.trans (hbw.mono hB.size)
  replace q0 := keep_blk hbw q0
  replace qb := keep_blk hbw qb
  replace qx := keep_blk hbw qx
  replace qy := keep_blk hbw qy
  clear b0 b1 b2 b3 hbw
  cases b
  case false =>
    go_wp2_with fail
    go_ret
    exact ⟨rfl, hB⟩
  have s1 : k1 ≤ 6 ∧ j1 ≤ 6 := by simp at hb; omega
  clear hb
  have b0 := qb.cell 8
  have b1 := qb.cell 9
  have b2 := qb.cell 10
  have b3 := qb.cell 11
  simp at b0 b1 b2 b3
  go_wp2_with fail
  obtain ⟨b, hb⟩ : ∃ b, (decide ((k2 : Int) ≤ 6) && decide ((j2 : Int) ≤ 6)) = b := ⟨_, rfl⟩
  refine (small_any n2 m2 A2 B2 k2 c2 j2 d2 L2 M2 w3 (h2.out.below hB) (g2.out.below hB) b hb).mono ?_
  rintro e w4 ⟨rfl, hbw⟩
  replace hB := hB.trans (hbw.mono hB.size)
  replace q0 := keep_blk hbw q0
  replace qb := keep_blk hbw qb
  replace qx := keep_blk hbw qx
  replace qy := keep_blk hbw qy
  clear b0 b1 b2 b3 hbw
  cases b
  case false =>
    go_wp2_with fail
    go_ret
    exact ⟨rfl, hB⟩
  have s2 : k2 ≤ 6 ∧ j2 ≤ 6 := by simp at hb; omega
  clear hb
  have b0 := qb.cell 12
  have b1 := qb.cell 13
  have b2 := qb.cell 14
  have b3 := qb.cell 15
  simp at b0 b1 b2 b3
  go_wp2_with fail
  obtain ⟨b, hb⟩ : ∃ b, (decide ((k3 : Int) ≤ 6) && decide ((j3 : Int) ≤ 6)) = b := ⟨_, rfl⟩
  refine (small_any n3 m3 A3 B3 k3 c3 j3 d3 L3 M3 w4 (h3.out.below hB) (g3.out.below hB) b hb).mono ?_
  rintro e w5 ⟨rfl, hbw⟩
  replace hB := hB.trans (hbw.mono hB.size)
  replace q0 := keep_blk hbw q0
  replace qb := keep_blk hbw qb
  replace qx := keep_blk hbw qx
  replace qy := keep_blk hbw qy
  clear b0 b1 b2 b3 hbw
  cases b
  case false =>
    go_wp2_with fail
    go_ret
    exact ⟨rfl, hB⟩
  have s3 : k3 ≤ 6 ∧ j3 ≤ 6 := by simp at hb; omega
  clear hb
  obtain ⟨b0, b1, b2, b3, -⟩ := qx.four
  go_wp2_with fail
  obtain ⟨b, hb⟩ : ∃ b, (decide ((k4 : Int) ≤ 6) && decide ((j4 : Int) ≤ 6)) = b := ⟨_, rfl⟩
  refine (small_any n4 m4 A4 B4 k4 c4 j4 d4 L4 M4 w5 (h4.out.below hB) (g4.out.below hB) b hb).mono ?_
  rintro e w6 ⟨rfl, hbw⟩
  replace hB := hB.trans (hbw.mono hB.size)
  replace q0 := keep_blk hbw q0
  replace qb := keep_blk hbw qb
  replace qx := keep_blk hbw qx
  replace qy := keep_blk hbw qy
  clear b0 b1 b2 b3 hbw
  cases b
  case false =>
    go_wp2_with fail
    go_ret
    exact ⟨rfl, hB⟩
  have s4 : k4 ≤ 6 ∧ j4 ≤ 6 := by simp at hb; omega
  clear hb
  obtain ⟨b0, b1, b2, b3, -⟩ := qy.four
  go_wp2_with fail
  obtain ⟨b, hb⟩ : ∃ b, (decide ((k5 : Int) ≤ 6) && decide ((j5 : Int) ≤ 6)) = b := ⟨_, rfl⟩
  refine (small_any n5 m5 A5 B5 k5 c5 j5 d5 L5 M5 w6 (h5.out.below hB) (g5.out.below hB) b hb).mono ?_
  rintro e w7 ⟨rfl, hbw⟩
  replace hB := hB.trans (hbw.mono hB.size)
  replace q0 := keep_blk hbw q0
  replace qb := keep_blk hbw qb
  replace qx := keep_blk hbw qx
  replace qy := keep_blk hbw qy
  clear b0 b1 b2 b3 hbw
  cases b
  case false =>
    go_wp2_with fail
    go_ret
    exact ⟨rfl, hB⟩
  have s5 : k5 ≤ 6 ∧ j5 ≤ 6 := by simp at hb; omega
  clear hb
  obtain ⟨R, C, hHa, hHb⟩ := both_holds n0 m0 A0 B0 k0 c0 j0 d0 n1 m1 A1 B1 k1 c1 j1 d1 n2 m2 A2 B2 k2 c2 j2 d2 n3 m3 A3 B3 k3 c3 j3 d3 n4 m4 A4 B4 k4 c4 j4 d4 n5 m5 A5 B5 k5 c5 j5 d5 L0 M0 L1 M1 L2 M2 L3 M3 L4 M4 L5 M5 w h0.out g0.out h1.out g1.out h2.out g2.out h3.out g3.out h4.out g4.out h5.out g5.out s0 s1 s2 s3 s4 s5
  obtain ⟨E, ea, eb, ec, ed, hMa, hMb⟩ := both_bounds W H n m ps l off (by omega) h8 iW iH
  replace hHa := hide hHa
  replace hHb := hide hHb
  replace hMa := hide hMa
  replace hMb := hide hMb
  clear h0 g0 s0 h1 g1 s1 h2 g2 s2 h3 g3 s3 h4 g4 s4 h5 g5 s5
  have c0 := q0.cell 0
  have c1 := q0.cell 1
  have c2 := q0.cell 2
  simp at c0 c1 c2
  generalize w7 = wz at *
  go_wp2_with fail
  refine (hMa.out A c B d wz (hp.out.below hB) (hl.out.below hB)).mono ?_
  rintro e x1 ⟨hb3, csA, rfl, hFa⟩
  clear c0 c1 c2
  replace hB := hB.trans (hb3.mono hB.size)
  replace q0 := keep_blk hb3 q0
  replace qb := keep_blk hb3 qb
  replace qx := keep_blk hb3 qx
  replace qy := keep_blk hb3 qy
  obtain ⟨pn0, pA0, pk0, pc0, pm0, pB0, pj0, pd0, pn1, pA1, pk1, pc1, pm1, pB1, pj1, pd1, pn2, pA2, pk2, pc2, pm2, pB2, pj2, pd2, pn3, pA3, pk3, pc3, pm3, pB3, pj3, pd3, rfl, hp0, hp1, hp2, hp3⟩ := hFa
  have hFa : BoxF x1 #[.bool pn0, .slice pA0 pk0 pc0, .bool pm0, .slice pB0 pj0 pd0, .bool pn1, .slice pA1 pk1 pc1, .bool pm1, .slice pB1 pj1 pd1, .bool pn2, .slice pA2 pk2 pc2, .bool pm2, .slice pB2 pj2 pd2, .bool pn3, .slice pA3 pk3 pc3, .bool pm3, .slice pB3 pj3 pd3] ea eb ec ed := ⟨_, _, _, _, _, _, _, _, _, _, _, _, _, _, _, _, _, _, _, _, _, _, _, _, _, _, _, _, _, _, _, _, rfl, hp0, hp1, hp2, hp3⟩
  clear hp0 hp1 hp2 hp3
  replace hFa := hide hFa
  obtain ⟨V3, hV3, hB3, q6, hk3, hk3', sV3⟩ := new_obj 43 #[.bool false, .slice none 0 0, .bool false, .slice none 0 0, .bool false, .slice none 0 0, .bool false, .slice none 0 0, .bool false, .slice none 0 0, .bool false, .slice none 0 0, .bool false, .slice none 0 0, .bool false, .slice none 0 0] (Below.refl x1.heap.size x1) (Nat.le_refl _)
  obtain ⟨V4, hV4, hB4, q6b, hst⟩ := set_all [.bool pn0, .slice pA0 pk0 pc0, .bool pm0, .slice pB0 pj0 pd0, .bool pn1, .slice pA1 pk1 pc1, .bool pm1, .slice pB1 pj1 pd1, .bool pn2, .slice pA2 pk2 pc2, .bool pm2, .slice pB2 pj2 pd2, .bool pn3, .slice pA3 pk3 pc3, .bool pm3, .slice pB3 pj3 pd3] [.bool false, .slice none 0 0, .bool false, .slice none 0 0, .bool false, .slice none 0 0, .bool false, .slice none 0 0, .bool false, .slice none 0 0, .bool false, .slice none 0 0, .bool false, .slice none 0 0, .bool false, .slice none 0 0] rfl rfl rfl hB3 (Nat.le_refl _) q6
  replace q0 := keep_blk hB4 q0
  replace qb := keep_blk hB4 qb
  replace qx := keep_blk hB4 qx
  replace qy := keep_blk hB4 qy
  replace hFa := hide (hFa.out.below hB4)
  replace hB := hB.trans (hB4.mono hB.size)
  have c0 := q0.cell 0
  have c1 := q0.cell 1
  have c2 := q0.cell 2
  simp at c0 c1 c2
  go_wp2_with (refine wpList_store_mid rfl 43 _ _ rfl x1.heap.size 0 #[.bool pn0, .slice pA0 pk0 pc0, .bool pm0, .slice pB0 pj0 pd0, .bool pn1, .slice pA1 pk1 pc1, .bool pm1, .slice pB1 pj1 pd1, .bool pn2, .slice pA2 pk2 pc2, .bool pm2, .slice pB2 pj2 pd2, .bool pn3, .slice pA3 pk3 pc3, .bool pm3, .slice pB3 pj3 pd3] rfl rfl (q6.there (by simp)) info_box (by simp [Value.oneCell']) ?_; rw [hV4])
  refine (hMb.out A c B d V4 (hp.out.below hB) (hl.out.below hB)).mono ?_
  rintro e x2 ⟨hb4, csB, rfl, hFb⟩
  clear hV3 hV4 q6 hst hB3 hB4 hk3 hk3' c0 c1 c2
  generalize x1.heap.size = g6 at *
  replace hB := hB.trans (hb4.mono hB.size)
  replace q0 := keep_blk hb4 q0
  replace qb := keep_blk hb4 qb
  replace qx := keep_blk hb4 qx
  replace qy := keep_blk hb4 qy
  replace q6b := keep_blk hb4 q6b
  replace hFa := hide (hFa.out.below hb4)
  obtain ⟨qn0, qA0, qk0, qc0, qm0, qB0, qj0, qd0, qn1, qA1, qk1, qc1, qm1, qB1, qj1, qd1, qn2, qA2, qk2, qc2, qm2, qB2, qj2, qd2, qn3, qA3, qk3, qc3, qm3, qB3, qj3, qd3, rfl, hq0, hq1, hq2, hq3⟩ := hFb
  have hFb : BoxF x2 #[.bool qn0, .slice qA0 qk0 qc0, .bool qm0, .slice qB0 qj0 qd0, .bool qn1, .slice qA1 qk1 qc1, .bool qm1, .slice qB1 qj1 qd1, .bool qn2, .slice qA2 qk2 qc2, .bool qm2, .slice qB2 qj2 qd2, .bool qn3, .slice qA3 qk3 qc3, .bool qm3, .slice qB3 qj3 qd3] ea eb ec ed := ⟨_, _, _, _, _, _, _, _, _, _, _, _, _, _, _, _, _, _, _, _, _, _, _, _, _, _, _, _, _, _, _, _, rfl, hq0, hq1, hq2, hq3⟩
  clear hq0 hq1 hq2 hq3
  replace hFb := hide hFb
  obtain ⟨V5, hV5, hB5, q8, hk5, hk5', sV5⟩ := new_obj 43 #[.bool false, .slice none 0 0, .bool false, .slice none 0 0, .bool false, .slice none 0 0, .bool false, .slice none 0 0, .bool false, .slice none 0 0, .bool false, .slice none 0 0, .bool false, .slice none 0 0, .bool false, .slice none 0 0] (Below.refl x2.heap.size x2) (Nat.le_refl _)
  obtain ⟨V6, hV6, hB6, q8b, hst⟩ := set_all [.bool qn0, .slice qA0 qk0 qc0, .bool qm0, .slice qB0 qj0 qd0, .bool qn1, .slice qA1 qk1 qc1, .bool qm1, .slice qB1 qj1 qd1, .bool qn2, .slice qA2 qk2 qc2, .bool qm2, .slice qB2 qj2 qd2, .bool qn3, .slice qA3 qk3 qc3, .bool qm3, .slice qB3 qj3 qd3] [.bool false, .slice none 0 0, .bool false, .slice none 0 0, .bool false, .slice none 0 0, .bool false, .slice none 0 0, .bool false, .slice none 0 0, .bool false, .slice none 0 0, .bool false, .slice none 0 0, .bool false, .slice none 0 0] rfl rfl rfl hB5 (Nat.le_refl _) q8
  replace q0 := keep_blk hB6 q0
  replace qb := keep_blk hB6 qb
  replace qx := keep_blk hB6 qx
  replace qy := keep_blk hB6 qy
  replace q6b := keep_blk hB6 q6b
  replace hFa := hide (hFa.out.below hB6)
  replace hFb := hide (hFb.out.below hB6)
  replace hB := hB.trans (hB6.mono hB.size)
  obtain ⟨dd, hd1, hd2⟩ := und_box
  obtain ⟨e0, e1, e2, e3, -⟩ := qx.four
  obtain ⟨f0, f1, f2, f3, -⟩ := qy.four
  go_wp2_with (first | (refine wpList_store_mid rfl 43 _ _ rfl x2.heap.size 0 #[.bool qn0, .slice qA0 qk0 qc0, .bool qm0, .slice qB0 qj0 qd0, .bool qn1, .slice qA1 qk1 qc1, .bool qm1, .slice qB1 qj1 qd1, .bool qn2, .slice qA2 qk2 qc2, .bool qm2, .slice qB2 qj2 qd2, .bool qn3, .slice qA3 qk3 qc3, .bool qm3, .slice qB3 qj3 qd3] rfl rfl (q8.there (by simp)) info_box (by simp [Value.oneCell']) ?_; rw [hV6]) | (refine wpList_load_mid rfl 43 _ rfl (w.heap.size + 1) 0 rfl [.bool n0, .slice A0 k0 c0, .bool m0, .slice B0 j0 d0, .bool n1, .slice A1 k1 c1, .bool m1, .slice B1 j1 d1, .bool n2, .slice A2 k2 c2, .bool m2, .slice B2 j2 d2, .bool n3, .slice A3 k3 c3, .bool m3, .slice B3 j3 d3] dd (qb.rangeAt [] (rest := []) rfl) hd1 hd2 info_box ?_))
  refine (hHa.out V6 hB).mono ?_
  rintro e x3 ⟨rfl, hb5⟩
  clear hV5 hV6 q8 hst hB5 hB6 hk5 hk5' e0 e1 e2 e3 f0 f1 f2 f3
  generalize x2.heap.size = g8 at *
  replace hB := hB.trans (hb5.mono hB.size)
  replace q0 := keep_blk hb5 q0
  replace qb := keep_blk hb5 qb
  replace qx := keep_blk hb5 qx
  replace qy := keep_blk hb5 qy
  replace q6b := keep_blk hb5 q6b
  replace q8b := keep_blk hb5 q8b
  replace hFa := hide (hFa.out.below hb5)
  replace hFb := hide (hFb.out.below hb5)
  obtain ⟨e0, e1, e2, e3, -⟩ := qx.four
  obtain ⟨f0, f1, f2, f3, -⟩ := qy.four
  go_wp2_with (refine wpList_load_mid rfl 43 _ rfl (w.heap.size + 1) 0 rfl [.bool n0, .slice A0 k0 c0, .bool m0, .slice B0 j0 d0, .bool n1, .slice A1 k1 c1, .bool m1, .slice B1 j1 d1, .bool n2, .slice A2 k2 c2, .bool m2, .slice B2 j2 d2, .bool n3, .slice A3 k3 c3, .bool m3, .slice B3 j3 d3] dd (qb.rangeAt [] (rest := []) rfl) hd1 hd2 info_box ?_)
  refine (hHb.out x3 hB).mono ?_
  rintro e x4 ⟨rfl, hb6⟩
  clear e0 e1 e2 e3 f0 f1 f2 f3
  replace hB := hB.trans (hb6.mono hB.size)
  replace q6b := keep_blk hb6 q6b
  replace q8b := keep_blk hb6 q8b
  replace hFa := hide (hFa.out.below hb6)
  replace hFb := hide (hFb.out.below hb6)
  go_wp2_with (first | (refine wpList_load_mid rfl 43 _ rfl g6 0 rfl [.bool pn0, .slice pA0 pk0 pc0, .bool pm0, .slice pB0 pj0 pd0, .bool pn1, .slice pA1 pk1 pc1, .bool pm1, .slice pB1 pj1 pd1, .bool pn2, .slice pA2 pk2 pc2, .bool pm2, .slice pB2 pj2 pd2, .bool pn3, .slice pA3 pk3 pc3, .bool pm3, .slice pB3 pj3 pd3] dd (q6b.rangeAt [] (rest := []) rfl) hd1 hd2 info_box ?_) | (refine wpList_load_mid rfl 43 _ rfl g8 0 rfl [.bool qn0, .slice qA0 qk0 qc0, .bool qm0, .slice qB0 qj0 qd0, .bool qn1, .slice qA1 qk1 qc1, .bool qm1, .slice qB1 qj1 qd1, .bool qn2, .slice qA2 qk2 qc2, .bool qm2, .slice qB2 qj2 qd2, .bool qn3, .slice qA3 qk3 qc3, .bool qm3, .slice qB3 qj3 qd3] dd (q8b.rangeAt [] (rest := []) rfl) hd1 hd2 info_box ?_))
  refine (rsameB_true _ _ ea eb ec ed x4 hFa.out hFb.out).mono ?_
  rintro e x5 ⟨rfl, hb7⟩
  replace hB := hB.trans (hb7.mono hB.size)
  have tE : (E == E) = true := by simp
  have tC : (C == C) = true := by simp
  have tR : (R == R) = true := by simp
  go_wp2_with fail
  go_ret
  exact ⟨rfl, hB⟩
end Go.Proofs.YtkippclhbkjbmaaGreat

namespace Go.Proofs.YtkippclhbkjbmaaGreat
open Go.ChangeShapes Go.WideShapes Go.Deep Go.RowKit

section
variable {H : Type} {enc : TypeId × Value → H} {P : Program}
theorem post_of_below {f : Func} {s : ChangeSpec} {apart fresh handsOn again : Bool} {W W' : World} {args : Array Value} {v : Value} {ds gs : List (DataW H)} {before pa pv : List MemPlace}
    (hW : DataW.Whole enc P f.params.toList s.vars apart W args.toList ds gs before)
    (hres : ∀ (b : Nat) (sp : Nat → Bool) (hd : Bool), DataW.TrodAll enc P W' b sp hd f.resultTypes.toList (v.resultList f.resultTypes.size) (s.fn H (ds ++ gs)).results [])
    (hargs : ∀ sp : Nat → Bool, (∀ p ∈ before, sp p.block = true) → DataW.TrodAll enc P W' 0 sp true f.params.toList args.toList (s.fn H (ds ++ gs)).args pa)
    (hvars : ∀ sp : Nat → Bool, (∀ p ∈ before, sp p.block = true) → DataW.TrodVars enc P W' sp s.vars (s.fn H (ds ++ gs)).vars pv)
    (hps : before = pa ++ pv) (hb : Below W.heap.size W W')
    (hok : ∀ (j : Nat) (t : TypeId) (r : Value), f.resultTypes[j]? = some t → (v.resultList f.resultTypes.size)[j]? = some r → Value.okWide P W' .any 0 t r) :
    s.post enc P f apart fresh handsOn again W args v W' := by
  have hlt : ∀ p ∈ before, p.block < W.heap.size := fun p hp => hW.lt p hp
  have hold : ∀ p ∈ before, (fun b => decide (b < W.heap.size)) p.block = true := fun p hp => by simpa using hlt p hp
  refine ⟨ds, gs, before, [], pa, pv, hW, hres _ _ _, hargs _ hold, hvars _ hold, World.keptBut_mono (fun p hp => ⟨hp, ?_⟩) (hb.frame (· ∈ before)), fun _ => ?_⟩
  · rw [hps, List.mem_append] at hp
    exact Or.inr hp
  · obtain ⟨_, _, _, _, _, hz, hn⟩ := hW
    refine ⟨hok, _, _, ([] ++ pa) ++ pv, ⟨[] ++ pa, pv, trodAll_append (hargs _ (fun _ _ => rfl)) (hres _ _ _), hvars _ (fun _ _ => rfl), rfl, ?_, ?_⟩, ?_⟩
    · intro b off hp
      have hin : MemPlace.cell b off ∈ before := by rw [hps]; simpa using hp
      rw [hb.frozen (hlt _ hin)]
      exact hz b off hin
    · intro ha
      have := hn ha
      rw [hps] at this
      simpa using this
    · intro p hp _
      rw [hps]
      simpa using hp
end

theorem plain_cell {w : World} {a : Addr} {v : Value} (h : w.cell? a = some v) : a = ⟨a.block, a.off, none⟩ := by
  obtain ⟨b, o, s⟩ := a
  cases s with
  | none => rfl
  | some s =>
    exfalso
    unfold World.cell? at h
    simp at h
    split at h <;> simp at h

theorem wf_i64 {z : Int} (h : (Lit.int .i64 z).wf = true) : I64 z := by
  simp only [Lit.wf, Bool.and_eq_true, decide_eq_true_eq] at h
  exact h

section
variable {H : Type} {enc : TypeId × Value → H} {w : World} {base : Nat} {spare : Nat → Bool} {held : Bool}
theorem open_i64 {t e : TypeId} {fuel : Nat} {cs : List Value} {x : DataW H × List MemPlace} (ht : Tryz.prog.underlying t = some (.slice e)) (he : Tryz.prog.underlying e = some (.int .i64)) (hc : Tryz.prog.cellsOf e = 1) (h : DataW.trod enc Tryz.prog w base spare held fuel t cs = some x) : ∃ (A : Option Addr) (n c : Nat) (l : List Int), cs = [.slice A n c] ∧ LimI w A n c l := by
  rcases open_ints ht he hc h with ⟨rfl, _⟩ | ⟨a, len, cap, zs, rfl, _, hl, hm, hz, _, hcell, hwf⟩
  · exact ⟨none, 0, 0, [], rfl, rfl, Nat.zero_le _, Nat.zero_le _, by simp, fun h => absurd h (by omega)⟩
  · have hlz : len ≤ zs.length := by rw [hz]; split <;> omega
    refine ⟨some a, len, cap, zs.take len, rfl, by simp; omega, hl, hm, fun v hv => wf_i64 (hwf v (List.mem_of_mem_take hv)), fun hn => ?_⟩
    have h0 := hcell 0 (by omega)
    have hp := plain_cell h0
    obtain ⟨b, o, s⟩ : ∃ b o, a = ⟨b, o, none⟩ := by
      obtain ⟨b, o, s⟩ := a
      refine ⟨b, o, ?_⟩
      unfold Addr.add at hp
      split at hp <;> simp_all
    subst s
    refine ⟨b, o, rfl, fun k hk => ?_⟩
    have hc := hcell k (by omega)
    rw [add_lit] at hc
    rw [hc]
    have hkz : k < zs.length := by omega
    rw [List.getElem?_take, if_pos hk, List.getD_eq_getElem?_getD]

set_option maxRecDepth 100000 in
theorem open_list {r : Reach} {b0 : Nat} {v : Value} {d : DataW H} {p : List MemPlace} (hv : Value.okWide Tryz.prog w r b0 25 v) (h : DataW.Trod enc Tryz.prog w base spare held 25 v d p) : ∃ (A : Option Addr) (n c : Nat) (l : List Int), v = .slice A n c ∧ LimI w A n c l := by
  obtain ⟨A, n, c, rfl⟩ := okWide_slice Tryz.underlying25 hv
  obtain ⟨fuel, hf⟩ := h
  obtain ⟨A', n', c', l, hcs, hL⟩ := open_i64 Tryz.underlying25 Tryz.underlying3 (by kernel_rfl) hf
  simp [Value.cells] at hcs
  obtain ⟨rfl, rfl, rfl⟩ := hcs
  exact ⟨A, n, c, l, rfl, hL⟩

set_option maxRecDepth 100000 in
theorem open_field {r : Reach} {b0 : Nat} {v : Value} {d : DataW H} {p : List MemPlace} (hv : Value.okWide Tryz.prog w r b0 24 v) (h : DataW.Trod enc Tryz.prog w base spare held 24 v d p) :
    ∃ (W Hh : Int) (A : Option Addr) (n c : Nat) (l : List Int), v = .agg #[.int .i64 W, .int .i64 Hh, .slice A n c] ∧ LimI w A n c l ∧ I64 W ∧ I64 Hh := by
  obtain ⟨cs, rfl, hsz⟩ := okWide_struct Tryz.underlying24 hv
  obtain ⟨fuel, hf⟩ := h
  obtain ⟨xs, n', _, _, hl, hxl, hfl⟩ := DataW.trod_struct Tryz.underlying24 hf
  have c3 : Tryz.prog.cellsOf 24 = 3 := by kernel_rfl
  have c1 : Tryz.prog.cellsOf 3 = 1 := by kernel_rfl
  have c2 : Tryz.prog.cellsOf 22 = 1 := by kernel_rfl
  rw [c3] at hsz
  obtain ⟨x, y, z, rfl⟩ : ∃ x y z, cs = #[x, y, z] := by
    obtain ⟨l⟩ := cs
    match l, hsz with
    | [x, y, z], _ => exact ⟨x, y, z, rfl⟩
  have f0 := hfl 0 _ rfl
  have f1 := hfl 1 _ rfl
  have f2 := hfl 2 _ rfl
  simp only [List.getElem_toArray, List.getElem_cons_zero, List.getElem_cons_succ] at f0 f1 f2
  rw [c1] at f0 f1
  rw [c2] at f2
  have g0 : xs[0]? = some (xs[0]'(by rw [hxl]; decide)) := List.getElem?_eq_getElem _
  have g1 : xs[1]? = some (xs[1]'(by rw [hxl]; decide)) := List.getElem?_eq_getElem _
  have g2 : xs[2]? = some (xs[2]'(by rw [hxl]; decide)) := List.getElem?_eq_getElem _
  rw [g0] at f0
  rw [g1] at f1
  rw [g2] at f2
  obtain ⟨W, e0, _, wf0⟩ := DataW.trod_int Tryz.underlying3 f0
  obtain ⟨Hh, e1, _, wf1⟩ := DataW.trod_int Tryz.underlying3 f1
  obtain ⟨A, n, c, l, e2, hL⟩ := open_i64 Tryz.underlying22 Tryz.underlying2 (by kernel_rfl) f2
  simp [Value.cells] at e0 e1 e2
  subst e0 e1 e2
  exact ⟨W, Hh, A, n, c, l, rfl, hL, wf_i64 wf0, wf_i64 wf1⟩
end
end Go.Proofs.YtkippclhbkjbmaaGreat

namespace Go.Proofs.YtkippclhbkjbmaaGreat
open Go.ChangeShapes Go.WideShapes Go.Deep Go.RowKit

theorem wf_u32' {z : Int} (h : (Lit.int .u32 z).wf = true) : 0 ≤ z ∧ z ≤ 4294967295 := by
  simp only [Lit.wf, Bool.and_eq_true, decide_eq_true_eq] at h
  exact h

section
variable {H : Type} {enc : TypeId × Value → H} {w : World} {base : Nat} {spare : Nat → Bool} {held : Bool}

theorem open_mag' {fuel : Nat} {cs : List Value} {x : DataW H × List MemPlace} (h : DataW.trod enc Tryz.prog w base spare held fuel 28 cs = some x) : ∃ (A : Option Addr) (n c : Nat) (l : List Nat), cs = [.slice A n c] ∧ Lim w A n c l := by
  rcases open_ints Tryz.underlying28 Tryz.underlying124 (by kernel_rfl) h with ⟨rfl, _⟩ | ⟨a, len, cap, zs, rfl, _, hl, hm, hz, _, hcell, hwf⟩
  · exact ⟨none, 0, 0, [], rfl, Lim.nil _ _ _ (Nat.zero_le _)⟩
  · have hlz : len ≤ zs.length := by rw [hz]; split <;> omega
    refine ⟨some a, len, cap, (zs.take len).map Int.toNat, rfl, by simp; omega, hl, hm, fun v hv => ?_, fun hn => ?_⟩
    · obtain ⟨z, hz1, rfl⟩ := List.mem_map.1 hv
      have := wf_u32' (hwf z (List.mem_of_mem_take hz1))
      omega
    · have h0 := hcell 0 (by omega)
      have hp := plain_cell h0
      obtain ⟨b, o, s⟩ : ∃ b o, a = ⟨b, o, none⟩ := by
        obtain ⟨b, o, s⟩ := a
        refine ⟨b, o, ?_⟩
        unfold Addr.add at hp
        split at hp <;> simp_all
      subst s
      refine ⟨b, o, rfl, fun k hk => ?_⟩
      have hc := hcell k (by omega)
      rw [add_lit] at hc
      rw [hc]
      have hkz : k < zs.length := by omega
      have hw := wf_u32' (hwf zs[k] (List.getElem_mem hkz))
      rw [List.getElem?_map, List.getElem?_take, if_pos hk, List.getElem?_eq_getElem hkz, List.getD_eq_getElem?_getD, List.getElem?_eq_getElem hkz]
      simp [limb]
      omega

set_option maxRecDepth 100000 in
theorem open_wideL {fuel : Nat} {cs : List Value} {x : DataW H × List MemPlace} (h : DataW.trod enc Tryz.prog w base spare held fuel 30 cs = some x) : ∃ (na : Bool) (A : Option Addr) (n c : Nat) (l : List Nat), cs = [.bool na, .slice A n c] ∧ Lim w A n c l := by
  obtain ⟨xs, n', _, _, hl, hxl, hfl⟩ := DataW.trod_struct Tryz.underlying30 h
  have c2 : Tryz.prog.cellsOf 30 = 2 := by kernel_rfl
  have c0 : Tryz.prog.cellsOf 4 = 1 := by kernel_rfl
  have c1 : Tryz.prog.cellsOf 28 = 1 := by kernel_rfl
  rw [c2] at hl
  obtain ⟨x, y, rfl⟩ : ∃ x y, cs = [x, y] := by
    match cs, hl with
    | [x, y], _ => exact ⟨x, y, rfl⟩
  have f0 := hfl 0 _ rfl
  have f1 := hfl 1 _ rfl
  simp only [List.getElem_toArray, List.getElem_cons_zero, List.getElem_cons_succ] at f0 f1
  rw [c0] at f0
  rw [c1] at f1
  have g0 : xs[0]? = some (xs[0]'(by rw [hxl]; decide)) := List.getElem?_eq_getElem _
  have g1 : xs[1]? = some (xs[1]'(by rw [hxl]; decide)) := List.getElem?_eq_getElem _
  rw [g0] at f0
  rw [g1] at f1
  obtain ⟨b, e0, _⟩ := DataW.trod_bool Tryz.underlying4 f0
  obtain ⟨A, n, c, l, e1, hL⟩ := open_mag' f1
  simp at e0 e1
  subst e0 e1
  exact ⟨b, A, n, c, l, rfl, hL⟩

set_option maxRecDepth 100000 in
theorem open_fracL {fuel : Nat} {cs : List Value} {x : DataW H × List MemPlace} (h : DataW.trod enc Tryz.prog w base spare held fuel 32 cs = some x) :
    ∃ (na nb : Bool) (A B : Option Addr) (n c m d : Nat) (la lb : List Nat), cs = [.bool na, .slice A n c, .bool nb, .slice B m d] ∧ Lim w A n c la ∧ Lim w B m d lb := by
  obtain ⟨xs, n', _, _, hl, hxl, hfl⟩ := DataW.trod_struct Tryz.underlying32 h
  have c4 : Tryz.prog.cellsOf 32 = 4 := by kernel_rfl
  have c2 : Tryz.prog.cellsOf 30 = 2 := by kernel_rfl
  rw [c4] at hl
  obtain ⟨x, y, z, u, rfl⟩ : ∃ x y z u, cs = [x, y, z, u] := by
    match cs, hl with
    | [x, y, z, u], _ => exact ⟨x, y, z, u, rfl⟩
  have f0 := hfl 0 _ rfl
  have f1 := hfl 1 _ rfl
  simp only [List.getElem_toArray, List.getElem_cons_zero, List.getElem_cons_succ] at f0 f1
  rw [c2] at f0 f1
  have g0 : xs[0]? = some (xs[0]'(by rw [hxl]; decide)) := List.getElem?_eq_getElem _
  have g1 : xs[1]? = some (xs[1]'(by rw [hxl]; decide)) := List.getElem?_eq_getElem _
  rw [g0] at f0
  rw [g1] at f1
  obtain ⟨na, A, n, c, la, e0, h0⟩ := open_wideL f0
  obtain ⟨nb, B, m, d, lb, e1, h1⟩ := open_wideL f1
  simp at e0 e1
  obtain ⟨rfl, rfl⟩ := e0
  obtain ⟨rfl, rfl⟩ := e1
  exact ⟨na, nb, A, B, n, c, m, d, la, lb, rfl, h0, h1⟩

set_option maxRecDepth 100000 in
theorem open_frac {r : Reach} {b0 : Nat} {v : Value} {d : DataW H} {p : List MemPlace} (hv : Value.okWide Tryz.prog w r b0 32 v) (h : DataW.Trod enc Tryz.prog w base spare held 32 v d p) :
    ∃ (na nb : Bool) (A B : Option Addr) (n c m d : Nat) (la lb : List Nat), v = .agg #[.bool na, .slice A n c, .bool nb, .slice B m d] ∧ Lim w A n c la ∧ Lim w B m d lb := by
  obtain ⟨cs, rfl, hsz⟩ := okWide_struct Tryz.underlying32 hv
  obtain ⟨fuel, hf⟩ := h
  obtain ⟨na, nb, A, B, n, c, m, d, la, lb, e, h1, h2⟩ := open_fracL hf
  refine ⟨na, nb, A, B, n, c, m, d, la, lb, ?_, h1, h2⟩
  congr 1
  apply Array.toList_inj.1
  exact e

set_option maxRecDepth 100000 in
theorem open_box {r : Reach} {b0 : Nat} {v : Value} {d : DataW H} {p : List MemPlace} (hv : Value.okWide Tryz.prog w r b0 43 v) (h : DataW.Trod enc Tryz.prog w base spare held 43 v d p) :
    ∃ (n0 m0 : Bool) (A0 B0 : Option Addr) (k0 c0 j0 d0 : Nat) (n1 m1 : Bool) (A1 B1 : Option Addr) (k1 c1 j1 d1 : Nat) (n2 m2 : Bool) (A2 B2 : Option Addr) (k2 c2 j2 d2 : Nat) (n3 m3 : Bool) (A3 B3 : Option Addr) (k3 c3 j3 d3 : Nat) (L0 M0 L1 M1 L2 M2 L3 M3 : List Nat), v = .agg #[.bool n0, .slice A0 k0 c0, .bool m0, .slice B0 j0 d0, .bool n1, .slice A1 k1 c1, .bool m1, .slice B1 j1 d1, .bool n2, .slice A2 k2 c2, .bool m2, .slice B2 j2 d2, .bool n3, .slice A3 k3 c3, .bool m3, .slice B3 j3 d3] ∧ Lim w A0 k0 c0 L0 ∧ Lim w B0 j0 d0 M0 ∧ Lim w A1 k1 c1 L1 ∧ Lim w B1 j1 d1 M1 ∧ Lim w A2 k2 c2 L2 ∧ Lim w B2 j2 d2 M2 ∧ Lim w A3 k3 c3 L3 ∧ Lim w B3 j3 d3 M3 := by
  obtain ⟨cs, rfl, hsz⟩ := okWide_struct Tryz.underlying43 hv
  obtain ⟨fuel, hf⟩ := h
  obtain ⟨xs, n', _, _, hl, hxl, hfl⟩ := DataW.trod_struct Tryz.underlying43 hf
  have c16 : Tryz.prog.cellsOf 43 = 16 := by kernel_rfl
  have c4 : Tryz.prog.cellsOf 32 = 4 := by kernel_rfl
  rw [c16] at hsz
  obtain ⟨y0, y1, y2, y3, y4, y5, y6, y7, y8, y9, y10, y11, y12, y13, y14, y15, rfl⟩ : ∃ y0 y1 y2 y3 y4 y5 y6 y7 y8 y9 y10 y11 y12 y13 y14 y15, cs = #[y0, y1, y2, y3, y4, y5, y6, y7, y8, y9, y10, y11, y12, y13, y14, y15] := by
    obtain ⟨l⟩ := cs
    match l, hsz with
    | [y0, y1, y2, y3, y4, y5, y6, y7, y8, y9, y10, y11, y12, y13, y14, y15], _ => exact ⟨y0, y1, y2, y3, y4, y5, y6, y7, y8, y9, y10, y11, y12, y13, y14, y15, rfl⟩
  have f0 := hfl 0 _ rfl
  have f1 := hfl 1 _ rfl
  have f2 := hfl 2 _ rfl
  have f3 := hfl 3 _ rfl
  simp only [List.getElem_toArray, List.getElem_cons_zero, List.getElem_cons_succ] at f0 f1 f2 f3
  rw [c4] at f0 f1 f2 f3
  have g0 : xs[0]? = some (xs[0]'(by rw [hxl]; decide)) := List.getElem?_eq_getElem _
  have g1 : xs[1]? = some (xs[1]'(by rw [hxl]; decide)) := List.getElem?_eq_getElem _
  have g2 : xs[2]? = some (xs[2]'(by rw [hxl]; decide)) := List.getElem?_eq_getElem _
  have g3 : xs[3]? = some (xs[3]'(by rw [hxl]; decide)) := List.getElem?_eq_getElem _
  rw [g0] at f0
  rw [g1] at f1
  rw [g2] at f2
  rw [g3] at f3
  obtain ⟨n0, m0, A0, B0, k0, c0, j0, d0, L0, M0, e0, u0, v0⟩ := open_fracL f0
  obtain ⟨n1, m1, A1, B1, k1, c1, j1, d1, L1, M1, e1, u1, v1⟩ := open_fracL f1
  obtain ⟨n2, m2, A2, B2, k2, c2, j2, d2, L2, M2, e2, u2, v2⟩ := open_fracL f2
  obtain ⟨n3, m3, A3, B3, k3, c3, j3, d3, L3, M3, e3, u3, v3⟩ := open_fracL f3
  simp [Value.cells] at e0 e1 e2 e3
  obtain ⟨rfl, rfl, rfl, rfl⟩ := e0
  obtain ⟨rfl, rfl, rfl, rfl⟩ := e1
  obtain ⟨rfl, rfl, rfl, rfl⟩ := e2
  obtain ⟨rfl, rfl, rfl, rfl⟩ := e3
  exact ⟨n0, m0, A0, B0, k0, c0, j0, d0, n1, m1, A1, B1, k1, c1, j1, d1, n2, m2, A2, B2, k2, c2, j2, d2, n3, m3, A3, B3, k3, c3, j3, d3, L0, M0, L1, M1, L2, M2, L3, M3, rfl, u0, v0, u1, v1, u2, v2, u3, v3⟩
end
end Go.Proofs.YtkippclhbkjbmaaGreat
