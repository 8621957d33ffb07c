/- Reference of centroid: between, Holds of raw fractions. -/
import Derived.Test.YtkippclhbkjbmaaGreatZb40
import Derived.Test.YtkippclhbkjbmaaGreatZb41
import Derived.Test.YtkippclhbkjbmaaGreatZb17
set_option linter.unusedSimpArgs false
set_option linter.unusedVariables false

namespace Go.Proofs.YtkippclhbkjbmaaGreat
open Go.RowKit
attribute [local go_sem] add_lit

set_option maxRecDepth 100000 in
set_option maxHeartbeats 4000000 in
theorem betweenR_any (n0 m0 : Bool) (A0 B0 : Option Addr) (k0 c0 j0 d0 : Nat) (n1 m1 : Bool) (A1 B1 : Option Addr) (k1 c1 j1 d1 : Nat) (n2 m2 : Bool) (A2 B2 : Option Addr) (k2 c2 j2 d2 : Nat) (L0 M0 L1 M1 L2 M2 : List Nat) (x0 x1 x2 : Bool) (w : World) (h0 : Lim w A0 k0 c0 L0) (g0 : Lim w B0 j0 d0 M0) (s0 : k0 ≤ 6 ∧ j0 ≤ 6) (t0 : okF n0 L0 m0 M0 = x0) (h1 : Lim w A1 k1 c1 L1) (g1 : Lim w B1 j1 d1 M1) (s1 : k1 ≤ 6 ∧ j1 ≤ 6) (t1 : okF n1 L1 m1 M1 = x1) (h2 : Lim w A2 k2 c2 L2) (g2 : Lim w B2 j2 d2 M2) (s2 : k2 ≤ 6 ∧ j2 ≤ 6) (t2 : okF n2 L2 m2 M2 = x2) (z1 z2 : Int) (hz1 : cmpR n0 n1 L0 M0 L1 M1 (x0 && x1) = z1) (hz2 : cmpR n1 n2 L1 M1 L2 M2 (x1 && x2) = z2) (r p : Bool) (hr : (decide (z1 ≤ 0) && decide (z2 ≤ 0)) = r) (hp : ((x0 && x1) && (x1 && x2)) = p) :
    Calls Tryz.prog 40 #[.agg #[.bool n0, .slice A0 k0 c0, .bool m0, .slice B0 j0 d0], .agg #[.bool n1, .slice A1 k1 c1, .bool m1, .slice B1 j1 d1], .agg #[.bool n2, .slice A2 k2 c2, .bool m2, .slice B2 j2 d2]] w fun e w' => e = .returned (.tuple #[.bool r, .bool p]) ∧ Below w.heap.size w w' := by
  obtain ⟨W0, hW0, hB, ⟨qa, qx, qb⟩, sz⟩ := alloc3 w 32 #[.bool n0, .slice A0 k0 c0, .bool m0, .slice B0 j0 d0] 32 #[.bool n1, .slice A1 k1 c1, .bool m1, .slice B1 j1 d1] 32 #[.bool n2, .slice A2 k2 c2, .bool m2, .slice B2 j2 d2]
  have hh := hide (And.intro (And.intro h0 g0) (And.intro (And.intro h1 g1) (And.intro h2 g2)))
  clear h0 g0 h1 g1 h2 g2
  obtain ⟨a0, a1, a2, a3, -⟩ := qa.four
  obtain ⟨b0, b1, b2, b3, -⟩ := qx.four
  obtain ⟨P, hP⟩ : ∃ P, (x0 && x1) = P := ⟨_, rfl⟩
  obtain ⟨Q, hQ⟩ : ∃ Q, (x1 && x2) = Q := ⟨_, rfl⟩
  rw [hP, hQ] at hp
  go_enter Tryz.func40, Tryz.ntmps40
  go_wp2_with fail
  refine (rfCmp_any n0 m0 n1 m1 A0 B0 A1 B1 k0 c0 j0 d0 k1 c1 j1 d1 L0 M0 L1 M1 W0 (hh.out.1.1.below hB) (hh.out.1.2.below hB) (hh.out.2.1.1.below hB) (hh.out.2.1.2.below hB) ⟨s0.1, s0.2, s1.1, s1.2⟩ x0 x1 t0 t1).mono ?_
  rw [hz1, hP]
  rintro e w1 ⟨rfl, hb1⟩
  replace hB := hB.trans (hb1.mono hB.size)
  replace qx := keep_blk hb1 qx
  replace qb := keep_blk hb1 qb
  clear a0 a1 a2 a3 b0 b1 b2 b3 hW0 qa
  obtain ⟨b0, b1, b2, b3, -⟩ := qx.four
  obtain ⟨a0, a1, a2, a3, -⟩ := qb.four
  go_wp2_with fail
  refine (rfCmp_any n1 m1 n2 m2 A1 B1 A2 B2 k1 c1 j1 d1 k2 c2 j2 d2 L1 M1 L2 M2 w1 (hh.out.2.1.1.below hB) (hh.out.2.1.2.below hB) (hh.out.2.2.1.below hB) (hh.out.2.2.2.below hB) ⟨s1.1, s1.2, s2.1, s2.2⟩ x1 x2 t1 t2).mono ?_
  rw [hz2, hQ]
  rintro e w2 ⟨rfl, hb2⟩
  replace hB := hB.trans (hb2.mono hB.size)
  clear hz1 hz2 hP hQ t0 t1 t2 hh
  have fin : ∀ (P Q : Bool) (E F : Int), errOf P = E → errOf Q = F → (P && Q) = p → (E == 0) = P ∧ (F == 0) = Q := fun P Q E F e1 e2 _ => by
    subst e1 e2
    cases P <;> cases Q <;> exact ⟨rfl, rfl⟩
  obtain ⟨E, hE⟩ : ∃ E, errOf P = E := ⟨_, rfl⟩
  obtain ⟨F, hF⟩ : ∃ F, errOf Q = F := ⟨_, rfl⟩
  have hEF := fin P Q E F hE hF hp
  rw [hE, hF]
  clear fin hE hF
  obtain ⟨tE, tF⟩ := hEF
  by_cases c1 : z1 ≤ 0
  · have d1' : decide (z1 ≤ 0) = true := by simpa using c1
    by_cases c2 : z2 ≤ 0
    · have d2' : decide (z2 ≤ 0) = true := by simpa using c2
      obtain rfl : r = true := by rw [← hr, d1', d2']; rfl
      (cases P <;> cases Q <;> (obtain rfl := hp; go_wp2_with fail; go_ret2; exact ⟨rfl, hB⟩))
    · have d2' : decide (z2 ≤ 0) = false := by simpa using c2
      obtain rfl : r = false := by rw [← hr, d1', d2']; rfl
      (cases P <;> cases Q <;> (obtain rfl := hp; go_wp2_with fail; go_ret2; exact ⟨rfl, hB⟩))
  · have d1' : decide (z1 ≤ 0) = false := by simpa using c1
    obtain rfl : r = false := by rw [← hr, d1']; rfl
    (cases P <;> cases Q <;> (obtain rfl := hp; go_wp2_with fail; go_ret2; exact ⟨rfl, hB⟩))


set_option maxRecDepth 100000 in
set_option maxHeartbeats 4000000 in
theorem rholds_any (n0 m0 : Bool) (A0 B0 : Option Addr) (k0 c0 j0 d0 : Nat) (n1 m1 : Bool) (A1 B1 : Option Addr) (k1 c1 j1 d1 : Nat) (n2 m2 : Bool) (A2 B2 : Option Addr) (k2 c2 j2 d2 : Nat) (n3 m3 : Bool) (A3 B3 : Option Addr) (k3 c3 j3 d3 : Nat) (n4 m4 : Bool) (A4 B4 : Option Addr) (k4 c4 j4 d4 : Nat) (n5 m5 : Bool) (A5 B5 : Option Addr) (k5 c5 j5 d5 : Nat) (L0 M0 L1 M1 L2 M2 L3 M3 L4 M4 L5 M5 : List Nat) (x0 x1 x2 x3 x4 x5 : Bool) (w : World) (h0 : Lim w A0 k0 c0 L0) (g0 : Lim w B0 j0 d0 M0) (s0 : k0 ≤ 6 ∧ j0 ≤ 6) (t0 : okF n0 L0 m0 M0 = x0) (h1 : Lim w A1 k1 c1 L1) (g1 : Lim w B1 j1 d1 M1) (s1 : k1 ≤ 6 ∧ j1 ≤ 6) (t1 : okF n1 L1 m1 M1 = x1) (h2 : Lim w A2 k2 c2 L2) (g2 : Lim w B2 j2 d2 M2) (s2 : k2 ≤ 6 ∧ j2 ≤ 6) (t2 : okF n2 L2 m2 M2 = x2) (h3 : Lim w A3 k3 c3 L3) (g3 : Lim w B3 j3 d3 M3) (s3 : k3 ≤ 6 ∧ j3 ≤ 6) (t3 : okF n3 L3 m3 M3 = x3) (h4 : Lim w A4 k4 c4 L4) (g4 : Lim w B4 j4 d4 M4) (s4 : k4 ≤ 6 ∧ j4 ≤ 6) (t4 : okF n4 L4 m4 M4 = x4) (h5 : Lim w A5 k5 c5 L5) (g5 : Lim w B5 j5 d5 M5) (s5 : k5 ≤ 6 ∧ j5 ≤ 6) (t5 : okF n5 L5 m5 M5 = x5) (z0 z1 z2 z3 : Int) (hz0 : cmpR n0 n4 L0 M0 L4 M4 (x0 && x4) = z0) (hz1 : cmpR n4 n1 L4 M4 L1 M1 (x4 && x1) = z1) (hz2 : cmpR n2 n5 L2 M2 L5 M5 (x2 && x5) = z2) (hz3 : cmpR n5 n3 L5 M5 L3 M3 (x5 && x3) = z3) (r : Bool) (P Q : Bool) (hP : ((x0 && x4) && (x4 && x1)) = P) (hQ : ((x2 && x5) && (x5 && x3)) = Q) (hr : ((decide (z0 ≤ 0) && decide (z1 ≤ 0)) && (decide (z2 ≤ 0) && decide (z3 ≤ 0))) = r) :
    Calls Tryz.prog 17 #[.agg #[.bool n0, .slice A0 k0 c0, .bool m0, .slice B0 j0 d0, .bool n1, .slice A1 k1 c1, .bool m1, .slice B1 j1 d1, .bool n2, .slice A2 k2 c2, .bool m2, .slice B2 j2 d2, .bool n3, .slice A3 k3 c3, .bool m3, .slice B3 j3 d3], .agg #[.bool n4, .slice A4 k4 c4, .bool m4, .slice B4 j4 d4], .agg #[.bool n5, .slice A5 k5 c5, .bool m5, .slice B5 j5 d5]] w fun e w' => e = .returned (.tuple #[.bool (if (P && Q) then r else false), .int .i64 (if (P && Q) then 0 else 8)]) ∧ Below w.heap.size w w' := by
  obtain ⟨W0, hW0, hB, ⟨qb, qx, qy⟩, sz⟩ := alloc3 w 43 #[.bool n0, .slice A0 k0 c0, .bool m0, .slice B0 j0 d0, .bool n1, .slice A1 k1 c1, .bool m1, .slice B1 j1 d1, .bool n2, .slice A2 k2 c2, .bool m2, .slice B2 j2 d2, .bool n3, .slice A3 k3 c3, .bool m3, .slice B3 j3 d3] 32 #[.bool n4, .slice A4 k4 c4, .bool m4, .slice B4 j4 d4] 32 #[.bool n5, .slice A5 k5 c5, .bool m5, .slice B5 j5 d5]
  have hh := hide (And.intro (And.intro h0 g0) (And.intro (And.intro h1 g1) (And.intro (And.intro h2 g2) (And.intro (And.intro h3 g3) (And.intro (And.intro h4 g4) (And.intro h5 g5))))))
  clear h0 g0 h1 g1 h2 g2 h3 g3 h4 g4 h5 g5
  have b0 := qb.cell 0
  have b1 := qb.cell 1
  have b2 := qb.cell 2
  have b3 := qb.cell 3
  have b4 := qb.cell 4
  have b5 := qb.cell 5
  have b6 := qb.cell 6
  have b7 := qb.cell 7
  have b8 := qb.cell 8
  have b9 := qb.cell 9
  have b10 := qb.cell 10
  have b11 := qb.cell 11
  have b12 := qb.cell 12
  have b13 := qb.cell 13
  have b14 := qb.cell 14
  have b15 := qb.cell 15
  simp at b0 b1 b2 b3 b4 b5 b6 b7 b8 b9 b10 b11 b12 b13 b14 b15
  obtain ⟨y0, y1, y2, y3, -⟩ := qx.four
  obtain ⟨u, hu⟩ : ∃ u, (decide (z0 ≤ 0) && decide (z1 ≤ 0)) = u := ⟨_, rfl⟩
  obtain ⟨v, hv⟩ : ∃ v, (decide (z2 ≤ 0) && decide (z3 ≤ 0)) = v := ⟨_, rfl⟩
  rw [hu, hv] at hr
  go_enter Tryz.func17, Tryz.ntmps17
  go_wp2_with fail
  refine (betweenR_any n0 m0 A0 B0 k0 c0 j0 d0 n4 m4 A4 B4 k4 c4 j4 d4 n1 m1 A1 B1 k1 c1 j1 d1 L0 M0 L4 M4 L1 M1 x0 x4 x1 W0 (hh.out.1.1.below hB) (hh.out.1.2.below hB) s0 t0 (hh.out.2.2.2.2.1.1.below hB) (hh.out.2.2.2.2.1.2.below hB) s4 t4 (hh.out.2.1.1.below hB) (hh.out.2.1.2.below hB) s1 t1 z0 z1 hz0 hz1 u P hu hP).mono ?_
  rintro e w1 ⟨rfl, hb1⟩
  replace hB := hB.trans (hb1.mono hB.size)
  replace qb := keep_blk hb1 qb
  replace qy := keep_blk hb1 qy
  clear hW0 y0 y1 y2 y3 b0 b1 b2 b3 b4 b5 b6 b7 b8 b9 b10 b11 b12 b13 b14 b15
  have b8 := qb.cell 8
  have b9 := qb.cell 9
  have b10 := qb.cell 10
  have b11 := qb.cell 11
  have b12 := qb.cell 12
  have b13 := qb.cell 13
  have b14 := qb.cell 14
  have b15 := qb.cell 15
  simp at b8 b9 b10 b11 b12 b13 b14 b15
  obtain ⟨y0, y1, y2, y3, -⟩ := qy.four
  go_wp2_with fail
  refine (betweenR_any n2 m2 A2 B2 k2 c2 j2 d2 n5 m5 A5 B5 k5 c5 j5 d5 n3 m3 A3 B3 k3 c3 j3 d3 L2 M2 L5 M5 L3 M3 x2 x5 x3 w1 (hh.out.2.2.1.1.below hB) (hh.out.2.2.1.2.below hB) s2 t2 (hh.out.2.2.2.2.2.1.below hB) (hh.out.2.2.2.2.2.2.below hB) s5 t5 (hh.out.2.2.2.1.1.below hB) (hh.out.2.2.2.1.2.below hB) s3 t3 z2 z3 hz2 hz3 v Q hv hQ).mono ?_
  rintro e w2 ⟨rfl, hb2⟩
  replace hB := hB.trans (hb2.mono hB.size)
  clear hh hP hQ hu hv t0 t1 t2 t3 t4 t5 hz0 hz1 hz2 hz3
  cases P <;> cases Q <;> cases u <;> cases v <;> (obtain rfl := hr; go_wp2_with fail; go_ret2; exact ⟨rfl, hB⟩)
end Go.Proofs.YtkippclhbkjbmaaGreat
