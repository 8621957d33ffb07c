/- Package frac: want, catch. Package wide: Mul. Package wide: Sub. -/
import Derived.Defers
import Derived.Recover
import Derived.Test.YtkippclhbkjbmaaZn25
import Derived.Test.YtkippclhbkjbmaaZn12
set_option linter.unusedSimpArgs false
set_option linter.unusedVariables false

namespace Go.Proofs.Ytkippclhbkjbmaa
open Go.RowKit
attribute [local go_sem] add_lit

set_option maxRecDepth 100000 in
theorem want_ok (w : World) :
    Calls Try.prog 50 #[.int .i64 0] w fun e w' => e = .returned (.tuple #[]) ∧ w' = w := by
  go_enter Try.func50, Try.ntmps50
  go_wp2_with fail
  go_end0
  exact ⟨rfl, rfl⟩

set_option maxRecDepth 100000 in
theorem catch_idle (p : Addr) (w : World) :
    CallsD Try.prog 49 #[.pointer (some p)] .returning w fun e u' w' => e = .returned (.tuple #[]) ∧ u' = .returning ∧ w' = w := by
  refine callsD_of_wpS Try.func49 rfl fun c₀ cs hu => ?_
  apply wpS_seq
  apply wpS_region
  simp [wpOpsS, go_sem, recoverD, hu, Try.ntmps49, Exit.thenS]
  rw [show (#[Value.pointer (some p)] ++ (Array.replicate 14 undef).setIfInBounds 4 Value.nilIface) = #[Value.pointer (some p), undef, undef, undef, undef, Value.nilIface, undef, undef, undef, undef, undef, undef, undef, undef, undef] from rfl]
  refine wpS_of_wp ?_
  go_wp2_with fail
  cases c₀
  simp_all [bodyPostS, results, Try.results49]

theorem as_fall (x : Int) (w : World) : (Instr.typeAssert (.iface 99 (.agg #[.int .i64 x])) 20 99 true).run Try.prog w = .ok (.tuple #[.agg #[.int .i64 x], .bool true]) w := by kernel_rfl

set_option maxRecDepth 100000 in
theorem catch_fall (p : Addr) (x y : Int) (w : World) (hc : w.cell? p = some (.int .i64 y)) (hz : w.frozen? p = false) :
    CallsD Try.prog 49 #[.pointer (some p)] (.panicking [{ v := .iface 99 (.agg #[.int .i64 x]), recovered := false }]) w fun e u' w' =>
      e = .returned (.tuple #[]) ∧ u' = .panicking [{ v := .iface 99 (.agg #[.int .i64 x]), recovered := true }] ∧ w' = (w.alloc (.cells #[.int .i64 x] 99)).setCell p (.int .i64 x) := by
  have hlt := lt_of_cell hc
  have hc1 : (w.alloc (.cells #[.int .i64 x] 99)).cell? p = some (.int .i64 y) := by rw [World.cell?_alloc_lt _ _ _ hlt]; exact hc
  have hz1 : (w.alloc (.cells #[.int .i64 x] 99)).frozen? p = false := by exact ((Below.refl w.heap.size w).alloc (Nat.le_refl _) _ |>.frozen hlt).trans hz
  have hta := as_fall x
  refine callsD_of_wpS Try.func49 rfl fun c₀ cs hu => ?_
  apply wpS_seq
  apply wpS_region
  simp [wpOpsS, go_sem, recoverD, hu, Try.ntmps49, Exit.thenS]
  rw [show (#[Value.pointer (some p)] ++ (Array.replicate 14 undef).setIfInBounds 4 (Value.iface 99 (.agg #[.int .i64 x]))) = #[Value.pointer (some p), undef, undef, undef, undef, Value.iface 99 (.agg #[.int .i64 x]), undef, undef, undef, undef, undef, undef, undef, undef, undef] from rfl]
  refine wpS_of_wp ?_
  go_wp2_with fail
  simp [bodyPostS, results, Try.results49]

set_option maxRecDepth 100000 in
theorem want_fall (x : Int) (w : World) (hx : (x == 0) = false) :
    Calls Try.prog 50 #[.int .i64 x] w fun e w' => e = .panicked [{ v := .iface 99 (.agg #[.int .i64 x]), recovered := false }] ∧ w' = w := by
  go_enter Try.func50, Try.ntmps50
  go_wp2_with fail
  exact ⟨rfl, rfl, rfl⟩

set_option maxRecDepth 100000 in
set_option maxHeartbeats 1000000 in
theorem Make_pos (na : Bool) (A B : Option Addr) (n c m d : Nat) (za zb : Int) (w : World) (ha : Wd w na A n c za) (hb : Wd w false B m d zb) (h0 : 0 < zb) :
    Calls Try.prog 36 #[.agg #[.bool na, .slice A n c], .agg #[.bool false, .slice B m d]] w (FracE w (Rat.divInt za zb)) := by
  have hm0 : 0 < m := by rw [← hb.lim.len]; exact length_digits_pos.2 (by omega)
  have hm0' : ((m : Int) == 0) = false := by simp; omega
  have hm := hb.2.1
  have HA := hide ha
  have HB := hide hb
  clear ha hb
  obtain ⟨W0, hW0, hB0, hq, s0⟩ := alloc4 w 27 #[.bool na, .slice A n c] 27 #[.bool false, .slice B m d] 29 #[.bool false, .slice none 0 0, .bool false, .slice none 0 0] 32 #[.int .i64 0]
  replace hW0 := hide hW0
  replace hq := hide hq
  go_enter_defers Try.func36, Try.ntmps36
  go_wp2_with fail
  rw [hW0.out]
  have HA0 := hide (HA.out.below hB0)
  have HB0 := hide (HB.out.below hB0)
  clear HA HB hW0
  refine (Check_any na A n c _ W0 HA0.out.lim).mono ?_
  rw [HA0.out.ok]
  rintro e w1 ⟨rfl, hb1⟩
  have hB1 : Below w.heap.size w w1 := hB0.trans (hb1.mono hB0.size)
  have s1 : W0.heap.size ≤ w1.heap.size := hb1.size
  have HA1 := hide (HA0.out.below hb1)
  have HB1 := hide (HB0.out.below hb1)
  obtain ⟨q0, q1, q2, q3⟩ := hq.out
  replace q0 := keep_blk hb1 q0
  replace q1 := keep_blk hb1 q1
  replace q2 := keep_blk hb1 q2
  replace q3 := keep_blk hb1 q3
  obtain ⟨c00, c01, -, -⟩ := q0.two
  obtain ⟨c10, c11, -, -⟩ := q1.two
  clear hq hb1 HA0 HB0 hB0
  have hq := hide (And.intro q0 (And.intro q1 (And.intro q2 q3)))
  clear q0 q1 q2 q3
  simp only [errOf, if_true]
  go_wp2_with fail
  refine (want_ok w1).mono ?_
  rintro e w1 ⟨rfl, rfl⟩
  go_wp2_with fail
  refine (Check_any false B m d _ w1 HB1.out.lim).mono ?_
  rw [HB1.out.ok]
  rintro e w2 ⟨rfl, hb2⟩
  have hB2 : Below w.heap.size w w2 := hB1.trans (hb2.mono hB1.size)
  have s2 : w1.heap.size ≤ w2.heap.size := hb2.size
  have HA2 := hide (HA1.out.below hb2)
  have HB2 := hide (HB1.out.below hb2)
  obtain ⟨q0, q1, q2, q3⟩ := hq.out
  replace q0 := keep_blk hb2 q0
  replace q1 := keep_blk hb2 q1
  replace q2 := keep_blk hb2 q2
  replace q3 := keep_blk hb2 q3
  clear c00 c01 c10 c11
  obtain ⟨c00, c01, -, -⟩ := q0.two
  obtain ⟨c10, c11, -, -⟩ := q1.two
  clear hq hb2 HA1 HB1 hB1
  have hq := hide (And.intro q0 (And.intro q1 (And.intro q2 q3)))
  clear q0 q1 q2 q3
  simp only [errOf, if_true]
  go_wp2_with fail
  refine (want_ok w2).mono ?_
  rintro e w2 ⟨rfl, rfl⟩
  go_wp2_with fail
  refine (zero_any false B m d w2 (by omega) false hm0').mono ?_
  rintro e w3 ⟨rfl, hb3⟩
  have hB3 : Below w.heap.size w w3 := hB2.trans (hb3.mono hB2.size)
  have s3 : w2.heap.size ≤ w3.heap.size := hb3.size
  have HA3 := hide (HA2.out.below hb3)
  have HB3 := hide (HB2.out.below hb3)
  obtain ⟨q0, q1, q2, q3⟩ := hq.out
  replace q0 := keep_blk hb3 q0
  replace q1 := keep_blk hb3 q1
  replace q2 := keep_blk hb3 q2
  replace q3 := keep_blk hb3 q3
  clear c00 c01 c10 c11
  obtain ⟨c00, c01, -, -⟩ := q0.two
  obtain ⟨c10, c11, -, -⟩ := q1.two
  clear hq hb3 HA2 HB2 hB2
  have hq := hide (And.intro q2 q3)
  clear q0 q1 q2 q3
  go_wp2_with fail
  refine (reduce_pos na A B n c m d za zb w3 HA3.out HB3.out h0).mono ?_
  rintro e w4 ⟨hb4, nx, Ax, kx, cx, ny, Ay, ky, cy, rfl, hF⟩
  have hB4 : Below w.heap.size w w4 := hB3.trans (hb4.mono hB3.size)
  have s4 : w3.heap.size ≤ w4.heap.size := hb4.size
  have q2 := keep_blk hb4 hq.out.1
  have q3 := keep_blk hb4 hq.out.2
  clear hq hb4 HA3 HB3 hB3 c00 c01 c10 c11
  have c2 := hide q2.four
  have c3 := q3.cell 0
  have f3 := q3.frozen 0
  simp at c3
  obtain ⟨c20, c21, c22, c23, f20, f21, f22, f23⟩ := c2.out
  have hq := hide (And.intro q2 q3)
  clear q2 q3
  go_wp2_with fail
  obtain ⟨W5, hW5, hB5, q2, kW, kB, s5⟩ := set_frac nx Ax kx cx ny Ay ky cy hB4 (by omega) hq.out.1
  have q3 := kB _ _ _ (by omega) hq.out.2
  have HX5 := hide (kW _ _ _ _ _ hF.1)
  have HY5 := hide (kW _ _ _ _ _ hF.2)
  rw [hW5]
  clear kW kB c20 c21 c22 c23 c3 f3 f20 f21 f22 f23 hq hF
  obtain ⟨W6, hW6, hB6, q3, kW, kB, s6⟩ := set_code 0 hB5 (by omega) q3
  replace q2 := kB _ _ _ (by omega) q2
  have HX6 := hide (kW _ _ _ _ _ HX5.out)
  have HY6 := hide (kW _ _ _ _ _ HY5.out)
  rw [hW6]
  obtain ⟨r0, r1, r2, r3, -⟩ := q2.four
  have r4 := q3.cell 0
  simp at r4
  clear kW kB hB5 HX5 HY5 hW5 hW6
  refine leaves_cons (f := 49) (args := #[.pointer (some ⟨w.heap.size + 1 + 1 + 1, 0, none⟩)]) (by simp) (by simp [go_sem]) ?_
  refine (catch_idle _ _).mono ?_
  rintro e u' w'' ⟨rfl, rfl, rfl⟩
  refine ⟨.tuple #[.agg #[.bool nx, .slice Ax kx cx, .bool ny, .slice Ay ky cy], .int .i64 0], by simp [results, Try.results36, go_sem, r0, r1, r2, r3, r4], ?_⟩
  exact ⟨hB6, _, _, _, _, _, _, _, _, rfl, HX6.out, HY6.out⟩
end Go.Proofs.Ytkippclhbkjbmaa

namespace Go.Proofs.Ytkippclhbkjbmaa
open Go.RowKit
attribute [local go_sem] add_lit

set_option maxRecDepth 100000 in
set_option maxHeartbeats 1000000 in
theorem Mul_bad (na nb : Bool) (A B : Option Addr) (n c m d : Nat) (la lb : List Nat) (w : World) (hLa : Lim w A n c la) (hLb : Lim w B m d lb) (hbad : (okW na la && okW nb lb) = false) :
    Calls Try.prog 34 #[.agg #[.bool na, .slice A n c], .agg #[.bool nb, .slice B m d]] w (BadW w) := by
  have hB0 : ∀ X Y Z V : Obj, Below w.heap.size w ((((w.alloc X).alloc Y).alloc Z).alloc V) := fun X Y Z V => ((((Below.refl w.heap.size w).alloc (Nat.le_refl _) _).alloc (by simp) _).alloc (by simp; omega) _).alloc (by simp; omega) _
  have hW : ∀ X Y Z t, WL ((((w.alloc X).alloc Y).alloc Z).alloc (.cells #[.bool na, .slice A n c, .bool nb, .slice B m d] t)) (some ⟨w.heap.size + 1 + 1 + 1, 0, none⟩) 2 2 [⟨na, A, n, c, la⟩, ⟨nb, B, m, d, lb⟩] := fun X Y Z t => by
    have := WL.two (neg := na) (neg' := nb) (((hLa.alloc X).alloc Y).alloc Z) (((hLb.alloc X).alloc Y).alloc Z) t
    simp only [World.size_alloc] at this; exact this
  have hW := hide hW
  have hB0 := hide hB0
  have hbad := hide hbad
  go_enter Try.func34, Try.ntmps34
  go_wp2_with fail
  refine (check_bad (hW.out _ _ _ _) (by have := hbad.out; simpa [WE.ok] using this)).mono ?_
  rintro e w1 ⟨rfl, hb1⟩
  obtain ⟨hc1, hf1⟩ := bcell hb1
  have hz1 : w.heap.size + 1 + 1 + 1 < w1.heap.size := by have := hb1.size; simp at this; omega
  have hB1 : Below w.heap.size w w1 := (hB0.out _ _ _ _).trans (hb1.mono (by simp; omega))
  go_wp2_with fail
  have hg : w1.cell? ⟨w.heap.size + 1 + 1, 0, none⟩ = some (.bool false) := by simp [hc1, go_sem]
  have hg' : w1.cell? ⟨w.heap.size + 1 + 1, 1, none⟩ = some (.slice none 0 0) := by simp [hc1, go_sem]
  refine bodyPost_ret (v := .tuple #[.agg #[.bool false, .slice none 0 0], .int .i64 8]) (by simp [results, Try.results34, go_sem, hg, hg']) rfl ?_
  exact ⟨rfl, (hB1.setCell (p := ⟨w.heap.size + 1 + 1, 0, none⟩) (by simp; omega) _).setCell (p := ⟨w.heap.size + 1 + 1, 1, none⟩) (by simp; omega) _⟩

set_option maxRecDepth 100000 in
set_option maxHeartbeats 1000000 in
theorem Mul_ok (na nb : Bool) (A B : Option Addr) (n c m d : Nat) (za zb : Int) (w : World) (ha : Wd w na A n c za) (hb : Wd w nb B m d zb) :
    Calls Try.prog 34 #[.agg #[.bool na, .slice A n c], .agg #[.bool nb, .slice B m d]] w (ResW w (za * zb)) := by
  have hLa := ha.lim
  have hLb := hb.lim
  have hn := ha.2.1
  have hm := hb.2.1
  have hB0 : ∀ X Y Z V : Obj, Below w.heap.size w ((((w.alloc X).alloc Y).alloc Z).alloc V) := fun X Y Z V => ((((Below.refl w.heap.size w).alloc (Nat.le_refl _) _).alloc (by simp) _).alloc (by simp; omega) _).alloc (by simp; omega) _
  have hW : ∀ X Y Z t, WL ((((w.alloc X).alloc Y).alloc Z).alloc (.cells #[.bool na, .slice A n c, .bool nb, .slice B m d] t)) (some ⟨w.heap.size + 1 + 1 + 1, 0, none⟩) 2 2 [⟨na, A, n, c, digits za.natAbs⟩, ⟨nb, B, m, d, digits zb.natAbs⟩] := fun X Y Z t => by
    have := WL.two (neg := na) (neg' := nb) (((hLa.alloc X).alloc Y).alloc Z) (((hLb.alloc X).alloc Y).alloc Z) t
    simp only [World.size_alloc] at this; exact this
  have hW := hide hW
  have hB0 := hide hB0
  have hgood : Hid (okW na (digits za.natAbs) = true ∧ okW nb (digits zb.natAbs) = true) := ⟨ha.ok, hb.ok⟩
  have hza := hide ha.sgEq
  have hzb := hide hb.sgEq
  clear ha hb
  go_enter Try.func34, Try.ntmps34
  go_wp2_with fail
  refine (check_ok (hW.out _ _ _ _) (by have := hgood.out; simp [WE.ok, this])).mono ?_
  rintro e w1 ⟨rfl, hb1⟩
  obtain ⟨hc1, hf1⟩ := bcell hb1
  have hz1 : w.heap.size + 1 + 1 + 1 < w1.heap.size := by have := hb1.size; simp at this; omega
  have hB1 : Below w.heap.size w w1 := (hB0.out _ _ _ _).trans (hb1.mono (by simp; omega))
  have g0 : w1.cell? ⟨w.heap.size, 0, none⟩ = some (.bool na) := by simp [hc1, go_sem]
  have g1 : w1.cell? ⟨w.heap.size, 1, none⟩ = some (.slice A n c) := by simp [hc1, go_sem]
  have g2 : w1.cell? ⟨w.heap.size + 1, 0, none⟩ = some (.bool nb) := by simp [hc1, go_sem]
  have g3 : w1.cell? ⟨w.heap.size + 1, 1, none⟩ = some (.slice B m d) := by simp [hc1, go_sem]
  have gf : w1.frozen? ⟨w.heap.size + 1, 0, none⟩ = false := by simp [hf1, go_sem]
  have gB : Blk w1 (w.heap.size + 1) 27 #[.bool nb, .slice B m d] := by
    refine keep_blk hb1 ((Blk.alloc (Blk.alloc ?_ _) _))
    have := Blk.new (w.alloc (.cells #[.bool na, .slice A n c] 27)) 27 #[.bool nb, .slice B m d]
    simp only [World.size_alloc] at this; exact this
  have g7 : Blk w1 (w.heap.size + 1 + 1) 27 #[.bool false, .slice none 0 0] := by
    refine keep_blk hb1 (Blk.alloc ?_ _)
    have := Blk.new ((w.alloc (.cells #[.bool na, .slice A n c] 27)).alloc (.cells #[.bool nb, .slice B m d] 27)) 27 #[.bool false, .slice none 0 0]
    simp only [World.size_alloc] at this; exact this
  have hLa1 := hLa.below hB1
  have hLb1 := hLb.below hB1
  have HB := hide gB
  clear gB hc1 hf1
  have g5 := g7.cell 0
  have g6 := g7.cell 1
  have g8 := g7.frozen 0
  have g9 := g7.frozen 1
  simp at g5 g6
  go_wp2_with fail
  go_region_held3 (fun w' => w'.cell? ⟨w.heap.size, 0, none⟩ = some (.bool na) ∧ w'.cell? ⟨w.heap.size, 1, none⟩ = some (.slice A n c) ∧ w'.cell? ⟨w.heap.size + 1, 0, none⟩ = some (.bool nb) ∧ w'.cell? ⟨w.heap.size + 1, 1, none⟩ = some (.slice B m d))
    (((try dsimp only); (repeat' apply And.intro); all_goals (first | go_keep | (simp [*, go_sem]; done))))
    (first
      | (go_at_call 56; refine (times_any _ _ _ _ _ _ _ _ _ (by exact hLa1) (by exact hLb1) (by omega) (by omega)).mono ?_; rintro e w2 ⟨A2, n2, c2, l2, rfl, hL2, hP2, hb2⟩; have k0 := keep_cell hb2 g0; have k1 := keep_cell hb2 g1; have j0 := keep_cell hb2 g2; have k2 := keep_cell hb2 g3; have k3 := keep_cell hb2 g5; have k4 := keep_cell hb2 g6; have k5 := keep_frozen hb2 g5 g8; have k6 := keep_frozen hb2 g6 g9; have k7 := keep_blk hb2 g7)
      | (go_at_call 55; refine (made_any _ _ _ _ _ _ (by exact hL2)).mono ?_; rintro e w3 ⟨hb3, neg3, A3, n3, c3, code3, rfl, hR3⟩; have m0 := keep_cell hb3 k0; have m1 := keep_cell hb3 k1; have i0 := keep_cell hb3 j0; have m2 := keep_cell hb3 k2; have m3 := keep_cell hb3 k3; have m4 := keep_cell hb3 k4; have m5 := keep_frozen hb3 k3 k5; have m6 := keep_frozen hb3 k4 k6; have m7 := keep_blk hb3 k7))
  have hB3 : Below w.heap.size w w3 := (hB1.trans ((below_drewL hb2).mono hB1.size)).trans (hb3.mono (Nat.le_trans hB1.size (below_drewL hb2).size))
  go_wp2
  have HZ : sg (na != nb) (val l2) = za * zb := by
    have h1 := hza.out; have h2 := hzb.out; rw [hP2.2, sg_mul, h1, h2]
  refine bodyPost_ret (v := .tuple #[.agg #[.bool neg3, .slice A3 n3 c3], .int .i64 code3]) (by simp [results, Try.results34, go_sem, m3, m4]) rfl ?_
  exact ResW.box (HZ ▸ hR3) hB3 (by omega) m7
end Go.Proofs.Ytkippclhbkjbmaa

namespace Go.Proofs.Ytkippclhbkjbmaa
open Go.RowKit
attribute [local go_sem] add_lit

set_option maxRecDepth 100000 in
set_option maxHeartbeats 1000000 in
theorem Sub_bad (na nb : Bool) (A B : Option Addr) (n c m d : Nat) (la lb : List Nat) (w : World) (hLa : Lim w A n c la) (hLb : Lim w B m d lb) (hbad : (okW na la && okW nb lb) = false) :
    Calls Try.prog 32 #[.agg #[.bool na, .slice A n c], .agg #[.bool nb, .slice B m d]] w (BadW w) := by
  have hB0 : ∀ X Y Z V : Obj, Below w.heap.size w ((((w.alloc X).alloc Y).alloc Z).alloc V) := fun X Y Z V => ((((Below.refl w.heap.size w).alloc (Nat.le_refl _) _).alloc (by simp) _).alloc (by simp; omega) _).alloc (by simp; omega) _
  have hW : ∀ X Y Z t, WL ((((w.alloc X).alloc Y).alloc Z).alloc (.cells #[.bool na, .slice A n c, .bool nb, .slice B m d] t)) (some ⟨w.heap.size + 1 + 1 + 1, 0, none⟩) 2 2 [⟨na, A, n, c, la⟩, ⟨nb, B, m, d, lb⟩] := fun X Y Z t => by
    have := WL.two (neg := na) (neg' := nb) (((hLa.alloc X).alloc Y).alloc Z) (((hLb.alloc X).alloc Y).alloc Z) t
    simp only [World.size_alloc] at this; exact this
  have hW := hide hW
  have hB0 := hide hB0
  have hbad := hide hbad
  go_enter Try.func32, Try.ntmps32
  go_wp2_with fail
  refine (check_bad (hW.out _ _ _ _) (by have := hbad.out; simpa [WE.ok] using this)).mono ?_
  rintro e w1 ⟨rfl, hb1⟩
  obtain ⟨hc1, hf1⟩ := bcell hb1
  have hz1 : w.heap.size + 1 + 1 + 1 < w1.heap.size := by have := hb1.size; simp at this; omega
  have hB1 : Below w.heap.size w w1 := (hB0.out _ _ _ _).trans (hb1.mono (by simp; omega))
  go_wp2_with fail
  have hg : w1.cell? ⟨w.heap.size + 1 + 1, 0, none⟩ = some (.bool false) := by simp [hc1, go_sem]
  have hg' : w1.cell? ⟨w.heap.size + 1 + 1, 1, none⟩ = some (.slice none 0 0) := by simp [hc1, go_sem]
  refine bodyPost_ret (v := .tuple #[.agg #[.bool false, .slice none 0 0], .int .i64 8]) (by simp [results, Try.results32, go_sem, hg, hg']) rfl ?_
  exact ⟨rfl, (hB1.setCell (p := ⟨w.heap.size + 1 + 1, 0, none⟩) (by simp; omega) _).setCell (p := ⟨w.heap.size + 1 + 1, 1, none⟩) (by simp; omega) _⟩

set_option maxRecDepth 100000 in
set_option maxHeartbeats 1000000 in
theorem Sub_ok (na nb : Bool) (A B : Option Addr) (n c m d : Nat) (za zb : Int) (w : World) (ha : Wd w na A n c za) (hb : Wd w nb B m d zb) :
    Calls Try.prog 32 #[.agg #[.bool na, .slice A n c], .agg #[.bool nb, .slice B m d]] w (ResW w (za - zb)) := by
  have hLa := ha.lim
  have hLb := hb.lim
  have hn := ha.2.1
  have hm := hb.2.1
  have hB0 : ∀ X Y Z V : Obj, Below w.heap.size w ((((w.alloc X).alloc Y).alloc Z).alloc V) := fun X Y Z V => ((((Below.refl w.heap.size w).alloc (Nat.le_refl _) _).alloc (by simp) _).alloc (by simp; omega) _).alloc (by simp; omega) _
  have hW : ∀ X Y Z t, WL ((((w.alloc X).alloc Y).alloc Z).alloc (.cells #[.bool na, .slice A n c, .bool nb, .slice B m d] t)) (some ⟨w.heap.size + 1 + 1 + 1, 0, none⟩) 2 2 [⟨na, A, n, c, digits za.natAbs⟩, ⟨nb, B, m, d, digits zb.natAbs⟩] := fun X Y Z t => by
    have := WL.two (neg := na) (neg' := nb) (((hLa.alloc X).alloc Y).alloc Z) (((hLb.alloc X).alloc Y).alloc Z) t
    simp only [World.size_alloc] at this; exact this
  have hW := hide hW
  have hB0 := hide hB0
  have hgood : Hid (okW na (digits za.natAbs) = true ∧ okW nb (digits zb.natAbs) = true) := ⟨ha.ok, hb.ok⟩
  have hza := hide ha.sgEq
  have hzb := hide hb.sgEq
  clear ha hb
  go_enter Try.func32, Try.ntmps32
  go_wp2_with fail
  refine (check_ok (hW.out _ _ _ _) (by have := hgood.out; simp [WE.ok, this])).mono ?_
  rintro e w1 ⟨rfl, hb1⟩
  obtain ⟨hc1, hf1⟩ := bcell hb1
  have hz1 : w.heap.size + 1 + 1 + 1 < w1.heap.size := by have := hb1.size; simp at this; omega
  have hB1 : Below w.heap.size w w1 := (hB0.out _ _ _ _).trans (hb1.mono (by simp; omega))
  have g0 : w1.cell? ⟨w.heap.size, 0, none⟩ = some (.bool na) := by simp [hc1, go_sem]
  have g1 : w1.cell? ⟨w.heap.size, 1, none⟩ = some (.slice A n c) := by simp [hc1, go_sem]
  have g2 : w1.cell? ⟨w.heap.size + 1, 0, none⟩ = some (.bool nb) := by simp [hc1, go_sem]
  have g3 : w1.cell? ⟨w.heap.size + 1, 1, none⟩ = some (.slice B m d) := by simp [hc1, go_sem]
  have gf : w1.frozen? ⟨w.heap.size + 1, 0, none⟩ = false := by simp [hf1, go_sem]
  have gB : Blk w1 (w.heap.size + 1) 27 #[.bool nb, .slice B m d] := by
    refine keep_blk hb1 ((Blk.alloc (Blk.alloc ?_ _) _))
    have := Blk.new (w.alloc (.cells #[.bool na, .slice A n c] 27)) 27 #[.bool nb, .slice B m d]
    simp only [World.size_alloc] at this; exact this
  have g7 : Blk w1 (w.heap.size + 1 + 1) 27 #[.bool false, .slice none 0 0] := by
    refine keep_blk hb1 (Blk.alloc ?_ _)
    have := Blk.new ((w.alloc (.cells #[.bool na, .slice A n c] 27)).alloc (.cells #[.bool nb, .slice B m d] 27)) 27 #[.bool false, .slice none 0 0]
    simp only [World.size_alloc] at this; exact this
  have hLa1 := hLa.below hB1
  have hLb1 := hLb.below hB1
  have HB := hide gB
  clear gB hc1 hf1
  have hB1S : w.heap.size ≤ (w1.setCell ⟨w.heap.size + 1, 0, none⟩ (.bool (!nb))).heap.size := by simp; omega
  go_wp2_with fail
  refine (add_any _ _ _ _ _ _ _ _ _ _ _ (by exact hLa1.set_box HB.out (NoLimb.box _ _ _ _) _ _) (by exact hLb1.set_box HB.out (NoLimb.box _ _ _ _) _ _) hn hm).mono ?_
  rintro e w2 ⟨hb2, neg2, A2, n2, c2, code2, rfl, hR2⟩
  have hB2 : Below w.heap.size w w2 := (hB1.setCell (p := ⟨w.heap.size + 1, 0, none⟩) (by simp) _).trans (hb2.mono hB1S)
  have m7 := keep_blk hb2 (g7.far (by simp) _)
  have m3 := m7.cell 0
  have m4 := m7.cell 1
  have m5 := m7.frozen 0
  have m6 := m7.frozen 1
  simp at m3 m4
  have HM := hide m7
  clear m7
  go_wp2_with fail
  have HZ : sg na za.natAbs + sg (!nb) zb.natAbs = za - zb := by
    have h1 := hza.out; have h2 := hzb.out; rw [val_digits] at h1 h2; rw [sg_not, h1, h2]; omega
  refine bodyPost_ret (v := .tuple #[.agg #[.bool neg2, .slice A2 n2 c2], .int .i64 code2]) (by simp [results, Try.results32, go_sem, m3, m4]) rfl ?_
  exact ResW.box (HZ ▸ hR2) hB2 (by omega) HM.out
end Go.Proofs.Ytkippclhbkjbmaa
