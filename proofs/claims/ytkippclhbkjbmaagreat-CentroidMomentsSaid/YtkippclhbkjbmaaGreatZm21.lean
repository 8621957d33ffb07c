/- From, of the program and of the reference. Package frac: must, zero, one, same. -/
import Derived.BigQuiet
import Derived.Deep.QuietTactic
import Derived.Test.YtkippclhbkjbmaaGreatZm20
import Derived.Test.YtkippclhbkjbmaaGreatZm13
import Derived.Test.YtkippclhbkjbmaaGreatZm14
import Derived.Test.YtkippclhbkjbmaaGreatZm15
set_option linter.unusedSimpArgs false
set_option linter.unusedVariables false

namespace Go.Proofs.YtkippclhbkjbmaaGreat
open Go.RowKit
attribute [local go_sem] add_lit

/-- A result that is one number. -/
def NumW (w : World) (z : Int) (e : Ending) (w' : World) : Prop :=
  Below w.heap.size w w' ∧ ∃ neg A n c, e = .returned (.agg #[.bool neg, .slice A n c]) ∧ Wd w' neg A n c z

theorem Lim.pair (w : World) (t : TypeId) {v : Nat} (hv : v < 18446744073709551616) {X Y : Int} (hX : X = (v % 4294967296 : Nat)) (hY : Y = (v / 4294967296 : Nat)) :
    Lim (w.alloc (.cells #[.int .u32 X, .int .u32 Y] t)) (some ⟨w.heap.size, 0, none⟩) 2 2 [v % 4294967296, v / 4294967296] := by
  subst hX hY
  exact Lim.of_blk (l := [v % 4294967296, v / 4294967296]) (Blk.new w t _) (Lt32.cons (Nat.mod_lt _ (by decide)) (Lt32.cons (by omega) Lt32.nil)) (by unfold maxLen; simp)
theorem Lim.pair2 (w : World) (o : Obj) (t : TypeId) {v : Nat} (hv : v < 18446744073709551616) {X Y : Int} (hX : X = (v % 4294967296 : Nat)) (hY : Y = (v / 4294967296 : Nat)) :
    Lim ((w.alloc o).alloc (.cells #[.int .u32 X, .int .u32 Y] t)) (some ⟨w.heap.size + 1, 0, none⟩) 2 2 [v % 4294967296, v / 4294967296] := by
  have := Lim.pair (w.alloc o) t hv hX hY
  rw [World.size_alloc] at this; exact this
theorem small_i64 {z : Int} (h : z.natAbs ≤ 9223372036854775808) : z.natAbs < pw 4096 :=
  Nat.lt_of_lt_of_le (Nat.lt_of_le_of_lt h (show 9223372036854775808 < pw 2 by decide)) (pw_le (by omega))
theorem ResP.small {w : World} {z : Int} {neg : Bool} {A : Option Addr} {n c : Nat} {code : Int} (h : ResP w z neg A n c code) (hs : z.natAbs < pw 4096) : Wd w neg A n c z := by
  rcases h with ⟨_, _, h⟩ | ⟨h, _⟩
  · exact h
  · omega
theorem Wd.alloc {w : World} {neg : Bool} {A : Option Addr} {n c : Nat} {z : Int} (h : Wd w neg A n c z) (o : Obj) : Wd (w.alloc o) neg A n c z := ⟨h.1, h.2.1, h.2.2.alloc o⟩
theorem NumW.box {w w3 : World} {z : Int} {neg : Bool} {A : Option Addr} {n c : Nat} {g : Nat} {t : TypeId} {b0 : Bool} {A0 : Option Addr} {n0 c0 : Nat} (hP : Wd w3 neg A n c z) (hB : Below w.heap.size w w3) (hg : w.heap.size ≤ g) (hb : Blk w3 g t #[.bool b0, .slice A0 n0 c0]) :
    NumW w z (.returned (.agg #[.bool neg, .slice A n c])) ((w3.setCell ⟨g, 0, none⟩ (.bool neg)).setCell ⟨g, 1, none⟩ (.slice A n c)) := by
  have hb1 : Blk (w3.setCell ⟨g, 0, none⟩ (.bool neg)) g t #[.bool neg, .slice A0 n0 c0] := hb.set_ 0 (.bool neg)
  exact ⟨(hB.setCell (p := ⟨g, 0, none⟩) hg _).setCell (p := ⟨g, 1, none⟩) hg _, _, _, _, _, rfl, hP.1, hP.2.1, (hP.2.2.set_box hb (NoLimb.box _ _ _ _) _ _).set_box hb1 (NoLimb.box _ _ _ _) _ _⟩
theorem NumW.alloc {w w' : World} {z : Int} {e : Ending} (h : NumW w z e w') (o : Obj) : NumW w z e (w'.alloc o) := by
  obtain ⟨hb, neg, A, n, c, he, hw⟩ := h
  exact ⟨hb.alloc hb.size _, neg, A, n, c, he, hw.alloc o⟩

set_option maxRecDepth 100000 in
set_option maxHeartbeats 1000000 in
theorem From_pos (v : Nat) (w : World) (hv : v < 9223372036854775808) :
    Calls Tryz.prog 47 #[.int .i64 v] w (NumW w (v)) := by
  have hd0 : decide ((v : Int) < 0) = false := by simp
  go_enter Tryz.func47, Tryz.ntmps47
  go_wp2_with fail
  have hB0 : Below w.heap.size w (w.alloc (.cells #[.bool false, .slice none 0 0] 30)) := (Below.refl w.heap.size w).alloc (Nat.le_refl _) _
  refine (made_any _ _ _ _ [v % 4294967296, v / 4294967296] _ (by
    refine Lim.pair2 w _ _ (by omega) ?_ ?_ <;> first | rfl | omega | (simp only [IntKind.wrap_u64]; omega))).mono ?_
  rintro e w1 ⟨hb1, neg1, A1, n1, c1, code1, rfl, hR1⟩
  have hz : sg false (val [v % 4294967296, v / 4294967296]) = v := by simp [sg, val]; omega
  rw [hz] at hR1
  have hW1 : Wd w1 neg1 A1 n1 c1 (v) := hR1.small (small_i64 (by omega))
  have hB1 : Below w.heap.size w w1 := (hB0.alloc hB0.size _).trans (hb1.mono (by simp; omega))
  have m7 := keep_blk hb1 (Blk.alloc (Blk.new w 30 #[.bool false, .slice none 0 0]) _)
  have m3 := m7.cell 0
  have m4 := m7.cell 1
  have m5 := m7.frozen 0
  have m6 := m7.frozen 1
  simp at m3 m4
  have hlt := m7.lt
  have HM := hide m7
  clear m7 hz hR1
  go_wp2_with fail
  refine bodyPost_ret (v := .agg #[.bool neg1, .slice A1 n1 c1]) (by simp [results, Tryz.results47, go_sem, m3, m4, hlt]) rfl ?_
  exact (NumW.box hW1 hB1 (Nat.le_refl _) HM.out).alloc _

set_option maxRecDepth 100000 in
set_option maxHeartbeats 1000000 in
theorem From_neg (v : Nat) (w : World) (hv0 : 0 < v) (hv : v ≤ 9223372036854775808) :
    Calls Tryz.prog 47 #[.int .i64 (-(v : Int))] w (NumW w (-(v : Int))) := by
  have hd0 : decide (-(v : Int) < 0) = true := by simp; omega
  go_enter Tryz.func47, Tryz.ntmps47
  go_wp2_with fail
  have hB0 : Below w.heap.size w (w.alloc (.cells #[.bool false, .slice none 0 0] 30)) := (Below.refl w.heap.size w).alloc (Nat.le_refl _) _
  refine (made_any _ _ _ _ [v % 4294967296, v / 4294967296] _ (by
    refine Lim.pair2 w _ _ (by omega) ?_ ?_ <;> first | rfl | omega | (simp only [IntKind.wrap_u64]; omega))).mono ?_
  rintro e w1 ⟨hb1, neg1, A1, n1, c1, code1, rfl, hR1⟩
  have hz : sg true (val [v % 4294967296, v / 4294967296]) = -(v : Int) := by simp [sg, val]; omega
  rw [hz] at hR1
  have hW1 : Wd w1 neg1 A1 n1 c1 (-(v : Int)) := hR1.small (small_i64 (by omega))
  have hB1 : Below w.heap.size w w1 := (hB0.alloc hB0.size _).trans (hb1.mono (by simp; omega))
  have m7 := keep_blk hb1 (Blk.alloc (Blk.new w 30 #[.bool false, .slice none 0 0]) _)
  have m3 := m7.cell 0
  have m4 := m7.cell 1
  have m5 := m7.frozen 0
  have m6 := m7.frozen 1
  simp at m3 m4
  have hlt := m7.lt
  have HM := hide m7
  clear m7 hz hR1
  go_wp2_with fail
  refine bodyPost_ret (v := .agg #[.bool neg1, .slice A1 n1 c1]) (by simp [results, Tryz.results47, go_sem, m3, m4, hlt]) rfl ?_
  exact (NumW.box hW1 hB1 (Nat.le_refl _) HM.out).alloc _

set_option maxRecDepth 100000 in
set_option maxHeartbeats 1000000 in
theorem rFrom_pos (v : Nat) (w : World) (hv : v < 9223372036854775808) :
    Calls Tryz.prog 81 #[.int .i64 v] w (NumW w (v)) := by
  have hd0 : decide ((v : Int) < 0) = false := by simp
  go_enter Tryz.func81, Tryz.ntmps81
  go_wp2_with fail
  have hB0 : Below w.heap.size w (w.alloc (.cells #[.bool false, .slice none 0 0] 30)) := (Below.refl w.heap.size w).alloc (Nat.le_refl _) _
  refine (rmade_any _ _ _ _ [v % 4294967296, v / 4294967296] _ (by
    refine Lim.pair2 w _ _ (by omega) ?_ ?_ <;> first | rfl | omega | (simp only [IntKind.wrap_u64]; omega)) (by omega)).mono ?_
  rintro e w1 ⟨hb1, neg1, A1, n1, c1, code1, rfl, hR1⟩
  have hz : sg false (val [v % 4294967296, v / 4294967296]) = v := by simp [sg, val]; omega
  rw [hz] at hR1
  have hW1 : Wd w1 neg1 A1 n1 c1 (v) := hR1.small (small_i64 (by omega))
  have hB1 : Below w.heap.size w w1 := (hB0.alloc hB0.size _).trans (hb1.mono (by simp; omega))
  have m7 := keep_blk hb1 (Blk.alloc (Blk.new w 30 #[.bool false, .slice none 0 0]) _)
  have m3 := m7.cell 0
  have m4 := m7.cell 1
  have m5 := m7.frozen 0
  have m6 := m7.frozen 1
  simp at m3 m4
  have hlt := m7.lt
  have HM := hide m7
  clear m7 hz hR1
  go_wp2_with fail
  refine bodyPost_ret (v := .agg #[.bool neg1, .slice A1 n1 c1]) (by simp [results, Tryz.results81, go_sem, m3, m4, hlt]) rfl ?_
  exact (NumW.box hW1 hB1 (Nat.le_refl _) HM.out).alloc _

set_option maxRecDepth 100000 in
set_option maxHeartbeats 1000000 in
theorem rFrom_neg (v : Nat) (w : World) (hv0 : 0 < v) (hv : v ≤ 9223372036854775808) :
    Calls Tryz.prog 81 #[.int .i64 (-(v : Int))] w (NumW w (-(v : Int))) := by
  have hd0 : decide (-(v : Int) < 0) = true := by simp; omega
  go_enter Tryz.func81, Tryz.ntmps81
  go_wp2_with fail
  have hB0 : Below w.heap.size w (w.alloc (.cells #[.bool false, .slice none 0 0] 30)) := (Below.refl w.heap.size w).alloc (Nat.le_refl _) _
  refine (rmade_any _ _ _ _ [v % 4294967296, v / 4294967296] _ (by
    refine Lim.pair2 w _ _ (by omega) ?_ ?_ <;> first | rfl | omega | (simp only [IntKind.wrap_u64]; omega)) (by omega)).mono ?_
  rintro e w1 ⟨hb1, neg1, A1, n1, c1, code1, rfl, hR1⟩
  have hz : sg true (val [v % 4294967296, v / 4294967296]) = -(v : Int) := by simp [sg, val]; omega
  rw [hz] at hR1
  have hW1 : Wd w1 neg1 A1 n1 c1 (-(v : Int)) := hR1.small (small_i64 (by omega))
  have hB1 : Below w.heap.size w w1 := (hB0.alloc hB0.size _).trans (hb1.mono (by simp; omega))
  have m7 := keep_blk hb1 (Blk.alloc (Blk.new w 30 #[.bool false, .slice none 0 0]) _)
  have m3 := m7.cell 0
  have m4 := m7.cell 1
  have m5 := m7.frozen 0
  have m6 := m7.frozen 1
  simp at m3 m4
  have hlt := m7.lt
  have HM := hide m7
  clear m7 hz hR1
  go_wp2_with fail
  refine bodyPost_ret (v := .agg #[.bool neg1, .slice A1 n1 c1]) (by simp [results, Tryz.results81, go_sem, m3, m4, hlt]) rfl ?_
  exact (NumW.box hW1 hB1 (Nat.le_refl _) HM.out).alloc _

theorem From_any (z : Int) (w : World) (h1 : -9223372036854775808 ≤ z) (h2 : z ≤ 9223372036854775807) : Calls Tryz.prog 47 #[.int .i64 z] w (NumW w z) := by
  rcases Int.le_total 0 z with h | h
  · obtain ⟨v, rfl⟩ := Int.eq_ofNat_of_zero_le h
    exact From_pos v w (by omega)
  · rcases Int.eq_ofNat_of_zero_le (show 0 ≤ -z by omega) with ⟨v, hv⟩
    obtain rfl : z = -(v : Int) := by omega
    rcases Nat.eq_zero_or_pos v with rfl | h0
    · exact From_pos 0 w (by omega)
    · exact From_neg v w h0 (by omega)

theorem rFrom_any (z : Int) (w : World) (h1 : -9223372036854775808 ≤ z) (h2 : z ≤ 9223372036854775807) : Calls Tryz.prog 81 #[.int .i64 z] w (NumW w z) := by
  rcases Int.le_total 0 z with h | h
  · obtain ⟨v, rfl⟩ := Int.eq_ofNat_of_zero_le h
    exact rFrom_pos v w (by omega)
  · rcases Int.eq_ofNat_of_zero_le (show 0 ≤ -z by omega) with ⟨v, hv⟩
    obtain rfl : z = -(v : Int) := by omega
    rcases Nat.eq_zero_or_pos v with rfl | h0
    · exact rFrom_pos 0 w (by omega)
    · exact rFrom_neg v w h0 (by omega)
end Go.Proofs.YtkippclhbkjbmaaGreat

namespace Go.Proofs.YtkippclhbkjbmaaGreat
open Go.RowKit
attribute [local go_sem] add_lit

set_option maxRecDepth 100000 in
set_option maxHeartbeats 1000000 in
theorem must_ok (neg : Bool) (A : Option Addr) (n c : Nat) (w : World) :
    Calls Tryz.prog 50 #[.agg #[.bool neg, .slice A n c], .int .i64 0] w fun e w' => e = .returned (.agg #[.bool neg, .slice A n c]) ∧ Below w.heap.size w w' := by
  go_enter Tryz.func50, Tryz.ntmps50
  go_wp2_with fail
  refine bodyPost_ret (v := .agg #[.bool neg, .slice A n c]) (by simp [results, Tryz.results50, go_sem]) rfl ?_
  exact ⟨rfl, by go_grown⟩

set_option maxHeartbeats 400000 in
theorem zero_any (neg : Bool) (A : Option Addr) (n c : Nat) (w : World) (hn : n ≤ 1000000000) (b : Bool) (hb : ((n : Int) == 0) = b) :
    Calls Tryz.prog 73 #[.agg #[.bool neg, .slice A n c]] w fun e w' => e = .returned (.bool b) ∧ Below w.heap.size w w' := by
  go_enter Tryz.func73, Tryz.ntmps73
  go_wp2_with fail
  go_ret
  exact ⟨rfl, by go_grown⟩

set_option maxRecDepth 100000 in
set_option maxHeartbeats 1000000 in
theorem one_ok (w : World) : Calls Tryz.prog 93 #[] w (NumW w 1) := by
  have hB0 : ∀ X : Obj, Below w.heap.size w (w.alloc X) := fun X => (Below.refl w.heap.size w).alloc (Nat.le_refl _) _
  have hB0 := hide hB0
  go_enter Tryz.func93, Tryz.ntmps93
  go_wp2_with fail
  refine (From_any 1 _ (by omega) (by omega)).mono ?_
  rintro e w1 ⟨hb1, neg1, A1, n1, c1, rfl, hw1⟩
  have hB1 : Below w.heap.size w w1 := (hB0.out _).trans (hb1.mono (by simp))
  have m8 := keep_blk hb1 (Blk.new w 30 #[.bool false, .slice none 0 0])
  have m3 := m8.cell 0
  have m4 := m8.cell 1
  have m5 := m8.frozen 0
  have m6 := m8.frozen 1
  simp at m3 m4
  replace m8 := hide m8
  go_wp2_with fail
  refine bodyPost_ret (v := .agg #[.bool neg1, .slice A1 n1 c1]) (by simp [results, Tryz.results93, go_sem, m3, m4]) rfl ?_
  exact NumW.box hw1 hB1 (Nat.le_refl _) m8.out

set_option maxRecDepth 100000 in
set_option maxHeartbeats 1000000 in
theorem same_any (na nb : Bool) (A B : Option Addr) (n c m d : Nat) (za zb : Int) (w : World) (ha : Wd w na A n c za) (hb : Wd w nb B m d zb) (b : Bool) (he : decide (za = zb) = b) :
    Calls Tryz.prog 92 #[.agg #[.bool na, .slice A n c], .agg #[.bool nb, .slice B m d]] w fun e w' => e = .returned (.bool b) ∧ Below w.heap.size w w' := by
  have hcz : ((cmpZ za zb) == 0) = b := by
    rw [← he]
    unfold cmpZ
    by_cases h1 : za < zb
    · rw [if_pos h1]; have : za ≠ zb := by omega
      simp [this]
    · rw [if_neg h1]
      by_cases h2 : zb < za
      · rw [if_pos h2]; have : za ≠ zb := by omega
        simp [this]
      · rw [if_neg h2]; have : za = zb := by omega
        simp [this]
  have HA := hide ha
  have HB := hide hb
  clear ha hb he
  have hB0 : ∀ X Y : Obj, Below w.heap.size w ((w.alloc X).alloc Y) := fun X Y => ((Below.refl w.heap.size w).alloc (Nat.le_refl _) _).alloc (by simp) _
  have hB0 := hide hB0
  obtain ⟨cz, hczE⟩ : ∃ cz, cmpZ za zb = cz := ⟨_, rfl⟩
  rw [hczE] at hcz
  have HC : Hid (∀ W : World, Wd W na A n c za → Wd W nb B m d zb → Calls Tryz.prog 87 #[.agg #[.bool na, .slice A n c], .agg #[.bool nb, .slice B m d]] W fun e w' => e = .returned (.tuple #[.int .i64 cz, .int .i64 0]) ∧ Below W.heap.size W w') := fun W h1 h2 => by
    have := Cmp_ok na nb A B n c m d za zb W h1 h2
    rw [hczE] at this; exact this
  clear hczE
  go_enter Tryz.func92, Tryz.ntmps92
  go_wp2_with fail
  refine (HC.out _ ((HA.out.alloc _).alloc _) ((HB.out.alloc _).alloc _)).mono ?_
  rintro e w1 ⟨rfl, hb1⟩
  go_wp2_with fail
  go_ret
  exact ⟨rfl, (hB0.out _ _).trans (hb1.mono (by simp; omega))⟩
end Go.Proofs.YtkippclhbkjbmaaGreat
