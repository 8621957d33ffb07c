/- From, of the program and of the reference. -/
import Derived.Test.YtljocgdhdilglaaR5
namespace Go.Proofs.Ytljocgdhdilglaa
open Go.RowKit
attribute [local go_sem] add_lit

/-- A result that is one number. -/
def NumW (w : World) (z : Int) (e : Ending) (w' : World) : Prop :=
  Below w.heap.size w w' ∧ ∃ neg A n c, e = .returned (.agg #[.bool neg, .slice A n c]) ∧ Wd w' neg A n c z

theorem Lim.pair (w : World) (t : TypeId) {v : Nat} (hv : v < 18446744073709551616) {X Y : Int} (hX : X = (v % 4294967296 : Nat)) (hY : Y = (v / 4294967296 : Nat)) :
    Lim (w.alloc (.cells #[.int .u32 X, .int .u32 Y] t)) (some ⟨w.heap.size, 0, none⟩) 2 2 [v % 4294967296, v / 4294967296] := by
  subst hX hY
  exact Lim.of_blk (l := [v % 4294967296, v / 4294967296]) (Blk.new w t _) (Lt32.cons (Nat.mod_lt _ (by decide)) (Lt32.cons (by omega) Lt32.nil)) (by unfold maxLen; simp)
theorem Lim.pair2 (w : World) (o : Obj) (t : TypeId) {v : Nat} (hv : v < 18446744073709551616) {X Y : Int} (hX : X = (v % 4294967296 : Nat)) (hY : Y = (v / 4294967296 : Nat)) :
    Lim ((w.alloc o).alloc (.cells #[.int .u32 X, .int .u32 Y] t)) (some ⟨w.heap.size + 1, 0, none⟩) 2 2 [v % 4294967296, v / 4294967296] := by
  have := Lim.pair (w.alloc o) t hv hX hY
  rw [World.size_alloc] at this; exact this
theorem small_i64 {z : Int} (h : z.natAbs ≤ 9223372036854775808) : z.natAbs < pw 4096 :=
  Nat.lt_of_lt_of_le (Nat.lt_of_le_of_lt h (show 9223372036854775808 < pw 2 by decide)) (pw_le (by omega))
theorem ResP.small {w : World} {z : Int} {neg : Bool} {A : Option Addr} {n c : Nat} {code : Int} (h : ResP w z neg A n c code) (hs : z.natAbs < pw 4096) : Wd w neg A n c z := by
  rcases h with ⟨_, _, h⟩ | ⟨h, _⟩
  · exact h
  · omega
theorem Wd.alloc {w : World} {neg : Bool} {A : Option Addr} {n c : Nat} {z : Int} (h : Wd w neg A n c z) (o : Obj) : Wd (w.alloc o) neg A n c z := ⟨h.1, h.2.1, h.2.2.alloc o⟩
theorem NumW.box {w w3 : World} {z : Int} {neg : Bool} {A : Option Addr} {n c : Nat} {g : Nat} {t : TypeId} {b0 : Bool} {A0 : Option Addr} {n0 c0 : Nat} (hP : Wd w3 neg A n c z) (hB : Below w.heap.size w w3) (hg : w.heap.size ≤ g) (hb : Blk w3 g t #[.bool b0, .slice A0 n0 c0]) :
    NumW w z (.returned (.agg #[.bool neg, .slice A n c])) ((w3.setCell ⟨g, 0, none⟩ (.bool neg)).setCell ⟨g, 1, none⟩ (.slice A n c)) := by
  have hb1 : Blk (w3.setCell ⟨g, 0, none⟩ (.bool neg)) g t #[.bool neg, .slice A0 n0 c0] := hb.set_ 0 (.bool neg)
  exact ⟨(hB.setCell (p := ⟨g, 0, none⟩) hg _).setCell (p := ⟨g, 1, none⟩) hg _, _, _, _, _, rfl, hP.1, hP.2.1, (hP.2.2.set_box hb (NoLimb.box _ _ _ _) _ _).set_box hb1 (NoLimb.box _ _ _ _) _ _⟩
theorem NumW.alloc {w w' : World} {z : Int} {e : Ending} (h : NumW w z e w') (o : Obj) : NumW w z e (w'.alloc o) := by
  obtain ⟨hb, neg, A, n, c, he, hw⟩ := h
  exact ⟨hb.alloc hb.size _, neg, A, n, c, he, hw.alloc o⟩

set_option maxRecDepth 100000 in
set_option maxHeartbeats 1000000 in
theorem From_pos (v : Nat) (w : World) (hv : v < 9223372036854775808) :
    Calls Try.prog 54 #[.int .i64 v] w (NumW w (v)) := by
  have hd0 : decide ((v : Int) < 0) = false := by simp
  go_enter Try.func54, Try.ntmps54
  go_wp2_with fail
  have hB0 : Below w.heap.size w (w.alloc (.cells #[.bool false, .slice none 0 0] 36)) := (Below.refl w.heap.size w).alloc (Nat.le_refl _) _
  refine (made_any _ _ _ _ [v % 4294967296, v / 4294967296] _ (by
    refine Lim.pair2 w _ _ (by omega) ?_ ?_ <;> first | rfl | omega | (simp only [IntKind.wrap_u64]; omega))).mono ?_
  rintro e w1 ⟨hb1, neg1, A1, n1, c1, code1, rfl, hR1⟩
  have hz : sg false (val [v % 4294967296, v / 4294967296]) = v := by simp [sg, val]; omega
  rw [hz] at hR1
  have hW1 : Wd w1 neg1 A1 n1 c1 (v) := hR1.small (small_i64 (by omega))
  have hB1 : Below w.heap.size w w1 := (hB0.alloc hB0.size _).trans (hb1.mono (by simp; omega))
  have m7 := keep_blk hb1 (Blk.alloc (Blk.new w 36 #[.bool false, .slice none 0 0]) _)
  have m3 := m7.cell 0
  have m4 := m7.cell 1
  have m5 := m7.frozen 0
  have m6 := m7.frozen 1
  simp at m3 m4
  have hlt := m7.lt
  have HM := hide m7
  clear m7 hz hR1
  go_wp2_with fail
  refine bodyPost_ret (v := .agg #[.bool neg1, .slice A1 n1 c1]) (by simp [results, Try.results54, go_sem, m3, m4, hlt]) rfl ?_
  exact (NumW.box hW1 hB1 (Nat.le_refl _) HM.out).alloc _

set_option maxRecDepth 100000 in
set_option maxHeartbeats 1000000 in
theorem From_neg (v : Nat) (w : World) (hv0 : 0 < v) (hv : v ≤ 9223372036854775808) :
    Calls Try.prog 54 #[.int .i64 (-(v : Int))] w (NumW w (-(v : Int))) := by
  have hd0 : decide (-(v : Int) < 0) = true := by simp; omega
  go_enter Try.func54, Try.ntmps54
  go_wp2_with fail
  have hB0 : Below w.heap.size w (w.alloc (.cells #[.bool false, .slice none 0 0] 36)) := (Below.refl w.heap.size w).alloc (Nat.le_refl _) _
  refine (made_any _ _ _ _ [v % 4294967296, v / 4294967296] _ (by
    refine Lim.pair2 w _ _ (by omega) ?_ ?_ <;> first | rfl | omega | (simp only [IntKind.wrap_u64]; omega))).mono ?_
  rintro e w1 ⟨hb1, neg1, A1, n1, c1, code1, rfl, hR1⟩
  have hz : sg true (val [v % 4294967296, v / 4294967296]) = -(v : Int) := by simp [sg, val]; omega
  rw [hz] at hR1
  have hW1 : Wd w1 neg1 A1 n1 c1 (-(v : Int)) := hR1.small (small_i64 (by omega))
  have hB1 : Below w.heap.size w w1 := (hB0.alloc hB0.size _).trans (hb1.mono (by simp; omega))
  have m7 := keep_blk hb1 (Blk.alloc (Blk.new w 36 #[.bool false, .slice none 0 0]) _)
  have m3 := m7.cell 0
  have m4 := m7.cell 1
  have m5 := m7.frozen 0
  have m6 := m7.frozen 1
  simp at m3 m4
  have hlt := m7.lt
  have HM := hide m7
  clear m7 hz hR1
  go_wp2_with fail
  refine bodyPost_ret (v := .agg #[.bool neg1, .slice A1 n1 c1]) (by simp [results, Try.results54, go_sem, m3, m4, hlt]) rfl ?_
  exact (NumW.box hW1 hB1 (Nat.le_refl _) HM.out).alloc _

set_option maxRecDepth 100000 in
set_option maxHeartbeats 1000000 in
theorem rFrom_pos (v : Nat) (w : World) (hv : v < 9223372036854775808) :
    Calls Try.prog 55 #[.int .i64 v] w (NumW w (v)) := by
  have hd0 : decide ((v : Int) < 0) = false := by simp
  go_enter Try.func55, Try.ntmps55
  go_wp2_with fail
  have hB0 : Below w.heap.size w (w.alloc (.cells #[.bool false, .slice none 0 0] 36)) := (Below.refl w.heap.size w).alloc (Nat.le_refl _) _
  refine (rmade_any _ _ _ _ [v % 4294967296, v / 4294967296] _ (by
    refine Lim.pair2 w _ _ (by omega) ?_ ?_ <;> first | rfl | omega | (simp only [IntKind.wrap_u64]; omega)) (by omega)).mono ?_
  rintro e w1 ⟨hb1, neg1, A1, n1, c1, code1, rfl, hR1⟩
  have hz : sg false (val [v % 4294967296, v / 4294967296]) = v := by simp [sg, val]; omega
  rw [hz] at hR1
  have hW1 : Wd w1 neg1 A1 n1 c1 (v) := hR1.small (small_i64 (by omega))
  have hB1 : Below w.heap.size w w1 := (hB0.alloc hB0.size _).trans (hb1.mono (by simp; omega))
  have m7 := keep_blk hb1 (Blk.alloc (Blk.new w 36 #[.bool false, .slice none 0 0]) _)
  have m3 := m7.cell 0
  have m4 := m7.cell 1
  have m5 := m7.frozen 0
  have m6 := m7.frozen 1
  simp at m3 m4
  have hlt := m7.lt
  have HM := hide m7
  clear m7 hz hR1
  go_wp2_with fail
  refine bodyPost_ret (v := .agg #[.bool neg1, .slice A1 n1 c1]) (by simp [results, Try.results55, go_sem, m3, m4, hlt]) rfl ?_
  exact (NumW.box hW1 hB1 (Nat.le_refl _) HM.out).alloc _

set_option maxRecDepth 100000 in
set_option maxHeartbeats 1000000 in
theorem rFrom_neg (v : Nat) (w : World) (hv0 : 0 < v) (hv : v ≤ 9223372036854775808) :
    Calls Try.prog 55 #[.int .i64 (-(v : Int))] w (NumW w (-(v : Int))) := by
  have hd0 : decide (-(v : Int) < 0) = true := by simp; omega
  go_enter Try.func55, Try.ntmps55
  go_wp2_with fail
  have hB0 : Below w.heap.size w (w.alloc (.cells #[.bool false, .slice none 0 0] 36)) := (Below.refl w.heap.size w).alloc (Nat.le_refl _) _
  refine (rmade_any _ _ _ _ [v % 4294967296, v / 4294967296] _ (by
    refine Lim.pair2 w _ _ (by omega) ?_ ?_ <;> first | rfl | omega | (simp only [IntKind.wrap_u64]; omega)) (by omega)).mono ?_
  rintro e w1 ⟨hb1, neg1, A1, n1, c1, code1, rfl, hR1⟩
  have hz : sg true (val [v % 4294967296, v / 4294967296]) = -(v : Int) := by simp [sg, val]; omega
  rw [hz] at hR1
  have hW1 : Wd w1 neg1 A1 n1 c1 (-(v : Int)) := hR1.small (small_i64 (by omega))
  have hB1 : Below w.heap.size w w1 := (hB0.alloc hB0.size _).trans (hb1.mono (by simp; omega))
  have m7 := keep_blk hb1 (Blk.alloc (Blk.new w 36 #[.bool false, .slice none 0 0]) _)
  have m3 := m7.cell 0
  have m4 := m7.cell 1
  have m5 := m7.frozen 0
  have m6 := m7.frozen 1
  simp at m3 m4
  have hlt := m7.lt
  have HM := hide m7
  clear m7 hz hR1
  go_wp2_with fail
  refine bodyPost_ret (v := .agg #[.bool neg1, .slice A1 n1 c1]) (by simp [results, Try.results55, go_sem, m3, m4, hlt]) rfl ?_
  exact (NumW.box hW1 hB1 (Nat.le_refl _) HM.out).alloc _

theorem From_any (z : Int) (w : World) (h1 : -9223372036854775808 ≤ z) (h2 : z ≤ 9223372036854775807) : Calls Try.prog 54 #[.int .i64 z] w (NumW w z) := by
  rcases Int.le_total 0 z with h | h
  · obtain ⟨v, rfl⟩ := Int.eq_ofNat_of_zero_le h
    exact From_pos v w (by omega)
  · rcases Int.eq_ofNat_of_zero_le (show 0 ≤ -z by omega) with ⟨v, hv⟩
    obtain rfl : z = -(v : Int) := by omega
    rcases Nat.eq_zero_or_pos v with rfl | h0
    · exact From_pos 0 w (by omega)
    · exact From_neg v w h0 (by omega)

theorem rFrom_any (z : Int) (w : World) (h1 : -9223372036854775808 ≤ z) (h2 : z ≤ 9223372036854775807) : Calls Try.prog 55 #[.int .i64 z] w (NumW w z) := by
  rcases Int.le_total 0 z with h | h
  · obtain ⟨v, rfl⟩ := Int.eq_ofNat_of_zero_le h
    exact rFrom_pos v w (by omega)
  · rcases Int.eq_ofNat_of_zero_le (show 0 ≤ -z by omega) with ⟨v, hv⟩
    obtain rfl : z = -(v : Int) := by omega
    rcases Nat.eq_zero_or_pos v with rfl | h0
    · exact rFrom_pos 0 w (by omega)
    · exact rFrom_neg v w h0 (by omega)
end Go.Proofs.Ytljocgdhdilglaa
