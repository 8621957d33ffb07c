/- Package wide: Sub. From, of the program and of the reference. Polynomials: lists of whole numbers, the coefficient of the lowest power first. -/
import Derived.Test.YtljocgdhdilglaaGreatZr06
import Derived.Test.YtljocgdhdilglaaGreatZr10
import Derived.Test.YtljocgdhdilglaaGreatZr01
set_option linter.unusedSimpArgs false
set_option linter.unusedVariables false

namespace Go.Proofs.YtljocgdhdilglaaGreat
open Go.RowKit
attribute [local go_sem] add_lit

set_option maxRecDepth 100000 in
set_option maxHeartbeats 1000000 in
theorem Sub_bad (na nb : Bool) (A B : Option Addr) (n c m d : Nat) (la lb : List Nat) (w : World) (hLa : Lim w A n c la) (hLb : Lim w B m d lb) (hbad : (okW na la && okW nb lb) = false) :
    Calls Tryz.prog 51 #[.agg #[.bool na, .slice A n c], .agg #[.bool nb, .slice B m d]] w (BadW w) := by
  have hB0 : ∀ X Y Z V : Obj, Below w.heap.size w ((((w.alloc X).alloc Y).alloc Z).alloc V) := fun X Y Z V => ((((Below.refl w.heap.size w).alloc (Nat.le_refl _) _).alloc (by simp) _).alloc (by simp; omega) _).alloc (by simp; omega) _
  have hW : ∀ X Y Z t, WL ((((w.alloc X).alloc Y).alloc Z).alloc (.cells #[.bool na, .slice A n c, .bool nb, .slice B m d] t)) (some ⟨w.heap.size + 1 + 1 + 1, 0, none⟩) 2 2 [⟨na, A, n, c, la⟩, ⟨nb, B, m, d, lb⟩] := fun X Y Z t => by
    have := WL.two (neg := na) (neg' := nb) (((hLa.alloc X).alloc Y).alloc Z) (((hLb.alloc X).alloc Y).alloc Z) t
    simp only [World.size_alloc] at this; exact this
  have hW := hide hW
  have hB0 := hide hB0
  have hbad := hide hbad
  go_enter Tryz.func51, Tryz.ntmps51
  go_wp2_with fail
  refine (check_bad (hW.out _ _ _ _) (by have := hbad.out; simpa [WE.ok] using this)).mono ?_
  rintro e w1 ⟨rfl, hb1⟩
  obtain ⟨hc1, hf1⟩ := bcell hb1
  have hz1 : w.heap.size + 1 + 1 + 1 < w1.heap.size := by have := hb1.size; simp at this; omega
  have hB1 : Below w.heap.size w w1 := (hB0.out _ _ _ _).trans (hb1.mono (by simp; omega))
  go_wp2_with fail
  have hg : w1.cell? ⟨w.heap.size + 1 + 1, 0, none⟩ = some (.bool false) := by simp [hc1, go_sem]
  have hg' : w1.cell? ⟨w.heap.size + 1 + 1, 1, none⟩ = some (.slice none 0 0) := by simp [hc1, go_sem]
  refine bodyPost_ret (v := .tuple #[.agg #[.bool false, .slice none 0 0], .int .i64 8]) (by simp [results, Tryz.results51, go_sem, hg, hg']) rfl ?_
  exact ⟨rfl, (hB1.setCell (p := ⟨w.heap.size + 1 + 1, 0, none⟩) (by simp; omega) _).setCell (p := ⟨w.heap.size + 1 + 1, 1, none⟩) (by simp; omega) _⟩

set_option maxRecDepth 100000 in
set_option maxHeartbeats 1000000 in
theorem Sub_ok (na nb : Bool) (A B : Option Addr) (n c m d : Nat) (za zb : Int) (w : World) (ha : Wd w na A n c za) (hb : Wd w nb B m d zb) :
    Calls Tryz.prog 51 #[.agg #[.bool na, .slice A n c], .agg #[.bool nb, .slice B m d]] w (ResW w (za - zb)) := by
  have hLa := ha.lim
  have hLb := hb.lim
  have hn := ha.2.1
  have hm := hb.2.1
  have hB0 : ∀ X Y Z V : Obj, Below w.heap.size w ((((w.alloc X).alloc Y).alloc Z).alloc V) := fun X Y Z V => ((((Below.refl w.heap.size w).alloc (Nat.le_refl _) _).alloc (by simp) _).alloc (by simp; omega) _).alloc (by simp; omega) _
  have hW : ∀ X Y Z t, WL ((((w.alloc X).alloc Y).alloc Z).alloc (.cells #[.bool na, .slice A n c, .bool nb, .slice B m d] t)) (some ⟨w.heap.size + 1 + 1 + 1, 0, none⟩) 2 2 [⟨na, A, n, c, digits za.natAbs⟩, ⟨nb, B, m, d, digits zb.natAbs⟩] := fun X Y Z t => by
    have := WL.two (neg := na) (neg' := nb) (((hLa.alloc X).alloc Y).alloc Z) (((hLb.alloc X).alloc Y).alloc Z) t
    simp only [World.size_alloc] at this; exact this
  have hW := hide hW
  have hB0 := hide hB0
  have hgood : Hid (okW na (digits za.natAbs) = true ∧ okW nb (digits zb.natAbs) = true) := ⟨ha.ok, hb.ok⟩
  have hza := hide ha.sgEq
  have hzb := hide hb.sgEq
  clear ha hb
  go_enter Tryz.func51, Tryz.ntmps51
  go_wp2_with fail
  refine (check_ok (hW.out _ _ _ _) (by have := hgood.out; simp [WE.ok, this])).mono ?_
  rintro e w1 ⟨rfl, hb1⟩
  obtain ⟨hc1, hf1⟩ := bcell hb1
  have hz1 : w.heap.size + 1 + 1 + 1 < w1.heap.size := by have := hb1.size; simp at this; omega
  have hB1 : Below w.heap.size w w1 := (hB0.out _ _ _ _).trans (hb1.mono (by simp; omega))
  have g0 : w1.cell? ⟨w.heap.size, 0, none⟩ = some (.bool na) := by simp [hc1, go_sem]
  have g1 : w1.cell? ⟨w.heap.size, 1, none⟩ = some (.slice A n c) := by simp [hc1, go_sem]
  have g2 : w1.cell? ⟨w.heap.size + 1, 0, none⟩ = some (.bool nb) := by simp [hc1, go_sem]
  have g3 : w1.cell? ⟨w.heap.size + 1, 1, none⟩ = some (.slice B m d) := by simp [hc1, go_sem]
  have gf : w1.frozen? ⟨w.heap.size + 1, 0, none⟩ = false := by simp [hf1, go_sem]
  have gB : Blk w1 (w.heap.size + 1) 25 #[.bool nb, .slice B m d] := by
    refine keep_blk hb1 ((Blk.alloc (Blk.alloc ?_ _) _))
    have := Blk.new (w.alloc (.cells #[.bool na, .slice A n c] 25)) 25 #[.bool nb, .slice B m d]
    simp only [World.size_alloc] at this; exact this
  have g7 : Blk w1 (w.heap.size + 1 + 1) 25 #[.bool false, .slice none 0 0] := by
    refine keep_blk hb1 (Blk.alloc ?_ _)
    have := Blk.new ((w.alloc (.cells #[.bool na, .slice A n c] 25)).alloc (.cells #[.bool nb, .slice B m d] 25)) 25 #[.bool false, .slice none 0 0]
    simp only [World.size_alloc] at this; exact this
  have hLa1 := hLa.below hB1
  have hLb1 := hLb.below hB1
  have HB := hide gB
  clear gB hc1 hf1
  have hB1S : w.heap.size ≤ (w1.setCell ⟨w.heap.size + 1, 0, none⟩ (.bool (!nb))).heap.size := by simp; omega
  go_wp2_with fail
  refine (add_any _ _ _ _ _ _ _ _ _ _ _ (by exact hLa1.set_box HB.out (NoLimb.box _ _ _ _) _ _) (by exact hLb1.set_box HB.out (NoLimb.box _ _ _ _) _ _) hn hm).mono ?_
  rintro e w2 ⟨hb2, neg2, A2, n2, c2, code2, rfl, hR2⟩
  have hB2 : Below w.heap.size w w2 := (hB1.setCell (p := ⟨w.heap.size + 1, 0, none⟩) (by simp) _).trans (hb2.mono hB1S)
  have m7 := keep_blk hb2 (g7.far (by simp) _)
  have m3 := m7.cell 0
  have m4 := m7.cell 1
  have m5 := m7.frozen 0
  have m6 := m7.frozen 1
  simp at m3 m4
  have HM := hide m7
  clear m7
  go_wp2_with fail
  have HZ : sg na za.natAbs + sg (!nb) zb.natAbs = za - zb := by
    have h1 := hza.out; have h2 := hzb.out; rw [val_digits] at h1 h2; rw [sg_not, h1, h2]; omega
  refine bodyPost_ret (v := .tuple #[.agg #[.bool neg2, .slice A2 n2 c2], .int .i64 code2]) (by simp [results, Tryz.results51, go_sem, m3, m4]) rfl ?_
  exact ResW.box (HZ ▸ hR2) hB2 (by omega) HM.out
end Go.Proofs.YtljocgdhdilglaaGreat

namespace Go.Proofs.YtljocgdhdilglaaGreat
open Go.RowKit
attribute [local go_sem] add_lit

/-- A result that is one number. -/
def NumW (w : World) (z : Int) (e : Ending) (w' : World) : Prop :=
  Below w.heap.size w w' ∧ ∃ neg A n c, e = .returned (.agg #[.bool neg, .slice A n c]) ∧ Wd w' neg A n c z

theorem Lim.pair (w : World) (t : TypeId) {v : Nat} (hv : v < 18446744073709551616) {X Y : Int} (hX : X = (v % 4294967296 : Nat)) (hY : Y = (v / 4294967296 : Nat)) :
    Lim (w.alloc (.cells #[.int .u32 X, .int .u32 Y] t)) (some ⟨w.heap.size, 0, none⟩) 2 2 [v % 4294967296, v / 4294967296] := by
  subst hX hY
  exact Lim.of_blk (l := [v % 4294967296, v / 4294967296]) (Blk.new w t _) (Lt32.cons (Nat.mod_lt _ (by decide)) (Lt32.cons (by omega) Lt32.nil)) (by unfold maxLen; simp)
theorem Lim.pair2 (w : World) (o : Obj) (t : TypeId) {v : Nat} (hv : v < 18446744073709551616) {X Y : Int} (hX : X = (v % 4294967296 : Nat)) (hY : Y = (v / 4294967296 : Nat)) :
    Lim ((w.alloc o).alloc (.cells #[.int .u32 X, .int .u32 Y] t)) (some ⟨w.heap.size + 1, 0, none⟩) 2 2 [v % 4294967296, v / 4294967296] := by
  have := Lim.pair (w.alloc o) t hv hX hY
  rw [World.size_alloc] at this; exact this
theorem small_i64 {z : Int} (h : z.natAbs ≤ 9223372036854775808) : z.natAbs < pw 4096 :=
  Nat.lt_of_lt_of_le (Nat.lt_of_le_of_lt h (show 9223372036854775808 < pw 2 by decide)) (pw_le (by omega))
theorem ResP.small {w : World} {z : Int} {neg : Bool} {A : Option Addr} {n c : Nat} {code : Int} (h : ResP w z neg A n c code) (hs : z.natAbs < pw 4096) : Wd w neg A n c z := by
  rcases h with ⟨_, _, h⟩ | ⟨h, _⟩
  · exact h
  · omega
theorem Wd.alloc {w : World} {neg : Bool} {A : Option Addr} {n c : Nat} {z : Int} (h : Wd w neg A n c z) (o : Obj) : Wd (w.alloc o) neg A n c z := ⟨h.1, h.2.1, h.2.2.alloc o⟩
theorem NumW.box {w w3 : World} {z : Int} {neg : Bool} {A : Option Addr} {n c : Nat} {g : Nat} {t : TypeId} {b0 : Bool} {A0 : Option Addr} {n0 c0 : Nat} (hP : Wd w3 neg A n c z) (hB : Below w.heap.size w w3) (hg : w.heap.size ≤ g) (hb : Blk w3 g t #[.bool b0, .slice A0 n0 c0]) :
    NumW w z (.returned (.agg #[.bool neg, .slice A n c])) ((w3.setCell ⟨g, 0, none⟩ (.bool neg)).setCell ⟨g, 1, none⟩ (.slice A n c)) := by
  have hb1 : Blk (w3.setCell ⟨g, 0, none⟩ (.bool neg)) g t #[.bool neg, .slice A0 n0 c0] := hb.set_ 0 (.bool neg)
  exact ⟨(hB.setCell (p := ⟨g, 0, none⟩) hg _).setCell (p := ⟨g, 1, none⟩) hg _, _, _, _, _, rfl, hP.1, hP.2.1, (hP.2.2.set_box hb (NoLimb.box _ _ _ _) _ _).set_box hb1 (NoLimb.box _ _ _ _) _ _⟩
theorem NumW.alloc {w w' : World} {z : Int} {e : Ending} (h : NumW w z e w') (o : Obj) : NumW w z e (w'.alloc o) := by
  obtain ⟨hb, neg, A, n, c, he, hw⟩ := h
  exact ⟨hb.alloc hb.size _, neg, A, n, c, he, hw.alloc o⟩

set_option maxRecDepth 100000 in
set_option maxHeartbeats 1000000 in
theorem From_pos (v : Nat) (w : World) (hv : v < 9223372036854775808) :
    Calls Tryz.prog 71 #[.int .i64 v] w (NumW w (v)) := by
  have hd0 : decide ((v : Int) < 0) = false := by simp
  go_enter Tryz.func71, Tryz.ntmps71
  go_wp2_with fail
  have hB0 : Below w.heap.size w (w.alloc (.cells #[.bool false, .slice none 0 0] 25)) := (Below.refl w.heap.size w).alloc (Nat.le_refl _) _
  refine (made_any _ _ _ _ [v % 4294967296, v / 4294967296] _ (by
    refine Lim.pair2 w _ _ (by omega) ?_ ?_ <;> first | rfl | omega | (simp only [IntKind.wrap_u64]; omega))).mono ?_
  rintro e w1 ⟨hb1, neg1, A1, n1, c1, code1, rfl, hR1⟩
  have hz : sg false (val [v % 4294967296, v / 4294967296]) = v := by simp [sg, val]; omega
  rw [hz] at hR1
  have hW1 : Wd w1 neg1 A1 n1 c1 (v) := hR1.small (small_i64 (by omega))
  have hB1 : Below w.heap.size w w1 := (hB0.alloc hB0.size _).trans (hb1.mono (by simp; omega))
  have m7 := keep_blk hb1 (Blk.alloc (Blk.new w 25 #[.bool false, .slice none 0 0]) _)
  have m3 := m7.cell 0
  have m4 := m7.cell 1
  have m5 := m7.frozen 0
  have m6 := m7.frozen 1
  simp at m3 m4
  have hlt := m7.lt
  have HM := hide m7
  clear m7 hz hR1
  go_wp2_with fail
  refine bodyPost_ret (v := .agg #[.bool neg1, .slice A1 n1 c1]) (by simp [results, Tryz.results71, go_sem, m3, m4, hlt]) rfl ?_
  exact (NumW.box hW1 hB1 (Nat.le_refl _) HM.out).alloc _

set_option maxRecDepth 100000 in
set_option maxHeartbeats 1000000 in
theorem From_neg (v : Nat) (w : World) (hv0 : 0 < v) (hv : v ≤ 9223372036854775808) :
    Calls Tryz.prog 71 #[.int .i64 (-(v : Int))] w (NumW w (-(v : Int))) := by
  have hd0 : decide (-(v : Int) < 0) = true := by simp; omega
  go_enter Tryz.func71, Tryz.ntmps71
  go_wp2_with fail
  have hB0 : Below w.heap.size w (w.alloc (.cells #[.bool false, .slice none 0 0] 25)) := (Below.refl w.heap.size w).alloc (Nat.le_refl _) _
  refine (made_any _ _ _ _ [v % 4294967296, v / 4294967296] _ (by
    refine Lim.pair2 w _ _ (by omega) ?_ ?_ <;> first | rfl | omega | (simp only [IntKind.wrap_u64]; omega))).mono ?_
  rintro e w1 ⟨hb1, neg1, A1, n1, c1, code1, rfl, hR1⟩
  have hz : sg true (val [v % 4294967296, v / 4294967296]) = -(v : Int) := by simp [sg, val]; omega
  rw [hz] at hR1
  have hW1 : Wd w1 neg1 A1 n1 c1 (-(v : Int)) := hR1.small (small_i64 (by omega))
  have hB1 : Below w.heap.size w w1 := (hB0.alloc hB0.size _).trans (hb1.mono (by simp; omega))
  have m7 := keep_blk hb1 (Blk.alloc (Blk.new w 25 #[.bool false, .slice none 0 0]) _)
  have m3 := m7.cell 0
  have m4 := m7.cell 1
  have m5 := m7.frozen 0
  have m6 := m7.frozen 1
  simp at m3 m4
  have hlt := m7.lt
  have HM := hide m7
  clear m7 hz hR1
  go_wp2_with fail
  refine bodyPost_ret (v := .agg #[.bool neg1, .slice A1 n1 c1]) (by simp [results, Tryz.results71, go_sem, m3, m4, hlt]) rfl ?_
  exact (NumW.box hW1 hB1 (Nat.le_refl _) HM.out).alloc _

set_option maxRecDepth 100000 in
set_option maxHeartbeats 1000000 in
theorem rFrom_pos (v : Nat) (w : World) (hv : v < 9223372036854775808) :
    Calls Tryz.prog 30 #[.int .i64 v] w (NumW w (v)) := by
  have hd0 : decide ((v : Int) < 0) = false := by simp
  go_enter Tryz.func30, Tryz.ntmps30
  go_wp2_with fail
  have hB0 : Below w.heap.size w (w.alloc (.cells #[.bool false, .slice none 0 0] 25)) := (Below.refl w.heap.size w).alloc (Nat.le_refl _) _
  refine (rmade_any _ _ _ _ [v % 4294967296, v / 4294967296] _ (by
    refine Lim.pair2 w _ _ (by omega) ?_ ?_ <;> first | rfl | omega | (simp only [IntKind.wrap_u64]; omega)) (by omega)).mono ?_
  rintro e w1 ⟨hb1, neg1, A1, n1, c1, code1, rfl, hR1⟩
  have hz : sg false (val [v % 4294967296, v / 4294967296]) = v := by simp [sg, val]; omega
  rw [hz] at hR1
  have hW1 : Wd w1 neg1 A1 n1 c1 (v) := hR1.small (small_i64 (by omega))
  have hB1 : Below w.heap.size w w1 := (hB0.alloc hB0.size _).trans (hb1.mono (by simp; omega))
  have m7 := keep_blk hb1 (Blk.alloc (Blk.new w 25 #[.bool false, .slice none 0 0]) _)
  have m3 := m7.cell 0
  have m4 := m7.cell 1
  have m5 := m7.frozen 0
  have m6 := m7.frozen 1
  simp at m3 m4
  have hlt := m7.lt
  have HM := hide m7
  clear m7 hz hR1
  go_wp2_with fail
  refine bodyPost_ret (v := .agg #[.bool neg1, .slice A1 n1 c1]) (by simp [results, Tryz.results30, go_sem, m3, m4, hlt]) rfl ?_
  exact (NumW.box hW1 hB1 (Nat.le_refl _) HM.out).alloc _

set_option maxRecDepth 100000 in
set_option maxHeartbeats 1000000 in
theorem rFrom_neg (v : Nat) (w : World) (hv0 : 0 < v) (hv : v ≤ 9223372036854775808) :
    Calls Tryz.prog 30 #[.int .i64 (-(v : Int))] w (NumW w (-(v : Int))) := by
  have hd0 : decide (-(v : Int) < 0) = true := by simp; omega
  go_enter Tryz.func30, Tryz.ntmps30
  go_wp2_with fail
  have hB0 : Below w.heap.size w (w.alloc (.cells #[.bool false, .slice none 0 0] 25)) := (Below.refl w.heap.size w).alloc (Nat.le_refl _) _
  refine (rmade_any _ _ _ _ [v % 4294967296, v / 4294967296] _ (by
    refine Lim.pair2 w _ _ (by omega) ?_ ?_ <;> first | rfl | omega | (simp only [IntKind.wrap_u64]; omega)) (by omega)).mono ?_
  rintro e w1 ⟨hb1, neg1, A1, n1, c1, code1, rfl, hR1⟩
  have hz : sg true (val [v % 4294967296, v / 4294967296]) = -(v : Int) := by simp [sg, val]; omega
  rw [hz] at hR1
  have hW1 : Wd w1 neg1 A1 n1 c1 (-(v : Int)) := hR1.small (small_i64 (by omega))
  have hB1 : Below w.heap.size w w1 := (hB0.alloc hB0.size _).trans (hb1.mono (by simp; omega))
  have m7 := keep_blk hb1 (Blk.alloc (Blk.new w 25 #[.bool false, .slice none 0 0]) _)
  have m3 := m7.cell 0
  have m4 := m7.cell 1
  have m5 := m7.frozen 0
  have m6 := m7.frozen 1
  simp at m3 m4
  have hlt := m7.lt
  have HM := hide m7
  clear m7 hz hR1
  go_wp2_with fail
  refine bodyPost_ret (v := .agg #[.bool neg1, .slice A1 n1 c1]) (by simp [results, Tryz.results30, go_sem, m3, m4, hlt]) rfl ?_
  exact (NumW.box hW1 hB1 (Nat.le_refl _) HM.out).alloc _

theorem From_any (z : Int) (w : World) (h1 : -9223372036854775808 ≤ z) (h2 : z ≤ 9223372036854775807) : Calls Tryz.prog 71 #[.int .i64 z] w (NumW w z) := by
  rcases Int.le_total 0 z with h | h
  · obtain ⟨v, rfl⟩ := Int.eq_ofNat_of_zero_le h
    exact From_pos v w (by omega)
  · rcases Int.eq_ofNat_of_zero_le (show 0 ≤ -z by omega) with ⟨v, hv⟩
    obtain rfl : z = -(v : Int) := by omega
    rcases Nat.eq_zero_or_pos v with rfl | h0
    · exact From_pos 0 w (by omega)
    · exact From_neg v w h0 (by omega)

theorem rFrom_any (z : Int) (w : World) (h1 : -9223372036854775808 ≤ z) (h2 : z ≤ 9223372036854775807) : Calls Tryz.prog 30 #[.int .i64 z] w (NumW w z) := by
  rcases Int.le_total 0 z with h | h
  · obtain ⟨v, rfl⟩ := Int.eq_ofNat_of_zero_le h
    exact rFrom_pos v w (by omega)
  · rcases Int.eq_ofNat_of_zero_le (show 0 ≤ -z by omega) with ⟨v, hv⟩
    obtain rfl : z = -(v : Int) := by omega
    rcases Nat.eq_zero_or_pos v with rfl | h0
    · exact rFrom_pos 0 w (by omega)
    · exact rFrom_neg v w h0 (by omega)
end Go.Proofs.YtljocgdhdilglaaGreat

namespace Go.Proofs.YtljocgdhdilglaaGreat
open Go.RowKit

/-- A coefficient that is not valid. -/
def WE.bad (e : WE) : Bool := decide (40 < e.l.length) || !e.ok
/-- Is the list a valid polynomial? -/
def pOk (es : List WE) : Bool := decide (es.length ≤ 9) && !es.any WE.bad && !(es.getLast?.any fun e => e.l.isEmpty)

/-- Zeros at the end cut off. -/
def trimP : List Int → List Int
  | [] => []
  | x :: l => match trimP l with
    | [] => if x = 0 then [] else [x]
    | y :: m => x :: y :: m

/-- Coefficients that are small enough. -/
def okP (xs : List Int) : Bool := decide (xs.length ≤ 9) && xs.all fun x => decide (x.natAbs < pw 40)

theorem trimP_take {xs : List Int} {k : Nat} (hz : ∀ j, k ≤ j → xs[j]?.getD 0 = 0) (hk : k = 0 ∨ xs[k - 1]?.getD 0 ≠ 0) : trimP xs = xs.take k := by
  induction xs generalizing k with
  | nil => simp [trimP]
  | cons x l ih =>
    cases k with
    | zero =>
      have h0 := hz 0 (Nat.le_refl _)
      have := ih (k := 0) (fun j _ => by have := hz (j + 1) (by omega); simpa using this) (.inl rfl)
      simp at h0
      simp [trimP, this, h0]
    | succ k =>
      have h1 : ∀ j, k ≤ j → l[j]?.getD 0 = 0 := fun j hj => by have := hz (j + 1) (by omega); simpa using this
      rcases Nat.eq_zero_or_pos k with rfl | h
      · have := ih (k := 0) (fun j _ => h1 j (by omega)) (.inl rfl)
        have hx : x ≠ 0 := by rcases hk with hk | hk; omega; simpa using hk
        simp [trimP, this, hx]
      · have hk' : l[k - 1]?.getD 0 ≠ 0 := by
          rcases hk with hk | hk
          · omega
          · rw [show k + 1 - 1 = (k - 1) + 1 by omega] at hk; simpa using hk
        have h2 := ih h1 (.inr hk')
        have hne : l.take k ≠ [] := by
          intro he
          have : l[k - 1]? = none := by
            rcases Nat.lt_or_ge (k - 1) l.length with h' | h'
            · have := congrArg List.length he; rw [List.length_take, List.length_nil] at this; omega
            · exact List.getElem?_eq_none h'
          rw [this] at hk'; simp at hk'
        rw [trimP, h2, List.take_succ_cons]
        cases hl : l.take k with
        | nil => exact absurd hl hne
        | cons y m => rfl

/-- The slice holds valid numbers, worth xs. -/
def PolyL (w : World) (A : Option Addr) (n c : Nat) (xs : List Int) : Prop := ∃ es, WL w A n c es ∧ es.map WE.num = xs ∧ ∀ e ∈ es, e.ok = true

theorem WE.num_zero {w : World} {e : WE} (h : Lim w e.A e.n e.c e.l) (hk : e.ok = true) : e.n = 0 ↔ e.num = 0 := by
  have h1 := (okW_iff h.lt).1 hk
  have h2 := h.len
  constructor
  · intro h0
    have : e.l = [] := List.eq_nil_of_length_eq_zero (by omega)
    unfold WE.num; rw [this]; cases e.neg <;> simp [sg, val]
  · intro h0
    have h3 := h1.2.2
    unfold WE.num at h0
    rw [h0] at h3
    rw [← h2, h3]; simp [digits_zero]
theorem WE.wd {w : World} {e : WE} (h : Lim w e.A e.n e.c e.l) (hk : e.ok = true) : Wd w e.neg e.A e.n e.c e.num := Wd.of_ok h hk
theorem WE.len40 {w : World} {e : WE} (h : Lim w e.A e.n e.c e.l) (hk : e.ok = true) : e.l.length ≤ 40 ↔ e.num.natAbs < pw 40 := by
  have h1 := (okW_iff h.lt).1 hk
  have h3 := h1.2.2
  have : e.l.length = (digits e.num.natAbs).length := by unfold WE.num; rw [← h3]
  rw [this, length_digits_le]

theorem PolyL.pok {w : World} {A : Option Addr} {n c : Nat} {es : List WE} (h : WL w A n c es) (hk : ∀ e ∈ es, e.ok = true) (hl : ∀ x, (es.map WE.num).getLast? = some x → x ≠ 0) : pOk es = okP (es.map WE.num) := by
  have h1 : es.any WE.bad = !(es.map WE.num).all fun x => decide (x.natAbs < pw 40) := by
    rw [List.all_map, Bool.eq_iff_iff]
    simp only [List.any_eq_true, Bool.not_eq_true', List.all_eq_false, Function.comp]
    constructor
    · rintro ⟨e, he, hb⟩
      refine ⟨e, he, ?_⟩
      simp only [WE.bad, hk e he, Bool.not_true, Bool.or_false, decide_eq_true_eq] at hb
      have := WE.len40 (h.2.2.2.2 e he) (hk e he)
      simp only [decide_eq_true_eq]
      intro h'
      have := this.2 h'
      omega
    · rintro ⟨e, he, hb⟩
      refine ⟨e, he, ?_⟩
      simp only [WE.bad, hk e he, Bool.not_true, Bool.or_false, decide_eq_true_eq]
      have := WE.len40 (h.2.2.2.2 e he) (hk e he)
      simp only [decide_eq_true_eq] at hb
      rcases Nat.lt_or_ge 40 e.l.length with h' | h'
      · exact h'
      · exact absurd (this.1 h') hb
  have h2 : (es.getLast?.any fun e => e.l.isEmpty) = false := by
    rcases Option.eq_none_or_eq_some es.getLast? with h' | ⟨e, h'⟩
    · rw [h']; rfl
    · rw [h']
      have he := List.mem_of_getLast? h'
      have hx := hl e.num (by rw [List.getLast?_map, h']; rfl)
      have h0 := WE.num_zero (h.2.2.2.2 e he) (hk e he)
      simp only [Option.any_some]
      rw [Bool.eq_false_iff]
      intro hh
      have : e.l = [] := by simpa using hh
      exact hx (h0.1 (by rw [← (h.2.2.2.2 e he).len, this]; rfl))
  unfold pOk okP
  rw [h1, h2]
  simp
theorem trimP_last (xs : List Int) : ∀ x, (trimP xs).getLast? = some x → x ≠ 0 := by
  induction xs with
  | nil => simp [trimP]
  | cons a l ih =>
    intro x hx
    rw [trimP] at hx
    cases hl : trimP l with
    | nil =>
      rw [hl] at hx
      by_cases ha : a = 0
      · simp [ha] at hx
      · simp [ha] at hx; rw [← hx]; exact ha
    | cons y m =>
      rw [hl] at hx ih
      exact ih x (by simpa using hx)
theorem PolyL.below {w w' : World} {A : Option Addr} {n c : Nat} {xs : List Int} (h : PolyL w A n c xs) (hb : Below w.heap.size w w') : PolyL w' A n c xs := by
  obtain ⟨es, h1, h2, h3⟩ := h
  exact ⟨es, h1.below hb, h2, h3⟩
theorem PolyL.take {w : World} {A : Option Addr} {n c : Nat} {xs : List Int} (h : PolyL w A n c xs) {k : Nat} (hk : k ≤ n) : PolyL w A k c (xs.take k) := by
  obtain ⟨es, h1, h2, h3⟩ := h
  exact ⟨es.take k, h1.take hk, by rw [List.map_take, h2], fun e he => h3 e (List.mem_of_mem_take he)⟩
theorem PolyL.len {w : World} {A : Option Addr} {n c : Nat} {xs : List Int} (h : PolyL w A n c xs) : xs.length = n := by
  obtain ⟨es, h1, h2, h3⟩ := h
  rw [← h2, List.length_map]; exact h1.len
theorem PolyL.nil (w : World) (A : Option Addr) (c : Nat) (hc : c ≤ maxLen) : PolyL w A 0 c [] := ⟨[], WL.nil w A c hc, rfl, fun e h => by cases h⟩

/-- A result (polynomial, error). -/
def ResPoly (w : World) (xs : List Int) (e : Ending) (w' : World) : Prop :=
  Below w.heap.size w w' ∧ ∃ A n c code, e = .returned (.tuple #[.slice A n c, .int .i64 code]) ∧ ((okP (trimP xs) = true ∧ code = 0 ∧ PolyL w' A n c (trimP xs)) ∨ (okP (trimP xs) = false ∧ code = 16 ∧ n = 0 ∧ c = 0))
/-- A result (polynomial, error) for a polynomial that is not valid. -/
def BadPoly (w : World) (e : Ending) (w' : World) : Prop := Below w.heap.size w w' ∧ ∃ A, e = .returned (.tuple #[.slice A 0 0, .int .i64 8])
end Go.Proofs.YtljocgdhdilglaaGreat
