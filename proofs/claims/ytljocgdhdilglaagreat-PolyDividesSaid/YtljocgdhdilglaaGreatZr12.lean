/- Package planisphereref01: Add. Package wide: Mul. Package wide: Add. -/
import Derived.Test.YtljocgdhdilglaaGreatZr10
import Derived.Test.YtljocgdhdilglaaGreatZr06
set_option linter.unusedSimpArgs false
set_option linter.unusedVariables false

namespace Go.Proofs.YtljocgdhdilglaaGreat
open Go.RowKit
attribute [local go_sem] add_lit

set_option maxRecDepth 100000 in
set_option maxHeartbeats 1000000 in
theorem rAdd_bad (na nb : Bool) (A B : Option Addr) (n c m d : Nat) (la lb : List Nat) (w : World) (hLa : Lim w A n c la) (hLb : Lim w B m d lb) (hbad : (okW na la && okW nb lb) = false) :
    Calls Tryz.prog 86 #[.agg #[.bool na, .slice A n c], .agg #[.bool nb, .slice B m d]] w (BadW w) := by
  have hB0 : Below w.heap.size w (((w.alloc (.cells #[.bool na, .slice A n c] 25)).alloc (.cells #[.bool nb, .slice B m d] 25)).alloc (.cells #[.bool false, .slice none 0 0] 25)) := (((Below.refl w.heap.size w).alloc (Nat.le_refl _) _).alloc (by simp) _).alloc (by simp; omega) _
  have hB0 := hide hB0
  have hbad := hide hbad
  go_enter Tryz.func86, Tryz.ntmps86
  go_wp2_with fail
  refine (rboth_bad (hLa.below hB0.out) (hLb.below hB0.out) hbad.out).mono ?_
  rintro e w1 ⟨rfl, hb1⟩
  obtain ⟨hc1, hf1⟩ := bcell hb1
  have hz1 : w.heap.size + 1 + 1 < w1.heap.size := by have := hb1.size; simp at this; omega
  have hB1 : Below w.heap.size w w1 := hB0.out.trans (hb1.mono (by simp; omega))
  have g0 : w1.cell? ⟨w.heap.size, 0, none⟩ = some (.bool na) := by simp [hc1, go_sem]
  have g1 : w1.cell? ⟨w.heap.size, 1, none⟩ = some (.slice A n c) := by simp [hc1, go_sem]
  have g2 : w1.cell? ⟨w.heap.size + 1, 0, none⟩ = some (.bool nb) := by simp [hc1, go_sem]
  have g3 : w1.cell? ⟨w.heap.size + 1, 1, none⟩ = some (.slice B m d) := by simp [hc1, go_sem]
  have g7 : Blk w1 (w.heap.size + 1 + 1) 25 #[.bool false, .slice none 0 0] := by
    refine keep_blk hb1 ?_
    have := Blk.new ((w.alloc (.cells #[.bool na, .slice A n c] 25)).alloc (.cells #[.bool nb, .slice B m d] 25)) 25 #[.bool false, .slice none 0 0]
    simp only [World.size_alloc] at this; exact this
  have g5 := g7.cell 0
  have g6 := g7.cell 1
  have g8 := g7.frozen 0
  have g9 := g7.frozen 1
  simp at g5 g6
  clear hc1 hf1
  have hLa1 := hLa.below hB1
  have hLb1 := hLb.below hB1
  go_wp2_with fail
  refine (rboth_bad hLa1 hLb1 hbad.out).mono ?_
  rintro e w2 ⟨rfl, hb2⟩
  have hB2 : Below w.heap.size w w2 := hB1.trans (hb2.mono hB1.size)
  have m7 := keep_blk hb2 g7
  have m3 := m7.cell 0
  have m4 := m7.cell 1
  have m5 := m7.frozen 0
  have m6 := m7.frozen 1
  simp at m3 m4
  go_wp2_with fail
  refine bodyPost_ret (v := .tuple #[.agg #[.bool false, .slice none 0 0], .int .i64 8]) (by simp [results, Tryz.results86, go_sem, m3, m4]) rfl ?_
  exact ⟨rfl, (hB2.setCell (p := ⟨w.heap.size + 1 + 1, 0, none⟩) (by simp; omega) _).setCell (p := ⟨w.heap.size + 1 + 1, 1, none⟩) (by simp; omega) _⟩

set_option maxRecDepth 100000 in
set_option maxHeartbeats 1000000 in
theorem rAdd_ok (na nb : Bool) (A B : Option Addr) (n c m d : Nat) (za zb : Int) (w : World) (ha : Wd w na A n c za) (hb : Wd w nb B m d zb) :
    Calls Tryz.prog 86 #[.agg #[.bool na, .slice A n c], .agg #[.bool nb, .slice B m d]] w (ResW w (za + zb)) := by
  have hLa := ha.lim
  have hLb := hb.lim
  have hn := ha.2.1
  have hm := hb.2.1
  have hB0 : Below w.heap.size w (((w.alloc (.cells #[.bool na, .slice A n c] 25)).alloc (.cells #[.bool nb, .slice B m d] 25)).alloc (.cells #[.bool false, .slice none 0 0] 25)) := (((Below.refl w.heap.size w).alloc (Nat.le_refl _) _).alloc (by simp) _).alloc (by simp; omega) _
  have hB0 := hide hB0
  have hgood : Hid ((okW na (digits za.natAbs) && okW nb (digits zb.natAbs)) = true) := by unfold Hid; rw [ha.ok, hb.ok]; rfl
  have hza := hide ha.sgEq
  have hzb := hide hb.sgEq
  have hlb := hide hb.lim.len
  clear ha hb
  go_enter Tryz.func86, Tryz.ntmps86
  go_wp2_with fail
  refine (rboth_ok (hLa.below hB0.out) (hLb.below hB0.out) hgood.out).mono ?_
  rintro e w1 ⟨rfl, hb1⟩
  obtain ⟨hc1, hf1⟩ := bcell hb1
  have hz1 : w.heap.size + 1 + 1 < w1.heap.size := by have := hb1.size; simp at this; omega
  have hB1 : Below w.heap.size w w1 := hB0.out.trans (hb1.mono (by simp; omega))
  have g0 : w1.cell? ⟨w.heap.size, 0, none⟩ = some (.bool na) := by simp [hc1, go_sem]
  have g1 : w1.cell? ⟨w.heap.size, 1, none⟩ = some (.slice A n c) := by simp [hc1, go_sem]
  have g2 : w1.cell? ⟨w.heap.size + 1, 0, none⟩ = some (.bool nb) := by simp [hc1, go_sem]
  have g3 : w1.cell? ⟨w.heap.size + 1, 1, none⟩ = some (.slice B m d) := by simp [hc1, go_sem]
  have g7 : Blk w1 (w.heap.size + 1 + 1) 25 #[.bool false, .slice none 0 0] := by
    refine keep_blk hb1 ?_
    have := Blk.new ((w.alloc (.cells #[.bool na, .slice A n c] 25)).alloc (.cells #[.bool nb, .slice B m d] 25)) 25 #[.bool false, .slice none 0 0]
    simp only [World.size_alloc] at this; exact this
  have g5 := g7.cell 0
  have g6 := g7.cell 1
  have g8 := g7.frozen 0
  have g9 := g7.frozen 1
  simp at g5 g6
  clear hc1 hf1
  have hLa1 := hLa.below hB1
  have hLb1 := hLb.below hB1
  go_wp2_with fail
  refine (rsum_any _ _ _ _ _ _ _ _ _ _ _ (by exact hLa1) (by exact hLb1) hn hm).mono ?_
  rintro e w2 ⟨hb2, neg2, A2, n2, c2, code2, rfl, hR2⟩
  have hB2 : Below w.heap.size w w2 := hB1.trans (hb2.mono hB1.size)
  have m7 := keep_blk hb2 g7
  have m3 := m7.cell 0
  have m4 := m7.cell 1
  have m5 := m7.frozen 0
  have m6 := m7.frozen 1
  simp at m3 m4
  have HM := hide m7
  clear m7
  go_wp2_with fail
  have HZ : sg na za.natAbs + sg nb zb.natAbs = za + zb := by
    have h1 := hza.out; have h2 := hzb.out; rw [val_digits] at h1 h2; rw [h1, h2]
  refine bodyPost_ret (v := .tuple #[.agg #[.bool neg2, .slice A2 n2 c2], .int .i64 code2]) (by simp [results, Tryz.results86, go_sem, m3, m4]) rfl ?_
  exact ResW.box (HZ ▸ hR2) hB2 (by omega) HM.out
end Go.Proofs.YtljocgdhdilglaaGreat

namespace Go.Proofs.YtljocgdhdilglaaGreat
open Go.RowKit
attribute [local go_sem] add_lit

set_option maxRecDepth 100000 in
set_option maxHeartbeats 1000000 in
theorem Mul_bad (na nb : Bool) (A B : Option Addr) (n c m d : Nat) (la lb : List Nat) (w : World) (hLa : Lim w A n c la) (hLb : Lim w B m d lb) (hbad : (okW na la && okW nb lb) = false) :
    Calls Tryz.prog 68 #[.agg #[.bool na, .slice A n c], .agg #[.bool nb, .slice B m d]] w (BadW w) := by
  have hB0 : ∀ X Y Z V : Obj, Below w.heap.size w ((((w.alloc X).alloc Y).alloc Z).alloc V) := fun X Y Z V => ((((Below.refl w.heap.size w).alloc (Nat.le_refl _) _).alloc (by simp) _).alloc (by simp; omega) _).alloc (by simp; omega) _
  have hW : ∀ X Y Z t, WL ((((w.alloc X).alloc Y).alloc Z).alloc (.cells #[.bool na, .slice A n c, .bool nb, .slice B m d] t)) (some ⟨w.heap.size + 1 + 1 + 1, 0, none⟩) 2 2 [⟨na, A, n, c, la⟩, ⟨nb, B, m, d, lb⟩] := fun X Y Z t => by
    have := WL.two (neg := na) (neg' := nb) (((hLa.alloc X).alloc Y).alloc Z) (((hLb.alloc X).alloc Y).alloc Z) t
    simp only [World.size_alloc] at this; exact this
  have hW := hide hW
  have hB0 := hide hB0
  have hbad := hide hbad
  go_enter Tryz.func68, Tryz.ntmps68
  go_wp2_with fail
  refine (check_bad (hW.out _ _ _ _) (by have := hbad.out; simpa [WE.ok] using this)).mono ?_
  rintro e w1 ⟨rfl, hb1⟩
  obtain ⟨hc1, hf1⟩ := bcell hb1
  have hz1 : w.heap.size + 1 + 1 + 1 < w1.heap.size := by have := hb1.size; simp at this; omega
  have hB1 : Below w.heap.size w w1 := (hB0.out _ _ _ _).trans (hb1.mono (by simp; omega))
  go_wp2_with fail
  have hg : w1.cell? ⟨w.heap.size + 1 + 1, 0, none⟩ = some (.bool false) := by simp [hc1, go_sem]
  have hg' : w1.cell? ⟨w.heap.size + 1 + 1, 1, none⟩ = some (.slice none 0 0) := by simp [hc1, go_sem]
  refine bodyPost_ret (v := .tuple #[.agg #[.bool false, .slice none 0 0], .int .i64 8]) (by simp [results, Tryz.results68, go_sem, hg, hg']) rfl ?_
  exact ⟨rfl, (hB1.setCell (p := ⟨w.heap.size + 1 + 1, 0, none⟩) (by simp; omega) _).setCell (p := ⟨w.heap.size + 1 + 1, 1, none⟩) (by simp; omega) _⟩

set_option maxRecDepth 100000 in
set_option maxHeartbeats 1000000 in
theorem Mul_ok (na nb : Bool) (A B : Option Addr) (n c m d : Nat) (za zb : Int) (w : World) (ha : Wd w na A n c za) (hb : Wd w nb B m d zb) :
    Calls Tryz.prog 68 #[.agg #[.bool na, .slice A n c], .agg #[.bool nb, .slice B m d]] w (ResW w (za * zb)) := by
  have hLa := ha.lim
  have hLb := hb.lim
  have hn := ha.2.1
  have hm := hb.2.1
  have hB0 : ∀ X Y Z V : Obj, Below w.heap.size w ((((w.alloc X).alloc Y).alloc Z).alloc V) := fun X Y Z V => ((((Below.refl w.heap.size w).alloc (Nat.le_refl _) _).alloc (by simp) _).alloc (by simp; omega) _).alloc (by simp; omega) _
  have hW : ∀ X Y Z t, WL ((((w.alloc X).alloc Y).alloc Z).alloc (.cells #[.bool na, .slice A n c, .bool nb, .slice B m d] t)) (some ⟨w.heap.size + 1 + 1 + 1, 0, none⟩) 2 2 [⟨na, A, n, c, digits za.natAbs⟩, ⟨nb, B, m, d, digits zb.natAbs⟩] := fun X Y Z t => by
    have := WL.two (neg := na) (neg' := nb) (((hLa.alloc X).alloc Y).alloc Z) (((hLb.alloc X).alloc Y).alloc Z) t
    simp only [World.size_alloc] at this; exact this
  have hW := hide hW
  have hB0 := hide hB0
  have hgood : Hid (okW na (digits za.natAbs) = true ∧ okW nb (digits zb.natAbs) = true) := ⟨ha.ok, hb.ok⟩
  have hza := hide ha.sgEq
  have hzb := hide hb.sgEq
  clear ha hb
  go_enter Tryz.func68, Tryz.ntmps68
  go_wp2_with fail
  refine (check_ok (hW.out _ _ _ _) (by have := hgood.out; simp [WE.ok, this])).mono ?_
  rintro e w1 ⟨rfl, hb1⟩
  obtain ⟨hc1, hf1⟩ := bcell hb1
  have hz1 : w.heap.size + 1 + 1 + 1 < w1.heap.size := by have := hb1.size; simp at this; omega
  have hB1 : Below w.heap.size w w1 := (hB0.out _ _ _ _).trans (hb1.mono (by simp; omega))
  have g0 : w1.cell? ⟨w.heap.size, 0, none⟩ = some (.bool na) := by simp [hc1, go_sem]
  have g1 : w1.cell? ⟨w.heap.size, 1, none⟩ = some (.slice A n c) := by simp [hc1, go_sem]
  have g2 : w1.cell? ⟨w.heap.size + 1, 0, none⟩ = some (.bool nb) := by simp [hc1, go_sem]
  have g3 : w1.cell? ⟨w.heap.size + 1, 1, none⟩ = some (.slice B m d) := by simp [hc1, go_sem]
  have gf : w1.frozen? ⟨w.heap.size + 1, 0, none⟩ = false := by simp [hf1, go_sem]
  have gB : Blk w1 (w.heap.size + 1) 25 #[.bool nb, .slice B m d] := by
    refine keep_blk hb1 ((Blk.alloc (Blk.alloc ?_ _) _))
    have := Blk.new (w.alloc (.cells #[.bool na, .slice A n c] 25)) 25 #[.bool nb, .slice B m d]
    simp only [World.size_alloc] at this; exact this
  have g7 : Blk w1 (w.heap.size + 1 + 1) 25 #[.bool false, .slice none 0 0] := by
    refine keep_blk hb1 (Blk.alloc ?_ _)
    have := Blk.new ((w.alloc (.cells #[.bool na, .slice A n c] 25)).alloc (.cells #[.bool nb, .slice B m d] 25)) 25 #[.bool false, .slice none 0 0]
    simp only [World.size_alloc] at this; exact this
  have hLa1 := hLa.below hB1
  have hLb1 := hLb.below hB1
  have HB := hide gB
  clear gB hc1 hf1
  have g5 := g7.cell 0
  have g6 := g7.cell 1
  have g8 := g7.frozen 0
  have g9 := g7.frozen 1
  simp at g5 g6
  go_wp2_with fail
  go_region_held3 (fun w' => w'.cell? ⟨w.heap.size, 0, none⟩ = some (.bool na) ∧ w'.cell? ⟨w.heap.size, 1, none⟩ = some (.slice A n c) ∧ w'.cell? ⟨w.heap.size + 1, 0, none⟩ = some (.bool nb) ∧ w'.cell? ⟨w.heap.size + 1, 1, none⟩ = some (.slice B m d))
    (((try dsimp only); (repeat' apply And.intro); all_goals (first | go_keep | (simp [*, go_sem]; done))))
    (first
      | (go_at_call 95; refine (times_any _ _ _ _ _ _ _ _ _ (by exact hLa1) (by exact hLb1) (by omega) (by omega)).mono ?_; rintro e w2 ⟨A2, n2, c2, l2, rfl, hL2, hP2, hb2⟩; have k0 := keep_cell hb2 g0; have k1 := keep_cell hb2 g1; have j0 := keep_cell hb2 g2; have k2 := keep_cell hb2 g3; have k3 := keep_cell hb2 g5; have k4 := keep_cell hb2 g6; have k5 := keep_frozen hb2 g5 g8; have k6 := keep_frozen hb2 g6 g9; have k7 := keep_blk hb2 g7)
      | (go_at_call 94; refine (made_any _ _ _ _ _ _ (by exact hL2)).mono ?_; rintro e w3 ⟨hb3, neg3, A3, n3, c3, code3, rfl, hR3⟩; have m0 := keep_cell hb3 k0; have m1 := keep_cell hb3 k1; have i0 := keep_cell hb3 j0; have m2 := keep_cell hb3 k2; have m3 := keep_cell hb3 k3; have m4 := keep_cell hb3 k4; have m5 := keep_frozen hb3 k3 k5; have m6 := keep_frozen hb3 k4 k6; have m7 := keep_blk hb3 k7))
  have hB3 : Below w.heap.size w w3 := (hB1.trans ((below_drewL hb2).mono hB1.size)).trans (hb3.mono (Nat.le_trans hB1.size (below_drewL hb2).size))
  go_wp2
  have HZ : sg (na != nb) (val l2) = za * zb := by
    have h1 := hza.out; have h2 := hzb.out; rw [hP2.2, sg_mul, h1, h2]
  refine bodyPost_ret (v := .tuple #[.agg #[.bool neg3, .slice A3 n3 c3], .int .i64 code3]) (by simp [results, Tryz.results68, go_sem, m3, m4]) rfl ?_
  exact ResW.box (HZ ▸ hR3) hB3 (by omega) m7
end Go.Proofs.YtljocgdhdilglaaGreat

namespace Go.Proofs.YtljocgdhdilglaaGreat
open Go.RowKit
attribute [local go_sem] add_lit

set_option maxRecDepth 100000 in
set_option maxHeartbeats 1000000 in
theorem Add_bad (na nb : Bool) (A B : Option Addr) (n c m d : Nat) (la lb : List Nat) (w : World) (hLa : Lim w A n c la) (hLb : Lim w B m d lb) (hbad : (okW na la && okW nb lb) = false) :
    Calls Tryz.prog 50 #[.agg #[.bool na, .slice A n c], .agg #[.bool nb, .slice B m d]] w (BadW w) := by
  have hB0 : ∀ X Y Z V : Obj, Below w.heap.size w ((((w.alloc X).alloc Y).alloc Z).alloc V) := fun X Y Z V => ((((Below.refl w.heap.size w).alloc (Nat.le_refl _) _).alloc (by simp) _).alloc (by simp; omega) _).alloc (by simp; omega) _
  have hW : ∀ X Y Z t, WL ((((w.alloc X).alloc Y).alloc Z).alloc (.cells #[.bool na, .slice A n c, .bool nb, .slice B m d] t)) (some ⟨w.heap.size + 1 + 1 + 1, 0, none⟩) 2 2 [⟨na, A, n, c, la⟩, ⟨nb, B, m, d, lb⟩] := fun X Y Z t => by
    have := WL.two (neg := na) (neg' := nb) (((hLa.alloc X).alloc Y).alloc Z) (((hLb.alloc X).alloc Y).alloc Z) t
    simp only [World.size_alloc] at this; exact this
  have hW := hide hW
  have hB0 := hide hB0
  have hbad := hide hbad
  go_enter Tryz.func50, Tryz.ntmps50
  go_wp2_with fail
  refine (check_bad (hW.out _ _ _ _) (by have := hbad.out; simpa [WE.ok] using this)).mono ?_
  rintro e w1 ⟨rfl, hb1⟩
  obtain ⟨hc1, hf1⟩ := bcell hb1
  have hz1 : w.heap.size + 1 + 1 + 1 < w1.heap.size := by have := hb1.size; simp at this; omega
  have hB1 : Below w.heap.size w w1 := (hB0.out _ _ _ _).trans (hb1.mono (by simp; omega))
  go_wp2_with fail
  have hg : w1.cell? ⟨w.heap.size + 1 + 1, 0, none⟩ = some (.bool false) := by simp [hc1, go_sem]
  have hg' : w1.cell? ⟨w.heap.size + 1 + 1, 1, none⟩ = some (.slice none 0 0) := by simp [hc1, go_sem]
  refine bodyPost_ret (v := .tuple #[.agg #[.bool false, .slice none 0 0], .int .i64 8]) (by simp [results, Tryz.results50, go_sem, hg, hg']) rfl ?_
  exact ⟨rfl, (hB1.setCell (p := ⟨w.heap.size + 1 + 1, 0, none⟩) (by simp; omega) _).setCell (p := ⟨w.heap.size + 1 + 1, 1, none⟩) (by simp; omega) _⟩

set_option maxRecDepth 100000 in
set_option maxHeartbeats 1000000 in
theorem Add_ok (na nb : Bool) (A B : Option Addr) (n c m d : Nat) (za zb : Int) (w : World) (ha : Wd w na A n c za) (hb : Wd w nb B m d zb) :
    Calls Tryz.prog 50 #[.agg #[.bool na, .slice A n c], .agg #[.bool nb, .slice B m d]] w (ResW w (za + zb)) := by
  have hLa := ha.lim
  have hLb := hb.lim
  have hn := ha.2.1
  have hm := hb.2.1
  have hB0 : ∀ X Y Z V : Obj, Below w.heap.size w ((((w.alloc X).alloc Y).alloc Z).alloc V) := fun X Y Z V => ((((Below.refl w.heap.size w).alloc (Nat.le_refl _) _).alloc (by simp) _).alloc (by simp; omega) _).alloc (by simp; omega) _
  have hW : ∀ X Y Z t, WL ((((w.alloc X).alloc Y).alloc Z).alloc (.cells #[.bool na, .slice A n c, .bool nb, .slice B m d] t)) (some ⟨w.heap.size + 1 + 1 + 1, 0, none⟩) 2 2 [⟨na, A, n, c, digits za.natAbs⟩, ⟨nb, B, m, d, digits zb.natAbs⟩] := fun X Y Z t => by
    have := WL.two (neg := na) (neg' := nb) (((hLa.alloc X).alloc Y).alloc Z) (((hLb.alloc X).alloc Y).alloc Z) t
    simp only [World.size_alloc] at this; exact this
  have hW := hide hW
  have hB0 := hide hB0
  have hgood : Hid (okW na (digits za.natAbs) = true ∧ okW nb (digits zb.natAbs) = true) := ⟨ha.ok, hb.ok⟩
  have hza := hide ha.sgEq
  have hzb := hide hb.sgEq
  clear ha hb
  go_enter Tryz.func50, Tryz.ntmps50
  go_wp2_with fail
  refine (check_ok (hW.out _ _ _ _) (by have := hgood.out; simp [WE.ok, this])).mono ?_
  rintro e w1 ⟨rfl, hb1⟩
  obtain ⟨hc1, hf1⟩ := bcell hb1
  have hz1 : w.heap.size + 1 + 1 + 1 < w1.heap.size := by have := hb1.size; simp at this; omega
  have hB1 : Below w.heap.size w w1 := (hB0.out _ _ _ _).trans (hb1.mono (by simp; omega))
  have g0 : w1.cell? ⟨w.heap.size, 0, none⟩ = some (.bool na) := by simp [hc1, go_sem]
  have g1 : w1.cell? ⟨w.heap.size, 1, none⟩ = some (.slice A n c) := by simp [hc1, go_sem]
  have g2 : w1.cell? ⟨w.heap.size + 1, 0, none⟩ = some (.bool nb) := by simp [hc1, go_sem]
  have g3 : w1.cell? ⟨w.heap.size + 1, 1, none⟩ = some (.slice B m d) := by simp [hc1, go_sem]
  have gf : w1.frozen? ⟨w.heap.size + 1, 0, none⟩ = false := by simp [hf1, go_sem]
  have gB : Blk w1 (w.heap.size + 1) 25 #[.bool nb, .slice B m d] := by
    refine keep_blk hb1 ((Blk.alloc (Blk.alloc ?_ _) _))
    have := Blk.new (w.alloc (.cells #[.bool na, .slice A n c] 25)) 25 #[.bool nb, .slice B m d]
    simp only [World.size_alloc] at this; exact this
  have g7 : Blk w1 (w.heap.size + 1 + 1) 25 #[.bool false, .slice none 0 0] := by
    refine keep_blk hb1 (Blk.alloc ?_ _)
    have := Blk.new ((w.alloc (.cells #[.bool na, .slice A n c] 25)).alloc (.cells #[.bool nb, .slice B m d] 25)) 25 #[.bool false, .slice none 0 0]
    simp only [World.size_alloc] at this; exact this
  have hLa1 := hLa.below hB1
  have hLb1 := hLb.below hB1
  have HB := hide gB
  clear gB hc1 hf1
  go_wp2_with fail
  refine (add_any _ _ _ _ _ _ _ _ _ _ _ (by exact hLa1) (by exact hLb1) hn hm).mono ?_
  rintro e w2 ⟨hb2, neg2, A2, n2, c2, code2, rfl, hR2⟩
  have hB2 : Below w.heap.size w w2 := hB1.trans (hb2.mono hB1.size)
  have m7 := keep_blk hb2 g7
  have m3 := m7.cell 0
  have m4 := m7.cell 1
  have m5 := m7.frozen 0
  have m6 := m7.frozen 1
  simp at m3 m4
  have HM := hide m7
  clear m7
  go_wp2_with fail
  have HZ : sg na za.natAbs + sg nb zb.natAbs = za + zb := by
    have h1 := hza.out; have h2 := hzb.out; rw [val_digits] at h1 h2; rw [h1, h2]
  refine bodyPost_ret (v := .tuple #[.agg #[.bool neg2, .slice A2 n2 c2], .int .i64 code2]) (by simp [results, Tryz.results50, go_sem, m3, m4]) rfl ?_
  exact ResW.box (HZ ▸ hR2) hB2 (by omega) HM.out
end Go.Proofs.YtljocgdhdilglaaGreat
