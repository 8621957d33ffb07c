/- Package wide: Neg. Package wide: Cmp, and the order of two numbers. Package frac: must, zero, one, same. -/
import Derived.BigQuiet
import Derived.Deep.QuietTactic
import Derived.Test.YtljocgdhdilglaaGreatZr28
import Derived.Test.YtljocgdhdilglaaGreatZr06
import Derived.Test.YtljocgdhdilglaaGreatZr29
import Derived.Test.YtljocgdhdilglaaGreatZr30
import Derived.Test.YtljocgdhdilglaaGreatZr13
set_option linter.unusedSimpArgs false
set_option linter.unusedVariables false

namespace Go.Proofs.YtljocgdhdilglaaGreat
open Go.RowKit
attribute [local go_sem] add_lit

set_option maxRecDepth 100000 in
set_option maxHeartbeats 1000000 in
theorem Neg_ok (neg : Bool) (A : Option Addr) (n c : Nat) (z : Int) (w : World) (hz : Wd w neg A n c z) :
    Calls Tryz.prog 72 #[.agg #[.bool neg, .slice A n c]] w (ResW w (-z)) := by
  have hL := hz.lim
  have hn := hz.2.1
  have hW : ∀ X Y t, WL (((w.alloc X).alloc Y).alloc (.cells #[.bool neg, .slice A n c] t)) (some ⟨w.heap.size + 1 + 1, 0, none⟩) 1 1 [⟨neg, A, n, c, digits z.natAbs⟩] := fun X Y t => by
    have := WL.one (neg := neg) ((hL.alloc X).alloc Y) t
    simp only [World.size_alloc] at this; exact this
  have hW := hide hW
  have hB0 : ∀ X Y Z : Obj, Below w.heap.size w (((w.alloc X).alloc Y).alloc Z) := fun X Y Z => (((Below.refl w.heap.size w).alloc (Nat.le_refl _) _).alloc (by simp) _).alloc (by simp; omega) _
  have hB0 := hide hB0
  have hgood : Hid (okW neg (digits z.natAbs) = true) := hz.ok
  have hsg := hide hz.sgEq
  clear hz
  go_enter Tryz.func72, Tryz.ntmps72
  go_wp2_with fail
  refine (check_ok (hW.out _ _ _) (by have := hgood.out; simp [WE.ok, this])).mono ?_
  rintro e w1 ⟨rfl, hb1⟩
  obtain ⟨hc1, hf1⟩ := bcell hb1
  have hz1 : w.heap.size + 1 + 1 < w1.heap.size := by have := hb1.size; simp at this; omega
  have hB1 : Below w.heap.size w w1 := (hB0.out _ _ _).trans (hb1.mono (by simp; omega))
  have g0 : w1.cell? ⟨w.heap.size, 0, none⟩ = some (.bool neg) := by simp [hc1, go_sem]
  have g1 : w1.cell? ⟨w.heap.size, 1, none⟩ = some (.slice A n c) := by simp [hc1, go_sem]
  have g7 : Blk w1 (w.heap.size + 1) 25 #[.bool false, .slice none 0 0] := by
    refine keep_blk hb1 (Blk.alloc ?_ _)
    have := Blk.new (w.alloc (.cells #[.bool neg, .slice A n c] 25)) 25 #[.bool false, .slice none 0 0]
    simp only [World.size_alloc] at this; exact this
  have g3 := g7.cell 0
  have g4 := g7.cell 1
  have g5 := g7.frozen 0
  have g6 := g7.frozen 1
  simp at g3 g4
  have hL1 := hL.below hB1
  clear hc1 hf1
  go_wp2_with fail
  go_region_held3 (fun w' => w'.cell? ⟨w.heap.size, 0, none⟩ = some (.bool neg) ∧ w'.cell? ⟨w.heap.size, 1, none⟩ = some (.slice A n c))
    (((try dsimp only); (repeat' apply And.intro); all_goals (first | go_keep | (simp [*, go_sem]; done))))
    (first
      | (go_at_call 96; refine (clone_lim _ _ _ _ _ (by exact hL1) (by omega)).mono ?_; rintro e w2 ⟨v2, rfl, hO2, hb2⟩; obtain ⟨A2, c2, hv2, hL2⟩ := hO2.lim; subst hv2; clear hO2; have k0 := keep_cell hb2 g0; have k1 := keep_cell hb2 g1; have k3 := keep_cell hb2 g3; have k4 := keep_cell hb2 g4; have k5 := keep_frozen hb2 g3 g5; have k6 := keep_frozen hb2 g4 g6; have k7 := keep_blk hb2 g7)
      | (go_at_call 94; refine (made_any _ _ _ _ _ _ (by exact hL2)).mono ?_; rintro e w3 ⟨hb3, neg3, A3, n3, c3, code3, rfl, hR3⟩; have m0 := keep_cell hb3 k0; have m1 := keep_cell hb3 k1; have m3 := keep_cell hb3 k3; have m4 := keep_cell hb3 k4; have m5 := keep_frozen hb3 k3 k5; have m6 := keep_frozen hb3 k4 k6; have m7 := keep_blk hb3 k7))
  have hB3 : Below w.heap.size w w3 := (hB1.trans ((below_drewL hb2).mono hB1.size)).trans (hb3.mono (Nat.le_trans hB1.size (below_drewL hb2).size))
  have HZ : sg (!neg) (val (digits z.natAbs)) = -z := by
    have h1 := hsg.out; rw [sg_not, h1]
  go_wp2
  refine bodyPost_ret (v := .tuple #[.agg #[.bool neg3, .slice A3 n3 c3], .int .i64 code3]) (by simp [results, Tryz.results72, go_sem, m3, m4]) rfl ?_
  exact ResW.box (HZ ▸ hR3) hB3 (by omega) m7

set_option maxRecDepth 100000 in
set_option maxHeartbeats 1000000 in
theorem Neg_bad (neg : Bool) (A : Option Addr) (n c : Nat) (l : List Nat) (w : World) (hL : Lim w A n c l) (hbad : okW neg l = false) :
    Calls Tryz.prog 72 #[.agg #[.bool neg, .slice A n c]] w (BadW w) := by
  have hW : ∀ X Y t, WL (((w.alloc X).alloc Y).alloc (.cells #[.bool neg, .slice A n c] t)) (some ⟨w.heap.size + 1 + 1, 0, none⟩) 1 1 [⟨neg, A, n, c, l⟩] := fun X Y t => by
    have := WL.one (neg := neg) ((hL.alloc X).alloc Y) t
    simp only [World.size_alloc] at this; exact this
  have hW := hide hW
  have hB0 : ∀ X Y Z : Obj, Below w.heap.size w (((w.alloc X).alloc Y).alloc Z) := fun X Y Z => (((Below.refl w.heap.size w).alloc (Nat.le_refl _) _).alloc (by simp) _).alloc (by simp; omega) _
  have hB0 := hide hB0
  replace hbad := hide hbad
  go_enter Tryz.func72, Tryz.ntmps72
  go_wp2_with fail
  refine (check_bad (hW.out _ _ _) (by have := hbad.out; simp [WE.ok, this])).mono ?_
  rintro e w1 ⟨rfl, hb1⟩
  obtain ⟨hc1, hf1⟩ := bcell hb1
  have hz1 : w.heap.size + 1 + 1 < w1.heap.size := by have := hb1.size; simp at this; omega
  have hB1 : Below w.heap.size w w1 := (hB0.out _ _ _).trans (hb1.mono (by simp; omega))
  go_wp2_with fail
  have hg : w1.cell? ⟨w.heap.size + 1, 0, none⟩ = some (.bool false) := by simp [hc1, go_sem]
  have hg' : w1.cell? ⟨w.heap.size + 1, 1, none⟩ = some (.slice none 0 0) := by simp [hc1, go_sem]
  refine bodyPost_ret (v := .tuple #[.agg #[.bool false, .slice none 0 0], .int .i64 8]) (by simp [results, Tryz.results72, go_sem, hg, hg']) rfl ?_
  exact ⟨rfl, (hB1.setCell (p := ⟨w.heap.size + 1, 0, none⟩) (by simp <;> omega) _).setCell (p := ⟨w.heap.size + 1, 1, none⟩) (by simp <;> omega) _⟩
end Go.Proofs.YtljocgdhdilglaaGreat

namespace Go.Proofs.YtljocgdhdilglaaGreat
open Go.RowKit
attribute [local go_sem] add_lit

/-- The order of two whole numbers. -/
def cmpZ (a b : Int) : Int := if a < b then -1 else if b < a then 1 else 0

theorem cmpL_digits (a b : Nat) : cmpL (digits a) (digits b) = cmpZ a b := by
  unfold cmpL cmpZ
  rw [val_digits, val_digits]
  have h1 : a ≤ b → (digits a).length ≤ (digits b).length := length_digits_mono
  have h2 : b ≤ a → (digits b).length ≤ (digits a).length := length_digits_mono
  (repeat' split) <;> first | rfl | omega

set_option maxRecDepth 100000 in
set_option maxHeartbeats 1000000 in
theorem to_ok (na nb : Bool) (A B : Option Addr) (n c m d : Nat) (za zb : Int) (w : World) (ha : Wd w na A n c za) (hb : Wd w nb B m d zb) :
    Calls Tryz.prog 103 #[.agg #[.bool na, .slice A n c], .agg #[.bool nb, .slice B m d]] w fun e w' => e = .returned (.int .i64 (cmpZ za zb)) ∧ Below w.heap.size w w' := by
  have hLa := ha.lim
  have hLb := hb.lim
  have hna := ha.1
  have hnb := hb.1
  have hB0 : ∀ X Y : Obj, Below w.heap.size w ((w.alloc X).alloc Y) := fun X Y => ((Below.refl w.heap.size w).alloc (Nat.le_refl _) _).alloc (by simp) _
  have hB0 := hide hB0
  have HC1 := hide (cmpL_digits za.natAbs zb.natAbs)
  have HC2 := hide (cmpL_digits zb.natAbs za.natAbs)
  have hP : Hid (∀ (e : Ending) (w' : World), (e = .returned (.int .i64 (cmpL (digits za.natAbs) (digits zb.natAbs))) ∧ Below w.heap.size w w') → (na = false ∧ nb = false) → e = .returned (.int .i64 (cmpZ za zb)) ∧ Below w.heap.size w w') := fun e w' ⟨h1, h2⟩ ⟨h3, h4⟩ => by
    subst h3 h4
    have h5 : ¬ za < 0 := by intro h; simp [h] at hna
    have h6 : ¬ zb < 0 := by intro h; simp [h] at hnb
    refine ⟨?_, h2⟩
    rw [h1, HC1.out, show ((za.natAbs : Nat) : Int) = za by omega, show ((zb.natAbs : Nat) : Int) = zb by omega]
  have hN : Hid (∀ (e : Ending) (w' : World), (e = .returned (.int .i64 (cmpL (digits zb.natAbs) (digits za.natAbs))) ∧ Below w.heap.size w w') → (na = true ∧ nb = true) → e = .returned (.int .i64 (cmpZ za zb)) ∧ Below w.heap.size w w') := fun e w' ⟨h1, h2⟩ ⟨h3, h4⟩ => by
    subst h3 h4
    have h5 : za < 0 := by by_cases h : za < 0; exact h; simp [h] at hna
    have h6 : zb < 0 := by by_cases h : zb < 0; exact h; simp [h] at hnb
    refine ⟨?_, h2⟩
    rw [h1, HC2.out]
    congr 2
    unfold cmpZ
    split <;> split <;> (try split) <;> omega
  have hM : Hid (∀ b, na = b → nb = !b → Ending.returned (.int .i64 (if b then -1 else 1)) = .returned (.int .i64 (cmpZ za zb))) := fun b h3 h4 => by
    refine ret_int ?_
    unfold cmpZ
    cases b
    · have h5 : ¬ za < 0 := by intro h; simp [h, h3] at hna
      have h6 : zb < 0 := by by_cases h : zb < 0; exact h; simp [h, h4] at hnb
      rw [if_neg (show ¬ za < zb by omega), if_pos (show zb < za by omega)]; rfl
    · have h5 : za < 0 := by by_cases h : za < 0; exact h; simp [h, h3] at hna
      have h6 : ¬ zb < 0 := by intro h; simp [h, h4] at hnb
      rw [if_pos (show za < zb by omega)]; rfl
  clear ha hb hna hnb
  cases na <;> cases nb
  · go_enter Tryz.func103, Tryz.ntmps103
    go_wp2_with (go_at_call 107; ((with_reducible refine (compare_any _ _ _ _ _ _ _ _ _ ((hLa.alloc _).alloc _) ((hLb.alloc _).alloc _)).mono ?_)); rintro e w1 ⟨rfl, hb1⟩)
    go_ret
    exact hP.out _ _ ⟨rfl, (hB0.out _ _).trans (hb1.mono (by simp; omega))⟩ (by simp)
  · go_enter Tryz.func103, Tryz.ntmps103
    go_wp2_with fail
    go_ret
    exact ⟨hM.out false rfl rfl, hB0.out _ _⟩
  · go_enter Tryz.func103, Tryz.ntmps103
    go_wp2_with fail
    go_ret
    exact ⟨hM.out true rfl rfl, hB0.out _ _⟩
  · go_enter Tryz.func103, Tryz.ntmps103
    go_wp2_with (go_at_call 107; ((with_reducible refine (compare_any _ _ _ _ _ _ _ _ _ ((hLb.alloc _).alloc _) ((hLa.alloc _).alloc _)).mono ?_)); rintro e w1 ⟨rfl, hb1⟩)
    go_ret
    exact hN.out _ _ ⟨rfl, (hB0.out _ _).trans (hb1.mono (by simp; omega))⟩ (by simp)

set_option maxRecDepth 100000 in
set_option maxHeartbeats 1000000 in
theorem Cmp_ok (na nb : Bool) (A B : Option Addr) (n c m d : Nat) (za zb : Int) (w : World) (ha : Wd w na A n c za) (hb : Wd w nb B m d zb) :
    Calls Tryz.prog 75 #[.agg #[.bool na, .slice A n c], .agg #[.bool nb, .slice B m d]] w fun e w' => e = .returned (.tuple #[.int .i64 (cmpZ za zb), .int .i64 0]) ∧ Below w.heap.size w w' := by
  have hLa := ha.lim
  have hLb := hb.lim
  have hB0 : ∀ X Y Z : Obj, Below w.heap.size w (((w.alloc X).alloc Y).alloc Z) := fun X Y Z => (((Below.refl w.heap.size w).alloc (Nat.le_refl _) _).alloc (by simp) _).alloc (by simp; omega) _
  have hW : ∀ X Y t, WL (((w.alloc X).alloc Y).alloc (.cells #[.bool na, .slice A n c, .bool nb, .slice B m d] t)) (some ⟨w.heap.size + 1 + 1, 0, none⟩) 2 2 [⟨na, A, n, c, digits za.natAbs⟩, ⟨nb, B, m, d, digits zb.natAbs⟩] := fun X Y t => by
    have := WL.two (neg := na) (neg' := nb) ((hLa.alloc X).alloc Y) ((hLb.alloc X).alloc Y) t
    simp only [World.size_alloc] at this; exact this
  have hW := hide hW
  have hB0 := hide hB0
  have hgood : Hid (okW na (digits za.natAbs) = true ∧ okW nb (digits zb.natAbs) = true) := ⟨ha.ok, hb.ok⟩
  have hmf : ∀ (fn : Fn) (first cap : Array Value) (w : World), (Instr.makeFunc fn first cap).run Tryz.prog w = .ok (.func fn first cap) w := fun _ _ _ _ => rfl
  have HA := hide ha
  have HB := hide hb
  clear ha hb
  go_enter Tryz.func75, Tryz.ntmps75
  go_wp2_with fail
  refine (check_ok (hW.out _ _ _) (by have := hgood.out; simp [WE.ok, this])).mono ?_
  rintro e w1 ⟨rfl, hb1⟩
  obtain ⟨hc1, hf1⟩ := bcell hb1
  have hz1 : w.heap.size + 1 + 1 < w1.heap.size := by have := hb1.size; simp at this; omega
  have hB1 : Below w.heap.size w w1 := (hB0.out _ _ _).trans (hb1.mono (by simp; omega))
  go_wp2_with fail
  refine (to_ok na nb A B n c m d za zb _ (HA.out.below hB1) (HB.out.below hB1)).mono ?_
  rintro e w2 ⟨rfl, hb2⟩
  go_wp2_with fail
  go_ret2
  exact ⟨rfl, hB1.trans (hb2.mono hB1.size)⟩

set_option maxRecDepth 100000 in
set_option maxHeartbeats 1000000 in
theorem Cmp_bad (na nb : Bool) (A B : Option Addr) (n c m d : Nat) (la lb : List Nat) (w : World) (hLa : Lim w A n c la) (hLb : Lim w B m d lb) (hbad : (okW na la && okW nb lb) = false) :
    Calls Tryz.prog 75 #[.agg #[.bool na, .slice A n c], .agg #[.bool nb, .slice B m d]] w fun e w' => e = .returned (.tuple #[.int .i64 0, .int .i64 8]) ∧ Below w.heap.size w w' := by
  have hB0 : ∀ X Y Z : Obj, Below w.heap.size w (((w.alloc X).alloc Y).alloc Z) := fun X Y Z => (((Below.refl w.heap.size w).alloc (Nat.le_refl _) _).alloc (by simp) _).alloc (by simp; omega) _
  have hW : ∀ X Y t, WL (((w.alloc X).alloc Y).alloc (.cells #[.bool na, .slice A n c, .bool nb, .slice B m d] t)) (some ⟨w.heap.size + 1 + 1, 0, none⟩) 2 2 [⟨na, A, n, c, la⟩, ⟨nb, B, m, d, lb⟩] := fun X Y t => by
    have := WL.two (neg := na) (neg' := nb) ((hLa.alloc X).alloc Y) ((hLb.alloc X).alloc Y) t
    simp only [World.size_alloc] at this; exact this
  have hW := hide hW
  have hB0 := hide hB0
  replace hbad := hide hbad
  go_enter Tryz.func75, Tryz.ntmps75
  go_wp2_with fail
  refine (check_bad (hW.out _ _ _) (by have := hbad.out; simpa [WE.ok] using this)).mono ?_
  rintro e w1 ⟨rfl, hb1⟩
  have hB1 : Below w.heap.size w w1 := (hB0.out _ _ _).trans (hb1.mono (by simp; omega))
  go_wp2_with fail
  go_ret2
  exact ⟨rfl, hB1⟩
end Go.Proofs.YtljocgdhdilglaaGreat

namespace Go.Proofs.YtljocgdhdilglaaGreat
open Go.RowKit
attribute [local go_sem] add_lit

set_option maxRecDepth 100000 in
set_option maxHeartbeats 1000000 in
theorem must_ok (neg : Bool) (A : Option Addr) (n c : Nat) (w : World) :
    Calls Tryz.prog 108 #[.agg #[.bool neg, .slice A n c], .int .i64 0] w fun e w' => e = .returned (.agg #[.bool neg, .slice A n c]) ∧ Below w.heap.size w w' := by
  go_enter Tryz.func108, Tryz.ntmps108
  go_wp2_with fail
  refine bodyPost_ret (v := .agg #[.bool neg, .slice A n c]) (by simp [results, Tryz.results108, go_sem]) rfl ?_
  exact ⟨rfl, by go_grown⟩

set_option maxHeartbeats 400000 in
theorem zero_any (neg : Bool) (A : Option Addr) (n c : Nat) (w : World) (hn : n ≤ 1000000000) (b : Bool) (hb : ((n : Int) == 0) = b) :
    Calls Tryz.prog 84 #[.agg #[.bool neg, .slice A n c]] w fun e w' => e = .returned (.bool b) ∧ Below w.heap.size w w' := by
  go_enter Tryz.func84, Tryz.ntmps84
  go_wp2_with fail
  go_ret
  exact ⟨rfl, by go_grown⟩

set_option maxRecDepth 100000 in
set_option maxHeartbeats 1000000 in
theorem one_ok (w : World) : Calls Tryz.prog 101 #[] w (NumW w 1) := by
  have hB0 : ∀ X : Obj, Below w.heap.size w (w.alloc X) := fun X => (Below.refl w.heap.size w).alloc (Nat.le_refl _) _
  have hB0 := hide hB0
  go_enter Tryz.func101, Tryz.ntmps101
  go_wp2_with fail
  refine (From_any 1 _ (by omega) (by omega)).mono ?_
  rintro e w1 ⟨hb1, neg1, A1, n1, c1, rfl, hw1⟩
  have hB1 : Below w.heap.size w w1 := (hB0.out _).trans (hb1.mono (by simp))
  have m8 := keep_blk hb1 (Blk.new w 25 #[.bool false, .slice none 0 0])
  have m3 := m8.cell 0
  have m4 := m8.cell 1
  have m5 := m8.frozen 0
  have m6 := m8.frozen 1
  simp at m3 m4
  replace m8 := hide m8
  go_wp2_with fail
  refine bodyPost_ret (v := .agg #[.bool neg1, .slice A1 n1 c1]) (by simp [results, Tryz.results101, go_sem, m3, m4]) rfl ?_
  exact NumW.box hw1 hB1 (Nat.le_refl _) m8.out

set_option maxRecDepth 100000 in
set_option maxHeartbeats 1000000 in
theorem same_any (na nb : Bool) (A B : Option Addr) (n c m d : Nat) (za zb : Int) (w : World) (ha : Wd w na A n c za) (hb : Wd w nb B m d zb) (b : Bool) (he : decide (za = zb) = b) :
    Calls Tryz.prog 100 #[.agg #[.bool na, .slice A n c], .agg #[.bool nb, .slice B m d]] w fun e w' => e = .returned (.bool b) ∧ Below w.heap.size w w' := by
  have hcz : ((cmpZ za zb) == 0) = b := by
    rw [← he]
    unfold cmpZ
    by_cases h1 : za < zb
    · rw [if_pos h1]; have : za ≠ zb := by omega
      simp [this]
    · rw [if_neg h1]
      by_cases h2 : zb < za
      · rw [if_pos h2]; have : za ≠ zb := by omega
        simp [this]
      · rw [if_neg h2]; have : za = zb := by omega
        simp [this]
  have HA := hide ha
  have HB := hide hb
  clear ha hb he
  have hB0 : ∀ X Y : Obj, Below w.heap.size w ((w.alloc X).alloc Y) := fun X Y => ((Below.refl w.heap.size w).alloc (Nat.le_refl _) _).alloc (by simp) _
  have hB0 := hide hB0
  obtain ⟨cz, hczE⟩ : ∃ cz, cmpZ za zb = cz := ⟨_, rfl⟩
  rw [hczE] at hcz
  have HC : Hid (∀ W : World, Wd W na A n c za → Wd W nb B m d zb → Calls Tryz.prog 75 #[.agg #[.bool na, .slice A n c], .agg #[.bool nb, .slice B m d]] W fun e w' => e = .returned (.tuple #[.int .i64 cz, .int .i64 0]) ∧ Below W.heap.size W w') := fun W h1 h2 => by
    have := Cmp_ok na nb A B n c m d za zb W h1 h2
    rw [hczE] at this; exact this
  clear hczE
  go_enter Tryz.func100, Tryz.ntmps100
  go_wp2_with fail
  refine (HC.out _ ((HA.out.alloc _).alloc _) ((HB.out.alloc _).alloc _)).mono ?_
  rintro e w1 ⟨rfl, hb1⟩
  go_wp2_with fail
  go_ret
  exact ⟨rfl, (hB0.out _ _).trans (hb1.mono (by simp; omega))⟩
end Go.Proofs.YtljocgdhdilglaaGreat
