/- The reference of layer 1: Neg, Compared, Gcd. -/
import Derived.BigQuiet
import Derived.Deep.QuietTactic
import Derived.Test.YtljocgdhdilglaaGreatZr31
import Derived.Test.YtljocgdhdilglaaGreatZr29
import Derived.Test.YtljocgdhdilglaaGreatZr41
import Derived.Test.YtljocgdhdilglaaGreatZr07
set_option linter.unusedSimpArgs false
set_option linter.unusedVariables false

namespace Go.Proofs.YtljocgdhdilglaaGreat
open Go.RowKit
attribute [local go_sem] add_lit


set_option maxRecDepth 100000 in
set_option maxHeartbeats 1000000 in
theorem rNeg_ok (neg : Bool) (A : Option Addr) (n c : Nat) (z : Int) (w : World) (hz : Wd w neg A n c z) :
    Calls Tryz.prog 79 #[.agg #[.bool neg, .slice A n c]] w (ResW w (-z)) := by
  have hL := hz.lim
  have hn := hz.2.1
  have hB0 : ∀ X Y : Obj, Below w.heap.size w ((w.alloc X).alloc Y) := fun X Y => ((Below.refl w.heap.size w).alloc (Nat.le_refl _) _).alloc (by simp) _
  have hB0 := hide hB0
  have hgood : Hid (okW neg (digits z.natAbs) = true) := hz.ok
  have hsg := hide hz.sgEq
  clear hz
  go_enter Tryz.func79, Tryz.ntmps79
  go_wp2_with fail
  refine (rCheck_ok ((hL.alloc _).alloc _) hgood.out).mono ?_
  rintro e w1 ⟨rfl, hb1⟩
  obtain ⟨hc1, hf1⟩ := bcell hb1
  have hz1 : w.heap.size + 1 < w1.heap.size := by have := hb1.size; simp at this; omega
  have hB1 : Below w.heap.size w w1 := (hB0.out _ _).trans (hb1.mono (by simp; omega))
  have g7 : Hid (Blk w1 (w.heap.size + 1) 25 #[.bool false, .slice none 0 0]) := by
    refine keep_blk hb1 ?_
    have := Blk.new (w.alloc (.cells #[.bool neg, .slice A n c] 25)) 25 #[.bool false, .slice none 0 0]
    simp only [World.size_alloc] at this; exact this
  have hL1 := hL.below hB1
  go_wp2_with fail
  refine (rmade_any _ _ _ _ _ _ hL1 (by omega)).mono ?_
  rintro e w2 ⟨hb2, neg3, A3, n3, c3, code3, rfl, hR3⟩
  have hB2 : Below w.heap.size w w2 := hB1.trans (hb2.mono hB1.size)
  have m8 := keep_blk hb2 g7.out
  have m3 := m8.cell 0
  have m4 := m8.cell 1
  have m5 := m8.frozen 0
  have m6 := m8.frozen 1
  simp at m3 m4
  replace m8 := hide m8
  clear hc1 hf1
  go_wp2_with fail
  have HZ : sg (!neg) (val (digits z.natAbs)) = -z := by have h1 := hsg.out; rw [sg_not, h1]
  refine bodyPost_ret (v := .tuple #[.agg #[.bool neg3, .slice A3 n3 c3], .int .i64 code3]) (by simp [results, Tryz.results79, go_sem, m3, m4]) rfl ?_
  exact ResW.box (HZ ▸ hR3) hB2 (by omega) m8.out

set_option maxRecDepth 100000 in
set_option maxHeartbeats 1000000 in
theorem rGcd_ok (na nb : Bool) (A B : Option Addr) (n c m d : Nat) (za zb : Int) (w : World) (ha : Wd w na A n c za) (hb : Wd w nb B m d zb) :
    Calls Tryz.prog 36 #[.agg #[.bool na, .slice A n c], .agg #[.bool nb, .slice B m d]] w (ResW w (Nat.gcd za.natAbs zb.natAbs : Nat)) := by
  have hLa := ha.lim
  have hLb := hb.lim
  have hn := ha.2.1
  have hm := hb.2.1
  have hB0 : ∀ X Y Z : Obj, Below w.heap.size w (((w.alloc X).alloc Y).alloc Z) := fun X Y Z => (((Below.refl w.heap.size w).alloc (Nat.le_refl _) _).alloc (by simp) _).alloc (by simp; omega) _
  have hB0 := hide hB0
  have hgood : Hid ((okW na (digits za.natAbs) && okW nb (digits zb.natAbs)) = true) := by unfold Hid; rw [ha.ok, hb.ok]; rfl
  clear ha hb
  generalize za.natAbs = va at *
  generalize zb.natAbs = vb at *
  obtain ⟨G, hG⟩ : ∃ G, Nat.gcd va vb = G := ⟨_, rfl⟩
  rw [hG]
  replace hG := hide hG
  go_enter Tryz.func36, Tryz.ntmps36
  go_wp2_with fail
  refine (rboth_ok (((hLa.alloc _).alloc _).alloc _) (((hLb.alloc _).alloc _).alloc _) hgood.out).mono ?_
  rintro e w1 ⟨rfl, hb1⟩
  obtain ⟨hc1, hf1⟩ := bcell hb1
  have hz1 : w.heap.size + 1 + 1 < w1.heap.size := by have := hb1.size; simp at this; omega
  have hB1 : Below w.heap.size w w1 := (hB0.out _ _ _).trans (hb1.mono (by simp; omega))
  have g1 : w1.cell? ⟨w.heap.size, 1, none⟩ = some (.slice A n c) := by simp [hc1, go_sem]
  have g2 : w1.cell? ⟨w.heap.size + 1, 1, none⟩ = some (.slice B m d) := by simp [hc1, go_sem]
  have g7 : Blk w1 (w.heap.size + 1 + 1) 25 #[.bool false, .slice none 0 0] := by
    refine keep_blk hb1 ?_
    have := Blk.new ((w.alloc (.cells #[.bool na, .slice A n c] 25)).alloc (.cells #[.bool nb, .slice B m d] 25)) 25 #[.bool false, .slice none 0 0]
    simp only [World.size_alloc] at this; exact this
  have hLa1 := hLa.below hB1
  have hLb1 := hLb.below hB1
  replace g7 := hide g7
  clear hc1 hf1
  go_wp2_with fail
  go_quiet (fail)
  have m7 : Hid (Blk (w1.drewN nq) (w.heap.size + 1 + 1) 25 #[.bool false, .slice none 0 0]) := Blk.drewN g7.out nq
  have hB2 : Below w.heap.size w (w1.drewN nq) := below_dn hB1 nq
  go_wp2_with fail
  go_loopw [6, 7] (fun xv yv wr => GcdR w 25 G xv yv wr) (fun _ yv wr => val (memLimbs wr yv))
  case atStart => exact ⟨va, vb, _, _, _, _, _, _, rfl, rfl, hLa1, hLb1, hn, hm, hG.out, m7.out, hB2⟩
  case round =>
    obtain ⟨u, v, A5, n5, c5, B5, m5, d5, rfl, rfl, hLu, hLv, hn5, hm5, hg, hb7, hBr⟩ := hrel
    replace hg := hide hg
    replace hb7 := hide hb7
    by_cases hm0 : 0 < m5
    · have hv0 : 0 < v := by rw [← hLv.len] at hm0; exact length_digits_pos.1 hm0
      have hmem := hide hLv.mem
      go_wp2_with fail
      refine (over_any _ _ _ _ _ _ u v _ hLu hLv (by omega) hv0).mono ?_
      rintro e w5 ⟨A6, n6, c6, B6, m6, d6, rfl, hLq, hLr, hb5⟩
      go_wp2_with fail
      go_roundw
      case rel => exact ⟨v, u % v, _, _, _, _, _, _, rfl, rfl, hLv.below hb5, hLr, hm5, by have := length_digits_mono (Nat.le_of_lt (Nat.mod_lt u hv0)); rw [hLr.len, hLv.len] at this; omega, by rw [← hg.out, Nat.gcd_comm u v, Nat.gcd_rec v u, Nat.gcd_comm], keep_blk hb5 hb7.out, hBr.trans (hb5.mono hBr.size)⟩
      case measure => simp only [hmem.out, hLr.mem, val_digits]; exact Nat.mod_lt u hv0
    · obtain rfl : m5 = 0 := by omega
      have hv0 : v = 0 := by
        rcases Nat.eq_zero_or_pos v with h | h
        · exact h
        · have := length_digits_pos.2 h; rw [hLv.len] at this; omega
      subst hv0
      have hgu : Hid (u = G) := by have := hg.out; rw [Nat.gcd_zero_right] at this; exact this
      have g8 := hb7.out
      have g3 := g8.cell 0
      have g4 := g8.cell 1
      have g5 := g8.frozen 0
      have g6 := g8.frozen 1
      simp at g3 g4
      clear g8
      go_wp2_with fail
      refine (rmade_any _ _ _ _ _ _ hLu (by omega)).mono ?_
      rintro e w6 ⟨hb6, neg6, A7, n7, c7, code7, rfl, hR7⟩
      have hB6 : Below w.heap.size w w6 := hBr.trans (hb6.mono hBr.size)
      have m8 := keep_blk hb6 hb7.out
      have m3 := m8.cell 0
      have m4 := m8.cell 1
      have m5 := m8.frozen 0
      have m6 := m8.frozen 1
      simp at m3 m4
      replace m8 := hide m8
      go_wp2_with fail
      have HZ : sg false (val (digits u)) = (G : Int) := by rw [val_digits, hgu.out]; rfl
      refine bodyPost_ret (v := .tuple #[.agg #[.bool neg6, .slice A7 n7 c7], .int .i64 code7]) (by simp [results, Tryz.results36, go_sem, m3, m4]) rfl ?_
      exact ResW.box (HZ ▸ hR7) hB6 (by omega) m8.out

end Go.Proofs.YtljocgdhdilglaaGreat
