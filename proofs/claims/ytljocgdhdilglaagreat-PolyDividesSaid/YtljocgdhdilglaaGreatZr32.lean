/- Package frac: Check. Fractions: plain words (a fraction is a rational number of Lean's core). Package frac: reduce. -/
import Derived.Test.YtljocgdhdilglaaGreatZr31
set_option linter.unusedSimpArgs false
set_option linter.unusedVariables false

namespace Go.Proofs.YtljocgdhdilglaaGreat
open Go.RowKit
attribute [local go_sem] add_lit

/-- A fraction in its lowest terms. -/
def Low (num den : Int) : Prop := 0 < den ∧ Nat.gcd num.natAbs den.natAbs = 1

theorem gcd_small {a b : Nat} {p : Nat} (ha : a < p) (hb : b < p) : Nat.gcd a b < p := by
  rcases Nat.eq_zero_or_pos a with rfl | h
  · rw [Nat.gcd_zero_left]; exact hb
  · exact Nat.lt_of_le_of_lt (Nat.le_of_dvd h (Nat.gcd_dvd_left a b)) ha

set_option maxRecDepth 100000 in
set_option maxHeartbeats 1000000 in
/-- Of two valid numbers, the second one greater than 0. -/
theorem fCheck_pos (na : Bool) (A B : Option Addr) (n c m d : Nat) (za zb : Int) (w : World) (ha : Wd w na A n c za) (hb : Wd w false B m d zb) (hp : 0 < zb) (b : Bool) (hg : decide ((Nat.gcd za.natAbs zb.natAbs : Int) = 1) = b) :
    Calls Tryz.prog 73 #[.agg #[.bool na, .slice A n c, .bool false, .slice B m d]] w fun e w' => e = .returned (.int .i64 (if b then 0 else 8)) ∧ Below w.heap.size w w' := by
  have hm0 : 0 < m := by rw [← hb.lim.len]; exact length_digits_pos.2 (by omega)
  have hm0' : ((m : Int) == 0) = false := by simp; omega
  have hm := hb.2.1
  have hgs := gcd_small ha.small hb.small
  obtain ⟨G, hG⟩ : ∃ G, Nat.gcd za.natAbs zb.natAbs = G := ⟨_, rfl⟩
  rw [hG] at hg hgs
  have HA := hide ha
  have HB := hide hb
  have HGc : Hid (∀ W : World, Wd W na A n c za → Wd W false B m d zb → Calls Tryz.prog 69 #[.agg #[.bool na, .slice A n c], .agg #[.bool false, .slice B m d]] W (ResW W (G : Int))) := fun W h1 h2 => by
    have := Gcd_ok na false A B n c m d za zb W h1 h2
    rw [hG] at this; exact this
  clear ha hb hG
  have hB0 : ∀ X : Obj, Below w.heap.size w (w.alloc X) := fun X => (Below.refl w.heap.size w).alloc (Nat.le_refl _) _
  have hB0 := hide hB0
  go_enter Tryz.func73, Tryz.ntmps73
  go_wp2_with fail
  refine (HGc.out _ (HA.out.alloc _) (HB.out.alloc _)).mono ?_
  rintro e w1 ⟨hb1, ng, Ag, kg, cg, code, rfl, hR⟩
  rcases hR with ⟨-, rfl, hgw⟩ | ⟨hbig, -⟩
  case inr => exact absurd hbig (by omega)
  obtain ⟨hc1, hf1⟩ := bcell hb1
  have hz1 : w.heap.size < w1.heap.size := by have := hb1.size; simp at this; omega
  have hB1 : Below w.heap.size w w1 := (hB0.out _).trans (hb1.mono (by simp))
  have g2 : w1.cell? ⟨w.heap.size, 2, none⟩ = some (.bool false) := by simp [hc1, go_sem]
  have g3 : w1.cell? ⟨w.heap.size, 3, none⟩ = some (.slice B m d) := by simp [hc1, go_sem]
  have hbA : Below w1.heap.size w1 (w1.alloc (.cells #[.bool ng, .slice Ag kg cg] 25)) := (Below.refl _ _).alloc (Nat.le_refl _) _
  have bg := hide (Blk.new w1 25 #[.bool ng, .slice Ag kg cg])
  have a2 := keep_cell hbA g2
  have a3 := keep_cell hbA g3
  have hgw2 := hide (hgw.alloc (.cells #[.bool ng, .slice Ag kg cg] 25))
  have hB2 := hide (hB1.trans (hbA.mono hB1.size))
  clear hc1 hf1 g2 g3 hgw
  go_wp2_with fail
  generalize w1.alloc _ = w2 at *
  have p0 := bg.out.cell 0
  have p1 := bg.out.cell 1
  simp at p0 p1
  go_region_held3 (fun w' => w'.cell? ⟨w.heap.size, 2, none⟩ = some (.bool false) ∧ w'.cell? ⟨w.heap.size, 3, none⟩ = some (.slice B m d) ∧ w'.cell? ⟨w1.heap.size, 0, none⟩ = some (.bool ng) ∧ w'.cell? ⟨w1.heap.size, 1, none⟩ = some (.slice Ag kg cg))
    (((try dsimp only); (repeat' apply And.intro); all_goals (first | go_keep | (simp [*, go_sem]; done))))
    (first
      | (go_at_call 84; refine (zero_any _ _ _ _ _ (by omega) _ hm0').mono ?_; rintro e w3 ⟨rfl, hb3⟩; have hb3' := below_drewL hb3; have k2 := keep_cell hb3' a2; have k3 := keep_cell hb3' a3; have k0 := keep_cell hb3' p0; have k1 := keep_cell hb3' p1)
      | (go_at_call 101; refine (one_ok _).mono ?_; rintro e w4 ⟨hb4, n4, A4, m4, c4, rfl, hw4⟩; have j2 := keep_cell hb4 k2; have j3 := keep_cell hb4 k3; have j0 := keep_cell hb4 k0; have j1 := keep_cell hb4 k1)
      | (go_at_call 100; refine (same_any _ _ _ _ _ _ _ _ _ _ _ ((hgw2.out.below hb3').below hb4) hw4 b hg).mono ?_; rintro e w5 ⟨rfl, hb5⟩; have i2 := keep_cell hb5 j2; have i3 := keep_cell hb5 j3; have i0 := keep_cell hb5 j0; have i1 := keep_cell hb5 j1))
  have hB5 : Hid (Below w.heap.size w w5) := ((hB2.out.trans (hb3'.mono hB2.out.size)).trans (hb4.mono (Nat.le_trans hB2.out.size hb3'.size))).trans (hb5.mono (Nat.le_trans hB2.out.size (Nat.le_trans hb3'.size hb4.size)))
  cases b
  · go_wp2_with fail
    go_ret
    exact ⟨rfl, hB5.out⟩
  · go_wp2_with fail
    go_ret
    exact ⟨rfl, hB5.out⟩
end Go.Proofs.YtljocgdhdilglaaGreat

namespace Go.Proofs.YtljocgdhdilglaaGreat
open Go.RowKit

/-- What divides both in 'reduce'. -/
def redG (a b : Int) : Int := if b < 0 then -(Nat.gcd a.natAbs b.natAbs : Nat) else (Nat.gcd a.natAbs b.natAbs : Nat)

theorem redG_ne {a b : Int} (h : b ≠ 0) : redG a b ≠ 0 := by
  have : 0 < Nat.gcd a.natAbs b.natAbs := Nat.gcd_pos_of_pos_right _ (by omega)
  unfold redG; split <;> omega
theorem dvd_gcdL (a b : Int) : ((Nat.gcd a.natAbs b.natAbs : Nat) : Int) ∣ a := by
  rw [← Int.dvd_natAbs]; exact Int.ofNat_dvd.2 (Nat.gcd_dvd_left _ _)
theorem dvd_gcdR (a b : Int) : ((Nat.gcd a.natAbs b.natAbs : Nat) : Int) ∣ b := by
  rw [← Int.dvd_natAbs]; exact Int.ofNat_dvd.2 (Nat.gcd_dvd_right _ _)
theorem redG_dvdL (a b : Int) : redG a b ∣ a := by
  unfold redG; split
  · exact Int.neg_dvd.2 (dvd_gcdL a b)
  · exact dvd_gcdL a b
theorem redG_dvdR (a b : Int) : redG a b ∣ b := by
  unfold redG; split
  · exact Int.neg_dvd.2 (dvd_gcdR a b)
  · exact dvd_gcdR a b

theorem gcd_swap (a b : Int) : Int.gcd b a = Nat.gcd a.natAbs b.natAbs := by unfold Int.gcd; exact Nat.gcd_comm _ _

theorem red_num {a b : Int} (h : b ≠ 0) : Int.fdiv a (redG a b) = (Rat.divInt a b).num := by
  rw [Int.fdiv_eq_ediv_of_dvd (redG_dvdL a b), Rat.num_divInt, gcd_swap]
  unfold redG
  obtain ⟨k, hk⟩ := dvd_gcdL a b
  have hg : ((Nat.gcd a.natAbs b.natAbs : Nat) : Int) ≠ 0 := by
    have : 0 < Nat.gcd a.natAbs b.natAbs := Nat.gcd_pos_of_pos_right _ (by omega)
    omega
  split
  · rename_i hb
    rw [Int.ediv_neg, Int.sign_eq_neg_one_of_neg hb, show (-1 : Int) * a = -a by omega, Int.neg_ediv_of_dvd (dvd_gcdL a b)]
  · rw [Int.sign_eq_one_of_pos (by omega), Int.one_mul]

theorem red_den {a b : Int} (h : b ≠ 0) : Int.fdiv b (redG a b) = ((Rat.divInt a b).den : Nat) := by
  rw [Int.fdiv_eq_ediv_of_dvd (redG_dvdR a b), Rat.den_divInt, gcd_swap, if_neg h]
  unfold redG
  split
  · rename_i hb
    rw [Int.ediv_neg, ← Int.neg_ediv_of_dvd (dvd_gcdR a b), show -b = ((b.natAbs : Nat) : Int) by omega, Int.natCast_ediv]
  · rw [Int.natCast_ediv, show ((b.natAbs : Nat) : Int) = b by omega]

theorem low_rat (r : Rat) : Low r.num r.den := ⟨by have := r.den_pos; omega, by simpa using r.reduced⟩

theorem rat_low {a b : Int} (h : Low a b) : (Rat.divInt a b).num = a ∧ ((Rat.divInt a b).den : Int) = b := by
  have h0 : b ≠ 0 := by have := h.1; omega
  have hG : redG a b = 1 := by unfold redG; rw [if_neg (by have := h.1; omega), h.2]; rfl
  rw [← red_num h0, ← red_den h0, hG]
  simp

/-- A valid fraction in memory. -/
def Fr (w : World) (na : Bool) (A : Option Addr) (n c : Nat) (nb : Bool) (B : Option Addr) (m d : Nat) (r : Rat) : Prop := Wd w na A n c r.num ∧ Wd w nb B m d (r.den : Nat)

theorem Fr.below {w w' : World} {na : Bool} {A : Option Addr} {n c : Nat} {nb : Bool} {B : Option Addr} {m d : Nat} {r : Rat} (h : Fr w na A n c nb B m d r) (hb : Below w.heap.size w w') : Fr w' na A n c nb B m d r := ⟨h.1.below hb, h.2.below hb⟩
theorem Fr.alloc {w : World} {na : Bool} {A : Option Addr} {n c : Nat} {nb : Bool} {B : Option Addr} {m d : Nat} {r : Rat} (h : Fr w na A n c nb B m d r) (o : Obj) : Fr (w.alloc o) na A n c nb B m d r := ⟨h.1.alloc o, h.2.alloc o⟩
theorem Fr.neg {w : World} {na : Bool} {A : Option Addr} {n c : Nat} {nb : Bool} {B : Option Addr} {m d : Nat} {r : Rat} (h : Fr w na A n c nb B m d r) : nb = false := by
  have := h.2.1; rw [this]; simp

/-- A result (fraction). -/
def FracW (w : World) (r : Rat) (e : Ending) (w' : World) : Prop :=
  Below w.heap.size w w' ∧ ∃ na A n c nb B m d, e = .returned (.agg #[.bool na, .slice A n c, .bool nb, .slice B m d]) ∧ Fr w' na A n c nb B m d r

/-- A result (fraction, error) without an error. -/
def FracE (w : World) (r : Rat) (e : Ending) (w' : World) : Prop :=
  Below w.heap.size w w' ∧ ∃ na A n c nb B m d, e = .returned (.tuple #[.agg #[.bool na, .slice A n c, .bool nb, .slice B m d], .int .i64 0]) ∧ Fr w' na A n c nb B m d r

/-- No cell of a world is turned but those of blocks from B on; numbers stay. -/
def StepN (w W : World) (g : Nat) : Prop :=
  (∀ na A n c z, Wd w na A n c z → Wd W na A n c z) ∧ (∀ g' t' cs', g' ≠ g → Blk w g' t' cs' → Blk W g' t' cs') ∧ W.heap.size = w.heap.size

theorem NoLimb.box4 (b : Bool) (A : Option Addr) (n c : Nat) (b' : Bool) (A' : Option Addr) (n' c' : Nat) : NoLimb #[.bool b, .slice A n c, .bool b', .slice A' n' c'] := fun i x => by
  rcases i with _ | _ | _ | _ | i <;> simp

/-- A store into a number's variable of the call's own. -/
theorem set_num {t : TypeId} {B : Nat} {w0 w : World} {g : Nat} {b0 : Bool} {A0 : Option Addr} {n0 c0 : Nat} (neg : Bool) (A : Option Addr) (n c : Nat) (hB : Below B w0 w) (hs : B ≤ g) (hb : Blk w g t #[.bool b0, .slice A0 n0 c0]) :
    ∃ W, (w.setCell ⟨g, 0, none⟩ (.bool neg)).setCell ⟨g, 1, none⟩ (.slice A n c) = W ∧ Below B w0 W ∧ Blk W g t #[.bool neg, .slice A n c] ∧ StepN w W g := by
  have hb1 : Blk (w.setCell ⟨g, 0, none⟩ (.bool neg)) g t #[.bool neg, .slice A0 n0 c0] := hb.set_ 0 (.bool neg)
  have hb2 : Blk ((w.setCell ⟨g, 0, none⟩ (.bool neg)).setCell ⟨g, 1, none⟩ (.slice A n c)) g t #[.bool neg, .slice A n c] := hb1.set_ 1 (.slice A n c)
  refine ⟨_, rfl, (hB.setCell (p := ⟨g, 0, none⟩) hs _).setCell (p := ⟨g, 1, none⟩) hs _, hb2, fun na A' n' c' z hW => ⟨hW.1, hW.2.1, (hW.2.2.set_box hb (NoLimb.box _ _ _ _) _ _).set_box hb1 (NoLimb.box _ _ _ _) _ _⟩, fun g' t' cs' hg h => (h.far hg _).far hg _, by simp⟩

/-- A store into a fraction's variable of the call's own. -/
theorem set_frac {t : TypeId} {B : Nat} {w0 w : World} {g : Nat} {a0 : Bool} {A0 : Option Addr} {n0 c0 : Nat} {b0 : Bool} {B0 : Option Addr} {m0 d0 : Nat} (na : Bool) (A : Option Addr) (n c : Nat) (nb : Bool) (B' : Option Addr) (m d : Nat) (hB : Below B w0 w) (hs : B ≤ g) (hb : Blk w g t #[.bool a0, .slice A0 n0 c0, .bool b0, .slice B0 m0 d0]) :
    ∃ W, (((w.setCell ⟨g, 0, none⟩ (.bool na)).setCell ⟨g, 1, none⟩ (.slice A n c)).setCell ⟨g, 2, none⟩ (.bool nb)).setCell ⟨g, 3, none⟩ (.slice B' m d) = W ∧ Below B w0 W ∧ Blk W g t #[.bool na, .slice A n c, .bool nb, .slice B' m d] ∧ StepN w W g := by
  have hb1 : Blk (w.setCell ⟨g, 0, none⟩ (.bool na)) g t #[.bool na, .slice A0 n0 c0, .bool b0, .slice B0 m0 d0] := hb.set_ 0 (.bool na)
  have hb2 : Blk ((w.setCell ⟨g, 0, none⟩ (.bool na)).setCell ⟨g, 1, none⟩ (.slice A n c)) g t #[.bool na, .slice A n c, .bool b0, .slice B0 m0 d0] := hb1.set_ 1 (.slice A n c)
  have hb3 : Blk (((w.setCell ⟨g, 0, none⟩ (.bool na)).setCell ⟨g, 1, none⟩ (.slice A n c)).setCell ⟨g, 2, none⟩ (.bool nb)) g t #[.bool na, .slice A n c, .bool nb, .slice B0 m0 d0] := hb2.set_ 2 (.bool nb)
  have hb4 : Blk ((((w.setCell ⟨g, 0, none⟩ (.bool na)).setCell ⟨g, 1, none⟩ (.slice A n c)).setCell ⟨g, 2, none⟩ (.bool nb)).setCell ⟨g, 3, none⟩ (.slice B' m d)) g t #[.bool na, .slice A n c, .bool nb, .slice B' m d] := hb3.set_ 3 (.slice B' m d)
  have hl := NoLimb.box4
  refine ⟨_, rfl, (((hB.setCell (p := ⟨g, 0, none⟩) hs _).setCell (p := ⟨g, 1, none⟩) hs _).setCell (p := ⟨g, 2, none⟩) hs _).setCell (p := ⟨g, 3, none⟩) hs _, hb4, fun na A' n' c' z hW => ⟨hW.1, hW.2.1, ?_⟩, fun g' t' cs' hg h => (((h.far hg _).far hg _).far hg _).far hg _, by simp⟩
  exact (((hW.2.2.set_box hb (hl _ _ _ _ _ _ _ _) _ _).set_box hb1 (hl _ _ _ _ _ _ _ _) _ _).set_box hb2 (hl _ _ _ _ _ _ _ _) _ _).set_box hb3 (hl _ _ _ _ _ _ _ _) _ _

theorem Blk.two {w : World} {g : Nat} {t : TypeId} {x y : Value} (h : Blk w g t #[x, y]) : w.cell? ⟨g, 0, none⟩ = some x ∧ w.cell? ⟨g, 1, none⟩ = some y ∧ w.frozen? ⟨g, 0, none⟩ = false ∧ w.frozen? ⟨g, 1, none⟩ = false :=
  ⟨h.cell 0, h.cell 1, h.frozen 0, h.frozen 1⟩
theorem Blk.four {w : World} {g : Nat} {t : TypeId} {x y z v : Value} (h : Blk w g t #[x, y, z, v]) : w.cell? ⟨g, 0, none⟩ = some x ∧ w.cell? ⟨g, 1, none⟩ = some y ∧ w.cell? ⟨g, 2, none⟩ = some z ∧ w.cell? ⟨g, 3, none⟩ = some v ∧ w.frozen? ⟨g, 0, none⟩ = false ∧ w.frozen? ⟨g, 1, none⟩ = false ∧ w.frozen? ⟨g, 2, none⟩ = false ∧ w.frozen? ⟨g, 3, none⟩ = false :=
  ⟨h.cell 0, h.cell 1, h.cell 2, h.cell 3, h.frozen 0, h.frozen 1, h.frozen 2, h.frozen 3⟩

/-- A new variable. -/
theorem new_obj {B : Nat} {w0 w : World} (t : TypeId) (cs : Array Value) (hB : Below B w0 w) (hs : B ≤ w.heap.size) :
    ∃ W, w.alloc (.cells cs t) = W ∧ Below B w0 W ∧ Blk W w.heap.size t cs ∧ (∀ na A n c z, Wd w na A n c z → Wd W na A n c z) ∧ (∀ g' t' cs', Blk w g' t' cs' → Blk W g' t' cs') ∧ W.heap.size = w.heap.size + 1 :=
  ⟨_, rfl, hB.alloc hs _, Blk.new _ _ _, fun _ _ _ _ _ h => h.alloc _, fun _ _ _ h => h.alloc _, by simp⟩
theorem alloc2 (w : World) (t0 : TypeId) (c0 : Array Value) (t1 : TypeId) (c1 : Array Value) :
    ∃ W, (w.alloc (.cells c0 t0)).alloc (.cells c1 t1) = W ∧ Below w.heap.size w W ∧ (Blk W w.heap.size t0 c0 ∧ Blk W (w.heap.size + 1) t1 c1) ∧ W.heap.size = w.heap.size + 1 + 1 := by
  refine ⟨_, rfl, ((Below.refl w.heap.size w).alloc (Nat.le_refl _) _).alloc (by simp) _, ⟨(Blk.new _ _ _).alloc _, ?_⟩, by simp⟩
  have := Blk.new (w.alloc (.cells c0 t0)) t1 c1
  simp only [World.size_alloc] at this; exact this
theorem alloc3 (w : World) (t0 : TypeId) (c0 : Array Value) (t1 : TypeId) (c1 : Array Value) (t2 : TypeId) (c2 : Array Value) :
    ∃ W, ((w.alloc (.cells c0 t0)).alloc (.cells c1 t1)).alloc (.cells c2 t2) = W ∧ Below w.heap.size w W ∧ (Blk W w.heap.size t0 c0 ∧ Blk W (w.heap.size + 1) t1 c1 ∧ Blk W (w.heap.size + 1 + 1) t2 c2) ∧ W.heap.size = w.heap.size + 1 + 1 + 1 := by
  obtain ⟨W, hW, h1, h2, h3⟩ := alloc2 w t0 c0 t1 c1
  refine ⟨_, rfl, ?_, ⟨?_, ?_, ?_⟩, by rw [hW]; simp [h3]⟩ <;> rw [hW]
  · exact h1.alloc (by omega) _
  · exact h2.1.alloc _
  · exact h2.2.alloc _
  · rw [← h3]; exact Blk.new _ _ _
theorem alloc4 (w : World) (t0 : TypeId) (c0 : Array Value) (t1 : TypeId) (c1 : Array Value) (t2 : TypeId) (c2 : Array Value) (t3 : TypeId) (c3 : Array Value) :
    ∃ W, (((w.alloc (.cells c0 t0)).alloc (.cells c1 t1)).alloc (.cells c2 t2)).alloc (.cells c3 t3) = W ∧ Below w.heap.size w W ∧ (Blk W w.heap.size t0 c0 ∧ Blk W (w.heap.size + 1) t1 c1 ∧ Blk W (w.heap.size + 1 + 1) t2 c2 ∧ Blk W (w.heap.size + 1 + 1 + 1) t3 c3) ∧ W.heap.size = w.heap.size + 1 + 1 + 1 + 1 := by
  obtain ⟨W, hW, h1, h2, h3⟩ := alloc3 w t0 c0 t1 c1 t2 c2
  refine ⟨_, rfl, ?_, ⟨?_, ?_, ?_, ?_⟩, by rw [hW]; simp [h3]⟩ <;> rw [hW]
  · exact h1.alloc (by omega) _
  · exact h2.1.alloc _
  · exact h2.2.1.alloc _
  · exact h2.2.2.alloc _
  · rw [← h3]; exact Blk.new _ _ _
/-- A store into an error's variable. -/
theorem set_code {t : TypeId} {B : Nat} {w0 w : World} {g : Nat} {x0 : Int} (x : Int) (hB : Below B w0 w) (hs : B ≤ g) (hb : Blk w g t #[.int .i64 x0]) :
    ∃ W, w.setCell ⟨g, 0, none⟩ (.int .i64 x) = W ∧ Below B w0 W ∧ Blk W g t #[.int .i64 x] ∧ StepN w W g := by
  have hb1 : Blk (w.setCell ⟨g, 0, none⟩ (.int .i64 x)) g t #[.int .i64 x] := hb.set_ 0 (.int .i64 x)
  have hl : NoLimb #[.int .i64 x0] := fun i x => by rcases i with _ | i <;> simp
  exact ⟨_, rfl, hB.setCell (p := ⟨g, 0, none⟩) hs _, hb1, fun na A' n' c' z hW => ⟨hW.1, hW.2.1, hW.2.2.set_box hb hl _ _⟩, fun g' t' cs' hg h => h.far hg _, by simp⟩
end Go.Proofs.YtljocgdhdilglaaGreat

namespace Go.Proofs.YtljocgdhdilglaaGreat
open Go.RowKit
attribute [local go_sem] add_lit

set_option maxRecDepth 100000 in
set_option maxHeartbeats 1000000 in
theorem reduce_pos (na : Bool) (A B : Option Addr) (n c m d : Nat) (za zb : Int) (w : World) (ha : Wd w na A n c za) (hb : Wd w false B m d zb) (h0 : 0 < zb) :
    Calls Tryz.prog 85 #[.agg #[.bool na, .slice A n c], .agg #[.bool false, .slice B m d]] w (FracW w (Rat.divInt za zb)) := by
  have hgs := gcd_small ha.small hb.small
  have hx := hide (red_num (a := za) (b := zb) (by omega))
  have hy := hide (red_den (a := za) (b := zb) (by omega))
  have hG0 := hide (redG_ne (a := za) (b := zb) (by omega))
  have hGE : redG za zb = (Nat.gcd za.natAbs zb.natAbs : Nat) := by unfold redG; rw [if_neg (by omega)]
  rw [hGE] at hx hy hG0
  have HA := hide ha
  have HB := hide hb
  obtain ⟨G, hG⟩ : ∃ G, Nat.gcd za.natAbs zb.natAbs = G := ⟨_, rfl⟩
  rw [hG] at hx hy hG0 hgs
  have HGc : Hid (∀ W : World, Wd W na A n c za → Wd W false B m d zb → Calls Tryz.prog 69 #[.agg #[.bool na, .slice A n c], .agg #[.bool false, .slice B m d]] W (ResW W (G : Int))) := fun W h1 h2 => by
    have := Gcd_ok na false A B n c m d za zb W h1 h2
    rw [hG] at this; exact this
  generalize Rat.divInt za zb = R at *
  clear ha hb hG hGE
  have hB0 : ∀ X Y Z : Obj, Below w.heap.size w (((w.alloc X).alloc Y).alloc Z) := fun X Y Z => (((Below.refl w.heap.size w).alloc (Nat.le_refl _) _).alloc (by simp) _).alloc (by simp; omega) _
  have hB0 := hide hB0
  go_enter Tryz.func85, Tryz.ntmps85
  go_wp2_with fail
  have q0 : Blk (((w.alloc (.cells #[.bool na, .slice A n c] 25)).alloc (.cells #[.bool false, .slice B m d] 25)).alloc (.cells #[.bool false, .slice none 0 0, .bool false, .slice none 0 0] 27)) w.heap.size 25 #[.bool na, .slice A n c] := ((Blk.new _ _ _).alloc _).alloc _
  have q1 : Blk (((w.alloc (.cells #[.bool na, .slice A n c] 25)).alloc (.cells #[.bool false, .slice B m d] 25)).alloc (.cells #[.bool false, .slice none 0 0, .bool false, .slice none 0 0] 27)) (w.heap.size + 1) 25 #[.bool false, .slice B m d] := by
    have := (Blk.new (w.alloc (.cells #[.bool na, .slice A n c] 25)) 25 #[.bool false, .slice B m d]).alloc (.cells #[.bool false, .slice none 0 0, .bool false, .slice none 0 0] 27)
    simp only [World.size_alloc] at this; exact this
  have q2 : Blk (((w.alloc (.cells #[.bool na, .slice A n c] 25)).alloc (.cells #[.bool false, .slice B m d] 25)).alloc (.cells #[.bool false, .slice none 0 0, .bool false, .slice none 0 0] 27)) (w.heap.size + 1 + 1) 27 #[.bool false, .slice none 0 0, .bool false, .slice none 0 0] := by
    have := Blk.new ((w.alloc (.cells #[.bool na, .slice A n c] 25)).alloc (.cells #[.bool false, .slice B m d] 25)) 27 #[.bool false, .slice none 0 0, .bool false, .slice none 0 0]
    simp only [World.size_alloc] at this; exact this
  refine (HGc.out _ (((HA.out.alloc _).alloc _).alloc _) (((HB.out.alloc _).alloc _).alloc _)).mono ?_
  rintro e w1 ⟨hb1, ng, Ag, kg, cg, code, rfl, hR⟩
  rcases hR with ⟨-, rfl, hgw⟩ | ⟨hbig, -⟩
  case inr => exact absurd hbig (by omega)
  have hB1 : Below w.heap.size w w1 := (hB0.out _ _ _).trans (hb1.mono (by simp; omega))
  have HA1 := hide (HA.out.below hB1)
  have HB1 := hide (HB.out.below hB1)
  have s1 : w.heap.size + 1 + 1 < w1.heap.size := by have := hb1.size; simp at this; omega
  replace q0 := keep_blk hb1 q0
  replace q1 := keep_blk hb1 q1
  replace q2 := keep_blk hb1 q2
  obtain ⟨c00, c01, -, -⟩ := q0.two
  obtain ⟨c10, c11, -, -⟩ := q1.two
  have hq := hide (And.intro q0 (And.intro q1 q2))
  clear q0 q1 q2 hb1
  go_wp2_with fail
  refine (must_ok ng Ag kg cg _).mono ?_
  rintro e w2 ⟨rfl, hb2⟩
  have hB2 : Below w.heap.size w w2 := hB1.trans (hb2.mono hB1.size)
  have HA2 := hide (HA1.out.below hb2)
  have HB2 := hide (HB1.out.below hb2)
  have HG2 := hide (hgw.below hb2)
  have s2 : w.heap.size + 1 + 1 < w2.heap.size := by have := hb2.size; omega
  have q0 := keep_blk hb2 hq.out.1
  have q1 := keep_blk hb2 hq.out.2.1
  have q2 := keep_blk hb2 hq.out.2.2
  clear c00 c01 c10 c11 hB1 hb2 hgw HA1 HB1 hq
  obtain ⟨W3, hW3, hB3, q3, kW, kB, s3⟩ := new_obj 25 #[.bool ng, .slice Ag kg cg] hB2 (by omega)
  replace q0 := kB _ _ _ q0
  replace q1 := kB _ _ _ q1
  replace q2 := kB _ _ _ q2
  have HA3 := hide (kW _ _ _ _ _ HA2.out)
  have HB3 := hide (kW _ _ _ _ _ HB2.out)
  have HG3 := hide (kW _ _ _ _ _ HG2.out)
  have s4 : w.heap.size + 1 + 1 < w2.heap.size := s2
  clear kW kB HA2 HB2 HG2 hB2
  have c0 := hide q0.two
  have c1 := hide q1.two
  have c3 := hide q3.two
  rw [← hW3] at c0 c1 c3
  obtain ⟨c00, c01, -, -⟩ := c0.out
  obtain ⟨c10, c11, -, -⟩ := c1.out
  obtain ⟨c30, c31, -, -⟩ := c3.out
  have hq := hide (And.intro q0 (And.intro q1 (And.intro q2 q3)))
  clear q0 q1 q2 q3
  replace hW3 := hide hW3
  go_wp2_with fail
  rw [hW3.out]
  refine (DivMod_ok na ng A Ag n c kg cg za G _ HA3.out HG3.out hG0.out).mono ?_
  rintro e w4 ⟨hb4, nx, Ax, kx, cx, nr, Ar, kr, cr, rfl, hwx, -⟩
  rw [hx.out] at hwx
  have hB4 : Below w.heap.size w w4 := hB3.trans (hb4.mono (by omega))
  have HB4 := hide (HB3.out.below hb4)
  have HG4 := hide (HG3.out.below hb4)
  have s5 : w2.heap.size + 1 ≤ w4.heap.size := by have := hb4.size; omega
  have q1 := keep_blk hb4 hq.out.2.1
  have q2 := keep_blk hb4 hq.out.2.2.1
  have q3 := keep_blk hb4 hq.out.2.2.2
  clear hb4 c0 c1 c3 c00 c01 c10 c11 c30 c31 hW3 HA3 HB3 HG3 hB3 hq
  obtain ⟨W5, hW5, hB5, q5, kW, kB, s6⟩ := new_obj 25 #[.bool nx, .slice Ax kx cx] hB4 (by omega)
  replace q1 := kB _ _ _ q1
  replace q2 := kB _ _ _ q2
  replace q3 := kB _ _ _ q3
  have HB5 := hide (kW _ _ _ _ _ HB4.out)
  have HG5 := hide (kW _ _ _ _ _ HG4.out)
  have HX5 := hide (kW _ _ _ _ _ hwx)
  clear kW kB HB4 HG4 hwx hB4
  obtain ⟨W6, hW6, hB6, -, kW, kB, s7⟩ := new_obj 25 #[.bool nr, .slice Ar kr cr] hB5 (by omega)
  replace q1 := kB _ _ _ q1
  replace q2 := kB _ _ _ q2
  replace q3 := kB _ _ _ q3
  replace q5 := kB _ _ _ q5
  have HB6 := hide (kW _ _ _ _ _ HB5.out)
  have HG6 := hide (kW _ _ _ _ _ HG5.out)
  have HX6 := hide (kW _ _ _ _ _ HX5.out)
  clear kW kB HB5 HG5 HX5 hB5
  have c1 := hide q1.two
  have c3 := hide q3.two
  rw [← hW6, ← hW5] at c1 c3
  obtain ⟨c10, c11, -, -⟩ := c1.out
  obtain ⟨c30, c31, -, -⟩ := c3.out
  have hq := hide (And.intro q2 q5)
  clear q1 q2 q3 q5
  rw [← hW5] at hW6
  replace hW6 := hide hW6
  clear hW5
  go_wp2_with fail
  rw [hW6.out]
  refine (DivMod_ok false ng B Ag m d kg cg zb G _ HB6.out HG6.out hG0.out).mono ?_
  rintro e w7 ⟨hb7, ny, Ay, ky, cy, ns, As, ks, cs, rfl, hwy, -⟩
  rw [hy.out] at hwy
  have hB7 : Below w.heap.size w w7 := hB6.trans (hb7.mono (by omega))
  have HX7 := hide (HX6.out.below hb7)
  have s8 : w4.heap.size + 2 ≤ w7.heap.size := by have := hb7.size; omega
  have q2 := keep_blk hb7 hq.out.1
  have q5 := keep_blk hb7 hq.out.2
  clear hb7 c1 c3 c10 c11 c30 c31 hW6 HB6 HG6 HX6 hB6 hq
  obtain ⟨W8, hW8, hB8, q8, kW, kB, s9⟩ := new_obj 25 #[.bool ny, .slice Ay ky cy] hB7 (by omega)
  replace q2 := kB _ _ _ q2
  replace q5 := kB _ _ _ q5
  have HX8 := hide (kW _ _ _ _ _ HX7.out)
  have HY8 := hide (kW _ _ _ _ _ hwy)
  clear kW kB HX7 hwy hB7
  obtain ⟨W9, hW9, hB9, -, kW, kB, s10⟩ := new_obj 25 #[.bool ns, .slice As ks cs] hB8 (by omega)
  replace q2 := kB _ _ _ q2
  replace q5 := kB _ _ _ q5
  replace q8 := kB _ _ _ q8
  have HX9 := hide (kW _ _ _ _ _ HX8.out)
  have HY9 := hide (kW _ _ _ _ _ HY8.out)
  clear kW kB HX8 HY8 hB8
  have c5 := hide q5.two
  have c8 := hide q8.two
  have c2 := hide q2.four
  have hq := hide q2
  rw [← hW9, ← hW8] at c5 c8 c2
  rw [← hW8] at hW9
  clear hW8 q2 q5 q8
  obtain ⟨c50, c51, -, -⟩ := c5.out
  obtain ⟨c80, c81, -, -⟩ := c8.out
  obtain ⟨c20, c21, c22, c23, f20, f21, f22, f23⟩ := c2.out
  replace hW9 := hide hW9
  replace hB9 := hide hB9
  go_wp2_with fail
  rw [hW9.out]
  obtain ⟨W, hW, hB, hblk, kW, -⟩ := set_frac nx Ax kx cx ny Ay ky cy hB9.out (by omega) hq.out
  rw [hW]
  obtain ⟨r0, r1, r2, r3, -⟩ := hblk.four
  refine bodyPost_ret (v := .agg #[.bool nx, .slice Ax kx cx, .bool ny, .slice Ay ky cy]) (by simp [results, Tryz.results85, go_sem, r0, r1, r2, r3]) rfl ?_
  exact ⟨hB, _, _, _, _, _, _, _, _, rfl, kW _ _ _ _ _ HX9.out, kW _ _ _ _ _ HY9.out⟩
end Go.Proofs.YtljocgdhdilglaaGreat
