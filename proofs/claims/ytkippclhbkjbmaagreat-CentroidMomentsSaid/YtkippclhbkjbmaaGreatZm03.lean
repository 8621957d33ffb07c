/- Package wide: step. -/
import Derived.BigQuiet
import Derived.Deep.QuietTactic
import Derived.Laws.IdiomCopy
import Derived.Test.YtkippclhbkjbmaaGreatZm02
set_option linter.unusedSimpArgs false
set_option linter.unusedVariables false

namespace Go.Proofs.YtkippclhbkjbmaaGreat
open Go.RowKit
attribute [local go_sem] add_lit

theorem MutL.reads {w : World} {g off : Nat} {l : List Nat} (h : MutL w g off l) : Reads w w.heap.size 1 (some ⟨g, off, none⟩) l.length (l.map limb) :=
  ⟨by simp, fun hn => ⟨_, rfl, by have := lt_of_cell (h 0 hn).1; exact this, fun j u hu => by
    rw [add_lit]
    have hj : j < l.length := by
      rcases Nat.lt_or_ge j l.length with h' | h'
      · exact h'
      · rw [List.getElem?_eq_none (by simpa using h')] at hu; cases hu
    rw [(h j hj).1]
    rw [List.getElem?_map, List.getElem?_eq_getElem hj] at hu
    rw [List.getElem?_eq_getElem hj]
    simpa using hu⟩⟩
theorem MutL.below {w w' : World} {g off : Nat} {l : List Nat} (h : MutL w g off l) (hb : Below w.heap.size w w') : MutL w' g off l := fun j hj =>
  ⟨keep_cell hb (h j hj).1, keep_frozen hb (h j hj).1 (h j hj).2⟩
theorem MutL.drew {w : World} {g off : Nat} {l : List Nat} (h : MutL w g off l) : MutL w.drew g off l := h
theorem MutL.win {w : World} {g off : Nat} {l : List Nat} (h : MutL w g off l) {k n : Nat} (hk : k + n ≤ l.length) : MutL w g (off + k) ((l.drop k).take n) := fun j hj => by
  rw [List.length_take, List.length_drop] at hj
  have := h (k + j) (by omega)
  rw [List.getElem?_take, if_pos (by omega), List.getElem?_drop, Nat.add_assoc]
  exact this
/-- Cells written over. -/
theorem MutL.splice {w : World} {g : Nat} {u l : List Nat} {k : Nat} (h : MutL w g 0 u) (hk : k + l.length ≤ u.length) : MutL (w.setCells g k (l.map limb)) g 0 (splice u k l) := fun j hj => by
  rw [splice_length hk] at hj
  obtain ⟨h1, h2⟩ := h j hj
  rw [Nat.zero_add] at h1 h2 ⊢
  refine ⟨?_, by rw [World.frozen?_setCells]; exact h2⟩
  by_cases hin : k ≤ j ∧ j < k + l.length
  · obtain ⟨i, rfl⟩ : ∃ i, j = k + i := ⟨j - k, by omega⟩
    rw [splice_in hk (by omega)]
    have := World.cell?_setCells_in g (l.map limb) k w (fun i hi => by
      rw [List.length_map] at hi
      have := (h (k + i) (by omega)).1
      rw [Nat.zero_add] at this
      rw [this]; rfl) i (by rw [List.length_map]; omega)
    rw [this]
    simp [List.getElem?_eq_getElem (show i < l.length by omega)]
  · rw [splice_out hk (by omega), World.cell?_setCells_out g _ k w _ (fun _ _ => by rw [List.length_map]; simp only []; omega)]
    exact h1
theorem grownBy_setCells {w w' : World} {g o : Nat} {us : List Value} (h : w.grownBy w' (some g)) : w.grownBy (w'.setCells g o us) (some g) := by
  induction us generalizing o w' with
  | nil => exact h
  | cons u us ih => exact ih (grownBy_set h)
theorem size_setCells (w : World) (g o : Nat) (us : List Value) : (w.setCells g o us).heap.size = w.heap.size := by
  induction us generalizing o w with
  | nil => rfl
  | cons u us ih => rw [World.setCells, ih]; simp

theorem quiet_add {P : Program} {f : FuncId} {args : Array Value} {w : World} {a n : Nat} {v : Value}
    (h : Calls P f args (w.drewN (a + n)) fun e w' => e = .returned v ∧ ∃ m, w' = (w.drewN (a + n)).drewN m) :
    Calls P f args (w.drewN (a + n)) fun e w'' => e = .returned v ∧ ∃ m, w'' = w.drewN (a + m) :=
  h.mono fun _ _ ⟨he, m, hm⟩ => ⟨he, n + m, by rw [hm, World.drewN_drewN, Nat.add_assoc]⟩
theorem div32_q (x y d : Nat) (w : World) (hx : x < d) (hy : y < 4294967296) (hd : d < 4294967296) :
    Calls Tryz.prog 125 #[limb x, limb y, limb d] w fun e w' => e = .returned (.tuple #[limb ((x * 4294967296 + y) / d), limb ((x * 4294967296 + y) % d)]) ∧ ∃ m, w' = w.drewN m :=
  (div32_any x y d w hx hy hd).mono fun _ _ ⟨he, hm⟩ => ⟨he, 1, hm⟩

/-- What 'step' hands back: a limb of the quotient; the rest stands where the dividend stood. -/
def StepP (w : World) (g off : Nat) (u v : List Nat) (e : Ending) (w' : World) : Prop :=
  ∃ l w1, e = .returned (limb (val u / val v)) ∧ l.length = u.length ∧ Lt32 l ∧ val l = val u % val v ∧ Below w.heap.size w w1 ∧ w' = w1.setCells g off (l.map limb)

set_option maxRecDepth 100000 in
set_option maxHeartbeats 2000000 in
theorem step_any (g off n c d : Nat) (B : Option Addr) (u v : List Nat) (w : World) (hu : MutL w g off u) (hul : u.length = n + 1) (hut : Lt32 u) (hnc : n + 1 ≤ c) (hcm : c ≤ maxLen) (hn9 : n ≤ 1000000) (hn0 : 0 < n)
    (hv : Lim w B n d v) (hlt : val u < 4294967296 * val v) (htop : v[n - 1]?.getD 0 ≠ 0) :
    Calls Tryz.prog 119 #[.slice (some ⟨g, off, none⟩) (n + 1) c, .slice B n d] w (StepP w g off u v) := by
  unfold maxLen at hcm
  have hnd := hv.2.1
  have hdm := hv.2.2.1
  unfold maxLen at hdm
  have hvl := hv.len
  obtain ⟨bv, ov, rfl, hcv⟩ := hv.at_ (k := n - 1) (by omega)
  have hV : 0 < val v := by
    rcases Nat.eq_zero_or_pos (val v) with h0 | h0
    · rw [h0] at hlt; omega
    · exact h0
  obtain ⟨q, hq⟩ : ∃ q, val u / val v = q := ⟨_, rfl⟩
  have hqlt : q < 4294967296 := by rw [← hq, Nat.div_lt_iff_lt_mul hV]; exact hlt
  have hun := hut.get n
  have hun1 := hut.get (n - 1)
  have hvn := hv.lt.get (n - 1)
  have hcu := hu n (by omega)
  have hcu1 := hu (n - 1) (by omega)
  have hguess : u[n]?.getD 0 < v[n - 1]?.getD 0 → q ≤ (u[n]?.getD 0 * 4294967296 + u[n - 1]?.getD 0) / v[n - 1]?.getD 0 := fun _ => by
    rw [← hq]
    exact div_guess (by omega) (top_le hvl hn0) (top2_lt hul hn0 hut)
  have hglt : u[n]?.getD 0 < v[n - 1]?.getD 0 → (u[n]?.getD 0 * 4294967296 + u[n - 1]?.getD 0) / v[n - 1]?.getD 0 < 4294967296 := fun h => by
    rw [Nat.div_lt_iff_lt_mul (by omega)]
    have := Nat.mul_le_mul_left 4294967296 (show u[n]?.getD 0 + 1 ≤ v[n - 1]?.getD 0 by omega)
    omega
  have HQ := hide hq
  have hfull := hide hul
  have hvl' := hide hvl
  clear hq hul hvl
  have hfz := hcu.1
  have hfz1 := hcu1.1
  obtain ⟨x, hx⟩ : ∃ x, u[n]?.getD 0 = x := ⟨_, rfl⟩
  obtain ⟨y, hy⟩ : ∃ y, u[n - 1]?.getD 0 = y := ⟨_, rfl⟩
  obtain ⟨z, hz⟩ : ∃ z, v[n - 1]?.getD 0 = z := ⟨_, rfl⟩
  rw [hx] at hun hfz
  rw [hy] at hun1 hfz1
  rw [hz] at hvn hcv htop
  rw [hx, hy, hz] at hguess hglt
  clear hx hy hz hcu hcu1
  by_cases hc : x < z
  all_goals
    first
    | (have hc' : decide (x < z) = true := by simpa using hc)
    | (have hc' : decide (x < z) = false := by simpa using hc)
    go_enter Tryz.func119, Tryz.ntmps119
    go_wp2_with fail
    go_quiet (fail)
    go_wp2_with fail
    first
    | (go_quiet ((go_at_call 125; exact quiet_add (div32_q _ _ _ _ hc hun1 hvn))))
    | skip
    go_wp2_with fail
    go_loopw [6] (fun gv wr => ∃ gs : Nat, gv = limb gs ∧ q ≤ gs ∧ gs < 4294967296 ∧ Below w.heap.size w wr) (fun gv _ => (intOf gv).toNat)
    case atStart => first | exact ⟨_, rfl, hguess hc, hglt hc, below_dn (below_dn (Below.refl _ _) _) _⟩ | exact ⟨4294967295, rfl, by omega, by omega, below_dn (Below.refl _ _) _⟩
    case round =>
      obtain ⟨gs, rfl, hg1, hg2, hB⟩ := hrel
      clear hguess hglt hfz hfz1
      have huM := hu.below hB
      have hvL := hv.below hB
      have hbv : bv < wr.heap.size := Nat.lt_of_lt_of_le (lt_of_cell hcv) hB.size
      have hgw : g < wr.heap.size := Nat.lt_of_lt_of_le (lt_of_cell (hu 0 (by rw [hfull.out]; omega)).1) hB.size
      have hrd : Reads wr wr.heap.size 1 (some ⟨g, off, none⟩) (n + 1) (u.map limb) := by have := huM.reads; rw [hfull.out] at this; exact this
      go_wp2_with fail
      refine (clone_any ⟨g, off, none⟩ (n + 1) c u _ hrd hfull.out hut (by omega) hnc (by unfold maxLen; omega)).mono ?_
      rintro e w1 ⟨v1, rfl, hown, hb1⟩
      obtain ⟨g1, cap1, hv1, hg1', hg1s, hl1, hc1, hM1⟩ := hown.mut (by rw [hfull.out]; omega)
      rw [hfull.out] at hv1 hl1
      subst hv1
      go_wp2_with fail
      refine (subtract_any g1 0 n cap1 d gs (some ⟨bv, ov, none⟩) u v _ hM1 hfull.out hut hl1 hc1 (by omega) (hvL.below hb1) (fun b o e => by injection e with e; injection e with e1 e2; omega) hg2).mono ?_
      rintro e w2 ⟨b, l, hb01, rfl, hM2, hll, hlt2, hI, hgr⟩
      have hB2 : Below w.heap.size w w2 := (hB.trans (hb1.mono hB.size)).grown hgr (by have := hb1.size; have := hB.size; omega) (fun j hj => by injection hj with hj; have := hB.size; omega)
      rcases Nat.eq_zero_or_pos b with rfl | hb0
      · obtain ⟨hit1, hit2⟩ := guess_hit (U := val u) (q := gs) (W := val l) hV (by rw [Nat.mul_zero] at hI; exact hI) (by rw [HQ.out]; exact hg1)
        have hcopy : ∀ ty, (Builtin.copy_ #[28, 28] ty #[.slice (some ⟨g, off, none⟩) (n + 1) c, .slice (some ⟨g1, 0, none⟩) (n + 1) cap1]).run Tryz.prog w2 = .ok (goInt ((n + 1 : Nat) : Int)) (w2.setCells g off (l.map limb)) := fun ty => by
          obtain ⟨i0, hi, hz0, hz1, hz2⟩ := info_parts info32
          have h := run_copy_cells (P := Tryz.prog) w2 28 28 ty 124 g off (n + 1) c ⟨g1, 0, none⟩ (n + 1) cap1 (l.map limb) Tryz.underlying28 (by rw [hi]; simp [hz1]) (by rw [List.length_map, hll]; exact (Nat.min_self _).symm)
            (fun j x hx => by
              have hj : j < l.length := by
                rcases Nat.lt_or_ge j l.length with h' | h'
                · exact h'
                · rw [List.getElem?_eq_none (by simpa using h')] at hx; cases hx
              rw [add_lit, (hM2 j hj).1]
              rw [List.getElem?_map, List.getElem?_eq_getElem hj] at hx
              rw [List.getElem?_eq_getElem hj]
              simpa using hx)
            (fun j hj => by
              rw [List.length_map, hll] at hj
              have h3 := (huM j (by rw [hfull.out]; exact hj)).1
              have h4 := keep_cell hb1 h3
              rw [(World.cell?_of_block (a := ⟨g, off + j, none⟩) (hgr.block g (by have := hb1.size; omega) (fun e => by injection e with e; omega))), h4]; rfl)
            (fun j hj => by
              rw [List.length_map, hll] at hj
              have h3 := huM j (by rw [hfull.out]; exact hj)
              have h4 := keep_frozen hb1 h3.1 h3.2
              rw [(World.frozen?_of_block (a := ⟨g, off + j, none⟩) (hgr.block g (by have := hb1.size; omega) (fun e => by injection e with e; omega))), h4])
            (oneCell_limbs l)
          rw [List.length_map, hll] at h
          exact h
        have hP : StepP w g off u v (.returned (limb gs)) (w2.setCells g off (l.map limb)) := ⟨l, w2, by rw [hit1], by rw [hll, hfull.out], hlt2, hit2, hB2, rfl⟩
        replace hP := hide hP
        clear hit1 hit2 hI hll
        go_wp2_with fail
        go_ret
        exact hP.out
      · obtain rfl : b = 1 := by omega
        have hmiss : q < gs := by
          have := guess_miss (q := gs) (W := val l) (M := pw (n + 1)) hV (by rw [Nat.mul_one] at hI; exact hI) (by have := val_lt hlt2; rw [hll] at this; exact this)
          rw [HQ.out] at this; exact this
        clear hI hll
        go_wp2_with fail
        go_roundw
        case rel => exact ⟨gs - 1, by go_num, by omega, by omega, hB2⟩
        case measure => simp [intOf]; omega
end Go.Proofs.YtkippclhbkjbmaaGreat
