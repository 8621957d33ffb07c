/- math/bits.Div32. Division of limbs: what the loops of step, divide, right, short and digit keep. Plain. Package wide: step. Package wide: down, an iterator over limbs from the highest one on; compare. -/
import Derived.BigQuiet
import Derived.Deep.QuietTactic
import Derived.Laws.IdiomCopy
import Derived.RangeFuncBox
import Derived.RangeFuncLeaves
import Derived.RangeFuncNested
import Derived.RangeFuncCalls
import Derived.Shelf.Abstract
import Derived.OwnWalkIn
import Derived.TacticsInMore
import Derived.LoopNIn
import Derived.LoopIn
import Derived.Test.YtkippclhbkjbmaaGreatZh01
set_option linter.unusedSimpArgs false
set_option linter.unusedVariables false

namespace Go.Proofs.YtkippclhbkjbmaaGreat
open Go.RowKit
attribute [local go_sem] add_lit

set_option maxRecDepth 100000 in
set_option maxHeartbeats 1000000 in
theorem div32_any (x y d : Nat) (w : World) (hx : x < d) (hy : y < 4294967296) (hd : d < 4294967296) :
    Calls Tryz.prog 125 #[limb x, limb y, limb d] w fun e w' => e = .returned (.tuple #[limb ((x * 4294967296 + y) / d), limb ((x * 4294967296 + y) % d)]) ∧ w' = w.drew := by
  have d1 : ((d : Int) == 0) = false := by simp; omega
  have d2 : decide ((d : Int) ≤ (x : Int)) = false := by simp; omega
  have d3 : (d : Int) ≠ 0 := by omega
  have d2' : decide (d ≤ x) = false := by simp; omega
  obtain ⟨t, ht⟩ : ∃ t, x * 4294967296 + y = t := ⟨_, rfl⟩
  have hor : bits .or .u64 ((x : Int) * 4294967296) (y : Int) = (t : Int) := by
    have h1 : ((x : Int) * 4294967296) = ((4294967296 * x : Nat) : Int) := by omega
    rw [h1, u64_or_nat _ _ (by omega) (by omega)]
    have h2 := Nat.two_pow_add_eq_or_of_lt (i := 32) (b := y) (by omega) x
    rw [show (2 : Nat) ^ 32 = 4294967296 by rfl] at h2
    rw [← h2]
    omega
  have hq : t / d < 4294967296 := by rw [Nat.div_lt_iff_lt_mul (by omega)]; have := Nat.mul_le_mul_left 4294967296 (show x + 1 ≤ d by omega); omega
  have hr : t % d < d := Nat.mod_lt _ (by omega)
  have htb : t < 18446744073709551616 := by omega
  rw [ht]
  replace ht := hide ht
  go_enter Tryz.func125, Tryz.ntmps125
  go_wp2_with fail
  go_region
  have e1 : IntKind.u64.wrap ((t : Int) / (d : Int)) % 4294967296 = ((t / d : Nat) : Int) := by
    rw [show (t : Int) / (d : Int) = ((t / d : Nat) : Int) from rfl]
    generalize t / d = z at *
    simp only [IntKind.wrap_u64]
    omega
  go_wp2_with fail
  go_ret2
  exact ⟨ret_pair32 e1 rfl, rfl⟩
end Go.Proofs.YtkippclhbkjbmaaGreat

namespace Go.Proofs.YtkippclhbkjbmaaGreat

theorem drop_val6 {l : List Nat} {k : Nat} (h : k < l.length) : val (l.drop k) = l[k]?.getD 0 + 4294967296 * val (l.drop (k + 1)) := by
  rw [List.drop_eq_getElem_cons h, val, List.getElem?_eq_getElem h]; rfl
theorem div_of {U V q R : Nat} (h : R + q * V = U) (hR : R < V) : q = U / V ∧ R = U % V := by
  subst h
  have hV : 0 < V := by omega
  constructor
  · rw [Nat.add_mul_div_right _ _ hV, Nat.div_eq_of_lt hR, Nat.zero_add]
  · rw [Nat.add_mul_mod_self_right, Nat.mod_eq_of_lt hR]
/-- A multiple that is not too great, of a guess that is not too small. -/
theorem guess_hit {U V q W : Nat} (hV : 0 < V) (h : W + q * V = U) (hq : U / V ≤ q) : q = U / V ∧ W = U % V := by
  have h1 : q ≤ U / V := by rw [Nat.le_div_iff_mul_le hV]; omega
  have h2 : q = U / V := by omega
  refine ⟨h2, ?_⟩
  have h3 := Nat.div_add_mod U V
  rw [← h2, Nat.mul_comm V q] at h3
  omega
/-- A multiple that is too great: the guess less 1 is not too small. -/
theorem guess_miss {U V q W M : Nat} (hV : 0 < V) (h : W + q * V = U + M) (hW : W < M) : U / V < q := by
  rw [Nat.div_lt_iff_lt_mul hV]; omega

/-- One step of a division from the highest limb down. -/
theorem down_step {out l : List Nat} {k D r q r' : Nat} (ho : k < out.length) (hl : k < l.length) (hI : val (out.drop (k + 1)) * D + r = val (l.drop (k + 1))) (he : q * D + r' = r * 4294967296 + l[k]?.getD 0) :
    val ((out.set k q).drop k) * D + r' = val (l.drop k) := by
  rw [drop_val6 (l := out.set k q) (by rw [List.length_set]; exact ho), getD_set_eq _ ho, List.drop_set_of_lt (by omega), drop_val6 hl, Nat.add_mul, ← hI, Nat.mul_add, Nat.mul_assoc]
  omega

/-- One step of moving to the right. -/
theorem shr_step {r : List Nat} {i s : Nat} (hs : s ≤ 32) (hi : i < r.length) (hlt : Lt32 r) :
    val (r.drop i) / 2 ^ s = (r[i]?.getD 0 + 4294967296 * r[i + 1]?.getD 0) / 2 ^ s % 4294967296 + 4294967296 * (val (r.drop (i + 1)) / 2 ^ s) := by
  have hp : 0 < 2 ^ s := Nat.pow_pos (by omega)
  have e1 : val (r.drop i) = r[i]?.getD 0 + 4294967296 * val (r.drop (i + 1)) := drop_val6 hi
  obtain ⟨t, e2⟩ : ∃ t, val (r.drop (i + 1)) = r[i + 1]?.getD 0 + 4294967296 * t := by
    rcases Nat.lt_or_ge (i + 1) r.length with h | h
    · exact ⟨_, drop_val6 h⟩
    · exact ⟨0, by rw [List.drop_of_length_le h, getD_none h]; rfl⟩
  have hx := hlt.get i
  have hq : (4294967296 : Nat) = 2 ^ s * 2 ^ (32 - s) := by rw [← Nat.pow_add, show s + (32 - s) = 32 by omega]
  have hb : 4294967296 * (val (r.drop (i + 1)) / 2 ^ s) = 4294967296 * (val (r.drop i) / 2 ^ s / 4294967296) := by
    congr 1
    rw [Nat.div_div_eq_div_mul, Nat.mul_comm (2 ^ s), ← Nat.div_div_eq_div_mul, e1]
    congr 1
    omega
  have ha : (r[i]?.getD 0 + 4294967296 * r[i + 1]?.getD 0) / 2 ^ s % 4294967296 = val (r.drop i) / 2 ^ s % 4294967296 := by
    rw [e1, e2]
    have : r[i]?.getD 0 + 4294967296 * (r[i + 1]?.getD 0 + 4294967296 * t) = (r[i]?.getD 0 + 4294967296 * r[i + 1]?.getD 0) + 2 ^ s * (2 ^ (32 - s) * t * 4294967296) := by
      have : 2 ^ s * (2 ^ (32 - s) * t * 4294967296) = (2 ^ s * 2 ^ (32 - s)) * t * 4294967296 := by grind
      rw [this, ← hq]; omega
    rw [this, Nat.add_mul_div_left _ _ hp, Nat.add_mul_mod_self_right]
  rw [ha, hb]
  omega

/-- A list of limbs with some of them exchanged. -/
def splice (u : List Nat) (k : Nat) (l : List Nat) : List Nat := u.take k ++ l ++ u.drop (k + l.length)
theorem splice_length {u l : List Nat} {k : Nat} (h : k + l.length ≤ u.length) : (splice u k l).length = u.length := by
  unfold splice; simp; omega
theorem splice_lt {u l : List Nat} {k : Nat} (hu : Lt32 u) (hl : Lt32 l) : Lt32 (splice u k l) := ((hu.take _).append hl).append (hu.drop _)
theorem splice_in {u l : List Nat} {k i : Nat} (h : k + l.length ≤ u.length) (hi : i < l.length) : (splice u k l)[k + i]?.getD 0 = l[i]?.getD 0 := by
  unfold splice
  rw [List.getElem?_append_left (by simp; omega), List.getElem?_append_right (by simp; omega), List.length_take, Nat.min_eq_left (by omega), show k + i - k = i by omega]
theorem splice_out {u l : List Nat} {k j : Nat} (h : k + l.length ≤ u.length) (hj : j < k ∨ k + l.length ≤ j) : (splice u k l)[j]?.getD 0 = u[j]?.getD 0 := by
  unfold splice
  rcases hj with hj | hj
  · rw [List.append_assoc, List.getElem?_append_left (by simp; omega), List.getElem?_take, if_pos hj]
  · rw [List.getElem?_append_right (by simp; omega), List.getElem?_drop]
    congr 2
    simp; omega

/-- What a division's loop keeps: places from j on are done. -/
def DivI (A V n : Nat) (u q : List Nat) (j : Nat) : Prop :=
  Lt32 u ∧ Lt32 q ∧ u.length = q.length + n ∧ j ≤ q.length ∧ val u + V * val q = A ∧ val (u.drop j) < V ∧ ∀ i, i < j → q[i]?.getD 0 = 0

theorem DivI.win {A V n : Nat} {u q : List Nat} {k : Nat} (h : DivI A V n u q (k + 1)) (hV : V ≤ pw n) : val ((u.drop k).take (n + 1)) = val (u.drop k) ∧ val (u.drop k) < 4294967296 * V := by
  obtain ⟨h1, h2, h3, h4, h5, h6, h7⟩ := h
  have e := drop_val6 (l := u) (k := k) (by omega)
  have hx := h1.get k
  have hlt : val (u.drop k) < 4294967296 * V := by omega
  refine ⟨?_, hlt⟩
  have e2 := val_take_drop (u.drop k) (n + 1) (by simp; omega)
  rcases Nat.eq_zero_or_pos (val ((u.drop k).drop (n + 1))) with h0 | h0
  · rw [h0] at e2; omega
  · have := Nat.mul_le_mul_left (pw (n + 1)) h0
    rw [pw_succ] at this e2
    have := Nat.mul_le_mul_left 4294967296 hV
    omega

theorem DivI.step {A V n : Nat} {u q l : List Nat} {k Q : Nat} (h : DivI A V n u q (k + 1)) (hV : V ≤ pw n) (hll : l.length = n + 1) (hl : Lt32 l) (hQ : Q < 4294967296)
    (hq : Q = val ((u.drop k).take (n + 1)) / V) (hr : val l = val ((u.drop k).take (n + 1)) % V) : DivI A V n (splice u k l) (q.set k Q) k := by
  obtain ⟨hw, hlt⟩ := h.win hV
  obtain ⟨h1, h2, h3, h4, h5, h6, h7⟩ := h
  have hV0 : 0 < V := by omega
  have hk : k + l.length ≤ u.length := by omega
  have ed : (splice u k l).drop k = l ++ u.drop (k + l.length) := by
    unfold splice
    rw [List.append_assoc, List.drop_append_of_le_length (by simp; omega), List.drop_of_length_le (by simp; omega), List.nil_append]
  have e0 : val (u.drop (k + l.length)) = 0 := by
    have e2 := val_take_drop (u.drop k) (n + 1) (by simp; omega)
    rw [hw, List.drop_drop, ← hll] at e2
    rcases Nat.eq_zero_or_pos (val (u.drop (k + l.length))) with h0 | h0
    · exact h0
    · have := Nat.mul_le_mul_left (pw l.length) h0
      have := pw_pos l.length
      omega
  have hvd : val ((splice u k l).drop k) = val l := by rw [ed, val_append, e0]; omega
  refine ⟨splice_lt h1 hl, h2.set k hQ, by rw [splice_length hk, List.length_set]; exact h3, by rw [List.length_set]; omega, ?_, by rw [hvd, hr]; exact Nat.mod_lt _ hV0, fun i hi => by rw [getD_set_ne _ (by omega)]; exact h7 i (by omega)⟩
  have e3 := val_take_drop (splice u k l) k (by rw [splice_length hk]; omega)
  have e4 := val_take_drop u k (by omega)
  have e5 : (splice u k l).take k = u.take k := by
    unfold splice
    rw [List.append_assoc, List.take_append_of_le_length (by simp; omega), List.take_of_length_le (by simp; omega)]
  have e6 := val_set (l := q) (k := k) (by omega) Q
  rw [h7 k (by omega), Nat.mul_zero, Nat.add_zero] at e6
  have e7 := Nat.div_add_mod (val ((u.drop k).take (n + 1))) V
  rw [← hq, ← hr, hw] at e7
  rw [e3, e5, hvd, e6, Nat.mul_add]
  rw [e4, ← e7, Nat.mul_add] at h5
  have : V * (pw k * Q) = pw k * (V * Q) := by grind
  omega

/-- The start of a division's loop. -/
theorem DivI.start {a b : List Nat} {u : List Nat} {s n : Nat} (hu : val u = 2 ^ s * val a) (hul : u.length = a.length + 1) (hult : Lt32 u) (hn : n ≤ a.length) (halt : Lt32 a) (hb : pw (n - 1) ≤ val b) (hn0 : 0 < n) :
    DivI (2 ^ s * val a) (2 ^ s * val b) n u (List.replicate (a.length + 1 - n) 0) (a.length + 1 - n) := by
  refine ⟨hult, Lt32.replicate _, by simp; omega, by simp, by rw [val_replicate, hu]; simp, ?_, fun i _ => getD_replicate _ _⟩
  have e1 := val_take_drop u (a.length + 1 - n) (by omega)
  have e2 := val_lt halt
  have e3 : pw a.length = pw (a.length + 1 - n) * pw (n - 1) := by rw [← pw_add]; congr 1; omega
  have hp : 0 < 2 ^ s := Nat.pow_pos (by omega)
  have e4 : 2 ^ s * val a < 2 ^ s * pw a.length := Nat.mul_lt_mul_of_pos_left e2 hp
  have e5 : 2 ^ s * pw (n - 1) ≤ 2 ^ s * val b := Nat.mul_le_mul_left _ hb
  have e6 : pw (a.length + 1 - n) * val (u.drop (a.length + 1 - n)) < pw (a.length + 1 - n) * (2 ^ s * pw (n - 1)) := by
    have : pw (a.length + 1 - n) * (2 ^ s * pw (n - 1)) = 2 ^ s * pw a.length := by rw [e3]; grind
    omega
  have := Nat.lt_of_mul_lt_mul_left e6
  omega
/-- The end of it. -/
theorem DivI.stop {a b : Nat} {u q : List Nat} {s n : Nat} (h : DivI (2 ^ s * a) (2 ^ s * b) n u q 0) : val q = a / b ∧ val u = 2 ^ s * (a % b) := by
  obtain ⟨h1, h2, h3, h4, h5, h6, h7⟩ := h
  rw [List.drop_zero] at h6
  have hp : 0 < 2 ^ s := Nat.pow_pos (by omega)
  obtain ⟨e1, e2⟩ := div_of (U := 2 ^ s * a) (V := 2 ^ s * b) (q := val q) (R := val u) (by rw [Nat.mul_comm (val q)]; exact h5) h6
  rw [Nat.mul_div_mul_left _ _ hp] at e1
  rw [Nat.mul_mod_mul_left] at e2
  exact ⟨e1, e2⟩

theorem pw_le_val {l : List Nat} (h : 0 < l.length) (h' : l[l.length - 1]?.getD 0 ≠ 0) : pw (l.length - 1) ≤ val l := by
  have e := val_take_drop l (l.length - 1) (by omega)
  rw [drop_val6 (by omega)] at e
  have : 1 ≤ l[l.length - 1]?.getD 0 + 4294967296 * val (l.drop (l.length - 1 + 1)) := by omega
  have := Nat.mul_le_mul_left (pw (l.length - 1)) this
  omega
theorem top_ne_of_digits {v : Nat} (h : 0 < (digits v).length) : (digits v)[(digits v).length - 1]?.getD 0 ≠ 0 := by
  intro h0
  have h1 := digits_getLast v
  rw [List.getLast?_eq_getElem?] at h1
  rw [List.getElem?_eq_getElem (by omega)] at h1 h0
  simp at h0
  rw [h0] at h1
  exact h1 rfl
/-- The highest limb against the whole. -/
theorem top_le {v : List Nat} {n : Nat} (hn : v.length = n) (h0 : 0 < n) : v[n - 1]?.getD 0 * pw (n - 1) ≤ val v := by
  have e := val_take_drop v (n - 1) (by omega)
  rw [drop_val6 (by omega)] at e
  rw [Nat.mul_add] at e
  rw [Nat.mul_comm]
  omega
/-- Two limbs from above. -/
theorem top2_lt {u : List Nat} {n : Nat} (hn : u.length = n + 1) (h0 : 0 < n) (hlt : Lt32 u) : val u < (u[n]?.getD 0 * 4294967296 + u[n - 1]?.getD 0 + 1) * pw (n - 1) := by
  have e := val_take_drop u (n - 1) (by omega)
  rw [drop_val6 (by omega), show n - 1 + 1 = n by omega, drop_val6 (by omega), List.drop_of_length_le (by omega)] at e
  have h1 := val_lt (hlt.take (n - 1))
  rw [List.length_take, Nat.min_eq_left (by omega)] at h1
  rw [e]
  simp only [val]
  have : (u[n]?.getD 0 * 4294967296 + u[n - 1]?.getD 0 + 1) * pw (n - 1) = pw (n - 1) * (u[n - 1]?.getD 0 + 4294967296 * (u[n]?.getD 0 + 4294967296 * 0)) + pw (n - 1) := by grind
  omega
/-- Three limbs from above, against two of the divisor. -/
theorem top2_le {v : List Nat} {n : Nat} (hn : v.length = n) (h0 : 1 < n) : (v[n - 1]?.getD 0 * 4294967296 + v[n - 2]?.getD 0) * pw (n - 2) ≤ val v := by
  have e := val_take_drop v (n - 2) (by omega)
  rw [drop_val6 (by omega), show n - 2 + 1 = n - 1 by omega, drop_val6 (by omega)] at e
  have : (v[n - 1]?.getD 0 * 4294967296 + v[n - 2]?.getD 0) * pw (n - 2) ≤ pw (n - 2) * (v[n - 2]?.getD 0 + 4294967296 * (v[n - 1]?.getD 0 + 4294967296 * val (v.drop (n - 1 + 1)))) := by
    rw [Nat.mul_comm]; exact Nat.mul_le_mul_left _ (by omega)
  omega
theorem top3_lt {u : List Nat} {n : Nat} (hn : u.length = n + 1) (h0 : 1 < n) (hlt : Lt32 u) : val u < ((u[n]?.getD 0 * 4294967296 + u[n - 1]?.getD 0) * 4294967296 + u[n - 2]?.getD 0 + 1) * pw (n - 2) := by
  have e := val_take_drop u (n - 2) (by omega)
  rw [drop_val6 (by omega), show n - 2 + 1 = n - 1 by omega, drop_val6 (by omega), show n - 1 + 1 = n by omega, drop_val6 (by omega), List.drop_of_length_le (by omega)] at e
  have h1 := val_lt (hlt.take (n - 2))
  rw [List.length_take, Nat.min_eq_left (by omega)] at h1
  rw [e]
  simp only [val]
  have : ((u[n]?.getD 0 * 4294967296 + u[n - 1]?.getD 0) * 4294967296 + u[n - 2]?.getD 0 + 1) * pw (n - 2) = pw (n - 2) * (u[n - 2]?.getD 0 + 4294967296 * (u[n - 1]?.getD 0 + 4294967296 * (u[n]?.getD 0 + 4294967296 * 0))) + pw (n - 2) := by grind
  omega
end Go.Proofs.YtkippclhbkjbmaaGreat

namespace Go.Proofs.YtkippclhbkjbmaaGreat
open Go.RowKit
attribute [local go_sem] add_lit

theorem MutL.reads {w : World} {g off : Nat} {l : List Nat} (h : MutL w g off l) : Reads w w.heap.size 1 (some ⟨g, off, none⟩) l.length (l.map limb) :=
  ⟨by simp, fun hn => ⟨_, rfl, by have := lt_of_cell (h 0 hn).1; exact this, fun j u hu => by
    rw [add_lit]
    have hj : j < l.length := by
      rcases Nat.lt_or_ge j l.length with h' | h'
      · exact h'
      · rw [List.getElem?_eq_none (by simpa using h')] at hu; cases hu
    rw [(h j hj).1]
    rw [List.getElem?_map, List.getElem?_eq_getElem hj] at hu
    rw [List.getElem?_eq_getElem hj]
    simpa using hu⟩⟩
theorem MutL.below {w w' : World} {g off : Nat} {l : List Nat} (h : MutL w g off l) (hb : Below w.heap.size w w') : MutL w' g off l := fun j hj =>
  ⟨keep_cell hb (h j hj).1, keep_frozen hb (h j hj).1 (h j hj).2⟩
theorem MutL.drew {w : World} {g off : Nat} {l : List Nat} (h : MutL w g off l) : MutL w.drew g off l := h
theorem MutL.win {w : World} {g off : Nat} {l : List Nat} (h : MutL w g off l) {k n : Nat} (hk : k + n ≤ l.length) : MutL w g (off + k) ((l.drop k).take n) := fun j hj => by
  rw [List.length_take, List.length_drop] at hj
  have := h (k + j) (by omega)
  rw [List.getElem?_take, if_pos (by omega), List.getElem?_drop, Nat.add_assoc]
  exact this
/-- Cells written over. -/
theorem MutL.splice {w : World} {g : Nat} {u l : List Nat} {k : Nat} (h : MutL w g 0 u) (hk : k + l.length ≤ u.length) : MutL (w.setCells g k (l.map limb)) g 0 (splice u k l) := fun j hj => by
  rw [splice_length hk] at hj
  obtain ⟨h1, h2⟩ := h j hj
  rw [Nat.zero_add] at h1 h2 ⊢
  refine ⟨?_, by rw [World.frozen?_setCells]; exact h2⟩
  by_cases hin : k ≤ j ∧ j < k + l.length
  · obtain ⟨i, rfl⟩ : ∃ i, j = k + i := ⟨j - k, by omega⟩
    rw [splice_in hk (by omega)]
    have := World.cell?_setCells_in g (l.map limb) k w (fun i hi => by
      rw [List.length_map] at hi
      have := (h (k + i) (by omega)).1
      rw [Nat.zero_add] at this
      rw [this]; rfl) i (by rw [List.length_map]; omega)
    rw [this]
    simp [List.getElem?_eq_getElem (show i < l.length by omega)]
  · rw [splice_out hk (by omega), World.cell?_setCells_out g _ k w _ (fun _ _ => by rw [List.length_map]; simp only []; omega)]
    exact h1
theorem grownBy_setCells {w w' : World} {g o : Nat} {us : List Value} (h : w.grownBy w' (some g)) : w.grownBy (w'.setCells g o us) (some g) := by
  induction us generalizing o w' with
  | nil => exact h
  | cons u us ih => exact ih (grownBy_set h)
theorem size_setCells (w : World) (g o : Nat) (us : List Value) : (w.setCells g o us).heap.size = w.heap.size := by
  induction us generalizing o w with
  | nil => rfl
  | cons u us ih => rw [World.setCells, ih]; simp

theorem quiet_add {P : Program} {f : FuncId} {args : Array Value} {w : World} {a n : Nat} {v : Value}
    (h : Calls P f args (w.drewN (a + n)) fun e w' => e = .returned v ∧ ∃ m, w' = (w.drewN (a + n)).drewN m) :
    Calls P f args (w.drewN (a + n)) fun e w'' => e = .returned v ∧ ∃ m, w'' = w.drewN (a + m) :=
  h.mono fun _ _ ⟨he, m, hm⟩ => ⟨he, n + m, by rw [hm, World.drewN_drewN, Nat.add_assoc]⟩
theorem div32_q (x y d : Nat) (w : World) (hx : x < d) (hy : y < 4294967296) (hd : d < 4294967296) :
    Calls Tryz.prog 125 #[limb x, limb y, limb d] w fun e w' => e = .returned (.tuple #[limb ((x * 4294967296 + y) / d), limb ((x * 4294967296 + y) % d)]) ∧ ∃ m, w' = w.drewN m :=
  (div32_any x y d w hx hy hd).mono fun _ _ ⟨he, hm⟩ => ⟨he, 1, hm⟩

/-- What 'step' hands back: a limb of the quotient; the rest stands where the dividend stood. -/
def StepP (w : World) (g off : Nat) (u v : List Nat) (e : Ending) (w' : World) : Prop :=
  ∃ l w1, e = .returned (limb (val u / val v)) ∧ l.length = u.length ∧ Lt32 l ∧ val l = val u % val v ∧ Below w.heap.size w w1 ∧ w' = w1.setCells g off (l.map limb)

set_option maxRecDepth 100000 in
set_option maxHeartbeats 2000000 in
theorem step_any (g off n c d : Nat) (B : Option Addr) (u v : List Nat) (w : World) (hu : MutL w g off u) (hul : u.length = n + 1) (hut : Lt32 u) (hnc : n + 1 ≤ c) (hcm : c ≤ maxLen) (hn9 : n ≤ 1000000) (hn0 : 0 < n)
    (hv : Lim w B n d v) (hlt : val u < 4294967296 * val v) (htop : v[n - 1]?.getD 0 ≠ 0) :
    Calls Tryz.prog 119 #[.slice (some ⟨g, off, none⟩) (n + 1) c, .slice B n d] w (StepP w g off u v) := by
  unfold maxLen at hcm
  have hnd := hv.2.1
  have hdm := hv.2.2.1
  unfold maxLen at hdm
  have hvl := hv.len
  obtain ⟨bv, ov, rfl, hcv⟩ := hv.at_ (k := n - 1) (by omega)
  have hV : 0 < val v := by
    rcases Nat.eq_zero_or_pos (val v) with h0 | h0
    · rw [h0] at hlt; omega
    · exact h0
  obtain ⟨q, hq⟩ : ∃ q, val u / val v = q := ⟨_, rfl⟩
  have hqlt : q < 4294967296 := by rw [← hq, Nat.div_lt_iff_lt_mul hV]; exact hlt
  have hun := hut.get n
  have hun1 := hut.get (n - 1)
  have hvn := hv.lt.get (n - 1)
  have hcu := hu n (by omega)
  have hcu1 := hu (n - 1) (by omega)
  have hguess : u[n]?.getD 0 < v[n - 1]?.getD 0 → q ≤ (u[n]?.getD 0 * 4294967296 + u[n - 1]?.getD 0) / v[n - 1]?.getD 0 := fun _ => by
    rw [← hq]
    exact div_guess (by omega) (top_le hvl hn0) (top2_lt hul hn0 hut)
  have hglt : u[n]?.getD 0 < v[n - 1]?.getD 0 → (u[n]?.getD 0 * 4294967296 + u[n - 1]?.getD 0) / v[n - 1]?.getD 0 < 4294967296 := fun h => by
    rw [Nat.div_lt_iff_lt_mul (by omega)]
    have := Nat.mul_le_mul_left 4294967296 (show u[n]?.getD 0 + 1 ≤ v[n - 1]?.getD 0 by omega)
    omega
  have HQ := hide hq
  have hfull := hide hul
  have hvl' := hide hvl
  clear hq hul hvl
  have hfz := hcu.1
  have hfz1 := hcu1.1
  obtain ⟨x, hx⟩ : ∃ x, u[n]?.getD 0 = x := ⟨_, rfl⟩
  obtain ⟨y, hy⟩ : ∃ y, u[n - 1]?.getD 0 = y := ⟨_, rfl⟩
  obtain ⟨z, hz⟩ : ∃ z, v[n - 1]?.getD 0 = z := ⟨_, rfl⟩
  rw [hx] at hun hfz
  rw [hy] at hun1 hfz1
  rw [hz] at hvn hcv htop
  rw [hx, hy, hz] at hguess hglt
  clear hx hy hz hcu hcu1
  by_cases hc : x < z
  all_goals
    first
    | (have hc' : decide (x < z) = true := by simpa using hc)
    | (have hc' : decide (x < z) = false := by simpa using hc)
    go_enter Tryz.func119, Tryz.ntmps119
    go_wp2_with fail
    go_quiet (fail)
    go_wp2_with fail
    first
    | (go_quiet ((go_at_call 125; exact quiet_add (div32_q _ _ _ _ hc hun1 hvn))))
    | skip
    go_wp2_with fail
    go_loopw [6] (fun gv wr => ∃ gs : Nat, gv = limb gs ∧ q ≤ gs ∧ gs < 4294967296 ∧ Below w.heap.size w wr) (fun gv _ => (intOf gv).toNat)
    case atStart => first | exact ⟨_, rfl, hguess hc, hglt hc, below_dn (below_dn (Below.refl _ _) _) _⟩ | exact ⟨4294967295, rfl, by omega, by omega, below_dn (Below.refl _ _) _⟩
    case round =>
      obtain ⟨gs, rfl, hg1, hg2, hB⟩ := hrel
      clear hguess hglt hfz hfz1
      have huM := hu.below hB
      have hvL := hv.below hB
      have hbv : bv < wr.heap.size := Nat.lt_of_lt_of_le (lt_of_cell hcv) hB.size
      have hgw : g < wr.heap.size := Nat.lt_of_lt_of_le (lt_of_cell (hu 0 (by rw [hfull.out]; omega)).1) hB.size
      have hrd : Reads wr wr.heap.size 1 (some ⟨g, off, none⟩) (n + 1) (u.map limb) := by have := huM.reads; rw [hfull.out] at this; exact this
      go_wp2_with fail
      refine (clone_any ⟨g, off, none⟩ (n + 1) c u _ hrd hfull.out hut (by omega) hnc (by unfold maxLen; omega)).mono ?_
      rintro e w1 ⟨v1, rfl, hown, hb1⟩
      obtain ⟨g1, cap1, hv1, hg1', hg1s, hl1, hc1, hM1⟩ := hown.mut (by rw [hfull.out]; omega)
      rw [hfull.out] at hv1 hl1
      subst hv1
      go_wp2_with fail
      refine (subtract_any g1 0 n cap1 d gs (some ⟨bv, ov, none⟩) u v _ hM1 hfull.out hut hl1 hc1 (by omega) (hvL.below hb1) (fun b o e => by injection e with e; injection e with e1 e2; omega) hg2).mono ?_
      rintro e w2 ⟨b, l, hb01, rfl, hM2, hll, hlt2, hI, hgr⟩
      have hB2 : Below w.heap.size w w2 := (hB.trans (hb1.mono hB.size)).grown hgr (by have := hb1.size; have := hB.size; omega) (fun j hj => by injection hj with hj; have := hB.size; omega)
      rcases Nat.eq_zero_or_pos b with rfl | hb0
      · obtain ⟨hit1, hit2⟩ := guess_hit (U := val u) (q := gs) (W := val l) hV (by rw [Nat.mul_zero] at hI; exact hI) (by rw [HQ.out]; exact hg1)
        have hcopy : ∀ ty, (Builtin.copy_ #[28, 28] ty #[.slice (some ⟨g, off, none⟩) (n + 1) c, .slice (some ⟨g1, 0, none⟩) (n + 1) cap1]).run Tryz.prog w2 = .ok (goInt ((n + 1 : Nat) : Int)) (w2.setCells g off (l.map limb)) := fun ty => by
          obtain ⟨i0, hi, hz0, hz1, hz2⟩ := info_parts info32
          have h := run_copy_cells (P := Tryz.prog) w2 28 28 ty 124 g off (n + 1) c ⟨g1, 0, none⟩ (n + 1) cap1 (l.map limb) Tryz.underlying28 (by rw [hi]; simp [hz1]) (by rw [List.length_map, hll]; exact (Nat.min_self _).symm)
            (fun j x hx => by
              have hj : j < l.length := by
                rcases Nat.lt_or_ge j l.length with h' | h'
                · exact h'
                · rw [List.getElem?_eq_none (by simpa using h')] at hx; cases hx
              rw [add_lit, (hM2 j hj).1]
              rw [List.getElem?_map, List.getElem?_eq_getElem hj] at hx
              rw [List.getElem?_eq_getElem hj]
              simpa using hx)
            (fun j hj => by
              rw [List.length_map, hll] at hj
              have h3 := (huM j (by rw [hfull.out]; exact hj)).1
              have h4 := keep_cell hb1 h3
              rw [(World.cell?_of_block (a := ⟨g, off + j, none⟩) (hgr.block g (by have := hb1.size; omega) (fun e => by injection e with e; omega))), h4]; rfl)
            (fun j hj => by
              rw [List.length_map, hll] at hj
              have h3 := huM j (by rw [hfull.out]; exact hj)
              have h4 := keep_frozen hb1 h3.1 h3.2
              rw [(World.frozen?_of_block (a := ⟨g, off + j, none⟩) (hgr.block g (by have := hb1.size; omega) (fun e => by injection e with e; omega))), h4])
            (oneCell_limbs l)
          rw [List.length_map, hll] at h
          exact h
        have hP : StepP w g off u v (.returned (limb gs)) (w2.setCells g off (l.map limb)) := ⟨l, w2, by rw [hit1], by rw [hll, hfull.out], hlt2, hit2, hB2, rfl⟩
        replace hP := hide hP
        clear hit1 hit2 hI hll
        go_wp2_with fail
        go_ret
        exact hP.out
      · obtain rfl : b = 1 := by omega
        have hmiss : q < gs := by
          have := guess_miss (q := gs) (W := val l) (M := pw (n + 1)) hV (by rw [Nat.mul_one] at hI; exact hI) (by have := val_lt hlt2; rw [hll] at this; exact this)
          rw [HQ.out] at this; exact this
        clear hI hll
        go_wp2_with fail
        go_roundw
        case rel => exact ⟨gs - 1, by go_num, by omega, by omega, hB2⟩
        case measure => simp [intOf]; omega
end Go.Proofs.YtkippclhbkjbmaaGreat

namespace Go.Proofs.YtkippclhbkjbmaaGreat
open Go.RowKit Go.Shelf
attribute [local go_sem] add_lit
attribute [local go_sem] Oper.semAt_some

/-- The places of a list of n, from the last one down; the first k of them. -/
def downTo (n : Nat) : Nat → List { i : Nat // i < n }
  | 0 => []
  | k + 1 => downTo n k ++ (if h : k < n then [⟨n - 1 - k, by omega⟩] else [])
theorem downTo_succ {n k : Nat} (h : k < n) : downTo n (k + 1) = downTo n k ++ [⟨n - 1 - k, by omega⟩] := by simp [downTo, h]
theorem downTo_length {n k : Nat} (h : k ≤ n) : (downTo n k).length = k := by
  induction k with
  | zero => rfl
  | succ k ih => rw [downTo_succ (by omega)]; simp [ih (by omega)]
theorem mem_downTo {n k : Nat} (h : k ≤ n) (i : { i : Nat // i < n }) : i ∈ downTo n k ↔ n - k ≤ i.1 := by
  induction k with
  | zero => simp [downTo]; omega
  | succ k ih =>
    have := i.2
    rw [downTo_succ (by omega), List.mem_append, ih (by omega), List.mem_singleton, Subtype.ext_iff]
    simp; omega

def encDown (l : List Nat) (n : Nat) (i : { i : Nat // i < n }) : Array Value := #[.int .i64 (i.1 : Int), limb (l[i.1]?.getD 0)]

theorem lim_kept {W W' : World} {row : Option Nat} {A : Option Addr} {n c : Nat} {l : List Nat} (h : Lim W A n c l) (hg : W.grownBy W' row) (hrow : ∀ r, row = some r → ∃ o : Obj, W.heap[r]? = some o ∧ o.isCells = false) : Lim W' A n c l :=
  ⟨h.1, h.2.1, h.2.2.1, h.2.2.2.1, fun hn => by
    obtain ⟨b, o, e, hc⟩ := h.2.2.2.2 hn
    exact ⟨b, o, e, fun k hk => cell_kept (hc k hk) hg hrow⟩⟩

/-- What a round over 'down' keeps: the iterator's box, and the limbs. -/
def KpD (Bs : Nat) (A : Option Addr) (n c : Nat) (l : List Nat) (W W' : World) : Prop :=
  (W.cell? ⟨Bs, 0, none⟩ = some (.slice A n c) → W'.cell? ⟨Bs, 0, none⟩ = some (.slice A n c)) ∧ (Lim W A n c l → Lim W' A n c l)
theorem KpD.refl (Bs : Nat) (A : Option Addr) (n c : Nat) (l : List Nat) (W : World) : KpD Bs A n c l W W := ⟨id, id⟩
theorem KpD.trans {Bs n c : Nat} {A : Option Addr} {l : List Nat} {W1 W2 W3 : World} (h : KpD Bs A n c l W1 W2) (k : KpD Bs A n c l W2 W3) : KpD Bs A n c l W1 W3 := ⟨fun x => k.1 (h.1 x), fun x => k.2 (h.2 x)⟩
theorem KpD.put {Bs n c : Nat} {A : Option Addr} {l : List Nat} (W : World) (lp : Nat) (o o' : Obj) (ho : W.heap[lp]? = some o) (hc : o.isCells = false) : KpD Bs A n c l W (W.putObj lp o') :=
  ⟨fun h => cell_kept h (grownBy_putObj' W lp o') (fun r e => by cases e; exact ⟨o, ho, hc⟩), fun h => lim_kept h (grownBy_putObj' W lp o') (fun r e => by cases e; exact ⟨o, ho, hc⟩)⟩
/-- A store into a block that is neither the box's nor the limbs'. -/
theorem KpD.set_ {Bs n c : Nat} {A : Option Addr} {l : List Nat} {w W : World} {g o : Nat} (hL : Lim w A n c l) (hg : w.heap.size ≤ g) (hB : g ≠ Bs) (u : Value) : KpD Bs A n c l W (W.setCell ⟨g, o, none⟩ u) :=
  ⟨fun h => (World.cell?_setCell_other W _ _ u (fun e => hB (by cases e; rfl))).trans h, fun h => ⟨h.1, h.2.1, h.2.2.1, h.2.2.2.1, fun hn => by
    obtain ⟨b, o', e, hc⟩ := h.2.2.2.2 hn
    obtain ⟨b1, o1, e1, hc1⟩ := hL.2.2.2.2 hn
    rw [e] at e1
    cases e1
    have hlt := lt_of_cell (hc1 0 hn)
    exact ⟨b, o', e, fun k hk => (World.cell?_setCell_other W _ _ u (fun e2 => by cases e2; simp at hlt; omega)).trans (hc k hk)⟩⟩⟩

set_option maxRecDepth 100000 in
set_option maxHeartbeats 2000000 in
theorem down1_in (d : Nat) (hd : 1 ≤ d) (lp Bs n c : Nat) (A : Option Addr) (l : List Nat) (J Jx : List { i : Nat // i < n } → World → Prop)
    (hY : ∀ pre x W, J pre W → pre.length < n → YieldAt Fence.wide (d - 1) Tryz.prog lp (encDown l n x) W fun e W' =>
      (e = .returned (.bool true) ∧ J (pre ++ [x]) W' ∧ KpD Bs A n c l W W') ∨ (e = .returned (.bool false) ∧ Jx (pre ++ [x]) W'))
    (W : World) (hBs : W.cell? ⟨Bs, 0, none⟩ = some (.slice A n c)) (hL : Lim W A n c l) (h0 : J [] W) :
    CallsIn Fence.wide d Tryz.prog 121 #[.func (.yield lp) #[] #[], .pointer (some ⟨Bs, 0, none⟩)] W fun e W' => (∃ v, e = .returned v) ∧
      ((∃ ys, ys = downTo n n ∧ J ys W') ∨ (∃ pre, (∃ k, k ≤ n ∧ pre = downTo n k) ∧ Jx pre W')) := by
  have hnc := hL.2.1
  have hcm := hL.2.2.1
  unfold maxLen at hcm
  refine callsIn_of_wp Tryz.func121 rfl trivial ?_ rfl
  simp only [Tryz.ntmps121, List.size_toArray, List.length_cons, List.length_nil, Nat.reduceAdd, Nat.reduceSub, Array.replicate_succ, Array.replicate_zero, List.push_toArray, List.append_toArray, List.nil_append, List.cons_append]
  gi_wp2
  gi_loopw [3] (fun i wr => ∃ k : Nat, k ≤ n ∧ i = .int .i64 ((n : Int) - 1 - k) ∧ J (downTo n k) wr ∧ Hid (wr.cell? ⟨Bs, 0, none⟩ = some (.slice A n c)) ∧ Lim wr A n c l)
    (fun i _ => (intOf i + 1).toNat)
  case atStart => exact ⟨0, Nat.zero_le _, by go_num, h0, hBs, hL⟩
  case round =>
    obtain ⟨k, hk, rfl, hJs, hbx', hLr⟩ := hrel
    have hbx := hbx'.out
    by_cases hlt : k < n
    · obtain ⟨b, o, rfl, hcx⟩ := hLr.at_ (k := n - 1 - k) (by omega)
      obtain ⟨fn, tmps, assign, body, hy, hR⟩ := hY _ ⟨n - 1 - k, by omega⟩ wr hJs (by rw [downTo_length hk]; exact hlt)
      dsimp only [encDown] at hy
      rw [show ((n - 1 - k : Nat) : Int) = (n : Int) - 1 - k by omega] at hy
      gi_wp2
      refine hR.mono ?_
      rintro e W3 (⟨rfl, hJ3, hk3⟩ | ⟨rfl, hJx3⟩)
      · have hbx3 := hide (hk3.1 hbx'.out)
        gi_wp2
        go_roundw
        case rel => exact ⟨k + 1, by omega, by go_num, by rw [downTo_succ hlt]; exact hJ3, hbx3, hk3.2 hLr⟩
        case measure => simp [intOf]; omega
      · gi_wp2
        refine bodyPost_ret (results_none rfl _ _ _) rfl ?_
        exact ⟨⟨_, rfl⟩, .inr ⟨_, ⟨k + 1, by omega, (downTo_succ hlt).symm⟩, hJx3⟩⟩
    · obtain rfl : k = n := by omega
      gi_wp2
      go_end0
      exact ⟨⟨_, rfl⟩, .inl ⟨_, rfl, hJs⟩⟩

theorem down_stops (d : Nat) (hd : 1 ≤ d) (Bs n c : Nat) (A : Option Addr) (l : List Nat) (w : World) (hc : w.cell? ⟨Bs, 0, none⟩ = some (.slice A n c)) (hL : Lim w A n c l) :
    SeqStopsK Fence.wide d Tryz.prog 121 #[.pointer (some ⟨Bs, 0, none⟩)] (encDown l n) (KpD Bs A n c l) (fun ys => ys = downTo n n) (fun pre => ∃ k, k ≤ n ∧ pre = downTo n k) n w := fun lp J Jx W hW _ _ hY h0 =>
  down1_in d hd lp Bs n c A l J Jx hY W ((hW.cell (lt_of_cell hc)).trans hc) (hL.below hW) h0

set_option maxHeartbeats 400000 in
theorem down_any (A : Option Addr) (n c : Nat) (w : World) :
    Calls Tryz.prog 108 #[.slice A n c] w fun e w' => e = .returned (.func (.func 121) #[] #[.pointer (some ⟨w.heap.size, 0, none⟩)]) ∧ w.alloc (.cells #[.slice A n c] 28) = w' := by
  go_enter Tryz.func108, Tryz.ntmps108
  go_wp2
  go_ret
  exact ⟨rfl, rfl⟩

/-- How lists of limbs compare: first by their lengths. -/
def cmpL (a b : List Nat) : Int := if a.length < b.length then -1 else if b.length < a.length then 1 else if val a < val b then -1 else if val b < val a then 1 else 0

theorem drop_val {l : List Nat} {k : Nat} (h : k < l.length) : val (l.drop k) = l[k]?.getD 0 + 4294967296 * val (l.drop (k + 1)) := by
  rw [List.drop_eq_getElem_cons h, val, List.getElem?_eq_getElem h]; rfl
/-- The first place from above at which two lists of one length part tells which is worth less. -/
theorem part_lt {a b : List Nat} {n k : Nat} (ha : a.length = n) (hb : b.length = n) (hla : Lt32 a) (hk : k < n) (he : ∀ j, k < j → j < n → a[j]?.getD 0 = b[j]?.getD 0) (hlt : a[k]?.getD 0 < b[k]?.getD 0) : val a < val b := by
  have h1 : ∀ m, k < n - m → m ≤ n → val (a.drop (n - m)) = val (b.drop (n - m)) := by
    intro m
    induction m with
    | zero => intro _ _; rw [Nat.sub_zero, List.drop_of_length_le (by omega), List.drop_of_length_le (by omega)]
    | succ m ih =>
      intro h h'
      rw [drop_val (l := a) (by omega), drop_val (l := b) (by omega), he _ h (by omega), show n - (m + 1) + 1 = n - m by omega, ih (by omega) (by omega)]
  have h2 : val (a.drop (k + 1)) = val (b.drop (k + 1)) := by
    rcases Nat.lt_or_ge (k + 1) n with h | h
    · have := h1 (n - (k + 1)) (by omega) (by omega)
      rwa [show n - (n - (k + 1)) = k + 1 by omega] at this
    · rw [List.drop_of_length_le (by omega), List.drop_of_length_le (by omega)]
  have h3 := val_take_drop a k (by omega)
  have h4 := val_take_drop b k (by omega)
  rw [drop_val (by omega)] at h3 h4
  have h5 := val_lt (hla.take k)
  rw [List.length_take, Nat.min_eq_left (by omega)] at h5
  rw [h3, h4, h2]
  generalize val (b.drop (k + 1)) = t
  have : pw k * (a[k]?.getD 0 + 4294967296 * t + 1) ≤ pw k * (b[k]?.getD 0 + 4294967296 * t) := Nat.mul_le_mul_left _ (by omega)
  rw [Nat.mul_add, Nat.mul_one] at this
  omega
theorem eq_all {a b : List Nat} {n : Nat} (ha : a.length = n) (hb : b.length = n) (he : ∀ j, j < n → a[j]?.getD 0 = b[j]?.getD 0) : a = b := by
  apply List.ext_getElem (by omega)
  intro i h1 h2
  have := he i (by omega)
  rwa [List.getElem?_eq_getElem h1, List.getElem?_eq_getElem h2] at this
theorem cmpL_self (a : List Nat) : cmpL a a = 0 := by simp [cmpL]

set_option maxRecDepth 100000 in
set_option maxHeartbeats 2000000 in
theorem compare_any (A B : Option Addr) (n c m d : Nat) (a b : List Nat) (w : World) (ha : Lim w A n c a) (hb : Lim w B m d b) :
    Calls Tryz.prog 94 #[.slice A n c, .slice B m d] w fun e w' => e = .returned (.int .i64 (cmpL a b)) ∧ Below w.heap.size w w' := by
  have hnc := ha.2.1
  have hmd := hb.2.1
  have hcm := ha.2.2.1
  have hdm := hb.2.2.1
  unfold maxLen at hcm hdm
  by_cases h1 : n < m
  · have hne : (((n : Nat) : Int) != m) = true := by simp; omega
    have hd : decide (n < m) = true := by simpa using h1
    have hr : cmpL a b = -1 := by unfold cmpL; rw [ha.len, hb.len, if_pos h1]
    rw [hr]
    go_enter Tryz.func94, Tryz.ntmps94
    go_wp2
    go_returns
    exact ⟨rfl, by go_grown⟩
  by_cases h2 : m < n
  · have hne : (((n : Nat) : Int) != m) = true := by simp; omega
    have hd : decide (n < m) = false := by simpa using h1
    have hr : cmpL a b = 1 := by unfold cmpL; rw [ha.len, hb.len, if_neg h1, if_pos h2]
    rw [hr]
    go_enter Tryz.func94, Tryz.ntmps94
    go_wp2
    go_returns
    exact ⟨rfl, by go_grown⟩
  obtain rfl : n = m := by omega
  have hne : (((n : Nat) : Int) != n) = false := by simp
  have h9 : 1 ≤ 9 := by omega
  refine (callsIn_wide (n := 9)).1 ?_
  refine callsIn_of_wp_marks Tryz.func94 rfl trivial ?_ rfl
  simp only [Tryz.ntmps94, List.size_toArray, List.length_cons, List.length_nil, Nat.reduceAdd, Nat.reduceSub, Array.replicate_succ, Array.replicate_zero, List.push_toArray, List.append_toArray, List.nil_append, List.cons_append]
  gi_wp2_with (refine ⟨trivial, ?_⟩; gi_at_call 108; refine (callsIn_wide.2 (down_any _ _ _ _)).mono ?_; rintro e w' ⟨rfl, rfl⟩)
  have bB := Boxed.new w 28 (.slice B n d)
  have bR := Boxed.new (w.alloc (.cells #[.slice B n d] 28)) 3 (.int .i64 0)
  have bN := Boxed.new ((w.alloc (.cells #[.slice B n d] 28)).alloc (.cells #[.int .i64 0] 3)) 28 (.slice A n c)
  simp only [World.size_alloc] at bR bN
  have hB0 : Below w.heap.size w (((w.alloc (.cells #[.slice B n d] 28)).alloc (.cells #[.int .i64 0] 3)).alloc (.cells #[.slice A n c] 28)) := by go_grown
  refine wpIn_rangeFunc_ownF rfl h9 (gf := 121) (lb := #[.pointer (some ⟨w.heap.size + 1 + 1, 0, none⟩)]) rfl trivial (enters_of Tryz.func121 (by kernel_rfl) rfl)
    (down_stops 8 (by omega) (w.heap.size + 1 + 1) n c A a _ bN.cell (ha.below hB0)) KpD.trans (fun W l o o' _ h hc _ => KpD.put W l o o' h hc) (Below.refl _ _) (fun _ => rfl)
    (fun pre W => ((∀ p ∈ pre, a[p.1]?.getD 0 = b[p.1]?.getD 0) ∧ W.cell? ⟨w.heap.size, 0, none⟩ = some (.slice B n d) ∧ W.cell? ⟨w.heap.size + 1, 0, none⟩ = some (.int .i64 0) ∧ W.frozen? ⟨w.heap.size + 1, 0, none⟩ = false) ∧ Below w.heap.size w W)
    (fun cc pre W => (cc = .ret ∧ ∃ ini last, pre = ini ++ [last] ∧ (∀ p ∈ ini, a[p.1]?.getD 0 = b[p.1]?.getD 0) ∧
      ((a[last.1]?.getD 0 < b[last.1]?.getD 0 ∧ W.cell? ⟨w.heap.size + 1, 0, none⟩ = some (.int .i64 (-1))) ∨ (b[last.1]?.getD 0 < a[last.1]?.getD 0 ∧ W.cell? ⟨w.heap.size + 1, 0, none⟩ = some (.int .i64 1)))) ∧ Below w.heap.size w W)
    (OwnFrom.and (Own.from (fun s X Y row hs hg hr => ⟨hs.1, cell_kept hs.2.1 hg hr, cell_kept hs.2.2.1 hg hr, (frozen_kept hs.2.2.1 hg hr).trans hs.2.2.2⟩) _) (ownFrom_below (Nat.le_refl _) (by simp; omega)))
    (fun cc => OwnFrom.and (Own.from (fun s X Y row hs hg hr => by
      obtain ⟨hc, ini, last, e1, e2, e3⟩ := hs
      refine ⟨hc, ini, last, e1, e2, ?_⟩
      rcases e3 with ⟨e3, e4⟩ | ⟨e3, e4⟩
      · exact .inl ⟨e3, cell_kept e4 hg hr⟩
      · exact .inr ⟨e3, cell_kept e4 hg hr⟩) _) (ownFrom_below (Nat.le_refl _) (by simp; omega)))
    ⟨⟨by simp, ((bB.alloc _).alloc _).cell, (bR.alloc _).cell, (bR.alloc _).frozen⟩, hB0⟩
    (fun x => { tmps := #[.slice A n c, .slice B n d, undef, .pointer (some ⟨w.heap.size, 0, none⟩), .pointer (some ⟨w.heap.size + 1, 0, none⟩), .int .i64 (x.1 : Int), limb (a[x.1]?.getD 0), .slice A n c,
      .int .i64 n, .slice B n d, .int .i64 n, .bool false, undef, undef, undef, undef, undef, .slice A n c, .func (.func 121) #[] #[.pointer (some ⟨w.heap.size + 1 + 1, 0, none⟩)], .int .i64 (x.1 : Int), limb (a[x.1]?.getD 0),
      undef, undef, undef, undef, undef, undef, undef, undef, undef, undef, undef, undef], defers := [] }) ?assign ?body ?done ?stop
  case assign =>
    intro l x W K hK
    dsimp only [encDown]
    gi_wp2
    exact hK
  case body =>
    rintro l pre x W ⟨⟨hp, hcB, hcr, hfr⟩, hB⟩ _
    obtain ⟨i, hi⟩ := x
    obtain ⟨bb, ob, rfl, hcx⟩ := (hb.below hB).at_ hi
    by_cases t1 : a[i]?.getD 0 < b[i]?.getD 0
    · have hd1 : decide (a[i]?.getD 0 < b[i]?.getD 0) = true := by simpa using t1
      gi_wp2
      exact ⟨KeepsOthers.setCell _ _ _, ⟨rfl, pre, ⟨i, hi⟩, rfl, hp, .inl ⟨t1, World.cell?_setCell_same' _ _ _ (by rw [hcr]; rfl)⟩⟩, hB.setCell (p := ⟨w.heap.size + 1, 0, none⟩) (by simp) _⟩
    · have hd1 : decide (a[i]?.getD 0 < b[i]?.getD 0) = false := by simpa using t1
      by_cases t2 : b[i]?.getD 0 < a[i]?.getD 0
      · have hd2 : decide (b[i]?.getD 0 < a[i]?.getD 0) = true := by simpa using t2
        gi_wp2
        exact ⟨KeepsOthers.setCell _ _ _, ⟨rfl, pre, ⟨i, hi⟩, rfl, hp, .inr ⟨t2, World.cell?_setCell_same' _ _ _ (by rw [hcr]; rfl)⟩⟩, hB.setCell (p := ⟨w.heap.size + 1, 0, none⟩) (by simp) _⟩
      · have hd2 : decide (b[i]?.getD 0 < a[i]?.getD 0) = false := by simpa using t2
        gi_wp2
        exact ⟨KeepsOthers.refl _, KpD.refl _ _ _ _ _ _, ⟨fun p hp' => (List.mem_append.1 hp').elim (hp p) (fun e => by simp at e; subst e; simp; omega), hcB, hcr, hfr⟩, hB⟩
  case done =>
    rintro D ys W hD rfl ⟨⟨hne, hcB, hcr, hfr⟩, hB⟩ hK
    have hab : a = b := eq_all ha.len hb.len (fun j hj => hne ⟨j, hj⟩ ((mem_downTo (Nat.le_refl _) _).2 (by simp)))
    gi_wp2
    have hK' := (KeepsOthers.setCell W ⟨w.heap.size + 1, 0, none⟩ (.int .i64 0)).same D _ hK rfl
    refine ⟨by simp, .inl ⟨_, _, rfl, run_takeDeferred hK', ?_⟩⟩
    have hc5 := cell_kept (World.cell?_setCell_same' W ⟨w.heap.size + 1, 0, none⟩ (.int .i64 0) (by rw [hcr]; rfl)) (grownBy_putObj' _ D (.deferred none)) (fun r e => by cases e; exact ⟨_, hK', rfl⟩)
    refine ⟨.int .i64 0, ?_, by rw [hab, cmpL_self], (hB.setCell (p := ⟨w.heap.size + 1, 0, none⟩) (by simp) _).trans (belowK_b (w := w) (Nat.le_refl _) _ D _ _ (by simp at hD; omega) hK' rfl rfl)⟩
    simp [results, Tryz.f94, go_sem, hc5]
  case stop =>
    rintro D cc pre W hD ⟨k, hk, rfl⟩ ⟨⟨rfl, ini, last, e1, e2, e3⟩, hB⟩ hK
    obtain ⟨k', rfl⟩ : ∃ k', k = k' + 1 := by
      cases k with
      | zero => simp [downTo] at e1
      | succ k' => exact ⟨k', rfl⟩
    rw [downTo_succ (by omega)] at e1
    obtain ⟨rfl, e5⟩ := List.append_inj' e1 rfl
    have e6 : last.1 = n - 1 - k' := by
      have := congrArg (List.map (fun z : { i : Nat // i < n } => z.1)) e5
      simpa using this.symm
    rw [e6] at e3
    have he : ∀ j, n - 1 - k' < j → j < n → a[j]?.getD 0 = b[j]?.getD 0 := fun j hj hj' => e2 ⟨j, hj'⟩ ((mem_downTo (by omega) _).2 (by simp; omega))
    obtain ⟨r, hcr, hr⟩ : ∃ r : Int, W.cell? ⟨w.heap.size + 1, 0, none⟩ = some (.int .i64 r) ∧ cmpL a b = r := by
      rcases e3 with ⟨e3, e4⟩ | ⟨e3, e4⟩
      · have := part_lt ha.len hb.len ha.lt (by omega) he e3
        exact ⟨_, e4, by unfold cmpL; rw [ha.len, hb.len]; simp [this]⟩
      · have := part_lt hb.len ha.len hb.lt (by omega) (fun j h h' => (he j h h').symm) e3
        exact ⟨_, e4, by unfold cmpL; rw [ha.len, hb.len]; simp [this]; omega⟩
    gi_wp2
    refine ⟨by simp, .inl ⟨_, _, rfl, run_takeDeferred hK, ?_⟩⟩
    have hc5 := cell_kept hcr (grownBy_putObj' _ D (.deferred none)) (fun r e => by cases e; exact ⟨_, hK, rfl⟩)
    refine ⟨.int .i64 r, ?_, by rw [hr], hB.trans (belowK_b (w := w) (Nat.le_refl _) W D _ _ (by simp at hD; omega) hK rfl rfl)⟩
    simp [results, Tryz.f94, go_sem, hc5]
end Go.Proofs.YtkippclhbkjbmaaGreat
