/- slices.Clone of limbs. math/bits.Div32. Division of limbs: what the loops of step, divide, right, short and digit keep. Plain. Package wide: step. A region that draws its order, inside a round of a range over a function: by the laws of such regions elsewhere. -/
import Derived.BigQuiet
import Derived.Deep.QuietTactic
import Derived.Laws.IdiomCopy
import Derived.Deep.RegionHeld3
import Derived.RangeFuncCalls
import Derived.TacticsIn
import Derived.Test.YtljocgdhdilglaaGreatZr22
import Derived.Test.YtljocgdhdilglaaGreatZr01
set_option linter.unusedSimpArgs false
set_option linter.unusedVariables false

namespace Go.Proofs.YtljocgdhdilglaaGreat
open Go.RowKit
attribute [local go_sem] add_lit

/-- A row of limbs of the call's own may be written. -/
theorem OwnL.mut {t : TypeId} {w : World} {base : Nat} {v : Value} {l : List Nat} (h : OwnL t w base v l) (hn : 0 < l.length) : ∃ g cap, v = .slice (some ⟨g, 0, none⟩) l.length cap ∧ base ≤ g ∧ g < w.heap.size ∧ l.length ≤ cap ∧ cap ≤ maxLen ∧ MutL w g 0 l := by
  rcases h.1.2 with ⟨hv, h0⟩ | ⟨g, cap, cur, hv, hg, hh, hnc, hcm, hcs, ht⟩
  · omega
  · refine ⟨g, cap, hv, hg, (Array.getElem?_eq_some_iff.1 hh).1, hnc, hcm, fun k hk => ⟨?_, ?_⟩⟩
    · rw [Nat.zero_add, cell_of_row w g k cur t (0, 0) hh]
      have h3 : (cur.toList.take (l.length * 1))[k]? = (l.map limb)[k]? := by rw [ht]
      rw [List.getElem?_take, if_pos (by omega), List.getElem?_map, List.getElem?_eq_getElem hk] at h3
      rw [List.getElem?_eq_getElem hk]
      simpa using h3
    · rw [Nat.zero_add]
      unfold World.frozen?
      rw [hh]
      simp

/-- What 'Clone' hands back. -/
def CloneP (w : World) (l : List Nat) (e : Ending) (w' : World) : Prop :=
  ∃ v, e = .returned v ∧ OwnL 52 w' w.heap.size v l ∧ Below w.heap.size w w'

set_option maxRecDepth 100000 in
set_option maxHeartbeats 1000000 in
theorem clone_any (a : Addr) (n c : Nat) (l : List Nat) (w : World) (h : Reads w w.heap.size 1 (some a) n (l.map limb)) (hl : l.length = n) (hlt : Lt32 l) (hn9 : n ≤ 1000000000) (hnc : n ≤ c) (hcm : c ≤ maxLen) :
    Calls Tryz.prog 96 #[.slice (some a) n c] w (CloneP w l) := by
  obtain ⟨i0, hi, hz0, hz1, hz2⟩ := info_parts info32
  unfold maxLen at hcm
  replace hl := hide hl
  have hcmp : ∀ W, (binOp BinOp.eql 23 (.slice (some a) n c) (.slice none 0 0)).run Tryz.prog W = .ok (.bool false) W := fun _ => by kernel_rfl
  go_enter Tryz.func96, Tryz.ntmps96
  go_wp2_with (go_loud (at_builtin; refine wpList_append_any _ rfl (.tmp 5) (.tmp 6) 23 rfl w.heap.size 52 i0 _ 1 4 Tryz.underlying23 hi hz0 hz1 hz2 rfl (by omega) (.slice (some ⟨w.heap.size, 0, none⟩) 0 0) 0 [] rfl (own_empty _ _ _) _ (some a) n c (l.map limb) rfl (by exact h.alloc (Nat.le_refl _) _) (oneCell_limbs _) (by simp only [maxLen]; omega) (by omega) (by simp) ?_; intro v1 w1 hown1 hg1 hat1))
  go_ret
  have h2 : OwnL 52 w1 w.heap.size v1 ([] ++ l) := OwnL.append (l := []) rfl hl.out.symm hown1 Lt32.nil hlt
  exact ⟨v1, rfl, h2, ((Below.refl _ _).alloc (Nat.le_refl _) _).grown hg1 (by simp) (fun j hj => by simp [Value.ownBlock] at hj; omega)⟩
set_option maxRecDepth 100000 in
set_option maxHeartbeats 400000 in
theorem clone_none (c : Nat) (w : World) : Calls Tryz.prog 96 #[.slice none 0 c] w (CloneP w []) := by
  have hcmp : ∀ W, (binOp BinOp.eql 23 (.slice none 0 c) (.slice none 0 0)).run Tryz.prog W = .ok (.bool true) W := fun _ => by kernel_rfl
  go_enter Tryz.func96, Tryz.ntmps96
  go_wp2
  go_ret
  exact ⟨_, rfl, OwnL.nil _ _ _, Below.refl _ _⟩
/-- A slice that holds limbs, cloned. -/
theorem clone_lim (A : Option Addr) (n c : Nat) (l : List Nat) (w : World) (h : Lim w A n c l) (hn9 : n ≤ 1000000000) :
    Calls Tryz.prog 96 #[.slice A n c] w (CloneP w l) := by
  rcases A with _ | a
  · have hn : n = 0 := by
      rcases Nat.eq_zero_or_pos n with h0 | h0
      · exact h0
      · obtain ⟨b, o, e, _⟩ := h.2.2.2.2 h0
        cases e
    subst hn
    obtain rfl : l = [] := List.eq_nil_of_length_eq_zero h.len
    exact clone_none c w
  · exact clone_any a n c l w h.reads h.len h.lt hn9 h.2.1 h.2.2.1
end Go.Proofs.YtljocgdhdilglaaGreat

namespace Go.Proofs.YtljocgdhdilglaaGreat
open Go.RowKit
attribute [local go_sem] add_lit

set_option maxRecDepth 100000 in
set_option maxHeartbeats 1000000 in
theorem div32_any (x y d : Nat) (w : World) (hx : x < d) (hy : y < 4294967296) (hd : d < 4294967296) :
    Calls Tryz.prog 120 #[limb x, limb y, limb d] w fun e w' => e = .returned (.tuple #[limb ((x * 4294967296 + y) / d), limb ((x * 4294967296 + y) % d)]) ∧ w' = w.drew := by
  have d1 : ((d : Int) == 0) = false := by simp; omega
  have d2 : decide ((d : Int) ≤ (x : Int)) = false := by simp; omega
  have d3 : (d : Int) ≠ 0 := by omega
  have d2' : decide (d ≤ x) = false := by simp; omega
  obtain ⟨t, ht⟩ : ∃ t, x * 4294967296 + y = t := ⟨_, rfl⟩
  have hor : bits .or .u64 ((x : Int) * 4294967296) (y : Int) = (t : Int) := by
    have h1 : ((x : Int) * 4294967296) = ((4294967296 * x : Nat) : Int) := by omega
    rw [h1, u64_or_nat _ _ (by omega) (by omega)]
    have h2 := Nat.two_pow_add_eq_or_of_lt (i := 32) (b := y) (by omega) x
    rw [show (2 : Nat) ^ 32 = 4294967296 by rfl] at h2
    rw [← h2]
    omega
  have hq : t / d < 4294967296 := by rw [Nat.div_lt_iff_lt_mul (by omega)]; have := Nat.mul_le_mul_left 4294967296 (show x + 1 ≤ d by omega); omega
  have hr : t % d < d := Nat.mod_lt _ (by omega)
  have htb : t < 18446744073709551616 := by omega
  rw [ht]
  replace ht := hide ht
  go_enter Tryz.func120, Tryz.ntmps120
  go_wp2_with fail
  go_region
  have e1 : IntKind.u64.wrap ((t : Int) / (d : Int)) % 4294967296 = ((t / d : Nat) : Int) := by
    rw [show (t : Int) / (d : Int) = ((t / d : Nat) : Int) from rfl]
    generalize t / d = z at *
    simp only [IntKind.wrap_u64]
    omega
  go_wp2_with fail
  go_ret2
  exact ⟨ret_pair32 e1 rfl, rfl⟩
end Go.Proofs.YtljocgdhdilglaaGreat

namespace Go.Proofs.YtljocgdhdilglaaGreat

theorem drop_val6 {l : List Nat} {k : Nat} (h : k < l.length) : val (l.drop k) = l[k]?.getD 0 + 4294967296 * val (l.drop (k + 1)) := by
  rw [List.drop_eq_getElem_cons h, val, List.getElem?_eq_getElem h]; rfl
theorem div_of {U V q R : Nat} (h : R + q * V = U) (hR : R < V) : q = U / V ∧ R = U % V := by
  subst h
  have hV : 0 < V := by omega
  constructor
  · rw [Nat.add_mul_div_right _ _ hV, Nat.div_eq_of_lt hR, Nat.zero_add]
  · rw [Nat.add_mul_mod_self_right, Nat.mod_eq_of_lt hR]
/-- A multiple that is not too great, of a guess that is not too small. -/
theorem guess_hit {U V q W : Nat} (hV : 0 < V) (h : W + q * V = U) (hq : U / V ≤ q) : q = U / V ∧ W = U % V := by
  have h1 : q ≤ U / V := by rw [Nat.le_div_iff_mul_le hV]; omega
  have h2 : q = U / V := by omega
  refine ⟨h2, ?_⟩
  have h3 := Nat.div_add_mod U V
  rw [← h2, Nat.mul_comm V q] at h3
  omega
/-- A multiple that is too great: the guess less 1 is not too small. -/
theorem guess_miss {U V q W M : Nat} (hV : 0 < V) (h : W + q * V = U + M) (hW : W < M) : U / V < q := by
  rw [Nat.div_lt_iff_lt_mul hV]; omega

/-- One step of a division from the highest limb down. -/
theorem down_step {out l : List Nat} {k D r q r' : Nat} (ho : k < out.length) (hl : k < l.length) (hI : val (out.drop (k + 1)) * D + r = val (l.drop (k + 1))) (he : q * D + r' = r * 4294967296 + l[k]?.getD 0) :
    val ((out.set k q).drop k) * D + r' = val (l.drop k) := by
  rw [drop_val6 (l := out.set k q) (by rw [List.length_set]; exact ho), getD_set_eq _ ho, List.drop_set_of_lt (by omega), drop_val6 hl, Nat.add_mul, ← hI, Nat.mul_add, Nat.mul_assoc]
  omega

/-- One step of moving to the right. -/
theorem shr_step {r : List Nat} {i s : Nat} (hs : s ≤ 32) (hi : i < r.length) (hlt : Lt32 r) :
    val (r.drop i) / 2 ^ s = (r[i]?.getD 0 + 4294967296 * r[i + 1]?.getD 0) / 2 ^ s % 4294967296 + 4294967296 * (val (r.drop (i + 1)) / 2 ^ s) := by
  have hp : 0 < 2 ^ s := Nat.pow_pos (by omega)
  have e1 : val (r.drop i) = r[i]?.getD 0 + 4294967296 * val (r.drop (i + 1)) := drop_val6 hi
  obtain ⟨t, e2⟩ : ∃ t, val (r.drop (i + 1)) = r[i + 1]?.getD 0 + 4294967296 * t := by
    rcases Nat.lt_or_ge (i + 1) r.length with h | h
    · exact ⟨_, drop_val6 h⟩
    · exact ⟨0, by rw [List.drop_of_length_le h, getD_none h]; rfl⟩
  have hx := hlt.get i
  have hq : (4294967296 : Nat) = 2 ^ s * 2 ^ (32 - s) := by rw [← Nat.pow_add, show s + (32 - s) = 32 by omega]
  have hb : 4294967296 * (val (r.drop (i + 1)) / 2 ^ s) = 4294967296 * (val (r.drop i) / 2 ^ s / 4294967296) := by
    congr 1
    rw [Nat.div_div_eq_div_mul, Nat.mul_comm (2 ^ s), ← Nat.div_div_eq_div_mul, e1]
    congr 1
    omega
  have ha : (r[i]?.getD 0 + 4294967296 * r[i + 1]?.getD 0) / 2 ^ s % 4294967296 = val (r.drop i) / 2 ^ s % 4294967296 := by
    rw [e1, e2]
    have : r[i]?.getD 0 + 4294967296 * (r[i + 1]?.getD 0 + 4294967296 * t) = (r[i]?.getD 0 + 4294967296 * r[i + 1]?.getD 0) + 2 ^ s * (2 ^ (32 - s) * t * 4294967296) := by
      have : 2 ^ s * (2 ^ (32 - s) * t * 4294967296) = (2 ^ s * 2 ^ (32 - s)) * t * 4294967296 := by grind
      rw [this, ← hq]; omega
    rw [this, Nat.add_mul_div_left _ _ hp, Nat.add_mul_mod_self_right]
  rw [ha, hb]
  omega

/-- A list of limbs with some of them exchanged. -/
def splice (u : List Nat) (k : Nat) (l : List Nat) : List Nat := u.take k ++ l ++ u.drop (k + l.length)
theorem splice_length {u l : List Nat} {k : Nat} (h : k + l.length ≤ u.length) : (splice u k l).length = u.length := by
  unfold splice; simp; omega
theorem splice_lt {u l : List Nat} {k : Nat} (hu : Lt32 u) (hl : Lt32 l) : Lt32 (splice u k l) := ((hu.take _).append hl).append (hu.drop _)
theorem splice_in {u l : List Nat} {k i : Nat} (h : k + l.length ≤ u.length) (hi : i < l.length) : (splice u k l)[k + i]?.getD 0 = l[i]?.getD 0 := by
  unfold splice
  rw [List.getElem?_append_left (by simp; omega), List.getElem?_append_right (by simp; omega), List.length_take, Nat.min_eq_left (by omega), show k + i - k = i by omega]
theorem splice_out {u l : List Nat} {k j : Nat} (h : k + l.length ≤ u.length) (hj : j < k ∨ k + l.length ≤ j) : (splice u k l)[j]?.getD 0 = u[j]?.getD 0 := by
  unfold splice
  rcases hj with hj | hj
  · rw [List.append_assoc, List.getElem?_append_left (by simp; omega), List.getElem?_take, if_pos hj]
  · rw [List.getElem?_append_right (by simp; omega), List.getElem?_drop]
    congr 2
    simp; omega

/-- What a division's loop keeps: places from j on are done. -/
def DivI (A V n : Nat) (u q : List Nat) (j : Nat) : Prop :=
  Lt32 u ∧ Lt32 q ∧ u.length = q.length + n ∧ j ≤ q.length ∧ val u + V * val q = A ∧ val (u.drop j) < V ∧ ∀ i, i < j → q[i]?.getD 0 = 0

theorem DivI.win {A V n : Nat} {u q : List Nat} {k : Nat} (h : DivI A V n u q (k + 1)) (hV : V ≤ pw n) : val ((u.drop k).take (n + 1)) = val (u.drop k) ∧ val (u.drop k) < 4294967296 * V := by
  obtain ⟨h1, h2, h3, h4, h5, h6, h7⟩ := h
  have e := drop_val6 (l := u) (k := k) (by omega)
  have hx := h1.get k
  have hlt : val (u.drop k) < 4294967296 * V := by omega
  refine ⟨?_, hlt⟩
  have e2 := val_take_drop (u.drop k) (n + 1) (by simp; omega)
  rcases Nat.eq_zero_or_pos (val ((u.drop k).drop (n + 1))) with h0 | h0
  · rw [h0] at e2; omega
  · have := Nat.mul_le_mul_left (pw (n + 1)) h0
    rw [pw_succ] at this e2
    have := Nat.mul_le_mul_left 4294967296 hV
    omega

theorem DivI.step {A V n : Nat} {u q l : List Nat} {k Q : Nat} (h : DivI A V n u q (k + 1)) (hV : V ≤ pw n) (hll : l.length = n + 1) (hl : Lt32 l) (hQ : Q < 4294967296)
    (hq : Q = val ((u.drop k).take (n + 1)) / V) (hr : val l = val ((u.drop k).take (n + 1)) % V) : DivI A V n (splice u k l) (q.set k Q) k := by
  obtain ⟨hw, hlt⟩ := h.win hV
  obtain ⟨h1, h2, h3, h4, h5, h6, h7⟩ := h
  have hV0 : 0 < V := by omega
  have hk : k + l.length ≤ u.length := by omega
  have ed : (splice u k l).drop k = l ++ u.drop (k + l.length) := by
    unfold splice
    rw [List.append_assoc, List.drop_append_of_le_length (by simp; omega), List.drop_of_length_le (by simp; omega), List.nil_append]
  have e0 : val (u.drop (k + l.length)) = 0 := by
    have e2 := val_take_drop (u.drop k) (n + 1) (by simp; omega)
    rw [hw, List.drop_drop, ← hll] at e2
    rcases Nat.eq_zero_or_pos (val (u.drop (k + l.length))) with h0 | h0
    · exact h0
    · have := Nat.mul_le_mul_left (pw l.length) h0
      have := pw_pos l.length
      omega
  have hvd : val ((splice u k l).drop k) = val l := by rw [ed, val_append, e0]; omega
  refine ⟨splice_lt h1 hl, h2.set k hQ, by rw [splice_length hk, List.length_set]; exact h3, by rw [List.length_set]; omega, ?_, by rw [hvd, hr]; exact Nat.mod_lt _ hV0, fun i hi => by rw [getD_set_ne _ (by omega)]; exact h7 i (by omega)⟩
  have e3 := val_take_drop (splice u k l) k (by rw [splice_length hk]; omega)
  have e4 := val_take_drop u k (by omega)
  have e5 : (splice u k l).take k = u.take k := by
    unfold splice
    rw [List.append_assoc, List.take_append_of_le_length (by simp; omega), List.take_of_length_le (by simp; omega)]
  have e6 := val_set (l := q) (k := k) (by omega) Q
  rw [h7 k (by omega), Nat.mul_zero, Nat.add_zero] at e6
  have e7 := Nat.div_add_mod (val ((u.drop k).take (n + 1))) V
  rw [← hq, ← hr, hw] at e7
  rw [e3, e5, hvd, e6, Nat.mul_add]
  rw [e4, ← e7, Nat.mul_add] at h5
  have : V * (pw k * Q) = pw k * (V * Q) := by grind
  omega

/-- The start of a division's loop. -/
theorem DivI.start {a b : List Nat} {u : List Nat} {s n : Nat} (hu : val u = 2 ^ s * val a) (hul : u.length = a.length + 1) (hult : Lt32 u) (hn : n ≤ a.length) (halt : Lt32 a) (hb : pw (n - 1) ≤ val b) (hn0 : 0 < n) :
    DivI (2 ^ s * val a) (2 ^ s * val b) n u (List.replicate (a.length + 1 - n) 0) (a.length + 1 - n) := by
  refine ⟨hult, Lt32.replicate _, by simp; omega, by simp, by rw [val_replicate, hu]; simp, ?_, fun i _ => getD_replicate _ _⟩
  have e1 := val_take_drop u (a.length + 1 - n) (by omega)
  have e2 := val_lt halt
  have e3 : pw a.length = pw (a.length + 1 - n) * pw (n - 1) := by rw [← pw_add]; congr 1; omega
  have hp : 0 < 2 ^ s := Nat.pow_pos (by omega)
  have e4 : 2 ^ s * val a < 2 ^ s * pw a.length := Nat.mul_lt_mul_of_pos_left e2 hp
  have e5 : 2 ^ s * pw (n - 1) ≤ 2 ^ s * val b := Nat.mul_le_mul_left _ hb
  have e6 : pw (a.length + 1 - n) * val (u.drop (a.length + 1 - n)) < pw (a.length + 1 - n) * (2 ^ s * pw (n - 1)) := by
    have : pw (a.length + 1 - n) * (2 ^ s * pw (n - 1)) = 2 ^ s * pw a.length := by rw [e3]; grind
    omega
  have := Nat.lt_of_mul_lt_mul_left e6
  omega
/-- The end of it. -/
theorem DivI.stop {a b : Nat} {u q : List Nat} {s n : Nat} (h : DivI (2 ^ s * a) (2 ^ s * b) n u q 0) : val q = a / b ∧ val u = 2 ^ s * (a % b) := by
  obtain ⟨h1, h2, h3, h4, h5, h6, h7⟩ := h
  rw [List.drop_zero] at h6
  have hp : 0 < 2 ^ s := Nat.pow_pos (by omega)
  obtain ⟨e1, e2⟩ := div_of (U := 2 ^ s * a) (V := 2 ^ s * b) (q := val q) (R := val u) (by rw [Nat.mul_comm (val q)]; exact h5) h6
  rw [Nat.mul_div_mul_left _ _ hp] at e1
  rw [Nat.mul_mod_mul_left] at e2
  exact ⟨e1, e2⟩

theorem pw_le_val {l : List Nat} (h : 0 < l.length) (h' : l[l.length - 1]?.getD 0 ≠ 0) : pw (l.length - 1) ≤ val l := by
  have e := val_take_drop l (l.length - 1) (by omega)
  rw [drop_val6 (by omega)] at e
  have : 1 ≤ l[l.length - 1]?.getD 0 + 4294967296 * val (l.drop (l.length - 1 + 1)) := by omega
  have := Nat.mul_le_mul_left (pw (l.length - 1)) this
  omega
theorem top_ne_of_digits {v : Nat} (h : 0 < (digits v).length) : (digits v)[(digits v).length - 1]?.getD 0 ≠ 0 := by
  intro h0
  have h1 := digits_getLast v
  rw [List.getLast?_eq_getElem?] at h1
  rw [List.getElem?_eq_getElem (by omega)] at h1 h0
  simp at h0
  rw [h0] at h1
  exact h1 rfl
/-- The highest limb against the whole. -/
theorem top_le {v : List Nat} {n : Nat} (hn : v.length = n) (h0 : 0 < n) : v[n - 1]?.getD 0 * pw (n - 1) ≤ val v := by
  have e := val_take_drop v (n - 1) (by omega)
  rw [drop_val6 (by omega)] at e
  rw [Nat.mul_add] at e
  rw [Nat.mul_comm]
  omega
/-- Two limbs from above. -/
theorem top2_lt {u : List Nat} {n : Nat} (hn : u.length = n + 1) (h0 : 0 < n) (hlt : Lt32 u) : val u < (u[n]?.getD 0 * 4294967296 + u[n - 1]?.getD 0 + 1) * pw (n - 1) := by
  have e := val_take_drop u (n - 1) (by omega)
  rw [drop_val6 (by omega), show n - 1 + 1 = n by omega, drop_val6 (by omega), List.drop_of_length_le (by omega)] at e
  have h1 := val_lt (hlt.take (n - 1))
  rw [List.length_take, Nat.min_eq_left (by omega)] at h1
  rw [e]
  simp only [val]
  have : (u[n]?.getD 0 * 4294967296 + u[n - 1]?.getD 0 + 1) * pw (n - 1) = pw (n - 1) * (u[n - 1]?.getD 0 + 4294967296 * (u[n]?.getD 0 + 4294967296 * 0)) + pw (n - 1) := by grind
  omega
/-- Three limbs from above, against two of the divisor. -/
theorem top2_le {v : List Nat} {n : Nat} (hn : v.length = n) (h0 : 1 < n) : (v[n - 1]?.getD 0 * 4294967296 + v[n - 2]?.getD 0) * pw (n - 2) ≤ val v := by
  have e := val_take_drop v (n - 2) (by omega)
  rw [drop_val6 (by omega), show n - 2 + 1 = n - 1 by omega, drop_val6 (by omega)] at e
  have : (v[n - 1]?.getD 0 * 4294967296 + v[n - 2]?.getD 0) * pw (n - 2) ≤ pw (n - 2) * (v[n - 2]?.getD 0 + 4294967296 * (v[n - 1]?.getD 0 + 4294967296 * val (v.drop (n - 1 + 1)))) := by
    rw [Nat.mul_comm]; exact Nat.mul_le_mul_left _ (by omega)
  omega
theorem top3_lt {u : List Nat} {n : Nat} (hn : u.length = n + 1) (h0 : 1 < n) (hlt : Lt32 u) : val u < ((u[n]?.getD 0 * 4294967296 + u[n - 1]?.getD 0) * 4294967296 + u[n - 2]?.getD 0 + 1) * pw (n - 2) := by
  have e := val_take_drop u (n - 2) (by omega)
  rw [drop_val6 (by omega), show n - 2 + 1 = n - 1 by omega, drop_val6 (by omega), show n - 1 + 1 = n by omega, drop_val6 (by omega), List.drop_of_length_le (by omega)] at e
  have h1 := val_lt (hlt.take (n - 2))
  rw [List.length_take, Nat.min_eq_left (by omega)] at h1
  rw [e]
  simp only [val]
  have : ((u[n]?.getD 0 * 4294967296 + u[n - 1]?.getD 0) * 4294967296 + u[n - 2]?.getD 0 + 1) * pw (n - 2) = pw (n - 2) * (u[n - 2]?.getD 0 + 4294967296 * (u[n - 1]?.getD 0 + 4294967296 * (u[n]?.getD 0 + 4294967296 * 0))) + pw (n - 2) := by grind
  omega
end Go.Proofs.YtljocgdhdilglaaGreat

namespace Go.Proofs.YtljocgdhdilglaaGreat
open Go.RowKit
attribute [local go_sem] add_lit

theorem MutL.reads {w : World} {g off : Nat} {l : List Nat} (h : MutL w g off l) : Reads w w.heap.size 1 (some ⟨g, off, none⟩) l.length (l.map limb) :=
  ⟨by simp, fun hn => ⟨_, rfl, by have := lt_of_cell (h 0 hn).1; exact this, fun j u hu => by
    rw [add_lit]
    have hj : j < l.length := by
      rcases Nat.lt_or_ge j l.length with h' | h'
      · exact h'
      · rw [List.getElem?_eq_none (by simpa using h')] at hu; cases hu
    rw [(h j hj).1]
    rw [List.getElem?_map, List.getElem?_eq_getElem hj] at hu
    rw [List.getElem?_eq_getElem hj]
    simpa using hu⟩⟩
theorem MutL.below {w w' : World} {g off : Nat} {l : List Nat} (h : MutL w g off l) (hb : Below w.heap.size w w') : MutL w' g off l := fun j hj =>
  ⟨keep_cell hb (h j hj).1, keep_frozen hb (h j hj).1 (h j hj).2⟩
theorem MutL.drew {w : World} {g off : Nat} {l : List Nat} (h : MutL w g off l) : MutL w.drew g off l := h
theorem MutL.win {w : World} {g off : Nat} {l : List Nat} (h : MutL w g off l) {k n : Nat} (hk : k + n ≤ l.length) : MutL w g (off + k) ((l.drop k).take n) := fun j hj => by
  rw [List.length_take, List.length_drop] at hj
  have := h (k + j) (by omega)
  rw [List.getElem?_take, if_pos (by omega), List.getElem?_drop, Nat.add_assoc]
  exact this
/-- Cells written over. -/
theorem MutL.splice {w : World} {g : Nat} {u l : List Nat} {k : Nat} (h : MutL w g 0 u) (hk : k + l.length ≤ u.length) : MutL (w.setCells g k (l.map limb)) g 0 (splice u k l) := fun j hj => by
  rw [splice_length hk] at hj
  obtain ⟨h1, h2⟩ := h j hj
  rw [Nat.zero_add] at h1 h2 ⊢
  refine ⟨?_, by rw [World.frozen?_setCells]; exact h2⟩
  by_cases hin : k ≤ j ∧ j < k + l.length
  · obtain ⟨i, rfl⟩ : ∃ i, j = k + i := ⟨j - k, by omega⟩
    rw [splice_in hk (by omega)]
    have := World.cell?_setCells_in g (l.map limb) k w (fun i hi => by
      rw [List.length_map] at hi
      have := (h (k + i) (by omega)).1
      rw [Nat.zero_add] at this
      rw [this]; rfl) i (by rw [List.length_map]; omega)
    rw [this]
    simp [List.getElem?_eq_getElem (show i < l.length by omega)]
  · rw [splice_out hk (by omega), World.cell?_setCells_out g _ k w _ (fun _ _ => by rw [List.length_map]; simp only []; omega)]
    exact h1
theorem grownBy_setCells {w w' : World} {g o : Nat} {us : List Value} (h : w.grownBy w' (some g)) : w.grownBy (w'.setCells g o us) (some g) := by
  induction us generalizing o w' with
  | nil => exact h
  | cons u us ih => exact ih (grownBy_set h)
theorem size_setCells (w : World) (g o : Nat) (us : List Value) : (w.setCells g o us).heap.size = w.heap.size := by
  induction us generalizing o w with
  | nil => rfl
  | cons u us ih => rw [World.setCells, ih]; simp

theorem quiet_add {P : Program} {f : FuncId} {args : Array Value} {w : World} {a n : Nat} {v : Value}
    (h : Calls P f args (w.drewN (a + n)) fun e w' => e = .returned v ∧ ∃ m, w' = (w.drewN (a + n)).drewN m) :
    Calls P f args (w.drewN (a + n)) fun e w'' => e = .returned v ∧ ∃ m, w'' = w.drewN (a + m) :=
  h.mono fun _ _ ⟨he, m, hm⟩ => ⟨he, n + m, by rw [hm, World.drewN_drewN, Nat.add_assoc]⟩
theorem div32_q (x y d : Nat) (w : World) (hx : x < d) (hy : y < 4294967296) (hd : d < 4294967296) :
    Calls Tryz.prog 120 #[limb x, limb y, limb d] w fun e w' => e = .returned (.tuple #[limb ((x * 4294967296 + y) / d), limb ((x * 4294967296 + y) % d)]) ∧ ∃ m, w' = w.drewN m :=
  (div32_any x y d w hx hy hd).mono fun _ _ ⟨he, hm⟩ => ⟨he, 1, hm⟩

/-- What 'step' hands back: a limb of the quotient; the rest stands where the dividend stood. -/
def StepP (w : World) (g off : Nat) (u v : List Nat) (e : Ending) (w' : World) : Prop :=
  ∃ l w1, e = .returned (limb (val u / val v)) ∧ l.length = u.length ∧ Lt32 l ∧ val l = val u % val v ∧ Below w.heap.size w w1 ∧ w' = w1.setCells g off (l.map limb)

set_option maxRecDepth 100000 in
set_option maxHeartbeats 2000000 in
theorem step_any (g off n c d : Nat) (B : Option Addr) (u v : List Nat) (w : World) (hu : MutL w g off u) (hul : u.length = n + 1) (hut : Lt32 u) (hnc : n + 1 ≤ c) (hcm : c ≤ maxLen) (hn9 : n ≤ 1000000) (hn0 : 0 < n)
    (hv : Lim w B n d v) (hlt : val u < 4294967296 * val v) (htop : v[n - 1]?.getD 0 ≠ 0) :
    Calls Tryz.prog 113 #[.slice (some ⟨g, off, none⟩) (n + 1) c, .slice B n d] w (StepP w g off u v) := by
  unfold maxLen at hcm
  have hnd := hv.2.1
  have hdm := hv.2.2.1
  unfold maxLen at hdm
  have hvl := hv.len
  obtain ⟨bv, ov, rfl, hcv⟩ := hv.at_ (k := n - 1) (by omega)
  have hV : 0 < val v := by
    rcases Nat.eq_zero_or_pos (val v) with h0 | h0
    · rw [h0] at hlt; omega
    · exact h0
  obtain ⟨q, hq⟩ : ∃ q, val u / val v = q := ⟨_, rfl⟩
  have hqlt : q < 4294967296 := by rw [← hq, Nat.div_lt_iff_lt_mul hV]; exact hlt
  have hun := hut.get n
  have hun1 := hut.get (n - 1)
  have hvn := hv.lt.get (n - 1)
  have hcu := hu n (by omega)
  have hcu1 := hu (n - 1) (by omega)
  have hguess : u[n]?.getD 0 < v[n - 1]?.getD 0 → q ≤ (u[n]?.getD 0 * 4294967296 + u[n - 1]?.getD 0) / v[n - 1]?.getD 0 := fun _ => by
    rw [← hq]
    exact div_guess (by omega) (top_le hvl hn0) (top2_lt hul hn0 hut)
  have hglt : u[n]?.getD 0 < v[n - 1]?.getD 0 → (u[n]?.getD 0 * 4294967296 + u[n - 1]?.getD 0) / v[n - 1]?.getD 0 < 4294967296 := fun h => by
    rw [Nat.div_lt_iff_lt_mul (by omega)]
    have := Nat.mul_le_mul_left 4294967296 (show u[n]?.getD 0 + 1 ≤ v[n - 1]?.getD 0 by omega)
    omega
  have HQ := hide hq
  have hfull := hide hul
  have hvl' := hide hvl
  clear hq hul hvl
  have hfz := hcu.1
  have hfz1 := hcu1.1
  obtain ⟨x, hx⟩ : ∃ x, u[n]?.getD 0 = x := ⟨_, rfl⟩
  obtain ⟨y, hy⟩ : ∃ y, u[n - 1]?.getD 0 = y := ⟨_, rfl⟩
  obtain ⟨z, hz⟩ : ∃ z, v[n - 1]?.getD 0 = z := ⟨_, rfl⟩
  rw [hx] at hun hfz
  rw [hy] at hun1 hfz1
  rw [hz] at hvn hcv htop
  rw [hx, hy, hz] at hguess hglt
  clear hx hy hz hcu hcu1
  by_cases hc : x < z
  all_goals
    first
    | (have hc' : decide (x < z) = true := by simpa using hc)
    | (have hc' : decide (x < z) = false := by simpa using hc)
    go_enter Tryz.func113, Tryz.ntmps113
    go_wp2_with fail
    go_quiet (fail)
    go_wp2_with fail
    first
    | (go_quiet ((go_at_call 120; exact quiet_add (div32_q _ _ _ _ hc hun1 hvn))))
    | skip
    go_wp2_with fail
    go_loopw [6] (fun gv wr => ∃ gs : Nat, gv = limb gs ∧ q ≤ gs ∧ gs < 4294967296 ∧ Below w.heap.size w wr) (fun gv _ => (intOf gv).toNat)
    case atStart => first | exact ⟨_, rfl, hguess hc, hglt hc, below_dn (below_dn (Below.refl _ _) _) _⟩ | exact ⟨4294967295, rfl, by omega, by omega, below_dn (Below.refl _ _) _⟩
    case round =>
      obtain ⟨gs, rfl, hg1, hg2, hB⟩ := hrel
      clear hguess hglt hfz hfz1
      have huM := hu.below hB
      have hvL := hv.below hB
      have hbv : bv < wr.heap.size := Nat.lt_of_lt_of_le (lt_of_cell hcv) hB.size
      have hgw : g < wr.heap.size := Nat.lt_of_lt_of_le (lt_of_cell (hu 0 (by rw [hfull.out]; omega)).1) hB.size
      have hrd : Reads wr wr.heap.size 1 (some ⟨g, off, none⟩) (n + 1) (u.map limb) := by have := huM.reads; rw [hfull.out] at this; exact this
      go_wp2_with fail
      refine (clone_any ⟨g, off, none⟩ (n + 1) c u _ hrd hfull.out hut (by omega) hnc (by unfold maxLen; omega)).mono ?_
      rintro e w1 ⟨v1, rfl, hown, hb1⟩
      obtain ⟨g1, cap1, hv1, hg1', hg1s, hl1, hc1, hM1⟩ := hown.mut (by rw [hfull.out]; omega)
      rw [hfull.out] at hv1 hl1
      subst hv1
      go_wp2_with fail
      refine (subtract_any g1 0 n cap1 d gs (some ⟨bv, ov, none⟩) u v _ hM1 hfull.out hut hl1 hc1 (by omega) (hvL.below hb1) (fun b o e => by injection e with e; injection e with e1 e2; omega) hg2).mono ?_
      rintro e w2 ⟨b, l, hb01, rfl, hM2, hll, hlt2, hI, hgr⟩
      have hB2 : Below w.heap.size w w2 := (hB.trans (hb1.mono hB.size)).grown hgr (by have := hb1.size; have := hB.size; omega) (fun j hj => by injection hj with hj; have := hB.size; omega)
      rcases Nat.eq_zero_or_pos b with rfl | hb0
      · obtain ⟨hit1, hit2⟩ := guess_hit (U := val u) (q := gs) (W := val l) hV (by rw [Nat.mul_zero] at hI; exact hI) (by rw [HQ.out]; exact hg1)
        have hcopy : ∀ ty, (Builtin.copy_ #[23, 23] ty #[.slice (some ⟨g, off, none⟩) (n + 1) c, .slice (some ⟨g1, 0, none⟩) (n + 1) cap1]).run Tryz.prog w2 = .ok (goInt ((n + 1 : Nat) : Int)) (w2.setCells g off (l.map limb)) := fun ty => by
          obtain ⟨i0, hi, hz0, hz1, hz2⟩ := info_parts info32
          have h := run_copy_cells (P := Tryz.prog) w2 23 23 ty 52 g off (n + 1) c ⟨g1, 0, none⟩ (n + 1) cap1 (l.map limb) Tryz.underlying23 (by rw [hi]; simp [hz1]) (by rw [List.length_map, hll]; exact (Nat.min_self _).symm)
            (fun j x hx => by
              have hj : j < l.length := by
                rcases Nat.lt_or_ge j l.length with h' | h'
                · exact h'
                · rw [List.getElem?_eq_none (by simpa using h')] at hx; cases hx
              rw [add_lit, (hM2 j hj).1]
              rw [List.getElem?_map, List.getElem?_eq_getElem hj] at hx
              rw [List.getElem?_eq_getElem hj]
              simpa using hx)
            (fun j hj => by
              rw [List.length_map, hll] at hj
              have h3 := (huM j (by rw [hfull.out]; exact hj)).1
              have h4 := keep_cell hb1 h3
              rw [(World.cell?_of_block (a := ⟨g, off + j, none⟩) (hgr.block g (by have := hb1.size; omega) (fun e => by injection e with e; omega))), h4]; rfl)
            (fun j hj => by
              rw [List.length_map, hll] at hj
              have h3 := huM j (by rw [hfull.out]; exact hj)
              have h4 := keep_frozen hb1 h3.1 h3.2
              rw [(World.frozen?_of_block (a := ⟨g, off + j, none⟩) (hgr.block g (by have := hb1.size; omega) (fun e => by injection e with e; omega))), h4])
            (oneCell_limbs l)
          rw [List.length_map, hll] at h
          exact h
        have hP : StepP w g off u v (.returned (limb gs)) (w2.setCells g off (l.map limb)) := ⟨l, w2, by rw [hit1], by rw [hll, hfull.out], hlt2, hit2, hB2, rfl⟩
        replace hP := hide hP
        clear hit1 hit2 hI hll
        go_wp2_with fail
        go_ret
        exact hP.out
      · obtain rfl : b = 1 := by omega
        have hmiss : q < gs := by
          have := guess_miss (q := gs) (W := val l) (M := pw (n + 1)) hV (by rw [Nat.mul_one] at hI; exact hI) (by have := val_lt hlt2; rw [hll] at this; exact this)
          rw [HQ.out] at this; exact this
        clear hI hll
        go_wp2_with fail
        go_roundw
        case rel => exact ⟨gs - 1, by go_num, by omega, by omega, hB2⟩
        case measure => simp [intOf]; omega
end Go.Proofs.YtljocgdhdilglaaGreat

namespace Go.Proofs.YtljocgdhdilglaaGreat
open Go.RowKit

/-- Nothing but the way on. -/
def OnlyNormal (Q : Exit → Act → World → Prop) : Exit → Act → World → Prop
  | .normal, a, w => Q .normal a w
  | _, _, _ => False
theorem OnlyNormal.no_out {Q : Exit → Act → World → Prop} (h : LetsOut (OnlyNormal Q)) : False := by
  obtain ⟨a, w, h⟩ := h
  exact h

theorem OnlyNormal.normal {Q : Exit → Act → World → Prop} {a : Act} {w : World} (h : Q .normal a w) : OnlyNormal Q .normal a w := h

theorem wpOpsIn_round {l n : Nat} {P : Program} {ops : Array Oper} {Q : Exit → Act → World → Prop} (hnd : ∀ (i : Nat) (o : Oper), ops[i]? = some o → ∀ c, o.op ≠ .defer c) :
    ∀ (is : List Nat) (a : Act) (w : World), wpOps P ops (OnlyNormal Q) is a w → wpOpsIn (Fence.wide.inRound l) n P ops Q is a w
  | [], _, _, h => h
  | i :: rest, a, w, h => by
    simp only [wpOps] at h
    simp only [wpOpsIn]
    cases ho : ops[i]? with
    | none => simp only [ho] at h ⊢; exact wpOpsIn_round hnd rest a w h
    | some o =>
      simp only [ho] at h ⊢
      by_cases hw : Region.wanted o (yielded ops a.tmps) = true
      · simp only [hw, if_true] at h ⊢
        rcases h with h | ⟨_, h⟩
        · refine ⟨fun _ _ => trivial, ?_⟩
          rw [Oper.semAt_eq _ _ _ (hnd i o ho)]
          unfold Oper.wp at h
          generalize (execOp a.eval o).run P w = r at *
          cases r with
          | ok x w' =>
            cases x with
            | value v => exact wpOpsIn_round hnd rest _ _ h
            | skip => exact wpOpsIn_round hnd rest _ _ h
            | defer d => exact wpOpsIn_round hnd rest _ _ h
            | enter f args =>
              refine ⟨(fun h => by cases h), CallsIn.inRound l (callsIn_wide.2 (Calls.mono h fun e w'' he => ?_))⟩
              cases e with
              | returned v => exact wpOpsIn_round hnd rest _ _ he
              | panicked c => exact (he : False).elim
              | outgrown => exact (OnlyNormal.no_out he).elim
            | row row args =>
              refine ⟨(fun h => by cases h), fun c cs _ => ?_⟩
              obtain ⟨v, w'', hR, hs⟩ := h c cs
              exact ⟨v, w'', wpOpsIn_round hnd rest _ _ hR, stepsIn_wide.2 hs⟩
            | _ => exact (h : False).elim
          | halt x w' => cases x <;> exact (h : False).elim
        · exact (OnlyNormal.no_out h).elim
      · simp only [hw, if_false, Bool.false_eq_true] at h ⊢
        exact ⟨fun _ _ => trivial, wpOpsIn_round hnd rest _ _ h⟩

def noDefers (ops : Array Oper) : Bool := ops.all fun o => match o.op with | .defer _ => false | _ => true
theorem noDefers_spec {ops : Array Oper} (h : noDefers ops = true) : ∀ (i : Nat) (o : Oper), ops[i]? = some o → ∀ c, o.op ≠ .defer c := by
  intro i o ho c hc
  unfold noDefers at h
  rw [Array.all_eq_true] at h
  obtain ⟨hi, rfl⟩ := Array.getElem?_eq_some_iff.1 ho
  have := h i hi
  rw [hc] at this
  cases this

/-- Operations that write what the region has read come up behind all that read it: none of L has come up. -/
def noneOf (L : List Nat) (listed : Array Bool) : Bool := L.all fun k => !(listed.getD k true)

/-- Whatever order is picked from here on; S holds till one of L has come up. -/
def wpAnyL (P : Program) (md : Region.Mode) (ops : Array Oper) (Q : Exit → Act → World → Prop) (L : List Nat) (S : World → Prop) : Nat → Array Bool → Act → World → Prop
  | 0, listed, a, w => Region.ready md ops listed = [] ∧ Q .normal a w
  | fuel + 1, listed, a, w =>
    (Region.ready md ops listed = [] → Q .normal a w) ∧
    ∀ i ∈ Region.ready md ops listed, wpOp P ops Q i (fun a' w' => (noneOf L (listed.setIfInBounds i true) = true → S w') ∧ wpAnyL P md ops Q L S fuel (listed.setIfInBounds i true) a' w') a w

section
variable {P : Program} {ops : Array Oper} {Q : Exit → Act → World → Prop} {md : Region.Mode} {L : List Nat} {S : World → Prop}

theorem wpAny_of_L : ∀ (fuel : Nat) (listed : Array Bool) (a : Act) (w : World), wpAnyL P md ops Q L S fuel listed a w → wpAny P md ops Q fuel listed a w
  | 0, _, _, _, h => h
  | fuel + 1, _, _, _, h => ⟨h.1, fun i hi => wpOp_mono (fun a' w' h' => wpAny_of_L fuel _ a' w' h'.2) (h.2 i hi)⟩

theorem noneOf_set {listed : Array Bool} {j : Nat} (hj : j ∉ L) : noneOf L (listed.setIfInBounds j true) = noneOf L listed := by
  unfold noneOf
  rw [Bool.eq_iff_iff, List.all_eq_true, List.all_eq_true]
  have : ∀ k ∈ L, (listed.setIfInBounds j true).getD k true = listed.getD k true := fun k hk => Go.getD_set_ne true (fun e => hj (e ▸ hk))
  constructor
  · intro h k hk; rw [← this k hk]; exact h k hk
  · intro h k hk; rw [this k hk]; exact h k hk

/-- Each of L waits for operation i. -/
def waits (md : Region.Mode) (ops : Array Oper) (L : List Nat) (i : Nat) : Bool := L.all fun k => k != i && (match ops[k]? with | some o => o.after.any fun e => Region.binds md e && e.on == i | none => false)

theorem wpAnyL_first {i : Nat} {oi : Oper} {v : Value} (hi : ops[i]? = some oi) (hsel : ∀ (j : Nat) (o : Oper) cs b, ops[j]? = some o → o.op ≠ .select cs b)
    (hQ : ∀ c a w, Q (.panic c) (a.put oi.dst v) w → Q (.panic c) a w) (hL : waits md ops L i = true) :
    ∀ (fuel : Nat) (listed : Array Bool) (a : Act) (w : World),
      (∀ j oj, ops[j]? = some oj → j ≠ i → listed.getD j true = false → (∀ e ∈ oj.after, Region.binds md e = true → e.on ≠ i) → oi.apart ops oj = true) →
      i ∈ Region.ready md ops listed → YieldsIf P ops S oi v a → noneOf L listed = true → S w →
      wpAnyL P md ops Q L S fuel (listed.setIfInBounds i true) (a.put oi.dst v) w → wpAnyL P md ops Q L S (fuel + 1) listed a w := by
  have hiL : i ∉ L := fun h => by
    unfold waits at hL
    rw [List.all_eq_true] at hL
    have := hL i h
    simp at this
  intro fuel
  induction fuel with
  | zero =>
    intro listed a w _ hr hy hn hS H
    refine ⟨fun h => (by rw [h] at hr; cases hr), fun j hj => ?_⟩
    by_cases hji : j = i
    · subst hji; exact hy.wpOp hi hS ⟨fun _ => hS, H⟩
    · have := ready_mono hj hji
      rw [H.1] at this
      cases this
  | succ fuel ih =>
    intro listed a w hfree hr hy hn hS H
    refine ⟨fun h => (by rw [h] at hr; cases hr), fun j hj => ?_⟩
    by_cases hji : j = i
    · subst hji; exact hy.wpOp hi hS ⟨fun _ => hS, H⟩
    · have h1 := H.2 j (ready_mono hj hji)
      obtain ⟨hjun, oj, hoj, hall⟩ := mem_ready.1 hj
      have hnot : ∀ e ∈ oj.after, Region.binds md e = true → e.on ≠ i := fun e he hb heq => by
        have h1 := hall e he hb
        have h0 := (mem_ready.1 hr).1
        rw [heq] at h1
        rcases Nat.lt_or_ge i listed.size with h' | h'
        · simp [h'] at h0 h1; rw [h0] at h1; cases h1
        · simp [Array.getElem?_eq_none h'] at h1
      have hjL : j ∉ L := fun hjL => by
        unfold waits at hL
        rw [List.all_eq_true] at hL
        have h2 := hL j hjL
        rw [hoj] at h2
        simp only [Bool.and_eq_true, Array.any_eq_true'] at h2
        obtain ⟨_, e, he, h3, h4⟩ := h2
        exact hnot e he h3 (by simpa using h4)
      have h2 := wpOp_putIf hoj (hfree j oj hoj hji hjun hnot) (fun cs b => hsel i oi cs b hi) (fun cs b => hsel j oj cs b hoj) hQ hy h1
      have hfree' : ∀ k ok, ops[k]? = some ok → k ≠ i → (listed.setIfInBounds j true).getD k true = false →
          (∀ e ∈ ok.after, Region.binds md e = true → e.on ≠ i) → oi.apart ops ok = true := fun k ok hk hki hun hno => by
        refine hfree k ok hk hki ?_ hno
        by_cases hjk : j = k
        · subst hjk; exact hjun
        · rw [Go.getD_set_ne true hjk] at hun; exact hun
      have hn2 : noneOf L (listed.setIfInBounds j true) = true := by rw [noneOf_set hjL]; exact hn
      refine wpOp_mono (fun a' w' h3 => ⟨fun _ => h3.2.1 (by rw [noneOf_set hjL, noneOf_set hiL]; exact hn), ih (listed.setIfInBounds j true) a' w' hfree' (ready_mono hr (Ne.symm hji)) h3.1 hn2 (h3.2.1 (by rw [noneOf_set hjL, noneOf_set hiL]; exact hn)) ?_⟩) h2
      rw [Array.setIfInBounds_comm _ _ hji]
      exact h3.2.2

/-- Take number i first. -/
theorem wpAnyL_take {i : Nat} {oi : Oper} {v : Value} {fuel : Nat} {listed : Array Bool} {a : Act} {w : World} (hi : ops[i]? = some oi)
    (hs : Region.noSelect ops = true) (hf : Region.free md ops listed i = true) (hr : (Region.ready md ops listed).contains i = true) (hL : waits md ops L i = true) (hn : noneOf L listed = true)
    (hy : YieldsIf P ops S oi v a) (hS : S w)
    (h : wpAnyL P md ops (OnlyNormal Q) L S fuel (listed.setIfInBounds i true) (a.put oi.dst v) w) : wpAnyL P md ops (OnlyNormal Q) L S (fuel + 1) listed a w :=
  wpAnyL_first hi (Region.noSelect_spec hs) (fun _ _ _ h => (h : False).elim) hL fuel listed a w (Region.free_spec hi hf) (by simpa using hr) hy hn hS h

/-- The one operation that may come up. -/
theorem wpAnyL_one {i : Nat} {o : Oper} {fuel : Nat} {listed : Array Bool} {a : Act} {w : World} (ho : ops[i]? = some o) (hr : Region.ready md ops listed = [i])
    (h : ∀ K' : Act → World → Prop, Shut (∀ a w, (noneOf L (listed.setIfInBounds i true) = true → S w) → wpAnyL P md ops Q L S fuel (listed.setIfInBounds i true) a w → K' a w) → if Region.wanted o (yielded ops a.tmps) = true then Oper.wp P o a w K' Q else K' (a.put o.dst undef) w) :
    wpAnyL P md ops Q L S (fuel + 1) listed a w :=
  ⟨(fun h0 => by rw [h0] at hr; cases hr), fun j hj => by
    rw [hr, List.mem_singleton] at hj
    subst hj
    exact wpOp_step ho (fun K' hK => h K' (fun a w hS hW => hK a w ⟨hS, hW⟩))⟩

/-- The same for one of L. -/
theorem wpAnyL_late {i : Nat} {o : Oper} {fuel : Nat} {listed : Array Bool} {a : Act} {w : World} (ho : ops[i]? = some o) (hr : Region.ready md ops listed = [i]) (hn : noneOf L (listed.setIfInBounds i true) = false)
    (h : ∀ K' : Act → World → Prop, Shut (∀ a w, wpAnyL P md ops Q L S fuel (listed.setIfInBounds i true) a w → K' a w) → if Region.wanted o (yielded ops a.tmps) = true then Oper.wp P o a w K' Q else K' (a.put o.dst undef) w) :
    wpAnyL P md ops Q L S (fuel + 1) listed a w :=
  wpAnyL_one ho hr fun K hK => h K fun a w hW => hK a w (fun h => by rw [hn] at h; cases h) hW

theorem wpAnyL_done {listed : Array Bool} {a : Act} {w : World} (hr : Region.ready md ops listed = []) (h : Q .normal a w) : ∀ fuel, wpAnyL P md ops Q L S fuel listed a w
  | 0 => ⟨hr, h⟩
  | _ + 1 => ⟨fun _ => h, by rw [hr]; simp⟩
end

/-- The beginning of the walk. -/
theorem wpIn_round_held {l n : Nat} {P : Program} {id : Nat} {ops : Array Oper} {Q : Exit → Act → World → Prop} {a : Act} {w : World} (L : List Nat) (S : World → Prop) (hm : P.follows .mixedOrders = true) (hnd : noDefers ops = true)
    (hS : S w.drew) (h : S w.drew → wpAnyL P .any ops (OnlyNormal Q) L S ops.size (Array.replicate ops.size false) a w.drew) : (Code.region id ops true).wpIn (Fence.wide.inRound l) n P Q a w :=
  wpIn_region_draw fun t => wpOpsIn_round (noDefers_spec hnd) _ _ _ (by
    simp only [Region.schedule, hm, Bool.true_or, if_true]
    exact wpAny_sound ops.size t _ a _ (wpAny_of_L _ _ _ _ (h hS)))
end Go.Proofs.YtljocgdhdilglaaGreat
