/- Package wide: subtract. slices.Clone of limbs. math/bits.Div32. Division of limbs: what the loops of step, divide, right, short and digit keep. Plain. Package wide: step. -/
import Derived.BigQuiet
import Derived.Deep.QuietTactic
import Derived.Laws.IdiomCopy
import Derived.Test.YtkippclhbkjbmaaZn01
set_option linter.unusedSimpArgs false
set_option linter.unusedVariables false

namespace Go.Proofs.Ytkippclhbkjbmaa
open Go.RowKit
attribute [local go_sem] add_lit

/-- Limbs that may be written: from place off of block g. -/
def MutL (w : World) (g off : Nat) (l : List Nat) : Prop := ∀ i, i < l.length → w.cell? ⟨g, off + i, none⟩ = some (limb (l[i]?.getD 0)) ∧ w.frozen? ⟨g, off + i, none⟩ = false
theorem MutL.set_ {w : World} {g off : Nat} {l : List Nat} (h : MutL w g off l) {i : Nat} (hi : i < l.length) (x : Nat) : MutL (w.setCell ⟨g, off + i, none⟩ (limb x)) g off (l.set i x) := fun j hj => by
  rw [List.length_set] at hj
  refine ⟨?_, by rw [World.frozen?_setCell]; exact (h j hj).2⟩
  by_cases hji : j = i
  · subst hji
    rw [getD_set_eq _ hi]
    exact World.cell?_setCell_same _ _ _ (h j hj).1
  · rw [getD_set_ne _ (fun e => hji e.symm), World.cell?_setCell_other _ _ _ _ (by intro e; injection e with e1 e2; omega)]
    exact (h j hj).1
theorem MutL.grown {w w' : World} {g g' off : Nat} {l : List Nat} (h : MutL w g off l) (hg : w.grownBy w' (some g')) (hne : g ≠ g') (hlt : g < w.heap.size) : MutL w' g off l := fun j hj =>
  ⟨(World.cell?_of_block (hg.block g hlt (fun e => hne (by injection e)))).trans (h j hj).1, (World.frozen?_of_block (hg.block g hlt (fun e => hne (by injection e)))).trans (h j hj).2⟩
theorem grownBy_set {w w' : World} {g o : Nat} {u : Value} (h : w.grownBy w' (some g)) : w.grownBy (w'.setCell ⟨g, o, none⟩ u) (some g) :=
  ⟨h.os, h.tape, h.output, by simpa using h.size, fun k hk hne => (Below.heap_setCell w' ⟨g, o, none⟩ u k (fun e => hne (by rw [e]))).trans (h.block k hk hne)⟩

/-- What 'subtract' has done behind i limbs. -/
def SubP (w : World) (g off n q : Nat) (u v : List Nat) (i cy b : Nat) (wr : World) : Prop :=
  ∃ l, MutL wr g off l ∧ l.length = n + 1 ∧ Lt32 l ∧ (∀ j, i ≤ j → l[j]?.getD 0 = u[j]?.getD 0) ∧ val (l.take i) + q * val (v.take i) = val (u.take i) + pw i * (cy + b) ∧ w.grownBy wr (some g)

theorem mulstep2 {c x y : Nat} (hc : c < 4294967296) (hx : x < 4294967296) (hy : y < 4294967296) :
    IntKind.u64.wrap ((c : Int) + IntKind.u64.wrap ((x : Int) * y)) = ((c + x * y : Nat) : Int) := by
  have h : x * y ≤ 4294967295 * 4294967295 := Nat.mul_le_mul (by omega) (by omega)
  have e : (x : Int) * y = ((x * y : Nat) : Int) := by simp
  rw [e]
  generalize x * y = t at *
  simp only [IntKind.wrap_u64]
  omega

set_option maxRecDepth 100000 in
set_option maxHeartbeats 1000000 in
theorem subtract_any (g off n c d q : Nat) (B : Option Addr) (u v : List Nat) (w : World) (hu : MutL w g off u) (hul : u.length = n + 1) (hut : Lt32 u) (hnc : n + 1 ≤ c) (hcm : c ≤ maxLen) (hn9 : n ≤ 1000000000)
    (hv : Lim w B n d v) (hB : ∀ b o, B = some ⟨b, o, none⟩ → b ≠ g) (hq : q < 4294967296) :
    Calls Try.prog 100 #[.slice (some ⟨g, off, none⟩) (n + 1) c, .slice B n d, .int .u32 q] w fun e w' => ∃ b l, b ≤ 1 ∧ e = .returned (.bool (decide (b = 0))) ∧ MutL w' g off l ∧ l.length = n + 1 ∧ Lt32 l ∧ val l + q * val v = val u + pw (n + 1) * b ∧ w.grownBy w' (some g) := by
  unfold maxLen at hcm
  have hnd := hv.2.1
  have hdm := hv.2.2.1
  unfold maxLen at hdm
  have hvl := hide hv.len
  replace hul := hide hul
  go_enter Try.func100, Try.ntmps100
  go_wp2
  go_loopw [14, 7, 8] (fun iv cv bv wr => ∃ i cy b : Nat, i ≤ n ∧ iv = .int .i64 i ∧ cy < 4294967296 ∧ cv = .int .u64 cy ∧ b ≤ 1 ∧ bv = limb b ∧ SubP w g off n q u v i cy b wr) (fun iv _ _ _ => n - (intOf iv).toNat)
  case atStart => exact ⟨0, 0, 0, Nat.zero_le _, rfl, by omega, rfl, Nat.zero_le _, rfl, u, hu, hul.out, hut, fun _ _ => rfl, by simp [val], World.grownBy.refl w _⟩
  case round =>
    obtain ⟨i, cy, b, hin, rfl, hcy, rfl, hb1, rfl, l, hl, hll, hlt, hsame, hI, hg⟩ := hrel
    replace hll := hide hll
    replace hsame := hide hsame
    replace hI := hide hI
    by_cases hi : i < n
    · obtain ⟨bb, ob, rfl, hcb⟩ := hv.at_ hi
      have hbg := hB bb ob rfl
      have hcb' := (World.cell?_of_block (a := ⟨bb, ob + i, none⟩) (hg.block bb (lt_of_cell hcb) (fun e => hbg (by injection e)))).trans hcb
      have hx := hv.lt.get i
      have hy := hut.get i
      obtain ⟨hcu, hfu⟩ := hl i (by rw [hll.out]; omega)
      rw [hsame.out i (Nat.le_refl _)] at hcu
      have hlen9 : i < l.length := by rw [hll.out]; omega
      go_wp2_with fail
      rw [mulstep2 hcy hq hx, cast_mod]
      have htb : cy + q * v[i]?.getD 0 < 18446744073709551616 := by
        have h : q * v[i]?.getD 0 ≤ 4294967295 * 4294967295 := Nat.mul_le_mul (by omega) (by omega)
        omega
      obtain ⟨t, ht⟩ : ∃ t, cy + q * v[i]?.getD 0 = t := ⟨_, rfl⟩
      rw [ht] at htb ⊢
      replace ht := hide ht
      refine (sub32_any _ (t % 4294967296) _ _ hy (Nat.mod_lt _ (by decide)) hb1).mono ?_
      rintro e w' ⟨dd, kk, rfl, hd, hk, he, rfl⟩
      replace he := hide he
      go_wp2_with fail
      go_roundw
      case rel =>
        rw [cast_div]
        refine ⟨i + 1, _, kk, by omega, by go_num, by omega, rfl, hk, rfl, l.set i dd, hl.set_ hlen9 dd, by rw [List.length_set]; exact hll.out, hlt.set i hd, fun j hj => ?_, ?_, grownBy_set hg⟩
        · rw [getD_set_ne _ (by omega)]; exact hsame.out j (by omega)
        · exact sub_step hlen9 hI.out (lo := t % 4294967296) (by rw [ht.out]; omega) (by have := he.out; omega)
      case measure => simp [intOf]; omega
    · obtain rfl : i = n := by omega
      have hy := hut.get i
      obtain ⟨hcu, hfu⟩ := hl i (by rw [hll.out]; omega)
      rw [hsame.out i (Nat.le_refl _)] at hcu
      have hlen9 : i < l.length := by rw [hll.out]; omega
      have hcc : ((cy : Int)) % 4294967296 = (cy : Int) := by omega
      go_wp2_with fail
      refine (sub32_any _ cy _ _ hy hcy hb1).mono ?_
      rintro e w' ⟨dd, kk, rfl, hd, hk, he, rfl⟩
      have hfin : Hid (val (l.set i dd) + q * val v = val u + pw (i + 1) * kk) := by
        have h1 := sub_step (v := v) (q := q) (lo := cy) (c := 0) hlen9 hI.out (by rw [getD_none (by rw [hvl.out]; exact Nat.le_refl _)]; omega) he
        rw [val_take_all (by rw [List.length_set, hll.out]; exact Nat.le_refl _), val_take_all (by rw [hvl.out]; omega), val_take_all (by rw [hul.out]; exact Nat.le_refl _), Nat.zero_add] at h1
        exact h1
      have hM := hl.set_ hlen9 dd
      have hL := hlt.set i hd
      have hG := grownBy_set (o := off + i) (u := limb dd) hg
      have hlen2 : Hid ((l.set i dd).length = i + 1) := by unfold Hid; rw [List.length_set]; exact hll.out
      replace he := hide he
      clear hl hlt
      rcases Nat.eq_zero_or_pos kk with rfl | h0
      · go_wp2_with fail
        go_returns
        exact ⟨0, _, by omega, rfl, hM, hlen2.out, hL, hfin.out, hG⟩
      · obtain rfl : kk = 1 := by omega
        go_wp2_with fail
        go_returns
        exact ⟨1, _, by omega, rfl, hM, hlen2.out, hL, hfin.out, hG⟩
end Go.Proofs.Ytkippclhbkjbmaa

namespace Go.Proofs.Ytkippclhbkjbmaa
open Go.RowKit
attribute [local go_sem] add_lit

/-- A row of limbs of the call's own may be written. -/
theorem OwnL.mut {t : TypeId} {w : World} {base : Nat} {v : Value} {l : List Nat} (h : OwnL t w base v l) (hn : 0 < l.length) : ∃ g cap, v = .slice (some ⟨g, 0, none⟩) l.length cap ∧ base ≤ g ∧ g < w.heap.size ∧ l.length ≤ cap ∧ cap ≤ maxLen ∧ MutL w g 0 l := by
  rcases h.1.2 with ⟨hv, h0⟩ | ⟨g, cap, cur, hv, hg, hh, hnc, hcm, hcs, ht⟩
  · omega
  · refine ⟨g, cap, hv, hg, (Array.getElem?_eq_some_iff.1 hh).1, hnc, hcm, fun k hk => ⟨?_, ?_⟩⟩
    · rw [Nat.zero_add, cell_of_row w g k cur t (0, 0) hh]
      have h3 : (cur.toList.take (l.length * 1))[k]? = (l.map limb)[k]? := by rw [ht]
      rw [List.getElem?_take, if_pos (by omega), List.getElem?_map, List.getElem?_eq_getElem hk] at h3
      rw [List.getElem?_eq_getElem hk]
      simpa using h3
    · rw [Nat.zero_add]
      unfold World.frozen?
      rw [hh]
      simp

/-- What 'Clone' hands back. -/
def CloneP (w : World) (l : List Nat) (e : Ending) (w' : World) : Prop :=
  ∃ v, e = .returned v ∧ OwnL 107 w' w.heap.size v l ∧ Below w.heap.size w w'

set_option maxRecDepth 100000 in
set_option maxHeartbeats 1000000 in
theorem clone_any (a : Addr) (n c : Nat) (l : List Nat) (w : World) (h : Reads w w.heap.size 1 (some a) n (l.map limb)) (hl : l.length = n) (hlt : Lt32 l) (hn9 : n ≤ 1000000000) (hnc : n ≤ c) (hcm : c ≤ maxLen) :
    Calls Try.prog 79 #[.slice (some a) n c] w (CloneP w l) := by
  obtain ⟨i0, hi, hz0, hz1, hz2⟩ := info_parts info32
  unfold maxLen at hcm
  replace hl := hide hl
  have hcmp : ∀ W, (binOp BinOp.eql 25 (.slice (some a) n c) (.slice none 0 0)).run Try.prog W = .ok (.bool false) W := fun _ => by kernel_rfl
  go_enter Try.func79, Try.ntmps79
  go_wp2_with (go_loud (at_builtin; refine wpList_append_any _ rfl (.tmp 5) (.tmp 6) 25 rfl w.heap.size 107 i0 _ 1 4 Try.underlying25 hi hz0 hz1 hz2 rfl (by omega) (.slice (some ⟨w.heap.size, 0, none⟩) 0 0) 0 [] rfl (own_empty _ _ _) _ (some a) n c (l.map limb) rfl (by exact h.alloc (Nat.le_refl _) _) (oneCell_limbs _) (by simp only [maxLen]; omega) (by omega) (by simp) ?_; intro v1 w1 hown1 hg1 hat1))
  go_ret
  have h2 : OwnL 107 w1 w.heap.size v1 ([] ++ l) := OwnL.append (l := []) rfl hl.out.symm hown1 Lt32.nil hlt
  exact ⟨v1, rfl, h2, ((Below.refl _ _).alloc (Nat.le_refl _) _).grown hg1 (by simp) (fun j hj => by simp [Value.ownBlock] at hj; omega)⟩
set_option maxRecDepth 100000 in
set_option maxHeartbeats 400000 in
theorem clone_none (c : Nat) (w : World) : Calls Try.prog 79 #[.slice none 0 c] w (CloneP w []) := by
  have hcmp : ∀ W, (binOp BinOp.eql 25 (.slice none 0 c) (.slice none 0 0)).run Try.prog W = .ok (.bool true) W := fun _ => by kernel_rfl
  go_enter Try.func79, Try.ntmps79
  go_wp2
  go_ret
  exact ⟨_, rfl, OwnL.nil _ _ _, Below.refl _ _⟩
/-- A slice that holds limbs, cloned. -/
theorem clone_lim (A : Option Addr) (n c : Nat) (l : List Nat) (w : World) (h : Lim w A n c l) (hn9 : n ≤ 1000000000) :
    Calls Try.prog 79 #[.slice A n c] w (CloneP w l) := by
  rcases A with _ | a
  · have hn : n = 0 := by
      rcases Nat.eq_zero_or_pos n with h0 | h0
      · exact h0
      · obtain ⟨b, o, e, _⟩ := h.2.2.2.2 h0
        cases e
    subst hn
    obtain rfl : l = [] := List.eq_nil_of_length_eq_zero h.len
    exact clone_none c w
  · exact clone_any a n c l w h.reads h.len h.lt hn9 h.2.1 h.2.2.1
end Go.Proofs.Ytkippclhbkjbmaa

namespace Go.Proofs.Ytkippclhbkjbmaa
open Go.RowKit
attribute [local go_sem] add_lit

set_option maxRecDepth 100000 in
set_option maxHeartbeats 1000000 in
theorem div32_any (x y d : Nat) (w : World) (hx : x < d) (hy : y < 4294967296) (hd : d < 4294967296) :
    Calls Try.prog 98 #[limb x, limb y, limb d] w fun e w' => e = .returned (.tuple #[limb ((x * 4294967296 + y) / d), limb ((x * 4294967296 + y) % d)]) ∧ w' = w.drew := by
  have d1 : ((d : Int) == 0) = false := by simp; omega
  have d2 : decide ((d : Int) ≤ (x : Int)) = false := by simp; omega
  have d3 : (d : Int) ≠ 0 := by omega
  have d2' : decide (d ≤ x) = false := by simp; omega
  obtain ⟨t, ht⟩ : ∃ t, x * 4294967296 + y = t := ⟨_, rfl⟩
  have hor : bits .or .u64 ((x : Int) * 4294967296) (y : Int) = (t : Int) := by
    have h1 : ((x : Int) * 4294967296) = ((4294967296 * x : Nat) : Int) := by omega
    rw [h1, u64_or_nat _ _ (by omega) (by omega)]
    have h2 := Nat.two_pow_add_eq_or_of_lt (i := 32) (b := y) (by omega) x
    rw [show (2 : Nat) ^ 32 = 4294967296 by rfl] at h2
    rw [← h2]
    omega
  have hq : t / d < 4294967296 := by rw [Nat.div_lt_iff_lt_mul (by omega)]; have := Nat.mul_le_mul_left 4294967296 (show x + 1 ≤ d by omega); omega
  have hr : t % d < d := Nat.mod_lt _ (by omega)
  have htb : t < 18446744073709551616 := by omega
  rw [ht]
  replace ht := hide ht
  go_enter Try.func98, Try.ntmps98
  go_wp2_with fail
  go_region
  have e1 : IntKind.u64.wrap ((t : Int) / (d : Int)) % 4294967296 = ((t / d : Nat) : Int) := by
    rw [show (t : Int) / (d : Int) = ((t / d : Nat) : Int) from rfl]
    generalize t / d = z at *
    simp only [IntKind.wrap_u64]
    omega
  go_wp2_with fail
  go_ret2
  exact ⟨ret_pair32 e1 rfl, rfl⟩
end Go.Proofs.Ytkippclhbkjbmaa

namespace Go.Proofs.Ytkippclhbkjbmaa

theorem drop_val6 {l : List Nat} {k : Nat} (h : k < l.length) : val (l.drop k) = l[k]?.getD 0 + 4294967296 * val (l.drop (k + 1)) := by
  rw [List.drop_eq_getElem_cons h, val, List.getElem?_eq_getElem h]; rfl
theorem div_of {U V q R : Nat} (h : R + q * V = U) (hR : R < V) : q = U / V ∧ R = U % V := by
  subst h
  have hV : 0 < V := by omega
  constructor
  · rw [Nat.add_mul_div_right _ _ hV, Nat.div_eq_of_lt hR, Nat.zero_add]
  · rw [Nat.add_mul_mod_self_right, Nat.mod_eq_of_lt hR]
/-- A multiple that is not too great, of a guess that is not too small. -/
theorem guess_hit {U V q W : Nat} (hV : 0 < V) (h : W + q * V = U) (hq : U / V ≤ q) : q = U / V ∧ W = U % V := by
  have h1 : q ≤ U / V := by rw [Nat.le_div_iff_mul_le hV]; omega
  have h2 : q = U / V := by omega
  refine ⟨h2, ?_⟩
  have h3 := Nat.div_add_mod U V
  rw [← h2, Nat.mul_comm V q] at h3
  omega
/-- A multiple that is too great: the guess less 1 is not too small. -/
theorem guess_miss {U V q W M : Nat} (hV : 0 < V) (h : W + q * V = U + M) (hW : W < M) : U / V < q := by
  rw [Nat.div_lt_iff_lt_mul hV]; omega

/-- One step of a division from the highest limb down. -/
theorem down_step {out l : List Nat} {k D r q r' : Nat} (ho : k < out.length) (hl : k < l.length) (hI : val (out.drop (k + 1)) * D + r = val (l.drop (k + 1))) (he : q * D + r' = r * 4294967296 + l[k]?.getD 0) :
    val ((out.set k q).drop k) * D + r' = val (l.drop k) := by
  rw [drop_val6 (l := out.set k q) (by rw [List.length_set]; exact ho), getD_set_eq _ ho, List.drop_set_of_lt (by omega), drop_val6 hl, Nat.add_mul, ← hI, Nat.mul_add, Nat.mul_assoc]
  omega

/-- One step of moving to the right. -/
theorem shr_step {r : List Nat} {i s : Nat} (hs : s ≤ 32) (hi : i < r.length) (hlt : Lt32 r) :
    val (r.drop i) / 2 ^ s = (r[i]?.getD 0 + 4294967296 * r[i + 1]?.getD 0) / 2 ^ s % 4294967296 + 4294967296 * (val (r.drop (i + 1)) / 2 ^ s) := by
  have hp : 0 < 2 ^ s := Nat.pow_pos (by omega)
  have e1 : val (r.drop i) = r[i]?.getD 0 + 4294967296 * val (r.drop (i + 1)) := drop_val6 hi
  obtain ⟨t, e2⟩ : ∃ t, val (r.drop (i + 1)) = r[i + 1]?.getD 0 + 4294967296 * t := by
    rcases Nat.lt_or_ge (i + 1) r.length with h | h
    · exact ⟨_, drop_val6 h⟩
    · exact ⟨0, by rw [List.drop_of_length_le h, getD_none h]; rfl⟩
  have hx := hlt.get i
  have hq : (4294967296 : Nat) = 2 ^ s * 2 ^ (32 - s) := by rw [← Nat.pow_add, show s + (32 - s) = 32 by omega]
  have hb : 4294967296 * (val (r.drop (i + 1)) / 2 ^ s) = 4294967296 * (val (r.drop i) / 2 ^ s / 4294967296) := by
    congr 1
    rw [Nat.div_div_eq_div_mul, Nat.mul_comm (2 ^ s), ← Nat.div_div_eq_div_mul, e1]
    congr 1
    omega
  have ha : (r[i]?.getD 0 + 4294967296 * r[i + 1]?.getD 0) / 2 ^ s % 4294967296 = val (r.drop i) / 2 ^ s % 4294967296 := by
    rw [e1, e2]
    have : r[i]?.getD 0 + 4294967296 * (r[i + 1]?.getD 0 + 4294967296 * t) = (r[i]?.getD 0 + 4294967296 * r[i + 1]?.getD 0) + 2 ^ s * (2 ^ (32 - s) * t * 4294967296) := by
      have : 2 ^ s * (2 ^ (32 - s) * t * 4294967296) = (2 ^ s * 2 ^ (32 - s)) * t * 4294967296 := by grind
      rw [this, ← hq]; omega
    rw [this, Nat.add_mul_div_left _ _ hp, Nat.add_mul_mod_self_right]
  rw [ha, hb]
  omega

/-- A list of limbs with some of them exchanged. -/
def splice (u : List Nat) (k : Nat) (l : List Nat) : List Nat := u.take k ++ l ++ u.drop (k + l.length)
theorem splice_length {u l : List Nat} {k : Nat} (h : k + l.length ≤ u.length) : (splice u k l).length = u.length := by
  unfold splice; simp; omega
theorem splice_lt {u l : List Nat} {k : Nat} (hu : Lt32 u) (hl : Lt32 l) : Lt32 (splice u k l) := ((hu.take _).append hl).append (hu.drop _)
theorem splice_in {u l : List Nat} {k i : Nat} (h : k + l.length ≤ u.length) (hi : i < l.length) : (splice u k l)[k + i]?.getD 0 = l[i]?.getD 0 := by
  unfold splice
  rw [List.getElem?_append_left (by simp; omega), List.getElem?_append_right (by simp; omega), List.length_take, Nat.min_eq_left (by omega), show k + i - k = i by omega]
theorem splice_out {u l : List Nat} {k j : Nat} (h : k + l.length ≤ u.length) (hj : j < k ∨ k + l.length ≤ j) : (splice u k l)[j]?.getD 0 = u[j]?.getD 0 := by
  unfold splice
  rcases hj with hj | hj
  · rw [List.append_assoc, List.getElem?_append_left (by simp; omega), List.getElem?_take, if_pos hj]
  · rw [List.getElem?_append_right (by simp; omega), List.getElem?_drop]
    congr 2
    simp; omega

/-- What a division's loop keeps: places from j on are done. -/
def DivI (A V n : Nat) (u q : List Nat) (j : Nat) : Prop :=
  Lt32 u ∧ Lt32 q ∧ u.length = q.length + n ∧ j ≤ q.length ∧ val u + V * val q = A ∧ val (u.drop j) < V ∧ ∀ i, i < j → q[i]?.getD 0 = 0

theorem DivI.win {A V n : Nat} {u q : List Nat} {k : Nat} (h : DivI A V n u q (k + 1)) (hV : V ≤ pw n) : val ((u.drop k).take (n + 1)) = val (u.drop k) ∧ val (u.drop k) < 4294967296 * V := by
  obtain ⟨h1, h2, h3, h4, h5, h6, h7⟩ := h
  have e := drop_val6 (l := u) (k := k) (by omega)
  have hx := h1.get k
  have hlt : val (u.drop k) < 4294967296 * V := by omega
  refine ⟨?_, hlt⟩
  have e2 := val_take_drop (u.drop k) (n + 1) (by simp; omega)
  rcases Nat.eq_zero_or_pos (val ((u.drop k).drop (n + 1))) with h0 | h0
  · rw [h0] at e2; omega
  · have := Nat.mul_le_mul_left (pw (n + 1)) h0
    rw [pw_succ] at this e2
    have := Nat.mul_le_mul_left 4294967296 hV
    omega

theorem DivI.step {A V n : Nat} {u q l : List Nat} {k Q : Nat} (h : DivI A V n u q (k + 1)) (hV : V ≤ pw n) (hll : l.length = n + 1) (hl : Lt32 l) (hQ : Q < 4294967296)
    (hq : Q = val ((u.drop k).take (n + 1)) / V) (hr : val l = val ((u.drop k).take (n + 1)) % V) : DivI A V n (splice u k l) (q.set k Q) k := by
  obtain ⟨hw, hlt⟩ := h.win hV
  obtain ⟨h1, h2, h3, h4, h5, h6, h7⟩ := h
  have hV0 : 0 < V := by omega
  have hk : k + l.length ≤ u.length := by omega
  have ed : (splice u k l).drop k = l ++ u.drop (k + l.length) := by
    unfold splice
    rw [List.append_assoc, List.drop_append_of_le_length (by simp; omega), List.drop_of_length_le (by simp; omega), List.nil_append]
  have e0 : val (u.drop (k + l.length)) = 0 := by
    have e2 := val_take_drop (u.drop k) (n + 1) (by simp; omega)
    rw [hw, List.drop_drop, ← hll] at e2
    rcases Nat.eq_zero_or_pos (val (u.drop (k + l.length))) with h0 | h0
    · exact h0
    · have := Nat.mul_le_mul_left (pw l.length) h0
      have := pw_pos l.length
      omega
  have hvd : val ((splice u k l).drop k) = val l := by rw [ed, val_append, e0]; omega
  refine ⟨splice_lt h1 hl, h2.set k hQ, by rw [splice_length hk, List.length_set]; exact h3, by rw [List.length_set]; omega, ?_, by rw [hvd, hr]; exact Nat.mod_lt _ hV0, fun i hi => by rw [getD_set_ne _ (by omega)]; exact h7 i (by omega)⟩
  have e3 := val_take_drop (splice u k l) k (by rw [splice_length hk]; omega)
  have e4 := val_take_drop u k (by omega)
  have e5 : (splice u k l).take k = u.take k := by
    unfold splice
    rw [List.append_assoc, List.take_append_of_le_length (by simp; omega), List.take_of_length_le (by simp; omega)]
  have e6 := val_set (l := q) (k := k) (by omega) Q
  rw [h7 k (by omega), Nat.mul_zero, Nat.add_zero] at e6
  have e7 := Nat.div_add_mod (val ((u.drop k).take (n + 1))) V
  rw [← hq, ← hr, hw] at e7
  rw [e3, e5, hvd, e6, Nat.mul_add]
  rw [e4, ← e7, Nat.mul_add] at h5
  have : V * (pw k * Q) = pw k * (V * Q) := by grind
  omega

/-- The start of a division's loop. -/
theorem DivI.start {a b : List Nat} {u : List Nat} {s n : Nat} (hu : val u = 2 ^ s * val a) (hul : u.length = a.length + 1) (hult : Lt32 u) (hn : n ≤ a.length) (halt : Lt32 a) (hb : pw (n - 1) ≤ val b) (hn0 : 0 < n) :
    DivI (2 ^ s * val a) (2 ^ s * val b) n u (List.replicate (a.length + 1 - n) 0) (a.length + 1 - n) := by
  refine ⟨hult, Lt32.replicate _, by simp; omega, by simp, by rw [val_replicate, hu]; simp, ?_, fun i _ => getD_replicate _ _⟩
  have e1 := val_take_drop u (a.length + 1 - n) (by omega)
  have e2 := val_lt halt
  have e3 : pw a.length = pw (a.length + 1 - n) * pw (n - 1) := by rw [← pw_add]; congr 1; omega
  have hp : 0 < 2 ^ s := Nat.pow_pos (by omega)
  have e4 : 2 ^ s * val a < 2 ^ s * pw a.length := Nat.mul_lt_mul_of_pos_left e2 hp
  have e5 : 2 ^ s * pw (n - 1) ≤ 2 ^ s * val b := Nat.mul_le_mul_left _ hb
  have e6 : pw (a.length + 1 - n) * val (u.drop (a.length + 1 - n)) < pw (a.length + 1 - n) * (2 ^ s * pw (n - 1)) := by
    have : pw (a.length + 1 - n) * (2 ^ s * pw (n - 1)) = 2 ^ s * pw a.length := by rw [e3]; grind
    omega
  have := Nat.lt_of_mul_lt_mul_left e6
  omega
/-- The end of it. -/
theorem DivI.stop {a b : Nat} {u q : List Nat} {s n : Nat} (h : DivI (2 ^ s * a) (2 ^ s * b) n u q 0) : val q = a / b ∧ val u = 2 ^ s * (a % b) := by
  obtain ⟨h1, h2, h3, h4, h5, h6, h7⟩ := h
  rw [List.drop_zero] at h6
  have hp : 0 < 2 ^ s := Nat.pow_pos (by omega)
  obtain ⟨e1, e2⟩ := div_of (U := 2 ^ s * a) (V := 2 ^ s * b) (q := val q) (R := val u) (by rw [Nat.mul_comm (val q)]; exact h5) h6
  rw [Nat.mul_div_mul_left _ _ hp] at e1
  rw [Nat.mul_mod_mul_left] at e2
  exact ⟨e1, e2⟩

theorem pw_le_val {l : List Nat} (h : 0 < l.length) (h' : l[l.length - 1]?.getD 0 ≠ 0) : pw (l.length - 1) ≤ val l := by
  have e := val_take_drop l (l.length - 1) (by omega)
  rw [drop_val6 (by omega)] at e
  have : 1 ≤ l[l.length - 1]?.getD 0 + 4294967296 * val (l.drop (l.length - 1 + 1)) := by omega
  have := Nat.mul_le_mul_left (pw (l.length - 1)) this
  omega
theorem top_ne_of_digits {v : Nat} (h : 0 < (digits v).length) : (digits v)[(digits v).length - 1]?.getD 0 ≠ 0 := by
  intro h0
  have h1 := digits_getLast v
  rw [List.getLast?_eq_getElem?] at h1
  rw [List.getElem?_eq_getElem (by omega)] at h1 h0
  simp at h0
  rw [h0] at h1
  exact h1 rfl
/-- The highest limb against the whole. -/
theorem top_le {v : List Nat} {n : Nat} (hn : v.length = n) (h0 : 0 < n) : v[n - 1]?.getD 0 * pw (n - 1) ≤ val v := by
  have e := val_take_drop v (n - 1) (by omega)
  rw [drop_val6 (by omega)] at e
  rw [Nat.mul_add] at e
  rw [Nat.mul_comm]
  omega
/-- Two limbs from above. -/
theorem top2_lt {u : List Nat} {n : Nat} (hn : u.length = n + 1) (h0 : 0 < n) (hlt : Lt32 u) : val u < (u[n]?.getD 0 * 4294967296 + u[n - 1]?.getD 0 + 1) * pw (n - 1) := by
  have e := val_take_drop u (n - 1) (by omega)
  rw [drop_val6 (by omega), show n - 1 + 1 = n by omega, drop_val6 (by omega), List.drop_of_length_le (by omega)] at e
  have h1 := val_lt (hlt.take (n - 1))
  rw [List.length_take, Nat.min_eq_left (by omega)] at h1
  rw [e]
  simp only [val]
  have : (u[n]?.getD 0 * 4294967296 + u[n - 1]?.getD 0 + 1) * pw (n - 1) = pw (n - 1) * (u[n - 1]?.getD 0 + 4294967296 * (u[n]?.getD 0 + 4294967296 * 0)) + pw (n - 1) := by grind
  omega
/-- Three limbs from above, against two of the divisor. -/
theorem top2_le {v : List Nat} {n : Nat} (hn : v.length = n) (h0 : 1 < n) : (v[n - 1]?.getD 0 * 4294967296 + v[n - 2]?.getD 0) * pw (n - 2) ≤ val v := by
  have e := val_take_drop v (n - 2) (by omega)
  rw [drop_val6 (by omega), show n - 2 + 1 = n - 1 by omega, drop_val6 (by omega)] at e
  have : (v[n - 1]?.getD 0 * 4294967296 + v[n - 2]?.getD 0) * pw (n - 2) ≤ pw (n - 2) * (v[n - 2]?.getD 0 + 4294967296 * (v[n - 1]?.getD 0 + 4294967296 * val (v.drop (n - 1 + 1)))) := by
    rw [Nat.mul_comm]; exact Nat.mul_le_mul_left _ (by omega)
  omega
theorem top3_lt {u : List Nat} {n : Nat} (hn : u.length = n + 1) (h0 : 1 < n) (hlt : Lt32 u) : val u < ((u[n]?.getD 0 * 4294967296 + u[n - 1]?.getD 0) * 4294967296 + u[n - 2]?.getD 0 + 1) * pw (n - 2) := by
  have e := val_take_drop u (n - 2) (by omega)
  rw [drop_val6 (by omega), show n - 2 + 1 = n - 1 by omega, drop_val6 (by omega), show n - 1 + 1 = n by omega, drop_val6 (by omega), List.drop_of_length_le (by omega)] at e
  have h1 := val_lt (hlt.take (n - 2))
  rw [List.length_take, Nat.min_eq_left (by omega)] at h1
  rw [e]
  simp only [val]
  have : ((u[n]?.getD 0 * 4294967296 + u[n - 1]?.getD 0) * 4294967296 + u[n - 2]?.getD 0 + 1) * pw (n - 2) = pw (n - 2) * (u[n - 2]?.getD 0 + 4294967296 * (u[n - 1]?.getD 0 + 4294967296 * (u[n]?.getD 0 + 4294967296 * 0))) + pw (n - 2) := by grind
  omega
end Go.Proofs.Ytkippclhbkjbmaa

namespace Go.Proofs.Ytkippclhbkjbmaa
open Go.RowKit
attribute [local go_sem] add_lit

theorem MutL.reads {w : World} {g off : Nat} {l : List Nat} (h : MutL w g off l) : Reads w w.heap.size 1 (some ⟨g, off, none⟩) l.length (l.map limb) :=
  ⟨by simp, fun hn => ⟨_, rfl, by have := lt_of_cell (h 0 hn).1; exact this, fun j u hu => by
    rw [add_lit]
    have hj : j < l.length := by
      rcases Nat.lt_or_ge j l.length with h' | h'
      · exact h'
      · rw [List.getElem?_eq_none (by simpa using h')] at hu; cases hu
    rw [(h j hj).1]
    rw [List.getElem?_map, List.getElem?_eq_getElem hj] at hu
    rw [List.getElem?_eq_getElem hj]
    simpa using hu⟩⟩
theorem MutL.below {w w' : World} {g off : Nat} {l : List Nat} (h : MutL w g off l) (hb : Below w.heap.size w w') : MutL w' g off l := fun j hj =>
  ⟨keep_cell hb (h j hj).1, keep_frozen hb (h j hj).1 (h j hj).2⟩
theorem MutL.drew {w : World} {g off : Nat} {l : List Nat} (h : MutL w g off l) : MutL w.drew g off l := h
theorem MutL.win {w : World} {g off : Nat} {l : List Nat} (h : MutL w g off l) {k n : Nat} (hk : k + n ≤ l.length) : MutL w g (off + k) ((l.drop k).take n) := fun j hj => by
  rw [List.length_take, List.length_drop] at hj
  have := h (k + j) (by omega)
  rw [List.getElem?_take, if_pos (by omega), List.getElem?_drop, Nat.add_assoc]
  exact this
/-- Cells written over. -/
theorem MutL.splice {w : World} {g : Nat} {u l : List Nat} {k : Nat} (h : MutL w g 0 u) (hk : k + l.length ≤ u.length) : MutL (w.setCells g k (l.map limb)) g 0 (splice u k l) := fun j hj => by
  rw [splice_length hk] at hj
  obtain ⟨h1, h2⟩ := h j hj
  rw [Nat.zero_add] at h1 h2 ⊢
  refine ⟨?_, by rw [World.frozen?_setCells]; exact h2⟩
  by_cases hin : k ≤ j ∧ j < k + l.length
  · obtain ⟨i, rfl⟩ : ∃ i, j = k + i := ⟨j - k, by omega⟩
    rw [splice_in hk (by omega)]
    have := World.cell?_setCells_in g (l.map limb) k w (fun i hi => by
      rw [List.length_map] at hi
      have := (h (k + i) (by omega)).1
      rw [Nat.zero_add] at this
      rw [this]; rfl) i (by rw [List.length_map]; omega)
    rw [this]
    simp [List.getElem?_eq_getElem (show i < l.length by omega)]
  · rw [splice_out hk (by omega), World.cell?_setCells_out g _ k w _ (fun _ _ => by rw [List.length_map]; simp only []; omega)]
    exact h1
theorem grownBy_setCells {w w' : World} {g o : Nat} {us : List Value} (h : w.grownBy w' (some g)) : w.grownBy (w'.setCells g o us) (some g) := by
  induction us generalizing o w' with
  | nil => exact h
  | cons u us ih => exact ih (grownBy_set h)
theorem size_setCells (w : World) (g o : Nat) (us : List Value) : (w.setCells g o us).heap.size = w.heap.size := by
  induction us generalizing o w with
  | nil => rfl
  | cons u us ih => rw [World.setCells, ih]; simp

theorem quiet_add {P : Program} {f : FuncId} {args : Array Value} {w : World} {a n : Nat} {v : Value}
    (h : Calls P f args (w.drewN (a + n)) fun e w' => e = .returned v ∧ ∃ m, w' = (w.drewN (a + n)).drewN m) :
    Calls P f args (w.drewN (a + n)) fun e w'' => e = .returned v ∧ ∃ m, w'' = w.drewN (a + m) :=
  h.mono fun _ _ ⟨he, m, hm⟩ => ⟨he, n + m, by rw [hm, World.drewN_drewN, Nat.add_assoc]⟩
theorem div32_q (x y d : Nat) (w : World) (hx : x < d) (hy : y < 4294967296) (hd : d < 4294967296) :
    Calls Try.prog 98 #[limb x, limb y, limb d] w fun e w' => e = .returned (.tuple #[limb ((x * 4294967296 + y) / d), limb ((x * 4294967296 + y) % d)]) ∧ ∃ m, w' = w.drewN m :=
  (div32_any x y d w hx hy hd).mono fun _ _ ⟨he, hm⟩ => ⟨he, 1, hm⟩

/-- What 'step' hands back: a limb of the quotient; the rest stands where the dividend stood. -/
def StepP (w : World) (g off : Nat) (u v : List Nat) (e : Ending) (w' : World) : Prop :=
  ∃ l w1, e = .returned (limb (val u / val v)) ∧ l.length = u.length ∧ Lt32 l ∧ val l = val u % val v ∧ Below w.heap.size w w1 ∧ w' = w1.setCells g off (l.map limb)

set_option maxRecDepth 100000 in
set_option maxHeartbeats 2000000 in
theorem step_any (g off n c d : Nat) (B : Option Addr) (u v : List Nat) (w : World) (hu : MutL w g off u) (hul : u.length = n + 1) (hut : Lt32 u) (hnc : n + 1 ≤ c) (hcm : c ≤ maxLen) (hn9 : n ≤ 1000000) (hn0 : 0 < n)
    (hv : Lim w B n d v) (hlt : val u < 4294967296 * val v) (htop : v[n - 1]?.getD 0 ≠ 0) :
    Calls Try.prog 90 #[.slice (some ⟨g, off, none⟩) (n + 1) c, .slice B n d] w (StepP w g off u v) := by
  unfold maxLen at hcm
  have hnd := hv.2.1
  have hdm := hv.2.2.1
  unfold maxLen at hdm
  have hvl := hv.len
  obtain ⟨bv, ov, rfl, hcv⟩ := hv.at_ (k := n - 1) (by omega)
  have hV : 0 < val v := by
    rcases Nat.eq_zero_or_pos (val v) with h0 | h0
    · rw [h0] at hlt; omega
    · exact h0
  obtain ⟨q, hq⟩ : ∃ q, val u / val v = q := ⟨_, rfl⟩
  have hqlt : q < 4294967296 := by rw [← hq, Nat.div_lt_iff_lt_mul hV]; exact hlt
  have hun := hut.get n
  have hun1 := hut.get (n - 1)
  have hvn := hv.lt.get (n - 1)
  have hcu := hu n (by omega)
  have hcu1 := hu (n - 1) (by omega)
  have hguess : u[n]?.getD 0 < v[n - 1]?.getD 0 → q ≤ (u[n]?.getD 0 * 4294967296 + u[n - 1]?.getD 0) / v[n - 1]?.getD 0 := fun _ => by
    rw [← hq]
    exact div_guess (by omega) (top_le hvl hn0) (top2_lt hul hn0 hut)
  have hglt : u[n]?.getD 0 < v[n - 1]?.getD 0 → (u[n]?.getD 0 * 4294967296 + u[n - 1]?.getD 0) / v[n - 1]?.getD 0 < 4294967296 := fun h => by
    rw [Nat.div_lt_iff_lt_mul (by omega)]
    have := Nat.mul_le_mul_left 4294967296 (show u[n]?.getD 0 + 1 ≤ v[n - 1]?.getD 0 by omega)
    omega
  have HQ := hide hq
  have hfull := hide hul
  have hvl' := hide hvl
  clear hq hul hvl
  have hfz := hcu.1
  have hfz1 := hcu1.1
  obtain ⟨x, hx⟩ : ∃ x, u[n]?.getD 0 = x := ⟨_, rfl⟩
  obtain ⟨y, hy⟩ : ∃ y, u[n - 1]?.getD 0 = y := ⟨_, rfl⟩
  obtain ⟨z, hz⟩ : ∃ z, v[n - 1]?.getD 0 = z := ⟨_, rfl⟩
  rw [hx] at hun hfz
  rw [hy] at hun1 hfz1
  rw [hz] at hvn hcv htop
  rw [hx, hy, hz] at hguess hglt
  clear hx hy hz hcu hcu1
  by_cases hc : x < z
  all_goals
    first
    | (have hc' : decide (x < z) = true := by simpa using hc)
    | (have hc' : decide (x < z) = false := by simpa using hc)
    go_enter Try.func90, Try.ntmps90
    go_wp2_with fail
    go_quiet (fail)
    go_wp2_with fail
    first
    | (go_quiet ((go_at_call 98; exact quiet_add (div32_q _ _ _ _ hc hun1 hvn))))
    | skip
    go_wp2_with fail
    go_loopw [6] (fun gv wr => ∃ gs : Nat, gv = limb gs ∧ q ≤ gs ∧ gs < 4294967296 ∧ Below w.heap.size w wr) (fun gv _ => (intOf gv).toNat)
    case atStart => first | exact ⟨_, rfl, hguess hc, hglt hc, below_dn (below_dn (Below.refl _ _) _) _⟩ | exact ⟨4294967295, rfl, by omega, by omega, below_dn (Below.refl _ _) _⟩
    case round =>
      obtain ⟨gs, rfl, hg1, hg2, hB⟩ := hrel
      clear hguess hglt hfz hfz1
      have huM := hu.below hB
      have hvL := hv.below hB
      have hbv : bv < wr.heap.size := Nat.lt_of_lt_of_le (lt_of_cell hcv) hB.size
      have hgw : g < wr.heap.size := Nat.lt_of_lt_of_le (lt_of_cell (hu 0 (by rw [hfull.out]; omega)).1) hB.size
      have hrd : Reads wr wr.heap.size 1 (some ⟨g, off, none⟩) (n + 1) (u.map limb) := by have := huM.reads; rw [hfull.out] at this; exact this
      go_wp2_with fail
      refine (clone_any ⟨g, off, none⟩ (n + 1) c u _ hrd hfull.out hut (by omega) hnc (by unfold maxLen; omega)).mono ?_
      rintro e w1 ⟨v1, rfl, hown, hb1⟩
      obtain ⟨g1, cap1, hv1, hg1', hg1s, hl1, hc1, hM1⟩ := hown.mut (by rw [hfull.out]; omega)
      rw [hfull.out] at hv1 hl1
      subst hv1
      go_wp2_with fail
      refine (subtract_any g1 0 n cap1 d gs (some ⟨bv, ov, none⟩) u v _ hM1 hfull.out hut hl1 hc1 (by omega) (hvL.below hb1) (fun b o e => by injection e with e; injection e with e1 e2; omega) hg2).mono ?_
      rintro e w2 ⟨b, l, hb01, rfl, hM2, hll, hlt2, hI, hgr⟩
      have hB2 : Below w.heap.size w w2 := (hB.trans (hb1.mono hB.size)).grown hgr (by have := hb1.size; have := hB.size; omega) (fun j hj => by injection hj with hj; have := hB.size; omega)
      rcases Nat.eq_zero_or_pos b with rfl | hb0
      · obtain ⟨hit1, hit2⟩ := guess_hit (U := val u) (q := gs) (W := val l) hV (by rw [Nat.mul_zero] at hI; exact hI) (by rw [HQ.out]; exact hg1)
        have hcopy : ∀ ty, (Builtin.copy_ #[25, 25] ty #[.slice (some ⟨g, off, none⟩) (n + 1) c, .slice (some ⟨g1, 0, none⟩) (n + 1) cap1]).run Try.prog w2 = .ok (goInt ((n + 1 : Nat) : Int)) (w2.setCells g off (l.map limb)) := fun ty => by
          obtain ⟨i0, hi, hz0, hz1, hz2⟩ := info_parts info32
          have h := run_copy_cells (P := Try.prog) w2 25 25 ty 107 g off (n + 1) c ⟨g1, 0, none⟩ (n + 1) cap1 (l.map limb) Try.underlying25 (by rw [hi]; simp [hz1]) (by rw [List.length_map, hll]; exact (Nat.min_self _).symm)
            (fun j x hx => by
              have hj : j < l.length := by
                rcases Nat.lt_or_ge j l.length with h' | h'
                · exact h'
                · rw [List.getElem?_eq_none (by simpa using h')] at hx; cases hx
              rw [add_lit, (hM2 j hj).1]
              rw [List.getElem?_map, List.getElem?_eq_getElem hj] at hx
              rw [List.getElem?_eq_getElem hj]
              simpa using hx)
            (fun j hj => by
              rw [List.length_map, hll] at hj
              have h3 := (huM j (by rw [hfull.out]; exact hj)).1
              have h4 := keep_cell hb1 h3
              rw [(World.cell?_of_block (a := ⟨g, off + j, none⟩) (hgr.block g (by have := hb1.size; omega) (fun e => by injection e with e; omega))), h4]; rfl)
            (fun j hj => by
              rw [List.length_map, hll] at hj
              have h3 := huM j (by rw [hfull.out]; exact hj)
              have h4 := keep_frozen hb1 h3.1 h3.2
              rw [(World.frozen?_of_block (a := ⟨g, off + j, none⟩) (hgr.block g (by have := hb1.size; omega) (fun e => by injection e with e; omega))), h4])
            (oneCell_limbs l)
          rw [List.length_map, hll] at h
          exact h
        have hP : StepP w g off u v (.returned (limb gs)) (w2.setCells g off (l.map limb)) := ⟨l, w2, by rw [hit1], by rw [hll, hfull.out], hlt2, hit2, hB2, rfl⟩
        replace hP := hide hP
        clear hit1 hit2 hI hll
        go_wp2_with fail
        go_ret
        exact hP.out
      · obtain rfl : b = 1 := by omega
        have hmiss : q < gs := by
          have := guess_miss (q := gs) (W := val l) (M := pw (n + 1)) hV (by rw [Nat.mul_one] at hI; exact hI) (by have := val_lt hlt2; rw [hll] at this; exact this)
          rw [HQ.out] at this; exact this
        clear hI hll
        go_wp2_with fail
        go_roundw
        case rel => exact ⟨gs - 1, by go_num, by omega, by omega, hB2⟩
        case measure => simp [intOf]; omega
end Go.Proofs.Ytkippclhbkjbmaa
