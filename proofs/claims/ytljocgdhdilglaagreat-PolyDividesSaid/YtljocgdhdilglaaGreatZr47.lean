/- Centroids: sums over a list of pixels, moments about a centre; sizes of fractions (plain). Sizes of polynomials: sums, products, derivatives, values (plain). slices.Backward over numbers: from the last one down. Package poly: above. Package poly: look, Sign, Eval (valid polynomials and fractions). -/
import Derived.Laws.Small
import Derived.Test.YtljocgdhdilglaaGreatZr39
import Derived.Test.YtljocgdhdilglaaGreatZr46
import Derived.Test.YtljocgdhdilglaaGreatZr21
import Derived.Test.YtljocgdhdilglaaGreatZr34
import Derived.Test.YtljocgdhdilglaaGreatZr13
import Derived.Test.YtljocgdhdilglaaGreatZr03
import Derived.Test.YtljocgdhdilglaaGreatZr01
import Derived.Test.YtljocgdhdilglaaGreatZr24
import Derived.Test.YtljocgdhdilglaaGreatZr12
import Derived.Test.YtljocgdhdilglaaGreatZr37
import Derived.Test.YtljocgdhdilglaaGreatZr33
set_option linter.unusedSimpArgs false
set_option linter.unusedVariables false

namespace Go.Proofs.YtljocgdhdilglaaGreat
open Go.RowKit

/-- The sum of g over the first k of l. -/
def sumK (g : Int → Int) (l : List Int) : Nat → Int
  | 0 => 0
  | k + 1 => sumK g l k + g (l[k]?.getD 0)

/-- The sum of products of distances from a centre. -/
def secK (u v p : Int → Int) (X Y : Rat) (l : List Int) : Nat → Rat
  | 0 => 0
  | k + 1 => secK u v p X Y l k + ((u (l[k]?.getD 0) : Rat) - X) * ((v (l[k]?.getD 0) : Rat) - Y) * (p (l[k]?.getD 0) : Rat)

theorem secK_eq (u v p : Int → Int) (X Y : Rat) (l : List Int) (k : Nat) :
    secK u v p X Y l k = (sumK (fun i => u i * v i * p i) l k : Int) - X * (sumK (fun i => v i * p i) l k : Int) - Y * (sumK (fun i => u i * p i) l k : Int) + X * Y * (sumK p l k : Int) := by
  induction k with
  | zero => simp [secK, sumK]; grind
  | succ k ih =>
    simp only [secK, sumK, ih, Rat.intCast_add, Rat.intCast_mul]
    grind

theorem sec_div (u v p : Int → Int) (l : List Int) (n : Nat) (s : Int) (hs : 0 < s) (hp : sumK p l n = s) :
    secK u v p (Rat.divInt (sumK (fun i => u i * p i) l n) s) (Rat.divInt (sumK (fun i => v i * p i) l n) s) l n / (s : Rat) = Rat.divInt (sumK (fun i => u i * v i * p i) l n) s - Rat.divInt (sumK (fun i => u i * p i) l n) s * Rat.divInt (sumK (fun i => v i * p i) l n) s := by
  have h0 : (s : Rat) ≠ 0 := by
    intro h; have : s = 0 := by exact_mod_cast h
    omega
  rw [secK_eq, hp]
  simp only [Rat.divInt_eq_div]
  grind

theorem num_le (a b : Int) (h : b ≠ 0) : (Rat.divInt a b).num.natAbs ≤ a.natAbs := by
  rw [Rat.num_divInt]
  rw [Int.natAbs_ediv_of_dvd]
  · refine Nat.le_trans (Nat.div_le_self _ _) ?_
    rw [Int.natAbs_mul]
    rcases Int.lt_or_gt_of_ne h with g | g
    · rw [Int.sign_eq_neg_one_of_neg g]; simp
    · rw [Int.sign_eq_one_of_pos g]; simp
  · exact Int.dvd_trans (Int.gcd_dvd_right _ _) (Int.dvd_mul_left _ _)
theorem den_le (a b : Int) (h : b ≠ 0) : (Rat.divInt a b).den ≤ b.natAbs := by
  rw [Rat.den_divInt, if_neg h]
  exact Nat.div_le_self _ _

theorem pw_gt_one : 1 < pw 1 := by rw [pw_succ, pw_zero]; decide
/-- Fractions of few limbs. -/
def SmN (i j : Nat) (r : Rat) : Prop := r.num.natAbs < pw i ∧ r.den < pw j
theorem SmN.sm {i j : Nat} {r : Rat} (h : SmN i j r) (hi : i ≤ 1000) (hj : j ≤ 1000) : Sm r := ⟨Nat.lt_of_lt_of_le h.1 (pw_le hi), Nat.lt_of_lt_of_le h.2 (pw_le hj)⟩
theorem SmN.mono {i j i' j' : Nat} {r : Rat} (h : SmN i j r) (hi : i ≤ i') (hj : j ≤ j') : SmN i' j' r := ⟨Nat.lt_of_lt_of_le h.1 (pw_le hi), Nat.lt_of_lt_of_le h.2 (pw_le hj)⟩
theorem SmN.div {i j : Nat} {n s : Int} (h0 : 0 < s) (hn : n.natAbs < pw i) (hs : s.natAbs < pw j) : SmN i j (Rat.divInt n s) :=
  ⟨Nat.lt_of_le_of_lt (num_le n s (by omega)) hn, Nat.lt_of_le_of_lt (den_le n s (by omega)) hs⟩
theorem SmN.int {i : Nat} {n : Int} (hn : n.natAbs < pw i) : SmN i 1 (n : Rat) := ⟨by simpa using hn, by simp only [Rat.den_intCast]; exact pw_gt_one⟩
theorem SmN.mul {i j i' j' : Nat} {a b : Rat} (ha : SmN i j a) (hb : SmN i' j' b) : SmN (i + i') (j + j') (a * b) := by
  rw [← rat_mul]
  refine SmN.div (den_mul_pos a b) ?_ ?_
  · rw [Int.natAbs_mul]; exact mul_lt_pw ha.1 hb.1
  · rw [Int.natAbs_mul]; exact mul_lt_pw (by simpa using ha.2) (by simpa using hb.2)
theorem add_lt_pw {x y z v : Int} {i j i' j' : Nat} (hx : x.natAbs < pw i) (hy : y.natAbs < pw j) (hz : z.natAbs < pw i') (hv : v.natAbs < pw j') : (x * y).natAbs + (z * v).natAbs < pw (max (i + j) (i' + j') + 1) := by
  have h1 : (x * y).natAbs < pw (max (i + j) (i' + j')) := by
    rw [Int.natAbs_mul]; exact Nat.lt_of_lt_of_le (mul_lt_pw hx hy) (pw_le (by omega))
  have h2 : (z * v).natAbs < pw (max (i + j) (i' + j')) := by
    rw [Int.natAbs_mul]; exact Nat.lt_of_lt_of_le (mul_lt_pw hz hv) (pw_le (by omega))
  have h3 := pw_two (max (i + j) (i' + j'))
  omega
theorem SmN.dn {i j : Nat} {r : Rat} (h : SmN i j r) : ((r.den : Nat) : Int).natAbs < pw j := by simpa using h.2
theorem SmN.sub {i j i' j' : Nat} {a b : Rat} (ha : SmN i j a) (hb : SmN i' j' b) : SmN (max (i + j') (i' + j) + 1) (j + j') (a - b) := by
  rw [← rat_sub]
  refine SmN.div (den_mul_pos a b) ?_ ?_
  · have := add_lt_pw ha.1 hb.dn hb.1 ha.dn; omega
  · rw [Int.natAbs_mul]; exact mul_lt_pw ha.dn hb.dn
theorem SmN.add {i j i' j' : Nat} {a b : Rat} (ha : SmN i j a) (hb : SmN i' j' b) : SmN (max (i + j') (i' + j) + 1) (j + j') (a + b) := by
  rw [← rat_add]
  refine SmN.div (den_mul_pos a b) ?_ ?_
  · have := add_lt_pw ha.1 hb.dn hb.1 ha.dn; omega
  · rw [Int.natAbs_mul]; exact mul_lt_pw ha.dn hb.dn

theorem sumK_le {g : Int → Int} {B : Nat} (l : List Int) (k : Nat) (h : ∀ j, j < k → (g (l[j]?.getD 0)).natAbs ≤ B) : (sumK g l k).natAbs ≤ k * B := by
  induction k with
  | zero => simp [sumK]
  | succ k ih =>
    have h1 := ih (fun j hj => h j (by omega))
    have h2 := h k (by omega)
    simp only [sumK]
    rw [Nat.add_mul]
    omega

/-- The numbers of a moment about a centre stay small. -/
theorem secK_small {u v p : Int → Int} {X Y : Rat} (l : List Int) (k : Nat) (hX : SmN 2 2 X) (hY : SmN 2 2 Y) (hu : ∀ j, j < k → (u (l[j]?.getD 0)).natAbs < pw 1) (hv : ∀ j, j < k → (v (l[j]?.getD 0)).natAbs < pw 1) (hp : ∀ j, j < k → (p (l[j]?.getD 0)).natAbs < pw 2) : SmN (14 * k + 1) (14 * k + 1) (secK u v p X Y l k) := by
  induction k with
  | zero => exact ⟨by simp [secK]; exact pw_pos 1, by simp [secK]; exact pw_gt_one⟩
  | succ k ih =>
    have h1 := ih (fun j hj => hu j (by omega)) (fun j hj => hv j (by omega)) (fun j hj => hp j (by omega))
    have a1 := (SmN.int (hu k (by omega))).sub hX
    have a2 := (SmN.int (hv k (by omega))).sub hY
    have a3 := (a1.mul a2).mul (SmN.int (hp k (by omega)))
    simp only [secK]
    exact (h1.add a3).mono (by omega) (by omega)
end Go.Proofs.YtljocgdhdilglaaGreat

namespace Go.Proofs.YtljocgdhdilglaaGreat

/-- At most n numbers, each of at most M limbs. -/
def BP (n M : Nat) (xs : List Int) : Prop := xs.length ≤ n ∧ ∀ i : Nat, (xs[i]?.getD 0).natAbs < pw M
def endOkP (xs : List Int) : Bool := match xs.getLast? with | some x => decide (x ≠ 0) | none => true
theorem endOkP_trim (xs : List Int) : endOkP (trimP xs) = true := by
  have h := trimP_last xs
  unfold endOkP
  cases hl : (trimP xs).getLast? with
  | none => rfl
  | some x => simpa using h x hl
theorem BP.mono {n M n' M' : Nat} {xs : List Int} (h : BP n M xs) (hn : n ≤ n') (hM : M ≤ M') : BP n' M' xs := ⟨Nat.le_trans h.1 hn, fun i => Nat.lt_of_lt_of_le (h.2 i) (pw_le hM)⟩
theorem trimP_short (xs : List Int) : (trimP xs).length ≤ xs.length := by
  induction xs with
  | nil => exact Nat.le_refl _
  | cons x l ih =>
    unfold trimP
    split
    · split <;> simp
    · rename_i y m hm
      rw [hm] at ih
      simp only [List.length_cons] at ih ⊢
      omega
theorem BP.trim {n M : Nat} {xs : List Int} (h : BP n M xs) : BP n M (trimP xs) := ⟨Nat.le_trans (trimP_short xs) h.1, fun i => by rw [getD_trim]; exact h.2 i⟩
theorem BP.okP {n M : Nat} {xs : List Int} (h : BP n M xs) (hn : n ≤ 9) (hM : M ≤ 40) : okP xs = true := by
  unfold Go.Proofs.YtljocgdhdilglaaGreat.okP
  rw [Bool.and_eq_true, decide_eq_true_eq, List.all_eq_true]
  refine ⟨Nat.le_trans h.1 hn, fun x hx => ?_⟩
  obtain ⟨i, hi, rfl⟩ := List.getElem_of_mem hx
  have := h.2 i
  rw [List.getElem?_eq_getElem hi] at this
  simpa using Nat.lt_of_lt_of_le this (pw_le hM)
theorem pw_dbl (k : Nat) : pw k + pw k ≤ pw (k + 1) := by rw [pw_succ]; generalize pw k = x; omega
theorem BP.join {n M n' M' : Nat} {xs ys : List Int} (f : Int → Int → Int) (hf : ∀ a b, (f a b).natAbs ≤ a.natAbs + b.natAbs) (h : BP n M xs) (h' : BP n' M' ys) : BP (max n n') (max M M' + 1) ((List.range (max xs.length ys.length)).map fun i => f (xs[i]?.getD 0) (ys[i]?.getD 0)) := by
  refine ⟨by have := h.1; have := h'.1; simp; omega, fun i => ?_⟩
  by_cases hi : i < max xs.length ys.length
  · have h1 := (h.mono (Nat.le_refl _) (Nat.le_max_left M M')).2 i
    have h2 := (h'.mono (Nat.le_refl _) (Nat.le_max_right M M')).2 i
    have h3 := pw_dbl (max M M')
    have h4 := hf (xs[i]?.getD 0) (ys[i]?.getD 0)
    rw [List.getElem?_map, List.getElem?_range hi]
    show (f (xs[i]?.getD 0) (ys[i]?.getD 0)).natAbs < _
    generalize pw (max M M') = y at *
    generalize pw (max M M' + 1) = z at *
    omega
  · rw [List.getElem?_eq_none (by simp; omega)]
    exact pw_pos _
theorem BP.mul {n M n' M' : Nat} {xs ys : List Int} (h : BP n M xs) (h' : BP n' M' ys) (hs : n + n' ≤ 1000) : BP (n + n' - 1) (M + M' + 1) (mulP xs ys) := by
  refine ⟨by have := h.1; have := h'.1; simp [mulP]; omega, fun i => ?_⟩
  rw [mulP_getD]
  by_cases hi : i < 1000
  · have h1 : (coP xs ys i).natAbs ≤ (i + 1) * (pw M * pw M') := by
      unfold coP
      refine psum_le fun a _ => ?_
      rw [Int.natAbs_mul]
      exact Nat.mul_le_mul (Nat.le_of_lt (h.2 _)) (Nat.le_of_lt (h'.2 _))
    have h2 : (i + 1) * (pw M * pw M') ≤ 1000 * (pw M * pw M') := Nat.mul_le_mul_right _ (by omega)
    have h3 : pw (M + M' + 1) = 4294967296 * (pw M * pw M') := by rw [pw_succ, pw_add]
    have h4 : 0 < pw M * pw M' := Nat.mul_pos (pw_pos _) (pw_pos _)
    rw [h3]
    generalize pw M * pw M' = y at *
    omega
  · rw [coP_out (by have := h.1; have := h'.1; omega)]
    exact pw_pos _
theorem BP.der {n M : Nat} {xs : List Int} (h : BP n M xs) (hn : n ≤ 1000) : BP (n - 1) (M + 1) (derP xs) := by
  refine ⟨by have := h.1; simp [derP]; omega, fun i => ?_⟩
  rw [derP_getD, Int.natAbs_mul]
  by_cases hi : i < 1000
  · have h1 := h.2 (i + 1)
    have h2 : (xs[i + 1]?.getD 0).natAbs * ((i + 1 : Nat) : Int).natAbs ≤ pw M * 1000 := Nat.mul_le_mul (Nat.le_of_lt h1) (by rw [Int.natAbs_natCast]; omega)
    have h3 : pw (M + 1) = 4294967296 * pw M := pw_succ M
    have h4 := pw_pos M
    rw [h3]
    generalize pw M = y at *
    omega
  · rw [getD_out (by have := h.1; omega)]
    simp only [Int.natAbs_zero, Nat.zero_mul]
    exact pw_pos _
theorem eval_smN {n M k : Nat} {xs : List Int} {x : Rat} (h : BP n M xs) (hn : n ≤ 9) (hx : x.num.natAbs < pw k) (hd : x.den < pw k) : SmN (M + k * 9 + 1) (k * 9 + 1) (evalQ xs x) := by
  have hden : (0 : Int) < (x.den : Nat) := by have := x.den_pos; omega
  have hv : Rat.divInt (aboveS x.num (x.den : Nat) xs) (((x.den : Nat) : Int) ^ (xs.length - 1)) = evalQ xs x := by
    rw [above_make hden, Rat.num_divInt_den]
  have hk : 1 ≤ pw k := pw_pos k
  have h1 := aboveS_le (num := x.num) (xd := (x.den : Nat)) (M := pw M) (P := pw k) (Nat.le_of_lt hx) (by rw [Int.natAbs_natCast]; omega) hk (p := xs) (fun a ha => by
    obtain ⟨i, hi, rfl⟩ := List.getElem_of_mem ha
    have := h.2 i
    rw [List.getElem?_eq_getElem hi] at this
    exact Nat.le_of_lt (by simpa using this))
  have hl := h.1
  have hp : ∀ j, j ≤ 9 → pw k ^ j ≤ pw (k * 9) := fun j hj => by
    have e : pw k ^ 9 = pw (k * 9) := by unfold pw; rw [← Nat.pow_mul]
    rw [← e]
    exact Nat.pow_le_pow_right hk hj
  have h2 := hp xs.length (by omega)
  have h3 := hp (xs.length - 1) (by omega)
  rw [← hv]
  refine SmN.div (Int.pow_pos hden) ?_ ?_
  · refine Nat.lt_of_le_of_lt h1 ?_
    have h4 : xs.length * (pw M * pw k ^ xs.length) ≤ 9 * (pw M * pw (k * 9)) := Nat.mul_le_mul (by omega) (Nat.mul_le_mul_left _ h2)
    have h5 : pw (M + k * 9 + 1) = 4294967296 * (pw M * pw (k * 9)) := by rw [pw_succ, pw_add]
    have h6 : 0 < pw M * pw (k * 9) := Nat.mul_pos (pw_pos _) (pw_pos _)
    rw [h5]
    generalize pw M * pw (k * 9) = y at *
    generalize xs.length * (pw M * pw k ^ xs.length) = z at *
    omega
  · rw [Int.natAbs_pow, Int.natAbs_natCast]
    have h7 : x.den ^ (xs.length - 1) ≤ pw k ^ (xs.length - 1) := Nat.pow_le_pow_left (Nat.le_of_lt hd) _
    have h8 := pw_dbl (k * 9)
    have h9 := pw_pos (k * 9)
    generalize pw (k * 9) = y at *
    generalize pw (k * 9 + 1) = z at *
    generalize x.den ^ (xs.length - 1) = u at *
    generalize pw k ^ (xs.length - 1) = v at *
    omega
end Go.Proofs.YtljocgdhdilglaaGreat

namespace Go.Proofs.YtljocgdhdilglaaGreat
open Go.RowKit Go.Shelf
attribute [local go_sem] add_lit
attribute [local go_sem] Oper.semAt_some

def wv (e : WE) : Value := .agg #[.bool e.neg, .slice e.A e.n e.c]
def weAt (es : List WE) (k : Nat) : WE := es[k]?.getD ⟨false, none, 0, 0, []⟩
def encBack (es : List WE) (n : Nat) (i : { i : Nat // i < n }) : Array Value := #[.int .i64 (i.1 : Int), wv (weAt es i.1)]

theorem wl_kept {W W' : World} {row : Option Nat} {A : Option Addr} {n c : Nat} {es : List WE} (h : WL W A n c es) (hg : W.grownBy W' row) (hrow : ∀ r, row = some r → ∃ o : Obj, W.heap[r]? = some o ∧ o.isCells = false) : WL W' A n c es :=
  ⟨h.1, h.2.1, h.2.2.1, fun hn => by
    obtain ⟨b, o, e, hc⟩ := h.2.2.2.1 hn
    exact ⟨b, o, e, fun k x hx => ⟨cell_kept (hc k x hx).1 hg hrow, cell_kept (hc k x hx).2 hg hrow⟩⟩, fun e he => lim_kept (h.2.2.2.2 e he) hg hrow⟩

/-- What a round over 'Backward' keeps: the iterator's box, and the numbers. -/
def KpB (Bs : Nat) (A : Option Addr) (n c : Nat) (es : List WE) (W W' : World) : Prop :=
  (W.cell? ⟨Bs, 0, none⟩ = some (.slice A n c) → W'.cell? ⟨Bs, 0, none⟩ = some (.slice A n c)) ∧ (WL W A n c es → WL W' A n c es)
theorem KpB.refl (Bs : Nat) (A : Option Addr) (n c : Nat) (es : List WE) (W : World) : KpB Bs A n c es W W := ⟨id, id⟩
theorem KpB.trans {Bs n c : Nat} {A : Option Addr} {es : List WE} {W1 W2 W3 : World} (h : KpB Bs A n c es W1 W2) (k : KpB Bs A n c es W2 W3) : KpB Bs A n c es W1 W3 := ⟨fun x => k.1 (h.1 x), fun x => k.2 (h.2 x)⟩
theorem KpB.put {Bs n c : Nat} {A : Option Addr} {es : List WE} (W : World) (lp : Nat) (o o' : Obj) (ho : W.heap[lp]? = some o) (hc : o.isCells = false) : KpB Bs A n c es W (W.putObj lp o') :=
  ⟨fun h => cell_kept h (grownBy_putObj' W lp o') (fun r e => by cases e; exact ⟨o, ho, hc⟩), fun h => wl_kept h (grownBy_putObj' W lp o') (fun r e => by cases e; exact ⟨o, ho, hc⟩)⟩

set_option maxRecDepth 100000 in
set_option maxHeartbeats 2000000 in
theorem back1_in (d : Nat) (hd : 1 ≤ d) (lp Bs n c : Nat) (A : Option Addr) (es : List WE) (J Jx : List { i : Nat // i < n } → World → Prop)
    (hY : ∀ pre x W, J pre W → pre.length < n → YieldAt Fence.wide (d - 1) Tryz.prog lp (encBack es n x) W fun e W' =>
      (e = .returned (.bool true) ∧ J (pre ++ [x]) W' ∧ KpB Bs A n c es W W') ∨ (e = .returned (.bool false) ∧ Jx (pre ++ [x]) W'))
    (W : World) (hBs : W.cell? ⟨Bs, 0, none⟩ = some (.slice A n c)) (hL : WL W A n c es) (h0 : J [] W) :
    CallsIn Fence.wide d Tryz.prog 102 #[.func (.yield lp) #[] #[], .pointer (some ⟨Bs, 0, none⟩)] W fun e W' => (∃ v, e = .returned v) ∧
      ((∃ ys, ys = downTo n n ∧ J ys W') ∨ (∃ pre, (∃ k, k ≤ n ∧ pre = downTo n k) ∧ Jx pre W')) := by
  have hnc := hL.2.1
  have hcm := hL.2.2.1
  unfold maxLen at hcm
  refine callsIn_of_wp Tryz.func102 rfl trivial ?_ rfl
  simp only [Tryz.ntmps102, List.size_toArray, List.length_cons, List.length_nil, Nat.reduceAdd, Nat.reduceSub, Array.replicate_succ, Array.replicate_zero, List.push_toArray, List.append_toArray, List.nil_append, List.cons_append]
  gi_wp2
  gi_loopw [3] (fun i wr => ∃ k : Nat, k ≤ n ∧ i = .int .i64 ((n : Int) - 1 - k) ∧ J (downTo n k) wr ∧ Hid (wr.cell? ⟨Bs, 0, none⟩ = some (.slice A n c)) ∧ WL wr A n c es)
    (fun i _ => (intOf i + 1).toNat)
  case atStart => exact ⟨0, Nat.zero_le _, by go_num, h0, hBs, hL⟩
  case round =>
    obtain ⟨k, hk, rfl, hJs, hbx', hLr⟩ := hrel
    have hbx := hbx'.out
    by_cases hlt : k < n
    · obtain ⟨b, o, e, rfl, he, hc1, hc2, -⟩ := hLr.at_ (k := n - 1 - k) (by omega)
      obtain ⟨fn, tmps, assign, body, hy, hR⟩ := hY _ ⟨n - 1 - k, by omega⟩ wr hJs (by rw [downTo_length hk]; exact hlt)
      dsimp only [encBack, wv, weAt] at hy
      rw [he, Option.getD_some] at hy
      rw [show ((n - 1 - k : Nat) : Int) = (n : Int) - 1 - k by omega] at hy
      gi_wp2
      refine hR.mono ?_
      rintro e W3 (⟨rfl, hJ3, hk3⟩ | ⟨rfl, hJx3⟩)
      · have hbx3 := hide (hk3.1 hbx'.out)
        gi_wp2
        go_roundw
        case rel => exact ⟨k + 1, by omega, by go_num, by rw [downTo_succ hlt]; exact hJ3, hbx3, hk3.2 hLr⟩
        case measure => simp [intOf]; omega
      · gi_wp2
        refine bodyPost_ret (results_none rfl _ _ _) rfl ?_
        exact ⟨⟨_, rfl⟩, .inr ⟨_, ⟨k + 1, by omega, (downTo_succ hlt).symm⟩, hJx3⟩⟩
    · obtain rfl : k = n := by omega
      gi_wp2
      go_end0
      exact ⟨⟨_, rfl⟩, .inl ⟨_, rfl, hJs⟩⟩

theorem back_stops (d : Nat) (hd : 1 ≤ d) (Bs n c : Nat) (A : Option Addr) (es : List WE) (w : World) (hc : w.cell? ⟨Bs, 0, none⟩ = some (.slice A n c)) (hL : WL w A n c es) :
    SeqStopsK Fence.wide d Tryz.prog 102 #[.pointer (some ⟨Bs, 0, none⟩)] (encBack es n) (KpB Bs A n c es) (fun ys => ys = downTo n n) (fun pre => ∃ k, k ≤ n ∧ pre = downTo n k) n w := fun lp J Jx W hW _ _ hY h0 =>
  back1_in d hd lp Bs n c A es J Jx hY W ((hW.cell (lt_of_cell hc)).trans hc) (hL.below hW) h0

set_option maxHeartbeats 400000 in
theorem back_any (A : Option Addr) (n c : Nat) (w : World) :
    Calls Tryz.prog 74 #[.slice A n c] w fun e w' => e = .returned (.func (.func 102) #[] #[.pointer (some ⟨w.heap.size, 0, none⟩)]) ∧ w.alloc (.cells #[.slice A n c] 22) = w' := by
  go_enter Tryz.func74, Tryz.ntmps74
  go_wp2
  go_ret
  exact ⟨rfl, rfl⟩
end Go.Proofs.YtljocgdhdilglaaGreat

namespace Go.Proofs.YtljocgdhdilglaaGreat
open Go.RowKit Go.Shelf
attribute [local go_sem] add_lit
attribute [local go_sem] Oper.semAt_some

theorem ResP.any {w : World} {z : Int} {neg : Bool} {A : Option Addr} {n c : Nat} {code : Int} (h : ResP w z neg A n c code) : ∃ z', Wd w neg A n c z' ∧ (z.natAbs < pw 4096 → z' = z) := by
  rcases h with ⟨h1, _, h2⟩ | ⟨h1, _, rfl, rfl, rfl, rfl⟩
  · exact ⟨z, h2, fun _ => rfl⟩
  · exact ⟨0, Wd.zero w, fun h => by omega⟩
theorem KeepsOthers.of_below {W W' : World} (h : Below W.heap.size W W') : KeepsOthers W W' := ⟨h.size, fun k o hk _ => (h.block k (Array.getElem?_eq_some_iff.1 hk).1).trans hk⟩
theorem wd_kept {W W' : World} {row : Option Nat} {neg : Bool} {A : Option Addr} {n c : Nat} {z : Int} (h : Wd W neg A n c z) (hg : W.grownBy W' row) (hrow : ∀ r, row = some r → ∃ o : Obj, W.heap[r]? = some o ∧ o.isCells = false) : Wd W' neg A n c z := ⟨h.1, h.2.1, lim_kept h.2.2 hg hrow⟩

/-- What the loop of 'above' keeps. -/
def AbI (N0 : Nat) (na nb : Bool) (Ax Bx : Option Addr) (nx cx mx dx gx gs gd Bs : Nat) (A : Option Addr) (n c : Nat) (xs : List Int) (num xd : Int) (pre : List { i : Nat // i < n }) (W : World) : Prop :=
  ∃ ns As ks cs nd Ad kd cd zs zd, Blk W gx 27 #[.bool na, .slice Ax nx cx, .bool nb, .slice Bx mx dx] ∧ Blk W gs 25 #[.bool ns, .slice As ks cs] ∧ Blk W gd 25 #[.bool nd, .slice Ad kd cd] ∧ Blk W Bs 22 #[.slice A n c] ∧ N0 ≤ W.heap.size ∧
    Wd W ns As ks cs zs ∧ Wd W nd Ad kd cd zd ∧ (pre = downTo n pre.length → zs = aboveS num xd (xs.drop (n - pre.length)) ∧ zd = xd ^ min pre.length (n - 1))
theorem AbI.own {N0 : Nat} {na nb : Bool} {Ax Bx : Option Addr} {nx cx mx dx gx gs gd Bs : Nat} {A : Option Addr} {n c : Nat} {xs : List Int} {num xd : Int} {pre : List { i : Nat // i < n }} {W W' : World} {row : Option Nat} (H : AbI N0 na nb Ax Bx nx cx mx dx gx gs gd Bs A n c xs num xd pre W) (hg : W.grownBy W' row) (hr : ∀ r, row = some r → ∃ o : Obj, W.heap[r]? = some o ∧ o.isCells = false) : AbI N0 na nb Ax Bx nx cx mx dx gx gs gd Bs A n c xs num xd pre W' := by
  obtain ⟨ns, As, ks, cs, nd, Ad, kd, cd, zs, zd, h1, h2, h3, h4, h8, h5, h6, h7⟩ := H
  exact ⟨ns, As, ks, cs, nd, Ad, kd, cd, zs, zd, blk_kept h1 hg hr, blk_kept h2 hg hr, blk_kept h3 hg hr, blk_kept h4 hg hr, Nat.le_trans h8 hg.size, wd_kept h5 hg hr, wd_kept h6 hg hr, h7⟩

set_option maxRecDepth 100000 in
set_option maxHeartbeats 2000000 in
theorem above_ok (A : Option Addr) (n c : Nat) (es : List WE) (na nb : Bool) (Ax Bx : Option Addr) (nx cx mx dx : Nat) (num xd : Int) (w : World) (hL : WL w A n c es) (hk : ∀ e ∈ es, e.ok = true) (hn : n ≤ 9)
    (hx : Wd w na Ax nx cx num) (hd : Wd w nb Bx mx dx xd) (hs : ∀ k, k ≤ n → (aboveS num xd ((es.map WE.num).drop (n - k)) * num).natAbs < pw 4096 ∧ (aboveS num xd ((es.map WE.num).drop (n - k))).natAbs < pw 4096 ∧ (xd ^ k).natAbs < pw 4096 ∧ ∀ e ∈ es, (e.num * xd ^ k).natAbs < pw 4096) :
    Calls Tryz.prog 43 #[.slice A n c, .agg #[.bool na, .slice Ax nx cx, .bool nb, .slice Bx mx dx]] w (PairW w (aboveS num xd (es.map WE.num)) (xd ^ (n - 1))) := by
  have h9 : 1 ≤ 9 := by omega
  obtain ⟨W0, hW0, hB, ⟨q0, q1, q2⟩, sz⟩ := alloc3 w 27 #[.bool na, .slice Ax nx cx, .bool nb, .slice Bx mx dx] 25 #[.bool false, .slice none 0 0] 25 #[.bool false, .slice none 0 0]
  refine (callsIn_wide (n := 9)).1 ?_
  refine callsIn_of_wp_marks Tryz.func43 rfl trivial ?_ rfl
  simp only [Tryz.ntmps43, List.size_toArray, List.length_cons, List.length_nil, Nat.reduceAdd, Nat.reduceSub, Array.replicate_succ, Array.replicate_zero, List.push_toArray, List.append_toArray, List.nil_append, List.cons_append]
  gi_wp2_with fail
  refine ⟨trivial, ?_⟩
  refine (callsIn_wide.2 (From_any 1 W0 (by omega) (by omega))).mono ?_
  rintro e w1 ⟨hb1, nd, Ad, kd, cd, rfl, hd1⟩
  have hB1 := hB.trans (hb1.mono hB.size)
  replace q0 := keep_blk hb1 q0
  replace q1 := keep_blk hb1 q1
  replace q2 := keep_blk hb1 q2
  obtain ⟨V, hV, hB2, q2', st⟩ := set_num nd Ad kd cd hB1 (show w.heap.size ≤ w.heap.size + 1 + 1 by omega) q2
  have y0 := q2.two
  replace q0 := st.2.1 _ _ _ (by omega) q0
  replace q1 := st.2.1 _ _ _ (by omega) q1
  replace hd1 := hide (st.1 _ _ _ _ _ hd1)
  have hVs : w.heap.size + 1 + 1 < V.heap.size := q2'.lt
  obtain ⟨y0a, y0b, y0c, y0d⟩ := y0
  gi_wp2_with fail
  refine ⟨trivial, ?_⟩
  refine (callsIn_wide.2 (back_any A n c V)).mono ?_
  rintro e w2 ⟨rfl, hw2⟩
  obtain ⟨V2, hV2, hB3, q3, kd2, kb2, sz2⟩ := new_obj 22 #[.slice A n c] hB2 hB2.size
  rw [hV2] at hw2
  subst hw2
  replace q0 := kb2 _ _ _ q0
  replace q1 := kb2 _ _ _ q1
  replace q2' := kb2 _ _ _ q2'
  replace hd1 := hide (kd2 _ _ _ _ _ hd1.out)
  clear hV hV2 y0a y0b y0c y0d q2 hb1 hB1 hB2 st kd2 kb2
  obtain ⟨gB, hgB⟩ : ∃ g, V.heap.size = g := ⟨_, rfl⟩
  rw [hgB] at q3 hVs ⊢
  have h0 : AbI V2.heap.size na nb Ax Bx nx cx mx dx w.heap.size (w.heap.size + 1) (w.heap.size + 1 + 1) gB A n c (es.map WE.num) num xd [] V2 :=
    ⟨_, _, _, _, _, _, _, _, 0, 1, q0, q1, q2', q3, Nat.le_refl _, Wd.zero _, hd1.out, fun _ => ⟨by rw [List.length_nil, Nat.sub_zero, List.drop_of_length_le (by rw [List.length_map, hL.len]; omega)]; rfl, by simp⟩⟩
  gi_wp2
  have hgB2 : gB < V2.heap.size := by omega
  have hV2w : w.heap.size ≤ V2.heap.size := hB3.size
  refine wpIn_rangeFunc_ownH rfl h9 (gf := 102) (lb := #[.pointer (some ⟨gB, 0, none⟩)]) rfl trivial (enters_of Tryz.func102 (by kernel_rfl) rfl)
    (back_stops 8 (by omega) gB n c A es V2 (q3.cell 0) (hL.below hB3)) KpB.trans (fun W l o o' _ h hc _ => KpB.put W l o o' h hc) (Below.refl _ _) (fun _ => rfl)
    (fun pre W => AbI V2.heap.size na nb Ax Bx nx cx mx dx w.heap.size (w.heap.size + 1) (w.heap.size + 1 + 1) gB A n c (es.map WE.num) num xd pre W ∧ Below w.heap.size w W)
    (fun _ _ _ => False)
    (OwnFrom.and (Own.from (fun s X Y row hs hg hr => hs.own hg hr) _) (ownFrom_below (Nat.le_refl _) (by omega)))
    (fun cc => Own.from (fun s X Y row hs hg hr => hs) _)
    ⟨h0, hB3⟩
    (fun x a' W => ∃ gA, V2.heap.size ≤ gA ∧ a' = { tmps := #[.slice A n c, .agg #[.bool na, .slice Ax nx cx, .bool nb, .slice Bx mx dx], undef, .pointer (some ⟨w.heap.size, 0, none⟩), .pointer (some ⟨w.heap.size + 1, 0, none⟩), .pointer (some ⟨w.heap.size + 1 + 1, 0, none⟩), .int .i64 (x.1 : Int), .pointer (some ⟨gA, 0, none⟩), undef, undef, .agg #[.bool nd, .slice Ad kd cd], .slice A n c, .func (.func 102) #[] #[.pointer (some ⟨gB, 0, none⟩)], .int .i64 (x.1 : Int), wv (weAt es x.1), undef, undef, undef, undef, undef, undef, undef, undef, undef, undef, undef, undef, undef, undef, undef, undef, undef, undef, undef, undef, undef, undef, undef, undef, undef, undef, undef, undef, undef, undef], defers := [] } ∧ Blk W gA 25 #[.bool (weAt es x.1).neg, .slice (weAt es x.1).A (weAt es x.1).n (weAt es x.1).c])
    (fun x a' => Own.from (fun s X Y row hs hg hr => by
      obtain ⟨gA, e1, e2, e3⟩ := hs
      exact ⟨gA, e1, e2, blk_kept e3 hg hr⟩) _) ?assign ?body ?done ?stop
  case assign =>
    intro l pre x W K hI hK
    obtain ⟨hI, hBW⟩ := hI
    dsimp only [encBack]
    obtain ⟨X1, hX1, hBX1, a1, ad1, ab1, as1⟩ := new_obj 25 #[.bool false, .slice none 0 0] hBW hBW.size
    obtain ⟨X2, hX2, hBX2, a2, st2⟩ := set_num (weAt es x.1).neg (weAt es x.1).A (weAt es x.1).n (weAt es x.1).c hBX1 hBW.size a1
    obtain ⟨b0, b1, b2, b3⟩ := a1.two
    have hxv : wv (weAt es x.1) = .agg #[.bool (weAt es x.1).neg, .slice (weAt es x.1).A (weAt es x.1).n (weAt es x.1).c] := rfl
    obtain ⟨ns, As, ks, cs, nd', Ad', kd', cd', zs, zd, k1, k2, k3, k4, k8, k5, k6, k7⟩ := hI
    have hl1 := k1.lt
    have hl2 := k2.lt
    have hl3 := k3.lt
    have hl4 := k4.lt
    have hKO : KeepsOthers W X2 := by
      rw [← hX2, ← hX1]
      exact (KeepsOthers.alloc _ _).trans ((KeepsOthers.setCell _ _ _).trans (KeepsOthers.setCell _ _ _))
    have hIx : AbI V2.heap.size na nb Ax Bx nx cx mx dx w.heap.size (w.heap.size + 1) (w.heap.size + 1 + 1) gB A n c (es.map WE.num) num xd pre X2 := ⟨ns, As, ks, cs, nd', Ad', kd', cd', zs, zd, st2.2.1 _ _ _ (by omega) (ab1 _ _ _ k1), st2.2.1 _ _ _ (by omega) (ab1 _ _ _ k2), st2.2.1 _ _ _ (by omega) (ab1 _ _ _ k3), st2.2.1 _ _ _ (by omega) (ab1 _ _ _ k4), Nat.le_trans k8 hKO.size, st2.1 _ _ _ _ _ (ad1 _ _ _ _ _ k5), st2.1 _ _ _ _ _ (ad1 _ _ _ _ _ k6), k7⟩
    have hKp : KpB gB A n c es W X2 := ⟨fun _ => hIx.choose_spec.choose_spec.choose_spec.choose_spec.choose_spec.choose_spec.choose_spec.choose_spec.choose_spec.choose_spec.2.2.2.1.cell 0, fun _ => hL.below hBX2⟩
    have hfin := hK { tmps := #[.slice A n c, .agg #[.bool na, .slice Ax nx cx, .bool nb, .slice Bx mx dx], undef, .pointer (some ⟨w.heap.size, 0, none⟩), .pointer (some ⟨w.heap.size + 1, 0, none⟩), .pointer (some ⟨w.heap.size + 1 + 1, 0, none⟩), .int .i64 (x.1 : Int), .pointer (some ⟨W.heap.size, 0, none⟩), undef, undef, .agg #[.bool nd, .slice Ad kd cd], .slice A n c, .func (.func 102) #[] #[.pointer (some ⟨gB, 0, none⟩)], .int .i64 (x.1 : Int), wv (weAt es x.1), undef, undef, undef, undef, undef, undef, undef, undef, undef, undef, undef, undef, undef, undef, undef, undef, undef, undef, undef, undef, undef, undef, undef, undef, undef, undef, undef, undef, undef, undef], defers := [] } X2 (hKO.from _) hKp ⟨hIx, hBX2⟩ ⟨W.heap.size, k8, rfl, a2⟩
    gi_wp2
    exact hfin
  case body =>
    rintro l pre ⟨i, hi⟩ a' W hlw hrl ⟨hI, hBW⟩ ⟨gA, hgA, rfl, kA⟩ hpre
    obtain ⟨ns, As, ks, cs, nd', Ad', kd', cd', zs, zd, k1, k2, k3, k4, k8, k5, k6, k7⟩ := hI
    obtain ⟨x0, x1, x2, x3, -⟩ := k1.four
    obtain ⟨s0, s1, s2, s3⟩ := k2.two
    have hL1 := k1.lt
    have hL2 := k2.lt
    have hL3 := k3.lt
    have hL4 := k4.lt
    have hLA := kA.lt
    have hie : es[i]? = some (weAt es i) := by unfold weAt; rw [List.getElem?_eq_getElem (by rw [hL.len]; exact hi)]; rfl
    have hme : weAt es i ∈ es := List.mem_of_getElem? hie
    obtain ⟨ev, hev⟩ : ∃ ev, weAt es i = ev := ⟨_, rfl⟩
    rw [hev] at hie hme kA ⊢
    have hwe : Wd W ev.neg ev.A ev.n ev.c ev.num := WE.wd ((hL.below hBW).2.2.2.2 ev hme) (hk ev hme)
    replace hev := hide hev
    replace hie := hide hie
    have hgx : w.heap.size ≤ w.heap.size + 1 ∧ w.heap.size ≤ w.heap.size + 1 + 1 := by omega
    gi_wp2_with fail
    refine ⟨trivial, ?_⟩
    refine (CallsIn.inRound l (callsIn_wide.2 (Mul_ok ns na As Ax ks cs nx cx zs num W k5 (hx.below hBW)))).mono ?_
    rintro e w3 ⟨hb3, n3, A3, m3, c3, code3, rfl, hp3⟩
    obtain ⟨z3, d3, t3⟩ := hp3.any
    have KO := KeepsOthers.of_below hb3
    have hB4 := hBW.trans (hb3.mono hBW.size)
    replace k1 := keep_blk hb3 k1
    replace k2 := keep_blk hb3 k2
    replace k3 := keep_blk hb3 k3
    replace k4 := keep_blk hb3 k4
    replace kA := keep_blk hb3 kA
    replace k6 := k6.below hb3
    replace hwe := hwe.below hb3
    obtain ⟨s0, s1, s2, s3⟩ := k2.two
    obtain ⟨X3, hX3, hB5, k2, st⟩ := set_num n3 A3 m3 c3 hB4 hgx.1 k2
    replace KO : KeepsOthers W X3 := by rw [← hX3]; exact KO.trans ((KeepsOthers.setCell _ _ _).trans (KeepsOthers.setCell _ _ _))
    replace k1 := st.2.1 _ _ _ (by omega) k1
    replace k3 := st.2.1 _ _ _ (by omega) k3
    replace k4 := st.2.1 _ _ _ (by omega) k4
    replace kA := st.2.1 _ _ _ (by omega) kA
    replace k6 := st.1 _ _ _ _ _ k6
    replace hwe := st.1 _ _ _ _ _ hwe
    replace d3 := st.1 _ _ _ _ _ d3
    have hsz3 := st.2.2
    have hs3 := hb3.size
    clear st
    obtain ⟨a0, a1, -, -⟩ := kA.two
    obtain ⟨d0, d1, d2', d3'⟩ := k3.two
    gi_wp2_with fail
    refine ⟨trivial, ?_⟩
    refine (CallsIn.inRound l (callsIn_wide.2 (Mul_ok ev.neg nd' ev.A Ad' ev.n ev.c kd' cd' ev.num zd X3 hwe k6))).mono ?_
    rintro e w4 ⟨hb4, n4, A4, m4, c4, code4, rfl, hp4⟩
    obtain ⟨z4, d4, t4⟩ := hp4.any
    clear s0 s1 s2 s3 hX3 a0 a1 d0 d1 d2' d3' x0 x1 x2 x3 hB4 hwe
    replace KO := KO.trans (KeepsOthers.of_below hb4)
    replace hB5 := hB5.trans (hb4.mono hB5.size)
    replace k1 := keep_blk hb4 k1
    replace k2 := keep_blk hb4 k2
    replace k3 := keep_blk hb4 k3
    replace k4 := keep_blk hb4 k4
    replace kA := keep_blk hb4 kA
    replace k6 := k6.below hb4
    replace d3 := d3.below hb4
    obtain ⟨Y4, hY4, hB6, kw, yd, yb, ysz⟩ := new_obj 25 #[.bool false, .slice none 0 0] hB5 hB5.size
    replace k1 := yb _ _ _ k1
    replace k2 := yb _ _ _ k2
    replace k3 := yb _ _ _ k3
    replace k4 := yb _ _ _ k4
    replace k6 := yd _ _ _ _ _ k6
    replace d3 := yd _ _ _ _ _ d3
    replace d4 := yd _ _ _ _ _ d4
    have hs4 := hb4.size
    obtain ⟨s0, s1, s2, s3⟩ := kw.two
    obtain ⟨X4, hX4, hB7, kw, st⟩ := set_num n4 A4 m4 c4 hB6 hB5.size kw
    replace KO : KeepsOthers W X4 := by rw [← hX4, ← hY4]; exact KO.trans ((KeepsOthers.alloc _ _).trans ((KeepsOthers.setCell _ _ _).trans (KeepsOthers.setCell _ _ _)))
    replace k1 := st.2.1 _ _ _ (by omega) k1
    replace k2 := st.2.1 _ _ _ (by omega) k2
    replace k3 := st.2.1 _ _ _ (by omega) k3
    replace k4 := st.2.1 _ _ _ (by omega) k4
    replace k6 := st.1 _ _ _ _ _ k6
    replace d3 := st.1 _ _ _ _ _ d3
    replace d4 := st.1 _ _ _ _ _ d4
    have hsz4 := st.2.2
    clear st yd yb
    obtain ⟨u0, u1, -, -⟩ := k2.two
    obtain ⟨v0, v1, -, -⟩ := kw.two
    gi_wp2_with fail
    refine ⟨trivial, ?_⟩
    refine (CallsIn.inRound l (callsIn_wide.2 (Add_ok n3 n4 A3 A4 m3 c3 m4 c4 z3 z4 X4 d3 d4))).mono ?_
    rintro e w5 ⟨hb5, n5, A5, m5, c5, code5, rfl, hp5⟩
    obtain ⟨z5, d5, t5⟩ := hp5.any
    clear s0 s1 s2 s3 hX4 hY4 u0 u1 v0 v1 kw kA d3 d4
    replace KO := KO.trans (KeepsOthers.of_below hb5)
    replace hB7 := hB7.trans (hb5.mono hB7.size)
    replace k1 := keep_blk hb5 k1
    replace k2 := keep_blk hb5 k2
    replace k3 := keep_blk hb5 k3
    replace k4 := keep_blk hb5 k4
    replace k6 := k6.below hb5
    obtain ⟨s0, s1, s2, s3⟩ := k2.two
    obtain ⟨X5, hX5, hB8, k2, st⟩ := set_num n5 A5 m5 c5 hB7 hgx.1 k2
    replace KO : KeepsOthers W X5 := by rw [← hX5]; exact KO.trans ((KeepsOthers.setCell _ _ _).trans (KeepsOthers.setCell _ _ _))
    replace k1 := st.2.1 _ _ _ (by omega) k1
    replace k3 := st.2.1 _ _ _ (by omega) k3
    replace k4 := st.2.1 _ _ _ (by omega) k4
    replace k6 := st.1 _ _ _ _ _ k6
    replace d5 := st.1 _ _ _ _ _ d5
    have hs5 := hb5.size
    clear st
    have himp : pre ++ [(⟨i, hi⟩ : { i : Nat // i < n })] = downTo n (pre ++ [(⟨i, hi⟩ : { i : Nat // i < n })]).length → z5 = aboveS num xd ((es.map WE.num).drop (n - (pre.length + 1))) ∧ zd = xd ^ pre.length ∧ i = n - 1 - pre.length := fun hp => by
      rw [List.length_append, List.length_singleton] at hp
      obtain ⟨e1, e2⟩ := downTo_snoc hpre hp
      obtain ⟨e3, e4⟩ := k7 e1
      have e2' : i = n - 1 - pre.length := e2
      rw [Nat.min_eq_left (by omega)] at e4
      have b1 := hs pre.length (by omega)
      have b2 := hs (pre.length + 1) (by omega)
      have f3 : z3 = zs * num := t3 (by rw [e3]; exact b1.1)
      have f4 : z4 = ev.num * zd := t4 (by rw [e4]; exact b1.2.2.2 ev hme)
      have hdr : aboveS num xd ((es.map WE.num).drop (n - (pre.length + 1))) = z3 + z4 := by
        rw [aboveS_append num xd _ _ (by rw [List.length_map, hL.len]; omega), f3, f4, e3, e4, show n - (pre.length + 1) + 1 = n - pre.length by omega, List.length_map, hL.len]
        rw [show n - (pre.length + 1) = i by omega, List.getElem?_map, hie.out, show n - (n - pre.length) = pre.length by omega]
        rfl
      exact ⟨by rw [hdr]; exact t5 (by rw [← hdr]; exact b2.2.1), e4, e2'⟩
    replace himp := hide himp
    obtain ⟨v0, v1, v2, v3⟩ := k3.two
    obtain ⟨x0, x1, x2, x3, -⟩ := k1.four
    by_cases h0i : 0 < i
    · have htk : decide ((0 : Int) < (i : Int)) = true := by simpa using h0i
      have htk2 : decide (0 < i) = true := by simpa using h0i
      gi_wp2_with fail
      refine ⟨trivial, ?_⟩
      refine (CallsIn.inRound l (callsIn_wide.2 (Mul_ok nd' nb Ad' Bx kd' cd' mx dx zd xd X5 k6 (hd.below hB8)))).mono ?_
      rintro e w6 ⟨hb6, n6, A6, m6, c6, code6, rfl, hp6⟩
      obtain ⟨z6, d6, t6⟩ := hp6.any
      clear s0 s1 s2 s3 hX5 v0 v1 v2 v3 x0 x1 x2 x3
      replace KO := KO.trans (KeepsOthers.of_below hb6)
      have hB9 := hB8.trans (hb6.mono hB8.size)
      replace k1 := keep_blk hb6 k1
      replace k2 := keep_blk hb6 k2
      replace k3 := keep_blk hb6 k3
      replace k4 := keep_blk hb6 k4
      replace d5 := d5.below hb6
      obtain ⟨v0, v1, v2, v3⟩ := k3.two
      obtain ⟨X6, hX6, hB10, k3, st⟩ := set_num n6 A6 m6 c6 hB9 hgx.2 k3
      replace KO : KeepsOthers W X6 := by rw [← hX6]; exact KO.trans ((KeepsOthers.setCell _ _ _).trans (KeepsOthers.setCell _ _ _))
      replace k1 := st.2.1 _ _ _ (by omega) k1
      replace k2 := st.2.1 _ _ _ (by omega) k2
      replace k4 := st.2.1 _ _ _ (by omega) k4
      replace d5 := st.1 _ _ _ _ _ d5
      replace d6 := st.1 _ _ _ _ _ d6
      have hres : AbI V2.heap.size na nb Ax Bx nx cx mx dx w.heap.size (w.heap.size + 1) (w.heap.size + 1 + 1) gB A n c (es.map WE.num) num xd (pre ++ [⟨i, hi⟩]) X6 :=
        ⟨_, _, _, _, _, _, _, _, z5, z6, k1, k2, k3, k4, Nat.le_trans k8 KO.size, d5, d6, fun hp => by
          obtain ⟨e1, e2, e3⟩ := himp.out hp
          rw [List.length_append, List.length_singleton]
          refine ⟨e1, ?_⟩
          rw [Nat.min_eq_left (by omega)]
          have : zd * xd = xd ^ (pre.length + 1) := by rw [e2, Int.pow_succ]
          rw [← this]
          exact t6 (by rw [this]; exact (hs (pre.length + 1) (by omega)).2.2.1)⟩
      gi_wp2
      exact ⟨KO.from _, ⟨fun _ => k4.cell 0, fun _ => hL.below hB10⟩, hres, hB10⟩
    · have htk : decide ((0 : Int) < (i : Int)) = false := by simpa using h0i
      have htk2 : decide (0 < i) = false := by simpa using h0i
      have hres : AbI V2.heap.size na nb Ax Bx nx cx mx dx w.heap.size (w.heap.size + 1) (w.heap.size + 1 + 1) gB A n c (es.map WE.num) num xd (pre ++ [⟨i, hi⟩]) X5 :=
        ⟨_, _, _, _, _, _, _, _, z5, zd, k1, k2, k3, k4, Nat.le_trans k8 KO.size, d5, k6, fun hp => by
          obtain ⟨e1, e2, e3⟩ := himp.out hp
          rw [List.length_append, List.length_singleton]
          refine ⟨e1, ?_⟩
          rw [e2, show min (pre.length + 1) (n - 1) = pre.length by omega]⟩
      gi_wp2
      exact ⟨KO.from _, ⟨fun _ => k4.cell 0, fun _ => hL.below hB8⟩, hres, hB8⟩
  case done =>
    rintro D ys W hD rfl ⟨hI, hBW⟩ hK
    obtain ⟨ns, As, ks, cs, nd', Ad', kd', cd', zs, zd, k1, k2, k3, k4, k8, k5, k6, k7⟩ := hI
    obtain ⟨e1, e2⟩ := k7 (by rw [downTo_length (Nat.le_refl _)])
    rw [downTo_length (Nat.le_refl _), Nat.sub_self, List.drop_zero] at e1
    rw [downTo_length (Nat.le_refl _), Nat.min_eq_right (by omega)] at e2
    subst e1 e2
    clear k7
    obtain ⟨s0, s1, s2, s3⟩ := k2.two
    obtain ⟨v0, v1, v2, v3⟩ := k3.two
    have hgx : w.heap.size ≤ w.heap.size + 1 ∧ w.heap.size ≤ w.heap.size + 1 + 1 := by omega
    have hmx : Tryz.prog.follows .mixedOrders = true := by kernel_rfl
    obtain ⟨Z1, hZ1, hB1, k2, st⟩ := set_num ns As ks cs hBW hgx.1 k2
    replace k3 := st.2.1 _ _ _ (by omega) k3
    replace k5 := st.1 _ _ _ _ _ k5
    replace k6 := st.1 _ _ _ _ _ k6
    clear st
    obtain ⟨v0', v1', v2', v3'⟩ := k3.two
    obtain ⟨t0', t1', -, -⟩ := k2.two
    obtain ⟨Z2, hZ2, hB2, k3, st⟩ := set_num nd' Ad' kd' cd' hB1 hgx.2 k3
    replace k2 := st.2.1 _ _ _ (by omega) k2
    replace k5 := st.1 _ _ _ _ _ k5
    replace k6 := st.1 _ _ _ _ _ k6
    clear st
    have KO : KeepsOthers W Z2 := by rw [← hZ2, ← hZ1]; exact ((KeepsOthers.setCell _ _ _).trans (KeepsOthers.setCell _ _ _)).trans ((KeepsOthers.setCell _ _ _).trans (KeepsOthers.setCell _ _ _))
    gi_wp2
    refine wpIn_wide.2 ?_
    refine wp_held [] (fun wx => wx.cell? ⟨w.heap.size + 1, 0, none⟩ = some (.bool ns) ∧ wx.cell? ⟨w.heap.size + 1, 1, none⟩ = some (.slice As ks cs) ∧ wx.cell? ⟨w.heap.size + 1 + 1, 0, none⟩ = some (.bool nd') ∧ wx.cell? ⟨w.heap.size + 1 + 1, 1, none⟩ = some (.slice Ad' kd' cd')) hmx ⟨s0, s1, v0, v1⟩ (fun _ => ?_)
    refine wpAnyL_take (i := 0) (v := ?v1) rfl (by kernel_rfl) (by kernel_rfl) (by kernel_rfl) (by kernel_rfl) (by kernel_rfl) (Or.inl ⟨by rfl, ?hy1⟩) ⟨s0, s1, v0, v1⟩ ?rest1
    case hy1 => (intro W2 hSw; (try dsimp only at hSw); go_simp; try with_reducible rfl)
    try simp only [Act.put, List.setIfInBounds_toArray, List.set_cons_zero, List.set_cons_succ]
    refine wpAnyL_take (i := 1) (v := ?v2) rfl (by kernel_rfl) (by kernel_rfl) (by kernel_rfl) (by kernel_rfl) (by kernel_rfl) (Or.inl ⟨by rfl, ?hy2⟩) ⟨s0, s1, v0, v1⟩ ?rest2
    case hy2 => (intro W2 hSw; (try dsimp only at hSw); go_simp; try with_reducible rfl)
    try simp only [Act.put, List.setIfInBounds_toArray, List.set_cons_zero, List.set_cons_succ]
    refine wpAnyL_one (i := 2) rfl (by kernel_rfl) (fun K hK => ?_)
    go_simp
    (try rw [hZ1])
    refine hK.out _ _ (fun _ => ⟨t0', t1', v0', v1'⟩) ?_
    clear hK K
    try simp only [Act.put, List.setIfInBounds_toArray, List.set_cons_zero, List.set_cons_succ]
    refine wpAnyL_one (i := 3) rfl (by kernel_rfl) (fun K hK => ?_)
    go_simp
    (try rw [hZ2])
    refine hK.out _ _ (fun _ => ⟨k2.two.1, k2.two.2.1, k3.two.1, k3.two.2.1⟩) ?_
    clear hK K
    try simp only [Act.put, List.setIfInBounds_toArray, List.set_cons_zero, List.set_cons_succ]
    refine wpAnyL_done (by kernel_rfl) ?_ _
    refine OnlyNormal.normal ?_
    have hK' : Z2.drew.heap[D]? = some (.deferred (some [])) := KO.same D _ hK rfl
    have c0 := cell_kept (k2.drew.cell 0) (grownBy_putObj' Z2.drew D (.deferred none)) (fun r e => by cases e; exact ⟨_, hK', rfl⟩)
    have c1 := cell_kept (k2.drew.cell 1) (grownBy_putObj' Z2.drew D (.deferred none)) (fun r e => by cases e; exact ⟨_, hK', rfl⟩)
    have c2 := cell_kept (k3.drew.cell 0) (grownBy_putObj' Z2.drew D (.deferred none)) (fun r e => by cases e; exact ⟨_, hK', rfl⟩)
    have c3 := cell_kept (k3.drew.cell 1) (grownBy_putObj' Z2.drew D (.deferred none)) (fun r e => by cases e; exact ⟨_, hK', rfl⟩)
    have g5 := wd_kept (W := Z2.drew) k5 (grownBy_putObj' Z2.drew D (.deferred none)) (fun r e => by cases e; exact ⟨_, hK', rfl⟩)
    have g6 := wd_kept (W := Z2.drew) k6 (grownBy_putObj' Z2.drew D (.deferred none)) (fun r e => by cases e; exact ⟨_, hK', rfl⟩)
    simp at c0 c1 c2 c3
    gi_wp2
    refine ⟨by simp, .inl ⟨_, _, rfl, run_takeDeferred hK', ?_⟩⟩
    refine ⟨.tuple #[.agg #[.bool ns, .slice As ks cs], .agg #[.bool nd', .slice Ad' kd' cd']], by simp [results, Tryz.f43, go_sem, c0, c1, c2, c3], ?_, _, _, _, _, _, _, _, _, rfl, g5, g6⟩
    exact (below_dn hB2 1).trans (belowK_b (w := w) (Nat.le_refl _) _ D _ _ (by omega) hK' rfl rfl)
  case stop =>
    rintro D c pre W _ _ h _
    exact h.elim
end Go.Proofs.YtljocgdhdilglaaGreat

namespace Go.Proofs.YtljocgdhdilglaaGreat
open Go.RowKit
attribute [local go_sem] add_lit

theorem fr_low (r : Rat) : decide ((Nat.gcd r.num.natAbs ((r.den : Nat) : Int).natAbs : Int) = 1) = true := by
  have h := r.reduced
  unfold Nat.Coprime at h
  simp [h]

set_option maxRecDepth 100000 in
set_option maxHeartbeats 1000000 in
theorem look_ok (A : Option Addr) (n c : Nat) (es : List WE) (na nb : Bool) (Ax Bx : Option Addr) (nx cx mx dx : Nat) (r : Rat) (w : World) (hL : WL w A n c es) (kp : pOk es = true) (hx : Fr w na Ax nx cx nb Bx mx dx r) (h1 : nx ≤ 64) (h2 : mx ≤ 64) :
    Calls Tryz.prog 42 #[.slice A n c, .agg #[.bool na, .slice Ax nx cx, .bool nb, .slice Bx mx dx]] w fun e w' => e = .returned (.int .i64 0) ∧ Below w.heap.size w w' := by
  obtain rfl := hx.neg
  obtain ⟨W0, hW0, hB, q, sz⟩ := alloc1 w 27 #[.bool na, .slice Ax nx cx, .bool false, .slice Bx mx dx]
  replace hL := hide hL
  replace hx := hide hx
  have hkp := hide kp
  clear kp
  go_enter Tryz.func42, Tryz.ntmps42
  go_wp2_with fail
  refine (pCheck_any A n c es W0 (hL.out.below hB)).mono ?_
  rintro e w1 ⟨he, hb1⟩
  rw [hkp.out] at he
  simp only [errOf, if_true] at he
  subst he
  have hB1 := hB.trans (hb1.mono hB.size)
  replace q := keep_blk hb1 q
  obtain ⟨s0, s1, s2, s3, -⟩ := q.four
  go_wp2_with fail
  refine (fCheck_pos na Ax Bx nx cx mx dx r.num (r.den : Nat) w1 (hx.out.below hB1).1 (hx.out.below hB1).2 (by have := r.den_pos; omega) true (fr_low r)).mono ?_
  rintro e w2 ⟨rfl, hb2⟩
  have hB2 := hB1.trans (hb2.mono hB1.size)
  clear s0 s1 s2 s3
  replace q := keep_blk hb2 q
  obtain ⟨s0, s1, s2, s3, -⟩ := q.four
  have t1 : decide (64 < max (nx : Int) (mx : Int)) = false := by simp; omega
  have t2 : decide (64 < max nx mx) = false := by simp; omega
  simp only [if_true]
  go_wp2_with fail
  go_ret
  exact ⟨rfl, hB2⟩

theorem vals_small {w : World} {A : Option Addr} {n c : Nat} {es : List WE} (hL : WL w A n c es) (kp : pOk es = true) : ∀ a ∈ es.map WE.num, a.natAbs < pw 40 := fun a ha => by
  obtain ⟨e, he, rfl⟩ := List.mem_map.1 ha
  obtain ⟨h1, h2⟩ := (pOk_parts kp).2 e he
  exact WE.small (hL.2.2.2.2 e he) h1 h2
theorem above_val (A : Option Addr) (n c : Nat) (es : List WE) (na nb : Bool) (Ax Bx : Option Addr) (nx cx mx dx : Nat) (r : Rat) (w : World) (hL : WL w A n c es) (kp : pOk es = true) (hx : Fr w na Ax nx cx nb Bx mx dx r) (h1 : nx ≤ 64) (h2 : mx ≤ 64) :
    Calls Tryz.prog 43 #[.slice A n c, .agg #[.bool na, .slice Ax nx cx, .bool nb, .slice Bx mx dx]] w (PairW w (aboveS r.num (r.den : Nat) (es.map WE.num)) (((r.den : Nat) : Int) ^ (n - 1))) := by
  have hn9 := pOk_nine kp
  rw [hL.len] at hn9
  have b1 : r.num.natAbs < pw 64 := (length_digits_le _ _).1 (by rw [hx.1.2.2.len]; exact h1)
  have b2 : ((r.den : Nat) : Int).natAbs < pw 64 := (length_digits_le _ _).1 (by rw [hx.2.2.2.len]; exact h2)
  refine above_ok A n c es na nb Ax Bx nx cx mx dx r.num (r.den : Nat) w hL (pOk_ok kp) hn9 hx.1 hx.2 (fun k hk => ?_)
  obtain ⟨f1, f2, f3, f4⟩ := above_small b1 b2 (vals_small hL kp) (by rw [List.length_map]; exact hL.len) hn9 k hk
  exact ⟨f1, f2, f3, fun e he => f4 _ (List.mem_map_of_mem he)⟩

set_option maxRecDepth 100000 in
set_option maxHeartbeats 1000000 in
theorem Sign_ok (A : Option Addr) (n c : Nat) (es : List WE) (na nb : Bool) (Ax Bx : Option Addr) (nx cx mx dx : Nat) (r : Rat) (w : World) (hL : WL w A n c es) (kp : pOk es = true) (hx : Fr w na Ax nx cx nb Bx mx dx r) (h1 : nx ≤ 64) (h2 : mx ≤ 64) :
    Calls Tryz.prog 14 #[.slice A n c, .agg #[.bool na, .slice Ax nx cx, .bool nb, .slice Bx mx dx]] w fun e w' => e = .returned (.tuple #[.int .i64 (cmpZ (aboveS r.num (r.den : Nat) (es.map WE.num)) 0), .int .i64 0]) ∧ Below w.heap.size w w' := by
  obtain ⟨s, hs⟩ : ∃ s, aboveS r.num (r.den : Nat) (es.map WE.num) = s := ⟨_, rfl⟩
  obtain ⟨v, hv⟩ : ∃ v, cmpZ s 0 = v := ⟨_, rfl⟩
  rw [hs, hv]
  replace hv := hide hv
  obtain ⟨W0, hW0, hB, q, sz⟩ := alloc1 w 27 #[.bool na, .slice Ax nx cx, .bool nb, .slice Bx mx dx]
  replace hL := hide hL
  replace hx := hide hx
  have hkp := hide kp
  clear kp
  obtain ⟨s0, s1, s2, s3, -⟩ := q.four
  go_enter Tryz.func14, Tryz.ntmps14
  go_wp2_with fail
  refine (look_ok A n c es na nb Ax Bx nx cx mx dx r W0 (hL.out.below hB) hkp.out (hx.out.below hB) h1 h2).mono ?_
  rintro e w1 ⟨rfl, hb1⟩
  have hB1 := hB.trans (hb1.mono hB.size)
  clear s0 s1 s2 s3
  replace q := keep_blk hb1 q
  obtain ⟨s0, s1, s2, s3, -⟩ := q.four
  go_wp2_with fail
  refine (above_val A n c es na nb Ax Bx nx cx mx dx r w1 (hL.out.below hB1) hkp.out (hx.out.below hB1) h1 h2).mono ?_
  rw [hs]
  replace hs := hide hs
  rintro e w2 ⟨hb2, n1, A1, k1, c1, n2, A2, k2, c2, rfl, hw1, hw2⟩
  have hB2 := hB1.trans (hb2.mono hB1.size)
  clear s0 s1 s2 s3 q
  obtain ⟨W3, hW3, hB3, ⟨qa, qb⟩, sz3⟩ := alloc2 w2 25 #[.bool false, .slice none 0 0] 25 #[.bool false, .slice none 0 0]
  replace hw1 := hw1.below hB3
  have y := qa.two
  obtain ⟨y0, y1, y2, y3⟩ := y
  obtain ⟨W4, hW4, hB4, qa, st⟩ := set_num n1 A1 k1 c1 hB3 (Nat.le_refl _) qa
  replace qb := st.2.1 _ _ _ (by omega) qb
  replace hw1 := st.1 _ _ _ _ _ hw1
  obtain ⟨u0, u1, u2, u3⟩ := qb.two
  obtain ⟨W5, hW5, hB5, qb, st5⟩ := set_num n2 A2 k2 c2 hB4 (show w2.heap.size ≤ w2.heap.size + 1 by omega) qb
  replace qa := st5.2.1 _ _ _ (by omega) qa
  replace hw1 := hide (st5.1 _ _ _ _ _ hw1)
  clear st st5 qb hw2
  obtain ⟨v0, v1, -, -⟩ := qa.two
  have hBe := hB2.trans (hB5.mono hB2.size)
  go_wp2_with fail
  refine (wSign_ok n1 A1 k1 c1 s W5 hw1.out).mono ?_
  rw [hv.out]
  rintro e w6 ⟨rfl, hb6⟩
  have hB6 := hBe.trans (hb6.mono hBe.size)
  go_wp2_with fail
  go_returns
  exact ⟨rfl, hB6⟩

set_option maxRecDepth 100000 in
set_option maxHeartbeats 1000000 in
theorem Eval_ok (A : Option Addr) (n c : Nat) (es : List WE) (na nb : Bool) (Ax Bx : Option Addr) (nx cx mx dx : Nat) (r : Rat) (w : World) (hL : WL w A n c es) (kp : pOk es = true) (hx : Fr w na Ax nx cx nb Bx mx dx r) (h1 : nx ≤ 64) (h2 : mx ≤ 64) :
    Calls Tryz.prog 23 #[.slice A n c, .agg #[.bool na, .slice Ax nx cx, .bool nb, .slice Bx mx dx]] w (FracE w (evalQ (es.map WE.num) r)) := by
  have hden : (0 : Int) < (r.den : Nat) := by have := r.den_pos; omega
  have hval : Rat.divInt (aboveS r.num (r.den : Nat) (es.map WE.num)) (((r.den : Nat) : Int) ^ (n - 1)) = evalQ (es.map WE.num) r := by
    have h := above_make (num := r.num) hden (es.map WE.num)
    rw [List.length_map, hL.len, Rat.num_divInt_den r] at h
    exact h
  have hpos : (0 : Int) < ((r.den : Nat) : Int) ^ (n - 1) := Int.pow_pos hden
  obtain ⟨s, hs⟩ : ∃ s, aboveS r.num (r.den : Nat) (es.map WE.num) = s := ⟨_, rfl⟩
  obtain ⟨dn, hdn⟩ : ∃ dn, ((r.den : Nat) : Int) ^ (n - 1) = dn := ⟨_, rfl⟩
  rw [hs, hdn] at hval
  rw [hdn] at hpos
  obtain ⟨v, hv⟩ : ∃ v, evalQ (es.map WE.num) r = v := ⟨_, rfl⟩
  rw [hv] at hval ⊢
  replace hv := hide hv
  replace hval := hide hval
  obtain ⟨W0, hW0, hB, ⟨q, qr⟩, sz⟩ := alloc2 w 27 #[.bool na, .slice Ax nx cx, .bool nb, .slice Bx mx dx] 27 #[.bool false, .slice none 0 0, .bool false, .slice none 0 0]
  replace hL := hide hL
  replace hx := hide hx
  have hkp := hide kp
  clear kp
  obtain ⟨s0, s1, s2, s3, -⟩ := q.four
  go_enter Tryz.func23, Tryz.ntmps23
  go_wp2_with fail
  refine (look_ok A n c es na nb Ax Bx nx cx mx dx r W0 (hL.out.below hB) hkp.out (hx.out.below hB) h1 h2).mono ?_
  rintro e w1 ⟨rfl, hb1⟩
  have hB1 := hB.trans (hb1.mono hB.size)
  clear s0 s1 s2 s3
  replace q := keep_blk hb1 q
  replace qr := keep_blk hb1 qr
  obtain ⟨s0, s1, s2, s3, -⟩ := q.four
  go_wp2_with fail
  refine (above_val A n c es na nb Ax Bx nx cx mx dx r w1 (hL.out.below hB1) hkp.out (hx.out.below hB1) h1 h2).mono ?_
  rw [hs, hdn]
  replace hs := hide hs
  replace hdn := hide hdn
  rintro e w2 ⟨hb2, n1, A1, k1, c1, n2, A2, k2, c2, rfl, hw1, hw2⟩
  have hB2 := hB1.trans (hb2.mono hB1.size)
  clear s0 s1 s2 s3
  replace qr := keep_blk hb2 qr
  obtain rfl : n2 = false := by rw [hw2.1]; simp; omega
  go_wp2_with fail
  refine (Make_pos n1 A1 A2 k1 c1 k2 c2 s dn w2 hw1 hw2 hpos).mono ?_
  rw [hval.out]
  rintro e w3 ⟨hb3, n3, A3, k3, c3, m3, B3, j3, d3, rfl, hF⟩
  have hB3 := hB2.trans (hb3.mono hB2.size)
  replace qr := keep_blk hb3 qr
  obtain ⟨z0, z1, z2, z3, z4, z5, z6, z7⟩ := qr.four
  obtain ⟨W4, hW4, hB4, qz, st⟩ := set_frac n3 A3 k3 c3 m3 B3 j3 d3 hB3 (show w.heap.size ≤ w.heap.size + 1 by omega) qr
  have hF2 : Hid (Fr W4 n3 A3 k3 c3 m3 B3 j3 d3 v) := hide ⟨st.1 _ _ _ _ _ hF.1, st.1 _ _ _ _ _ hF.2⟩
  obtain ⟨t0, t1, t2, t3, -⟩ := qz.four
  have hlt := qz.lt
  clear st qr hF
  go_wp2_with fail
  refine bodyPost_ret (v := .tuple #[.agg #[.bool n3, .slice A3 k3 c3, .bool m3, .slice B3 j3 d3], .int .i64 0]) (by simp [results, Tryz.results23, go_sem, t0, t1, t2, t3, hlt]) rfl ?_
  exact ⟨hB4, _, _, _, _, _, _, _, _, rfl, hF2.out⟩
end Go.Proofs.YtljocgdhdilglaaGreat
