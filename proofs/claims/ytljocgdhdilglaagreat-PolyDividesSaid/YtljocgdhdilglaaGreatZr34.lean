/- Values of polynomials at fractions; sums, products and derivatives (plain). The value of a polynomial at a fraction, times the denominator to the power of the degree (plain). Package poly: Content, Primitive; wide.Sign; sizes of values. Package poly: common, Gcd, Free, out of a contract of divide (still to be proved: DivC). Package poly: Gcd, Free, out of a contract of divide (DivC). -/
import Derived.Test.YtljocgdhdilglaaGreatZr16
import Derived.Test.YtljocgdhdilglaaGreatZr33
import Derived.Test.YtljocgdhdilglaaGreatZr19
import Derived.Test.YtljocgdhdilglaaGreatZr22
import Derived.Test.YtljocgdhdilglaaGreatZr18
set_option linter.unusedSimpArgs false
set_option linter.unusedVariables false

namespace Go.Proofs.YtljocgdhdilglaaGreat

/-- The value at a fraction. -/
def evalQ : List Int → Rat → Rat
  | [], _ => 0
  | a :: l, x => (a : Rat) + x * evalQ l x
theorem evalQ_trim (p : List Int) (x : Rat) : evalQ (trimP p) x = evalQ p x := by
  induction p with
  | nil => rfl
  | cons a l ih =>
    rw [trimP]
    cases h : trimP l with
    | nil =>
      rw [h] at ih
      by_cases ha : a = 0
      · simp only [ha, if_true, evalQ, ← ih]; grind
      · simp only [if_neg ha, evalQ, ← ih]
    | cons y m =>
      rw [h] at ih
      show (a : Rat) + x * evalQ (y :: m) x = _
      rw [ih]; rfl
theorem getD_trim (p : List Int) (i : Nat) : (trimP p)[i]?.getD 0 = p[i]?.getD 0 := by
  induction p generalizing i with
  | nil => rfl
  | cons a l ih =>
    rw [trimP]
    cases h : trimP l with
    | nil =>
      rw [h] at ih
      cases i with
      | zero => by_cases ha : a = 0 <;> simp [ha]
      | succ i =>
        have := ih i
        by_cases ha : a = 0
        · simp [ha]; simpa using this
        · simp [ha]; simpa using this
    | cons y m =>
      rw [h] at ih
      cases i with
      | zero => simp
      | succ i => simpa using ih i
/-- A trimmed polynomial is known by its coefficients. -/
theorem trimP_ext {p q : List Int} (h : ∀ i : Nat, p[i]?.getD 0 = q[i]?.getD 0) : trimP p = trimP q := by
  induction p generalizing q with
  | nil =>
    have key : ∀ q : List Int, (∀ i : Nat, q[i]?.getD 0 = 0) → trimP q = [] := by
      intro q
      induction q with
      | nil => intro _; rfl
      | cons a l ih =>
        intro h
        have h0 := h 0
        simp at h0
        rw [trimP, ih (fun i => by have := h (i + 1); simpa using this)]
        simp [h0]
    rw [key q (fun i => by rw [← h i]; simp)]
    rfl
  | cons a l ih =>
    cases q with
    | nil =>
      have key : ∀ q : List Int, (∀ i : Nat, q[i]?.getD 0 = 0) → trimP q = [] := by
        intro q
        induction q with
        | nil => intro _; rfl
        | cons a l ih =>
          intro h
          have h0 := h 0
          simp at h0
          rw [trimP, ih (fun i => by have := h (i + 1); simpa using this)]
          simp [h0]
      rw [key (a :: l) (fun i => by rw [h i]; simp)]
      rfl
    | cons b m =>
      have h0 := h 0
      simp at h0
      have h1 := ih (q := m) (fun i => by have := h (i + 1); simpa using this)
      rw [trimP, trimP, h1, h0]

def qsum (f : Nat → Rat) : Nat → Rat
  | 0 => 0
  | n + 1 => qsum f n + f n
theorem qsum_congr {f g : Nat → Rat} {n : Nat} (h : ∀ i, i < n → f i = g i) : qsum f n = qsum g n := by
  induction n with
  | zero => rfl
  | succ n ih => rw [qsum, qsum, ih (fun i hi => h i (by omega)), h n (by omega)]
theorem qsum_shift (f : Nat → Rat) (n : Nat) : qsum f (n + 1) = f 0 + qsum (fun i => f (i + 1)) n := by
  induction n with
  | zero => simp [qsum]; grind
  | succ n ih => rw [qsum, ih, qsum]; grind
theorem qsum_add (f g : Nat → Rat) (n : Nat) : qsum (fun i => f i + g i) n = qsum f n + qsum g n := by
  induction n with
  | zero => simp only [qsum]; grind
  | succ n ih => rw [qsum, ih, qsum, qsum]; grind
theorem qsum_mul (c : Rat) (f : Nat → Rat) (n : Nat) : qsum (fun i => c * f i) n = c * qsum f n := by
  induction n with
  | zero => simp [qsum]
  | succ n ih => rw [qsum, ih, qsum]; grind
theorem qsum_zero {f : Nat → Rat} {n : Nat} (h : ∀ i, i < n → f i = 0) : qsum f n = 0 := by
  induction n with
  | zero => rfl
  | succ n ih => rw [qsum, ih (fun i hi => h i (by omega)), h n (by omega)]; grind
theorem evalQ_sum (p : List Int) (x : Rat) {n : Nat} (hn : p.length ≤ n) : evalQ p x = qsum (fun i => (p[i]?.getD 0 : Int) * x ^ i) n := by
  induction p generalizing n with
  | nil => rw [qsum_zero (fun i _ => by simp)]; rfl
  | cons a l ih =>
    cases n with
    | zero => simp at hn
    | succ n =>
      rw [qsum_shift]
      have h := ih (n := n) (by simpa using hn)
      rw [evalQ, h, ← qsum_mul]
      have e : qsum (fun i => x * ((l[i]?.getD 0 : Int) * x ^ i)) n = qsum (fun i => (((a :: l)[i + 1]?.getD 0 : Int) : Rat) * x ^ (i + 1)) n := qsum_congr fun i _ => by
        simp only [List.getElem?_cons_succ, Rat.pow_succ]; grind
      rw [e]
      simp [Rat.pow_zero]
theorem range_getD (f : Nat → Int) (n i : Nat) (h : ∀ j, n ≤ j → f j = 0) : ((List.range n).map f)[i]?.getD 0 = f i := by
  by_cases hi : i < n
  · simp [hi]
  · rw [List.getElem?_eq_none (by simp; omega), h i (by omega)]; rfl
theorem getD_out {p : List Int} {i : Nat} (h : p.length ≤ i) : p[i]?.getD 0 = 0 := by rw [List.getElem?_eq_none h]; rfl
theorem evalQ_add (p q : List Int) (x : Rat) : evalQ ((List.range (max p.length q.length)).map fun i => p[i]?.getD 0 + q[i]?.getD 0) x = evalQ p x + evalQ q x := by
  rw [evalQ_sum _ x (n := max p.length q.length) (by simp), evalQ_sum p x (n := max p.length q.length) (by omega), evalQ_sum q x (n := max p.length q.length) (by omega), ← qsum_add]
  refine qsum_congr fun i _ => ?_
  rw [range_getD (fun i => p[i]?.getD 0 + q[i]?.getD 0) _ _ (fun j hj => by rw [getD_out (by omega), getD_out (by omega)]; rfl), Rat.intCast_add]
  grind
theorem evalQ_sub (p q : List Int) (x : Rat) : evalQ ((List.range (max p.length q.length)).map fun i => p[i]?.getD 0 - q[i]?.getD 0) x = evalQ p x - evalQ q x := by
  have h : evalQ p x = evalQ ((List.range (max p.length q.length)).map fun i => p[i]?.getD 0 - q[i]?.getD 0) x + evalQ q x := by
    rw [evalQ_sum p x (n := max p.length q.length) (by omega), evalQ_sum q x (n := max p.length q.length) (by omega), evalQ_sum ((List.range (max p.length q.length)).map _) x (n := max p.length q.length) (by simp), ← qsum_add]
    refine qsum_congr fun i _ => ?_
    rw [range_getD (fun i => p[i]?.getD 0 - q[i]?.getD 0) _ _ (fun j hj => by rw [getD_out (by omega), getD_out (by omega)]; rfl), Rat.intCast_sub]
    grind
  rw [h]; grind
theorem psum_shift (f : Nat → Int) (n : Nat) : psum f (n + 1) = f 0 + psum (fun i => f (i + 1)) n := by
  induction n with
  | zero => simp [psum]
  | succ n ih => rw [psum, ih, psum]; omega
theorem coP_cons (a : Int) (p q : List Int) (j : Nat) : coP (a :: p) q (j + 1) = a * q[j + 1]?.getD 0 + coP p q j := by
  unfold coP
  rw [psum_shift]
  simp only [List.getElem?_cons_zero, Option.getD_some, Nat.sub_zero, List.getElem?_cons_succ, Nat.add_sub_add_right]
theorem coP_out {p q : List Int} {j : Nat} (h : p.length + q.length - 1 ≤ j) : coP p q j = 0 := by
  unfold coP
  refine psum_zero fun i hi => ?_
  by_cases h1 : p.length ≤ i
  · rw [getD_out h1]; simp
  · rw [getD_out (p := q) (by omega)]; simp
theorem evalQ_mul_n (p q : List Int) (x : Rat) {n : Nat} (hn : p.length + q.length ≤ n) : qsum (fun j => (coP p q j : Int) * x ^ j) n = evalQ p x * evalQ q x := by
  induction p generalizing n with
  | nil =>
    rw [qsum_zero (fun i _ => by rw [show coP [] q i = 0 from psum_zero (fun _ _ => by simp)]; simp)]
    simp [evalQ]
  | cons a l ih =>
    cases n with
    | zero => simp at hn
    | succ n =>
      simp only [List.length_cons] at hn
      have h := ih (n := n) (by omega)
      rw [qsum_shift]
      have e : qsum (fun i => (coP (a :: l) q (i + 1) : Int) * x ^ (i + 1)) n = qsum (fun i => (a : Rat) * ((q[i + 1]?.getD 0 : Int) * x ^ (i + 1))) n + qsum (fun i => x * ((coP l q i : Int) * x ^ i)) n := by
        rw [← qsum_add]
        refine qsum_congr fun i _ => ?_
        rw [coP_cons, Rat.intCast_add, Rat.intCast_mul, Rat.pow_succ]
        grind
      have e0 : coP (a :: l) q 0 = a * q[0]?.getD 0 := by simp [coP, psum]
      rw [e, qsum_mul, qsum_mul, h, e0]
      have hq := evalQ_sum q x (n := n + 1) (by omega)
      rw [qsum_shift] at hq
      show _ = ((a : Rat) + x * evalQ l x) * evalQ q x
      rw [Rat.add_mul, hq, Rat.intCast_mul]
      rw [← hq]
      simp only [Rat.pow_zero] at hq ⊢
      grind
theorem evalQ_mul (p q : List Int) (x : Rat) : evalQ (mulP p q) x = evalQ p x * evalQ q x := by
  rw [evalQ_sum (mulP p q) x (n := p.length + q.length) (by simp [mulP]), ← evalQ_mul_n p q x (Nat.le_refl _)]
  refine qsum_congr fun i _ => ?_
  rw [mulP, range_getD (coP p q) _ _ (fun j hj => coP_out hj)]
theorem mulP_getD (p q : List Int) (i : Nat) : (mulP p q)[i]?.getD 0 = coP p q i := by
  rw [mulP, range_getD (coP p q) _ _ (fun j hj => coP_out hj)]
theorem derP_getD (p : List Int) (i : Nat) : (derP p)[i]?.getD 0 = p[i + 1]?.getD 0 * ((i + 1 : Nat) : Int) := by
  rw [derP, range_getD (fun i => p[i + 1]?.getD 0 * ((i + 1 : Nat) : Int)) _ _ (fun j hj => by rw [getD_out (by omega)]; simp)]
theorem coP_congr {p p' q q' : List Int} (hp : ∀ i : Nat, p[i]?.getD 0 = p'[i]?.getD 0) (hq : ∀ i : Nat, q[i]?.getD 0 = q'[i]?.getD 0) (j : Nat) : coP p q j = coP p' q' j := by
  unfold coP
  exact psum_congr fun i _ => by rw [hp, hq]
theorem psum_add (f g : Nat → Int) (n : Nat) : psum (fun i => f i + g i) n = psum f n + psum g n := by
  induction n with
  | zero => rfl
  | succ n ih => rw [psum, ih, psum, psum]; omega
theorem psum_mul (f : Nat → Int) (c : Int) (n : Nat) : psum (fun i => f i * c) n = psum f n * c := by
  induction n with
  | zero => simp [psum]
  | succ n ih => rw [psum, ih, psum, Int.add_mul]
/-- The rule of the derivative of a product, coefficient by coefficient. -/
theorem coP_der (p q : List Int) (i : Nat) : coP p q (i + 1) * ((i + 1 : Nat) : Int) = coP (derP p) q i + coP p (derP q) i := by
  have h1 : coP (derP p) q i = psum (fun a => (a : Int) * (p[a]?.getD 0 * q[i + 1 - a]?.getD 0)) (i + 1 + 1) := by
    rw [psum_shift]
    unfold coP
    simp only [Int.natCast_zero, Int.zero_mul, Int.zero_add, Nat.add_sub_add_right]
    exact psum_congr fun a _ => by rw [derP_getD]; grind
  have h2 : coP p (derP q) i = psum (fun a => ((i + 1 : Nat) - (a : Int)) * (p[a]?.getD 0 * q[i + 1 - a]?.getD 0)) (i + 1 + 1) := by
    rw [psum, show ((i + 1 : Nat) : Int) - ((i + 1 : Nat) : Int) = 0 by omega, Int.zero_mul, Int.add_zero]
    unfold coP
    exact psum_congr fun a ha => by
      rw [derP_getD, show i - a + 1 = i + 1 - a by omega]
      have : ((i + 1 - a : Nat) : Int) = ((i + 1 : Nat) : Int) - (a : Int) := by omega
      rw [this]; grind
  rw [h1, h2, ← psum_add]
  unfold coP
  rw [← psum_mul]
  exact psum_congr fun a _ => by grind
/-- The derivative of a product of trimmed polynomials. -/
theorem der_mul (p q : List Int) : trimP (derP (trimP (mulP p q))) = trimP ((List.range (max (trimP (mulP (trimP (derP p)) q)).length (trimP (mulP p (trimP (derP q)))).length)).map fun i => (trimP (mulP (trimP (derP p)) q))[i]?.getD 0 + (trimP (mulP p (trimP (derP q))))[i]?.getD 0) := by
  refine trimP_ext fun i => ?_
  rw [derP_getD, getD_trim, mulP_getD, range_getD (fun i => (trimP (mulP (trimP (derP p)) q))[i]?.getD 0 + (trimP (mulP p (trimP (derP q))))[i]?.getD 0) _ _ (fun j hj => by rw [getD_out (by omega), getD_out (by omega)]; rfl)]
  rw [getD_trim, getD_trim, mulP_getD, mulP_getD, coP_der]
  rw [coP_congr (getD_trim (derP p)) (fun _ => rfl), coP_congr (fun _ => rfl) (getD_trim (derP q))]
end Go.Proofs.YtljocgdhdilglaaGreat

namespace Go.Proofs.YtljocgdhdilglaaGreat

def aboveS (num xd : Int) : List Int → Int
  | [] => 0
  | a :: l => aboveS num xd l * num + a * xd ^ l.length
theorem above_eval {num xd : Int} (h : 0 < xd) (p : List Int) : ((aboveS num xd p : Int) : Rat) = evalQ p (Rat.divInt num xd) * ((xd ^ (p.length - 1) : Int) : Rat) := by
  have hx : (xd : Rat) ≠ 0 := by
    intro h0; have : xd = 0 := by exact_mod_cast h0
    omega
  have hq : Rat.divInt num xd * (xd : Rat) = (num : Rat) := by rw [Rat.divInt_eq_div]; grind
  generalize Rat.divInt num xd = x at *
  induction p with
  | nil => simp [aboveS, evalQ]
  | cons a l ih =>
    cases l with
    | nil => simp [aboveS, evalQ]; grind
    | cons b m =>
      simp only [List.length_cons, Nat.add_sub_cancel] at ih ⊢
      rw [aboveS, Rat.intCast_add, Rat.intCast_mul, ih, Rat.intCast_mul]
      show evalQ (b :: m) x * ((xd ^ m.length : Int) : Rat) * num + a * ((xd ^ (m.length + 1) : Int) : Rat) = ((a : Rat) + x * evalQ (b :: m) x) * ((xd ^ (m.length + 1) : Int) : Rat)
      have e : ((xd ^ (m.length + 1) : Int) : Rat) = ((xd ^ m.length : Int) : Rat) * xd := by rw [Int.pow_succ, Rat.intCast_mul]
      rw [e, ← hq]
      grind
theorem above_make {num xd : Int} (h : 0 < xd) (p : List Int) : Rat.divInt (aboveS num xd p) (xd ^ (p.length - 1)) = evalQ p (Rat.divInt num xd) := by
  have hp : 0 < xd ^ (p.length - 1) := Int.pow_pos h
  have h0 : ((xd ^ (p.length - 1) : Int) : Rat) ≠ 0 := by
    intro h0; have : xd ^ (p.length - 1) = 0 := by exact_mod_cast h0
    omega
  rw [Rat.divInt_eq_div, above_eval h]
  generalize ((xd ^ (p.length - 1) : Int) : Rat) = d at *
  grind
theorem aboveS_le {num xd : Int} {M P : Nat} (hn : num.natAbs ≤ P) (hx : xd.natAbs ≤ P) (hP : 1 ≤ P) {p : List Int} (hp : ∀ a ∈ p, a.natAbs ≤ M) : (aboveS num xd p).natAbs ≤ p.length * (M * P ^ p.length) := by
  induction p with
  | nil => simp [aboveS]
  | cons a l ih =>
    have h1 := ih (fun b hb => hp b (List.mem_cons_of_mem _ hb))
    have h2 := hp a (List.mem_cons_self ..)
    have h3 : (aboveS num xd l * num).natAbs ≤ l.length * (M * P ^ (l.length + 1)) := by
      rw [Int.natAbs_mul, Nat.pow_succ]
      calc (aboveS num xd l).natAbs * num.natAbs ≤ (l.length * (M * P ^ l.length)) * P := Nat.mul_le_mul h1 hn
        _ = l.length * (M * (P ^ l.length * P)) := by simp only [Nat.mul_assoc]
    have h4 : (a * xd ^ l.length).natAbs ≤ M * P ^ (l.length + 1) := by
      rw [Int.natAbs_mul, Int.natAbs_pow]
      refine Nat.mul_le_mul h2 (Nat.le_trans (Nat.pow_le_pow_left hx _) ?_)
      exact Nat.pow_le_pow_right hP (by omega)
    simp only [List.length_cons, aboveS]
    rw [Nat.succ_mul]
    omega
theorem aboveS_append (num xd : Int) (p : List Int) (k : Nat) (h : k < p.length) : aboveS num xd (p.drop k) = aboveS num xd (p.drop (k + 1)) * num + p[k]?.getD 0 * xd ^ (p.length - (k + 1)) := by
  rw [List.drop_eq_getElem_cons h, aboveS, List.getElem?_eq_getElem h, List.length_drop]
  rfl
end Go.Proofs.YtljocgdhdilglaaGreat

namespace Go.Proofs.YtljocgdhdilglaaGreat
open Go.RowKit
attribute [local go_sem] add_lit

theorem contP_ne {p : List Int} (h : p[p.length - 1]?.getD 0 ≠ 0) : contP p ≠ 0 := by
  obtain ⟨k, hk⟩ : ∃ k, p.length = k + 1 := by
    cases hl : p.length with
    | zero => rw [List.eq_nil_of_length_eq_zero hl] at h; simp at h
    | succ k => exact ⟨k, rfl⟩
  rw [hk, Nat.add_sub_cancel] at h
  unfold contP
  rw [hk]
  show gcdZ _ _ ≠ 0
  unfold gcdZ
  have : 0 < Nat.gcd (contK p k).natAbs (p[k]?.getD 0).natAbs := Nat.gcd_pos_of_pos_right _ (by omega)
  omega
theorem signP_ne {p : List Int} (h : p[p.length - 1]?.getD 0 ≠ 0) : signP p ≠ 0 := by
  have := contP_ne h
  unfold signP
  split <;> omega
theorem pOk_end {w : World} {A : Option Addr} {n c : Nat} {es : List WE} (hL : WL w A n c es) (kp : pOk es = true) : n = 0 ∨ (es.map WE.num)[(es.map WE.num).length - 1]?.getD 0 ≠ 0 := by
  obtain ⟨_, hpk⟩ := pOk_parts kp
  rcases Nat.eq_zero_or_pos n with h | h
  · exact .inl h
  · refine .inr ?_
    have hl := hL.len
    have hm : es[n - 1]? = some (es[n - 1]'(by omega)) := List.getElem?_eq_getElem (by omega)
    have hmem : es[n - 1]'(by omega) ∈ es := List.getElem_mem _
    generalize es[n - 1]'(by omega) = e at hm hmem
    rw [List.length_map, hl, List.getElem?_map, hm]
    have hz := WE.num_zero (hL.2.2.2.2 e hmem) (hpk e hmem).1
    intro h0
    have hn0 := hz.2 h0
    have hgl : es.getLast? = some e := by rw [List.getLast?_eq_getElem?, hl]; exact hm
    unfold pOk at kp
    rw [hgl] at kp
    simp at kp
    have h3 := (hL.2.2.2.2 e hmem).len
    exact kp.2 (List.eq_nil_of_length_eq_zero (by omega))
theorem pOk_nine {es : List WE} (kp : pOk es = true) : es.length ≤ 9 := (pOk_parts kp).1
theorem pOk_ok {es : List WE} (kp : pOk es = true) : ∀ e ∈ es, e.ok = true := fun e he => ((pOk_parts kp).2 e he).1

set_option maxRecDepth 100000 in
set_option maxHeartbeats 1000000 in
theorem Content_ok (A : Option Addr) (n c : Nat) (es : List WE) (w : World) (hL : WL w A n c es) (kp : pOk es = true) :
    Calls Tryz.prog 32 #[.slice A n c] w (ResW w (contP (es.map WE.num))) := by
  obtain ⟨W0, hW0, hB, q, sz⟩ := alloc1 w 25 #[.bool false, .slice none 0 0]
  replace hL := hide hL
  have hkp := hide kp
  clear kp
  go_enter Tryz.func32, Tryz.ntmps32
  go_wp2_with fail
  refine (pCheck_any A n c es W0 (hL.out.below hB)).mono ?_
  rintro e w1 ⟨he, hb1⟩
  rw [hkp.out] at he
  simp only [errOf, if_true] at he
  subst he
  have hB1 := hB.trans (hb1.mono hB.size)
  replace q := keep_blk hb1 q
  go_wp2_with fail
  refine (content_ok A n c es w1 (hL.out.below hB1) (pOk_ok hkp.out)).mono ?_
  rintro e w2 ⟨hb2, ng, Ag, kg, cg, rfl, hg⟩
  have hB2 := hB1.trans (hb2.mono hB1.size)
  replace q := keep_blk hb2 q
  obtain ⟨s0, s1, s2, s3⟩ := q.two
  obtain ⟨Z, hZ, hBZ, qz, st⟩ := set_num ng Ag kg cg hB2 (Nat.le_refl _) q
  have hg2 := hide (st.1 _ _ _ _ _ hg)
  obtain ⟨t0, t1, t2, t3⟩ := qz.two
  have hlt := qz.lt
  clear st q hg
  go_wp2_with fail
  refine bodyPost_ret (v := .tuple #[.agg #[.bool ng, .slice Ag kg cg], .int .i64 0]) (by simp [results, Tryz.results32, go_sem, t0, t1, hlt]) rfl ?_
  exact ⟨hBZ, _, _, _, _, _, rfl, .inl ⟨hg2.out.small, rfl, hg2.out⟩⟩

set_option maxRecDepth 100000 in
set_option maxHeartbeats 1000000 in
theorem Primitive_ok (A : Option Addr) (n c : Nat) (es : List WE) (w : World) (hL : WL w A n c es) (kp : pOk es = true) :
    Calls Tryz.prog 19 #[.slice A n c] w (ResPoly w (partP (es.map WE.num))) := by
  have hn9 := pOk_nine kp
  rw [hL.len] at hn9
  have hsg : n = 0 ∨ signP (es.map WE.num) ≠ 0 := (pOk_end hL kp).imp id signP_ne
  replace hL := hide hL
  replace hsg := hide hsg
  have hkp := hide kp
  clear kp
  go_enter Tryz.func19, Tryz.ntmps19
  go_wp2_with fail
  refine (pCheck_any A n c es w hL.out).mono ?_
  rintro e w1 ⟨he, hb1⟩
  rw [hkp.out] at he
  simp only [errOf, if_true] at he
  subst he
  go_wp2_with fail
  refine (part_ok A n c es w1 (hL.out.below hb1) (pOk_ok hkp.out) (by omega) hsg.out).mono ?_
  rintro e w2 ⟨hb2, A', c', rfl, hP⟩
  have hB2 := hb1.trans (hb2.mono hb1.size)
  go_wp2_with fail
  refine (pmade_any A' n c' _ w2 hP).mono ?_
  rintro e w3 ⟨hb3, A3, n3, c3, code, rfl, hR⟩
  have hB3 := hB2.trans (hb3.mono hB2.size)
  replace hR := hide hR
  go_wp2_with fail
  go_returns
  exact ⟨hB3, _, _, _, _, rfl, hR.out⟩

set_option maxRecDepth 100000 in
set_option maxHeartbeats 1000000 in
theorem wSign_ok (na : Bool) (A : Option Addr) (n c : Nat) (z : Int) (w : World) (hz : Wd w na A n c z) :
    Calls Tryz.prog 44 #[.agg #[.bool na, .slice A n c]] w fun e w' => e = .returned (.tuple #[.int .i64 (cmpZ z 0), .int .i64 0]) ∧ Below w.heap.size w w' := by
  obtain ⟨r, hr⟩ : ∃ r, cmpZ z 0 = r := ⟨_, rfl⟩
  rw [hr]
  obtain ⟨W0, hW0, hB, q, sz⟩ := alloc1 w 25 #[.bool na, .slice A n c]
  replace hz := hide (hz.below hB)
  obtain ⟨s0, s1, -, -⟩ := q.two
  go_enter Tryz.func44, Tryz.ntmps44
  go_wp2_with fail
  refine (Cmp_ok na false A none n c 0 0 z 0 W0 hz.out (Wd.zero _)).mono ?_
  rintro e w1 ⟨rfl, hb1⟩
  have hB1 := hB.trans (hb1.mono hB.size)
  rw [hr]
  replace hr := hide hr
  go_wp2_with fail
  go_returns
  exact ⟨rfl, hB1⟩

theorem above_small0 {num xd : Int} {xs : List Int} {n M P B : Nat} (hx : num.natAbs ≤ P) (hd : xd.natAbs ≤ P) (hP : 1 ≤ P) (hM : 1 ≤ M) (hp : ∀ a ∈ xs, a.natAbs ≤ M) (hl : xs.length = n) (hn : n ≤ 9) (hB : 9 * (M * P ^ 9) * P < B) (k : Nat) (hk : k ≤ n) :
    (aboveS num xd (xs.drop (n - k)) * num).natAbs < B ∧ (aboveS num xd (xs.drop (n - k))).natAbs < B ∧ (xd ^ k).natAbs < B ∧ ∀ a ∈ xs, (a * xd ^ k).natAbs < B := by
  have h1 := aboveS_le (num := num) (xd := xd) (M := M) (P := P) hx hd hP (p := xs.drop (n - k)) (fun a ha => hp a (List.mem_of_mem_drop ha))
  have hdl : (xs.drop (n - k)).length = k := by rw [List.length_drop]; omega
  rw [hdl] at h1
  have hpk : P ^ k ≤ P ^ 9 := Nat.pow_le_pow_right hP (by omega)
  have h2 : k * (M * P ^ k) ≤ 9 * (M * P ^ 9) := Nat.mul_le_mul (by omega) (Nat.mul_le_mul (Nat.le_refl _) hpk)
  have h5 : (xd ^ k).natAbs ≤ P ^ 9 := by
    rw [Int.natAbs_pow]
    exact Nat.le_trans (Nat.pow_le_pow_left hd _) hpk
  have h6 : P ^ 9 ≤ M * P ^ 9 := Nat.le_mul_of_pos_left _ hM
  have h7 : M * P ^ 9 ≤ 9 * (M * P ^ 9) := Nat.le_mul_of_pos_left _ (by decide)
  have h8 : 9 * (M * P ^ 9) ≤ 9 * (M * P ^ 9) * P := Nat.le_mul_of_pos_right _ hP
  have h9 : ∀ a ∈ xs, (a * xd ^ k).natAbs ≤ M * P ^ 9 := fun a ha => by
    rw [Int.natAbs_mul]
    exact Nat.mul_le_mul (hp a ha) h5
  have h10 : (aboveS num xd (xs.drop (n - k)) * num).natAbs ≤ 9 * (M * P ^ 9) * P := by
    rw [Int.natAbs_mul]
    exact Nat.mul_le_mul (Nat.le_trans h1 h2) hx
  generalize M * P ^ 9 = T at *
  generalize P ^ 9 = U at *
  generalize 9 * T * P = V at *
  exact ⟨by omega, by omega, by omega, fun a ha => by have := h9 a ha; omega⟩
theorem pw_pow (a b : Nat) : pw a ^ b = pw (a * b) := by unfold pw; rw [Nat.pow_mul]
theorem above_bound : 9 * (pw 40 * pw 64 ^ 9) * pw 64 < pw 4096 := by
  have h1 : pw 64 ^ 9 = pw 576 := pw_pow 64 9
  rw [h1, ← pw_add, Nat.mul_assoc, ← pw_add]
  have h2 : 9 * pw (40 + 576 + 64) ≤ pw 681 := by
    have h4 := pw_succ (40 + 576 + 64)
    have h5 : pw 681 = pw (40 + 576 + 64 + 1) := congrArg pw rfl
    rw [h5, h4]
    generalize pw (40 + 576 + 64) = x
    omega
  exact Nat.lt_of_le_of_lt h2 (pw_lt (by decide))
/-- All that 'above' reckons stays small. -/
theorem above_small {num xd : Int} {xs : List Int} {n : Nat} (hx : num.natAbs < pw 64) (hd : xd.natAbs < pw 64) (hp : ∀ a ∈ xs, a.natAbs < pw 40) (hl : xs.length = n) (hn : n ≤ 9) (k : Nat) (hk : k ≤ n) :
    (aboveS num xd (xs.drop (n - k)) * num).natAbs < pw 4096 ∧ (aboveS num xd (xs.drop (n - k))).natAbs < pw 4096 ∧ (xd ^ k).natAbs < pw 4096 ∧ ∀ a ∈ xs, (a * xd ^ k).natAbs < pw 4096 :=
  above_small0 (Nat.le_of_lt hx) (Nat.le_of_lt hd) (pw_pos 64) (pw_pos 40) (fun a ha => Nat.le_of_lt (hp a ha)) hl hn above_bound k hk
end Go.Proofs.YtljocgdhdilglaaGreat

namespace Go.Proofs.YtljocgdhdilglaaGreat
open Go.RowKit
attribute [local go_sem] add_lit

/-- The contract of divide. -/
def DivC : Prop := ∀ (A B : Option Addr) (n c m d : Nat) (ps qs : List Int) (w : World), PolyL w A n c ps → PolyL w B m d qs → n ≤ 100 → okDivP ps qs = true →
  Calls Tryz.prog 37 #[.slice A n c, .slice B m d] w fun e w' => Below w.heap.size w w' ∧ ∃ A1 n1 c1 A2 n2 c2, e = .returned (.tuple #[.slice A1 n1 c1, .slice A2 n2 c2]) ∧ PolyL w' A1 n1 c1 (trimP (divP ps qs).1) ∧ PolyL w' A2 n2 c2 (divP ps qs).2

theorem part_any (A : Option Addr) (n c : Nat) (ps : List Int) (w : World) (h : PolyL w A n c ps) (hn : n ≤ 1000) (hg : n = 0 ∨ signP ps ≠ 0) :
    Calls Tryz.prog 41 #[.slice A n c] w fun e w' => Below w.heap.size w w' ∧ ∃ A' c', e = .returned (.slice A' n c') ∧ PolyL w' A' n c' (partP ps) := by
  obtain ⟨es, h1, rfl, h3⟩ := h
  exact part_ok A n c es w h1 h3 hn hg
theorem last_sign {xs : List Int} (h : ∀ x, xs.getLast? = some x → x ≠ 0) : xs.length = 0 ∨ signP xs ≠ 0 := by
  cases hl : xs.length with
  | zero => exact .inl rfl
  | succ k =>
    refine .inr (signP_ne ?_)
    obtain ⟨y, hy⟩ : ∃ y, xs[k]? = some y := ⟨xs[k]'(by omega), List.getElem?_eq_getElem (by omega)⟩
    rw [hl, Nat.add_sub_cancel, hy]
    exact h y (by rw [List.getLast?_eq_getElem?, hl, Nat.add_sub_cancel, hy])
theorem divK_two (q : List Int) : ∀ k quot rest, okDiv q k quot rest = true → (divK q k quot rest).2.length < q.length ∧ ∃ r, (divK q k quot rest).2 = trimP r := by
  intro k
  induction k with
  | zero =>
    intro quot rest h
    simp only [okDiv, Bool.and_eq_true, decide_eq_true_eq] at h
    exact ⟨h.2, rest, rfl⟩
  | succ k ih =>
    intro quot rest h
    simp only [okDiv, Bool.and_eq_true] at h
    unfold divK
    by_cases hl : (trimP rest).length < q.length
    · rw [if_pos hl]; exact ⟨hl, rest, rfl⟩
    · rw [if_neg hl] at h ⊢
      exact ih _ _ h.2
theorem divP_two {p q : List Int} (h : okDivP p q = true) : (divP p q).2.length < q.length ∧ ((divP p q).2.length = 0 ∨ signP (divP p q).2 ≠ 0) := by
  simp only [okDivP, Bool.and_eq_true] at h
  obtain ⟨h1, r, h2⟩ := divK_two q _ _ _ h.2
  refine ⟨h1, ?_⟩
  have e : (divP p q).2 = trimP r := h2
  rw [e]
  exact last_sign (trimP_last r)
def lenOf : Value → Nat
  | .slice _ n _ => n
  | _ => 0
theorem partP_length (p : List Int) : (partP p).length = p.length := by simp [partP]

set_option maxRecDepth 100000 in
set_option maxHeartbeats 1000000 in
theorem common_ok (hD : DivC) (A B : Option Addr) (n c m d : Nat) (ps qs : List Int) (w : World) (hp : PolyL w A n c ps) (hq : PolyL w B m d qs) (hn : n ≤ 100) (hm : m ≤ 100) (sp : n = 0 ∨ signP ps ≠ 0) (sq : m = 0 ∨ signP qs ≠ 0) (hok : okCom ((partP qs).length + 1) (partP ps) (partP qs) = true) :
    Calls Tryz.prog 38 #[.slice A n c, .slice B m d] w (OutP w (comP ps qs)) := by
  have h0 := part_any A n c ps w hp (by omega) sp
  replace hD := hide hD
  replace hq := hide hq
  go_enter Tryz.func38, Tryz.ntmps38
  go_wp2_with fail
  refine h0.mono ?_
  rintro e w1 ⟨hb1, A1, c1, rfl, hP1⟩
  clear h0
  go_wp2_with fail
  refine (part_any B m d qs w1 (hq.out.below hb1) (by omega) sq).mono ?_
  rintro e w2 ⟨hb2, A2, c2, rfl, hP2⟩
  replace hP1 := hP1.below hb2
  have hB2 := hb1.trans (hb2.mono hb1.size)
  go_wp2_with fail
  go_loopw [0, 1] (fun pv qv wr => ∃ (k : Nat) (p q : List Int) (Ap Aq : Option Addr) (cp cq : Nat), pv = .slice Ap p.length cp ∧ qv = .slice Aq q.length cq ∧ PolyL wr Ap p.length cp p ∧ PolyL wr Aq q.length cq q ∧ p.length ≤ 100 ∧ q.length ≤ 100 ∧ Hid (comK k p q = comP ps qs) ∧ Hid (okCom k p q = true) ∧ Below w.heap.size w wr) (fun _ qv _ => lenOf qv)
  case atStart =>
    have l1 := hP1.len
    have l2 := hP2.len
    exact ⟨_, partP ps, partP qs, A1, A2, c1, c2, by rw [l1], by rw [l2], by rw [l1]; exact hP1, by rw [l2]; exact hP2, by omega, by omega, hide rfl, hide hok, hB2⟩
  case round =>
    clear hP1 hP2 hB2 hb2 hb1 hok
    obtain ⟨k, p, q, Ap, Aq, cp, cq, rfl, rfl, hP, hQ, lp, lq, hc, ho, hbr⟩ := hrel
    obtain ⟨np, hnp⟩ : ∃ np, p.length = np := ⟨_, rfl⟩
    obtain ⟨nq, hnq⟩ : ∃ nq, q.length = nq := ⟨_, rfl⟩
    rw [hnp] at hP lp ⊢
    rw [hnq] at hQ lq ⊢
    by_cases h0 : nq = 0
    · have htk : decide ((0 : Int) < (nq : Int)) = false := by simp; omega
      have htk' : decide (0 < nq) = false := by simp; omega
      have hqe : q = [] := List.eq_nil_of_length_eq_zero (by omega)
      have hfin : comP ps qs = p := by
        rw [← hc.out]
        cases k with
        | zero => rfl
        | succ k => unfold comK; rw [if_pos hqe]
      replace hfin := hide hfin
      replace hnp := hide hnp
      replace hnq := hide hnq
      replace h0 := hide h0
      replace hqe := hide hqe
      go_wp2_with fail
      go_ret
      exact ⟨_, _, _, rfl, by rw [hfin.out]; exact hP, hbr⟩
    · have htk : decide ((0 : Int) < (nq : Int)) = true := by simp; omega
      have htk' : decide (0 < nq) = true := by simp; omega
      have hqe : q ≠ [] := by intro h; rw [h] at hnq; simp at hnq; omega
      obtain ⟨j, rfl⟩ : ∃ j, k = j + 1 := by
        cases k with
        | zero => have := ho.out; simp [okCom, hqe] at this
        | succ j => exact ⟨j, rfl⟩
      have hc2 := hc.out
      have ho2 := ho.out
      unfold comK at hc2
      unfold okCom at ho2
      rw [if_neg hqe] at hc2 ho2
      rw [Bool.and_eq_true] at ho2
      obtain ⟨hlt, hsg⟩ := divP_two ho2.1
      have hdv := hD.out Ap Aq np cp nq cq p q wr hP hQ (by omega) ho2.1
      replace hc2 := hide hc2
      replace ho2 := hide ho2
      replace hnp := hide hnp
      rw [hnq] at hlt
      replace hnq := hide hnq
      replace hsg := hide hsg
      replace hqe := hide hqe
      obtain ⟨rr, hrr⟩ : ∃ rr, (divP p q).2 = rr := ⟨_, rfl⟩
      rw [hrr] at hdv hlt hsg hc2 ho2
      replace hrr := hide hrr
      clear hc ho hP
      go_wp2_with fail
      refine hdv.mono ?_
      rintro e w3 ⟨hb3, A3, n3, c3, A4, n4, c4, rfl, -, hR⟩
      clear hdv
      replace hQ := hQ.below hb3
      have hB3 := hbr.trans (hb3.mono hbr.size)
      have l4 := hR.len
      go_wp2_with fail
      refine (part_any A4 n4 c4 rr w3 hR (by omega) (by rw [← l4]; exact hsg.out)).mono ?_
      rintro e w4 ⟨hb4, A5, c5, rfl, hP5⟩
      have hB4 := hB3.trans (hb4.mono hB3.size)
      replace hQ := hide (hQ.below hb4)
      replace hP5 := hide hP5
      replace l4 := hide l4
      have hl5 : (partP rr).length = n4 := by rw [partP_length]; exact l4.out
      replace hl5 := hide hl5
      go_wp2_with fail
      go_roundw
      case rel => exact ⟨j, q, partP rr, Aq, A5, cq, c5, by rw [hnq.out], by rw [hl5.out], by rw [hnq.out]; exact hQ.out, by rw [hl5.out]; exact hP5.out, by rw [hnq.out]; omega, by rw [hl5.out]; have := l4.out; omega, hc2, hide ho2.out.2, hB4⟩
      case measure => simp [lenOf]; have := l4.out; omega
end Go.Proofs.YtljocgdhdilglaaGreat

namespace Go.Proofs.YtljocgdhdilglaaGreat
open Go.RowKit
attribute [local go_sem] add_lit

theorem divK_len (q : List Int) : ∀ k quot rest, (divK q k quot rest).1.length = quot.length := by
  intro k
  induction k with
  | zero => intro quot rest; rfl
  | succ k ih =>
    intro quot rest
    unfold divK
    by_cases h : (trimP rest).length < q.length
    · rw [if_pos h]
    · rw [if_neg h, ih]
      simp [byG, stepQ]
theorem divP_len (p q : List Int) : (trimP (divP p q).1).length ≤ p.length + 1 := by
  refine Nat.le_trans (trimP_length _) ?_
  unfold divP
  rw [divK_len, List.length_replicate]
  omega
theorem pOk_sign {w : World} {A : Option Addr} {n c : Nat} {es : List WE} (hL : WL w A n c es) (kp : pOk es = true) : n = 0 ∨ signP (es.map WE.num) ≠ 0 := (pOk_end hL kp).imp id signP_ne

set_option maxRecDepth 100000 in
set_option maxHeartbeats 1000000 in
theorem pGcd_ok (hD : DivC) (A B : Option Addr) (n c m d : Nat) (ps qs : List WE) (w : World) (hp : WL w A n c ps) (hq : WL w B m d qs) (kp : pOk ps = true) (kq : pOk qs = true) (hok : okCom ((partP (qs.map WE.num)).length + 1) (partP (ps.map WE.num)) (partP (qs.map WE.num)) = true) :
    Calls Tryz.prog 16 #[.slice A n c, .slice B m d] w (ResPoly w (comP (ps.map WE.num) (qs.map WE.num))) := by
  have i0 : ∀ W, (Instr.index 71 (.agg #[.slice A n c, .slice B m d]) (.int .i64 0)).run Tryz.prog W = .ok (.slice A n c) W := fun _ => by kernel_rfl
  have i1 : ∀ W, (Instr.index 71 (.agg #[.slice A n c, .slice B m d]) (.int .i64 1)).run Tryz.prog W = .ok (.slice B m d) W := fun _ => by kernel_rfl
  have hT : ∀ W, WL W A n c ps → WL W B m d qs → Hid (Calls Tryz.prog 38 #[.slice A n c, .slice B m d] W (OutP W (comP (ps.map WE.num) (qs.map WE.num)))) := fun W h1 h2 => hide (by
    have l1 := pOk_nine kp
    have l2 := pOk_nine kq
    rw [h1.len] at l1
    rw [h2.len] at l2
    exact common_ok hD A B n c m d _ _ W ⟨ps, h1, rfl, pOk_ok kp⟩ ⟨qs, h2, rfl, pOk_ok kq⟩ (by omega) (by omega) (pOk_sign h1 kp) (pOk_sign h2 kq) hok)
  replace kp : Hid (errOf (pOk ps) = 0) := by unfold Hid; rw [kp]; rfl
  replace kq : Hid (errOf (pOk qs) = 0) := by unfold Hid; rw [kq]; rfl
  clear hok
  go_enter Tryz.func16, Tryz.ntmps16
  go_wp2_with fail
  refine wp_loop_rounds 3 ?_
  rw [rounds_succ]
  go_wp2_with fail
  refine (pCheck_any _ _ _ _ _ hp).mono ?_
  rintro e w1 ⟨he1, hb1⟩
  rw [kp.out] at he1
  subst he1
  go_wp2_with fail
  rw [rounds_succ]
  go_wp2_with fail
  refine (pCheck_any _ _ _ _ _ (hq.below hb1)).mono ?_
  rintro e w2 ⟨he2, hb2⟩
  rw [kq.out] at he2
  subst he2
  have hB2 : Below w.heap.size w w2 := hb1.trans (hb2.mono hb1.size)
  go_wp2_with fail
  rw [rounds_succ]
  go_wp2_with fail
  refine (hT w2 (hp.below hB2) (hq.below hB2)).out.mono ?_
  rintro e w3 ⟨A3, n3, c3, rfl, hP3, hb3⟩
  have hB3 := hB2.trans (hb3.mono hB2.size)
  clear hT
  go_wp2_with fail
  refine (pmade_any _ _ _ _ _ hP3).mono ?_
  rintro e w4 ⟨hb4, A4, n4, c4, code4, rfl, hR4⟩
  have hB4 := hB3.trans (hb4.mono hB3.size)
  replace hR4 := hide hR4
  go_wp2_with fail
  go_returns
  exact ⟨hB4, _, _, _, _, rfl, hR4.out⟩

set_option maxRecDepth 100000 in
set_option maxHeartbeats 1000000 in
theorem pFree_ok (hD : DivC) (A : Option Addr) (n c : Nat) (ps : List WE) (w : World) (hp : WL w A n c ps) (kp : pOk ps = true) (h0 : 0 < n) (sd : (derP (ps.map WE.num)).length = 0 ∨ signP (derP (ps.map WE.num)) ≠ 0)
    (hok : okCom ((partP (derP (ps.map WE.num))).length + 1) (partP (ps.map WE.num)) (partP (derP (ps.map WE.num))) = true) (hok2 : okDivP (ps.map WE.num) (comP (ps.map WE.num) (derP (ps.map WE.num))) = true) :
    Calls Tryz.prog 12 #[.slice A n c] w (ResPoly w (freeP (ps.map WE.num))) := by
  have l1 := pOk_nine kp
  rw [hp.len] at l1
  have hd0 := fun W (h : WL W A n c ps) => pderived_any A n c ps W h kp
  have hsp := hide (pOk_sign hp kp)
  have hk := pOk_ok kp
  have hP : Hid (∀ W, Below w.heap.size w W → PolyL W A n c (ps.map WE.num)) := hide (fun W hb => ⟨ps, hp.below hb, rfl, hk⟩)
  replace kp : Hid (errOf (pOk ps) = 0) := by unfold Hid; rw [kp]; rfl
  have t0 : ((n : Int) == 0) = false := by simp; omega
  have t0' : decide (n = 0) = false := by simp; omega
  have t0'' : (n == 0) = false := by simp; omega
  have hdl : (derP (ps.map WE.num)).length = n - 1 := by rw [← hp.len]; simp [derP]
  replace hdl := hide hdl
  obtain ⟨xs, hxs⟩ : ∃ xs, ps.map WE.num = xs := ⟨_, rfl⟩
  rw [hxs] at hsp hP sd hok hok2 hdl ⊢
  replace hok := hide hok
  replace hok2 := hide hok2
  replace sd := hide sd
  replace h0 := hide h0
  replace hd0 := hide hd0
  go_enter Tryz.func12, Tryz.ntmps12
  go_wp2_with fail
  refine (pCheck_any _ _ _ _ _ hp).mono ?_
  rintro e w1 ⟨he1, hb1⟩
  rw [kp.out] at he1
  subst he1
  go_wp2_with fail
  refine (hd0.out w1 (hp.below hb1)).mono ?_
  rw [hxs]
  replace hxs := hide hxs
  rintro e w2 ⟨A2, n2, c2, rfl, hP2, hb2⟩
  have hB2 := hb1.trans (hb2.mono hb1.size)
  have l2 := hP2.len
  have l3 := hdl.out
  clear hd0
  replace l2 := hide l2
  replace l3 := hide l3
  go_wp2_with fail
  refine (common_ok hD A A2 n c n2 c2 xs (derP xs) w2 (hP.out _ hB2) hP2 (by omega) (by have := l2.out; have := l3.out; omega) hsp.out (by have := l2.out; rcases sd.out with h | h; exact .inl (by omega); exact .inr h) hok.out).mono ?_
  rintro e w3 ⟨A3, n3, c3, rfl, hP3, hb3⟩
  have hB3 := hB2.trans (hb3.mono hB2.size)
  clear hP2
  go_wp2_with fail
  refine (hD A A3 n c n3 c3 xs _ w3 (hP.out _ hB3) hP3 (by omega) hok2.out).mono ?_
  rintro e w4 ⟨hb4, A4, n4, c4, A5, n5, c5, rfl, hQ4, -⟩
  have hB4 := hB3.trans (hb4.mono hB3.size)
  have l4 := hQ4.len
  clear hP3
  have hn4 : n4 ≤ 1000 := by
    rw [← l4]
    refine Nat.le_trans (divP_len _ _) ?_
    have := (hP.out w4 hB4).len
    omega
  replace l4 := hide l4
  go_wp2_with fail
  refine (part_any A4 n4 c4 _ w4 hQ4 hn4 (by rw [← l4.out]; exact last_sign (trimP_last _))).mono ?_
  rintro e w5 ⟨hb5, A6, c6, rfl, hP5⟩
  have hB5 := hB4.trans (hb5.mono hB4.size)
  go_wp2_with fail
  refine (pmade_any _ _ _ _ _ hP5).mono ?_
  rintro e w6 ⟨hb6, A7, n7, c7, code7, rfl, hR⟩
  have hB6 := hB5.trans (hb6.mono hB5.size)
  replace hR := hide hR
  go_wp2_with fail
  go_returns
  exact ⟨hB6, _, _, _, _, rfl, hR.out⟩
end Go.Proofs.YtljocgdhdilglaaGreat
