/- The reference of polynomials: Ints. The laws of layer 4: same, small. slices.Clone over numbers; a row of the call's own whose elements may be written. Content, primitive part, division with whole numbers, greatest common divisor, squarefree part: what package poly reckons, as functions (plain). Division of limbs: plain. Package wide: subtract. -/
import Derived.Lib.SliceRun
import Derived.Test.YtljocgdhdilglaaGreatZr20
import Derived.Test.YtljocgdhdilglaaGreatZr21
import Derived.Test.YtljocgdhdilglaaGreatZr13
import Derived.Test.YtljocgdhdilglaaGreatZr16
import Derived.Test.YtljocgdhdilglaaGreatZr01
set_option linter.unusedSimpArgs false
set_option linter.unusedVariables false

namespace Go.Proofs.YtljocgdhdilglaaGreat
open Go.RowKit
attribute [local go_sem] add_lit

theorem take_snocI {l : List Int} {k : Nat} (h : k < l.length) : l.take k ++ [l[k]?.getD 0] = l.take (k + 1) := by
  rw [List.take_add_one, List.getElem?_eq_getElem h]; rfl

set_option maxRecDepth 100000 in
set_option maxHeartbeats 2000000 in
theorem Ints_ok (A : Option Addr) (n c : Nat) (ls : List Int) (w : World) (hp : LimI w A n c ls) (hn : n ≤ 100) :
    Calls Tryz.prog 28 #[.slice A n c] w (OutP w (trimP ls)) := by
  obtain ⟨iw, hi, hz0, hz1, hz2⟩ := info_parts infoW
  have hlen := hide hp.1
  have hall := hide hp.2.2.2.1
  replace hp := hide hp
  go_enter Tryz.func28, Tryz.ntmps28
  go_wp2_with fail
  go_loopw [4, 3] (fun iv ov wr => ∃ i : Nat, i ≤ n ∧ iv = .int .i64 i ∧ OwnP 25 wr w.heap.size ov (ls.take i) ∧ Below w.heap.size w wr) (fun iv _ _ => n - (intOf iv).toNat)
  case atStart => exact ⟨0, Nat.zero_le _, rfl, by rw [List.take_zero]; exact OwnP.nil _ _ _, Below.refl _ _⟩
  case round =>
    obtain ⟨i, hik, rfl, hown, hBp⟩ := hrel
    by_cases hin : i < n
    case neg =>
      obtain rfl : n = i := by omega
      have htk : decide ((n : Int) < (n : Int)) = false := by simp
      rw [List.take_of_length_le (by rw [hlen.out]; omega)] at hown
      obtain ⟨A9, c9, rfl, hP9⟩ := hown.poly
      go_wp2_with fail
      refine (strim_any _ _ _ _ wr hP9 (by rw [hlen.out]; omega)).mono ?_
      rintro e w9 ⟨A8, n8, c8, rfl, hP8, hb8⟩
      have hBe := hBp.trans (hb8.mono hBp.size)
      replace hP8 := hide hP8
      go_wp2_with fail
      go_ret
      exact ⟨_, _, _, rfl, hP8.out, hBe⟩
    have htk : decide ((i : Int) < (n : Int)) = true := by simp; omega
    obtain ⟨g, o, rfl, hc⟩ := hp.out.2.2.2.2 (by omega)
    have hck := (hBp.cell (lt_of_cell (hc i hin))).trans (hc i hin)
    clear hc
    have hI : I64 (ls[i]?.getD 0) := by
      rw [List.getElem?_eq_getElem (by rw [hlen.out]; exact hin)]
      exact hall.out _ (List.getElem_mem _)
    have hsn := take_snocI (l := ls) (k := i) (by rw [hlen.out]; exact hin)
    obtain ⟨z, hz⟩ : ∃ z, ls[i]?.getD 0 = z := ⟨_, rfl⟩
    rw [hz] at hck hI hsn
    replace hz := hide hz
    replace hsn := hide hsn
    unfold I64 at hI
    replace hI := hide hI
    replace hown := hide hown
    go_wp2_with fail
    refine (rFrom_any z wr (by have := hI.out; omega) (by have := hI.out; omega)).mono ?_
    rintro e w5 ⟨hb5, neg6, A6, n6, c6, rfl, hW6⟩
    have hownW := hown.out.kept hb5
    have hBW := hBp.trans (hb5.mono hBp.size)
    clear hown hck
    go_wp2_with (at_builtin; refine wpList_append_num _ rfl (.tmp 11) (.tmp 17) 22 rfl w.heap.size 25 iw Tryz.underlying22 hi hz0 hz1 hz2 _ _ rfl (by exact hownW.alloc _) _ _ 1 1 [⟨neg6, A6, n6, c6, digits z.natAbs⟩] rfl (reads_num _ _ _ _ _ _ _) rfl (List.forall_mem_singleton.2 ⟨hW6.2.2.alloc _, hW6.ok⟩) (by rw [List.length_take]; omega) (by have := hBW.size; simp; omega) ?_; intro v7 w7 hown7 hg7 hk7)
    have hB7 := (hBW.alloc hBW.size _).grown hg7 (by have := hBW.size; simp; omega) hownW.row_ge
    have hown8 := hown7.snoc hW6
    rw [hsn.out] at hown8
    go_roundw
    case rel => exact ⟨i + 1, by omega, by go_num, hown8, hB7⟩
    case measure => simp [intOf]; omega
end Go.Proofs.YtljocgdhdilglaaGreat

namespace Go.Proofs.YtljocgdhdilglaaGreat
open Go.RowKit
attribute [local go_sem] add_lit

set_option maxRecDepth 100000 in
set_option maxHeartbeats 1000000 in
theorem same_ok (A : Option Addr) (n c : Nat) (B : Option Addr) (m d : Nat) (ls : List Int) (w : World) (h : PolyL w A n c (trimP ls)) (hl : LimI w B m d ls) (hm : m ≤ 100) :
    Calls Tryz.prog 33 #[.slice A n c, .int .i64 0, .slice B m d] w fun e w' => e = .returned (.bool true) ∧ Below w.heap.size w w' := by
  go_enter Tryz.func33, Tryz.ntmps33
  go_wp2_with fail
  refine (Ints_ok B m d ls w hl hm).mono ?_
  rintro e w1 ⟨A1, n1, c1, rfl, hP1, hb1⟩
  replace h := hide (h.below hb1)
  replace hP1 := hide hP1
  go_wp2_with fail
  refine (sSame_any _ _ _ _ _ _ (trimP ls) w1 h.out hP1.out).mono ?_
  rintro e w2 ⟨rfl, hb2⟩
  have hB2 := hb1.trans (hb2.mono hb1.size)
  go_wp2_with fail
  go_ret
  exact ⟨rfl, hB2⟩

/-- Is a polynomial one that the laws consider? -/
def smallE (es : List WE) : Bool := es.all (fun e => decide (e.l.length ≤ 4)) && (pOk es && decide (es.length ≤ 5))

set_option maxRecDepth 100000 in
set_option maxHeartbeats 1000000 in
theorem small_any (A : Option Addr) (n c : Nat) (es : List WE) (w : World) (hL : WL w A n c es) (b : Bool) (hb : smallE es = b) :
    Calls Tryz.prog 8 #[.slice A n c] w fun e w' => e = .returned (.bool b) ∧ Below w.heap.size w w' := by
  have hlen := hide hL.len
  have hnc := hL.2.1
  have hcm := hL.2.2.1
  unfold maxLen at hcm
  replace hL := hide hL
  replace hb := hide hb
  go_enter Tryz.func8, Tryz.ntmps8
  go_wp2_with fail
  go_loopw [3] (fun iv wr => ∃ i : Nat, i ≤ n ∧ iv = .int .i64 i ∧ Hid (∀ j e, j < i → es[j]? = some e → e.l.length ≤ 4) ∧ Below w.heap.size w wr) (fun iv _ => n - (intOf iv).toNat)
  case atStart => exact ⟨0, Nat.zero_le _, rfl, hide (fun j e hj => by omega), Below.refl _ _⟩
  case round =>
    obtain ⟨i, hik, rfl, hall, hBp⟩ := hrel
    by_cases hin : i < n
    case neg =>
      obtain rfl : n = i := by omega
      have htk : decide ((n : Int) < (n : Int)) = false := by simp
      have hA : es.all (fun e => decide (e.l.length ≤ 4)) = true := by
        rw [List.all_eq_true]
        intro e he
        obtain ⟨j, hj, hje⟩ := List.getElem_of_mem he
        have := hall.out j e (by rw [hlen.out] at hj; exact hj) (by rw [List.getElem?_eq_getElem hj, hje])
        simpa using this
      have hb2 := hb.out
      unfold smallE at hb2
      rw [hA, Bool.true_and, hlen.out] at hb2
      replace hb2 := hide hb2
      go_wp2_with fail
      refine (sCheck_any A n c es wr (hL.out.below hBp)).mono ?_
      rintro e w1 ⟨rfl, hb1⟩
      have hB1 := hBp.trans (hb1.mono hBp.size)
      cases hp : pOk es
      case false =>
        obtain rfl : b = false := by rw [← hb2.out, hp]; rfl
        simp only [errOf, Bool.false_eq_true, if_false]
        go_wp2_with fail
        go_ret
        exact ⟨rfl, hB1⟩
      case true =>
        have h5 : decide ((n : Int) ≤ 5) = b := by rw [← hb2.out, hp, Bool.true_and]; exact decide_eq_decide.2 (by omega)
        have h5' : decide (n ≤ 5) = b := by rw [← hb2.out, hp, Bool.true_and]
        simp only [errOf, if_true]
        go_wp2_with fail
        go_ret
        exact ⟨rfl, hB1⟩
    have htk : decide ((i : Int) < (n : Int)) = true := by simp; omega
    obtain ⟨g, o, e, rfl, he, hc1, hc2, hLe⟩ := (hL.out.below hBp).at_ hin
    have hle := hLe.len
    by_cases h4 : 4 < e.n
    · have t4 : decide ((4 : Int) < (e.n : Int)) = true := by simp; omega
      have t4' : decide (4 < e.n) = true := by simpa using h4
      obtain rfl : b = false := by
        rw [← hb.out]
        unfold smallE
        have : es.all (fun e => decide (e.l.length ≤ 4)) = false := by
          rw [List.all_eq_false]
          exact ⟨e, List.mem_of_getElem? he, by simp; omega⟩
        rw [this]; rfl
      replace he := hide he
      go_wp2_with fail
      go_ret
      exact ⟨rfl, hBp⟩
    · have t4 : decide ((4 : Int) < (e.n : Int)) = false := by simp; omega
      have t4' : decide (4 < e.n) = false := by simpa using h4
      have hall2 : Hid (∀ j e, j < i + 1 → es[j]? = some e → e.l.length ≤ 4) := hide (fun j e' hj he' => by
        rcases Nat.lt_or_ge j i with h' | h'
        · exact hall.out j e' h' he'
        · obtain rfl : j = i := by omega
          rw [he] at he'
          cases he'
          omega)
      replace he := hide he
      go_wp2_with fail
      go_roundw
      case rel => exact ⟨i + 1, by omega, by go_num, hall2, hBp⟩
      case measure => simp [intOf]; omega
end Go.Proofs.YtljocgdhdilglaaGreat

namespace Go.Proofs.YtljocgdhdilglaaGreat
open Go.RowKit
attribute [local go_sem] add_lit

set_option maxRecDepth 100000 in
set_option maxHeartbeats 1000000 in
theorem clone_ok (A : Option Addr) (n c : Nat) (xs : List Int) (w : World) (h : PolyL w A n c xs) (hn : n ≤ 900) :
    Calls Tryz.prog 66 #[.slice A n c] w fun e w' => Below w.heap.size w w' ∧ ∃ v, e = .returned v ∧ OwnP 25 w' w.heap.size v xs := by
  obtain ⟨iw, hi, hz0, hz1, hz2⟩ := info_parts infoW
  obtain ⟨es, h, hxs, hok⟩ := h
  have hel := h.len
  have hnil : ∀ (W : World) (a : Option Addr), (binOp .eql 22 (.slice a n c) (.slice none 0 0)).run Tryz.prog W = .ok (.bool a.isNone) W := fun W a => Lib.run_eql_slice_nil W _ _ a n c 0 0 Tryz.underlying22
  cases A with
  | none =>
    have hn0 : n = 0 := by
      rcases Nat.eq_zero_or_pos n with h0 | h0
      · exact h0
      · obtain ⟨b, o, e, -⟩ := h.2.2.2.1 h0
        cases e
    have hx0 : xs = [] := by
      rw [← hxs, List.eq_nil_of_length_eq_zero (hel.trans hn0)]; rfl
    subst hn0 hx0
    go_enter Tryz.func66, Tryz.ntmps66
    go_wp2_with fail
    go_ret
    exact ⟨Below.refl _ _, _, rfl, OwnP.nil _ _ _⟩
  | some p =>
    have hfs : Hid (∀ e ∈ es, Lim (w.alloc (.cells #[] 25)) e.A e.n e.c e.l ∧ e.ok = true) := fun e he => ⟨(h.2.2.2.2 e he).alloc _, hok e he⟩
    replace hxs := hide hxs
    replace hok := hide hok
    have hr := hide h
    clear h
    go_enter Tryz.func66, Tryz.ntmps66
    go_wp2_with (at_builtin; refine wpList_append_num _ rfl (.tmp 5) (.tmp 6) 22 rfl w.heap.size 25 iw Tryz.underlying22 hi hz0 hz1 hz2 _ _ rfl (OwnP.empty _ _) _ _ n c es rfl (by exact (hr.out.alloc _).reads) hel hfs.out (by simp; omega) (by simp) ?_; intro v1 w1 hown1 hg1 hk1)
    go_ret
    rw [List.nil_append, hxs.out] at hown1
    exact ⟨((Below.refl w.heap.size w).alloc (Nat.le_refl _) _).grown hg1 (by simp) (fun j hj => by
      have hj2 : (some w.heap.size : Option Nat) = some j := hj
      injection hj2 with hj3
      omega), _, rfl, hown1⟩

/-- An own row is a block whose first numbers are the row's. -/
theorem OwnP.pown {t : TypeId} {w : World} {base : Nat} {v : Value} {xs : List Int} (h : OwnP t w base v xs) : (v = .slice none 0 0 ∧ xs = []) ∨ ∃ g c zs, v = .slice (some ⟨g, 0, none⟩) xs.length c ∧ base ≤ g ∧ xs.length ≤ c ∧ c ≤ maxLen ∧ POwn t w g (xs ++ zs) := by
  obtain ⟨es, h1, h2, rfl⟩ := h
  rcases h1 with ⟨rfl, rfl⟩ | ⟨g, sp, rfl, h4, h5, h6⟩
  · exact .inl ⟨rfl, rfl⟩
  · refine .inr ⟨g, _, List.replicate sp 0, by rw [List.length_map], h4, by rw [List.length_map]; omega, h5, es ++ List.replicate sp zeroWE, h6, fun e he => ?_, ?_⟩
    · rcases List.mem_append.1 he with he | he
      · exact h2 e he
      · rw [(List.mem_replicate.1 he).2]; exact ⟨Lim.nil _ _ _ (Nat.zero_le _), rfl⟩
    · rw [List.map_append]; congr 1; simp [zeroWE, WE.num, sg, val]
end Go.Proofs.YtljocgdhdilglaaGreat

namespace Go.Proofs.YtljocgdhdilglaaGreat

def gcdZ (a b : Int) : Int := (Nat.gcd a.natAbs b.natAbs : Nat)
/-- The greatest common divisor of the first k coefficients. -/
def contK (p : List Int) : Nat → Int
  | 0 => 0
  | k + 1 => gcdZ (contK p k) (p[k]?.getD 0)
def contP (p : List Int) : Int := contK p p.length
def signP (p : List Int) : Int := if p[p.length - 1]?.getD 0 < 0 then -contP p else contP p
/-- The primitive part. -/
def partP (p : List Int) : List Int := p.map (fun a => Int.fdiv a (signP p))
/-- One step of the division: what is left is multiplied, the quotient too; a common factor goes. -/
def stepQ (quot rest q : List Int) : List Int :=
  (quot.map (· * q[q.length - 1]?.getD 0)).set (rest.length - q.length) (quot[rest.length - q.length]?.getD 0 * q[q.length - 1]?.getD 0 + rest[rest.length - 1]?.getD 0)
def stepR (rest q : List Int) : List Int :=
  (List.range rest.length).map fun i => rest[i]?.getD 0 * q[q.length - 1]?.getD 0 - (if rest.length - q.length ≤ i then q[i - (rest.length - q.length)]?.getD 0 * rest[rest.length - 1]?.getD 0 else 0)
def stepG (quot rest q : List Int) : Int := gcdZ (contP (stepR rest q)) (contP (stepQ quot rest q))
def byG (l : List Int) (g : Int) : List Int := l.map (fun a => Int.fdiv a g)
/-- Quotient (not trimmed) and rest, after at most k steps. -/
def divK (q : List Int) : Nat → List Int → List Int → List Int × List Int
  | 0, quot, rest => (quot, trimP rest)
  | k + 1, quot, rest => if (trimP rest).length < q.length then (quot, trimP rest) else
      divK q k (byG (stepQ quot (trimP rest) q) (stepG quot (trimP rest) q)) (byG (stepR (trimP rest) q) (stepG quot (trimP rest) q))
def divP (p q : List Int) : List Int × List Int := divK q p.length (List.replicate (p.length + 1 - q.length) 0) p
def comK : Nat → List Int → List Int → List Int
  | 0, p, _ => p
  | k + 1, p, q => if q = [] then p else comK k q (partP (divP p q).2)
/-- The greatest common divisor. -/
def comP (p q : List Int) : List Int := comK ((partP q).length + 1) (partP p) (partP q)
/-- The squarefree part, not trimmed. -/
def freeP (p : List Int) : List Int := partP (trimP (divP p (comP p (derP p))).1)

/-- All numbers stay small. -/
def smallP (p : List Int) : Bool := p.all fun a => decide (a.natAbs < pw 1000)
def okDiv (q : List Int) : Nat → List Int → List Int → Bool
  | 0, quot, rest => smallP quot && smallP rest && decide ((trimP rest).length < q.length)
  | k + 1, quot, rest => smallP quot && smallP rest && (if (trimP rest).length < q.length then true else
      okDiv q k (byG (stepQ quot (trimP rest) q) (stepG quot (trimP rest) q)) (byG (stepR (trimP rest) q) (stepG quot (trimP rest) q)))
def okDivP (p q : List Int) : Bool := smallP q && decide (0 < q.length) && decide (q[q.length - 1]?.getD 0 ≠ 0) && okDiv q p.length (List.replicate (p.length + 1 - q.length) 0) p
def okCom : Nat → List Int → List Int → Bool
  | 0, _, q => decide (q = [])
  | k + 1, p, q => if q = [] then true else okDivP p q && okCom k q (partP (divP p q).2)

theorem ex_gcd : comP [-2, 0, 2] [3, 3] = [1, 1] := by decide +kernel
theorem ex_free : freeP [0, -4, 8, -4] = [0, -1, 1] := by decide +kernel
theorem ex_gcd_ok : okCom ((partP [3, 3]).length + 1) (partP [-2, 0, 2]) (partP [3, 3]) = true := by decide +kernel
theorem ex_free_ok : okCom ((partP (derP [0, -4, 8, -4])).length + 1) (partP [0, -4, 8, -4]) (partP (derP [0, -4, 8, -4])) = true := by decide +kernel
theorem ex_free_div : okDivP [0, -4, 8, -4] (comP [0, -4, 8, -4] (derP [0, -4, 8, -4])) = true := by decide +kernel
end Go.Proofs.YtljocgdhdilglaaGreat

namespace Go.Proofs.YtljocgdhdilglaaGreat

/-- A quotient's guess by the highest limbs is not too small. -/
theorem div_guess {U V P uh v1 : Nat} (hv : 0 < v1) (hV : v1 * P ≤ V) (hU : U < (uh + 1) * P) : U / V ≤ uh / v1 := by
  rw [Nat.le_div_iff_mul_le hv]
  have h1 : U / V * V ≤ U := Nat.div_mul_le_self U V
  have h2 : U / V * (v1 * P) ≤ U / V * V := Nat.mul_le_mul_left _ hV
  have h3 : U / V * v1 * P < (uh + 1) * P := by rw [Nat.mul_assoc]; omega
  have := Nat.lt_of_mul_lt_mul_right h3
  omega
/-- A guess that is too great by the highest limbs is greater than the quotient. -/
theorem div_guess_lt {U V P uh v1 q : Nat} (hV : v1 * P ≤ V) (hU : U < (uh + 1) * P) (hq : uh < q * v1) : U / V < q := by
  rcases Nat.lt_or_ge (U / V) q with h | h
  · exact h
  · exfalso
    have h1 : U / V * V ≤ U := Nat.div_mul_le_self U V
    have h2 : q * (v1 * P) ≤ U / V * V := Nat.mul_le_mul h hV
    have h3 : (uh + 1) * P ≤ q * v1 * P := Nat.mul_le_mul_right _ hq
    rw [Nat.mul_assoc] at h3
    omega
/-- What stands behind i limbs of a multiple taken away: with the carry and the borrow. -/
theorem sub_step {u u0 v : List Nat} {i q carry borrow c lo d b : Nat} (hi : i < u.length)
    (hI : val (u.take i) + q * val (v.take i) = val (u0.take i) + pw i * (carry + borrow)) (ht : lo + 4294967296 * c = carry + q * v[i]?.getD 0) (hd : d + lo + borrow = u0[i]?.getD 0 + 4294967296 * b) :
    val ((u.set i d).take (i + 1)) + q * val (v.take (i + 1)) = val (u0.take (i + 1)) + pw (i + 1) * (c + b) := by
  rw [val_take_succ, val_take_succ v, val_take_succ u0, List.take_set_of_le (Nat.le_refl i), List.getElem?_set_self hi, pw_succ, Nat.mul_add q]
  simp only [Option.getD_some]
  generalize v[i]?.getD 0 = x at *
  generalize u0[i]?.getD 0 = y at *
  generalize val (u.take i) = a at *
  generalize val (v.take i) = e at *
  generalize val (u0.take i) = f at *
  have e1 : q * (pw i * x) = pw i * (q * x) := by rw [Nat.mul_left_comm]
  rw [e1]
  have e2 : pw i * (q * x) + pw i * carry = pw i * lo + pw i * (4294967296 * c) := by rw [← Nat.mul_add, ← Nat.mul_add, ht, Nat.add_comm]
  have e3 : pw i * d + pw i * lo + pw i * borrow = pw i * y + pw i * (4294967296 * b) := by rw [← Nat.mul_add, ← Nat.mul_add, ← Nat.mul_add, hd]
  have e4 : 4294967296 * pw i * (c + b) = pw i * (4294967296 * c) + pw i * (4294967296 * b) := by rw [Nat.mul_add, Nat.mul_comm 4294967296 (pw i), Nat.mul_assoc, Nat.mul_assoc]
  rw [Nat.mul_add] at hI
  rw [e4]
  omega
/-- The end of it: the borrow tells whether the multiple was too great. -/
theorem sub_stop {U V q W M b : Nat} (hW : W < M) (h : W + q * V = U + M * b) (hb : b ≤ 1) : (b = 0 ↔ q * V ≤ U) ∧ (b = 0 → W = U - q * V) := by
  rcases Nat.eq_zero_or_pos b with rfl | h0
  · rw [Nat.mul_zero] at h
    exact ⟨⟨fun _ => by omega, fun _ => rfl⟩, fun _ => by omega⟩
  · obtain rfl : b = 1 := by omega
    rw [Nat.mul_one] at h
    exact ⟨⟨fun h => by omega, fun h => by omega⟩, fun h => by omega⟩
end Go.Proofs.YtljocgdhdilglaaGreat

namespace Go.Proofs.YtljocgdhdilglaaGreat
open Go.RowKit
attribute [local go_sem] add_lit

/-- Limbs that may be written: from place off of block g. -/
def MutL (w : World) (g off : Nat) (l : List Nat) : Prop := ∀ i, i < l.length → w.cell? ⟨g, off + i, none⟩ = some (limb (l[i]?.getD 0)) ∧ w.frozen? ⟨g, off + i, none⟩ = false
theorem MutL.set_ {w : World} {g off : Nat} {l : List Nat} (h : MutL w g off l) {i : Nat} (hi : i < l.length) (x : Nat) : MutL (w.setCell ⟨g, off + i, none⟩ (limb x)) g off (l.set i x) := fun j hj => by
  rw [List.length_set] at hj
  refine ⟨?_, by rw [World.frozen?_setCell]; exact (h j hj).2⟩
  by_cases hji : j = i
  · subst hji
    rw [getD_set_eq _ hi]
    exact World.cell?_setCell_same _ _ _ (h j hj).1
  · rw [getD_set_ne _ (fun e => hji e.symm), World.cell?_setCell_other _ _ _ _ (by intro e; injection e with e1 e2; omega)]
    exact (h j hj).1
theorem MutL.grown {w w' : World} {g g' off : Nat} {l : List Nat} (h : MutL w g off l) (hg : w.grownBy w' (some g')) (hne : g ≠ g') (hlt : g < w.heap.size) : MutL w' g off l := fun j hj =>
  ⟨(World.cell?_of_block (hg.block g hlt (fun e => hne (by injection e)))).trans (h j hj).1, (World.frozen?_of_block (hg.block g hlt (fun e => hne (by injection e)))).trans (h j hj).2⟩
theorem grownBy_set {w w' : World} {g o : Nat} {u : Value} (h : w.grownBy w' (some g)) : w.grownBy (w'.setCell ⟨g, o, none⟩ u) (some g) :=
  ⟨h.os, h.tape, h.output, by simpa using h.size, fun k hk hne => (Below.heap_setCell w' ⟨g, o, none⟩ u k (fun e => hne (by rw [e]))).trans (h.block k hk hne)⟩

/-- What 'subtract' has done behind i limbs. -/
def SubP (w : World) (g off n q : Nat) (u v : List Nat) (i cy b : Nat) (wr : World) : Prop :=
  ∃ l, MutL wr g off l ∧ l.length = n + 1 ∧ Lt32 l ∧ (∀ j, i ≤ j → l[j]?.getD 0 = u[j]?.getD 0) ∧ val (l.take i) + q * val (v.take i) = val (u.take i) + pw i * (cy + b) ∧ w.grownBy wr (some g)

theorem mulstep2 {c x y : Nat} (hc : c < 4294967296) (hx : x < 4294967296) (hy : y < 4294967296) :
    IntKind.u64.wrap ((c : Int) + IntKind.u64.wrap ((x : Int) * y)) = ((c + x * y : Nat) : Int) := by
  have h : x * y ≤ 4294967295 * 4294967295 := Nat.mul_le_mul (by omega) (by omega)
  have e : (x : Int) * y = ((x * y : Nat) : Int) := by simp
  rw [e]
  generalize x * y = t at *
  simp only [IntKind.wrap_u64]
  omega

set_option maxRecDepth 100000 in
set_option maxHeartbeats 1000000 in
theorem subtract_any (g off n c d q : Nat) (B : Option Addr) (u v : List Nat) (w : World) (hu : MutL w g off u) (hul : u.length = n + 1) (hut : Lt32 u) (hnc : n + 1 ≤ c) (hcm : c ≤ maxLen) (hn9 : n ≤ 1000000000)
    (hv : Lim w B n d v) (hB : ∀ b o, B = some ⟨b, o, none⟩ → b ≠ g) (hq : q < 4294967296) :
    Calls Tryz.prog 122 #[.slice (some ⟨g, off, none⟩) (n + 1) c, .slice B n d, .int .u32 q] w fun e w' => ∃ b l, b ≤ 1 ∧ e = .returned (.bool (decide (b = 0))) ∧ MutL w' g off l ∧ l.length = n + 1 ∧ Lt32 l ∧ val l + q * val v = val u + pw (n + 1) * b ∧ w.grownBy w' (some g) := by
  unfold maxLen at hcm
  have hnd := hv.2.1
  have hdm := hv.2.2.1
  unfold maxLen at hdm
  have hvl := hide hv.len
  replace hul := hide hul
  go_enter Tryz.func122, Tryz.ntmps122
  go_wp2
  go_loopw [14, 7, 8] (fun iv cv bv wr => ∃ i cy b : Nat, i ≤ n ∧ iv = .int .i64 i ∧ cy < 4294967296 ∧ cv = .int .u64 cy ∧ b ≤ 1 ∧ bv = limb b ∧ SubP w g off n q u v i cy b wr) (fun iv _ _ _ => n - (intOf iv).toNat)
  case atStart => exact ⟨0, 0, 0, Nat.zero_le _, rfl, by omega, rfl, Nat.zero_le _, rfl, u, hu, hul.out, hut, fun _ _ => rfl, by simp [val], World.grownBy.refl w _⟩
  case round =>
    obtain ⟨i, cy, b, hin, rfl, hcy, rfl, hb1, rfl, l, hl, hll, hlt, hsame, hI, hg⟩ := hrel
    replace hll := hide hll
    replace hsame := hide hsame
    replace hI := hide hI
    by_cases hi : i < n
    · obtain ⟨bb, ob, rfl, hcb⟩ := hv.at_ hi
      have hbg := hB bb ob rfl
      have hcb' := (World.cell?_of_block (a := ⟨bb, ob + i, none⟩) (hg.block bb (lt_of_cell hcb) (fun e => hbg (by injection e)))).trans hcb
      have hx := hv.lt.get i
      have hy := hut.get i
      obtain ⟨hcu, hfu⟩ := hl i (by rw [hll.out]; omega)
      rw [hsame.out i (Nat.le_refl _)] at hcu
      have hlen9 : i < l.length := by rw [hll.out]; omega
      go_wp2_with fail
      rw [mulstep2 hcy hq hx, cast_mod]
      have htb : cy + q * v[i]?.getD 0 < 18446744073709551616 := by
        have h : q * v[i]?.getD 0 ≤ 4294967295 * 4294967295 := Nat.mul_le_mul (by omega) (by omega)
        omega
      obtain ⟨t, ht⟩ : ∃ t, cy + q * v[i]?.getD 0 = t := ⟨_, rfl⟩
      rw [ht] at htb ⊢
      replace ht := hide ht
      refine (sub32_any _ (t % 4294967296) _ _ hy (Nat.mod_lt _ (by decide)) hb1).mono ?_
      rintro e w' ⟨dd, kk, rfl, hd, hk, he, rfl⟩
      replace he := hide he
      go_wp2_with fail
      go_roundw
      case rel =>
        rw [cast_div]
        refine ⟨i + 1, _, kk, by omega, by go_num, by omega, rfl, hk, rfl, l.set i dd, hl.set_ hlen9 dd, by rw [List.length_set]; exact hll.out, hlt.set i hd, fun j hj => ?_, ?_, grownBy_set hg⟩
        · rw [getD_set_ne _ (by omega)]; exact hsame.out j (by omega)
        · exact sub_step hlen9 hI.out (lo := t % 4294967296) (by rw [ht.out]; omega) (by have := he.out; omega)
      case measure => simp [intOf]; omega
    · obtain rfl : i = n := by omega
      have hy := hut.get i
      obtain ⟨hcu, hfu⟩ := hl i (by rw [hll.out]; omega)
      rw [hsame.out i (Nat.le_refl _)] at hcu
      have hlen9 : i < l.length := by rw [hll.out]; omega
      have hcc : ((cy : Int)) % 4294967296 = (cy : Int) := by omega
      go_wp2_with fail
      refine (sub32_any _ cy _ _ hy hcy hb1).mono ?_
      rintro e w' ⟨dd, kk, rfl, hd, hk, he, rfl⟩
      have hfin : Hid (val (l.set i dd) + q * val v = val u + pw (i + 1) * kk) := by
        have h1 := sub_step (v := v) (q := q) (lo := cy) (c := 0) hlen9 hI.out (by rw [getD_none (by rw [hvl.out]; exact Nat.le_refl _)]; omega) he
        rw [val_take_all (by rw [List.length_set, hll.out]; exact Nat.le_refl _), val_take_all (by rw [hvl.out]; omega), val_take_all (by rw [hul.out]; exact Nat.le_refl _), Nat.zero_add] at h1
        exact h1
      have hM := hl.set_ hlen9 dd
      have hL := hlt.set i hd
      have hG := grownBy_set (o := off + i) (u := limb dd) hg
      have hlen2 : Hid ((l.set i dd).length = i + 1) := by unfold Hid; rw [List.length_set]; exact hll.out
      replace he := hide he
      clear hl hlt
      rcases Nat.eq_zero_or_pos kk with rfl | h0
      · go_wp2_with fail
        go_returns
        exact ⟨0, _, by omega, rfl, hM, hlen2.out, hL, hfin.out, hG⟩
      · obtain rfl : kk = 1 := by omega
        go_wp2_with fail
        go_returns
        exact ⟨1, _, by omega, rfl, hM, hlen2.out, hL, hfin.out, hG⟩
end Go.Proofs.YtljocgdhdilglaaGreat
