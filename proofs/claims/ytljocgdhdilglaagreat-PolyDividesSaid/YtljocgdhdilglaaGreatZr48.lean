/- Polynomials of few small numbers: Add, Sub, Mul, Deriv, Eval without an error. A drawn region with a chain of calls and two new variables that nothing waits for: each call is walked once, with whatever variables may have come up before it. A drawn region with a chain of operations (calls, made slices) and one new variable that nothing waits for: each link is walked once. Reference of frac: Add, Sub, Mul, Div of small fractions (Div: by one greater than 0). Reference of frac: Same, Cmp. -/
import Derived.Test.YtljocgdhdilglaaGreatZr47
import Derived.Test.YtljocgdhdilglaaGreatZr18
import Derived.Test.YtljocgdhdilglaaGreatZr35
import Derived.Test.YtljocgdhdilglaaGreatZr46
set_option linter.unusedSimpArgs false
set_option linter.unusedVariables false

namespace Go.Proofs.YtljocgdhdilglaaGreat
open Go.RowKit

/-- A result (polynomial, error 0). -/
def PolyE (w : World) (zs : List Int) (e : Ending) (w' : World) : Prop :=
  Below w.heap.size w w' ∧ ∃ A n c, e = .returned (.tuple #[.slice A n c, .int .i64 0]) ∧ PolyL w' A n c (trimP zs)
theorem ResPoly.small {w w' : World} {xs : List Int} {e : Ending} (h : ResPoly w xs e w') (hk : okP (trimP xs) = true) : PolyE w xs e w' := by
  obtain ⟨h1, A, n, c, code, rfl, h2⟩ := h
  rcases h2 with ⟨-, rfl, h3⟩ | ⟨h3, -⟩
  · exact ⟨h1, A, n, c, rfl, h3⟩
  · rw [hk] at h3; cases h3
theorem pl_ok {w : World} {A : Option Addr} {n c : Nat} {xs : List Int} (h : PolyL w A n c xs) (hk : okP xs = true) (hl : endOkP xs = true) : ∃ es, WL w A n c es ∧ es.map WE.num = xs ∧ pOk es = true := by
  obtain ⟨es, h1, h2, h3⟩ := h
  refine ⟨es, h1, h2, ?_⟩
  rw [PolyL.pok h1 h3 (by
    rw [h2]
    intro x hx
    unfold endOkP at hl
    rw [hx] at hl
    simpa using hl), h2]
  exact hk

section
variable (A B : Option Addr) (n c m d : Nat) (xs ys : List Int) (w : World) {i M j M' : Nat}
theorem Add_pl (hp : PolyL w A n c xs) (hq : PolyL w B m d ys) (e1 : endOkP xs = true) (e2 : endOkP ys = true) (b1 : BP i M xs) (b2 : BP j M' ys) (hi : i ≤ 9) (hj : j ≤ 9) (hM : M ≤ 39) (hM' : M' ≤ 39) :
    Calls Tryz.prog 21 #[.slice A n c, .slice B m d] w (PolyE w (joinP (fun a b => a + b) xs ys)) := by
  have hk := ((b1.join (fun a b => a + b) (fun a b => Int.natAbs_add_le a b) b2).trim).okP (by omega) (by omega)
  obtain ⟨es, h1, rfl, h3⟩ := pl_ok hp (b1.okP hi (by omega)) e1
  obtain ⟨fs, g1, rfl, g3⟩ := pl_ok hq (b2.okP hj (by omega)) e2
  exact (pAdd_ok A B n c m d es fs w h1 g1 h3 g3).mono fun e w' h => h.small hk
theorem Sub_pl (hp : PolyL w A n c xs) (hq : PolyL w B m d ys) (e1 : endOkP xs = true) (e2 : endOkP ys = true) (b1 : BP i M xs) (b2 : BP j M' ys) (hi : i ≤ 9) (hj : j ≤ 9) (hM : M ≤ 39) (hM' : M' ≤ 39) :
    Calls Tryz.prog 22 #[.slice A n c, .slice B m d] w (PolyE w (joinP (fun a b => a - b) xs ys)) := by
  have hk := ((b1.join (fun a b => a - b) (fun a b => by omega) b2).trim).okP (by omega) (by omega)
  obtain ⟨es, h1, rfl, h3⟩ := pl_ok hp (b1.okP hi (by omega)) e1
  obtain ⟨fs, g1, rfl, g3⟩ := pl_ok hq (b2.okP hj (by omega)) e2
  exact (pSub_ok A B n c m d es fs w h1 g1 h3 g3).mono fun e w' h => h.small hk
theorem Mul_pl (hp : PolyL w A n c xs) (hq : PolyL w B m d ys) (e1 : endOkP xs = true) (e2 : endOkP ys = true) (b1 : BP i M xs) (b2 : BP j M' ys) (hij : i + j ≤ 10) (hi : i ≤ 9) (hj : j ≤ 9) (hM : M + M' ≤ 39) :
    Calls Tryz.prog 18 #[.slice A n c, .slice B m d] w (PolyE w (mulP xs ys)) := by
  have hk := ((b1.mul b2 (by omega)).trim).okP (by omega) (by omega)
  obtain ⟨es, h1, rfl, h3⟩ := pl_ok hp (b1.okP (by omega) (by omega)) e1
  obtain ⟨fs, g1, rfl, g3⟩ := pl_ok hq (b2.okP (by omega) (by omega)) e2
  exact (pMul_ok A B n c m d es fs w h1 g1 h3 g3).mono fun e w' h => h.small hk
theorem Deriv_pl (hp : PolyL w A n c xs) (e1 : endOkP xs = true) (b1 : BP i M xs) (hi : i ≤ 9) (hM : M ≤ 39) :
    Calls Tryz.prog 15 #[.slice A n c] w (PolyE w (derP xs)) := by
  have hk := ((b1.der (by omega)).trim).okP (by omega) (by omega)
  obtain ⟨es, h1, rfl, h3⟩ := pl_ok hp (b1.okP hi (by omega)) e1
  exact (pDeriv_ok A n c es w h1 h3).mono fun e w' h => h.small hk
theorem Eval_bp (na nb : Bool) (X Y : Option Addr) (nx cx ny cy : Nat) (r : Rat) (hp : PolyL w A n c xs) (e1 : endOkP xs = true) (b1 : BP i M xs) (hi : i ≤ 9) (hM : M ≤ 40) (hx : Fr w na X nx cx nb Y ny cy r) (h1 : nx ≤ 64) (h2 : ny ≤ 64) :
    Calls Tryz.prog 23 #[.slice A n c, .agg #[.bool na, .slice X nx cx, .bool nb, .slice Y ny cy]] w (FracE w (evalQ xs r)) := by
  obtain ⟨es, g1, rfl, g3⟩ := pl_ok hp (b1.okP hi hM) e1
  exact Eval_ok A n c es na nb X Y nx cx ny cy r w g1 g3 hx h1 h2
end

theorem Wd.lt_pw {w : World} {neg : Bool} {A : Option Addr} {n c : Nat} {z : Int} (h : Wd w neg A n c z) : z.natAbs < pw n := by
  have h1 := h.2.2.lt_pw
  rw [val_digits] at h1
  exact h1
theorem small_bp {w : World} {A : Option Addr} {n c : Nat} {es : List WE} (hL : WL w A n c es) (h4 : ∀ e ∈ es, e.l.length ≤ 4) (kp : pOk es = true) (h5 : es.length ≤ 5) : PolyL w A n c (es.map WE.num) ∧ endOkP (es.map WE.num) = true ∧ BP 5 4 (es.map WE.num) := by
  obtain ⟨_, hpk⟩ := pOk_parts kp
  refine ⟨⟨es, hL, rfl, fun e he => (hpk e he).1⟩, ?_, by rw [List.length_map]; exact h5, fun i => ?_⟩
  · unfold endOkP
    rcases pOk_end hL kp with h | h
    · have := List.eq_nil_of_length_eq_zero (hL.len.trans h)
      subst this; rfl
    · rw [List.getLast?_eq_getElem?]
      cases hx : (es.map WE.num)[(es.map WE.num).length - 1]? with
      | none => rfl
      | some x => rw [hx] at h; simpa using h
  · rw [List.getElem?_map]
    cases he : es[i]? with
    | none => exact pw_pos _
    | some e =>
      have hm := List.mem_of_getElem? he
      have hw := WE.wd (hL.2.2.2.2 e hm) (hpk e hm).1
      have h1 := hw.lt_pw
      have h2 := (hL.2.2.2.2 e hm).len
      have h3 := h4 e hm
      exact Nat.lt_of_lt_of_le h1 (pw_le (by omega))
end Go.Proofs.YtljocgdhdilglaaGreat

namespace Go.Proofs.YtljocgdhdilglaaGreat
open Go.RowKit

/-- The operations that have come up: those of l, and the new variables f1, f2 if they have. -/
def cn (f1 f2 : Nat) (l : Array Bool) (s1 s2 : Bool) : Array Bool :=
  let l := if s1 then l.setIfInBounds f1 true else l
  if s2 then l.setIfInBounds f2 true else l
theorem cn_call {f1 f2 c : Nat} {l : Array Bool} {s1 s2 : Bool} (h1 : c ≠ f1) (h2 : c ≠ f2) : (cn f1 f2 l s1 s2).setIfInBounds c true = cn f1 f2 (l.setIfInBounds c true) s1 s2 := by
  cases s1 <;> cases s2 <;> simp only [cn, if_true, Bool.false_eq_true, if_false]
  · rw [Array.setIfInBounds_comm _ _ (Ne.symm h2)]
  · rw [Array.setIfInBounds_comm _ _ (Ne.symm h1)]
  · rw [Array.setIfInBounds_comm _ _ (Ne.symm h2), Array.setIfInBounds_comm _ _ (Ne.symm h1)]
theorem cn_one {f1 f2 : Nat} {l : Array Bool} {s2 : Bool} (h : f1 ≠ f2) : (cn f1 f2 l false s2).setIfInBounds f1 true = cn f1 f2 l true s2 := by
  cases s2 <;> simp only [cn, if_true, Bool.false_eq_true, if_false]
  rw [Array.setIfInBounds_comm _ _ (Ne.symm h)]
theorem cn_two {f1 f2 : Nat} {l : Array Bool} {s1 : Bool} : (cn f1 f2 l s1 false).setIfInBounds f2 true = cn f1 f2 l s1 true := by
  cases s1 <;> simp only [cn, if_true, Bool.false_eq_true, if_false]

def okOne (md : Region.Mode) (ops : Array Oper) (f1 f2 : Nat) (h : Option Nat) (l : Array Bool) (s1 s2 : Bool) : Bool :=
  let r := Region.ready md ops (cn f1 f2 l s1 s2)
  !r.isEmpty && r.all fun i => (h == some i) || (i == f1 && !s1) || (i == f2 && !s2)
def okFree (md : Region.Mode) (ops : Array Oper) (f1 f2 : Nat) : List Nat → Array Bool → Bool
  | [], l => okOne md ops f1 f2 none l false false && okOne md ops f1 f2 none l false true && okOne md ops f1 f2 none l true false
  | c :: cs, l => okOne md ops f1 f2 (some c) l false false && okOne md ops f1 f2 (some c) l false true && okOne md ops f1 f2 (some c) l true false && okOne md ops f1 f2 (some c) l true true && c != f1 && c != f2 && okFree md ops f1 f2 cs (l.setIfInBounds c true)
theorem okFree_head {md : Region.Mode} {ops : Array Oper} {f1 f2 : Nat} {cs : List Nat} {l : Array Bool} (h : okFree md ops f1 f2 cs l = true) {s1 s2 : Bool} (hn : cs = [] → s1 = true → s2 = true → False) : okOne md ops f1 f2 cs.head? l s1 s2 = true := by
  cases cs with
  | nil =>
    simp only [okFree, Bool.and_eq_true] at h
    cases s1 <;> cases s2
    · exact h.1.1
    · exact h.1.2
    · exact h.2
    · exact (hn rfl rfl rfl).elim
  | cons c cs =>
    simp only [okFree, Bool.and_eq_true] at h
    cases s1 <;> cases s2
    · exact h.1.1.1.1.1.1
    · exact h.1.1.1.1.1.2
    · exact h.1.1.1.1.2
    · exact h.1.1.1.2

def puts (d1 d2 : Nat) (a : Act) (u1 u2 : Value) : Act := (a.put (some d1) u1).put (some d2) u2

/-- A block that none of the calls has made. -/
def Apart (I : List (Nat × Nat)) (g : Nat) : Prop := ∀ p ∈ I, ¬ (p.1 ≤ g ∧ g < p.2)

/-- The walk over the chain; I: the blocks that the calls so far have made, from .. to. -/
def Chain (P : Program) (ops : Array Oper) (Q : Exit → Act → World → Prop) (md : Region.Mode) (L : List Nat) (S : World → Prop) (f1 f2 d1 d2 F : Nat) (t1 t2 : TypeId) (z1 z2 : Array Value) (base : Nat) : List Nat → List (Nat × Nat) → Array Bool → Act → World → Prop
  | [], I, l, a, w => ∀ g1 g2 w', Below w.heap.size w w' → Blk w' g1 t1 z1 → Blk w' g2 t2 z2 → base ≤ g1 → base ≤ g2 → g1 ≠ g2 → Apart I g1 → Apart I g2 →
      wpAnyL P md ops Q L S F (cn f1 f2 l true true) (puts d1 d2 a (.pointer (some ⟨g1, 0, none⟩)) (.pointer (some ⟨g2, 0, none⟩))) w'
  | c :: cs, I, l, a, w => ∀ u1 u2 w', Below w.heap.size w w' →
      wpOp P ops Q c (fun a2 w2 => (a2.tmps[d1]? = some u1 ∧ a2.tmps[d2]? = some u2 ∧ Below w'.heap.size w' w2) ∧ Chain P ops Q md L S f1 f2 d1 d2 F t1 t2 z1 z2 base cs ((w'.heap.size, w2.heap.size) :: I) (l.setIfInBounds c true) a2 w2) (puts d1 d2 a u1 u2) w'

theorem put_self {t : Array Value} {d : Nat} {u : Value} (h : t[d]? = some u) : t.setIfInBounds d u = t := by
  apply Array.ext
  · simp
  · intro i h1 h2
    rw [Array.getElem_setIfInBounds (by simpa using h1)]
    split
    · rename_i e
      subst e
      rw [Array.getElem?_eq_getElem h2] at h
      injection h with h
      exact h.symm
    · rfl
theorem puts_self {a : Act} {d1 d2 : Nat} {u1 u2 : Value} (h1 : a.tmps[d1]? = some u1) (h2 : a.tmps[d2]? = some u2) : a = puts d1 d2 a u1 u2 := by
  cases a with
  | mk t ds =>
    simp only [puts, Act.put] at *
    rw [put_self h1, put_self h2]
theorem puts_one {a : Act} {d1 d2 : Nat} {u1 u2 v : Value} (h : d1 ≠ d2) : (puts d1 d2 a u1 u2).put (some d1) v = puts d1 d2 a v u2 := by
  simp only [puts, Act.put]
  rw [Array.setIfInBounds_comm _ _ (Ne.symm h), Array.setIfInBounds_setIfInBounds]
theorem puts_two {a : Act} {d1 d2 : Nat} {u1 u2 v : Value} : (puts d1 d2 a u1 u2).put (some d2) v = puts d1 d2 a u1 v := by
  simp only [puts, Act.put]
  rw [Array.setIfInBounds_setIfInBounds]

section
variable {P : Program} {ops : Array Oper} {Q : Exit → Act → World → Prop} {md : Region.Mode} {L : List Nat} {S : World → Prop} {f1 f2 d1 d2 F : Nat} {t1 t2 : TypeId} {z1 z2 : Array Value}

theorem two_aux (hne : f1 ≠ f2) (hde : d1 ≠ d2) {w00 : World} (hS : ∀ w, Below w00.heap.size w00 w → S w)
    (hA1 : ∀ (K : Act → World → Prop) (a : Act) (w : World), K (a.put (some d1) (.pointer (some ⟨w.heap.size, 0, none⟩))) (w.alloc (.cells z1 t1)) → wpOp P ops Q f1 K a w)
    (hA2 : ∀ (K : Act → World → Prop) (a : Act) (w : World), K (a.put (some d2) (.pointer (some ⟨w.heap.size, 0, none⟩))) (w.alloc (.cells z2 t2)) → wpOp P ops Q f2 K a w) :
    ∀ (n : Nat) (cs : List Nat) (I : List (Nat × Nat)) (l : Array Bool) (s1 s2 : Bool) (a0 : Act) (w0 w : World) (x1 x2 : Value) (g1 g2 : Nat), n = cs.length + (if s1 then 0 else 1) + (if s2 then 0 else 1) → okFree md ops f1 f2 cs l = true →
      Chain P ops Q md L S f1 f2 d1 d2 F t1 t2 z1 z2 w00.heap.size cs I l a0 w0 → Below w0.heap.size w0 w → Below w00.heap.size w00 w → (∀ p ∈ I, p.2 ≤ w.heap.size) →
      (s1 = true → x1 = .pointer (some ⟨g1, 0, none⟩) ∧ Blk w g1 t1 z1 ∧ w00.heap.size ≤ g1 ∧ Apart I g1) → (s2 = true → x2 = .pointer (some ⟨g2, 0, none⟩) ∧ Blk w g2 t2 z2 ∧ w00.heap.size ≤ g2 ∧ Apart I g2) → (s1 = true → s2 = true → g1 ≠ g2) →
      wpAnyL P md ops Q L S (n + F) (cn f1 f2 l s1 s2) (puts d1 d2 a0 x1 x2) w := by
  intro n
  induction n with
  | zero =>
    intro cs I l s1 s2 a0 w0 w x1 x2 g1 g2 hn hok hC hb hb0 hI h1 h2 h12
    have hs1 : s1 = true := by
      cases s1
      · exfalso; simp only [Bool.false_eq_true, if_false] at hn; omega
      · rfl
    have hs2 : s2 = true := by
      cases s2
      · exfalso; simp only [Bool.false_eq_true, if_false] at hn; omega
      · rfl
    subst hs1 hs2
    obtain ⟨rfl, k1, j1, i1⟩ := h1 rfl
    obtain ⟨rfl, k2, j2, i2⟩ := h2 rfl
    cases cs with
    | nil => rw [Nat.zero_add]; exact hC g1 g2 w hb k1 k2 j1 j2 (h12 rfl rfl) i1 i2
    | cons c cs => simp at hn
  | succ n ih =>
    intro cs I l s1 s2 a0 w0 w x1 x2 g1 g2 hn hok hC hb hb0 hI h1 h2 h12
    have hone := okFree_head hok (s1 := s1) (s2 := s2) (fun e1 e2 e3 => by subst e1 e2 e3; simp at hn)
    simp only [okOne, Bool.and_eq_true, List.all_eq_true] at hone
    rw [Nat.add_right_comm]
    refine ⟨fun h0 => by rw [h0] at hone; simp at hone, fun i hi => ?_⟩
    have hi2 := hone.2 i hi
    have hb0s := hb0.size
    simp only [Bool.or_eq_true, Bool.and_eq_true, beq_iff_eq] at hi2
    rcases hi2 with (hi2 | ⟨rfl, hs⟩) | ⟨rfl, hs⟩
    · cases cs with
      | nil => cases hi2
      | cons c cs =>
        simp only [List.head?_cons, Option.some.injEq] at hi2
        subst hi2
        simp only [okFree, Bool.and_eq_true, bne_iff_ne, ne_eq] at hok
        have hc1 := hok.1.1.2
        have hc2 := hok.1.2
        refine wpOp_mono (fun a2 w2 h => ?_) (hC x1 x2 w hb)
        obtain ⟨⟨e1, e2, hb2⟩, hC2⟩ := h
        have hb02 := hb0.trans (hb2.mono hb0s)
        have hsz := hb2.size
        refine ⟨fun _ => hS _ hb02, ?_⟩
        rw [cn_call hc1 hc2]
        have hap : ∀ {g : Nat}, Apart I g → g < w.heap.size → Apart ((w.heap.size, w2.heap.size) :: I) g := fun h hg p hp => by
          rcases List.mem_cons.1 hp with rfl | hp
          · intro h'; have := h'.1; simp at this; omega
          · exact h p hp
        have hr := ih cs ((w.heap.size, w2.heap.size) :: I) (l.setIfInBounds c true) s1 s2 a2 w2 w2 x1 x2 g1 g2 (by simp only [List.length_cons] at hn; omega) hok.2 hC2 (Below.refl _ _) hb02
          (fun p hp => by
            rcases List.mem_cons.1 hp with rfl | hp
            · exact Nat.le_refl _
            · exact Nat.le_trans (hI p hp) hsz)
          (fun e => ⟨(h1 e).1, (h1 e).2.1.below hb2 (h1 e).2.1.lt, (h1 e).2.2.1, hap (h1 e).2.2.2 (h1 e).2.1.lt⟩) (fun e => ⟨(h2 e).1, (h2 e).2.1.below hb2 (h2 e).2.1.lt, (h2 e).2.2.1, hap (h2 e).2.2.2 (h2 e).2.1.lt⟩) h12
        rw [← puts_self e1 e2] at hr
        exact hr
    · have hs1 : s1 = false := by simpa using hs
      subst hs1
      refine hA1 _ _ _ ⟨fun _ => hS _ (hb0.alloc hb0s _), ?_⟩
      rw [cn_one hne, puts_one hde]
      refine ih cs I l true s2 a0 w0 _ _ x2 w.heap.size g2 (by simp at hn ⊢; omega) hok hC (hb.alloc hb.size _) (hb0.alloc hb0s _) (fun p hp => by have := hI p hp; simp; omega) (fun _ => ⟨rfl, Blk.new _ _ _, hb0s, fun p hp h => by have := hI p hp; omega⟩) (fun e => ⟨(h2 e).1, (h2 e).2.1.alloc _, (h2 e).2.2⟩) (fun _ e => by have := (h2 e).2.1.lt; omega)
    · have hs2 : s2 = false := by simpa using hs
      subst hs2
      refine hA2 _ _ _ ⟨fun _ => hS _ (hb0.alloc hb0s _), ?_⟩
      rw [cn_two, puts_two]
      refine ih cs I l s1 true a0 w0 _ x1 _ g1 w.heap.size (by simp at hn ⊢; omega) hok hC (hb.alloc hb.size _) (hb0.alloc hb0s _) (fun p hp => by have := hI p hp; simp; omega) (fun e => ⟨(h1 e).1, (h1 e).2.1.alloc _, (h1 e).2.2⟩) (fun _ => ⟨rfl, Blk.new _ _ _, hb0s, fun p hp h => by have := hI p hp; omega⟩) (fun e _ => by have := (h1 e).2.1.lt; omega)

theorem wpAnyL_free2 {l : Array Bool} {a : Act} {w : World} (f1 f2 d1 d2 F : Nat) (t1 t2 : TypeId) (z1 z2 : Array Value) (cs : List Nat) (hne : f1 ≠ f2) (hde : d1 ≠ d2) (hok : okFree md ops f1 f2 cs l = true) (e1 : d1 < a.tmps.size) (e2 : d2 < a.tmps.size) (hS : ∀ w', Below w.heap.size w w' → S w')
    (hA1 : ∀ (K : Act → World → Prop) (a : Act) (w : World), K (a.put (some d1) (.pointer (some ⟨w.heap.size, 0, none⟩))) (w.alloc (.cells z1 t1)) → wpOp P ops Q f1 K a w)
    (hA2 : ∀ (K : Act → World → Prop) (a : Act) (w : World), K (a.put (some d2) (.pointer (some ⟨w.heap.size, 0, none⟩))) (w.alloc (.cells z2 t2)) → wpOp P ops Q f2 K a w)
    (h : Chain P ops Q md L S f1 f2 d1 d2 F t1 t2 z1 z2 w.heap.size cs [] l a w) : wpAnyL P md ops Q L S (cs.length + 1 + 1 + F) l a w := by
  have := two_aux (md := md) (L := L) (F := F) hne hde hS hA1 hA2 (cs.length + 1 + 1) cs [] l false false a w w (a.tmps[d1]) (a.tmps[d2]) 0 0 rfl hok h (Below.refl _ _) (Below.refl _ _) (fun p hp => by cases hp) (fun e => by cases e) (fun e => by cases e) (fun e => by cases e)
  rw [← puts_self (Array.getElem?_eq_getElem e1) (Array.getElem?_eq_getElem e2)] at this
  exact this
theorem wpOp_shut {i : Nat} {o : Oper} {K : Act → World → Prop} {a : Act} {w : World} (ho : ops[i]? = some o)
    (h : ∀ K' : Act → World → Prop, Shut (∀ a w, K a w → K' a w) → if Region.wanted o (yielded ops a.tmps) = true then Oper.wp P o a w K' Q else K' (a.put o.dst undef) w) : wpOp P ops Q i K a w :=
  wpOp_step ho (fun K' hK => h K' hK)
theorem chain_cons {base : Nat} {c : Nat} {cs : List Nat} {I : List (Nat × Nat)} {l : Array Bool} {a : Act} {w : World}
    (h : ∀ u1 u2 w', Below w.heap.size w w' → wpOp P ops Q c (fun a2 w2 => (a2.tmps[d1]? = some u1 ∧ a2.tmps[d2]? = some u2 ∧ Below w'.heap.size w' w2) ∧ Chain P ops Q md L S f1 f2 d1 d2 F t1 t2 z1 z2 base cs ((w'.heap.size, w2.heap.size) :: I) (l.setIfInBounds c true) a2 w2) (puts d1 d2 a u1 u2) w') :
    Chain P ops Q md L S f1 f2 d1 d2 F t1 t2 z1 z2 base (c :: cs) I l a w := h
theorem chain_nil {base : Nat} {I : List (Nat × Nat)} {l : Array Bool} {a : Act} {w : World}
    (h : ∀ g1 g2 w', Below w.heap.size w w' → Blk w' g1 t1 z1 → Blk w' g2 t2 z2 → base ≤ g1 → base ≤ g2 → g1 ≠ g2 → Apart I g1 → Apart I g2 → wpAnyL P md ops Q L S F (cn f1 f2 l true true) (puts d1 d2 a (.pointer (some ⟨g1, 0, none⟩)) (.pointer (some ⟨g2, 0, none⟩))) w') :
    Chain P ops Q md L S f1 f2 d1 d2 F t1 t2 z1 z2 base [] I l a w := h
end
end Go.Proofs.YtljocgdhdilglaaGreat

namespace Go.Proofs.YtljocgdhdilglaaGreat
open Go.RowKit

def c1 (f : Nat) (l : Array Bool) (s : Bool) : Array Bool := if s then l.setIfInBounds f true else l
theorem c1_call {f c : Nat} {l : Array Bool} {s : Bool} (h : c ≠ f) : (c1 f l s).setIfInBounds c true = c1 f (l.setIfInBounds c true) s := by
  cases s <;> simp only [c1, if_true, Bool.false_eq_true, if_false]
  rw [Array.setIfInBounds_comm _ _ (Ne.symm h)]
def okOneO (md : Region.Mode) (ops : Array Oper) (f : Nat) (h : Option Nat) (l : Array Bool) (s : Bool) : Bool :=
  let r := Region.ready md ops (c1 f l s)
  !r.isEmpty && r.all fun i => (h == some i) || (i == f && !s)
def okFreeO (md : Region.Mode) (ops : Array Oper) (f : Nat) : List Nat → Array Bool → Bool
  | [], _ => true
  | c :: cs, l => okOneO md ops f (some c) l false && okOneO md ops f (some c) l true && c != f && okFreeO md ops f cs (l.setIfInBounds c true)
theorem okFreeO_head {md : Region.Mode} {ops : Array Oper} {f c : Nat} {cs : List Nat} {l : Array Bool} (h : okFreeO md ops f (c :: cs) l = true) {s : Bool} : okOneO md ops f (some c) l s = true := by
  simp only [okFreeO, Bool.and_eq_true] at h
  cases s
  · exact h.1.1.1
  · exact h.1.1.2

/-- The walk over the chain. -/
def ChainO (P : Program) (ops : Array Oper) (Q : Exit → Act → World → Prop) (md : Region.Mode) (L : List Nat) (S : World → Prop) (f d F : Nat) (t : TypeId) (z : Array Value) (base : Nat) : List Nat → Array Bool → Act → World → Prop
  | [], l, a, w => (∀ u w', Below w.heap.size w w' → wpAnyL P md ops Q L S (F + 1) (c1 f l false) (a.put (some d) u) w') ∧ ∀ g w', Below w.heap.size w w' → Blk w' g t z → base ≤ g →
      wpAnyL P md ops Q L S F (c1 f l true) (a.put (some d) (.pointer (some ⟨g, 0, none⟩))) w'
  | c :: cs, l, a, w => ∀ u w', Below w.heap.size w w' →
      wpOp P ops Q c (fun a2 w2 => (a2.tmps[d]? = some u ∧ Below w'.heap.size w' w2) ∧ ChainO P ops Q md L S f d F t z base cs (l.setIfInBounds c true) a2 w2) (a.put (some d) u) w'
theorem put1_self {a : Act} {d : Nat} {u : Value} (h : a.tmps[d]? = some u) : a = a.put (some d) u := by
  cases a with
  | mk t ds =>
    simp only [Act.put] at *
    rw [put_self h]
theorem put1_put {a : Act} {d : Nat} {u v : Value} : (a.put (some d) u).put (some d) v = a.put (some d) v := by
  simp only [Act.put]
  rw [Array.setIfInBounds_setIfInBounds]

section
variable {P : Program} {ops : Array Oper} {Q : Exit → Act → World → Prop} {md : Region.Mode} {L : List Nat} {S : World → Prop} {f d F : Nat} {t : TypeId} {z : Array Value}
theorem one_aux {w00 : World} (hS : ∀ w, Below w00.heap.size w00 w → S w)
    (hA : ∀ (K : Act → World → Prop) (a : Act) (w : World), K (a.put (some d) (.pointer (some ⟨w.heap.size, 0, none⟩))) (w.alloc (.cells z t)) → wpOp P ops Q f K a w) :
    ∀ (n : Nat) (cs : List Nat) (l : Array Bool) (s : Bool) (a0 : Act) (w0 w : World) (x : Value) (g : Nat), n = cs.length + (if s then 0 else 1) → okFreeO md ops f cs l = true →
      ChainO P ops Q md L S f d F t z w00.heap.size cs l a0 w0 → Below w0.heap.size w0 w → Below w00.heap.size w00 w →
      (s = true → x = .pointer (some ⟨g, 0, none⟩) ∧ Blk w g t z ∧ w00.heap.size ≤ g) →
      wpAnyL P md ops Q L S (n + F) (c1 f l s) (a0.put (some d) x) w := by
  intro n
  induction n with
  | zero =>
    intro cs l s a0 w0 w x g hn hok hC hb hb0 h1
    have hs : s = true := by
      cases s
      · exfalso; simp only [Bool.false_eq_true, if_false] at hn; omega
      · rfl
    subst hs
    obtain ⟨rfl, k1, j1⟩ := h1 rfl
    cases cs with
    | nil => rw [Nat.zero_add]; exact hC.2 g w hb k1 j1
    | cons c cs => simp at hn
  | succ n ih =>
    intro cs l s a0 w0 w x g hn hok hC hb hb0 h1
    cases cs with
    | nil =>
      have hs1 : s = false := by
        cases s
        · rfl
        · simp at hn
      subst hs1
      have hn0 : n = 0 := by simp at hn; omega
      subst hn0
      rw [Nat.zero_add, Nat.add_comm]
      exact hC.1 x w hb
    | cons c cs =>
    have hone := okFreeO_head hok (s := s)
    simp only [okOneO, Bool.and_eq_true, List.all_eq_true] at hone
    rw [Nat.add_right_comm]
    refine ⟨fun h0 => by rw [h0] at hone; simp at hone, fun i hi => ?_⟩
    have hi2 := hone.2 i hi
    have hb0s := hb0.size
    simp only [Bool.or_eq_true, Bool.and_eq_true, beq_iff_eq] at hi2
    rcases hi2 with hi2 | ⟨rfl, hs⟩
    · · simp only [Option.some.injEq] at hi2
        subst hi2
        simp only [okFreeO, Bool.and_eq_true, bne_iff_ne, ne_eq] at hok
        have hc1 := hok.1.2
        refine wpOp_mono (fun a2 w2 h => ?_) (hC x w hb)
        obtain ⟨⟨e1, hb2⟩, hC2⟩ := h
        have hb02 := hb0.trans (hb2.mono hb0s)
        refine ⟨fun _ => hS _ hb02, ?_⟩
        rw [c1_call hc1]
        have hr := ih cs (l.setIfInBounds c true) s a2 w2 w2 x g (by simp only [List.length_cons] at hn; omega) hok.2 hC2 (Below.refl _ _) hb02
          (fun e => ⟨(h1 e).1, (h1 e).2.1.below hb2 (h1 e).2.1.lt, (h1 e).2.2⟩)
        rw [← put1_self e1] at hr
        exact hr
    · have hs1 : s = false := by simpa using hs
      subst hs1
      refine hA _ _ _ ⟨fun _ => hS _ (hb0.alloc hb0s _), ?_⟩
      rw [show (c1 i l false).setIfInBounds i true = c1 i l true by simp [c1], put1_put]
      exact ih (c :: cs) l true a0 w0 _ _ w.heap.size (by simp at hn ⊢; omega) hok hC (hb.alloc hb.size _) (hb0.alloc hb0s _) (fun _ => ⟨rfl, Blk.new _ _ _, hb0s⟩)

theorem wpAnyL_free1 {l : Array Bool} {a : Act} {w : World} (f d F : Nat) (t : TypeId) (z : Array Value) (cs : List Nat) (hok : okFreeO md ops f cs l = true) (e1 : d < a.tmps.size) (hS : ∀ w', Below w.heap.size w w' → S w')
    (hA : ∀ (K : Act → World → Prop) (a : Act) (w : World), K (a.put (some d) (.pointer (some ⟨w.heap.size, 0, none⟩))) (w.alloc (.cells z t)) → wpOp P ops Q f K a w)
    (h : ChainO P ops Q md L S f d F t z w.heap.size cs l a w) : wpAnyL P md ops Q L S (cs.length + 1 + F) l a w := by
  have := one_aux (md := md) (L := L) (F := F) hS hA (cs.length + 1) cs l false a w w (a.tmps[d]) 0 rfl hok h (Below.refl _ _) (Below.refl _ _) (fun e => by cases e)
  rw [← put1_self (Array.getElem?_eq_getElem e1)] at this
  exact this
theorem chainO_cons {base : Nat} {c : Nat} {cs : List Nat} {l : Array Bool} {a : Act} {w : World}
    (h : ∀ u w', Below w.heap.size w w' → wpOp P ops Q c (fun a2 w2 => (a2.tmps[d]? = some u ∧ Below w'.heap.size w' w2) ∧ ChainO P ops Q md L S f d F t z base cs (l.setIfInBounds c true) a2 w2) (a.put (some d) u) w') :
    ChainO P ops Q md L S f d F t z base (c :: cs) l a w := h
theorem chainO_nil {base : Nat} {l : Array Bool} {a : Act} {w : World}
    (h1 : ∀ u w', Below w.heap.size w w' → wpAnyL P md ops Q L S (F + 1) (c1 f l false) (a.put (some d) u) w')
    (h : ∀ g w', Below w.heap.size w w' → Blk w' g t z → base ≤ g → wpAnyL P md ops Q L S F (c1 f l true) (a.put (some d) (.pointer (some ⟨g, 0, none⟩))) w') :
    ChainO P ops Q md L S f d F t z base [] l a w := ⟨h1, h⟩
end
end Go.Proofs.YtljocgdhdilglaaGreat

namespace Go.Proofs.YtljocgdhdilglaaGreat
open Go.RowKit
attribute [local go_sem] add_lit

theorem rat_div {a b : Rat} (h : 0 < b.num) : Rat.divInt (a.num * b.den) ((a.den : Int) * b.num) = a / b := by
  have hb : ((b.den : Nat) : Int) ≠ 0 := by have := b.den_pos; omega
  rw [Rat.div_def, ← Rat.divInt_mul_divInt, Rat.num_divInt_den, ← Rat.inv_divInt, Rat.num_divInt_den]

end Go.Proofs.YtljocgdhdilglaaGreat

namespace Go.Proofs.YtljocgdhdilglaaGreat
open Go.RowKit
attribute [local go_sem] add_lit

theorem sameB_num {x y : Int} {na nb : Bool} (ha : na = decide (x < 0)) (hb : nb = decide (y < 0)) : sameB na nb (digits x.natAbs) (digits y.natAbs) = decide (x = y) := by
  unfold sameB
  rw [cmpL_digits, ha, hb]
  by_cases h : x = y
  · subst h; simp [cmpZ]
  · rw [decide_eq_false h]
    unfold cmpZ
    by_cases h1 : (decide (x < 0) == decide (y < 0)) = true
    · have : x.natAbs ≠ y.natAbs := by
        intro e
        rw [beq_iff_eq, decide_eq_decide] at h1
        omega
      rcases Nat.lt_or_gt_of_ne this with h2 | h2
      · rw [if_pos (by omega)]; simp
      · rw [if_neg (by omega), if_pos (by omega)]; simp
    · rw [Bool.not_eq_true] at h1; rw [h1]; rfl

/-- Two numbers in memory, as a fraction (valid or not). -/
def Fz (w : World) (na : Bool) (A : Option Addr) (n c : Nat) (nb : Bool) (B : Option Addr) (m d : Nat) (q : Int × Int) : Prop := Wd w na A n c q.1 ∧ Wd w nb B m d q.2
theorem Fz.below {w w' : World} {na : Bool} {A : Option Addr} {n c : Nat} {nb : Bool} {B : Option Addr} {m d : Nat} {r : Int × Int} (h : Fz w na A n c nb B m d r) (hb : Below w.heap.size w w') : Fz w' na A n c nb B m d r := ⟨h.1.below hb, h.2.below hb⟩
/-- The pair of a fraction. -/
def prQ (r : Rat) : Int × Int := (r.num, (r.den : Nat))
theorem Fr.fz {w : World} {na : Bool} {A : Option Addr} {n c : Nat} {nb : Bool} {B : Option Addr} {m d : Nat} {r : Rat} (h : Fr w na A n c nb B m d r) : Fz w na A n c nb B m d (prQ r) := h

set_option maxRecDepth 100000 in
set_option maxHeartbeats 1000000 in
theorem rfSame_fz (na nb na' nb' : Bool) (A B A' B' : Option Addr) (n c m d n' c' m' d' : Nat) (a b : Int × Int) (w : World) (ha : Fz w na A n c nb B m d a) (hb : Fz w na' A' n' c' nb' B' m' d' b) (s : Bool) (hs : decide (a = b) = s) :
    Calls Tryz.prog 27 #[.agg #[.bool na, .slice A n c, .bool nb, .slice B m d], .agg #[.bool na', .slice A' n' c', .bool nb', .slice B' m' d']] w fun e w' => e = .returned (.bool s) ∧ Below w.heap.size w w' := by
  obtain ⟨W0, hW0, hB0, ⟨q0, q1⟩, s0⟩ := alloc2 w 27 #[.bool na, .slice A n c, .bool nb, .slice B m d] 27 #[.bool na', .slice A' n' c', .bool nb', .slice B' m' d']
  have hA := hide (ha.below hB0)
  have hD := hide (hb.below hB0)
  have e1 := hide (sameB_num ha.1.1 hb.1.1)
  have e2 := hide (sameB_num ha.2.1 hb.2.1)
  clear ha hb
  obtain ⟨x, hx⟩ : ∃ x, decide (a.1 = b.1) = x := ⟨_, rfl⟩
  obtain ⟨y, hy⟩ : ∃ y, decide (a.2 = b.2) = y := ⟨_, rfl⟩
  have hsx : s = (x && y) := by
    rw [← hs, ← hx, ← hy, Bool.eq_iff_iff]
    simp only [decide_eq_true_eq, Bool.and_eq_true]
    constructor
    · rintro rfl; exact ⟨rfl, rfl⟩
    · rintro ⟨h1, h2⟩; exact Prod.ext h1 h2
  subst hsx
  rw [hx] at e1
  rw [hy] at e2
  clear hs hx hy
  obtain ⟨a0, a1, a2, a3, -⟩ := q0.four
  obtain ⟨b0, b1, b2, b3, -⟩ := q1.four
  have hq := hide (And.intro q0 q1)
  clear q0 q1
  go_enter Tryz.func27, Tryz.ntmps27
  go_wp2_with fail
  refine (rSame_any na na' A A' n c n' c' _ _ W0 hA.out.1.lim hD.out.1.lim).mono ?_
  rw [e1.out]
  rintro e w1 ⟨rfl, hb1⟩
  have hB1 : Below w.heap.size w w1 := hB0.trans (hb1.mono hB0.size)
  replace hA := hide (hA.out.below hb1)
  replace hD := hide (hD.out.below hb1)
  obtain ⟨q0, q1⟩ := hq.out
  replace q0 := keep_blk hb1 q0
  replace q1 := keep_blk hb1 q1
  clear hW0 hb1 a0 a1 a2 a3 b0 b1 b2 b3 hq hB0
  obtain ⟨a0, a1, a2, a3, -⟩ := q0.four
  obtain ⟨b0, b1, b2, b3, -⟩ := q1.four
  clear q0 q1
  cases x
  · go_wp2_with fail
    go_ret
    exact ⟨rfl, hB1⟩
  · go_wp2_with fail
    refine (rSame_any nb nb' B B' m d m' d' _ _ w1 hA.out.2.lim hD.out.2.lim).mono ?_
    rw [e2.out]
    rintro e w2 ⟨rfl, hb2⟩
    have hB2 : Below w.heap.size w w2 := hB1.trans (hb2.mono hB1.size)
    go_wp2_with fail
    go_ret
    exact ⟨by simp, hB2⟩

theorem prQ_inj {a b : Rat} : prQ a = prQ b ↔ a = b := by
  constructor
  · intro h
    have h1 := congrArg Prod.fst h
    have h2 := congrArg Prod.snd h
    simp only [prQ] at h1 h2
    exact Rat.ext h1 (by omega)
  · rintro rfl; rfl
theorem rfSame_any (na nb na' nb' : Bool) (A B A' B' : Option Addr) (n c m d n' c' m' d' : Nat) (a b : Rat) (w : World) (ha : Fr w na A n c nb B m d a) (hb : Fr w na' A' n' c' nb' B' m' d' b) (s : Bool) (hs : decide (a = b) = s) :
    Calls Tryz.prog 27 #[.agg #[.bool na, .slice A n c, .bool nb, .slice B m d], .agg #[.bool na', .slice A' n' c', .bool nb', .slice B' m' d']] w fun e w' => e = .returned (.bool s) ∧ Below w.heap.size w w' :=
  rfSame_fz na nb na' nb' A B A' B' n c m d n' c' m' d' (prQ a) (prQ b) w ha.fz hb.fz s (by rw [← hs]; exact decide_eq_decide.2 prQ_inj)
end Go.Proofs.YtljocgdhdilglaaGreat
