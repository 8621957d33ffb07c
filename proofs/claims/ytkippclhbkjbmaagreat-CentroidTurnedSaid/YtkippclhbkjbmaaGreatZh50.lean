/- A drawn region with a chain of calls and two new variables that nothing waits for: each call is walked once, with whatever variables may have come up before it. -/
import Derived.Test.YtkippclhbkjbmaaGreatZh26
set_option linter.unusedSimpArgs false
set_option linter.unusedVariables false

namespace Go.Proofs.YtkippclhbkjbmaaGreat
open Go.RowKit

/-- The operations that have come up: those of l, and the new variables f1, f2 if they have. -/
def cn (f1 f2 : Nat) (l : Array Bool) (s1 s2 : Bool) : Array Bool :=
  let l := if s1 then l.setIfInBounds f1 true else l
  if s2 then l.setIfInBounds f2 true else l
theorem cn_call {f1 f2 c : Nat} {l : Array Bool} {s1 s2 : Bool} (h1 : c ≠ f1) (h2 : c ≠ f2) : (cn f1 f2 l s1 s2).setIfInBounds c true = cn f1 f2 (l.setIfInBounds c true) s1 s2 := by
  cases s1 <;> cases s2 <;> simp only [cn, if_true, Bool.false_eq_true, if_false]
  · rw [Array.setIfInBounds_comm _ _ (Ne.symm h2)]
  · rw [Array.setIfInBounds_comm _ _ (Ne.symm h1)]
  · rw [Array.setIfInBounds_comm _ _ (Ne.symm h2), Array.setIfInBounds_comm _ _ (Ne.symm h1)]
theorem cn_one {f1 f2 : Nat} {l : Array Bool} {s2 : Bool} (h : f1 ≠ f2) : (cn f1 f2 l false s2).setIfInBounds f1 true = cn f1 f2 l true s2 := by
  cases s2 <;> simp only [cn, if_true, Bool.false_eq_true, if_false]
  rw [Array.setIfInBounds_comm _ _ (Ne.symm h)]
theorem cn_two {f1 f2 : Nat} {l : Array Bool} {s1 : Bool} : (cn f1 f2 l s1 false).setIfInBounds f2 true = cn f1 f2 l s1 true := by
  cases s1 <;> simp only [cn, if_true, Bool.false_eq_true, if_false]

def okOne (md : Region.Mode) (ops : Array Oper) (f1 f2 : Nat) (h : Option Nat) (l : Array Bool) (s1 s2 : Bool) : Bool :=
  let r := Region.ready md ops (cn f1 f2 l s1 s2)
  !r.isEmpty && r.all fun i => (h == some i) || (i == f1 && !s1) || (i == f2 && !s2)
def okFree (md : Region.Mode) (ops : Array Oper) (f1 f2 : Nat) : List Nat → Array Bool → Bool
  | [], l => okOne md ops f1 f2 none l false false && okOne md ops f1 f2 none l false true && okOne md ops f1 f2 none l true false
  | c :: cs, l => okOne md ops f1 f2 (some c) l false false && okOne md ops f1 f2 (some c) l false true && okOne md ops f1 f2 (some c) l true false && okOne md ops f1 f2 (some c) l true true && c != f1 && c != f2 && okFree md ops f1 f2 cs (l.setIfInBounds c true)
theorem okFree_head {md : Region.Mode} {ops : Array Oper} {f1 f2 : Nat} {cs : List Nat} {l : Array Bool} (h : okFree md ops f1 f2 cs l = true) {s1 s2 : Bool} (hn : cs = [] → s1 = true → s2 = true → False) : okOne md ops f1 f2 cs.head? l s1 s2 = true := by
  cases cs with
  | nil =>
    simp only [okFree, Bool.and_eq_true] at h
    cases s1 <;> cases s2
    · exact h.1.1
    · exact h.1.2
    · exact h.2
    · exact (hn rfl rfl rfl).elim
  | cons c cs =>
    simp only [okFree, Bool.and_eq_true] at h
    cases s1 <;> cases s2
    · exact h.1.1.1.1.1.1
    · exact h.1.1.1.1.1.2
    · exact h.1.1.1.1.2
    · exact h.1.1.1.2

def puts (d1 d2 : Nat) (a : Act) (u1 u2 : Value) : Act := (a.put (some d1) u1).put (some d2) u2

/-- A block that none of the calls has made. -/
def Apart (I : List (Nat × Nat)) (g : Nat) : Prop := ∀ p ∈ I, ¬ (p.1 ≤ g ∧ g < p.2)

/-- The walk over the chain; I: the blocks that the calls so far have made, from .. to. -/
def Chain (P : Program) (ops : Array Oper) (Q : Exit → Act → World → Prop) (md : Region.Mode) (L : List Nat) (S : World → Prop) (f1 f2 d1 d2 F : Nat) (t1 t2 : TypeId) (z1 z2 : Array Value) (base : Nat) : List Nat → List (Nat × Nat) → Array Bool → Act → World → Prop
  | [], I, l, a, w => ∀ g1 g2 w', Below w.heap.size w w' → Blk w' g1 t1 z1 → Blk w' g2 t2 z2 → base ≤ g1 → base ≤ g2 → g1 ≠ g2 → Apart I g1 → Apart I g2 →
      wpAnyL P md ops Q L S F (cn f1 f2 l true true) (puts d1 d2 a (.pointer (some ⟨g1, 0, none⟩)) (.pointer (some ⟨g2, 0, none⟩))) w'
  | c :: cs, I, l, a, w => ∀ u1 u2 w', Below w.heap.size w w' →
      wpOp P ops Q c (fun a2 w2 => (a2.tmps[d1]? = some u1 ∧ a2.tmps[d2]? = some u2 ∧ Below w'.heap.size w' w2) ∧ Chain P ops Q md L S f1 f2 d1 d2 F t1 t2 z1 z2 base cs ((w'.heap.size, w2.heap.size) :: I) (l.setIfInBounds c true) a2 w2) (puts d1 d2 a u1 u2) w'

theorem put_self {t : Array Value} {d : Nat} {u : Value} (h : t[d]? = some u) : t.setIfInBounds d u = t := by
  apply Array.ext
  · simp
  · intro i h1 h2
    rw [Array.getElem_setIfInBounds (by simpa using h1)]
    split
    · rename_i e
      subst e
      rw [Array.getElem?_eq_getElem h2] at h
      injection h with h
      exact h.symm
    · rfl
theorem puts_self {a : Act} {d1 d2 : Nat} {u1 u2 : Value} (h1 : a.tmps[d1]? = some u1) (h2 : a.tmps[d2]? = some u2) : a = puts d1 d2 a u1 u2 := by
  cases a with
  | mk t ds =>
    simp only [puts, Act.put] at *
    rw [put_self h1, put_self h2]
theorem puts_one {a : Act} {d1 d2 : Nat} {u1 u2 v : Value} (h : d1 ≠ d2) : (puts d1 d2 a u1 u2).put (some d1) v = puts d1 d2 a v u2 := by
  simp only [puts, Act.put]
  rw [Array.setIfInBounds_comm _ _ (Ne.symm h), Array.setIfInBounds_setIfInBounds]
theorem puts_two {a : Act} {d1 d2 : Nat} {u1 u2 v : Value} : (puts d1 d2 a u1 u2).put (some d2) v = puts d1 d2 a u1 v := by
  simp only [puts, Act.put]
  rw [Array.setIfInBounds_setIfInBounds]

section
variable {P : Program} {ops : Array Oper} {Q : Exit → Act → World → Prop} {md : Region.Mode} {L : List Nat} {S : World → Prop} {f1 f2 d1 d2 F : Nat} {t1 t2 : TypeId} {z1 z2 : Array Value}

theorem two_aux (hne : f1 ≠ f2) (hde : d1 ≠ d2) {w00 : World} (hS : ∀ w, Below w00.heap.size w00 w → S w)
    (hA1 : ∀ (K : Act → World → Prop) (a : Act) (w : World), K (a.put (some d1) (.pointer (some ⟨w.heap.size, 0, none⟩))) (w.alloc (.cells z1 t1)) → wpOp P ops Q f1 K a w)
    (hA2 : ∀ (K : Act → World → Prop) (a : Act) (w : World), K (a.put (some d2) (.pointer (some ⟨w.heap.size, 0, none⟩))) (w.alloc (.cells z2 t2)) → wpOp P ops Q f2 K a w) :
    ∀ (n : Nat) (cs : List Nat) (I : List (Nat × Nat)) (l : Array Bool) (s1 s2 : Bool) (a0 : Act) (w0 w : World) (x1 x2 : Value) (g1 g2 : Nat), n = cs.length + (if s1 then 0 else 1) + (if s2 then 0 else 1) → okFree md ops f1 f2 cs l = true →
      Chain P ops Q md L S f1 f2 d1 d2 F t1 t2 z1 z2 w00.heap.size cs I l a0 w0 → Below w0.heap.size w0 w → Below w00.heap.size w00 w → (∀ p ∈ I, p.2 ≤ w.heap.size) →
      (s1 = true → x1 = .pointer (some ⟨g1, 0, none⟩) ∧ Blk w g1 t1 z1 ∧ w00.heap.size ≤ g1 ∧ Apart I g1) → (s2 = true → x2 = .pointer (some ⟨g2, 0, none⟩) ∧ Blk w g2 t2 z2 ∧ w00.heap.size ≤ g2 ∧ Apart I g2) → (s1 = true → s2 = true → g1 ≠ g2) →
      wpAnyL P md ops Q L S (n + F) (cn f1 f2 l s1 s2) (puts d1 d2 a0 x1 x2) w := by
  intro n
  induction n with
  | zero =>
    intro cs I l s1 s2 a0 w0 w x1 x2 g1 g2 hn hok hC hb hb0 hI h1 h2 h12
    have hs1 : s1 = true := by
      cases s1
      · exfalso; simp only [Bool.false_eq_true, if_false] at hn; omega
      · rfl
    have hs2 : s2 = true := by
      cases s2
      · exfalso; simp only [Bool.false_eq_true, if_false] at hn; omega
      · rfl
    subst hs1 hs2
    obtain ⟨rfl, k1, j1, i1⟩ := h1 rfl
    obtain ⟨rfl, k2, j2, i2⟩ := h2 rfl
    cases cs with
    | nil => rw [Nat.zero_add]; exact hC g1 g2 w hb k1 k2 j1 j2 (h12 rfl rfl) i1 i2
    | cons c cs => simp at hn
  | succ n ih =>
    intro cs I l s1 s2 a0 w0 w x1 x2 g1 g2 hn hok hC hb hb0 hI h1 h2 h12
    have hone := okFree_head hok (s1 := s1) (s2 := s2) (fun e1 e2 e3 => by subst e1 e2 e3; simp at hn)
    simp only [okOne, Bool.and_eq_true, List.all_eq_true] at hone
    rw [Nat.add_right_comm]
    refine ⟨fun h0 => by rw [h0] at hone; simp at hone, fun i hi => ?_⟩
    have hi2 := hone.2 i hi
    have hb0s := hb0.size
    simp only [Bool.or_eq_true, Bool.and_eq_true, beq_iff_eq] at hi2
    rcases hi2 with (hi2 | ⟨rfl, hs⟩) | ⟨rfl, hs⟩
    · cases cs with
      | nil => cases hi2
      | cons c cs =>
        simp only [List.head?_cons, Option.some.injEq] at hi2
        subst hi2
        simp only [okFree, Bool.and_eq_true, bne_iff_ne, ne_eq] at hok
        have hc1 := hok.1.1.2
        have hc2 := hok.1.2
        refine wpOp_mono (fun a2 w2 h => ?_) (hC x1 x2 w hb)
        obtain ⟨⟨e1, e2, hb2⟩, hC2⟩ := h
        have hb02 := hb0.trans (hb2.mono hb0s)
        have hsz := hb2.size
        refine ⟨fun _ => hS _ hb02, ?_⟩
        rw [cn_call hc1 hc2]
        have hap : ∀ {g : Nat}, Apart I g → g < w.heap.size → Apart ((w.heap.size, w2.heap.size) :: I) g := fun h hg p hp => by
          rcases List.mem_cons.1 hp with rfl | hp
          · intro h'; have := h'.1; simp at this; omega
          · exact h p hp
        have hr := ih cs ((w.heap.size, w2.heap.size) :: I) (l.setIfInBounds c true) s1 s2 a2 w2 w2 x1 x2 g1 g2 (by simp only [List.length_cons] at hn; omega) hok.2 hC2 (Below.refl _ _) hb02
          (fun p hp => by
            rcases List.mem_cons.1 hp with rfl | hp
            · exact Nat.le_refl _
            · exact Nat.le_trans (hI p hp) hsz)
          (fun e => ⟨(h1 e).1, (h1 e).2.1.below hb2 (h1 e).2.1.lt, (h1 e).2.2.1, hap (h1 e).2.2.2 (h1 e).2.1.lt⟩) (fun e => ⟨(h2 e).1, (h2 e).2.1.below hb2 (h2 e).2.1.lt, (h2 e).2.2.1, hap (h2 e).2.2.2 (h2 e).2.1.lt⟩) h12
        rw [← puts_self e1 e2] at hr
        exact hr
    · have hs1 : s1 = false := by simpa using hs
      subst hs1
      refine hA1 _ _ _ ⟨fun _ => hS _ (hb0.alloc hb0s _), ?_⟩
      rw [cn_one hne, puts_one hde]
      refine ih cs I l true s2 a0 w0 _ _ x2 w.heap.size g2 (by simp at hn ⊢; omega) hok hC (hb.alloc hb.size _) (hb0.alloc hb0s _) (fun p hp => by have := hI p hp; simp; omega) (fun _ => ⟨rfl, Blk.new _ _ _, hb0s, fun p hp h => by have := hI p hp; omega⟩) (fun e => ⟨(h2 e).1, (h2 e).2.1.alloc _, (h2 e).2.2⟩) (fun _ e => by have := (h2 e).2.1.lt; omega)
    · have hs2 : s2 = false := by simpa using hs
      subst hs2
      refine hA2 _ _ _ ⟨fun _ => hS _ (hb0.alloc hb0s _), ?_⟩
      rw [cn_two, puts_two]
      refine ih cs I l s1 true a0 w0 _ x1 _ g1 w.heap.size (by simp at hn ⊢; omega) hok hC (hb.alloc hb.size _) (hb0.alloc hb0s _) (fun p hp => by have := hI p hp; simp; omega) (fun e => ⟨(h1 e).1, (h1 e).2.1.alloc _, (h1 e).2.2⟩) (fun _ => ⟨rfl, Blk.new _ _ _, hb0s, fun p hp h => by have := hI p hp; omega⟩) (fun e _ => by have := (h1 e).2.1.lt; omega)

theorem wpAnyL_free2 {l : Array Bool} {a : Act} {w : World} (f1 f2 d1 d2 F : Nat) (t1 t2 : TypeId) (z1 z2 : Array Value) (cs : List Nat) (hne : f1 ≠ f2) (hde : d1 ≠ d2) (hok : okFree md ops f1 f2 cs l = true) (e1 : d1 < a.tmps.size) (e2 : d2 < a.tmps.size) (hS : ∀ w', Below w.heap.size w w' → S w')
    (hA1 : ∀ (K : Act → World → Prop) (a : Act) (w : World), K (a.put (some d1) (.pointer (some ⟨w.heap.size, 0, none⟩))) (w.alloc (.cells z1 t1)) → wpOp P ops Q f1 K a w)
    (hA2 : ∀ (K : Act → World → Prop) (a : Act) (w : World), K (a.put (some d2) (.pointer (some ⟨w.heap.size, 0, none⟩))) (w.alloc (.cells z2 t2)) → wpOp P ops Q f2 K a w)
    (h : Chain P ops Q md L S f1 f2 d1 d2 F t1 t2 z1 z2 w.heap.size cs [] l a w) : wpAnyL P md ops Q L S (cs.length + 1 + 1 + F) l a w := by
  have := two_aux (md := md) (L := L) (F := F) hne hde hS hA1 hA2 (cs.length + 1 + 1) cs [] l false false a w w (a.tmps[d1]) (a.tmps[d2]) 0 0 rfl hok h (Below.refl _ _) (Below.refl _ _) (fun p hp => by cases hp) (fun e => by cases e) (fun e => by cases e) (fun e => by cases e)
  rw [← puts_self (Array.getElem?_eq_getElem e1) (Array.getElem?_eq_getElem e2)] at this
  exact this
theorem wpOp_shut {i : Nat} {o : Oper} {K : Act → World → Prop} {a : Act} {w : World} (ho : ops[i]? = some o)
    (h : ∀ K' : Act → World → Prop, Shut (∀ a w, K a w → K' a w) → if Region.wanted o (yielded ops a.tmps) = true then Oper.wp P o a w K' Q else K' (a.put o.dst undef) w) : wpOp P ops Q i K a w :=
  wpOp_step ho (fun K' hK => h K' hK)
theorem chain_cons {base : Nat} {c : Nat} {cs : List Nat} {I : List (Nat × Nat)} {l : Array Bool} {a : Act} {w : World}
    (h : ∀ u1 u2 w', Below w.heap.size w w' → wpOp P ops Q c (fun a2 w2 => (a2.tmps[d1]? = some u1 ∧ a2.tmps[d2]? = some u2 ∧ Below w'.heap.size w' w2) ∧ Chain P ops Q md L S f1 f2 d1 d2 F t1 t2 z1 z2 base cs ((w'.heap.size, w2.heap.size) :: I) (l.setIfInBounds c true) a2 w2) (puts d1 d2 a u1 u2) w') :
    Chain P ops Q md L S f1 f2 d1 d2 F t1 t2 z1 z2 base (c :: cs) I l a w := h
theorem chain_nil {base : Nat} {I : List (Nat × Nat)} {l : Array Bool} {a : Act} {w : World}
    (h : ∀ g1 g2 w', Below w.heap.size w w' → Blk w' g1 t1 z1 → Blk w' g2 t2 z2 → base ≤ g1 → base ≤ g2 → g1 ≠ g2 → Apart I g1 → Apart I g2 → wpAnyL P md ops Q L S F (cn f1 f2 l true true) (puts d1 d2 a (.pointer (some ⟨g1, 0, none⟩)) (.pointer (some ⟨g2, 0, none⟩))) w') :
    Chain P ops Q md L S f1 f2 d1 d2 F t1 t2 z1 z2 base [] I l a w := h
end
end Go.Proofs.YtkippclhbkjbmaaGreat
