/- Reference of centroid: second. -/
import Derived.Deep.CutBlock
import Derived.Deep.DeepCutAuto
import Derived.Test.YtkippclhbkjbmaaZn39
import Derived.Test.YtkippclhbkjbmaaZn35
set_option linter.unusedSimpArgs false
set_option linter.unusedVariables false

namespace Go.Proofs.Ytkippclhbkjbmaa
open Go.RowKit
attribute [local go_sem] add_lit

/-- The two operations that may come up. -/
theorem wpAnyL_two {P : Program} {ops : Array Oper} {Q : Exit → Act → World → Prop} {md : Region.Mode} {L : List Nat} {S : World → Prop} {i j : Nat} {oi oj : Oper} {fuel : Nat} {listed : Array Bool} {a : Act} {w : World} (hi : ops[i]? = some oi) (hj : ops[j]? = some oj) (hr : Region.ready md ops listed = [i, j])
    (h1 : ∀ K' : Act → World → Prop, Shut (∀ a w, (noneOf L (listed.setIfInBounds i true) = true → S w) → wpAnyL P md ops Q L S fuel (listed.setIfInBounds i true) a w → K' a w) → if Region.wanted oi (yielded ops a.tmps) = true then Oper.wp P oi a w K' Q else K' (a.put oi.dst undef) w)
    (h2 : ∀ K' : Act → World → Prop, Shut (∀ a w, (noneOf L (listed.setIfInBounds j true) = true → S w) → wpAnyL P md ops Q L S fuel (listed.setIfInBounds j true) a w → K' a w) → if Region.wanted oj (yielded ops a.tmps) = true then Oper.wp P oj a w K' Q else K' (a.put oj.dst undef) w) :
    wpAnyL P md ops Q L S (fuel + 1) listed a w :=
  ⟨(fun h0 => by rw [h0] at hr; cases hr), fun k hk => by
    rw [hr] at hk
    rcases List.mem_cons.1 hk with e | e
    · subst e; exact wpOp_step hi (fun K' hK => h1 K' (fun a w hS hW => hK a w ⟨hS, hW⟩))
    · rw [List.mem_singleton] at e; subst e; exact wpOp_step hj (fun K' hK => h2 K' (fun a w hS hW => hK a w ⟨hS, hW⟩))⟩

/-- A variable that holds a fraction. -/
def FracV (w : World) (g : Nat) (r : Rat) : Prop :=
  ∃ na A n c nb B m d, Blk w g 29 #[.bool na, .slice A n c, .bool nb, .slice B m d] ∧ Fr w na A n c nb B m d r
theorem FracV.below {w w' : World} {g : Nat} {r : Rat} (h : FracV w g r) (hb : Below w.heap.size w w') : FracV w' g r := by
  obtain ⟨na, A, n, c, nb, B, m, d, h1, h2⟩ := h
  exact ⟨na, A, n, c, nb, B, m, d, keep_blk hb h1, h2.below hb⟩
theorem FracV.lt {w : World} {g : Nat} {r : Rat} (h : FracV w g r) : g < w.heap.size := by
  obtain ⟨na, A, n, c, nb, B, m, d, h1, h2⟩ := h
  exact (Array.getElem?_eq_some_iff.1 h1).1
theorem FracV.keep {w W : World} {g : Nat} {r : Rat} (h : FracV w g r) (hk : ∀ na A n c z, Wd w na A n c z → Wd W na A n c z) (hb : ∀ cs, Blk w g 29 cs → Blk W g 29 cs) : FracV W g r := by
  obtain ⟨na, A, n, c, nb, B, m, d, h1, h2⟩ := h
  exact ⟨na, A, n, c, nb, B, m, d, hb _ h1, h2.keep hk⟩
theorem i64_pw {s : Int} (h0 : 0 < s) (h1 : s ≤ 9223372036854775807) : s.natAbs < pw 2 := by
  refine Nat.lt_of_le_of_lt (m := 9223372036854775807) (by omega) ?_
  rw [pw_succ, pw_succ, pw_zero]; decide
theorem pw_gt_one_any {k : Nat} (h : 1 ≤ k) : 1 < pw k := Nat.lt_of_lt_of_le pw_gt_one (pw_le h)
theorem plc_pw {row : Bool} {W H : Int} {ps l : List Int} {n k : Nat} (hf : 1 ≤ W ∧ W ≤ 100 ∧ 1 ≤ H ∧ H ≤ 100 ∧ (n : Int) = W * H) (h : 0 ≤ l[k]?.getD 0 ∧ l[k]?.getD 0 < n ∧ -8589934592 ≤ pix ps (l[k]?.getD 0) ∧ pix ps (l[k]?.getD 0) ≤ 8589934592) : (plc row W (l[k]?.getD 0)).natAbs < pw 1 := by
  have h3 := plc_bound (row := row) hf h.1 h.2.1
  refine Nat.lt_of_le_of_lt (m := 99) (by omega) ?_
  rw [pw_succ, pw_zero]; decide
theorem pix_pw {ps l : List Int} {n k : Nat} (h : 0 ≤ l[k]?.getD 0 ∧ l[k]?.getD 0 < n ∧ -8589934592 ≤ pix ps (l[k]?.getD 0) ∧ pix ps (l[k]?.getD 0) ≤ 8589934592) : (pix ps (l[k]?.getD 0)).natAbs < pw 2 := by
  refine Nat.lt_of_le_of_lt (m := 8589934592) (by omega) ?_
  rw [pw_succ, pw_succ, pw_zero]; decide
theorem FracV.alloc {w : World} {g : Nat} {r : Rat} (h : FracV w g r) (o : Obj) : FracV (w.alloc o) g r := h.below ((Below.refl _ _).alloc (Nat.le_refl _) _)


end Go.Proofs.Ytkippclhbkjbmaa
