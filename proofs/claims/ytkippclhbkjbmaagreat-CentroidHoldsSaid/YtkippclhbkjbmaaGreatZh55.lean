/- The law CentroidHolds holds: for every input it returns true, and each argument reads as before. -/
import Derived.Test.YtkippclhbkjbmaaGreatRows
import Derived.Carry
import Derived.Test.YtkippclhbkjbmaaGreatZh53
import Derived.Test.YtkippclhbkjbmaaGreatZh54
set_option linter.unusedSimpArgs false
set_option linter.unusedVariables false

namespace Go.Proofs.YtkippclhbkjbmaaGreat
open Go.ChangeShapes Go.WideShapes Go.ChangeAt Go.RowKit

theorem own_knob : ownKnob Tryz.prog.godebug = none := by kernel_rfl
theorem laid_out : laidOutB Tryz.prog = true := by kernel_rfl

section
variable {H : Type} {enc : TypeId × Value → H} {w : World} {base : Nat} {spare : Nat → Bool} {held : Bool}
set_option maxRecDepth 100000 in
theorem open_list64 {r : Reach} {b0 : Nat} {v : Value} {d : DataW H} {p : List MemPlace} (hv : Value.okWide Tryz.prog w r b0 22 v) (h : DataW.Trod enc Tryz.prog w base spare held 22 v d p) : ∃ (A : Option Addr) (n c : Nat) (l : List Int), v = .slice A n c ∧ LimI w A n c l := by
  obtain ⟨A, n, c, rfl⟩ := okWide_slice Tryz.underlying22 hv
  obtain ⟨fuel, hf⟩ := h
  obtain ⟨A', n', c', l, hcs, hL⟩ := open_i64 Tryz.underlying22 Tryz.underlying2 (by kernel_rfl) hf
  simp [Value.cells] at hcs
  obtain ⟨rfl, rfl, rfl⟩ := hcs
  exact ⟨A, n, c, l, rfl, hL⟩
end

set_option maxRecDepth 100000 in
theorem holds_lifted (os : Os) (started : os.Started) (H : Type) (enc : TypeId × Value → H) :
    ReturnsInHanded {} Tryz.checked os 6 .any (Rows.centroidHoldsSpec.pre6 enc Tryz.prog Tryz.f6 Rows.centroidHoldsRow.domain false) (Rows.centroidHoldsSpec.post enc Tryz.prog Tryz.f6 false true false false) := by
  refine returnsInHanded_of_change (C := Tryz.checked) own_knob started (by kernel_rfl) Tryz.func6
    (ChangeSpec.witness6 (enc := enc) (C := Tryz.checked) false ⟨#[], #[.agg #[.int .i64 0, .int .i64 0, .slice none 0 0], .slice none 0 0, .int .i64 0, .slice none 0 0], []⟩ 8 (by kernel_rfl) (by kernel_rfl) (by kernel_rfl) (by kernel_rfl)) ?_
  intro W base args ds gs before hval0 hW hcnd _
  have hval : ∀ (j : Nat) t v, Tryz.f6.params[j]? = some t → args[j]? = some v → Value.okWide Tryz.prog W .any base t v := hval0
  have hW' := hW
  obtain ⟨p, q, hA0, hV, rfl, hfz, hnd⟩ := hW
  have hA : DataW.TrodAll enc Tryz.prog W 0 (fun _ => true) true Tryz.f6.params.toList args.toList ds p := hA0
  rw [Tryz.params6] at hA hval
  obtain ⟨v0, v1, v2, v3, d0, d1, d2, d3, p0, p1, p2, p3, rfl, rfl, hpp, z0, z1, z2, z3⟩ := trodAll_four hA
  replace hpp : p = p0 ++ (p1 ++ (p2 ++ p3)) := by rw [hpp]; simp
  subst hpp
  obtain ⟨rfl, rfl⟩ := trodVars_none hV
  obtain ⟨Wf, Hf, A, n, c, ps, rfl, hp, iW, iH⟩ := open_field (hval 0 24 v0 rfl rfl) z0
  obtain ⟨B, m, d, l, rfl, hl⟩ := open_list (hval 1 25 v1 rfl rfl) z1
  obtain ⟨off, e2, -, -, -⟩ := open_int Tryz.underlying2 (hval 2 2 v2 rfl rfl) z2
  subst e2
  obtain ⟨D, nb, db, bs, rfl, hy⟩ := open_list64 (hval 3 22 v3 rfl rfl) z3
  clear hA0 hval0
  simp only [List.append_nil] at hW'
  have hlt : ∀ x ∈ p0 ++ (p1 ++ (p2 ++ p3)), x.block < W.heap.size := fun x hx => hW'.lt x hx
  refine (law_holds Wf Hf A n c B m d ps l off D nb db bs W hp hl hy iW iH).mono fun e W' ⟨he, hw⟩ => ?_
  subst he
  exact ⟨_, rfl, post_of_below (pa := p0 ++ (p1 ++ (p2 ++ p3))) (pv := []) hW' (fun _ _ _ => trodAll_mk1 (shut_bool Tryz.underlying4 true))
    (fun sp hsp => trodAll_mk4 (WideElems.Trod_stays laid_out (by kernel_rfl) (of_decide_eq_true (by kernel_rfl)) z0 (fun x hx => hw.same (hlt x (List.mem_append_left _ hx))) (fun x hx => hsp x (List.mem_append_left _ hx))) (WideElems.Trod_stays laid_out (by kernel_rfl) (of_decide_eq_true (by kernel_rfl)) z1 (fun x hx => hw.same (hlt x (List.mem_append_right _ (List.mem_append_left _ hx)))) (fun x hx => hsp x (List.mem_append_right _ (List.mem_append_left _ hx)))) (WideElems.Trod_stays laid_out (by kernel_rfl) (of_decide_eq_true (by kernel_rfl)) z2 (fun x hx => hw.same (hlt x (List.mem_append_right _ (List.mem_append_right _ (List.mem_append_left _ hx))))) (fun x hx => hsp x (List.mem_append_right _ (List.mem_append_right _ (List.mem_append_left _ hx))))) (WideElems.Trod_stays laid_out (by kernel_rfl) (of_decide_eq_true (by kernel_rfl)) z3 (fun x hx => hw.same (hlt x (List.mem_append_right _ (List.mem_append_right _ (List.mem_append_right _ hx))))) (fun x hx => hsp x (List.mem_append_right _ (List.mem_append_right _ (List.mem_append_right _ hx))))))
    (fun _ _ => rfl) (List.append_nil _).symm hw (ok_one (by kernel_rfl) rfl (okWide_bool_mk Tryz.underlying4 true))⟩

theorem holds_holds : Rows.CentroidHoldsSaid :=
  OpenClaim.holds_of_wide 6 Tryz.f6 rfl rfl rfl rfl rfl rfl rfl ⟨rfl, rfl, rfl, rfl, rfl⟩ rfl rfl rfl rfl rfl (by kernel_rfl) Tryz.func6 (by kernel_rfl)
    (of_decide_eq_true (by kernel_rfl)) (by unfold Func.isWrapper; first | (rw [if_pos (by decide +kernel)]; kernel_rfl) | (rw [if_neg (by decide +kernel)]; exact ⟨rfl, rfl⟩))
    (fun os started H enc _ => holds_lifted os started H enc)

#print axioms holds_holds
end Go.Proofs.YtkippclhbkjbmaaGreat
