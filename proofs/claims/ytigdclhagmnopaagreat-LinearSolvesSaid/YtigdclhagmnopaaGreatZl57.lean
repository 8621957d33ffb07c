/- The law LinearSolves holds: for every input it returns -/
import Derived.Test.YtigdclhagmnopaaGreatRows
import Derived.Carry
import Derived.Test.YtigdclhagmnopaaGreatZl55
set_option maxRecDepth 100000
set_option linter.unusedSimpArgs false
set_option linter.unusedVariables false
namespace Go.Proofs.YtigdclhagmnopaaGreat
open Go.ChangeShapes Go.WideShapes Go.Deep Go.RowKit
section
variable {H : Type} {enc : TypeId × Value -> H} {w : World} {base : Nat} {spare : Nat -> Bool} {held : Bool}
theorem Zjj {fuel : Nat} {cs : List Value} {x : DataW H × List MemPlace} (h : DataW.trod enc Tryz.prog w base spare held fuel 40 cs = some x) : ∃ (A : Option Addr) (n c : Nat) (es : List FX), cs = [.slice A n c] /\ FXL w A n c es := by
 have c4 : Tryz.prog.cellsOf 45 = 4 := by kernel_rfl
 rcases open_slice Tryz.underlying40 h with ⟨hcs, _⟩ | ⟨a, n, c, m, f, D, Pl, hcs, _, hl, hm, hmm, _, hi⟩
 ·exact ⟨none, 0, 0, [], hcs, rfl, Nat.le_refl _, Nat.zero_le _, fun e he => (by cases he), fun h => absurd h (by omega)⟩
 ·have hlm : n <= m := by rw [hmm]; split <;> omega
  rw [c4] at hi
  obtain ⟨es, he1, he2⟩ := Zqm (fun i (e : FX) => w.cell? (a.add (i * 4 + 0)) = some (.bool e.na) /\ w.cell? (a.add (i * 4 + 1)) = some (.slice e.A e.n e.c) /\ w.cell? (a.add (i * 4 + 2)) = some (.bool e.nb) /\ w.cell? (a.add (i * 4 + 3)) = some (.slice e.B e.m e.d) /\ e.in_ w) n (fun i hin => by
   obtain ⟨cs', hc, ht⟩ := hi i (by omega)
   obtain ⟨na, nb, A, B, n1, c1, m1, d1, la, lb, rfl, h1, h2⟩ := Zo9 ht
   obtain ⟨_, _, hat⟩ := World.cells?_some hc
   have g0 := hat 0 (by simp)
   have g1 := hat 1 (by simp)
   have g2 := hat 2 (by simp)
   have g3 := hat 3 (by simp)
   rw [Go.Deep.add_add] at g0 g1 g2 g3
   exact ⟨⟨na, A, n1, c1, la, nb, B, m1, d1, lb⟩, by simpa using g0, by simpa using g1, by simpa using g2, by simpa using g3, h1, h2⟩)
  refine ⟨some a, n, c, es, hcs, he1, hl, hm, fun e he => ?_, fun hn => ?_⟩
  ·obtain ⟨k, hk, rfl⟩ := List.getElem_of_mem he
   exact (he2 k _ (List.getElem?_eq_getElem hk)).2.2.2.2
  ·obtain ⟨b, o, rfl⟩ : ∃ b o, a = ⟨b, o, none⟩ := by
     have h0 := he2 0 _ (List.getElem?_eq_getElem (by omega))
     have hp := Zhv h0.1
     obtain ⟨b, o, s⟩ := a
     refine ⟨b, o, ?_⟩
     unfold Addr.add at hp
     split at hp <;> simp_all
   refine ⟨b, o, rfl, fun k e hk => ?_⟩
   have h0 := he2 k e hk
   rw [Zi, Zi, Zi, Zi] at h0
   exact ⟨h0.1, by rw [Nat.add_assoc]; exact h0.2.1, by rw [Nat.add_assoc]; exact h0.2.2.1, by rw [Nat.add_assoc]; exact h0.2.2.2.1⟩
theorem Zq8 {fuel : Nat} {cs : List Value} {x : DataW H × List MemPlace} (h : DataW.trod enc Tryz.prog w base spare held fuel 22 cs = some x) : ∃ (A : Option Addr) (n c : Nat) (rs : List RX), cs = [.slice A n c] /\ MXL w A n c rs := by
 have c1 : Tryz.prog.cellsOf 40 = 1 := by kernel_rfl
 rcases open_slice Tryz.underlying22 h with ⟨hcs, _⟩ | ⟨a, n, c, m, f, D, Pl, hcs, _, hl, hm, hmm, _, hi⟩
 ·exact ⟨none, 0, 0, [], hcs, rfl, Nat.le_refl _, Nat.zero_le _, fun e he => (by cases he), fun h => absurd h (by omega)⟩
 ·have hlm : n <= m := by rw [hmm]; split <;> omega
  rw [c1] at hi
  obtain ⟨rs, he1, he2⟩ := Zqm (fun i (r : RX) => w.cell? (a.add i) = some (.slice r.A r.n r.c) /\ FXL w r.A r.n r.c r.es) n (fun i hin => by
   obtain ⟨cs', hc, ht⟩ := hi i (by omega)
   obtain ⟨A, n1, c1, es, rfl, h1⟩ := Zjj ht
   obtain ⟨_, _, hat⟩ := World.cells?_some hc
   have g0 := hat 0 (by simp)
   rw [Go.Deep.add_add] at g0
   exact ⟨⟨A, n1, c1, es⟩, by simpa using g0, h1⟩)
  refine ⟨some a, n, c, rs, hcs, he1, hl, hm, fun r hr => ?_, fun hn => ?_⟩
  ·obtain ⟨k, hk, rfl⟩ := List.getElem_of_mem hr
   exact (he2 k _ (List.getElem?_eq_getElem hk)).2
  ·obtain ⟨b, o, rfl⟩ : ∃ b o, a = ⟨b, o, none⟩ := by
     have h0 := he2 0 _ (List.getElem?_eq_getElem (by omega))
     have hp := Zhv h0.1
     obtain ⟨b, o, s⟩ := a
     refine ⟨b, o, ?_⟩
     unfold Addr.add at hp
     split at hp <;> simp_all
   refine ⟨b, o, rfl, fun k r hk => ?_⟩
   have h0 := he2 k r hk
   rw [Zi] at h0
   exact h0.1
theorem Zsn {r : Reach} {b0 : Nat} {v : Value} {d : DataW H} {p : List MemPlace} (hv : Value.okWide Tryz.prog w r b0 22 v) (h : DataW.Trod enc Tryz.prog w base spare held 22 v d p) :
    ∃ (A : Option Addr) (n c : Nat) (rs : List RX), v = .slice A n c /\ MXL w A n c rs := by
 obtain ⟨A, n, c, rfl⟩ := okWide_slice Tryz.underlying22 hv
 obtain ⟨fuel, hf⟩ := h
 obtain ⟨A', n', c', rs, e, hM⟩ := Zq8 hf
 simp [Value.cells] at e
 obtain ⟨rfl, rfl, rfl⟩ := e
 exact ⟨_, _, _, rs, rfl, hM⟩
theorem Zo8 {r : Reach} {b0 : Nat} {v : Value} {d : DataW H} {p : List MemPlace} (hv : Value.okWide Tryz.prog w r b0 40 v) (h : DataW.Trod enc Tryz.prog w base spare held 40 v d p) :
    ∃ (A : Option Addr) (n c : Nat) (es : List FX), v = .slice A n c /\ FXL w A n c es := by
 obtain ⟨A, n, c, rfl⟩ := okWide_slice Tryz.underlying40 hv
 obtain ⟨fuel, hf⟩ := h
 obtain ⟨A', n', c', es, e, hM⟩ := Zjj hf
 simp [Value.cells] at e
 obtain ⟨rfl, rfl, rfl⟩ := e
 exact ⟨_, _, _, es, rfl, hM⟩
end
end Go.Proofs.YtigdclhagmnopaaGreat
namespace Go.Proofs.YtigdclhagmnopaaGreat
open Go.ChangeShapes Go.WideShapes Go.ChangeAt Go.RowKit
theorem Zs0 : ownKnob Tryz.prog.godebug = none := by kernel_rfl
theorem Zoq : laidOutB Tryz.prog = true := by kernel_rfl
theorem solves_lifted (os : Os) (started : os.Started) (H : Type) (enc : TypeId × Value -> H) :
    ReturnsInHanded {} Tryz.checked os 5 .any (Rows.linearSolvesSpec.pre6 enc Tryz.prog Tryz.f5 Rows.linearSolvesRow.domain false) (Rows.linearSolvesSpec.post enc Tryz.prog Tryz.f5 false true false false) := by
 refine returnsInHanded_of_change (C := Tryz.checked) Zs0 started (by kernel_rfl) Tryz.func5
  (ChangeSpec.witness6 (enc := enc) (C := Tryz.checked) false ⟨#[], #[.slice none 0 0, .slice none 0 0], []⟩ 8 (by kernel_rfl) (by kernel_rfl) (by kernel_rfl) (by kernel_rfl)) ?_
 intro W base args ds gs before hval0 hW hcnd _
 have hval : ∀ (j : Nat) t v, Tryz.f5.params[j]? = some t -> args[j]? = some v -> Value.okWide Tryz.prog W .any base t v := hval0
 have hW' := hW
 obtain ⟨p, q, hA0, hV, rfl, hfz, hnd⟩ := hW
 have hA : DataW.TrodAll enc Tryz.prog W 0 (fun _ => true) true Tryz.f5.params.toList args.toList ds p := hA0
 rw [Tryz.params5] at hA hval
 obtain ⟨v0, v1, d0, d1, p0, p1, rfl, rfl, hpp, z0, z1⟩ := trodAll_two hA
 replace hpp : p = p0 ++ (p1) := by rw [hpp]
 subst hpp
 obtain ⟨rfl, rfl⟩ := trodVars_none hV
 obtain ⟨A0, n0, c0, es0, rfl, hL0⟩ := Zsn (hval 0 22 v0 rfl rfl) z0
 obtain ⟨A1, n1, c1, es1, rfl, hL1⟩ := Zo8 (hval 1 40 v1 rfl rfl) z1
 clear hA0 hval0
 simp only [List.append_nil] at hW'
 have hlt : ∀ x ∈ p0 ++ (p1), x.block < W.heap.size := fun x hx => hW'.lt x hx
 refine (Zp5 _ _ _ _ _ _ _ _ W hL0 hL1).mono fun e W' ⟨he, hw⟩ => ?_
 subst he
 exact ⟨_, rfl, Zlk (pa := p0 ++ (p1)) (pv := []) hW' (fun _ _ _ => trodAll_mk1 (shut_bool Tryz.underlying4 true))
  (fun sp hsp => trodAll_mk2 (WideElems.Trod_stays Zoq (by kernel_rfl) (of_decide_eq_true (by kernel_rfl)) z0 (fun x hx => hw.same (hlt x (List.mem_append_left _ hx))) (fun x hx => hsp x (List.mem_append_left _ hx))) (WideElems.Trod_stays Zoq (by kernel_rfl) (of_decide_eq_true (by kernel_rfl)) z1 (fun x hx => hw.same (hlt x (List.mem_append_right _ hx))) (fun x hx => hsp x (List.mem_append_right _ hx))))
  (fun _ _ => rfl) (List.append_nil _).symm hw (ok_one (by kernel_rfl) rfl (okWide_bool_mk Tryz.underlying4 true))⟩
theorem solves_holds : Rows.LinearSolvesSaid :=
 OpenClaim.holds_of_wide 5 Tryz.f5 rfl rfl rfl rfl rfl rfl rfl ⟨rfl, rfl, rfl, rfl, rfl⟩ rfl rfl rfl rfl rfl (by kernel_rfl) Tryz.func5 (by kernel_rfl)
  (of_decide_eq_true (by kernel_rfl)) (by unfold Func.isWrapper; first | (rw [if_pos (by decide +kernel)]; kernel_rfl) | (rw [if_neg (by decide +kernel)]; exact ⟨rfl, rfl⟩))
  (fun os started H enc _ => solves_lifted os started H enc)
#print axioms solves_holds
end Go.Proofs.YtigdclhagmnopaaGreat
