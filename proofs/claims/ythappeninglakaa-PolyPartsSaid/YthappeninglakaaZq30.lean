/- The law PolyParts holds: for every input it returns true, -/
import Derived.Test.YthappeninglakaaRows
import Derived.Test.YthappeninglakaaZq29
set_option maxRecDepth 100000
set_option linter.unusedSimpArgs false
set_option linter.unusedVariables false
namespace Go.Proofs.Ythappeninglakaa
open Go.ChangeShapes Go.WideShapes Go.ChangeAt Go.RowKit
theorem Ztz : ownKnob Try.prog.godebug = none:=by kernel_rfl
theorem Znd : laidOutB Try.prog = true:=by kernel_rfl
theorem parts_lifted (os : Os) (started : os.Started) (H : Type) (enc : TypeId × Value -> H) :
    ReturnsInHanded {} Try.checked os 3 .any (Rows.polyPartsSpec.pre6 enc Try.prog Try.f3 Rows.polyPartsRow.domain false) (Rows.polyPartsSpec.post enc Try.prog Try.f3 false true false false):=by
 refine returnsInHanded_of_change (C:=Try.checked) Ztz started (by kernel_rfl) Try.func3
  (ChangeSpec.witness6 (enc:=enc) (C:=Try.checked) false ⟨#[],#[.slice none 0 0,.slice none 0 0],[]⟩ 8 (by kernel_rfl) (by kernel_rfl) (by kernel_rfl) (by kernel_rfl)) ?_
 intro W base args ds gs before hval0 hW hcnd _;have hval : ∀ (j : Nat) t v,Try.f3.params[j]? = some t -> args[j]? = some v -> Value.okWide Try.prog W .any base t v:=hval0;have hW':=hW;obtain ⟨p,q,hA0,hV,rfl,hfz,hnd⟩:=hW;have hA : DataW.TrodAll enc Try.prog W 0 (fun _=>true) true Try.f3.params.toList args.toList ds p:=hA0;rw [Try.params3] at hA hval;obtain ⟨v0,v1,d0,d1,p0,p1,rfl,rfl,rfl,h0,h1⟩:=trodAll_two hA;obtain ⟨rfl,rfl⟩:=trodVars_none hV;have k0:=h0;have k1:=h1;obtain ⟨A0,n0,c0,es0,rfl,hL0⟩:=Zjj (hval 0 22 v0 rfl rfl) h0;obtain ⟨A1,n1,c1,es1,rfl,hL1⟩:=Zjj (hval 1 22 v1 rfl rfl) h1;clear hA0 hval0;simp only [List.append_nil] at hW'
 have hlt : ∀ x ∈ p0 ++ p1,x.block < W.heap.size:=fun x hx=>hW'.lt x hx
 refine (Zqj _ _ _ _ _ _ _ _ W hL0 hL1).mono fun e W' ⟨he,hw⟩=>?_
 subst he
 exact ⟨_,rfl,Zkx (pa:=p0 ++ p1) (pv:=[]) hW' (fun _ _ _=>trodAll_mk1 (shut_bool Try.underlying4 true))
  (fun sp hsp=>trodAll_mk2 (WideElems.Trod_stays Znd (by kernel_rfl) (of_decide_eq_true (by kernel_rfl)) k0 (fun x hx=>hw.same (hlt x (List.mem_append_left _ hx))) (fun x hx=>hsp x (List.mem_append_left _ hx)))
   (WideElems.Trod_stays Znd (by kernel_rfl) (of_decide_eq_true (by kernel_rfl)) k1 (fun x hx=>hw.same (hlt x (List.mem_append_right _ hx))) (fun x hx=>hsp x (List.mem_append_right _ hx))))
  (fun _ _=>rfl) (List.append_nil _).symm hw (ok_one (by kernel_rfl) rfl (okWide_bool_mk Try.underlying4 true))⟩
theorem parts_holds : Rows.PolyPartsSaid:=
 OpenClaim.holds_of_wide 3 Try.f3 rfl rfl rfl rfl rfl rfl rfl ⟨rfl,rfl,rfl,rfl,rfl⟩ rfl rfl rfl rfl rfl (by kernel_rfl) Try.func3 (by kernel_rfl)
  (of_decide_eq_true (by kernel_rfl)) (by unfold Func.isWrapper;first | (rw [if_pos (by decide +kernel)];kernel_rfl) | (rw [if_neg (by decide +kernel)];exact ⟨rfl,rfl⟩))
  (fun os started H enc _=>parts_lifted os started H enc)
#print axioms parts_holds
end Go.Proofs.Ythappeninglakaa
