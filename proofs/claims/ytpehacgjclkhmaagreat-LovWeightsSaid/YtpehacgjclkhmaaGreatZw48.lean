/- The law LovWeights holds: for every input it returns true, -/
import Derived.Test.YtpehacgjclkhmaaGreatRows
import Derived.Carry
import Derived.Test.YtpehacgjclkhmaaGreatZw47
set_option maxRecDepth 100000
set_option linter.unusedSimpArgs false
set_option linter.unusedVariables false
namespace Go.Proofs.YtpehacgjclkhmaaGreat
open Go.ChangeShapes Go.WideShapes Go.ChangeAt Go.RowKit
theorem Zi4 : ownKnob Tryz.prog.godebug = none:=by kernel_rfl
theorem Zcx : laidOutB Tryz.prog = true:=by kernel_rfl
theorem weights_lifted (os : Os) (started : os.Started) (H : Type) (enc : TypeId × Value -> H) :
    ReturnsInHanded {} Tryz.checked os 5 .any (Rows.lovWeightsSpec.pre6 enc Tryz.prog Tryz.f5 Rows.lovWeightsRow.domain false) (Rows.lovWeightsSpec.post enc Tryz.prog Tryz.f5 false true false false):=by
 refine returnsInHanded_of_change (C:=Tryz.checked) Zi4 started (by kernel_rfl) Tryz.func5
  (ChangeSpec.witness6 (enc:=enc) (C:=Tryz.checked) false ⟨#[],#[.int .i64 0],[]⟩ 8 (by kernel_rfl) (by kernel_rfl) (by kernel_rfl) (by kernel_rfl)) ?_
 intro W base args ds gs before hval0 hW hcnd _;have hval : ∀ (j : Nat) t v,Tryz.f5.params[j]? = some t -> args[j]? = some v -> Value.okWide Tryz.prog W .any base t v:=hval0;have hW':=hW;obtain ⟨p,q,hA0,hV,rfl,hfz,hnd⟩:=hW;have hA : DataW.TrodAll enc Tryz.prog W 0 (fun _=>true) true Tryz.f5.params.toList args.toList ds p:=hA0;rw [Tryz.params5] at hA hval;obtain ⟨v0,d0,rfl,rfl,z0⟩:=trodAll_one hA;obtain ⟨rfl,rfl⟩:=trodVars_none hV;obtain ⟨num0,e0,-,-,hw0⟩:=open_int Tryz.underlying3 (hval 0 3 v0 rfl rfl) z0;subst e0;have hb0:=Ze3 hw0;clear hA0 hval0;simp only [List.append_nil] at hW'
 have hlt : ∀ x ∈ p,x.block < W.heap.size:=fun x hx=>hW'.lt x hx
 refine (Zml _  W hb0.1 hb0.2).mono fun e W' ⟨he,hw⟩=>?_
 subst he
 exact ⟨_,rfl,Ze6 (pa:=p) (pv:=[]) hW' (fun _ _ _=>trodAll_mk1 (shut_bool Tryz.underlying4 true))
  (fun sp hsp=>trodAll_mk1 (WideElems.Trod_stays Zcx (by kernel_rfl) (of_decide_eq_true (by kernel_rfl)) z0 (fun x hx=>hw.same (hlt x hx)) (fun x hx=>hsp x hx)))
  (fun _ _=>rfl) (List.append_nil _).symm hw (ok_one (by kernel_rfl) rfl (okWide_bool_mk Tryz.underlying4 true))⟩
theorem weights_holds : Rows.LovWeightsSaid:=
 OpenClaim.holds_of_wide 5 Tryz.f5 rfl rfl rfl rfl rfl rfl rfl ⟨rfl,rfl,rfl,rfl,rfl⟩ rfl rfl rfl rfl rfl (by kernel_rfl) Tryz.func5 (by kernel_rfl)
  (of_decide_eq_true (by kernel_rfl)) (by unfold Func.isWrapper;first | (rw [if_pos (by decide +kernel)];kernel_rfl) | (rw [if_neg (by decide +kernel)];exact ⟨rfl,rfl⟩))
  (fun os started H enc _=>weights_lifted os started H enc)
#print axioms weights_holds
end Go.Proofs.YtpehacgjclkhmaaGreat
