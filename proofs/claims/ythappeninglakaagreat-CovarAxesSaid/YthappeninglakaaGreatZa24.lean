/- The law CovarAxes holds: for every input it returns true, -/
import Derived.Test.YthappeninglakaaGreatRows
import Derived.Carry
import Derived.Test.YthappeninglakaaGreatZa23
set_option maxRecDepth 100000
set_option linter.unusedSimpArgs false
set_option linter.unusedVariables false
namespace Go.Proofs.YthappeninglakaaGreat
open Go.RowKit
open List renaming append_nil→Qa
open Go.ChangeShapes Go.WideShapes Go.ChangeAt Go.RowKit
theorem Z0r:ownKnob Tryz.prog.godebug=none:=by kernel_rfl
theorem Z0t:laidOutB Tryz.prog=true:=by kernel_rfl
theorem axes_lifted(os:Os)(started:os.Started)(H:Type)(enc:TypeId × Value->H) :
    ReturnsInHanded {} Tryz.checked os 6 .any (Rows.covarAxesSpec.pre6 enc Tryz.prog Tryz.f6 Rows.covarAxesRow.domain false) (Rows.covarAxesSpec.post enc Tryz.prog Tryz.f6 false true false false):=by
 refine returnsInHanded_of_change (C:=Tryz.checked) Z0r started Gi Tryz.func6
  (ChangeSpec.witness6 (enc:=enc) (C:=Tryz.checked) false ⟨#[],#[.slice none 0 0],[]⟩ 8 Gi Gi Gi Gi) ?_
 intro W base args ds gs before f hW J _;have h:∀ (j:Nat) t v,Tryz.f6.params[j]?=some t->args[j]?=some v->Value.okWide Tryz.prog W .any base t v:=f;have o:=hW;obtain⟨p,q,u,hV,rfl,U,T⟩:=hW;have hA:DataW.TrodAll enc Tryz.prog W 0 (λ_=>true) true Tryz.f6.params.toList args.toList ds p:=u;rw[Tryz.params6]at hA h;obtain⟨v0,d0,rfl,rfl,z0⟩:=trodAll_one hA;obtain⟨rfl,rfl⟩:=trodVars_none hV;obtain⟨A0,n0,c0,O,rfl,I⟩:=Z0u (h 0 25 v0 rfl rfl) z0;clear u f;simp only[Qa]at o;have y:∀ x ∈ p,x.block<W.heap.size:=λx hx=>o.lt x hx;refine(Zt3 _ _ _ _ W I).mono λe W' ⟨he,hw⟩=>?_;subst he
 exact⟨_,rfl,Zom (pa:=p) (pv:=[]) o (λ_ _ _=>trodAll_mk1 (shut_bool Tryz.underlying4 true))
  (λsp hsp=>trodAll_mk1 (WideElems.Trod_stays Z0t Gi (of_decide_eq_true Gi) z0 (λx hx=>hw.same (y x hx)) (λx hx=>hsp x hx)))
  (λ_ _=>rfl) (Qa _).symm hw (ok_one Gi rfl (okWide_bool_mk Tryz.underlying4 true))⟩
theorem axes_holds:Rows.CovarAxesSaid:=
 OpenClaim.holds_of_wide 6 Tryz.f6 rfl rfl rfl rfl rfl rfl rfl ⟨rfl,rfl,rfl,rfl,rfl⟩ rfl rfl rfl rfl rfl Gi Tryz.func6 Gi
  (of_decide_eq_true Gi) (by unfold Func.isWrapper;first|(rw[Gx GY];kernel_rfl)|(rw[Gw GY];exact⟨rfl,rfl⟩))
  (λos started H enc _=>axes_lifted os started H enc)
#print axioms axes_holds
end Go.Proofs.YthappeninglakaaGreat
