/- The law CovarNames holds: for every input it returns true, -/
import Derived.Test.YthappeninglakaaGreatRows
import Derived.Carry
import Derived.Test.YthappeninglakaaGreatZg24
set_option maxRecDepth 100000
set_option linter.unusedSimpArgs false
set_option linter.unusedVariables false
namespace Go.Proofs.YthappeninglakaaGreat
open Go.RowKit
open List renaming append_nil→Qa
open Go.ChangeShapes Go.WideShapes Go.ChangeAt Go.RowKit
theorem Zzw:ownKnob Tryz.prog.godebug=none:=by kernel_rfl
theorem laid_out:laidOutB Tryz.prog=true:=by kernel_rfl
theorem names_lifted(os:Os)(started:os.Started)(H:Type)(enc:TypeId × Value->H) :
    ReturnsInHanded {} Tryz.checked os 8 .any (Rows.covarNamesSpec.pre6 enc Tryz.prog Tryz.f8 Rows.covarNamesRow.domain false) (Rows.covarNamesSpec.post enc Tryz.prog Tryz.f8 false true false false):=by
 refine returnsInHanded_of_change (C:=Tryz.checked) Zzw started (by kernel_rfl) Tryz.func8
  (ChangeSpec.witness6 (enc:=enc) (C:=Tryz.checked) false ⟨#[],#[],[]⟩ 8 (by kernel_rfl) (by kernel_rfl) (by kernel_rfl) (by kernel_rfl)) ?_
 intro W base args ds gs before f hW u _;have h:=hW;obtain⟨p,q,o,hV,rfl,y,I⟩:=hW;have hA:DataW.TrodAll enc Tryz.prog W 0 (λ_=>true) true Tryz.f8.params.toList args.toList ds p:=o;rw[Tryz.params8]at hA;obtain⟨rfl,rfl,rfl⟩:=trodAll_none hA;obtain⟨rfl,rfl⟩:=trodVars_none hV;clear o f;simp only[Qa]at h;refine(Zq0 W).mono λe W' ⟨he,hw⟩=>?_;subst he
 exact⟨_,rfl,Znz (pa:=[]) (pv:=[]) h (λ_ _ _=>trodAll_mk1 (shut_bool Tryz.underlying4 true))
  (λsp hsp=>rfl)
  (λ_ _=>rfl) (Qa _).symm hw (ok_one (by kernel_rfl) rfl (okWide_bool_mk Tryz.underlying4 true))⟩
theorem names_holds:Rows.CovarNamesSaid:=
 OpenClaim.holds_of_wide 8 Tryz.f8 rfl rfl rfl rfl rfl rfl rfl ⟨rfl,rfl,rfl,rfl,rfl⟩ rfl rfl rfl rfl rfl (by kernel_rfl) Tryz.func8 (by kernel_rfl)
  (of_decide_eq_true (by kernel_rfl)) (by unfold Func.isWrapper;first|(rw[Gx (by decide +kernel)];kernel_rfl)|(rw[Gw (by decide +kernel)];exact⟨rfl,rfl⟩))
  (λos started H enc _=>names_lifted os started H enc)
#print axioms names_holds
end Go.Proofs.YthappeninglakaaGreat
