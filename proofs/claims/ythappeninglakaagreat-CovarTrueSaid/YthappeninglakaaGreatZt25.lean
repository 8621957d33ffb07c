/- The law CovarTrue holds: for every input it returns true, -/
import Derived.Test.YthappeninglakaaGreatRows
import Derived.Carry
import Derived.Test.YthappeninglakaaGreatZt24
set_option maxRecDepth 100000
set_option linter.unusedSimpArgs false
set_option linter.unusedVariables false
namespace Go.Proofs.YthappeninglakaaGreat
open Go.RowKit
open List renaming mem_append_right→Qa,mem_append_left→Qb,append_nil→Qc
open Go.ChangeShapes Go.WideShapes Go.ChangeAt Go.RowKit
theorem Z0r:ownKnob Tryz.prog.godebug=none:=by kernel_rfl
theorem Zse:laidOutB Tryz.prog=true:=by kernel_rfl
theorem true_lifted(os:Os)(started:os.Started)(H:Type)(enc:TypeId × Value->H) :
    ReturnsInHanded {} Tryz.checked os 4 .any (Rows.covarTrueSpec.pre6 enc Tryz.prog Tryz.f4 Rows.covarTrueRow.domain false) (Rows.covarTrueSpec.post enc Tryz.prog Tryz.f4 false true false false):=by
 refine returnsInHanded_of_change (C:=Tryz.checked) Z0r started Gi Tryz.func4
  (ChangeSpec.witness6 (enc:=enc) (C:=Tryz.checked) false ⟨#[],#[.slice none 0 0,.slice none 0 0],[]⟩ 8 Gi Gi Gi Gi) ?_
 intro W base args ds gs before h hW T _;have f:∀ (j:Nat) t v,Tryz.f4.params[j]?=some t->args[j]?=some v->Value.okWide Tryz.prog W .any base t v:=h;have u:=hW;obtain⟨p,q,I,hV,rfl,a0,Y⟩:=hW;have hA:DataW.TrodAll enc Tryz.prog W 0 (λ_=>true) true Tryz.f4.params.toList args.toList ds p:=I;rw[Tryz.params4]at hA f;obtain⟨v0,v1,d0,d1,p0,p1,rfl,rfl,o,z0,z1⟩:=trodAll_two hA;replace o:p=p0++(p1):=by rw[o]
 subst o;obtain⟨rfl,rfl⟩:=trodVars_none hV;obtain⟨A0,n0,c0,V,rfl,O⟩:=Zs5 (f 0 22 v0 rfl rfl) z0;obtain⟨A1,n1,c1,U,rfl,J⟩:=Zu1 (f 1 23 v1 rfl rfl) z1;clear I h;simp only[Qc]at u;have y:∀ x ∈ p0++(p1),x.block<W.heap.size:=λx hx=>u.lt x hx;refine(Zv1 _ _ _ _ _ _ _ _ W O J).mono λe W' ⟨he,hw⟩=>?_;subst he
 exact⟨_,rfl,Zob (pa:=p0++(p1)) (pv:=[]) u (λ_ _ _=>trodAll_mk1 (shut_bool Tryz.underlying4 true))
  (λsp hsp=>trodAll_mk2 (WideElems.Trod_stays Zse Gi (of_decide_eq_true Gi) z0 (λx hx=>hw.same (y x (Qb _ hx))) (λx hx=>hsp x (Qb _ hx))) (WideElems.Trod_stays Zse Gi (of_decide_eq_true Gi) z1 (λx hx=>hw.same (y x (Qa _ hx))) (λx hx=>hsp x (Qa _ hx))))
  (λ_ _=>rfl) (Qc _).symm hw (ok_one Gi rfl (okWide_bool_mk Tryz.underlying4 true))⟩
theorem true_holds:Rows.CovarTrueSaid:=
 OpenClaim.holds_of_wide 4 Tryz.f4 rfl rfl rfl rfl rfl rfl rfl ⟨rfl,rfl,rfl,rfl,rfl⟩ rfl rfl rfl rfl rfl Gi Tryz.func4 Gi
  (of_decide_eq_true Gi) (by unfold Func.isWrapper;first|(rw[Gx GY];kernel_rfl)|(rw[Gw GY];exact⟨rfl,rfl⟩))
  (λos started H enc _=>true_lifted os started H enc)
#print axioms true_holds
end Go.Proofs.YthappeninglakaaGreat
