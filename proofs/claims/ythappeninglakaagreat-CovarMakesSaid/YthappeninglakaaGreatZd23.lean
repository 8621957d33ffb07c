/- The law CovarMakes holds: for every input it returns true, -/
import Derived.Test.YthappeninglakaaGreatRows
import Derived.Carry
import Derived.Test.YthappeninglakaaGreatZd22
set_option maxRecDepth 100000
set_option linter.unusedSimpArgs false
set_option linter.unusedVariables false
namespace Go.Proofs.YthappeninglakaaGreat
open Go.RowKit
open List renaming mem_append_right→Qa,mem_append_left→Qb,append_nil→Qc
open Go.ChangeShapes Go.WideShapes Go.ChangeAt Go.RowKit
theorem Zxw:ownKnob Tryz.prog.godebug=none:=by kernel_rfl
theorem Zqr:laidOutB Tryz.prog=true:=by kernel_rfl
theorem makes_lifted(os:Os)(started:os.Started)(H:Type)(enc:TypeId × Value->H) :
    ReturnsInHanded {} Tryz.checked os 3 .any (Rows.covarMakesSpec.pre6 enc Tryz.prog Tryz.f3 Rows.covarMakesRow.domain false) (Rows.covarMakesSpec.post enc Tryz.prog Tryz.f3 false true false false):=by
 refine returnsInHanded_of_change (C:=Tryz.checked) Zxw started (by kernel_rfl) Tryz.func3
  (ChangeSpec.witness6 (enc:=enc) (C:=Tryz.checked) false ⟨#[],#[.slice none 0 0,.slice none 0 0],[]⟩ 8 (by kernel_rfl) (by kernel_rfl) (by kernel_rfl) (by kernel_rfl)) ?_
 intro W base args ds gs before f hW T _;have h:∀ (j:Nat) t v,Tryz.f3.params[j]?=some t->args[j]?=some v->Value.okWide Tryz.prog W .any base t v:=f;have u:=hW;obtain⟨p,q,y,hV,rfl,a0,V⟩:=hW;have hA:DataW.TrodAll enc Tryz.prog W 0 (λ_=>true) true Tryz.f3.params.toList args.toList ds p:=y;rw[Tryz.params3]at hA h;obtain⟨v0,v1,d0,d1,p0,p1,rfl,rfl,o,z0,z1⟩:=trodAll_two hA;replace o:p=p0++(p1):=by rw[o]
 subst o;obtain⟨rfl,rfl⟩:=trodVars_none hV;obtain⟨A0,n0,c0,Y,rfl,J⟩:=Zrc (h 0 22 v0 rfl rfl) z0;obtain⟨A1,n1,c1,U,rfl,O⟩:=Zsu (h 1 23 v1 rfl rfl) z1;clear y f;simp only[Qc]at u;have I:∀ x ∈ p0++(p1),x.block<W.heap.size:=λx hx=>u.lt x hx;refine(Zrg _ _ _ _ _ _ _ _ W J O).mono λe W' ⟨he,hw⟩=>?_;subst he
 exact⟨_,rfl,Znh (pa:=p0++(p1)) (pv:=[]) u (λ_ _ _=>trodAll_mk1 (shut_bool Tryz.underlying4 true))
  (λsp hsp=>trodAll_mk2 (WideElems.Trod_stays Zqr (by kernel_rfl) (of_decide_eq_true (by kernel_rfl)) z0 (λx hx=>hw.same (I x (Qb _ hx))) (λx hx=>hsp x (Qb _ hx))) (WideElems.Trod_stays Zqr (by kernel_rfl) (of_decide_eq_true (by kernel_rfl)) z1 (λx hx=>hw.same (I x (Qa _ hx))) (λx hx=>hsp x (Qa _ hx))))
  (λ_ _=>rfl) (Qc _).symm hw (ok_one (by kernel_rfl) rfl (okWide_bool_mk Tryz.underlying4 true))⟩
theorem makes_holds:Rows.CovarMakesSaid:=
 OpenClaim.holds_of_wide 3 Tryz.f3 rfl rfl rfl rfl rfl rfl rfl ⟨rfl,rfl,rfl,rfl,rfl⟩ rfl rfl rfl rfl rfl (by kernel_rfl) Tryz.func3 (by kernel_rfl)
  (of_decide_eq_true (by kernel_rfl)) (by unfold Func.isWrapper;first|(rw[if_pos (by decide +kernel)];kernel_rfl)|(rw[if_neg (by decide +kernel)];exact⟨rfl,rfl⟩))
  (λos started H enc _=>makes_lifted os started H enc)
#print axioms makes_holds
end Go.Proofs.YthappeninglakaaGreat
