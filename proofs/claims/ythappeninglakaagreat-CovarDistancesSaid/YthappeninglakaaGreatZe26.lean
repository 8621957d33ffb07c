/- The law CovarDistances holds: for every input it returns -/
import Derived.Test.YthappeninglakaaGreatRows
import Derived.Carry
import Derived.Test.YthappeninglakaaGreatZe25
set_option maxRecDepth 100000
set_option linter.unusedSimpArgs false
set_option linter.unusedVariables false
namespace Go.Proofs.YthappeninglakaaGreat
open Go.RowKit
open List renaming mem_append_right→Qa,mem_append_left→Qb,append_nil→Qc
open Go.ChangeShapes Go.WideShapes Go.ChangeAt Go.RowKit
theorem Z0q:ownKnob Tryz.prog.godebug=none:=by kernel_rfl
theorem Zkc:laidOutB Tryz.prog=true:=by kernel_rfl
theorem distances_lifted(os:Os)(started:os.Started)(H:Type)(enc:TypeId × Value->H) :
    ReturnsInHanded {} Tryz.checked os 5 .any (Rows.covarDistancesSpec.pre6 enc Tryz.prog Tryz.f5 Rows.covarDistancesRow.domain false) (Rows.covarDistancesSpec.post enc Tryz.prog Tryz.f5 false true false false):=by
 refine returnsInHanded_of_change (C:=Tryz.checked) Z0q started Gi Tryz.func5
  (ChangeSpec.witness6 (enc:=enc) (C:=Tryz.checked) false ⟨#[],#[.slice none 0 0,.slice none 0 0,.int .i64 0,.int .i64 0],[]⟩ 8 Gi Gi Gi Gi) ?_
 intro W base args ds gs before h hW a2 _;have f:∀ (j:Nat) t v,Tryz.f5.params[j]?=some t->args[j]?=some v->Value.okWide Tryz.prog W .any base t v:=h;have y:=hW;obtain⟨p,q,I,hV,rfl,a6,a5⟩:=hW;have hA:DataW.TrodAll enc Tryz.prog W 0 (λ_=>true) true Tryz.f5.params.toList args.toList ds p:=I;rw[Tryz.params5]at hA f;obtain⟨v0,v1,v2,v3,d0,d1,d2,d3,p0,p1,p2,p3,rfl,rfl,u,z0,z1,z2,z3⟩:=trodAll_four hA;replace u:p=p0++(p1++(p2++(p3))):=by rw[u];simp
 subst u;obtain⟨rfl,rfl⟩:=trodVars_none hV;obtain⟨A0,n0,c0,a4,rfl,Y⟩:=Z0s (f 0 25 v0 rfl rfl) z0;obtain⟨A1,n1,c1,a3,rfl,V⟩:=Zuc (f 1 35 v1 rfl rfl) z1;obtain⟨a1,e2,-,-,U⟩:=open_int Tryz.underlying3 (f 2 3 v2 rfl rfl) z2;subst e2;have J:=Zph U;obtain⟨a0,e3,-,-,T⟩:=open_int Tryz.underlying3 (f 3 3 v3 rfl rfl) z3;subst e3;have O:=Zph T;clear I h;simp only[Qc]at y;have o:∀ x ∈ p0++(p1++(p2++(p3))),x.block<W.heap.size:=λx hx=>y.lt x hx;refine(Ztu _ _ _ _ _ _ _ _ _ _ W Y V J.1 J.2 O.1 O.2).mono λe W' ⟨he,hw⟩=>?_;subst he
 exact⟨_,rfl,Zop (pa:=p0++(p1++(p2++(p3)))) (pv:=[]) y (λ_ _ _=>trodAll_mk1 (shut_bool Tryz.underlying4 true))
  (λsp hsp=>trodAll_mk4 (WideElems.Trod_stays Zkc Gi (of_decide_eq_true Gi) z0 (λx hx=>hw.same (o x (Qb _ hx))) (λx hx=>hsp x (Qb _ hx))) (WideElems.Trod_stays Zkc Gi (of_decide_eq_true Gi) z1 (λx hx=>hw.same (o x (Qa _ (Qb _ hx)))) (λx hx=>hsp x (Qa _ (Qb _ hx)))) (WideElems.Trod_stays Zkc Gi (of_decide_eq_true Gi) z2 (λx hx=>hw.same (o x (Qa _ (Qa _ (Qb _ hx))))) (λx hx=>hsp x (Qa _ (Qa _ (Qb _ hx))))) (WideElems.Trod_stays Zkc Gi (of_decide_eq_true Gi) z3 (λx hx=>hw.same (o x (Qa _ (Qa _ (Qa _ hx))))) (λx hx=>hsp x (Qa _ (Qa _ (Qa _ hx))))))
  (λ_ _=>rfl) (Qc _).symm hw (ok_one Gi rfl (okWide_bool_mk Tryz.underlying4 true))⟩
theorem distances_holds:Rows.CovarDistancesSaid:=
 OpenClaim.holds_of_wide 5 Tryz.f5 rfl rfl rfl rfl rfl rfl rfl ⟨rfl,rfl,rfl,rfl,rfl⟩ rfl rfl rfl rfl rfl Gi Tryz.func5 Gi
  (of_decide_eq_true Gi) (by unfold Func.isWrapper;first|(rw[Gx GY];kernel_rfl)|(rw[Gw GY];exact⟨rfl,rfl⟩))
  (λos started H enc _=>distances_lifted os started H enc)
#print axioms distances_holds
end Go.Proofs.YthappeninglakaaGreat
