/- The law CovarImages holds: for every input it returns -/
import Derived.Test.YthappeninglakaaGreatRows
import Derived.Carry
import Derived.Test.YthappeninglakaaGreatZi23
set_option maxRecDepth 100000
set_option linter.unusedSimpArgs false
set_option linter.unusedVariables false
namespace Go.Proofs.YthappeninglakaaGreat
open Go.RowKit
open List renaming mem_append_right→Qa,mem_append_left→Qb,append_nil→Qc
open Go.ChangeShapes Go.WideShapes Go.ChangeAt Go.RowKit
theorem Z14:ownKnob Tryz.prog.godebug=none:=by kernel_rfl
theorem Znn:laidOutB Tryz.prog=true:=by kernel_rfl
theorem images_lifted(os:Os)(started:os.Started)(H:Type)(enc:TypeId × Value->H) :
    ReturnsInHanded {} Tryz.checked os 7 .any (Rows.covarImagesSpec.pre6 enc Tryz.prog Tryz.f7 Rows.covarImagesRow.domain false) (Rows.covarImagesSpec.post enc Tryz.prog Tryz.f7 false true false false):=by
 refine returnsInHanded_of_change (C:=Tryz.checked) Z14 started Gi Tryz.func7
  (ChangeSpec.witness6 (enc:=enc) (C:=Tryz.checked) false ⟨#[],#[.slice none 0 0,.int .i64 0,.slice none 0 0],[]⟩ 8 Gi Gi Gi Gi) ?_
 intro W base args ds gs before h hW Y _;have f:∀ (j:Nat) t v,Tryz.f7.params[j]?=some t->args[j]?=some v->Value.okWide Tryz.prog W .any base t v:=h;have y:=hW;obtain⟨p,q,I,hV,rfl,a3,a1⟩:=hW;have hA:DataW.TrodAll enc Tryz.prog W 0 (λ_=>true) true Tryz.f7.params.toList args.toList ds p:=I;rw[Tryz.params7]at hA f;obtain⟨v0,v1,v2,d0,d1,d2,p0,p1,p2,rfl,rfl,u,z0,z1,z2⟩:=trodAll_three hA;replace u:p=p0++(p1++(p2)):=by rw[u];simp
 subst u;obtain⟨rfl,rfl⟩:=trodVars_none hV;obtain⟨A0,n0,c0,a0,rfl,T⟩:=Z16 (f 0 25 v0 rfl rfl) z0;obtain⟨V,e1,-,-,O⟩:=open_int Tryz.underlying3 (f 1 3 v1 rfl rfl) z1;subst e1;have J:=Zzd O;obtain⟨A2,n2,c2,a2,rfl,U⟩:=Zvz (f 2 59 v2 rfl rfl) z2;clear I h;simp only[Qc]at y;have o:∀ x ∈ p0++(p1++(p2)),x.block<W.heap.size:=λx hx=>y.lt x hx;refine(Zro _ _ _ _ _ _ _ _ _ W T J.1 J.2 U).mono λe W' ⟨he,hw⟩=>?_;subst he
 exact⟨_,rfl,Zoy (pa:=p0++(p1++(p2))) (pv:=[]) y (λ_ _ _=>trodAll_mk1 (shut_bool Tryz.underlying4 true))
  (λsp hsp=>trodAll_mk3 (WideElems.Trod_stays Znn Gi (of_decide_eq_true Gi) z0 (λx hx=>hw.same (o x (Qb _ hx))) (λx hx=>hsp x (Qb _ hx))) (WideElems.Trod_stays Znn Gi (of_decide_eq_true Gi) z1 (λx hx=>hw.same (o x (Qa _ (Qb _ hx)))) (λx hx=>hsp x (Qa _ (Qb _ hx)))) (WideElems.Trod_stays Znn Gi (of_decide_eq_true Gi) z2 (λx hx=>hw.same (o x (Qa _ (Qa _ hx)))) (λx hx=>hsp x (Qa _ (Qa _ hx)))))
  (λ_ _=>rfl) (Qc _).symm hw (ok_one Gi rfl (okWide_bool_mk Tryz.underlying4 true))⟩
theorem images_holds:Rows.CovarImagesSaid:=
 OpenClaim.holds_of_wide 7 Tryz.f7 rfl rfl rfl rfl rfl rfl rfl ⟨rfl,rfl,rfl,rfl,rfl⟩ rfl rfl rfl rfl rfl Gi Tryz.func7 Gi
  (of_decide_eq_true Gi) (by unfold Func.isWrapper;first|(rw[Gx GY];kernel_rfl)|(rw[Gw GY];exact⟨rfl,rfl⟩))
  (λos started H enc _=>images_lifted os started H enc)
#print axioms images_holds
end Go.Proofs.YthappeninglakaaGreat
