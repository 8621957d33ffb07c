/- The law LovLeast holds: for every input it returns true, -/
import Derived.Test.YtpehacgjclkhmaaGreatRows
import Derived.Carry
import Derived.Test.YtpehacgjclkhmaaGreatZx46
set_option maxRecDepth 100000
set_option linter.unusedSimpArgs false
set_option linter.unusedVariables false
namespace Go.Proofs.YtpehacgjclkhmaaGreat
open Go.ChangeShapes Go.WideShapes Go.ChangeAt Go.RowKit
theorem Zu0 : ownKnob Tryz.prog.godebug = none:=by kernel_rfl
theorem Zin : laidOutB Tryz.prog = true:=by kernel_rfl
theorem least_lifted (os : Os) (started : os.Started) (H : Type) (enc : TypeId × Value -> H) :
    ReturnsInHanded {} Tryz.checked os 6 .any (Rows.lovLeastSpec.pre6 enc Tryz.prog Tryz.f6 Rows.lovLeastRow.domain false) (Rows.lovLeastSpec.post enc Tryz.prog Tryz.f6 false true false false):=by
 refine returnsInHanded_of_change (C:=Tryz.checked) Zu0 started (by kernel_rfl) Tryz.func6
  (ChangeSpec.witness6 (enc:=enc) (C:=Tryz.checked) false ⟨#[],#[.slice none 0 0,.int .i64 0,.agg #[.int .i8 0,.int .i8 0,.int .i8 0,.int .i8 0,.int .i8 0,.int .i8 0]],[]⟩ 8 (by kernel_rfl) (by kernel_rfl) (by kernel_rfl) (by kernel_rfl)) ?_
 intro W base args ds gs before hval0 hW hcnd _;have hval : ∀ (j : Nat) t v,Tryz.f6.params[j]? = some t -> args[j]? = some v -> Value.okWide Tryz.prog W .any base t v:=hval0;have hW':=hW;obtain ⟨p,q,hA0,hV,rfl,hfz,hnd⟩:=hW;have hA : DataW.TrodAll enc Tryz.prog W 0 (fun _=>true) true Tryz.f6.params.toList args.toList ds p:=hA0;rw [Tryz.params6] at hA hval;obtain ⟨v0,v1,v2,d0,d1,d2,p0,p1,p2,rfl,rfl,hpp,z0,z1,z2⟩:=trodAll_three hA
 replace hpp : p = p0 ++ (p1 ++ (p2)):=by rw [hpp];simp
 subst hpp;obtain ⟨rfl,rfl⟩:=trodVars_none hV;obtain ⟨A0,n0,c0,es0,rfl,hL0⟩:=Zua (hval 0 22 v0 rfl rfl) z0;obtain ⟨num1,e1,-,-,hw1⟩:=open_int Tryz.underlying3 (hval 1 3 v1 rfl rfl) z1;subst e1;have hb1:=Zsq hw1;obtain ⟨by2,rfl,hby2⟩:=Zss (hval 2 63 v2 rfl rfl) z2;clear hA0 hval0;simp only [List.append_nil] at hW'
 have hlt : ∀ x ∈ p0 ++ (p1 ++ (p2)),x.block < W.heap.size:=fun x hx=>hW'.lt x hx
 refine (Zri _ _ _ _ _ _ W hL0 hb1.1 hb1.2 hby2).mono fun e W' ⟨he,hw⟩=>?_
 subst he
 exact ⟨_,rfl,Zj5 (pa:=p0 ++ (p1 ++ (p2))) (pv:=[]) hW' (fun _ _ _=>trodAll_mk1 (shut_bool Tryz.underlying4 true))
  (fun sp hsp=>trodAll_mk3 (WideElems.Trod_stays Zin (by kernel_rfl) (of_decide_eq_true (by kernel_rfl)) z0 (fun x hx=>hw.same (hlt x (List.mem_append_left _ hx))) (fun x hx=>hsp x (List.mem_append_left _ hx))) (WideElems.Trod_stays Zin (by kernel_rfl) (of_decide_eq_true (by kernel_rfl)) z1 (fun x hx=>hw.same (hlt x (List.mem_append_right _ (List.mem_append_left _ hx)))) (fun x hx=>hsp x (List.mem_append_right _ (List.mem_append_left _ hx)))) (WideElems.Trod_stays Zin (by kernel_rfl) (of_decide_eq_true (by kernel_rfl)) z2 (fun x hx=>hw.same (hlt x (List.mem_append_right _ (List.mem_append_right _ hx)))) (fun x hx=>hsp x (List.mem_append_right _ (List.mem_append_right _ hx)))))
  (fun _ _=>rfl) (List.append_nil _).symm hw (ok_one (by kernel_rfl) rfl (okWide_bool_mk Tryz.underlying4 true))⟩
theorem least_holds : Rows.LovLeastSaid:=
 OpenClaim.holds_of_wide 6 Tryz.f6 rfl rfl rfl rfl rfl rfl rfl ⟨rfl,rfl,rfl,rfl,rfl⟩ rfl rfl rfl rfl rfl (by kernel_rfl) Tryz.func6 (by kernel_rfl)
  (of_decide_eq_true (by kernel_rfl)) (by unfold Func.isWrapper;first | (rw [if_pos (by decide +kernel)];kernel_rfl) | (rw [if_neg (by decide +kernel)];exact ⟨rfl,rfl⟩))
  (fun os started H enc _=>least_lifted os started H enc)
#print axioms least_holds
end Go.Proofs.YtpehacgjclkhmaaGreat
