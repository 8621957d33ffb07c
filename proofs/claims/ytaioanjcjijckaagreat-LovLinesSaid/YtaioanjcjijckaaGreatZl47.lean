/- The law LovLines holds: for every input it returns true, -/
import Derived.Test.YtaioanjcjijckaaGreatRows
import Derived.Carry
import Derived.Test.YtaioanjcjijckaaGreatZl46
set_option maxRecDepth 100000
set_option linter.unusedSimpArgs false
set_option linter.unusedVariables false
namespace Go.Proofs.YtaioanjcjijckaaGreat
open Go.ChangeShapes Go.WideShapes Go.ChangeAt Go.RowKit
theorem Ztv : ownKnob Tryz.prog.godebug = none:=by kernel_rfl
theorem Zev : laidOutB Tryz.prog = true:=by kernel_rfl
theorem lines_lifted (os : Os) (started : os.Started) (H : Type) (enc : TypeId × Value -> H) :
    ReturnsInHanded {} Tryz.checked os 4 .any (Rows.lovLinesSpec.pre6 enc Tryz.prog Tryz.f4 Rows.lovLinesRow.domain false) (Rows.lovLinesSpec.post enc Tryz.prog Tryz.f4 false true false false):=by
 refine returnsInHanded_of_change (C:=Tryz.checked) Ztv started (by kernel_rfl) Tryz.func4
  (ChangeSpec.witness6 (enc:=enc) (C:=Tryz.checked) false ⟨#[],#[.agg #[.int .i64 0,.int .i64 0,.int .i64 0,.int .i64 0,.int .i64 0,.int .i64 0,.int .i64 0],.slice none 0 0,.int .i64 0,.int .i64 0,.int .i64 0],[]⟩ 8 (by kernel_rfl) (by kernel_rfl) (by kernel_rfl) (by kernel_rfl)) ?_
 intro W base args ds gs before hval0 hW hcnd _;have hval : ∀ (j : Nat) t v,Tryz.f4.params[j]? = some t -> args[j]? = some v -> Value.okWide Tryz.prog W .any base t v:=hval0;have hW':=hW;obtain ⟨p,q,hA0,hV,rfl,hfz,hnd⟩:=hW;have hA : DataW.TrodAll enc Tryz.prog W 0 (fun _=>true) true Tryz.f4.params.toList args.toList ds p:=hA0;rw [Tryz.params4] at hA hval;obtain ⟨v0,v1,v2,v3,v4,d0,d1,d2,d3,d4,p0,p1,p2,p3,p4,rfl,rfl,hpp,z0,z1,z2,z3,z4⟩:=Zl3 hA
 replace hpp : p = p0 ++ (p1 ++ (p2 ++ (p3 ++ (p4)))):=by rw [hpp];simp
 subst hpp;obtain ⟨rfl,rfl⟩:=trodVars_none hV;obtain ⟨st0,rfl⟩:=Zpi (hval 0 46 v0 rfl rfl) z0;obtain ⟨A1,n1,c1,es1,rfl,hL1⟩:=Zr1 (hval 1 22 v1 rfl rfl) z1;obtain ⟨num2,e2,-,-,hw2⟩:=open_int Tryz.underlying3 (hval 2 3 v2 rfl rfl) z2;subst e2;have hb2:=Zhk hw2;obtain ⟨num3,e3,-,-,hw3⟩:=open_int Tryz.underlying2 (hval 3 2 v3 rfl rfl) z3;subst e3;have hb3:=Zhk hw3;obtain ⟨num4,e4,-,-,hw4⟩:=open_int Tryz.underlying3 (hval 4 3 v4 rfl rfl) z4;subst e4;have hb4:=Zhk hw4;clear hA0 hval0;simp only [List.append_nil] at hW'
 have hlt : ∀ x ∈ p0 ++ (p1 ++ (p2 ++ (p3 ++ (p4)))),x.block < W.heap.size:=fun x hx=>hW'.lt x hx
 refine (Zqw _ _ _ _ _ _ _ _ W  hL1 hb2.1 hb2.2 hb3.1 hb3.2 hb4.1 hb4.2).mono fun e W' ⟨he,hw⟩=>?_
 subst he
 exact ⟨_,rfl,Zjv (pa:=p0 ++ (p1 ++ (p2 ++ (p3 ++ (p4))))) (pv:=[]) hW' (fun _ _ _=>trodAll_mk1 (shut_bool Tryz.underlying4 true))
  (fun sp hsp=>Zmv (WideElems.Trod_stays Zev (by kernel_rfl) (of_decide_eq_true (by kernel_rfl)) z0 (fun x hx=>hw.same (hlt x (List.mem_append_left _ hx))) (fun x hx=>hsp x (List.mem_append_left _ hx))) (WideElems.Trod_stays Zev (by kernel_rfl) (of_decide_eq_true (by kernel_rfl)) z1 (fun x hx=>hw.same (hlt x (List.mem_append_right _ (List.mem_append_left _ hx)))) (fun x hx=>hsp x (List.mem_append_right _ (List.mem_append_left _ hx)))) (WideElems.Trod_stays Zev (by kernel_rfl) (of_decide_eq_true (by kernel_rfl)) z2 (fun x hx=>hw.same (hlt x (List.mem_append_right _ (List.mem_append_right _ (List.mem_append_left _ hx))))) (fun x hx=>hsp x (List.mem_append_right _ (List.mem_append_right _ (List.mem_append_left _ hx))))) (WideElems.Trod_stays Zev (by kernel_rfl) (of_decide_eq_true (by kernel_rfl)) z3 (fun x hx=>hw.same (hlt x (List.mem_append_right _ (List.mem_append_right _ (List.mem_append_right _ (List.mem_append_left _ hx)))))) (fun x hx=>hsp x (List.mem_append_right _ (List.mem_append_right _ (List.mem_append_right _ (List.mem_append_left _ hx)))))) (WideElems.Trod_stays Zev (by kernel_rfl) (of_decide_eq_true (by kernel_rfl)) z4 (fun x hx=>hw.same (hlt x (List.mem_append_right _ (List.mem_append_right _ (List.mem_append_right _ (List.mem_append_right _ hx)))))) (fun x hx=>hsp x (List.mem_append_right _ (List.mem_append_right _ (List.mem_append_right _ (List.mem_append_right _ hx)))))))
  (fun _ _=>rfl) (List.append_nil _).symm hw (ok_one (by kernel_rfl) rfl (okWide_bool_mk Tryz.underlying4 true))⟩
theorem lines_holds : Rows.LovLinesSaid:=
 OpenClaim.holds_of_wide 4 Tryz.f4 rfl rfl rfl rfl rfl rfl rfl ⟨rfl,rfl,rfl,rfl,rfl⟩ rfl rfl rfl rfl rfl (by kernel_rfl) Tryz.func4 (by kernel_rfl)
  (of_decide_eq_true (by kernel_rfl)) (by unfold Func.isWrapper;first | (rw [if_pos (by decide +kernel)];kernel_rfl) | (rw [if_neg (by decide +kernel)];exact ⟨rfl,rfl⟩))
  (fun os started H enc _=>lines_lifted os started H enc)
#print axioms lines_holds
end Go.Proofs.YtaioanjcjijckaaGreat
