/- The law CovarAsks holds: for every input it returns true, -/
import Derived.Test.YtaioanjcjijckaaGreatRows
import Derived.Carry
import Derived.Test.YtaioanjcjijckaaGreatZb49
set_option maxRecDepth 100000
set_option linter.unusedSimpArgs false
set_option linter.unusedVariables false
namespace Go.Proofs.YtaioanjcjijckaaGreat
open Go.ChangeShapes Go.WideShapes Go.ChangeAt Go.RowKit
theorem Zt2:ownKnob Tryz.prog.godebug=none:=by kernel_rfl
theorem Zhx:laidOutB Tryz.prog=true:=by kernel_rfl
theorem asks_lifted (os:Os) (started:os.Started) (H:Type) (enc:TypeId × Value->H) :
    ReturnsInHanded {} Tryz.checked os 3 .any (Rows.covarAsksSpec.pre6 enc Tryz.prog Tryz.f3 Rows.covarAsksRow.domain false) (Rows.covarAsksSpec.post enc Tryz.prog Tryz.f3 false true false false):=by
 refine returnsInHanded_of_change (C:=Tryz.checked) Zt2 started (by kernel_rfl) Tryz.func3
  (ChangeSpec.witness6 (enc:=enc) (C:=Tryz.checked) false ⟨#[],#[.slice none 0 0,.slice none 0 0,.int .i64 0,.int .i64 0],[]⟩ 8 (by kernel_rfl) (by kernel_rfl) (by kernel_rfl) (by kernel_rfl)) ?_
 intro W base args ds gs before hval0 hW hcnd _;have hval:∀ (j:Nat) t v,Tryz.f3.params[j]?=some t->args[j]?=some v->Value.okWide Tryz.prog W .any base t v:=hval0;have hW':=hW;obtain ⟨p,q,hA0,hV,rfl,hfz,hnd⟩:=hW;have hA:DataW.TrodAll enc Tryz.prog W 0 (fun _=>true) true Tryz.f3.params.toList args.toList ds p:=hA0;rw [Tryz.params3] at hA hval;obtain ⟨v0,v1,v2,v3,d0,d1,d2,d3,p0,p1,p2,p3,rfl,rfl,hpp,z0,z1,z2,z3⟩:=trodAll_four hA
 replace hpp:p=p0 ++ (p1 ++ (p2 ++ (p3))):=by rw [hpp];simp
 subst hpp;obtain ⟨rfl,rfl⟩:=trodVars_none hV;obtain ⟨A0,n0,c0,es0,rfl,hL0⟩:=Zt5 (hval 0 22 v0 rfl rfl) z0;obtain ⟨A1,n1,c1,es1,rfl,hL1⟩:=Zpg (hval 1 23 v1 rfl rfl) z1;obtain ⟨num2,e2,-,-,hw2⟩:=open_int Tryz.underlying3 (hval 2 3 v2 rfl rfl) z2;subst e2;have hb2:=Zlq hw2;obtain ⟨num3,e3,-,-,hw3⟩:=open_int Tryz.underlying3 (hval 3 3 v3 rfl rfl) z3;subst e3;have hb3:=Zlq hw3;clear hA0 hval0;simp only [List.append_nil] at hW'
 have hlt:∀ x ∈ p0 ++ (p1 ++ (p2 ++ (p3))),x.block < W.heap.size:=fun x hx=>hW'.lt x hx
 refine (Zpu _ _ _ _ _ _ _ _ _ _ W hL0 hL1 hb2.1 hb2.2 hb3.1 hb3.2).mono fun e W' ⟨he,hw⟩=>?_
 subst he
 exact ⟨_,rfl,Zk3 (pa:=p0 ++ (p1 ++ (p2 ++ (p3)))) (pv:=[]) hW' (fun _ _ _=>trodAll_mk1 (shut_bool Tryz.underlying4 true))
  (fun sp hsp=>trodAll_mk4 (WideElems.Trod_stays Zhx (by kernel_rfl) (of_decide_eq_true (by kernel_rfl)) z0 (fun x hx=>hw.same (hlt x (List.mem_append_left _ hx))) (fun x hx=>hsp x (List.mem_append_left _ hx))) (WideElems.Trod_stays Zhx (by kernel_rfl) (of_decide_eq_true (by kernel_rfl)) z1 (fun x hx=>hw.same (hlt x (List.mem_append_right _ (List.mem_append_left _ hx)))) (fun x hx=>hsp x (List.mem_append_right _ (List.mem_append_left _ hx)))) (WideElems.Trod_stays Zhx (by kernel_rfl) (of_decide_eq_true (by kernel_rfl)) z2 (fun x hx=>hw.same (hlt x (List.mem_append_right _ (List.mem_append_right _ (List.mem_append_left _ hx))))) (fun x hx=>hsp x (List.mem_append_right _ (List.mem_append_right _ (List.mem_append_left _ hx))))) (WideElems.Trod_stays Zhx (by kernel_rfl) (of_decide_eq_true (by kernel_rfl)) z3 (fun x hx=>hw.same (hlt x (List.mem_append_right _ (List.mem_append_right _ (List.mem_append_right _ hx))))) (fun x hx=>hsp x (List.mem_append_right _ (List.mem_append_right _ (List.mem_append_right _ hx))))))
  (fun _ _=>rfl) (List.append_nil _).symm hw (ok_one (by kernel_rfl) rfl (okWide_bool_mk Tryz.underlying4 true))⟩
theorem asks_holds:Rows.CovarAsksSaid:=
 OpenClaim.holds_of_wide 3 Tryz.f3 rfl rfl rfl rfl rfl rfl rfl ⟨rfl,rfl,rfl,rfl,rfl⟩ rfl rfl rfl rfl rfl (by kernel_rfl) Tryz.func3 (by kernel_rfl)
  (of_decide_eq_true (by kernel_rfl)) (by unfold Func.isWrapper;first | (rw [if_pos (by decide +kernel)];kernel_rfl) | (rw [if_neg (by decide +kernel)];exact ⟨rfl,rfl⟩))
  (fun os started H enc _=>asks_lifted os started H enc)
#print axioms asks_holds
end Go.Proofs.YtaioanjcjijckaaGreat
