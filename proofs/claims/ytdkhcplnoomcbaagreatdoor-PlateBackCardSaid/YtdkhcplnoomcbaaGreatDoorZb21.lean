/- The law PlateBack holds: for every input it returns true, -/
import Derived.Test.YtdkhcplnoomcbaaGreatDoorRows
import Derived.Test.YtdkhcplnoomcbaaGreatDoorCards
import Derived.Test.YtdkhcplnoomcbaaGreatDoorTie
import Derived.Test.YtdkhcplnoomcbaaGreatDoorZb20
set_option maxRecDepth 100000
set_option linter.unusedSimpArgs false
set_option linter.unusedVariables false
namespace Go.Proofs.YtdkhcplnoomcbaaGreatDoor
open Go.RowKit
open List renaming mem_append_right→Qa,mem_append_left→Qb,append_nil→Qc
open Go.ChangeShapes Go.WideShapes Go.ChangeAt Go.RowKit
theorem Zvy:ownKnob Tryz.prog.godebug=none:=by kernel_rfl
theorem Zlb:laidOutB Tryz.prog=true:=by kernel_rfl
theorem back_lifted(os:Os)(started:os.Started)(H:Type)(enc:TypeId × Value->H) :
    ReturnsInHanded {} Tryz.checked os 4 .any (λw args=>(Rows.plateBackSpec.pre enc Tryz.prog Tryz.f4 [] false w args/\laidMetH Tryz.prog Zql w)/\sizedMet enc Tryz.prog Tryz.f4 (OpenSpec.ofChange Rows.plateBackSpec) false w args)
     (Rows.plateBackSpec.post enc Tryz.prog Tryz.f4 false true false false):=by
 refine returnsInHanded_of_change_and (C:=Tryz.checked) (X:=λw _=>laidMetH Tryz.prog Zql w) (λ_ _ _ hh h=>h.of_heap hh) Zvy started Gj Tryz.func4
  (ChangeSpec.witness_shaped (enc:=enc) (C:=Tryz.checked) (os:=os) (X:=λw _=>laidMetH Tryz.prog Zql w) false (World.doorLaid Tryz.prog 400 os) #[.agg #[.int .i64 0,.slice none 0 0,.slice none 0 0],.agg #[.bool false,.slice none 0 0,.bool false,.slice none 0 0],.agg #[.bool false,.slice none 0 0,.bool false,.slice none 0 0]] 8 rfl (World.shaped_of_RefB Gj Gj) Gj Gj Gj (Zv8 os _)) ?_
 intro W base args ds gs before o hW _ _ hL _;have f:∀ (j:Nat) t v,Tryz.f4.params[j]?=some t->args[j]?=some v->Value.okWide Tryz.prog W .any base t v:=o;have u:=hW;obtain⟨p,q,J,hV,rfl,c3,c2⟩:=hW;have hA:DataW.TrodAll enc Tryz.prog W 0 (λ_=>true) true Tryz.f4.params.toList args.toList ds p:=J;rw[Tryz.params4]at hA f;obtain⟨v0,v1,v2,d0,d1,d2,p0,p1,p2,rfl,rfl,I,z0,z1,z2⟩:=trodAll_three hA;replace I:p=p0++(p1++(p2)):=by rw[I];simp
 subst I;obtain⟨rfl,rfl⟩:=trodVars_none hV;obtain⟨T0,X0,E0,n0,c0,m0,d0,b8,b9,rfl,a7,a9⟩:=Zq7 (f 0 27 v0 rfl rfl) z0;obtain⟨c1,a8,X1,Y1,a6,a2,Y,b3,b5,a1,rfl,U,b6⟩:=Zne (f 1 32 v1 rfl rfl) z1;obtain⟨O,b1,X2,Y2,b4,a3,a5,a0,b7,a4,rfl,b0,b2⟩:=Zne (f 2 32 v2 rfl rfl) z2;clear J o;simp only[Qc]at u;have E:∀ x ∈ p0++(p1++(p2)),x.block<W.heap.size:=λx hx=>u.lt x hx;refine(Zvs T0 X0 E0 n0 c0 m0 d0 b8 b9 ⟨c1,X1,a6,a2,b5,a8,Y1,Y,b3,a1⟩ ⟨O,X2,b4,a3,b7,b1,Y2,a5,a0,a4⟩ W a7 a9 ⟨U,b6⟩ ⟨b0,b2⟩ (Zpy hL)).mono λe W' ⟨he,hw⟩=>?_;subst he
 exact⟨_,rfl,Zmf (pa:=p0++(p1++(p2))) (pv:=[]) u (λ_ _ _=>trodAll_mk1 (shut_bool Tryz.underlying4 true))
  (λsp hsp=>trodAll_mk3 (WideElems.Trod_stays Zlb Gj (of_decide_eq_true Gj) z0 (λx hx=>hw.same (E x (Qb _ hx))) (λx hx=>hsp x (Qb _ hx))) (WideElems.Trod_stays Zlb Gj (of_decide_eq_true Gj) z1 (λx hx=>hw.same (E x (Qa _ (Qb _ hx)))) (λx hx=>hsp x (Qa _ (Qb _ hx)))) (WideElems.Trod_stays Zlb Gj (of_decide_eq_true Gj) z2 (λx hx=>hw.same (E x (Qa _ (Qa _ hx)))) (λx hx=>hsp x (Qa _ (Qa _ hx)))))
  (λ_ _=>rfl) (Qc _).symm hw (ok_one Gj rfl (okWide_bool_mk Tryz.underlying4 true))⟩
theorem Ztc:Rows.PlateBackSaid:=
 OpenClaim.holds_of_wide 4 Tryz.f4 rfl rfl rfl rfl rfl rfl rfl ⟨rfl,rfl,rfl,rfl,rfl⟩ rfl rfl rfl rfl rfl Gj Tryz.func4 Gj
  (of_decide_eq_true Gj) (by unfold Func.isWrapper;first|(rw[Gx Gd];kernel_rfl)|(rw[Gw Gd];exact⟨rfl,rfl⟩))
  (λos started H enc _=>back_lifted os started H enc)
theorem back_holds:Rows.PlateBackCardSaid:=
 Claim7.holds_tied_plain_at .later [] [.data] true (true, "fd4058b48bbbb7d9d1ea399a2d11b88e7f06ed222c0656b430d9cb0250db71de") true
  Ztc (λ_ h=>by cases h) Gj (λ_ h=>by cases h) plateBack_row_tie rfl ⟨rfl,rfl⟩ Gj rfl
  (λf fn hf hfn=>by
   obtain rfl : f = 4 := Option.some.inj ((show Tryz.prog.funcNamed "planisphere/planispherelaw22.PlateBack" = some 4 by kernel_rfl).symm.trans hf) |>.symm
   obtain rfl:fn=Tryz.f4:=(Option.some.inj (Tryz.func4.symm.trans hfn)).symm
   exact⟨by kernel_rfl,λj t ht=>by
    rw[Tryz.params4]at ht;have hm:t ∈ [27,32,32]:=by simpa using Array.mem_of_getElem? ht
    have hall:([27,32,32].all λu=>!Tryz.prog.wantsStandIn u)=true:=Gj;exact(show Tryz.prog.wantsStandIn t=false by simpa using List.all_eq_true.1 hall t hm)⟩)
  Gj
#print axioms back_holds
end Go.Proofs.YtdkhcplnoomcbaaGreatDoor
