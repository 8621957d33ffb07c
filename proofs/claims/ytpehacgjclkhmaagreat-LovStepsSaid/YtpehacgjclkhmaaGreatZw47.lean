/- Arguments opened: a state; a number with its bounds. -/
import Derived.OpenShut
import Derived.Test.YtpehacgjclkhmaaGreatZw46
set_option maxRecDepth 100000
set_option linter.unusedSimpArgs false
set_option linter.unusedVariables false
namespace Go.Proofs.YtpehacgjclkhmaaGreat
open Go.ChangeShapes Go.WideShapes Go.Deep Go.RowKit
section
variable {H : Type} {enc : TypeId × Value -> H} {w : World} {base : Nat} {spare : Nat -> Bool} {held : Bool}
theorem Ze0 {fuel : Nat} {v : Value} {x : DataW H × List MemPlace} (h : DataW.trod enc Tryz.prog w base spare held fuel 2 [v] = some x) : ∃ z : Int,v = .int .i64 z:=by
 obtain ⟨z,e,-,-⟩:=DataW.trod_int Tryz.underlying2 h
 cases e
 exact ⟨z,rfl⟩
theorem Zg5 {fuel : Nat} {cs : List Value} {x : DataW H × List MemPlace} (h : DataW.trod enc Tryz.prog w base spare held fuel 44 cs = some x) : ∃ a b c : Int,cs = [.int .i64 a,.int .i64 b,.int .i64 c]:=by
 obtain ⟨xs,n',_,_,hl,hxl,hfl⟩:=DataW.trod_array Tryz.underlying44 h
 have c3 : Tryz.prog.cellsOf 44 = 3:=by kernel_rfl
 have c1 : Tryz.prog.cellsOf 2 = 1:=by kernel_rfl
 rw [c3] at hl
 obtain ⟨x,y,z,rfl⟩ : ∃ x y z,cs = [x,y,z]:=by
  match cs,hl with
  | [x,y,z],_=>exact ⟨x,y,z,rfl⟩
 have f0:=hfl 0 (by decide);have f1:=hfl 1 (by decide);have f2:=hfl 2 (by decide);rw [c1] at f0 f1 f2;have g0 : xs[0]? = some (xs[0]'(by rw [hxl];decide)):=List.getElem?_eq_getElem _;have g1 : xs[1]? = some (xs[1]'(by rw [hxl];decide)):=List.getElem?_eq_getElem _;have g2 : xs[2]? = some (xs[2]'(by rw [hxl];decide)):=List.getElem?_eq_getElem _;rw [g0] at f0;rw [g1] at f1;rw [g2] at f2;obtain ⟨a,rfl⟩:=Ze0 f0;obtain ⟨b,rfl⟩:=Ze0 f1;obtain ⟨c,rfl⟩:=Ze0 f2;exact ⟨a,b,c,rfl⟩
theorem Zlz {fuel : Nat} {cs : List Value} {x : DataW H × List MemPlace} (h : DataW.trod enc Tryz.prog w base spare held fuel 46 cs = some x) :
    ∃ s : St,cs = [.int .i64 s.t,.int .i64 s.p0,.int .i64 s.p1,.int .i64 s.p2,.int .i64 s.v0,.int .i64 s.v1,.int .i64 s.v2]:=by
 obtain ⟨xs,n',_,_,hl,hxl,hfl⟩:=DataW.trod_struct Tryz.underlying46 h
 have c7 : Tryz.prog.cellsOf 46 = 7:=by kernel_rfl
 have c3 : Tryz.prog.cellsOf 44 = 3:=by kernel_rfl
 have c1 : Tryz.prog.cellsOf 2 = 1:=by kernel_rfl
 rw [c7] at hl
 obtain ⟨t,a,b,c,d,e,f,rfl⟩ : ∃ t a b c d e f,cs = [t,a,b,c,d,e,f]:=by
  match cs,hl with
  | [t,a,b,c,d,e,f],_=>exact ⟨t,a,b,c,d,e,f,rfl⟩
 have f0:=hfl 0 _ rfl;have f1:=hfl 1 _ rfl;have f2:=hfl 2 _ rfl;simp only [List.getElem_toArray,List.getElem_cons_zero,List.getElem_cons_succ] at f0 f1 f2;rw [c1] at f0;rw [c3] at f1 f2;have g0 : xs[0]? = some (xs[0]'(by rw [hxl];decide)):=List.getElem?_eq_getElem _;have g1 : xs[1]? = some (xs[1]'(by rw [hxl];decide)):=List.getElem?_eq_getElem _;have g2 : xs[2]? = some (xs[2]'(by rw [hxl];decide)):=List.getElem?_eq_getElem _;rw [g0] at f0;rw [g1] at f1;rw [g2] at f2;obtain ⟨z0,rfl⟩:=Ze0 f0;obtain ⟨z1,z2,z3,e1⟩:=Zg5 f1;obtain ⟨z4,z5,z6,e2⟩:=Zg5 f2
 simp at e1 e2
 obtain ⟨rfl,rfl,rfl⟩:=e1;obtain ⟨rfl,rfl,rfl⟩:=e2;exact ⟨⟨z0,z1,z2,z3,z4,z5,z6⟩,rfl⟩
theorem Zn6 {r : Reach} {b0 : Nat} {v : Value} {d : DataW H} {p : List MemPlace} (hv : Value.okWide Tryz.prog w r b0 46 v) (h : DataW.Trod enc Tryz.prog w base spare held 46 v d p) :
    ∃ s : St,v = .agg #[.int .i64 s.t,.int .i64 s.p0,.int .i64 s.p1,.int .i64 s.p2,.int .i64 s.v0,.int .i64 s.v1,.int .i64 s.v2]:=by
 obtain ⟨cs,rfl,hsz⟩:=okWide_struct Tryz.underlying46 hv;obtain ⟨fuel,hf⟩:=h;obtain ⟨s,e⟩:=Zlz hf;refine ⟨s,?_⟩
 congr 1
 apply Array.toList_inj.1
 exact e
theorem Ze3 {z : Int} (h : (Lit.int .i64 z).wf = true) : -9223372036854775808 <= z /\ z <= 9223372036854775807:=by
 simp only [Lit.wf,Bool.and_eq_true,decide_eq_true_eq] at h;exact h
end
end Go.Proofs.YtpehacgjclkhmaaGreat
