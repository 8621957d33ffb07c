/- The axes of two numbers: what both sides reckon (plain). -/
import Derived.Deep.LoopGhost
import Derived.Lib.SlBuf
import Derived.ProofKit
import Derived.Deep.Slices
import Derived.Deep.Fields
import Derived.ChangeSame
import Derived.Test.YtaioanjcjijckaaGreatProg
import Derived.Test.YtaioanjcjijckaaGreatZb28
set_option linter.unusedSimpArgs false
set_option linter.unusedVariables false
namespace Go.Proofs.YtaioanjcjijckaaGreat
open Go.RowKit
def axH:Rat:=Rat.divInt 1 2
def Zaz (a d:Rat):Rat:=(a+d) * axH
def Zec (a d:Rat):Rat:=(a - d) * axH
def Zg2 (a b d:Rat):Rat:=Zec a d * Zec a d+b * b
def axT (a d:Rat):Rat:=a+d
def axD (a d:Rat):Rat:=a - d
def axQ (a b d:Rat):Rat:=axD a d * axD a d+4 * (b * b)
def axM (a b d:Rat):Int:=((axT a d).den:Int) * ((axQ a b d).den:Int)
def axN (a b d:Rat):Int:=(axT a d).num * ((axQ a b d).den:Int)
def axS (a b d:Rat):Int:=(axQ a b d).num * ((axQ a b d).den:Int) * ((axT a d).den:Int) * ((axT a d).den:Int)
noncomputable def axR (a b d:Rat):Nat:=rootN (axS a b d).natAbs
noncomputable def axUp (a b d:Rat):Int:=if (axR a b d:Int) * (axR a b d:Int) < axS a b d then (axR a b d:Int)+1 else (axR a b d:Int)
noncomputable def axLong (a b d:Rat):Int:=Int.fdiv (axN a b d+(axR a b d:Int)) (axM a b d+axM a b d)
noncomputable def axShort (a b d:Rat):Int:=Int.fdiv (axN a b d - axUp a b d) (axM a b d+axM a b d)
theorem Zq7 (z:Nat):IsRoot z (rootN z):=by
 have h:∃ r,IsRoot z r:=by
  induction z with
  | zero=>exact ⟨0,by unfold IsRoot;omega⟩
  | succ z ih =>
   obtain ⟨r,h1,h2⟩:=ih
   by_cases h3:z+1 < (r+1) * (r+1)
   ·exact ⟨r,by omega,h3⟩
   ·refine ⟨r+1,by omega,?_⟩
    have e:(r+1+1) * (r+1+1)=(r+1) * (r+1)+2 * r+3:=by grind
    omega
 obtain ⟨r,hr⟩:=h;rw [Zes hr];exact hr
theorem Zm0:2 * axH=1:=by decide +kernel
theorem Zq3 (q:Rat):(q.num:Rat)=q * ((q.den:Nat):Rat):=by
 have h:Rat.divInt q.num q.den=q:=Rat.num_divInt_den q;rw [Rat.divInt_eq_div] at h
 have h0:((q.den:Nat):Rat) ≠ 0:=by exact_mod_cast q.den_nz
 have e:(((q.den:Nat):Int):Rat)=((q.den:Nat):Rat):=Rat.intCast_natCast _;rw [e] at h
 have h1:(q.num:Rat) / ((q.den:Nat):Rat) * ((q.den:Nat):Rat)=(q.num:Rat):=by
  rw [Rat.div_def,Rat.mul_assoc,Rat.inv_mul_cancel _ h0,Rat.mul_one]
 rw [h] at h1;exact h1.symm
section
variable {a b d:Rat}
theorem Zgq:0 < axM a b d:=by
 unfold axM;have h1:=(axT a d).den_pos;have h2:=(axQ a b d).den_pos;exact Int.mul_pos (by omega) (by omega)
theorem Zui:((axN a b d:Int):Rat)=2 * Zaz a d * (axM a b d:Int):=by
 unfold axN axM Zaz;rw [Rat.intCast_mul,Rat.intCast_mul,Zq3]
 have e:2 * ((a+d) * axH)=axT a d:=by
  have:=Zm0;unfold axT;grind
 rw [e];simp only [Rat.intCast_natCast]
 grind
theorem axQ_eq:axQ a b d=4 * Zg2 a b d:=by
 have h:=Zm0;unfold axQ Zg2 Zec axD
 have e:4 * ((a - d) * axH * ((a - d) * axH))=(a - d) * (a - d) * ((2 * axH) * (2 * axH)):=by grind
 have e2:4 * ((a - d) * axH * ((a - d) * axH)+b * b)=4 * ((a - d) * axH * ((a - d) * axH))+4 * (b * b):=by grind
 rw [e2,e,h];grind
theorem Ztg:((axS a b d:Int):Rat)=4 * Zg2 a b d * (axM a b d:Int) * (axM a b d:Int):=by
 unfold axS axM;rw [Rat.intCast_mul,Rat.intCast_mul,Rat.intCast_mul,Rat.intCast_mul,Zq3,axQ_eq];simp only [Rat.intCast_natCast]
 grind
theorem Zue (x:Rat):0 <= x * x:=by
 rcases Rat.le_total (a:=0) (b:=x) with h | h
 ·exact Rat.mul_nonneg h h
 ·have e:x * x=(-x) * (-x):=by grind
  have h2:0 <= -x:=Rat.neg_le_neg h |> fun h3=>by rw [Rat.neg_zero] at h3;exact h3
  rw [e];exact Rat.mul_nonneg h2 h2
theorem axQ_nn:0 <= axQ a b d:=by
 unfold axQ;have h1:=Zue (axD a d);have h2:=Zue b;have h3:(0:Rat) <= 4 * (b * b):=Rat.mul_nonneg (by decide) h2
 grind
theorem Zuc:0 <= axS a b d:=by
 unfold axS;have h:=Rat.num_nonneg.2 (axQ_nn (a:=a) (b:=b) (d:=d));exact Int.mul_nonneg (Int.mul_nonneg (Int.mul_nonneg h (by omega)) (by omega)) (by omega)
theorem Zq1:RootZ (axS a b d) (axR a b d) (axUp a b d):=by
 obtain ⟨h1,h2⟩:=Zq7 (axS a b d).natAbs;have h0:=Zuc (a:=a) (b:=b) (d:=d)
 have e:((axS a b d).natAbs:Int)=axS a b d:=by omega
 refine ⟨by omega,?_,?_,rfl⟩
 ·rw [<- e];unfold axR;exact_mod_cast h1
 ·rw [<- e];unfold axR;exact_mod_cast h2
theorem ax_long {z:Int}:((z:Rat) - Zaz a d <= 0 \/ ((z:Rat) - Zaz a d) * ((z:Rat) - Zaz a d) <= Zg2 a b d) ↔ z <= axLong a b d:=
 Zrx Zgq Zui Ztg Zq1
theorem ax_short {z:Int}:((z:Rat) - Zaz a d <= 0/\Zg2 a b d <= ((z:Rat) - Zaz a d) * ((z:Rat) - Zaz a d)) ↔ z <= axShort a b d:=
 Zqb Zgq Zui Ztg Zq1
theorem ax_low1 {z:Int}:Zfm 1 (Zaz a d) (Zg2 a b d) z=true ↔ z <= axLong a b d:=by
 unfold Zfm;rw [if_pos (by decide),Bool.or_eq_true,decide_eq_true_eq,decide_eq_true_eq];exact ax_long
theorem ax_low2 {z:Int}:Zfm (-1) (Zaz a d) (Zg2 a b d) z=true ↔ z <= axShort a b d:=by
 unfold Zfm;rw [if_neg (by decide),Bool.and_eq_true,decide_eq_true_eq,decide_eq_true_eq];exact ax_short
theorem Zs0 (ha:0 < a) (hd:0 < d) (hp:0 < a * d - b * b):0 <= axShort a b d:=by
 have hH:0 < axH:=by decide +kernel
 have hm:0 < Zaz a d:=Rat.mul_pos (by grind) hH;refine ax_short.1 ⟨?_,?_⟩
 ·show (0:Rat) - Zaz a d <= 0
  grind
 ·have h:=Zm0
  have e:((0:Int):Rat) - Zaz a d=-Zaz a d:=by
   show (0:Rat) - Zaz a d=_
   grind
  rw [e]
  have e2:-Zaz a d * -Zaz a d=Zg2 a b d+(a * d - b * b):=by
   unfold Zaz Zg2 Zec
   have e3:-((a+d) * axH) * -((a+d) * axH)=(a - d) * axH * ((a - d) * axH)+a * d * ((2 * axH) * (2 * axH)):=by grind
   rw [e3,h];grind
  rw [e2];grind
theorem Zur (ha:0 < a) (hd:0 < d):0 <= axLong a b d:=by
 have hH:0 < axH:=by decide +kernel
 have hm:0 < Zaz a d:=Rat.mul_pos (by grind) hH;refine ax_long.1 (.inl ?_);show (0:Rat) - Zaz a d <= 0
 grind
end
attribute [local go_sem] Zf
structure RI where
 A:Option Addr
 n:Nat
 c:Nat
 l:List Int
section
variable {w w':World} {A:Option Addr} {n c:Nat} {rs:List RI}
end
theorem Zjd (k:Nat):madeCells (Value.agg #[.bool false,.slice none 0 0,.bool false,.slice none 0 0]).cells (k * 4)=Zag (List.replicate k Za0):=by
 apply Array.toList_inj.1
 show (madeCells #[.bool false,.slice none 0 0,.bool false,.slice none 0 0] (k * 4)).toList=Zr (List.replicate k Za0)
 apply List.ext_getElem?
 intro i
 by_cases h:i < k * 4
 ·have he:(List.replicate k Za0)[i / 4]?=some Za0:=by rw [List.getElem?_replicate,if_pos (by omega)]
  have hc:=Zfq he
  have h4:i % 4=0 \/ i % 4=1 \/ i % 4=2 \/ i % 4=3:=by omega
  have hm:(madeCells #[.bool false,.slice none 0 0,.bool false,.slice none 0 0] (k * 4)).toList[i]?=some ((#[.bool false,.slice none 0 0,.bool false,.slice none 0 0]:Array Value)[i % 4]?.getD default):=by
   unfold madeCells
   simp [h]
  rw [hm]
  rcases h4 with h2 | h2 | h2 | h2
  ·rw [show i / 4 * 4=i by omega] at hc;rw [hc.1,h2];rfl
  ·rw [show i / 4 * 4+1=i by omega] at hc;rw [hc.2.1,h2];rfl
  ·rw [show i / 4 * 4+2=i by omega] at hc;rw [hc.2.2.1,h2];rfl
  ·rw [show i / 4 * 4+3=i by omega] at hc;rw [hc.2.2.2,h2];rfl
 ·have a1:(Zr (List.replicate k Za0))[i]?=none:=List.getElem?_eq_none (by rw [Zy];simp;omega)
  have a2:(madeCells #[.bool false,.slice none 0 0,.bool false,.slice none 0 0] (k * 4)).toList[i]?=none:=List.getElem?_eq_none (by unfold madeCells;simp;omega);rw [a1,a2]
theorem makeFr {P:Program} (t e:TypeId) {i:TypeInfo} (ht:P.underlying t=some (.slice e)) (hi:P.info? e=some i) (hz:i.zero=some (.agg #[.bool false,.slice none 0 0,.bool false,.slice none 0 0])) (hs:i.size=4) (hb:i.bytes=64)
    (x:Int) (n:Nat) (hx:x=n) (hn:n <= 1000000000000) (W:World) :
    (Instr.makeSlice t (.int .i64 x) (.int .i64 x)).run P W=.ok (.slice (some ⟨W.heap.size,0,none⟩) n n) (W.alloc (.cells (Zag (List.replicate n Za0)) e)):=by
 subst hx;have hr:=run_make (P:=P) W t e i _ ht hi hz .i64 .i64 n n (by omega) (by omega) (by rw [hb];omega) (by omega);simp only [Int.toNat_natCast] at hr;rw [hr,hs,Zjd]
section
variable {P:Program} (w:World)
end
def idxOk (n:Nat) (ls:List Int) (k:Nat):Prop:=(0 <= ls[k]?.getD 0/\ls[k]?.getD 0 < n)/\∀ j:Nat,j < k->ls[j]?.getD 0 ≠ ls[k]?.getD 0
instance (n:Nat) (ls:List Int) (k:Nat):Decidable (idxOk n ls k):=by unfold idxOk;infer_instance
section
variable {rs:List RX} {ls:List Int} {n:Nat}
end
open Go.ChangeShapes Go.WideShapes Go.Deep Go.RowKit
section
variable {H:Type} {enc:TypeId × Value->H} {P:Program} {w:World} {base:Nat} {spare:Nat->Bool} {held:Bool}
end
section
variable {H:Type} {enc:TypeId × Value->H} {P:Program}
theorem Zk3 {f:Func} {s:ChangeSpec} {apart fresh handsOn again:Bool} {W W':World} {args:Array Value} {v:Value} {ds gs:List (DataW H)} {before pa pv:List MemPlace}
    (hW:DataW.Whole enc P f.params.toList s.vars apart W args.toList ds gs before)
    (hres:∀ (b:Nat) (sp:Nat->Bool) (hd:Bool),DataW.TrodAll enc P W' b sp hd f.resultTypes.toList (v.resultList f.resultTypes.size) (s.fn H (ds ++ gs)).results [])
    (hargs:∀ sp:Nat->Bool,(∀ p ∈ before,sp p.block=true)->DataW.TrodAll enc P W' 0 sp true f.params.toList args.toList (s.fn H (ds ++ gs)).args pa)
    (hvars:∀ sp:Nat->Bool,(∀ p ∈ before,sp p.block=true)->DataW.TrodVars enc P W' sp s.vars (s.fn H (ds ++ gs)).vars pv)
    (hps:before=pa ++ pv) (hb:Below W.heap.size W W')
    (hok:∀ (j:Nat) (t:TypeId) (r:Value),f.resultTypes[j]?=some t->(v.resultList f.resultTypes.size)[j]?=some r->Value.okWide P W' .any 0 t r) :
    s.post enc P f apart fresh handsOn again W args v W':=by
 have hlt:∀ p ∈ before,p.block < W.heap.size:=fun p hp=>hW.lt p hp
 have hold:∀ p ∈ before,(fun b=>decide (b < W.heap.size)) p.block=true:=fun p hp=>by simpa using hlt p hp
 refine ⟨ds,gs,before,[],pa,pv,hW,hres _ _ _,hargs _ hold,hvars _ hold,World.keptBut_mono (fun p hp=>⟨hp,?_⟩) (hb.frame (· ∈ before)),fun _=>?_⟩
 ·rw [hps,List.mem_append] at hp
  exact Or.inr hp
 ·obtain ⟨_,_,_,_,_,hz,hn⟩:=hW
  refine ⟨hok,_,_,([] ++ pa) ++ pv,⟨[] ++ pa,pv,trodAll_append (hargs _ (fun _ _=>rfl)) (hres _ _ _),hvars _ (fun _ _=>rfl),rfl,?_,?_⟩,?_⟩
  ·intro b off hp
   have hin:MemPlace.cell b off ∈ before:=by rw [hps];simpa using hp
   rw [hb.frozen (hlt _ hin)];exact hz b off hin
  ·intro ha
   have:=hn ha;rw [hps] at this
   simpa using this
  ·intro p hp _
   rw [hps]
   simpa using hp
end
theorem Zq6 {α:Type} (P:Nat->α->Prop) (n:Nat) (h:∀ i,i < n->∃ e,P i e):∃ es:List α,es.length=n/\∀ (k:Nat) (e:α),es[k]?=some e->P k e:=by
 induction n with
 | zero=>exact ⟨[],rfl,fun k e h=>by simp at h⟩
 | succ n ih =>
  obtain ⟨es,h1,h2⟩:=ih fun i hi=>h i (by omega)
  obtain ⟨e,he⟩:=h n (by omega);refine ⟨es ++ [e],by simp [h1],fun k e' hk=>?_⟩
  rcases Nat.lt_or_ge k es.length with hlt | hge
  ·rw [List.getElem?_append_left hlt] at hk;exact h2 k e' hk
  ·rw [List.getElem?_append_right hge] at hk
   rcases Nat.eq_or_lt_of_le hge with h0 | h0
   ·rw [show k - es.length=0 by omega] at hk
    simp at hk
    subst hk;rw [<- h0,h1];exact he
   ·rw [List.getElem?_eq_none (by simp;omega)] at hk
    cases hk
theorem Zhe {w:World} {a:Addr} {v:Value} (h:w.cell? a=some v):a=⟨a.block,a.off,none⟩:=by
 obtain ⟨b,o,s⟩:=a
 cases s with
 | none=>rfl
 | some s =>
  exfalso
  unfold World.cell? at h
  simp at h
  split at h <;> simp at h
section
variable {H:Type} {enc:TypeId × Value->H} {w:World} {base:Nat} {spare:Nat->Bool} {held:Bool}
end
section
variable {Q:Nat->Nat->Rat} {n:Nat} {a b:List Int} {i k:Nat}
end
section
variable {R:List (List Rat)} {n:Nat} {a b:List Int}
end
end Go.Proofs.YtaioanjcjijckaaGreat
