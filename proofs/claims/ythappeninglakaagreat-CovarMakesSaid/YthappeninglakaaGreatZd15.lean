/- The reference's System. -/
import Derived.Test.YthappeninglakaaGreatZd14
set_option linter.unusedSimpArgs false
set_option linter.unusedVariables false
namespace Go.Proofs.YthappeninglakaaGreat
open Go.RowKit
open List renaming replicate→Qa
attribute [local go_sem] Zh
def Zkx(side:Bool)(rs:List RI)(right weights:List Int):Bool:=
 !decide (n0I rs=0) && (decide (weights.length=rs.length) && (!Zem 1 weights && ((!side || (decide (right.length=rs.length) && !Zem (-1099511627776) right)) && rs.all (Zhr (n0I rs)))))
def Zot(side:Bool)(rs:List RI)(right weights:List Int):Int:=if Zd1 rs=true then 4 else if Zkx side rs right weights=true then 0 else 8
theorem Zml(rs:List RI)(rr ws:List Int):Zot false rs rr ws=Zc1 rs (Qa (min rs.length 200) 0) ws:=by
 unfold Zot Zc1;cases hl:Zd1 rs with
 | true=>rfl
 | false =>
  have e:rs.length<=200:=by
   unfold Zd1 at hl;simp only[Bool.or_eq_false_iff,decide_eq_false_iff_not]at hl;omega
  have h1:Zem (-1099511627776) (Qa (min rs.length 200) 0)=false:=by
   unfold Zem;rw[List.any_eq_false];intro x hx;rw[List.eq_of_mem_replicate hx];decide
  have h2:decide ((Qa (min rs.length 200) (0:Int)).length=rs.length)=true:=by
   rw[decide_eq_true_eq,List.length_replicate];omega
  have:Zkx false rs rr ws=Zo2 rs (Qa (min rs.length 200) 0) ws:=by
   unfold Zkx Zo2;rw[h1,h2];cases decide (n0I rs=0) <;> cases decide (ws.length=rs.length) <;> cases Zem 1 ws <;> rfl
  rw[this]
theorem Znw{s:Bool}{rs:List RI}{a b:List Int}(h:Zd1 rs=true):Zot s rs a b=4:=by unfold Zot;rw[if_pos h]
theorem Zxe{s:Bool}{rs:List RI}{a b:List Int}(h:Zd1 rs=false)(h0:Zkx s rs a b=false):Zot s rs a b=8:=by unfold Zot;rw[if_neg (by simp[h]),if_neg (by simp[h0])]
theorem sysS_ok{s:Bool}{rs:List RI}{a b:List Int}(h:Zd1 rs=false)(h0:Zkx s rs a b=true):Zot s rs a b=0:=by unfold Zot;rw[if_neg (by simp[h]),if_pos h0]
