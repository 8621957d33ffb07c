/- The reference's System. -/
import Derived.Test.YthappeninglakaaGreatZt14
set_option linter.unusedSimpArgs false
set_option linter.unusedVariables false
namespace Go.Proofs.YthappeninglakaaGreat
open Go.RowKit
open List renaming replicate→Qa
attribute [local go_sem] Zg
def Zlm(side:Bool)(rs:List RI)(right weights:List Int):Bool:=
 !decide (n0I rs=0) && (decide (weights.length=rs.length) && (!Zdq 1 weights && ((!side || (decide (right.length=rs.length) && !Zdq (-1099511627776) right)) && rs.all (Zg3 (n0I rs)))))
def Zn3(side:Bool)(rs:List RI)(right weights:List Int):Int:=if Zd9 rs=true then 4 else if Zlm side rs right weights=true then 0 else 8
theorem Ck{G:Prop}(h:G:=by
 unfold Zdq;rw[List.any_eq_false];intro x hx;rw[List.eq_of_mem_replicate hx];decide):G:=h
theorem Zu5(rs:List RI)(rr ws:List Int):Zn3 false rs rr ws=Zcx rs (Qa (min rs.length 200) 0) ws:=by
 unfold Zn3 Zcx;cases hl:Zd9 rs with
 | true=>rfl
 | false =>
  have e:rs.length<=200:=by
   unfold Zd9 at hl;simp only[Bool.or_eq_false_iff,decide_eq_false_iff_not]at hl;omega
  have h1:Zdq (-1099511627776) (Qa (min rs.length 200) 0)=false:=by
   exact Ck
  have h2:decide ((Qa (min rs.length 200) (0:Int)).length=rs.length)=true:=by
   rw[decide_eq_true_eq,List.length_replicate];omega
  have:Zlm false rs rr ws=Zn9 rs (Qa (min rs.length 200) 0) ws:=by
   unfold Zlm Zn9;rw[h1,h2];cases decide (n0I rs=0) <;> cases decide (ws.length=rs.length) <;> cases Zdq 1 ws <;> rfl
  rw[this]
theorem Zot{s:Bool}{rs:List RI}{a b:List Int}(h:Zd9 rs=true):Zn3 s rs a b=4:=by unfold Zn3;rw[Gx h]
theorem Z0b{s:Bool}{rs:List RI}{a b:List Int}(h:Zd9 rs=false)(h0:Zlm s rs a b=false):Zn3 s rs a b=8:=by unfold Zn3;rw[Gw (by simp[h]),Gw (by simp[h0])]
theorem sysS_ok{s:Bool}{rs:List RI}{a b:List Int}(h:Zd9 rs=false)(h0:Zlm s rs a b=true):Zn3 s rs a b=0:=by unfold Zn3;rw[Gw (by simp[h]),Gx h0]
