/- The reference's System. -/
import Derived.Test.YtigdclhagmnopaaGreatZq36
set_option maxRecDepth 100000
set_option maxHeartbeats 8000000
set_option linter.unusedSimpArgs false
set_option linter.unusedVariables false
namespace Go.Proofs.YtigdclhagmnopaaGreat
open Go.RowKit
attribute [local go_sem] Zh
def Zki (side:Bool) (rs:List RI) (right weights:List Int):Bool:=
 !decide (n0I rs=0) && (decide (weights.length=rs.length) && (!Zda 1 weights && ((!side || (decide (right.length=rs.length) && !Zda (-1099511627776) right)) && rs.all (Zhg (n0I rs)))))
def Zn8 (side:Bool) (rs:List RI) (right weights:List Int):Int:=if Zdk rs=true then 4 else if Zki side rs right weights=true then 0 else 8
theorem Zu6 (rs:List RI) (rr ws:List Int):Zn8 true rs rr ws=Zb2 rs rr ws:=by
 unfold Zn8 Zb2
 have:Zki true rs rr ws=Zii rs rr ws:=by
  unfold Zki Zii
  cases decide (n0I rs=0) <;> cases decide (ws.length=rs.length) <;> cases decide (rr.length=rs.length) <;> cases Zda 1 ws <;> cases Zda (-1099511627776) rr <;> rfl
 rw [this]
theorem Zm5 {s:Bool} {rs:List RI} {a b:List Int} (h:Zdk rs=true):Zn8 s rs a b=4:=by unfold Zn8;rw [if_pos h]
theorem Zv6 {s:Bool} {rs:List RI} {a b:List Int} (h:Zdk rs=false) (h0:Zki s rs a b=false):Zn8 s rs a b=8:=by unfold Zn8;rw [if_neg (by simp [h]),if_neg (by simp [h0])]
theorem sysS_ok {s:Bool} {rs:List RI} {a b:List Int} (h:Zdk rs=false) (h0:Zki s rs a b=true):Zn8 s rs a b=0:=by unfold Zn8;rw [if_neg (by simp [h]),if_pos h0]
theorem Zod (A B C:Option Addr) (n c m d k e0:Nat) (rs:List RI) (rr ws:List Int) (w:World) (h:MIL w A n c rs) (hr:LimI w B m d rr) (hw:LimI w C k e0 ws) (E:Int) (hE:Zn8 true rs rr ws=E) :
    Calls Tryz.prog 42 #[.slice A n c,.slice B m d,.slice C k e0,.bool true] w fun e w'=>e=.returned (.int .i64 E)/\Below w.heap.size w w':=by
 have hl:=h.1;have hnc:=h.2.1;have hcm:=h.2.2.1;have hrl:=hr.1;have hwl:=hw.1;have hrm:=hr.nlen;have hwm:=hw.nlen;unfold maxLen at hcm hrm hwm;replace hE:=Za hE
 by_cases h12:200 < n
 ·have t1:decide ((200:Int) < (n:Int))=true:=decide_eq_true (by omega)
  obtain rfl:E=4:=by rw [<- hE.out];exact Zm5 (by unfold Zdk;rw [hl,decide_eq_true h12];rfl)
  go_enter Tryz.func42,Tryz.ntmps42;go_wp2_with fail;go_ret;exact ⟨rfl,by first | exact Below.refl _ _ | exact Zf (Below.refl _ _) _⟩
 have t1:decide ((200:Int) < (n:Int))=false:=decide_eq_false (by omega)
 have hlong:∀ r,r ∈ rs->12 < r.n->E=4:=fun r hr1 hr2=>by
  rw [<- hE.out];refine Zm5 ?_;unfold Zdk;rw [Bool.or_eq_true,List.any_eq_true];exact .inr ⟨r,hr1,by unfold RI.long;simpa using hr2⟩
 have hshort:(∀ (j:Nat) (r:RI),j < n->rs[j]?=some r->r.n <= 12)->Zdk rs=false:=fun hf=>by
  unfold Zdk;rw [hl,decide_eq_false h12,Bool.false_or,List.any_eq_false];intro e he;obtain ⟨j,hj,hje⟩:=List.getElem_of_mem he;have:=hf j e (by rw [hl] at hj;exact hj) (by rw [List.getElem?_eq_getElem hj,hje]);unfold RI.long;simp;omega
 replace hlong:=Za hlong;replace hshort:=Za hshort;replace h:=Za h;replace hl:=Za hl;replace hr:=Za hr;replace hw:=Za hw;replace hrl:=Za hrl;replace hwl:=Za hwl;go_enter Tryz.func42,Tryz.ntmps42;go_wp2_with fail
 go_loopw [9] (fun iv wr=>∃ i:Nat,i <= n/\iv=.int .i64 i/\Hid (∀ (j:Nat) (r:RI),j < i->rs[j]?=some r->r.n <= 12)/\Below w.heap.size w wr) (fun iv _=>n - (intOf iv).toNat)
 case atStart=>exact ⟨0,Nat.zero_le _,rfl,Za (fun j e hj=>by omega),Below.refl _ _⟩
 case round =>
  obtain ⟨i,hik,rfl,hall,hBp⟩:=hrel
  by_cases hin:i < n
  case pos =>
   have htk:decide ((i:Int) < (n:Int))=true:=decide_eq_true (by omega);obtain ⟨g,o,r,rfl,he,c0,hL⟩:=(h.out.below hBp).at_ hin;have hrn:=hL.nlen;unfold maxLen at hrn
   by_cases hx:12 < r.n
   ·obtain rfl:E=4:=hlong.out r (List.mem_of_getElem? he) hx
    have t2:decide ((12:Int) < (r.n:Int))=true:=decide_eq_true (by omega);replace he:=Za he;clear hL;go_wp2_with fail;go_ret;exact ⟨rfl,by first | exact hBp | exact Zf hBp _⟩
   ·have t2:decide ((12:Int) < (r.n:Int))=false:=decide_eq_false (by omega)
    have hall2:Hid (∀ (j:Nat) (r:RI),j < i+1->rs[j]?=some r->r.n <= 12):=Za (fun j e' hj he'=>by
     rcases Nat.lt_or_ge j i with h' | h'
     ·exact hall.out j e' h' he'
     ·obtain rfl:j=i:=by omega
      rw [he] at he'
      cases he'
      omega)
    replace he:=Za he;clear hL;go_wp2_with fail
    go_roundw
    case rel=>exact ⟨i+1,by omega,by go_num,hall2,(by first | exact hBp | exact Zf hBp _)⟩
    case measure=>simp [intOf];omega
  obtain rfl:n=i:=by omega
  have htk:decide ((n:Int) < (n:Int))=false:=by simp
  have hlm:=hshort.out hall.out
  have hbad:Zki true rs rr ws=false->E=8:=fun hf=>by rw [<- hE.out];exact Zv6 hlm hf
  have hgood:Zki true rs rr ws=true->E=0:=fun hf=>by rw [<- hE.out];exact sysS_ok hlm hf
  unfold Zki at hbad hgood;rw [hrl.out,hwl.out,hl.out] at hbad hgood;rw [Bool.not_true,Bool.false_or] at hbad hgood;replace hbad:=Za hbad;replace hgood:=Za hgood;clear hE hall hshort hlong hlm
  by_cases hn0:n=0
  ·subst hn0
   obtain rfl:E=8:=hbad.out (by
    have:rs=[]:=List.eq_nil_of_length_eq_zero hl.out
    rw [this];rfl)
   clear h hgood hbad;go_wp2_with fail;go_ret;exact ⟨rfl,by first | exact hBp | exact Zf hBp _⟩
  have t2:((n:Int) == 0)=false:=by simp;omega
  have t2':decide (n=0)=false:=by simpa using hn0
  obtain ⟨g,o,r0,rfl,he0,c0,hL0⟩:=h.out.at_ (i:=0) (by omega);have hr0l:=hL0.nlen;unfold maxLen at hr0l;have hn0':=Zxa he0;clear he0 hL0;rw [Nat.add_zero] at c0;have k0:=Zb hBp c0;rw [hn0'] at hbad hgood
  by_cases hz:r0.n=0
  ·obtain rfl:E=8:=hbad.out (by rw [decide_eq_true hz];rfl)
   have t3:((r0.n:Int) == 0)=true:=by simp [hz]
   have t3':decide (r0.n=0)=true:=by simpa using hz
   clear hbad hgood;replace hn0':=Za hn0';replace hz:=Za hz;go_wp2_with fail;go_ret;exact ⟨rfl,by first | exact hBp | exact Zf hBp _⟩
  have t3:((r0.n:Int) == 0)=false:=by simpa using hz
  have t3':decide (r0.n=0)=false:=by simpa using hz
  rw [t3',Bool.not_false,Bool.true_and] at hbad hgood;replace hn0':=Za hn0';replace hz:=Za hz
  by_cases kn:k=n
  case neg =>
   have t4:((k:Int) == (n:Int))=false:=beq_eq_false_iff_ne.2 (by omega)
   have t4n:((k:Int) != (n:Int))=true:=by rw [bne,t4];rfl
   have t4':decide (k=n)=false:=by simpa using kn
   obtain rfl:E=8:=hbad.out (by rw [t4'];rfl);clear hbad hgood;replace kn:=Za kn;go_wp2_with fail;go_ret;exact ⟨rfl,by first | exact hBp | exact Zf hBp _⟩
  have t4:((k:Int) == (n:Int))=true:=beq_iff_eq.2 (by omega)
  have t4n:((k:Int) != (n:Int))=false:=by rw [bne,t4];rfl
  have t4':decide (k=n)=true:=by simpa using kn
  rw [t4',Bool.true_and] at hbad hgood;replace kn:=Za kn;obtain ⟨xw,hxw⟩:∃ xw,Zda 1 ws=xw:=⟨_,rfl⟩;have hW:=Za (fun W1 (hb:Below w.heap.size w W1)=>Zfw C k e0 ws 1 W1 (hw.out.below hb) xw hxw);rw [hxw] at hbad hgood;clear hxw hw
  cases xw
  case true =>
   obtain rfl:E=8:=hbad.out rfl;clear hbad hgood;go_wp2_with fail;refine (hW.out _ (by first | exact hBp | exact Zf hBp _)).mono ?_;rintro e w1 ⟨rfl,hb1⟩
   have hB1:Below w.heap.size w w1:=by first | exact (hBp).trans (hb1.mono (hBp).size) | exact (Zf (hBp) _).trans (hb1.mono (hBp).size)
   clear hb1;have k1:=Zb hB1 c0;simp only [Bool.not_false,Bool.not_true];go_wp2_with fail;go_ret;exact ⟨rfl,by first | exact hB1 | exact Zf hB1 _⟩
  rw [Bool.not_false,Bool.true_and] at hbad hgood
  by_cases mn:m=n
  case neg =>
   have t5:((m:Int) == (n:Int))=false:=beq_eq_false_iff_ne.2 (by omega)
   have t5n:((m:Int) != (n:Int))=true:=by rw [bne,t5];rfl
   have t5':decide (m=n)=false:=by simpa using mn
   obtain rfl:E=8:=hbad.out (by rw [t5'];rfl);clear hbad hgood;replace mn:=Za mn;go_wp2_with fail;refine (hW.out _ (by first | exact hBp | exact Zf hBp _)).mono ?_;rintro e w1 ⟨rfl,hb1⟩
   have hB1:Below w.heap.size w w1:=by first | exact (hBp).trans (hb1.mono (hBp).size) | exact (Zf (hBp) _).trans (hb1.mono (hBp).size)
   clear hb1;have k1:=Zb hB1 c0;simp only [Bool.not_false,Bool.not_true];go_wp2_with fail;go_ret;exact ⟨rfl,by first | exact hB1 | exact Zf hB1 _⟩
  have t5:((m:Int) == (n:Int))=true:=beq_iff_eq.2 (by omega)
  have t5n:((m:Int) != (n:Int))=false:=by rw [bne,t5];rfl
  have t5':decide (m=n)=true:=by simpa using mn
  rw [t5',Bool.true_and] at hbad hgood;replace mn:=Za mn;obtain ⟨xr,hxr⟩:∃ xr,Zda (-1099511627776) rr=xr:=⟨_,rfl⟩;have hR:=Za (fun W1 (hb:Below w.heap.size w W1)=>Zfw B m d rr (-1099511627776) W1 (hr.out.below hb) xr hxr);rw [hxr] at hbad hgood;clear hxr hr
  cases xr
  case true =>
   obtain rfl:E=8:=hbad.out rfl;clear hbad hgood;go_wp2_with fail;refine (hW.out _ (by first | exact hBp | exact Zf hBp _)).mono ?_;rintro e w1 ⟨rfl,hb1⟩
   have hB1:Below w.heap.size w w1:=by first | exact (hBp).trans (hb1.mono (hBp).size) | exact (Zf (hBp) _).trans (hb1.mono (hBp).size)
   clear hb1;have k1:=Zb hB1 c0;simp only [Bool.not_false,Bool.not_true];go_wp2_with fail;refine (hR.out _ (by first | exact hB1 | exact Zf hB1 _)).mono ?_;rintro e w2 ⟨rfl,hb2⟩
   have hB2:Below w.heap.size w w2:=by first | exact (hB1).trans (hb2.mono (hB1).size) | exact (Zf (hB1) _).trans (hb2.mono (hB1).size)
   clear hb2;have k2:=Zb hB2 c0;simp only [Bool.not_false,Bool.not_true];go_wp2_with fail;go_ret;exact ⟨rfl,by first | exact hB2 | exact Zf hB2 _⟩
  rw [Bool.not_false,Bool.true_and] at hbad hgood;go_wp2_with fail;refine (hW.out _ (by first | exact hBp | exact Zf hBp _)).mono ?_;rintro e w1 ⟨rfl,hb1⟩
  have hB1:Below w.heap.size w w1:=by first | exact (hBp).trans (hb1.mono (hBp).size) | exact (Zf (hBp) _).trans (hb1.mono (hBp).size)
  clear hb1;have k1:=Zb hB1 c0;simp only [Bool.not_false,Bool.not_true];go_wp2_with fail;refine (hR.out _ (by first | exact hB1 | exact Zf hB1 _)).mono ?_;rintro e w2 ⟨rfl,hb2⟩
  have hB2:Below w.heap.size w w2:=by first | exact (hB1).trans (hb2.mono (hB1).size) | exact (Zf (hB1) _).trans (hb2.mono (hB1).size)
  clear hb2;have k2:=Zb hB2 c0;simp only [Bool.not_false,Bool.not_true];go_wp2_with fail;clear k0
  go_loopw [10] (fun iv wr=>∃ i:Nat,i <= n/\iv=.int .i64 i/\Hid (∀ j e,j < i->rs[j]?=some e->Zhg r0.n e=true)/\Below w.heap.size w wr) (fun iv _=>n - (intOf iv).toNat)
  case atStart=>exact ⟨0,Nat.zero_le _,rfl,Za (fun j e hj=>by omega),(by first | exact hB2 | exact Zf hB2 _)⟩
  case round =>
   clear k1 hB1 k2 hB2 hBp;obtain ⟨i,hik2,rfl,hall,hBp⟩:=hrel;have k0:=Zb hBp c0;clear c0
   by_cases hin2:i < n
   case neg =>
    obtain rfl:n=i:=by omega
    obtain rfl:E=0:=by
     refine hgood.out ?_;rw [List.all_eq_true];intro e he;obtain ⟨j,hj,hje⟩:=List.getElem_of_mem he;exact hall.out j e (by rw [hl.out] at hj;exact hj) (by rw [List.getElem?_eq_getElem hj,hje])
    clear hbad;go_wp2_with fail;go_ret;exact ⟨rfl,hBp⟩
   have htk2:decide ((i:Int) < (n:Int))=true:=decide_eq_true (by omega)
   have bi:(i:Int) < (n:Int):=by omega
   have b0:(0:Int) < (n:Int):=by omega
   obtain ⟨g',o',r,hA,he,c1,hL⟩:=(h.out.below hBp).at_ hin2
   cases hA
   have hrnl:=hL.nlen;unfold maxLen at hrnl
   have bad:Zhg r0.n r=false->E=8:=fun hf=>hbad.out (by
    rw [List.all_eq_false]
    exact ⟨r,List.mem_of_getElem? he,by rw [hf];decide⟩)
   have good:Zhg r0.n r=true->Hid (∀ j e,j < i+1->rs[j]?=some e->Zhg r0.n e=true):=fun hf=>Za (fun j e' hj he'=>by
    rcases Nat.lt_or_ge j i with h' | h'
    ·exact hall.out j e' h' he'
    ·obtain rfl:j=i:=by omega
     rw [he] at he'
     cases he'
     exact hf)
   replace bad:=Za bad;replace good:=Za good;replace he:=Za he;clear hbad
   by_cases hq:r.n=r0.n
   case neg =>
    have t6:((r.n:Int) == (r0.n:Int))=false:=beq_eq_false_iff_ne.2 (by omega)
    have t7:((r.n:Int) != (r0.n:Int))=true:=by rw [bne,t6];rfl
    have t6':decide (r.n=r0.n)=false:=by simpa using hq
    obtain rfl:E=8:=bad.out (by unfold Zhg;rw [t6'];rfl);clear hL hgood;go_wp2_with fail
    go_quiet (fail)
    go_wp2_with fail;go_ret;exact ⟨rfl,by first | exact hBp | exact Zf hBp _⟩
   have t6:((r.n:Int) == (r0.n:Int))=true:=beq_iff_eq.2 (by omega)
   have t7:((r.n:Int) != (r0.n:Int))=false:=by rw [bne,t6];rfl
   have t6':decide (r.n=r0.n)=true:=by simpa using hq
   obtain ⟨x,hx⟩:∃ x,Zda (-1099511627776) r.l=x:=⟨_,rfl⟩;have hC:=Za (fun W1 (hb:Below wr.heap.size wr W1)=>Zfw r.A r.n r.c r.l (-1099511627776) W1 (hL.below hb) x hx);replace hx:=Za hx;replace hq:=Za hq;clear hL
   cases x
   ·have hall2:=good.out (by unfold Zhg;rw [t6',hx.out];rfl)
    go_wp2_with fail
    go_region_with (go_at_call 89;refine (hC.out _ (by first | exact Below.refl _ _ | exact Zf (Below.refl _ _) _)).mono ?_;rintro e' w5 ⟨rfl,hb5⟩;simp only [Bool.not_false,Bool.not_true])
    all_goals go_wp2_with fail
    all_goals exact ⟨⟨i+1,by omega,by go_num,hall2,(by first | exact hBp.trans (hb5.mono hBp.size) | exact (Zf hBp _).trans (hb5.mono hBp.size))⟩,by simp [intOf];omega⟩
   ·obtain rfl:E=8:=bad.out (by unfold Zhg;rw [hx.out];simp)
    clear hgood;go_wp2_with fail
    go_region_with (go_at_call 89;refine (hC.out _ (by first | exact Below.refl _ _ | exact Zf (Below.refl _ _) _)).mono ?_;rintro e' w5 ⟨rfl,hb5⟩;simp only [Bool.not_false,Bool.not_true])
    all_goals go_wp2_with fail
    all_goals (go_ret;exact ⟨rfl,(by first | exact hBp.trans (hb5.mono hBp.size) | exact (Zf hBp _).trans (hb5.mono hBp.size))⟩)
end Go.Proofs.YtigdclhagmnopaaGreat
