/- The reference of frac: Neg; the reference of linear: det. -/
import Derived.Test.YtigdclhagmnopaaGreatZq23
set_option maxRecDepth 100000
set_option maxHeartbeats 2000000
set_option linter.unusedSimpArgs false
set_option linter.unusedVariables false
namespace Go.Proofs.YtigdclhagmnopaaGreat
open Go.RowKit
attribute [local go_sem] Zh
theorem BdR.mono {C D C' D' m:Nat} {R:List (List Rat)} (h:BdR C D m R) (hC:C <= C') (hD:D <= D'):BdR C' D' m R:=⟨h.1,fun i j=>⟨Nat.lt_of_lt_of_le (h.2 i j).1 hC,Nat.lt_of_lt_of_le (h.2 i j).2 hD⟩⟩
theorem Zg0 {C D C' D' m:Nat} (hC:C <= C') (hD:D <= D'):∀ (f c r:Nat) (R:List (List Rat)),okR C D m f c r R->okR C' D' m f c r R
 | 0,_,_,_,h=>BdR.mono h hC hD
 | f+1,c,r,R,h=>⟨h.1.mono hC hD,h.2.imp id (fun ⟨h1,h2⟩=>⟨fun e=>Zg0 hC hD f _ _ _ (h1 e),fun e=>Zg0 hC hD f _ _ _ (h2 e)⟩)⟩
def n0R (rs:List RX):Nat:=(rs[0]?.map RX.n).getD 0
def Zgp (k:Nat) (r:RX):Bool:=decide (r.n=k) && Zcn r.es
def Zha (rs:List RX):Bool:=decide (12 < rs.length) || rs.any RX.long
def Zfa (rs:List RX):Int:=if Zha rs=true then 4 else if n0R rs=0 then 8 else if rs.all (Zgp (n0R rs))=true then 0 else 8
def sqE (rs:List RX):Int:=if Zfa rs=0 then (if rs.length=n0R rs then 0 else 8) else Zfa rs
theorem Znh {rs:List RX} (h:Zha rs=true):Zfa rs=4:=by unfold Zfa;rw [if_pos h]
theorem Znj {rs:List RX} (h:Zha rs=false) (h0:n0R rs=0):Zfa rs=8:=by unfold Zfa;rw [if_neg (by simp [h]),if_pos h0]
theorem Zwi {rs:List RX} (h:Zha rs=false) (h0:n0R rs ≠ 0) {r:RX} (hr:r ∈ rs) (hb:Zgp (n0R rs) r=false):Zfa rs=8:=by
 unfold Zfa;rw [if_neg (by simp [h]),if_neg h0,if_neg];intro e;rw [List.all_eq_true] at e;have:=e r hr;rw [hb] at this;cases this
theorem matE_ok {rs:List RX} (h:Zha rs=false) (h0:n0R rs ≠ 0) (ha:rs.all (Zgp (n0R rs))=true):Zfa rs=0:=by
 unfold Zfa;rw [if_neg (by simp [h]),if_neg h0,if_pos ha]
theorem Zvs {rs:List RX} {r:RX} (h:rs[0]?=some r):n0R rs=r.n:=by unfold n0R;rw [h];rfl
theorem Zsl (A:Option Addr) (n c:Nat) (rs:List RX) (w:World) (h:MXL w A n c rs) (E:Int) (hE:Zfa rs=E) :
    Calls Tryz.prog 30 #[.slice A n c] w fun e w'=>e=.returned (.int .i64 E)/\Below w.heap.size w w':=by
 have hl:=h.1;have hnc:=h.2.1;have hcm:=h.2.2.1;unfold maxLen at hcm;replace hE:=Za hE
 by_cases h12:12 < n
 ·have t1:decide ((12:Int) < (n:Int))=true:=decide_eq_true (by omega)
  obtain rfl:E=4:=by rw [<- hE.out];exact Znh (by unfold Zha;rw [hl,decide_eq_true h12];rfl)
  go_enter Tryz.func30,Tryz.ntmps30;go_wp2_with fail;go_ret;exact ⟨rfl,by first | exact Below.refl _ _ | exact Zf (Below.refl _ _) _⟩
 have t1:decide ((12:Int) < (n:Int))=false:=decide_eq_false (by omega);obtain ⟨x,hx⟩:∃ x,rs.any RX.long=x:=⟨_,rfl⟩
 have hlm:Zha rs=x:=by unfold Zha;rw [hl,decide_eq_false h12,hx];rfl
 have hC:=Za (fun W1 (hb:Below w.heap.size w W1)=>Zrk A n c rs W1 (h.below hb) x hx);clear hx;replace hlm:=Za hlm
 cases x
 case true =>
  obtain rfl:E=4:=by rw [<- hE.out];exact Znh hlm.out
  clear h;go_enter Tryz.func30,Tryz.ntmps30;go_wp2_with fail;refine (hC.out _ (by first | exact Below.refl _ _ | exact Zf (Below.refl _ _) _)).mono ?_;rintro e w1 ⟨rfl,hb1⟩;go_wp2_with fail;go_ret;exact ⟨rfl,by first | exact hb1 | exact (Zf (Below.refl _ _) _).trans hb1⟩
 by_cases hn0:n=0
 ·subst hn0
  obtain rfl:E=8:=by
   rw [<- hE.out];have:rs=[]:=List.eq_nil_of_length_eq_zero hl;exact Znj hlm.out (by rw [this];rfl)
  clear h;go_enter Tryz.func30,Tryz.ntmps30;go_wp2_with fail;refine (hC.out _ (by first | exact Below.refl _ _ | exact Zf (Below.refl _ _) _)).mono ?_;rintro e w1 ⟨rfl,hb1⟩;go_wp2_with fail;go_ret;exact ⟨rfl,by first | exact hb1 | exact (Zf (Below.refl _ _) _).trans hb1⟩
 have t2:((n:Int) == 0)=false:=by simp;omega
 have t2':decide (n=0)=false:=by simpa using hn0
 obtain ⟨g,o,r0,rfl,he0,c0,hL0⟩:=h.at_ (k:=0) (by omega);have hr0l:=hL0.nlen;unfold maxLen at hr0l;have hn0':=Zvs he0;clear he0 hL0;rw [Nat.add_zero] at c0;have hbg:=Zp c0
 by_cases hz:r0.n=0
 ·obtain rfl:E=8:=by rw [<- hE.out];exact Znj hlm.out (by rw [hn0',hz])
  have t3:((r0.n:Int) == 0)=true:=by simp [hz]
  have t3':decide (r0.n=0)=true:=by simpa using hz
  replace h:=Za h;replace hn0':=Za hn0';replace hz:=Za hz;go_enter Tryz.func30,Tryz.ntmps30;go_wp2_with fail;refine (hC.out _ (by first | exact Below.refl _ _ | exact Zf (Below.refl _ _) _)).mono ?_;rintro e w1 ⟨rfl,hb1⟩
  have hB1:Below w.heap.size w w1:=by first | exact hb1 | exact (Zf (Below.refl _ _) _).trans hb1
  have k0:=Zb hB1 c0;clear c0;go_wp2_with fail;go_ret;exact ⟨rfl,hB1⟩
 have t3:((r0.n:Int) == 0)=false:=by simpa using hz
 have t3':decide (r0.n=0)=false:=by simpa using hz
 replace h:=Za h;replace hl:=Za hl;replace hn0':=Za hn0';replace hz:=Za hz;go_enter Tryz.func30,Tryz.ntmps30;go_wp2_with fail;refine (hC.out _ (by first | exact Below.refl _ _ | exact Zf (Below.refl _ _) _)).mono ?_;rintro e w1 ⟨rfl,hb1⟩
 have hB1:Below w.heap.size w w1:=by first | exact hb1 | exact (Zf (Below.refl _ _) _).trans hb1
 have k0:=Zb hB1 c0;clear hb1 hC;go_wp2_with fail
 go_loopw [24] (fun iv wr=>∃ i:Nat,i <= n/\iv=.int .i64 i/\Hid (∀ j e,j < i->rs[j]?=some e->Zgp (n0R rs) e=true)/\Below w.heap.size w wr) (fun iv _=>n - (intOf iv).toNat)
 case atStart=>exact ⟨0,Nat.zero_le _,rfl,Za (fun j e hj=>by omega),(by first | exact hB1 | exact Zf hB1 _)⟩
 case round =>
  clear k0 hB1;obtain ⟨i,hik,rfl,hall,hBp⟩:=hrel;have k0:=Zb hBp c0;clear c0
  by_cases hin:i < n
  case neg =>
   obtain rfl:n=i:=by omega
   have htk:decide ((n:Int) < (n:Int))=false:=by simp
   obtain rfl:E=0:=by
    rw [<- hE.out];refine matE_ok hlm.out (by rw [hn0'.out];exact hz.out) ?_;rw [List.all_eq_true];intro e he;obtain ⟨j,hj,hje⟩:=List.getElem_of_mem he;exact hall.out j e (by rw [hl.out] at hj;exact hj) (by rw [List.getElem?_eq_getElem hj,hje])
   go_wp2_with fail;go_ret;exact ⟨rfl,hBp⟩
  have htk:decide ((i:Int) < (n:Int))=true:=decide_eq_true (by omega);obtain ⟨g',o',r,hA,he,c1,hL⟩:=(h.out.below hBp).at_ hin
  cases hA
  have hrl:=hL.nlen;unfold maxLen at hrl
  have bad:Zgp (n0R rs) r=false->E=8:=fun hf=>by rw [<- hE.out];exact Zwi hlm.out (by rw [hn0'.out];exact hz.out) (List.mem_of_getElem? he) hf
  have good:Zgp (n0R rs) r=true->Hid (∀ j e,j < i+1->rs[j]?=some e->Zgp (n0R rs) e=true):=fun hf=>Za (fun j e' hj he'=>by
   rcases Nat.lt_or_ge j i with h' | h'
   ·exact hall.out j e' h' he'
   ·obtain rfl:j=i:=by omega
    rw [he] at he'
    cases he'
    exact hf)
  replace bad:=Za bad;replace good:=Za good;replace he:=Za he
  by_cases hq:r.n=r0.n
  case neg =>
   have t4:((r.n:Int) == (r0.n:Int))=false:=beq_eq_false_iff_ne.2 (by omega)
   have t5:((r.n:Int) != (r0.n:Int))=true:=by rw [bne,t4];rfl
   have t4':decide (r.n=r0.n)=false:=by simpa using hq
   obtain rfl:E=8:=bad.out (by unfold Zgp;rw [hn0'.out,t4'];rfl);clear hL;go_wp2_with fail;go_ret;exact ⟨rfl,by first | exact hBp | exact Zf hBp _⟩
  have t4:((r.n:Int) == (r0.n:Int))=true:=beq_iff_eq.2 (by omega)
  have t5:((r.n:Int) != (r0.n:Int))=false:=by rw [bne,t4];rfl
  have t4':decide (r.n=r0.n)=true:=by simpa using hq
  obtain ⟨x,hx⟩:∃ x,Zcn r.es=x:=⟨_,rfl⟩;have hC:=Za (fun W1 (hb:Below wr.heap.size wr W1)=>Zgv r.A r.n r.c r.es W1 (hL.below hb) x hx);replace hx:=Za hx;replace hq:=Za hq;clear hL
  cases x
  ·obtain rfl:E=8:=bad.out (by unfold Zgp;rw [hx.out];simp)
   go_wp2_with fail;refine (hC.out _ (by first | exact Below.refl _ _ | exact Zf (Below.refl _ _) _)).mono ?_;rintro e' w2 ⟨rfl,hb2⟩;go_wp2_with fail;go_ret;exact ⟨rfl,(by first | exact hBp.trans (hb2.mono hBp.size) | exact (Zf hBp _).trans (hb2.mono hBp.size))⟩
  ·have hall2:=good.out (by unfold Zgp;rw [hn0'.out,t4',hx.out];rfl)
   go_wp2_with fail;refine (hC.out _ (by first | exact Below.refl _ _ | exact Zf (Below.refl _ _) _)).mono ?_;rintro e' w2 ⟨rfl,hb2⟩;go_wp2_with fail
   go_roundw
   case rel=>exact ⟨i+1,by omega,by go_num,hall2,(by first | exact hBp.trans (hb2.mono hBp.size) | exact (Zf hBp _).trans (hb2.mono hBp.size))⟩
   case measure=>simp [intOf];omega
theorem Zdf (A:Option Addr) (n c:Nat) (rs:List RX) (w:World) (h:MXL w A n c rs) (E:Int) (hE:sqE rs=E) :
    Calls Tryz.prog 54 #[.slice A n c] w fun e w'=>e=.returned (.int .i64 E)/\Below w.heap.size w w':=by
 have hl:=h.1;have hnc:=h.2.1;have hcm:=h.2.2.1;unfold maxLen at hcm;obtain ⟨F,hF⟩:∃ F,Zfa rs=F:=⟨_,rfl⟩;go_enter Tryz.func54,Tryz.ntmps54;go_wp2_with fail;refine (Zsl A n c rs w h F hF).mono ?_;rintro e w1 ⟨rfl,hb1⟩;unfold sqE at hE;rw [hF] at hE
 by_cases hF0:F=0
 case neg =>
  have t1:(F == 0)=false:=by simpa using hF0
  have t1':decide (F=0)=false:=by simpa using hF0
  rw [if_neg hF0] at hE;subst hE;replace hF:=Za hF;go_wp2_with fail;go_ret;exact ⟨rfl,hb1⟩
 subst hF0;rw [if_pos rfl] at hE
 have hn0:0 < n:=by
  rcases Nat.eq_zero_or_pos n with h0 | h0
  ·exfalso
   have:rs=[]:=List.eq_nil_of_length_eq_zero (by omega);subst this;exact absurd hF (by decide)
  ·exact h0
 obtain ⟨g,o,r0,rfl,he0,c0,hL0⟩:=h.at_ (k:=0) hn0;have hr0l:=hL0.nlen;unfold maxLen at hr0l;rw [Zvs he0,hl] at hE;rw [Nat.add_zero] at c0;replace c0:=Zb hb1 c0;replace he0:=Za he0;replace hF:=Za hF;clear hL0 h
 by_cases hq:n=r0.n
 ·have t2:((n:Int) == (r0.n:Int))=true:=beq_iff_eq.2 (by omega)
  have t5:((n:Int) != (r0.n:Int))=false:=by rw [bne,t2];rfl
  have t2':decide (n=r0.n)=true:=by simpa using hq
  rw [if_pos hq] at hE;subst hE;replace hq:=Za hq;go_wp2_with fail;go_ret;exact ⟨rfl,hb1⟩
 ·have t2:((n:Int) == (r0.n:Int))=false:=beq_eq_false_iff_ne.2 (by omega)
  have t5:((n:Int) != (r0.n:Int))=true:=by rw [bne,t2];rfl
  have t2':decide (n=r0.n)=false:=by simpa using hq
  rw [if_neg hq] at hE;subst hE;replace hq:=Za hq;go_wp2_with fail;go_ret;exact ⟨rfl,hb1⟩
end Go.Proofs.YtigdclhagmnopaaGreat
