/- The reference's System, without a right side. The -/
import Derived.Test.YthappeninglakaaGreatZt15
set_option maxRecDepth 100000
set_option maxHeartbeats 8000000
set_option linter.unusedSimpArgs false
set_option linter.unusedVariables false
namespace Go.Proofs.YthappeninglakaaGreat
open Go.RowKit
open Bool renaming not_false→Qa,true_and→Qb,not_true→Qc
open Below renaming refl→Qd
open List renaming mem_of_getElem?→Qe
open Nat renaming zero_le→Qf
attribute [local go_sem] Zg
theorem Zn0(A B C:Option Addr)(n c m d k e0:Nat)(rs:List RI)(rr ws:List Int)(w:World)(h:MIL w A n c rs)(hr:LimI w B m d rr)(hw:LimI w C k e0 ws)(E:Int)(hE:Zn3 false rs rr ws=E) :
    Calls Tryz.prog 14 #[.slice A n c,.slice B m d,.slice C k e0,.bool false] w λe w'=>e=.returned (.int .i64 E)/\Below w.heap.size w w':=by
 have hl:=h.1;have b8:=h.2.1;have a8:=h.2.2.1;have Y:=hr.1;have T:=hw.1;have b3:=hr.nlen;have b1:=hw.nlen;unfold maxLen at a8 b3 b1;replace hE:=Za hE;by_cases h12:200<n
 ·have t1:decide ((200:Int)<(n:Int))=true:=Gv Gk
  obtain rfl:E=4:=by rw[<- hE.out];exact Zot (by unfold Zd9;rw[hl,Gv h12];rfl)
  go_in;exact EB
 have t1:decide ((200:Int)<(n:Int))=false:=Gu Gk
 have u:∀ r,r ∈ rs->12<r.n->E=4:=λr hr1 hr2=>by
  rw[<- hE.out];refine Zot ?_;unfold Zd9;rw[Bool.or_eq_true,List.any_eq_true];exact .inr ⟨r,hr1,by unfold RI.long;simpa using hr2⟩
 have f:(∀ (j:Nat) (r:RI),j<n->rs[j]?=some r->r.n<=12)->Zd9 rs=false:=λhf=>by
  unfold Zd9;rw[hl,Gu h12,Bool.false_or,List.any_eq_false];intro e he;obtain⟨j,hj,dK⟩:=List.getElem_of_mem he;have:=hf j e (by rw[hl]at hj;exact hj) (by rw[List.getElem?_eq_getElem hj,dK]);unfold RI.long;simp;omega
 replace u:=Za u;replace f:=Za f;replace h:=Za h;replace hl:=Za hl;replace hr:=Za hr;replace hw:=Za hw;replace Y:=Za Y;replace T:=Za T;go_in;go_wp2_with fail
 go_loopw [9] (λiv wr=>∃ i:Nat,i<=n/\iv=.int .i64 i/\Hid (∀ (j:Nat) (r:RI),j<i->rs[j]?=some r->r.n<=12)/\Below w.heap.size w wr) (λiv _=>n-(intOf iv).toNat)
 case atStart=>exact⟨0,Qf _,rfl,Za (λj e hj=>by omega),Qd _ _⟩
 case round =>
  obtain⟨i,b7,rfl,au,ah⟩:=hrel;by_cases hin:i<n
  case pos =>
   have a9:decide ((i:Int)<(n:Int))=true:=Gv Gk;obtain⟨g,o,r,rfl,he,c0,hL⟩:=(h.out.below ah).at_ hin;have a7:=hL.nlen;unfold maxLen at a7;by_cases hx:12<r.n
   ·obtain rfl:E=4:=u.out r (Qe he) hx
    have t2:decide ((12:Int)<(r.n:Int))=true:=Gv Gk;replace he:=Za he;clear hL;exact EF
   have t2:decide ((12:Int)<(r.n:Int))=false:=Gu Gk
   have I:Hid (∀ (j:Nat) (r:RI),j<i+1->rs[j]?=some r->r.n<=12):=Za (λj e' hj he'=>by
    rcases Nat.lt_or_ge j i with h'|h';exact au.out j e' h' he';obtain rfl:j=i:=Gk;rw[he]at he';cases he';omega)
   replace he:=Za he;clear hL;go_wp2_with fail
   go_roundw
   case rel=>exact⟨i+1,by omega,by go_num,I,(by first|exact ah|exact Zf ah _)⟩
   case measure=>simp[intOf];omega
  obtain rfl:n=i:=Gk;have a9:decide ((n:Int)<(n:Int))=false:=Gh;have a0:=f.out au.out;have ag:Zlm false rs rr ws=false->E=8:=λhf=>by rw[<- hE.out];exact Z0b a0 hf
  have ab:Zlm false rs rr ws=true->E=0:=λhf=>by rw[<- hE.out];exact sysS_ok a0 hf
  unfold Zlm at ag ab;rw[Y.out,T.out,hl.out]at ag ab;rw[Qa,Bool.true_or,Qb]at ag ab;replace ag:=Za ag;replace ab:=Za ab;clear hE au f u a0;by_cases hn0:n=0
  ·subst hn0
   obtain rfl:E=8:=ag.out (by
    have:rs=[]:=List.eq_nil_of_length_eq_zero hl.out;rw[this];rfl)
   clear h ab ag;exact EF
  have t2:((n:Int) == 0)=false:=by simp;omega
  have b6:decide (n=0)=false:=by simpa using hn0
  obtain⟨g,o,r0,rfl,a3,c0,a6⟩:=h.out.at_ (i:=0) Gk;have a5:=a6.nlen;unfold maxLen at a5;have y:=Z1h a3;clear a3 a6;rw[Nat.add_zero]at c0;have k0:=Zb ah c0;rw[y]at ag ab;by_cases hz:r0.n=0
  ·obtain rfl:E=8:=ag.out (by rw[Gv hz];rfl)
   have t3:((r0.n:Int) == 0)=true:=by simp[hz]
   have a4:decide (r0.n=0)=true:=by simpa using hz
   clear ag ab;replace y:=Za y;replace hz:=Za hz;exact EF
  have t3:((r0.n:Int) == 0)=false:=by simpa using hz
  have a4:decide (r0.n=0)=false:=by simpa using hz
  rw[a4,Qa,Qb]at ag ab;replace y:=Za y;replace hz:=Za hz;by_cases kn:k=n
  case neg =>
   have t4:((k:Int) == (n:Int))=false:=beq_eq_false_iff_ne.2 Gk;have b2:((k:Int) != (n:Int))=true:=by rw[bne,t4];rfl
   have a1:decide (k=n)=false:=by simpa using kn
   obtain rfl:E=8:=ag.out (by rw[a1];rfl);clear ag ab;replace kn:=Za kn;exact EF
  have t4:((k:Int) == (n:Int))=true:=beq_iff_eq.2 Gk;have b2:((k:Int) != (n:Int))=false:=by rw[bne,t4];rfl
  have a1:decide (k=n)=true:=by simpa using kn
  rw[a1,Qb]at ag ab;replace kn:=Za kn;obtain⟨xw,U⟩:=Gz (Zdq 1 ws);have hW:=Za (λW1 (hb:Below w.heap.size w W1)=>Zjy C k e0 ws 1 W1 (hw.out.below hb) xw U);rw[U]at ag ab;clear U hw;cases xw
  case true =>
   obtain rfl:E=8:=ag.out rfl;clear ag ab;go_wp2_with fail;refine(hW.out _ (by first|exact ah|exact Zf ah _)).mono ?_;rintro e w1 ⟨rfl,J⟩;have ai:Below w.heap.size w w1:=by first|exact(ah).trans (J.mono (ah).size)|exact(Zf (ah) _).trans (J.mono (ah).size)
   clear J;have k1:=Zb ai c0;simp only[Qa,Qc];exact CN
  rw[Qa,Qb]at ag ab;go_wp2_with fail;refine(hW.out _ (by first|exact ah|exact Zf ah _)).mono ?_;rintro e w1 ⟨rfl,J⟩;have ai:Below w.heap.size w w1:=by first|exact(ah).trans (J.mono (ah).size)|exact(Zf (ah) _).trans (J.mono (ah).size)
  clear J;have k1:=Zb ai c0;simp only[Qa,Qc];go_wp2_with fail;clear k0
  go_loopw [10] (λiv wr=>∃ i:Nat,i<=n/\iv=.int .i64 i/\Hid (∀ j e,j<i->rs[j]?=some e->Zg3 r0.n e=true)/\Below w.heap.size w wr) (λiv _=>n-(intOf iv).toNat)
  case atStart=>exact⟨0,Qf _,rfl,Za (λj e hj=>by omega),(by first|exact ai|exact Zf ai _)⟩
  case round =>
   clear k1 ai ah;obtain⟨i,b5,rfl,au,ah⟩:=hrel;have k0:=Zb ah c0;clear c0;by_cases hin2:i<n
   case neg =>
    obtain rfl:n=i:=Gk;exact CF
   have b4:decide ((i:Int)<(n:Int))=true:=Gv Gk;have bi:(i:Int)<(n:Int):=Gk;have b0:(0:Int)<(n:Int):=Gk;obtain⟨g',o',r,hA,he,c1,hL⟩:=(h.out.below ah).at_ hin2;cases hA;have a2:=hL.nlen;unfold maxLen at a2
   have bad:Zg3 r0.n r=false->E=8:=λhf=>ag.out (by
    rw[List.all_eq_false];exact⟨r,Qe he,by rw[hf];decide⟩)
   have good:Zg3 r0.n r=true->Hid (∀ j e,j<i+1->rs[j]?=some e->Zg3 r0.n e=true):=λhf=>Za (λj e' hj he'=>by
    rcases Nat.lt_or_ge j i with h'|h';exact au.out j e' h' he';obtain rfl:j=i:=Gk;rw[he]at he';cases he';exact hf)
   replace bad:=Za bad;replace good:=Za good;replace he:=Za he;clear ag;by_cases hq:r.n=r0.n
   case neg =>
    have t6:((r.n:Int) == (r0.n:Int))=false:=beq_eq_false_iff_ne.2 Gk;have t7:((r.n:Int) != (r0.n:Int))=true:=by rw[bne,t6];rfl
    have V:decide (r.n=r0.n)=false:=by simpa using hq
    obtain rfl:E=8:=bad.out (by unfold Zg3;rw[V];rfl);clear hL ab;go_wp2_with fail
    go_quiet (fail)
    exact EF
   have t6:((r.n:Int) == (r0.n:Int))=true:=beq_iff_eq.2 Gk;have t7:((r.n:Int) != (r0.n:Int))=false:=by rw[bne,t6];rfl
   have V:decide (r.n=r0.n)=true:=by simpa using hq
   obtain⟨x,hx⟩:=Gz (Zdq (-1099511627776) r.l);have hC:=Za (λW1 (hb:Below wr.heap.size wr W1)=>Zjy r.A r.n r.c r.l (-1099511627776) W1 (hL.below hb) x hx);replace hx:=Za hx;replace hq:=Za hq;clear hL;cases x
   ·have I:=good.out (by unfold Zg3;rw[V,hx.out];rfl)
    go_wp2_with fail
    go_region_with (go_at_call 53;refine(hC.out _ (by first|exact Qd _ _|exact Zf (Qd _ _) _)).mono ?_;rintro e' w5 ⟨rfl,O⟩;simp only[Qa,Qc])
    all_goals go_wp2_with fail
    all_goals exact⟨⟨i+1,by omega,by go_num,I,(by first|exact Gs ah O|exact(Zf ah _).trans (O.mono ah.size))⟩,by simp[intOf];omega⟩
   obtain rfl:E=8:=bad.out (by unfold Zg3;rw[hx.out];simp);clear ab;go_wp2_with fail
   go_region_with (go_at_call 53;refine(hC.out _ (by first|exact Qd _ _|exact Zf (Qd _ _) _)).mono ?_;rintro e' w5 ⟨rfl,O⟩;simp only[Qa,Qc])
   all_goals go_wp2_with fail
   all_goals (go_ret;exact⟨rfl,(by first|exact Gs ah O|exact(Zf ah _).trans (O.mono ah.size))⟩)
theorem Zxy(w:World):LimI w none 0 0 []:=⟨rfl,Nat.le_refl _,Qf _,by simp,λh=>absurd h Gk⟩
