/- The reference's System, without a right side. -/
import Derived.Test.YthappeninglakaaGreatZd15
set_option maxRecDepth 100000
set_option maxHeartbeats 8000000
set_option linter.unusedSimpArgs false
set_option linter.unusedVariables false
namespace Go.Proofs.YthappeninglakaaGreat
open Go.RowKit
open Bool renaming not_false→Qa,true_and→Qc,not_true→Qd
open Below renaming refl→Qb
open List renaming getElem?_eq_getElem→Qe,mem_of_getElem?→Qf,getElem_of_mem→Qg
attribute [local go_sem] Zh
theorem Zfs(A B C:Option Addr)(n c m d k e0:Nat)(rs:List RI)(rr ws:List Int)(w:World)(h:MIL w A n c rs)(hr:LimI w B m d rr)(hw:LimI w C k e0 ws)(E:Int)(hE:Zot false rs rr ws=E) :
    Calls Tryz.prog 14 #[.slice A n c,.slice B m d,.slice C k e0,.bool false] w λe w'=>e=.returned (.int .i64 E)/\Below w.heap.size w w':=by
 have hl:=h.1;have c5:=h.2.1;have b6:=h.2.2.1;have a2:=hr.1;have a5:=hw.1;have b4:=hr.nlen;have b7:=hw.nlen;unfold maxLen at b6 b4 b7;replace hE:=Za hE;by_cases h12:200<n
 ·have t1:decide ((200:Int)<(n:Int))=true:=decide_eq_true (by omega)
  obtain rfl:E=4:=by rw[<- hE.out];exact Znw (by unfold Zd1;rw[hl,decide_eq_true h12];rfl)
  go_enter Tryz.func14,Tryz.ntmps14;go_wp2_with fail;go_ret;exact⟨rfl,by first|exact Qb _ _|exact Zf (Qb _ _) _⟩
 have t1:decide ((200:Int)<(n:Int))=false:=decide_eq_false (by omega)
 have O:∀ r,r ∈ rs->12<r.n->E=4:=λr hr1 hr2=>by
  rw[<- hE.out];refine Znw ?_;unfold Zd1;rw[Bool.or_eq_true,List.any_eq_true];exact .inr ⟨r,hr1,by unfold RI.long;simpa using hr2⟩
 have I:(∀ (j:Nat) (r:RI),j<n->rs[j]?=some r->r.n<=12)->Zd1 rs=false:=λhf=>by
  unfold Zd1;rw[hl,decide_eq_false h12,Bool.false_or,List.any_eq_false];intro e he;obtain⟨j,hj,a6⟩:=Qg he;have:=hf j e (by rw[hl]at hj;exact hj) (by rw[Qe hj,a6]);unfold RI.long;simp;omega
 replace O:=Za O;replace I:=Za I;replace h:=Za h;replace hl:=Za hl;replace hr:=Za hr;replace hw:=Za hw;replace a2:=Za a2;replace a5:=Za a5;go_enter Tryz.func14,Tryz.ntmps14;go_wp2_with fail
 go_loopw [9] (λiv wr=>∃ i:Nat,i<=n/\iv=.int .i64 i/\Hid (∀ (j:Nat) (r:RI),j<i->rs[j]?=some r->r.n<=12)/\Below w.heap.size w wr) (λiv _=>n-(intOf iv).toNat)
 case atStart=>exact⟨0,Nat.zero_le _,rfl,Za (λj e hj=>by omega),Qb _ _⟩
 case round =>
  obtain⟨i,c4,rfl,J,f⟩:=hrel;by_cases hin:i<n
  case pos =>
   have b5:decide ((i:Int)<(n:Int))=true:=decide_eq_true (by omega);obtain⟨g,o,r,rfl,he,c0,hL⟩:=(h.out.below f).at_ hin;have b8:=hL.nlen;unfold maxLen at b8;by_cases hx:12<r.n
   ·obtain rfl:E=4:=O.out r (Qf he) hx
    have t2:decide ((12:Int)<(r.n:Int))=true:=decide_eq_true (by omega);replace he:=Za he;clear hL;go_wp2_with fail;go_ret;exact⟨rfl,by first|exact f|exact Zf f _⟩
   ·have t2:decide ((12:Int)<(r.n:Int))=false:=decide_eq_false (by omega)
    have V:Hid (∀ (j:Nat) (r:RI),j<i+1->rs[j]?=some r->r.n<=12):=Za (λj e' hj he'=>by
     rcases Nat.lt_or_ge j i with h'|h';exact J.out j e' h' he'
     ·obtain rfl:j=i:=by omega
      rw[he]at he';cases he';omega)
    replace he:=Za he;clear hL;go_wp2_with fail
    go_roundw
    case rel=>exact⟨i+1,by omega,by go_num,V,(by first|exact f|exact Zf f _)⟩
    case measure=>simp[intOf];omega
  obtain rfl:n=i:=by omega
  have b5:decide ((n:Int)<(n:Int))=false:=by simp
  have a4:=I.out J.out;have y:Zkx false rs rr ws=false->E=8:=λhf=>by rw[<- hE.out];exact Zxe a4 hf
  have u:Zkx false rs rr ws=true->E=0:=λhf=>by rw[<- hE.out];exact sysS_ok a4 hf
  unfold Zkx at y u;rw[a2.out,a5.out,hl.out]at y u;rw[Qa,Bool.true_or,Qc]at y u;replace y:=Za y;replace u:=Za u;clear hE J I O a4;by_cases hn0:n=0
  ·subst hn0
   obtain rfl:E=8:=y.out (by
    have:rs=[]:=List.eq_nil_of_length_eq_zero hl.out;rw[this];rfl)
   clear h u y;go_wp2_with fail;go_ret;exact⟨rfl,by first|exact f|exact Zf f _⟩
  have t2:((n:Int) == 0)=false:=by simp;omega
  have c6:decide (n=0)=false:=by simpa using hn0
  obtain⟨g,o,r0,rfl,b2,c0,b1⟩:=h.out.at_ (i:=0) (by omega);have b3:=b1.nlen;unfold maxLen at b3;have U:=Zym b2;clear b2 b1;rw[Nat.add_zero]at c0;have k0:=Zb f c0;rw[U]at y u;by_cases hz:r0.n=0
  ·obtain rfl:E=8:=y.out (by rw[decide_eq_true hz];rfl)
   have t3:((r0.n:Int) == 0)=true:=by simp[hz]
   have a8:decide (r0.n=0)=true:=by simpa using hz
   clear y u;replace U:=Za U;replace hz:=Za hz;go_wp2_with fail;go_ret;exact⟨rfl,by first|exact f|exact Zf f _⟩
  have t3:((r0.n:Int) == 0)=false:=by simpa using hz
  have a8:decide (r0.n=0)=false:=by simpa using hz
  rw[a8,Qa,Qc]at y u;replace U:=Za U;replace hz:=Za hz;by_cases kn:k=n
  case neg =>
   have t4:((k:Int) == (n:Int))=false:=beq_eq_false_iff_ne.2 (by omega);have b9:((k:Int) != (n:Int))=true:=by rw[bne,t4];rfl
   have a1:decide (k=n)=false:=by simpa using kn
   obtain rfl:E=8:=y.out (by rw[a1];rfl);clear y u;replace kn:=Za kn;go_wp2_with fail;go_ret;exact⟨rfl,by first|exact f|exact Zf f _⟩
  have t4:((k:Int) == (n:Int))=true:=beq_iff_eq.2 (by omega);have b9:((k:Int) != (n:Int))=false:=by rw[bne,t4];rfl
  have a1:decide (k=n)=true:=by simpa using kn
  rw[a1,Qc]at y u;replace kn:=Za kn;obtain⟨xw,a7⟩:∃ xw,Zem 1 ws=xw:=⟨_,rfl⟩;have hW:=Za (λW1 (hb:Below w.heap.size w W1)=>Zi7 C k e0 ws 1 W1 (hw.out.below hb) xw a7);rw[a7]at y u;clear a7 hw;cases xw
  case true =>
   obtain rfl:E=8:=y.out rfl;clear y u;go_wp2_with fail;refine(hW.out _ (by first|exact f|exact Zf f _)).mono ?_;rintro e w1 ⟨rfl,Y⟩;have T:Below w.heap.size w w1:=by first|exact(f).trans (Y.mono (f).size)|exact(Zf (f) _).trans (Y.mono (f).size)
   clear Y;have k1:=Zb T c0;simp only[Qa,Qd];go_wp2_with fail;go_ret;exact⟨rfl,by first|exact T|exact Zf T _⟩
  rw[Qa,Qc]at y u;go_wp2_with fail;refine(hW.out _ (by first|exact f|exact Zf f _)).mono ?_;rintro e w1 ⟨rfl,Y⟩;have T:Below w.heap.size w w1:=by first|exact(f).trans (Y.mono (f).size)|exact(Zf (f) _).trans (Y.mono (f).size)
  clear Y;have k1:=Zb T c0;simp only[Qa,Qd];go_wp2_with fail;clear k0
  go_loopw [10] (λiv wr=>∃ i:Nat,i<=n/\iv=.int .i64 i/\Hid (∀ j e,j<i->rs[j]?=some e->Zhr r0.n e=true)/\Below w.heap.size w wr) (λiv _=>n-(intOf iv).toNat)
  case atStart=>exact⟨0,Nat.zero_le _,rfl,Za (λj e hj=>by omega),(by first|exact T|exact Zf T _)⟩
  case round =>
   clear k1 T f;obtain⟨i,c2,rfl,J,f⟩:=hrel;have k0:=Zb f c0;clear c0;by_cases hin2:i<n
   case neg =>
    obtain rfl:n=i:=by omega
    obtain rfl:E=0:=by
     refine u.out ?_;rw[List.all_eq_true];intro e he;obtain⟨j,hj,a6⟩:=Qg he;exact J.out j e (by rw[hl.out]at hj;exact hj) (by rw[Qe hj,a6])
    clear y;go_wp2_with fail;go_ret;exact⟨rfl,f⟩
   have c3:decide ((i:Int)<(n:Int))=true:=decide_eq_true (by omega);have bi:(i:Int)<(n:Int):=by omega
   have b0:(0:Int)<(n:Int):=by omega
   obtain⟨g',o',r,hA,he,c1,hL⟩:=(h.out.below f).at_ hin2;cases hA;have a9:=hL.nlen;unfold maxLen at a9
   have bad:Zhr r0.n r=false->E=8:=λhf=>y.out (by
    rw[List.all_eq_false];exact⟨r,Qf he,by rw[hf];decide⟩)
   have good:Zhr r0.n r=true->Hid (∀ j e,j<i+1->rs[j]?=some e->Zhr r0.n e=true):=λhf=>Za (λj e' hj he'=>by
    rcases Nat.lt_or_ge j i with h'|h';exact J.out j e' h' he'
    ·obtain rfl:j=i:=by omega
     rw[he]at he';cases he';exact hf)
   replace bad:=Za bad;replace good:=Za good;replace he:=Za he;clear y;by_cases hq:r.n=r0.n
   case neg =>
    have t6:((r.n:Int) == (r0.n:Int))=false:=beq_eq_false_iff_ne.2 (by omega);have t7:((r.n:Int) != (r0.n:Int))=true:=by rw[bne,t6];rfl
    have a3:decide (r.n=r0.n)=false:=by simpa using hq
    obtain rfl:E=8:=bad.out (by unfold Zhr;rw[a3];rfl);clear hL u;go_wp2_with fail
    go_quiet (fail)
    go_wp2_with fail;go_ret;exact⟨rfl,by first|exact f|exact Zf f _⟩
   have t6:((r.n:Int) == (r0.n:Int))=true:=beq_iff_eq.2 (by omega);have t7:((r.n:Int) != (r0.n:Int))=false:=by rw[bne,t6];rfl
   have a3:decide (r.n=r0.n)=true:=by simpa using hq
   obtain⟨x,hx⟩:∃ x,Zem (-1099511627776) r.l=x:=⟨_,rfl⟩;have hC:=Za (λW1 (hb:Below wr.heap.size wr W1)=>Zi7 r.A r.n r.c r.l (-1099511627776) W1 (hL.below hb) x hx);replace hx:=Za hx;replace hq:=Za hq;clear hL;cases x
   ·have V:=good.out (by unfold Zhr;rw[a3,hx.out];rfl)
    go_wp2_with fail
    go_region_with (go_at_call 53;refine(hC.out _ (by first|exact Qb _ _|exact Zf (Qb _ _) _)).mono ?_;rintro e' w5 ⟨rfl,a0⟩;simp only[Qa,Qd])
    all_goals go_wp2_with fail
    all_goals exact⟨⟨i+1,by omega,by go_num,V,(by first|exact f.trans (a0.mono f.size)|exact(Zf f _).trans (a0.mono f.size))⟩,by simp[intOf];omega⟩
   ·obtain rfl:E=8:=bad.out (by unfold Zhr;rw[hx.out];simp)
    clear u;go_wp2_with fail
    go_region_with (go_at_call 53;refine(hC.out _ (by first|exact Qb _ _|exact Zf (Qb _ _) _)).mono ?_;rintro e' w5 ⟨rfl,a0⟩;simp only[Qa,Qd])
    all_goals go_wp2_with fail
    all_goals (go_ret;exact⟨rfl,(by first|exact f.trans (a0.mono f.size)|exact(Zf f _).trans (a0.mono f.size))⟩)
