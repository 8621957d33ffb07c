/- The reference of linear: Check, square. -/
import Derived.Test.YtigdclhagmnopaaGreatZd31
set_option maxRecDepth 100000
set_option maxHeartbeats 2000000
set_option linter.unusedSimpArgs false
set_option linter.unusedVariables false
namespace Go.Proofs.YtigdclhagmnopaaGreat
open Go.RowKit
attribute [local go_sem] Zg
theorem Zjn (A : Option Addr) (n c : Nat) (rs : List RX) (w : World) (h : MXL w A n c rs) (E : Int) (hE : Zd0 rs = E) :
    Calls Tryz.prog 31 #[.slice A n c] w fun e w'=>e = .returned (.int .i64 E) /\ Below w.heap.size w w':=by
 have hl:=h.1;have hnc:=h.2.1;have hcm:=h.2.2.1;unfold maxLen at hcm;replace hE:=Za hE
 by_cases h12 : 12 < n
 ·have t1 : decide ((12 : Int) < (n : Int)) = true:=decide_eq_true (by omega)
  obtain rfl : E = 4:=by rw [<- hE.out];exact Zgy (by unfold Zec;rw [hl,decide_eq_true h12];rfl)
  go_enter Tryz.func31,Tryz.ntmps31;go_wp2_with fail;go_ret;exact ⟨rfl,by first | exact Below.refl _ _ | exact Zf (Below.refl _ _) _⟩
 have t1 : decide ((12 : Int) < (n : Int)) = false:=decide_eq_false (by omega)
 have hlm : Zec rs = rs.any RX.long:=by unfold Zec;rw [hl,decide_eq_false h12];rfl
 replace h:=Za h;replace hl:=Za hl;replace hlm:=Za hlm;go_enter Tryz.func31,Tryz.ntmps31;go_wp2_with fail
 go_loopw [3] (fun iv wr=>∃ i : Nat,i <= n /\ iv = .int .i64 i /\ Hid (∀ j e,j < i -> rs[j]? = some e -> e.long = false) /\ ∃ m0,wr = w.drewN m0) (fun iv _=>n - (intOf iv).toNat)
 case atStart=>exact ⟨0,Nat.zero_le _,rfl,Za (fun j e hj=>by omega),0,rfl⟩
 case round =>
  obtain ⟨i,hik,rfl,hall,m0,rfl⟩:=hrel
  by_cases hin : i < n
  case pos =>
   have htk : decide ((i : Int) < (n : Int)) = true:=decide_eq_true (by omega);obtain ⟨g,o,r,rfl,he,c0,hL⟩:=h.out.at_ hin;have hrl:=hL.nlen;unfold maxLen at hrl;clear hL
   by_cases hx : 12 < r.n
   ·have t2 : decide ((12 : Int) < (r.n : Int)) = true:=decide_eq_true (by omega)
    obtain rfl : E = 4:=by
     rw [<- hE.out];refine Zgy ?_;rw [hlm.out,List.any_eq_true];exact ⟨r,List.mem_of_getElem? he,by unfold RX.long;simpa using hx⟩
    replace he:=Za he;go_wp2_with fail;go_ret;exact ⟨rfl,by first | exact Below.refl _ _ | exact Zf (Below.refl _ _) _ | exact Zf (Zf (Below.refl _ _) _) _⟩
   ·have t2 : decide ((12 : Int) < (r.n : Int)) = false:=decide_eq_false (by omega)
    have hall2 : Hid (∀ j e,j < i + 1 -> rs[j]? = some e -> e.long = false):=Za (fun j e' hj he'=>by
     rcases Nat.lt_or_ge j i with h' | h'
     ·exact hall.out j e' h' he'
     ·obtain rfl : j = i:=by omega
      rw [he] at he'
      cases he'
      unfold RX.long;simpa using hx)
    replace he:=Za he;go_wp2_with fail
    go_roundw
    case rel=>exact ⟨i + 1,by omega,by go_num,hall2,_,(by first | rfl | exact World.drewN_drewN _ _ _)⟩
    case measure=>simp [intOf];omega
  obtain rfl : n = i:=by omega
  have htk : decide ((n : Int) < (n : Int)) = false:=by simp
  have hlf : Zec rs = false:=by
   rw [hlm.out,List.any_eq_false];intro e he;obtain ⟨j,hj,hje⟩:=List.getElem_of_mem he;have:=hall.out j e (by rw [hl.out] at hj;exact hj) (by rw [List.getElem?_eq_getElem hj,hje]);rw [this];decide
  replace hlf:=Za hlf;clear hall hlm
  by_cases hn0 : n = 0
  ·subst hn0
   obtain rfl : E = 8:=by
    rw [<- hE.out];have : rs = []:=List.eq_nil_of_length_eq_zero hl.out;exact Zg1 hlf.out (by rw [this];rfl)
   go_wp2_with fail;go_ret;exact ⟨rfl,by first | exact Below.refl _ _ | exact Zf (Below.refl _ _) _ | exact Zf (Zf (Below.refl _ _) _) _⟩
  have t2 : ((n : Int) == 0) = false:=by simp;omega
  have t2' : decide (n = 0) = false:=by simpa using hn0
  obtain ⟨g,o,r0,rfl,he0,c0,hL0⟩:=h.out.at_ (k:=0) (by omega);have hr0l:=hL0.nlen;unfold maxLen at hr0l;have hn0':=Zqi he0;clear he0 hL0;rw [Nat.add_zero] at c0
  by_cases hz : r0.n = 0
  ·obtain rfl : E = 8:=by rw [<- hE.out];exact Zg1 hlf.out (by rw [hn0',hz])
   have t3 : ((r0.n : Int) == 0) = true:=by simp [hz]
   have t3' : decide (r0.n = 0) = true:=by simpa using hz
   replace hn0':=Za hn0';replace hz:=Za hz;go_wp2_with fail;go_ret;exact ⟨rfl,by first | exact Below.refl _ _ | exact Zf (Below.refl _ _) _ | exact Zf (Zf (Below.refl _ _) _) _⟩
  have t3 : ((r0.n : Int) == 0) = false:=by simpa using hz
  have t3' : decide (r0.n = 0) = false:=by simpa using hz
  replace hn0':=Za hn0';replace hz:=Za hz;go_wp2_with fail
  go_loopw [4] (fun iv wr=>∃ i : Nat,i <= n /\ iv = .int .i64 i /\ Hid (∀ j e,j < i -> rs[j]? = some e -> Zdj (n0R rs) e = true) /\ Below w.heap.size w wr) (fun iv _=>n - (intOf iv).toNat)
  case atStart=>exact ⟨0,Nat.zero_le _,rfl,Za (fun j e hj=>by omega),by first | exact Below.refl _ _ | exact Zf (Below.refl _ _) _ | exact Zf (Zf (Below.refl _ _) _) _⟩
  case round =>
   obtain ⟨i,hik,rfl,hall,hBp⟩:=hrel;have k0:=Zb hBp c0;clear c0
   by_cases hin : i < n
   case neg =>
    obtain rfl : n = i:=by omega
    obtain rfl : E = 0:=by
     rw [<- hE.out];refine Zr6 hlf.out (by rw [hn0'.out];exact hz.out) ?_;rw [List.all_eq_true];intro e he;obtain ⟨j,hj,hje⟩:=List.getElem_of_mem he;exact hall.out j e (by rw [hl.out] at hj;exact hj) (by rw [List.getElem?_eq_getElem hj,hje])
    go_wp2_with fail;go_ret;exact ⟨rfl,by first | exact hBp | exact Zf hBp _⟩
   have htk : decide ((i : Int) < (n : Int)) = true:=decide_eq_true (by omega);obtain ⟨g',o',r,hA,he,c1,hL⟩:=(h.out.below hBp).at_ hin
   cases hA
   have hrl:=hL.nlen;unfold maxLen at hrl
   have bad : Zdj (n0R rs) r = false -> E = 8:=fun hf=>by rw [<- hE.out];exact Zpt hlf.out (by rw [hn0'.out];exact hz.out) (List.mem_of_getElem? he) hf
   have good : Zdj (n0R rs) r = true -> Hid (∀ j e,j < i + 1 -> rs[j]? = some e -> Zdj (n0R rs) e = true):=fun hf=>Za (fun j e' hj he'=>by
    rcases Nat.lt_or_ge j i with h' | h'
    ·exact hall.out j e' h' he'
    ·obtain rfl : j = i:=by omega
     rw [he] at he'
     cases he'
     exact hf)
   replace bad:=Za bad;replace good:=Za good;replace he:=Za he
   by_cases hq : r.n = r0.n
   case neg =>
    have t4 : ((r.n : Int) == (r0.n : Int)) = false:=beq_eq_false_iff_ne.2 (by omega)
    have t5 : ((r.n : Int) != (r0.n : Int)) = true:=by rw [bne,t4];rfl
    have t4' : decide (r.n = r0.n) = false:=by simpa using hq
    obtain rfl : E = 8:=bad.out (by unfold Zdj;rw [hn0'.out,t4'];rfl);clear hL;go_wp2_with fail
    go_quiet (fail)
    go_wp2_with fail;go_ret;exact ⟨rfl,by first | exact hBp | exact Zf hBp _ | exact Zf (Zf hBp _) _⟩
   have t4 : ((r.n : Int) == (r0.n : Int)) = true:=beq_iff_eq.2 (by omega)
   have t5 : ((r.n : Int) != (r0.n : Int)) = false:=by rw [bne,t4];rfl
   have t4' : decide (r.n = r0.n) = true:=by simpa using hq
   obtain ⟨x,hx⟩ : ∃ x,Zbx r.es = x:=⟨_,rfl⟩;have hC:=Za (fun W1 (hb : Below wr.heap.size wr W1)=>Zon r.A r.n r.c r.es W1 (hL.below hb) x hx);replace hx:=Za hx;replace hq:=Za hq;clear hL
   cases x
   ·obtain rfl : E = 8:=bad.out (by unfold Zdj;rw [hx.out];simp)
    go_wp2_with fail
    go_region_with (go_at_call 78;refine (hC.out _ (by first | exact Below.refl _ _ | exact Zf (Below.refl _ _) _)).mono ?_;rintro e' w2 ⟨rfl,hb2⟩)
    all_goals go_wp2_with fail
    all_goals (go_ret;exact ⟨rfl,(by first | exact hBp.trans (hb2.mono hBp.size) | exact (Zf hBp _).trans (hb2.mono hBp.size))⟩)
   ·have hall2:=good.out (by unfold Zdj;rw [hn0'.out,t4',hx.out];rfl)
    go_wp2_with fail
    go_region_with (go_at_call 78;refine (hC.out _ (by first | exact Below.refl _ _ | exact Zf (Below.refl _ _) _)).mono ?_;rintro e' w2 ⟨rfl,hb2⟩)
    all_goals go_wp2_with fail
    all_goals exact ⟨⟨i + 1,by omega,by go_num,hall2,(by first | exact hBp.trans (hb2.mono hBp.size) | exact (Zf hBp _).trans (hb2.mono hBp.size))⟩,by simp [intOf];omega⟩
end Go.Proofs.YtigdclhagmnopaaGreat
