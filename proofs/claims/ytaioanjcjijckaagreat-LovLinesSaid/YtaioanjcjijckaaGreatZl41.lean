/- What Part yields (plain). Reference of covar: plus, minus, -/
import Derived.Deep.LoopGhost
import Derived.Test.YtaioanjcjijckaaGreatZl40
set_option maxRecDepth 100000
set_option maxHeartbeats 16000000
set_option linter.unusedSimpArgs false
set_option linter.unusedVariables false
namespace Go.Proofs.YtaioanjcjijckaaGreat
open Go.RowKit
def idxOk (n : Nat) (ls : List Int) (k : Nat) : Prop:=(0 <= ls[k]?.getD 0 /\ ls[k]?.getD 0 < n) /\ ∀ j : Nat,j < k -> ls[j]?.getD 0 ≠ ls[k]?.getD 0
instance (n : Nat) (ls : List Int) (k : Nat) : Decidable (idxOk n ls k):=by unfold idxOk;infer_instance
section
variable {rs : List RX} {ls : List Int} {n : Nat}
end
theorem Zna {P : Program} (t e : TypeId) {i : TypeInfo} (ht : P.underlying t = some (.slice e)) (hi : P.info? e = some i) (hz : i.zero = some (.agg #[.bool false,.slice none 0 0,.bool false,.slice none 0 0])) (hs : i.size = 4) (hb : i.bytes = 64)
    (n : Nat) (hn : n <= 1000000000000) (W : World) :
    (Instr.makeSlice t (.int .i64 0) (.int .i64 (n : Int))).run P W = .ok (.slice (some ⟨W.heap.size,0,none⟩) 0 n) (W.alloc (.cells (Z3 (List.replicate n Zag)) e)):=by
 have hr:=run_make (P:=P) W t e i _ ht hi hz .i64 .i64 0 n (by omega) (by omega) (by rw [hb];omega) (by omega);simp only [Int.toNat_natCast,Int.toNat_zero] at hr;rw [hr,hs,Ze1]
theorem Zkj (t : TypeId) (w : World) (n : Nat) (hn : n <= maxLen) : OwnF t (w.alloc (.cells (Z3 (List.replicate n Zag)) t)) w.heap.size (.slice (some ⟨w.heap.size,0,none⟩) 0 n) []:=
 ⟨[],.inr ⟨w.heap.size,n,by rw [List.length_nil,Nat.zero_add],Nat.le_refl _,by rw [List.length_nil,Nat.zero_add];exact hn,by rw [List.nil_append];exact Blk.new _ _ _⟩,fun e he=>(by cases he),rfl⟩
attribute [local go_sem] Zg
theorem Zh0 (xn : Bool) (xA : Option Addr) (xk xc : Nat) (xm : Bool) (xB : Option Addr) (xj xd : Nat) (yn : Bool) (yA : Option Addr) (yk yc : Nat) (ym : Bool) (yB : Option Addr) (yj yd : Nat) (a b : Rat) (w : World) (ha : Fr w xn xA xk xc xm xB xj xd a) (hb : Fr w yn yA yk yc ym yB yj yd b) (sa : Sm a) (sb : Sm b) :
    Calls Tryz.prog 69 #[.agg #[.bool xn,.slice xA xk xc,.bool xm,.slice xB xj xd],.agg #[.bool yn,.slice yA yk yc,.bool ym,.slice yB yj yd]] w (Zds w (a - b)):=by
 obtain ⟨W0,hW0,hB0,⟨q0,q1,q2⟩,s0⟩:=Zbm w 29 #[.bool xn,.slice xA xk xc,.bool xm,.slice xB xj xd] 29 #[.bool yn,.slice yA yk yc,.bool ym,.slice yB yj yd] 29 #[.bool false,.slice none 0 0,.bool false,.slice none 0 0];obtain ⟨a0,a1,a2,a3,-⟩:=q0.four;obtain ⟨b0,b1,b2,b3,-⟩:=q1.four;obtain ⟨gR,hgR⟩ : ∃ g,w.heap.size + 1 + 1 = g:=⟨_,rfl⟩;rw [hgR] at q2;have hA:=ha.below hB0;have hD:=hb.below hB0;go_enter Tryz.func69,Tryz.ntmps69;go_wp2_with fail;(try rw [hW0]);refine (Zqj xn xm yn ym xA xB yA yB xk xc xj xd yk yc yj yd a b W0 hA hD sa sb).mono ?_;rintro e w1 ⟨hb1,pn,pA,pk,pc,pm,pB,pj,pd,rfl,hf⟩;replace q2:=Zb hb1 q2;clear a0 a1 a2 a3 b0 b1 b2 b3 q0 q1 hA hD;obtain ⟨V1,hV1,hBV,t0,tz⟩:=Zav w1 29 #[.bool false,.slice none 0 0,.bool false,.slice none 0 0];have q2':=Zb hBV q2;obtain ⟨gn,hgn⟩ : ∃ g,w1.heap.size = g:=⟨_,rfl⟩
 have hgn2 : gR < gn:=by
  have h1:=hb1.size;omega
 rw [hgn] at t0;obtain ⟨u0,u1,u2,u3,v0,v1,v2,v3⟩:=t0.four;obtain ⟨V2,hV2,p2,hK2,s2⟩:=Za7 pn pA pk pc pm pB pj pd t0;have hB2 : Below w1.heap.size w1 V2:=hBV.trans (hK2.to_below (fun k e=>by omega) hBV.size);have q22:=Zb hB2 q2;have hf2:=hf.below hB2;obtain ⟨o0,o1,o2,o3,-⟩:=p2.four;obtain ⟨c0,c1,c2,c3,z0,z1,z2,z3⟩:=q22.four;obtain ⟨W5,hW5,q5,hK5,s5⟩:=Za7 pn pA pk pc pm pB pj pd q22;have hr:=hf2.keptN hK5 q22 (Zbt _ _ _ _ _ _ _ _);have hBW0:=hB0;replace hB2:=Za hB2;replace hr:=Za hr;clear hf hf2;go_wp2_with fail;(try rw [hgn]);(try rw [hV2]);(try rw [hgR]);go_wp2_with fail;(try rw [hW5]);obtain ⟨r0,r1,r2,r3,-⟩:=q5.four;refine bodyPost_ret (v:=.agg #[.bool pn,.slice pA pk pc,.bool pm,.slice pB pj pd]) (by simp [results,Tryz.results69,go_sem,r0,r1,r2,r3]) rfl ?_;refine ⟨?_,_,_,_,_,_,_,_,_,rfl,hr.out⟩;have hB3:=hBW0.trans ((hb1.trans (hB2.out.mono hb1.size)).mono hBW0.size);exact hB3.trans (hK5.to_below (fun k e=>by omega) hB3.size)
theorem Zhu (xn : Bool) (xA : Option Addr) (xk xc : Nat) (xm : Bool) (xB : Option Addr) (xj xd : Nat) (yn : Bool) (yA : Option Addr) (yk yc : Nat) (ym : Bool) (yB : Option Addr) (yj yd : Nat) (a b : Rat) (w : World) (ha : Fr w xn xA xk xc xm xB xj xd a) (hb : Fr w yn yA yk yc ym yB yj yd b) (sa : Sm a) (sb : Sm b) :
    Calls Tryz.prog 61 #[.agg #[.bool xn,.slice xA xk xc,.bool xm,.slice xB xj xd],.agg #[.bool yn,.slice yA yk yc,.bool ym,.slice yB yj yd]] w (Zds w (a * b)):=by
 obtain ⟨W0,hW0,hB0,⟨q0,q1,q2⟩,s0⟩:=Zbm w 29 #[.bool xn,.slice xA xk xc,.bool xm,.slice xB xj xd] 29 #[.bool yn,.slice yA yk yc,.bool ym,.slice yB yj yd] 29 #[.bool false,.slice none 0 0,.bool false,.slice none 0 0];obtain ⟨a0,a1,a2,a3,-⟩:=q0.four;obtain ⟨b0,b1,b2,b3,-⟩:=q1.four;obtain ⟨gR,hgR⟩ : ∃ g,w.heap.size + 1 + 1 = g:=⟨_,rfl⟩;rw [hgR] at q2;have hA:=ha.below hB0;have hD:=hb.below hB0;go_enter Tryz.func61,Tryz.ntmps61;go_wp2_with fail;(try rw [hW0]);refine (Zj7 xn xm yn ym xA xB yA yB xk xc xj xd yk yc yj yd a b W0 hA hD sa sb).mono ?_;rintro e w1 ⟨hb1,pn,pA,pk,pc,pm,pB,pj,pd,rfl,hf⟩;replace q2:=Zb hb1 q2;clear a0 a1 a2 a3 b0 b1 b2 b3 q0 q1 hA hD;obtain ⟨V1,hV1,hBV,t0,tz⟩:=Zav w1 29 #[.bool false,.slice none 0 0,.bool false,.slice none 0 0];have q2':=Zb hBV q2;obtain ⟨gn,hgn⟩ : ∃ g,w1.heap.size = g:=⟨_,rfl⟩
 have hgn2 : gR < gn:=by
  have h1:=hb1.size;omega
 rw [hgn] at t0;obtain ⟨u0,u1,u2,u3,v0,v1,v2,v3⟩:=t0.four;obtain ⟨V2,hV2,p2,hK2,s2⟩:=Za7 pn pA pk pc pm pB pj pd t0;have hB2 : Below w1.heap.size w1 V2:=hBV.trans (hK2.to_below (fun k e=>by omega) hBV.size);have q22:=Zb hB2 q2;have hf2:=hf.below hB2;obtain ⟨o0,o1,o2,o3,-⟩:=p2.four;obtain ⟨c0,c1,c2,c3,z0,z1,z2,z3⟩:=q22.four;obtain ⟨W5,hW5,q5,hK5,s5⟩:=Za7 pn pA pk pc pm pB pj pd q22;have hr:=hf2.keptN hK5 q22 (Zbt _ _ _ _ _ _ _ _);have hBW0:=hB0;replace hB2:=Za hB2;replace hr:=Za hr;clear hf hf2;go_wp2_with fail;(try rw [hgn]);(try rw [hV2]);(try rw [hgR]);go_wp2_with fail;(try rw [hW5]);obtain ⟨r0,r1,r2,r3,-⟩:=q5.four;refine bodyPost_ret (v:=.agg #[.bool pn,.slice pA pk pc,.bool pm,.slice pB pj pd]) (by simp [results,Tryz.results61,go_sem,r0,r1,r2,r3]) rfl ?_;refine ⟨?_,_,_,_,_,_,_,_,_,rfl,hr.out⟩;have hB3:=hBW0.trans ((hb1.trans (hB2.out.mono hb1.size)).mono hBW0.size);exact hB3.trans (hK5.to_below (fun k e=>by omega) hB3.size)
theorem Zin (xn : Bool) (xA : Option Addr) (xk xc : Nat) (xm : Bool) (xB : Option Addr) (xj xd : Nat) (yn : Bool) (yA : Option Addr) (yk yc : Nat) (ym : Bool) (yB : Option Addr) (yj yd : Nat) (a b : Rat) (w : World) (ha : Fr w xn xA xk xc xm xB xj xd a) (hb : Fr w yn yA yk yc ym yB yj yd b) (sa : Sm a) (sb : Sm b) (h0 : b ≠ 0) :
    Calls Tryz.prog 64 #[.agg #[.bool xn,.slice xA xk xc,.bool xm,.slice xB xj xd],.agg #[.bool yn,.slice yA yk yc,.bool ym,.slice yB yj yd]] w (Zds w (a / b)):=by
 obtain ⟨W0,hW0,hB0,⟨q0,q1,q2⟩,s0⟩:=Zbm w 29 #[.bool xn,.slice xA xk xc,.bool xm,.slice xB xj xd] 29 #[.bool yn,.slice yA yk yc,.bool ym,.slice yB yj yd] 29 #[.bool false,.slice none 0 0,.bool false,.slice none 0 0];obtain ⟨a0,a1,a2,a3,-⟩:=q0.four;obtain ⟨b0,b1,b2,b3,-⟩:=q1.four;obtain ⟨gR,hgR⟩ : ∃ g,w.heap.size + 1 + 1 = g:=⟨_,rfl⟩;rw [hgR] at q2;have hA:=ha.below hB0;have hD:=hb.below hB0;go_enter Tryz.func64,Tryz.ntmps64;go_wp2_with fail;(try rw [hW0]);refine (Zmy xn xm yn ym xA xB yA yB xk xc xj xd yk yc yj yd a b W0 hA hD sa sb h0).mono ?_;rintro e w1 ⟨hb1,pn,pA,pk,pc,pm,pB,pj,pd,rfl,hf⟩;replace q2:=Zb hb1 q2;clear a0 a1 a2 a3 b0 b1 b2 b3 q0 q1 hA hD;obtain ⟨V1,hV1,hBV,t0,tz⟩:=Zav w1 29 #[.bool false,.slice none 0 0,.bool false,.slice none 0 0];have q2':=Zb hBV q2;obtain ⟨gn,hgn⟩ : ∃ g,w1.heap.size = g:=⟨_,rfl⟩
 have hgn2 : gR < gn:=by
  have h1:=hb1.size;omega
 rw [hgn] at t0;obtain ⟨u0,u1,u2,u3,v0,v1,v2,v3⟩:=t0.four;obtain ⟨V2,hV2,p2,hK2,s2⟩:=Za7 pn pA pk pc pm pB pj pd t0;have hB2 : Below w1.heap.size w1 V2:=hBV.trans (hK2.to_below (fun k e=>by omega) hBV.size);have q22:=Zb hB2 q2;have hf2:=hf.below hB2;obtain ⟨o0,o1,o2,o3,-⟩:=p2.four;obtain ⟨c0,c1,c2,c3,z0,z1,z2,z3⟩:=q22.four;obtain ⟨W5,hW5,q5,hK5,s5⟩:=Za7 pn pA pk pc pm pB pj pd q22;have hr:=hf2.keptN hK5 q22 (Zbt _ _ _ _ _ _ _ _);have hBW0:=hB0;replace hB2:=Za hB2;replace hr:=Za hr;clear hf hf2;go_wp2_with fail;(try rw [hgn]);(try rw [hV2]);(try rw [hgR]);go_wp2_with fail;(try rw [hW5]);obtain ⟨r0,r1,r2,r3,-⟩:=q5.four;refine bodyPost_ret (v:=.agg #[.bool pn,.slice pA pk pc,.bool pm,.slice pB pj pd]) (by simp [results,Tryz.results64,go_sem,r0,r1,r2,r3]) rfl ?_;refine ⟨?_,_,_,_,_,_,_,_,_,rfl,hr.out⟩;have hB3:=hBW0.trans ((hb1.trans (hB2.out.mono hb1.size)).mono hBW0.size);exact hB3.trans (hK5.to_below (fun k e=>by omega) hB3.size)
theorem Zj3 (A : Option Addr) (n c : Nat) (es : List FX) (w : World) (h : FXL w A n c es) (b : Bool) (hb : Zc6 es = b) :
    Calls Tryz.prog 57 #[.slice A n c] w fun e w'=>e = .returned (.bool b) /\ Below w.heap.size w w':=by
 have hl:=h.1;have hnc:=h.2.1;have hcm:=h.2.2.1;unfold maxLen at hcm;replace hl:=Za hl;replace hb:=Za hb;replace h:=Za h;go_enter Tryz.func57,Tryz.ntmps57;go_wp2_with fail
 go_loopw [3] (fun iv wr=>∃ i : Nat,i <= n /\ iv = .int .i64 i /\ Hid (∀ j e,j < i -> es[j]? = some e -> e.fine64 = true) /\ Below w.heap.size w wr) (fun iv _=>n - (intOf iv).toNat)
 case atStart=>exact ⟨0,Nat.zero_le _,rfl,Za (fun j e hj=>by omega),Below.refl _ _⟩
 case round =>
  obtain ⟨i,hik,rfl,hall,hBp⟩:=hrel
  by_cases hin : i < n
  case neg =>
   obtain rfl : n = i:=by omega
   have htk : decide ((n : Int) < (n : Int)) = false:=by simp
   obtain rfl : b = true:=by
    rw [<- hb.out];unfold Zc6;rw [List.all_eq_true];intro e he;obtain ⟨j,hj,hje⟩:=List.getElem_of_mem he;exact hall.out j e (by rw [hl.out] at hj;exact hj) (by rw [List.getElem?_eq_getElem hj,hje])
   go_wp2_with fail;go_ret;exact ⟨rfl,hBp⟩
  have htk : decide ((i : Int) < (n : Int)) = true:=decide_eq_true (by omega);obtain ⟨g,o,e,rfl,he,hc,hLa,hLb⟩:=(h.out.below hBp).at_ hin;obtain ⟨c0,c1,c2,c3⟩:=hc;have ha0:=hLa.2.1;have ha1:=hLa.2.2.1;have hb0:=hLb.2.1;have hb1:=hLb.2.2.1;have hne:=Nat.le_trans ha0 ha1;have hme:=Nat.le_trans hb0 hb1;unfold maxLen at ha1 hb1
  have bad : e.fine64 = false -> b = false:=fun hf=>by
   rw [<- hb.out];unfold Zc6;rw [List.all_eq_false];exact ⟨e,List.mem_of_getElem? he,by rw [hf];decide⟩
  replace bad:=Za bad;have hF:=Za (fun W1=>Zpx e.na e.nb e.A e.B e.n e.c e.m e.d W1 hne hme);obtain ⟨x,hx⟩ : ∃ x,e.ok = x:=⟨_,rfl⟩;have hC:=Za (fun W1 (hb : Below wr.heap.size wr W1)=>Zmi e.na e.nb e.A e.B e.n e.c e.m e.d e.la e.lb W1 (hLa.below hb) (hLb.below hb) x hx);obtain ⟨k,hk⟩ : ∃ k,max e.n e.m = k:=⟨_,rfl⟩
  have hkm : k <= 9223372036854775807:=by unfold maxLen at hne hme;omega
  rw [hk] at hF;replace hk:=Za hk;clear hLa hLb hne hme
  by_cases h1 : 64 < k
  ·have t1 : decide ((64 : Int) < (k : Int)) = true:=decide_eq_true (by omega)
   obtain rfl : b = false:=bad.out (by unfold FX.fine64 FX.few;rw [hk.out,decide_eq_false (by omega)];rfl);replace he:=Za he;replace hx:=Za hx;clear hC;go_wp2_with fail;refine (hF.out _).mono ?_;rintro e' w1 ⟨rfl,hb1⟩;go_wp2_with fail;go_ret;exact ⟨rfl,(by first | exact hBp.trans (hb1.mono hBp.size) | exact (Zh hBp _).trans (hb1.mono hBp.size))⟩
  have t1 : decide ((64 : Int) < (k : Int)) = false:=decide_eq_false (by omega)
  cases x
  ·obtain rfl : b = false:=bad.out (by unfold FX.fine64;rw [hx];simp)
   replace he:=Za he;clear hx;go_wp2_with fail;refine (hF.out _).mono ?_;rintro e' w1 ⟨rfl,hbF⟩;have c0':=Zc hbF c0;have c1':=Zc hbF c1;have c2':=Zc hbF c2;have c3':=Zc hbF c3;go_wp2_with fail;refine (hC.out _ (by first | exact hbF | exact Zh hbF _)).mono ?_;rintro e' w2 ⟨rfl,hb2⟩;simp only [Zet,Bool.false_eq_true,if_false];go_wp2_with fail;go_ret;exact ⟨rfl,hBp.trans ((hbF.trans (hb2.mono hbF.size)).mono hBp.size)⟩
  ·have hall2 : Hid (∀ j e,j < i + 1 -> es[j]? = some e -> e.fine64 = true):=Za (fun j e' hj he'=>by
     rcases Nat.lt_or_ge j i with h' | h'
     ·exact hall.out j e' h' he'
     ·obtain rfl : j = i:=by omega
      rw [he] at he'
      cases he'
      unfold FX.fine64 FX.few
      rw [hx,hk.out,decide_eq_true (by omega)];rfl)
   replace he:=Za he;clear hx;go_wp2_with fail;refine (hF.out _).mono ?_;rintro e' w1 ⟨rfl,hbF⟩;have c0':=Zc hbF c0;have c1':=Zc hbF c1;have c2':=Zc hbF c2;have c3':=Zc hbF c3;go_wp2_with fail;refine (hC.out _ (by first | exact hbF | exact Zh hbF _)).mono ?_;rintro e' w2 ⟨rfl,hb2⟩;simp only [Zet,if_true];go_wp2_with fail
   go_roundw
   case rel=>exact ⟨i + 1,by omega,by go_num,hall2,hBp.trans ((hbF.trans (hb2.mono hbF.size)).mono hBp.size)⟩
   case measure=>simp [intOf];omega
theorem Zhd {w : World} {t : TypeId} {g : Nat} {A : Option Addr} {n c : Nat} (h : Blk w g t #[.slice A n c]) : Reads w (g + 1) 1 (some ⟨g,0,none⟩) 1 (Zad [⟨A,n,c⟩]):=
 ⟨rfl,fun _=>⟨_,rfl,Nat.lt_succ_self _,fun j u hu=>by
  rw [Zg,Nat.zero_add,h.cell]
  simpa [Zad] using hu⟩⟩
def Zbj (Q : List (List Rat)) (xs : List Rat) (n : Nat) : List (List Rat):=(List.range n).map fun i=>Q[i]?.getD [] ++ [xs[i]?.getD 0]
section
variable {Q : List (List Rat)} {xs : List Rat} {n : Nat}
theorem Zhl : (Zbj Q xs n).length = n:=by simp [Zbj]
theorem Zjs {i : Nat} (h : i < n) : (Zbj Q xs n)[i]?.getD [] = Q[i]?.getD [] ++ [xs[i]?.getD 0]:=by simp [Zbj,h]
theorem Zqu {i : Nat} (h : i < n) : (Zbj Q xs n)[i]? = some (Q[i]?.getD [] ++ [xs[i]?.getD 0]):=by simp [Zbj,h]
theorem Zkp (hm : ∀ i,i < n -> (Q[i]?.getD []).length = n) {i : Nat} (h : i < n) : ((Zbj Q xs n)[i]?.getD []).length = n + 1:=by rw [Zjs h,List.length_append,hm i h];rfl
theorem Zrr (hm : ∀ i,i < n -> (Q[i]?.getD []).length = n) {i k : Nat} (h : i < n) (hk : k < n) : Zk (Zbj Q xs n) i k = Zk Q i k:=by
 unfold Zk;rw [Zjs h,List.getElem?_append_left (by rw [hm i h];exact hk)]
theorem Zpr (hm : ∀ i,i < n -> (Q[i]?.getD []).length = n) {i : Nat} (h : i < n) : Zk (Zbj Q xs n) i n = xs[i]?.getD 0:=by
 unfold Zk;rw [Zjs h,List.getElem?_append_right (by rw [hm i h];exact Nat.le_refl _),hm i h,Nat.sub_self];rfl
theorem Zpb (hm : ∀ i,i < n -> (Q[i]?.getD []).length = n) {i k : Nat} (h : i < n) (hk : n < k) : Zk (Zbj Q xs n) i k = 0:=by
 unfold Zk;rw [List.getElem?_eq_none (by rw [Zkp hm h];omega)];rfl
end
section
variable {R : List (List Rat)} {n m : Nat}
theorem Zmu (hrow : ∀ i,i < R.length -> (R[i]?.getD []).length = m) {r c i j : Nat} (hi : i < R.length) (hr : r < R.length) (hj : c <= j) :
    Zk (Zbp R r c) i j = if i <= r then Zk R i j else Zk R i j - Zk R i c / Zk R r c * Zk R r j:=by
 unfold Zbp;show ((List.map _ (List.range R.length))[i]?.getD [])[j]?.getD 0 = _;rw [List.getElem?_map,List.getElem?_range hi];simp only [Option.map_some,Option.getD_some]
 by_cases h1 : i <= r
 ·rw [if_pos h1,if_pos h1];rfl
 ·rw [if_neg h1,if_neg h1]
  unfold Zj0;rw [List.getElem?_map]
  by_cases hjl : j < (R[i]?.getD []).length
  ·rw [List.getElem?_range hjl]
   simp only [Option.map_some,Option.getD_some];rw [if_neg (by omega)];rfl
  ·rw [List.getElem?_eq_none (l:=List.range _) (by simpa using hjl)]
   simp only [Option.map_none,Option.getD_none]
   have e1 : Zk R i j = 0:=by unfold Zk;rw [List.getElem?_eq_none (by omega)];rfl
   have e2 : Zk R r j = 0:=by unfold Zk;rw [List.getElem?_eq_none (by rw [hrow i hi] at hjl;rw [hrow r hr];omega)];rfl
   rw [e1,e2];grind
theorem Zmz (hrow : ∀ i,i < R.length -> (R[i]?.getD []).length = m) {r c i : Nat} (hi : i < R.length) : ((Zbp R r c)[i]?.getD []).length = m:=by
 rw [Zf7 hi]
 split
 ·exact hrow i hi
 ·unfold Zj0
  rw [List.length_map,List.length_range];exact hrow i hi
theorem Zhb (hrow : ∀ i,i < R.length -> (R[i]?.getD []).length = m) : ∀ t i,i < R.length -> ((Zef R t)[i]?.getD []).length = m
 | 0,i,hi=>hrow i hi
 | t + 1,i,hi=>Zmz (R:=Zef R t) (fun i hi=>Zhb hrow t i (by rw [Ze5] at hi;exact hi)) (by rw [Ze5];exact hi)
theorem Zdd (hl : R.length = n) (hrow : ∀ i,i < R.length -> (R[i]?.getD []).length = m) : ∀ t,t <= n -> ∀ i k,i < n -> min t i <= k -> Zk (Zef R t) i k = Zz (Zk R) t i k
 | 0,_,_,_,_,_=>rfl
 | t + 1,ht,i,k,hi,hk=>by
  show Zk (Zbp (Zef R t) t t) i k = if t < i then _ else _
  have hL : (Zef R t).length = n:=by rw [Ze5,hl]
  have hR : ∀ i,i < (Zef R t).length -> ((Zef R t)[i]?.getD []).length = m:=fun i hi=>Zhb hrow t i (by rw [Ze5] at hi;exact hi)
  by_cases hti : t < i
  ·have htk : t + 1 <= k:=by omega
   rw [if_pos hti,Zmu hR (by rw [hL];exact hi) (by rw [hL];omega) (by omega),if_neg (by omega),
    Zdd hl hrow t (by omega) i k hi (by omega),Zdd hl hrow t (by omega) i t hi (by omega),Zdd hl hrow t (by omega) t t (by omega) (by omega),Zdd hl hrow t (by omega) t k (by omega) (by omega)]
  ·rw [if_neg hti]
   have hik : i <= k:=by omega
   have : Zk (Zbp (Zef R t) t t) i k = Zk (Zef R t) i k:=by
    unfold Zk;rw [Zf7 (by rw [hL];exact hi),if_pos (by omega)]
   rw [this];exact Zdd hl hrow t (by omega) i k hi (by omega)
end
def SolvC (E X : Nat -> Nat -> Rat) (n : Nat) : Prop:=
 (∀ i,i < n -> X i n = upS E X i n n / E i i) /\ (∀ i,SmN 300 300 (X i n)) /\ ∀ i t,SmN 400 400 (upS E X i n t)
def Zje (B0 : Nat) (q : Rat) (ca al : Nat) (i : Nat) (v : Value) (w : World) : Prop:=
 if i = ca then ∃ na A n c nb B m d,v = .agg #[.bool na,.slice A n c,.bool nb,.slice B m d] /\ Fr w na A n c nb B m d q
 else if i = al then ∃ g,v = .pointer (some ⟨g,0,none⟩) /\ B0 <= g /\ Blk w g 29 #[.bool false,.slice none 0 0,.bool false,.slice none 0 0]
 else True
theorem Zn9 {B0 : Nat} {q : Rat} {ca al i : Nat} {v : Value} {w w' : World} (hb : Below w.heap.size w w') (h : Zje B0 q ca al i v w) : Zje B0 q ca al i v w':=by
 unfold Zje at h ⊢
 split at h
 ·rename_i h1;rw [if_pos h1]
  obtain ⟨na,A,n,c,nb,B,m,d,e,hf⟩:=h;exact ⟨na,A,n,c,nb,B,m,d,e,hf.below hb⟩
 ·rename_i h1;rw [if_neg h1]
  split at h
  ·rename_i h4;rw [if_pos h4]
   obtain ⟨g,e,h5,h6⟩:=h;exact ⟨g,e,h5,Zb hb h6⟩
  ·rename_i h4;rw [if_neg h4];trivial
def FTail (t : TypeId) (w : World) (g n i : Nat) (x : Nat -> Rat) : Prop:=∃ es : List FE,Blk w g t (Z3 es) /\ es.length = n /\ ∀ (j : Nat) (e : FE),i <= j -> es[j]? = some e -> e.in_ w /\ e.q = x j
section
variable {t : TypeId} {w w' : World} {g n i : Nat} {x : Nat -> Rat}
theorem FTail.new (t : TypeId) (w : World) (n : Nat) (x : Nat -> Rat) : FTail t (w.alloc (.cells (Z3 (List.replicate n Zag)) t)) w.heap.size n n x:=
 ⟨_,Blk.new _ _ _,by simp,fun j e h1 h2=>by rw [List.getElem?_eq_none (by simp;exact h1)] at h2;cases h2⟩
theorem FTail.below (h : FTail t w g n i x) (hb : Below w.heap.size w w') : FTail t w' g n i x:=by
 obtain ⟨es,h1,h2,h3⟩:=h;exact ⟨es,Zb hb h1,h2,fun j e hj he=>⟨(h3 j e hj he).1.below hb,(h3 j e hj he).2⟩⟩
theorem FTail.at_ (h : FTail t w g n i x) {j : Nat} (hij : i <= j) (hj : j < n) : ∃ na A k c nb B m d,w.cell? ⟨g,j * 4,none⟩ = some (.bool na) /\ w.cell? ⟨g,j * 4 + 1,none⟩ = some (.slice A k c) /\ w.cell? ⟨g,j * 4 + 2,none⟩ = some (.bool nb) /\ w.cell? ⟨g,j * 4 + 3,none⟩ = some (.slice B m d) /\ Fr w na A k c nb B m d (x j):=by
 obtain ⟨es,h1,h2,h3⟩:=h;have he:=List.getElem?_eq_getElem (l:=es) (i:=j) (by omega);have hc:=Zc4 he;obtain ⟨h4,h5⟩:=h3 j _ hij he;unfold FE.in_ at h4;rw [h5] at h4;exact ⟨_,_,_,_,_,_,_,_,by rw [h1.cell];exact hc.1,by rw [h1.cell];exact hc.2.1,by rw [h1.cell];exact hc.2.2.1,by rw [h1.cell];exact hc.2.2.2,h4⟩
theorem FTail.raw (h : FTail t w g n i x) : FRaw t w g n:=by obtain ⟨es,h1,h2,-⟩:=h;exact ⟨es,h1,by omega⟩
theorem FTail.set_ (h : FTail t w g n (i + 1) x) (hi : i < n) {na : Bool} {A : Option Addr} {k c : Nat} {nb : Bool} {B : Option Addr} {m d : Nat} (hf : Fr w na A k c nb B m d (x i)) : FTail t (Zh2 w g i na A k c nb B m d) g n i x:=by
 obtain ⟨es,h1,h2,h3⟩:=h;have hb:=(((h1.set_ (i * 4) (.bool na)).set_ (i * 4 + 1) (.slice A k c)).set_ (i * 4 + 2) (.bool nb)).set_ (i * 4 + 3) (.slice B m d);have hs:=Zhq (es:=es) (i:=i) ⟨na,A,k,c,nb,B,m,d,x i⟩ (by omega);dsimp only at hs;rw [hs] at hb;have hnl:=Zbo es;refine ⟨_,hb,by rw [List.length_set];exact h2,fun j e hj he=>?_⟩;rw [List.getElem?_set] at he
 by_cases hij : i = j
 ·subst hij
  rw [if_pos rfl,if_pos (by omega)] at he
  cases he
  exact ⟨Zg3 hf h1 hnl,rfl⟩
 ·rw [if_neg hij] at he
  have:=h3 j e (by omega) he;exact ⟨Zg3 this.1 h1 hnl,this.2⟩
theorem FTail.fl (h : FTail t w g n 0 x) (hm : n <= maxLen) : FL w (some ⟨g,0,none⟩) n n ((List.range n).map x):=by
 obtain ⟨es,h1,h2,h3⟩:=h;refine ⟨es,h2,Nat.le_refl _,hm,fun e he=>?_,?_,fun _=>⟨g,0,rfl,fun k e he=>?_⟩⟩
 ·obtain ⟨j,hj,e2⟩:=List.getElem_of_mem he
  exact (h3 j e (Nat.zero_le _) (by rw [List.getElem?_eq_getElem hj,e2])).1
 ·apply List.ext_getElem?
  intro j;rw [List.getElem?_map,List.getElem?_map]
  by_cases hj : j < n
  ·have he:=List.getElem?_eq_getElem (l:=es) (i:=j) (by omega)
   rw [he,List.getElem?_range hj,Option.map_some,Option.map_some,(h3 j _ (Nat.zero_le _) he).2]
  ·rw [List.getElem?_eq_none (by omega),List.getElem?_eq_none (by simpa using hj)];rfl
 ·have hc:=Zc4 he
  exact ⟨by rw [Nat.zero_add,h1.cell];exact hc.1,by rw [Nat.zero_add,h1.cell];exact hc.2.1,by rw [Nat.zero_add,h1.cell];exact hc.2.2.1,by rw [Nat.zero_add,h1.cell];exact hc.2.2.2⟩
end
theorem RowS.isSlC {t : TypeId} {w : World} {base : Nat} {v : Value} {rs : List RS} (h : RowS t w base v rs) : ∃ A n c,v = .slice A n c:=by
 rcases h with ⟨rfl,_⟩ | ⟨g,sp,rfl,_⟩
 ·exact ⟨_,_,_,rfl⟩
 ·exact ⟨_,_,_,rfl⟩
def Zre (A X : Nat -> Nat -> Rat) (n : Nat) (w : World) (e : Ending) (w' : World) : Prop:=
 Below w.heap.size w w' /\ ((posP A n /\ ∃ B c,e = .returned (.tuple #[.slice B n c,.bool true]) /\ FL w' B n c ((List.range n).map fun i=>X i n)) \/ (¬ posP A n /\ e = .returned (.tuple #[.slice none 0 0,.bool false])))
theorem Zlu (A0 : Option Addr) (n c : Nat) (Q : List (List Rat)) (Ax : Option Addr) (cx : Nat) (xs : List Rat) (w : World) (h : MFL w A0 n c Q) (hv : FL w Ax n cx xs) (hn0 : 0 < n) (hn9 : n <= 100) (hm : ∀ i,i < n -> (Q[i]?.getD []).length = n)
    (hs : ∀ t i k,t <= n -> posP (Zk (Zbj Q xs n)) t -> i < n -> SmN 380 380 (Zz (Zk (Zbj Q xs n)) t i k)) (hl : ∀ i k,k <= i -> i < n -> posP (Zk (Zbj Q xs n)) (k + 1) -> SmN 300 300 (lQ (Zk (Zbj Q xs n)) i k))
    (X : Nat -> Nat -> Rat) (hX : posP (Zk (Zbj Q xs n)) n -> SolvC (fun i j=>Zz (Zk (Zbj Q xs n)) i i j) X n) :
    Calls Tryz.prog 58 #[.slice A0 n c,.slice Ax n cx] w (Zre (Zk (Zbj Q xs n)) X n w):=by
 obtain ⟨iF,hi,hz0,hz1,hz2⟩:=info_parts Zfl;obtain ⟨iS,ki,kz0,kz1,kz2⟩:=info_parts infoRow
 have hmx : Tryz.prog.follows .mixedOrders = true:=by kernel_rfl
 have hne : (23 : TypeId) ≠ 29:=by decide
 have hcap:=h.2.1;have hcm:=h.2.2.1;unfold maxLen at hcm;have hxcap:=hv.cap;unfold maxLen at hxcap;obtain ⟨R,hR⟩ : ∃ R,Zbj Q xs n = R:=⟨_,rfl⟩;have hRl : Hid (R.length = n):=Za (by rw [<- hR];exact Zhl);have hRrow : Hid (∀ i,i < R.length -> (R[i]?.getD []).length = n + 1):=Za (fun i hi=>by rw [<- hR] at hi ⊢;exact Zkp hm (by rw [Zhl] at hi;exact hi));have hRat : Hid (∀ i,i < n -> R[i]? = some (Q[i]?.getD [] ++ [xs[i]?.getD 0])):=Za (fun i hi=>by rw [<- hR];exact Zqu hi);rw [hR] at hs hl hX ⊢;obtain ⟨AR,hAR⟩ : ∃ A,Zk R = A:=⟨_,rfl⟩;rw [hAR] at hs hl hX ⊢;replace hAR:=Za hAR;have hH:=Za h;have hVH:=Za hv;replace hs:=Za hs;replace hl:=Za hl;replace hX:=Za hX;replace hm:=Za hm;clear h hv hR;go_enter Tryz.func58,Tryz.ntmps58;go_wp2_with fail
 go_loopg [6,7] n (fun k ov iv wr=>∃ (i : Nat) (L : List RF),i + k = n /\ iv = .int .i64 i /\ MatO 23 29 wr w.heap.size ov L /\ Hid (L.map RF.q = R.take i) /\ Below w.heap.size w wr)
 case atStart=>exact ⟨0,[],by omega,rfl,MatO.nil _ _ _ _,Za (by simp),Below.refl _ _⟩
 case round =>
  obtain ⟨i,L,hik,rfl,hM,hQ,hB⟩:=hrel
  have hLl : L.length = i:=by
   have h1 : (L.map RF.q).length = (R.take i).length:=by rw [hQ.out]
   rw [List.length_map,List.length_take,hRl.out] at h1;omega
  cases gk with
  | succ j =>
   obtain rfl : j = n - (i + 1):=by omega
   have hin : i < n:=by omega
   have t1 : decide ((i : Int) < (n : Int)) = true:=decide_eq_true (by omega)
   have bi : (i : Int) < (n : Int):=by omega
   obtain ⟨g,o,A1,n1,c1,rfl,k0,hF⟩:=hH.out.at_ hin
   have hn1 : n = n1:=by rw [<- hF.len];exact (hm.out i hin).symm
   subst hn1;obtain ⟨gy,oy,xn,xA,xk,xc,xm,xB,xj,xd,rfl,⟨x0,x1,x2,x3⟩,hXf⟩:=hVH.out.at_ hin;have hlt : Hid (∀ s ∈ L,s.g < wr.heap.size):=Za (fun s hs=>(hM.2.1 s hs).1.1.lt);have hqlen : Hid ((Q[i]?.getD []).length = n):=Za (hm.out i hin);obtain ⟨ovA,ovn,ovc,rfl⟩:=hM.1.isSlC;replace hM:=Za hM;replace hF:=Za hF;replace hXf:=Za hXf;have y0:=Zc hB k0;have y1:=Zc hB x0;have y2:=Zc hB x1;have y3:=Zc hB x2;have y4:=Zc hB x3;go_wp2_with fail;obtain ⟨X0,hX0⟩ : ∃ X,wr.drew = X:=⟨_,rfl⟩
   have hr0 : Below wr.heap.size wr X0:=by rw [<- hX0];exact Zh (Below.refl _ _) 1
   have hSv : Hid (∀ wx,Below w.heap.size w wx -> wx.cell? ⟨g,o + i,none⟩ = some (.slice A1 n c1) /\ wx.cell? ⟨gy,oy + i * 4,none⟩ = some (.bool xn) /\ wx.cell? ⟨gy,oy + i * 4 + 1,none⟩ = some (.slice xA xk xc) /\ wx.cell? ⟨gy,oy + i * 4 + 2,none⟩ = some (.bool xm) /\ wx.cell? ⟨gy,oy + i * 4 + 3,none⟩ = some (.slice xB xj xd)):=Za (fun wx hbx=>⟨Zc hbx k0,Zc hbx x0,Zc hbx x1,Zc hbx x2,Zc hbx x3⟩);have hw0 : Below w.heap.size w X0:=hB.trans (hr0.mono hB.size);refine wp_heldS [] hmx hSv (by rw [hX0];exact hw0) (fun hxs=>?_);rw [hX0];clear y0 y1 y2 y3 y4;refine Zty 9 [0,2,3,4,5,7,8,9,10] rfl (by kernel_rfl) (hSv.out _ hw0) ?_
   iterate 9 (refine tk1 (v:=?_) rfl (Or.inl ⟨by kernel_rfl,?_⟩) ?_;rotate_left;(· intro W2 hSw;(try dsimp only at hSw);go_simp;try with_reducible rfl);try simp only [Act.put,putL_a,putL_z,putL_s,putG_a,putG_s,putG_z])
   refine tk0 ?_;refine Zb3 (i:=1) (j:=11) rfl rfl (by kernel_rfl) (fun K hK=>?_) (fun K hK=>?_)
   ·obtain ⟨Y1,hY1⟩ : ∃ Y,X0.alloc (.cells #[] 29) = Y:=⟨_,rfl⟩
    obtain ⟨ga2,hga2⟩ : ∃ g,X0.heap.size = g:=⟨_,rfl⟩
    have hBY1 : Below X0.heap.size X0 Y1:=by rw [<- hY1];exact (Below.refl _ _).alloc (Nat.le_refl _) _
    have hbl3 : Blk Y1 ga2 29 #[]:=by rw [<- hY1,<- hga2];exact Blk.new _ _ _
    have hgeY1 : wr.heap.size <= ga2:=by rw [<- hga2];exact hr0.size
    have hrY1:=hr0.trans (hBY1.mono hr0.size);have hwY1 : Below w.heap.size w Y1:=hB.trans (hrY1.mono hB.size);have hOY1 : OwnF 29 Y1 wr.heap.size (.slice (some ⟨ga2,0,none⟩) 0 0) []:=⟨[],.inr ⟨ga2,0,rfl,hgeY1,Nat.zero_le _,hbl3⟩,fun e he=>(by cases he),rfl⟩;go_simp;(try rw [hY1]);(try rw [hga2]);refine hK.out _ _ (fun _=>hSv.out _ hwY1) ?_;clear hK K hY1 hga2
    try simp only [Act.put,putL_a,putL_z,putL_s]
    refine Zb3 (i:=6) (j:=11) rfl rfl (by kernel_rfl) (fun K hK=>?_) (fun K hK=>?_)
    ·obtain ⟨fsY4,hRY4,hflY4,hfeY4,hfqY4⟩:=(hF.out.below (hB.trans (hrY1.mono hB.size))).reads
     rw [if_pos (by rfl)];refine Z4 _ (.tmp 24) (.tmp 28) 23 rfl wr.heap.size 29 iF Tryz.underlying23 hi hz0 hz1 hz2 (.slice (some ⟨ga2,0,none⟩) 0 0) [] rfl hOY1 _ _ _ _ fsY4 rfl hRY4 hflY4 hfeY4 (by simp;omega) hrY1.size ?_;intro vY4 Y4 hOY4 hgY4 hkY4 hw2Y4;rw [List.nil_append,hfqY4] at hOY4;have hrY4:=hrY1.grown hgY4 hrY1.size (fun k hk=>hOY1.row_ge k hk);have hwY4 : Below w.heap.size w Y4:=hB.trans (hrY4.mono hB.size);refine hK.out _ _ (fun _=>hSv.out _ hwY4) ?_;clear hK K
     try simp only [Act.put,putL_a,putL_z,putL_s]
     refine Ze (i:=11) rfl (by kernel_rfl) (fun K hK=>?_);obtain ⟨Y5,hY5⟩ : ∃ Y,Y4.alloc (.cells #[.bool xn,.slice xA xk xc,.bool xm,.slice xB xj xd] 29) = Y:=⟨_,rfl⟩;obtain ⟨ga6,hga6⟩ : ∃ g,Y4.heap.size = g:=⟨_,rfl⟩
     have hBY5 : Below Y4.heap.size Y4 Y5:=by rw [<- hY5];exact (Below.refl _ _).alloc (Nat.le_refl _) _
     have hbl7 : Blk Y5 ga6 29 #[.bool xn,.slice xA xk xc,.bool xm,.slice xB xj xd]:=by rw [<- hY5,<- hga6];exact Blk.new _ _ _
     have hgeY5 : wr.heap.size <= ga6:=by rw [<- hga6];exact hrY4.size
     have hrY5:=hrY4.trans (hBY5.mono hrY4.size);have hwY5 : Below w.heap.size w Y5:=hB.trans (hrY5.mono hB.size);have hOY4Y5:=hOY4.kept hBY5;go_simp;(try rw [hY5]);(try rw [hga6]);refine hK.out _ _ (fun _=>hSv.out _ hwY5) ?_;clear hK K hY5 hga6
     try simp only [Act.put,putL_a,putL_z,putL_s]
     refine Ze (i:=12) rfl (by kernel_rfl) (fun K hK=>?_);rw [if_pos (by rfl)];obtain ⟨zA,zc,hvz,hFz⟩:=hOY4Y5.fl;rw [hqlen.out] at hvz hFz;subst hvz;refine Z4 _ (.tmp 29) (.tmp 34) 23 rfl wr.heap.size 29 iF Tryz.underlying23 hi hz0 hz1 hz2 (.slice zA n zc) _ rfl hOY4Y5 _ (some ⟨ga6,0,none⟩) 1 1 [⟨xn,xA,xk,xc,xm,xB,xj,xd,xs[i]?.getD 0⟩] rfl (Zal _ hbl7) rfl (by intro e he;rw [List.mem_singleton] at he;subst he;exact hXf.out.below (hB.trans (hrY5.mono hB.size))) (by rw [hqlen.out];omega) hrY5.size ?_;intro vQ Y8 hOY8 hgY8 hkY8 hw2Y8;simp only [List.map_cons,List.map_nil] at hOY8;have hrY8:=hrY5.grown hgY8 hrY5.size (fun k hk=>hOY4Y5.row_ge k hk);have hwY8 : Below w.heap.size w Y8:=hB.trans (hrY8.mono hB.size)
     rcases hOY8.fown with ⟨-,hnilq⟩ | ⟨g2,c2,rfl,hg2',hc21,hc22,hF2⟩
     ·simp at hnilq
     have hqn : (Q[i]?.getD [] ++ [xs[i]?.getD 0]).length = n + 1:=by rw [List.length_append,hqlen.out];rfl
     rw [hqn] at hc21 ⊢;refine hK.out _ _ (fun _=>hSv.out _ hwY8) ?_;clear hK K
     try simp only [Act.put,putL_a,putL_z,putL_s]
     obtain ⟨Z1,hZ1⟩ : ∃ Z,Y8.alloc (.cells #[.slice (some ⟨g2,0,none⟩) (n + 1) c2] 23) = Z:=⟨_,rfl⟩;obtain ⟨gz,hgz⟩ : ∃ g,Y8.heap.size = g:=⟨_,rfl⟩
     have hBZ : Below Y8.heap.size Y8 Z1:=by rw [<- hZ1];exact (Below.refl _ _).alloc (Nat.le_refl _) _
     have hbZ : Blk Z1 gz 23 #[.slice (some ⟨g2,0,none⟩) (n + 1) c2]:=by rw [<- hZ1,<- hgz];exact Blk.new _ _ _
     have hrZ:=hrY8.trans (hBZ.mono hrY8.size);have hwZ : Below w.heap.size w Z1:=hB.trans (hrZ.mono hB.size);refine Ze (i:=13) rfl (by kernel_rfl) (fun K hK=>?_);go_simp;(try rw [hZ1]);(try rw [hgz]);refine hK.out _ _ (fun _=>hSv.out _ hwZ) ?_;clear hK K hZ1 hgz
     try simp only [Act.put,putL_a,putL_z,putL_s]
     have hMZ:=hM.out.kept hrZ;have hFZ:=hF2.below hBZ
     have hll : (L.map RF.rs).length + 1 <= 1000:=by rw [List.length_map];omega
     refine Ze (i:=14) rfl (by kernel_rfl) (fun K hK=>?_);rw [if_pos (by rfl)];refine Zau _ (.tmp 23) (.tmp 36) 22 rfl w.heap.size 23 iS Tryz.underlying22 ki kz0 kz1 kz2 _ (L.map RF.rs) rfl hMZ.1 _ (some ⟨gz,0,none⟩) 1 1 [⟨some ⟨g2,0,none⟩,n + 1,c2⟩] rfl (Zhd hbZ) rfl hll hwZ.size ?_;intro v5 w5 hR5 hg5 hk5;have hw5:=hwZ.grown hg5 hwZ.size (fun k hk=>hMZ.1.row_ge k hk)
     have hnew : ∀ s ∈ L,s.g ≠ g2:=fun s hs=>by have:=hlt.out s hs;omega
     have hM5:=Za (hMZ.snoc hne (r:=⟨g2,c2,Q[i]?.getD [] ++ [xs[i]?.getD 0]⟩) ⟨hFZ,by rw [hqn];exact hc21,hc22⟩ (Nat.le_trans hB.size hg2') hnew (by simp only [RF.rs,hqn];exact hR5) hg5 hk5);have hQ5 : Hid (L.map RF.q ++ [Q[i]?.getD [] ++ [xs[i]?.getD 0]] = R.take (i + 1)):=Za (by rw [hQ.out,List.take_add_one,hRat.out i hin];rfl);refine hK.out _ _ (fun _=>hSv.out _ hw5) ?_;clear hK K
     try simp only [Act.put,putL_a,putL_z,putL_s]
     refine Ztx 1 [15] rfl (by kernel_rfl) (hSv.out _ hw5) ?_
     (refine tk1 (v:=?_) rfl (Or.inl ⟨by kernel_rfl,?_⟩) ?_;rotate_left;(· intro W2 _;go_simp;try with_reducible rfl);try simp only [Act.put,putL_a,putL_z,putL_s,putG_a,putG_s,putG_z])
     refine tk0 ?_;refine Zj (by kernel_rfl) ?_ _;refine OnlyNormal.normal ?_;go_wp2_with fail
     go_roundg (n - (i + 1))
     case measure=>omega
     case rel=>exact ⟨i + 1,_,by omega,by go_num,hM5.out,Za (by rw [List.map_append];exact hQ5.out),hw5⟩
    ·obtain ⟨Y10,hY10⟩ : ∃ Y,Y1.alloc (.cells #[.bool xn,.slice xA xk xc,.bool xm,.slice xB xj xd] 29) = Y:=⟨_,rfl⟩
     obtain ⟨ga11,hga11⟩ : ∃ g,Y1.heap.size = g:=⟨_,rfl⟩
     have hBY10 : Below Y1.heap.size Y1 Y10:=by rw [<- hY10];exact (Below.refl _ _).alloc (Nat.le_refl _) _
     have hbl12 : Blk Y10 ga11 29 #[.bool xn,.slice xA xk xc,.bool xm,.slice xB xj xd]:=by rw [<- hY10,<- hga11];exact Blk.new _ _ _
     have hgeY10 : wr.heap.size <= ga11:=by rw [<- hga11];exact hrY1.size
     have hrY10:=hrY1.trans (hBY10.mono hrY1.size);have hwY10 : Below w.heap.size w Y10:=hB.trans (hrY10.mono hB.size);have hdd : Hid (ga2 < ga11):=Za (by rw [<- hga11];have h9:=hOY1.blt ga2 (by simp [Value.ownBlock]);exact h9);have hOY1Y10:=hOY1.kept hBY10;go_simp;(try rw [hY10]);(try rw [hga11]);refine hK.out _ _ (fun _=>hSv.out _ hwY10) ?_;clear hK K hY10 hga11
     try simp only [Act.put,putL_a,putL_z,putL_s]
     refine Ze (i:=6) rfl (by kernel_rfl) (fun K hK=>?_);obtain ⟨fsY13,hRY13,hflY13,hfeY13,hfqY13⟩:=(hF.out.below (hB.trans (hrY10.mono hB.size))).reads;rw [if_pos (by rfl)];refine Z4 _ (.tmp 24) (.tmp 28) 23 rfl wr.heap.size 29 iF Tryz.underlying23 hi hz0 hz1 hz2 (.slice (some ⟨ga2,0,none⟩) 0 0) [] rfl hOY1Y10 _ _ _ _ fsY13 rfl hRY13 hflY13 hfeY13 (by simp;omega) hrY10.size ?_;intro vY13 Y13 hOY13 hgY13 hkY13 hw2Y13;rw [List.nil_append,hfqY13] at hOY13;have hrY13:=hrY10.grown hgY13 hrY10.size (fun k hk=>hOY1Y10.row_ge k hk);have hwY13 : Below w.heap.size w Y13:=hB.trans (hrY13.mono hB.size);have hbl12Y13 : Blk Y13 ga11 29 #[.bool xn,.slice xA xk xc,.bool xm,.slice xB xj xd]:=(hgY13.block ga11 hbl12.lt (fun e=>by simp [Value.ownBlock] at e;have:=hdd.out;omega)).trans hbl12;refine hK.out _ _ (fun _=>hSv.out _ hwY13) ?_;clear hK K
     try simp only [Act.put,putL_a,putL_z,putL_s]
     refine Ze (i:=12) rfl (by kernel_rfl) (fun K hK=>?_);rw [if_pos (by rfl)];obtain ⟨zA,zc,hvz,hFz⟩:=hOY13.fl;rw [hqlen.out] at hvz hFz;subst hvz;refine Z4 _ (.tmp 29) (.tmp 34) 23 rfl wr.heap.size 29 iF Tryz.underlying23 hi hz0 hz1 hz2 (.slice zA n zc) _ rfl hOY13 _ (some ⟨ga11,0,none⟩) 1 1 [⟨xn,xA,xk,xc,xm,xB,xj,xd,xs[i]?.getD 0⟩] rfl (Zal _ hbl12Y13) rfl (by intro e he;rw [List.mem_singleton] at he;subst he;exact hXf.out.below (hB.trans (hrY13.mono hB.size))) (by rw [hqlen.out];omega) hrY13.size ?_;intro vQ Y14 hOY14 hgY14 hkY14 hw2Y14;simp only [List.map_cons,List.map_nil] at hOY14;have hrY14:=hrY13.grown hgY14 hrY13.size (fun k hk=>hOY13.row_ge k hk);have hwY14 : Below w.heap.size w Y14:=hB.trans (hrY14.mono hB.size)
     rcases hOY14.fown with ⟨-,hnilq⟩ | ⟨g2,c2,rfl,hg2',hc21,hc22,hF2⟩
     ·simp at hnilq
     have hqn : (Q[i]?.getD [] ++ [xs[i]?.getD 0]).length = n + 1:=by rw [List.length_append,hqlen.out];rfl
     rw [hqn] at hc21 ⊢;refine hK.out _ _ (fun _=>hSv.out _ hwY14) ?_;clear hK K
     try simp only [Act.put,putL_a,putL_z,putL_s]
     obtain ⟨Z1,hZ1⟩ : ∃ Z,Y14.alloc (.cells #[.slice (some ⟨g2,0,none⟩) (n + 1) c2] 23) = Z:=⟨_,rfl⟩;obtain ⟨gz,hgz⟩ : ∃ g,Y14.heap.size = g:=⟨_,rfl⟩
     have hBZ : Below Y14.heap.size Y14 Z1:=by rw [<- hZ1];exact (Below.refl _ _).alloc (Nat.le_refl _) _
     have hbZ : Blk Z1 gz 23 #[.slice (some ⟨g2,0,none⟩) (n + 1) c2]:=by rw [<- hZ1,<- hgz];exact Blk.new _ _ _
     have hrZ:=hrY14.trans (hBZ.mono hrY14.size);have hwZ : Below w.heap.size w Z1:=hB.trans (hrZ.mono hB.size);refine Ze (i:=13) rfl (by kernel_rfl) (fun K hK=>?_);go_simp;(try rw [hZ1]);(try rw [hgz]);refine hK.out _ _ (fun _=>hSv.out _ hwZ) ?_;clear hK K hZ1 hgz
     try simp only [Act.put,putL_a,putL_z,putL_s]
     have hMZ:=hM.out.kept hrZ;have hFZ:=hF2.below hBZ
     have hll : (L.map RF.rs).length + 1 <= 1000:=by rw [List.length_map];omega
     refine Ze (i:=14) rfl (by kernel_rfl) (fun K hK=>?_);rw [if_pos (by rfl)];refine Zau _ (.tmp 23) (.tmp 36) 22 rfl w.heap.size 23 iS Tryz.underlying22 ki kz0 kz1 kz2 _ (L.map RF.rs) rfl hMZ.1 _ (some ⟨gz,0,none⟩) 1 1 [⟨some ⟨g2,0,none⟩,n + 1,c2⟩] rfl (Zhd hbZ) rfl hll hwZ.size ?_;intro v5 w5 hR5 hg5 hk5;have hw5:=hwZ.grown hg5 hwZ.size (fun k hk=>hMZ.1.row_ge k hk)
     have hnew : ∀ s ∈ L,s.g ≠ g2:=fun s hs=>by have:=hlt.out s hs;omega
     have hM5:=Za (hMZ.snoc hne (r:=⟨g2,c2,Q[i]?.getD [] ++ [xs[i]?.getD 0]⟩) ⟨hFZ,by rw [hqn];exact hc21,hc22⟩ (Nat.le_trans hB.size hg2') hnew (by simp only [RF.rs,hqn];exact hR5) hg5 hk5);have hQ5 : Hid (L.map RF.q ++ [Q[i]?.getD [] ++ [xs[i]?.getD 0]] = R.take (i + 1)):=Za (by rw [hQ.out,List.take_add_one,hRat.out i hin];rfl);refine hK.out _ _ (fun _=>hSv.out _ hw5) ?_;clear hK K
     try simp only [Act.put,putL_a,putL_z,putL_s]
     refine Ztx 1 [15] rfl (by kernel_rfl) (hSv.out _ hw5) ?_
     (refine tk1 (v:=?_) rfl (Or.inl ⟨by kernel_rfl,?_⟩) ?_;rotate_left;(· intro W2 _;go_simp;try with_reducible rfl);try simp only [Act.put,putL_a,putL_z,putL_s,putG_a,putG_s,putG_z])
     refine tk0 ?_;refine Zj (by kernel_rfl) ?_ _;refine OnlyNormal.normal ?_;go_wp2_with fail
     go_roundg (n - (i + 1))
     case measure=>omega
     case rel=>exact ⟨i + 1,_,by omega,by go_num,hM5.out,Za (by rw [List.map_append];exact hQ5.out),hw5⟩
   ·obtain ⟨Y16,hY16⟩ : ∃ Y,X0.alloc (.cells #[.bool xn,.slice xA xk xc,.bool xm,.slice xB xj xd] 29) = Y:=⟨_,rfl⟩
    obtain ⟨ga17,hga17⟩ : ∃ g,X0.heap.size = g:=⟨_,rfl⟩
    have hBY16 : Below X0.heap.size X0 Y16:=by rw [<- hY16];exact (Below.refl _ _).alloc (Nat.le_refl _) _
    have hbl18 : Blk Y16 ga17 29 #[.bool xn,.slice xA xk xc,.bool xm,.slice xB xj xd]:=by rw [<- hY16,<- hga17];exact Blk.new _ _ _
    have hgeY16 : wr.heap.size <= ga17:=by rw [<- hga17];exact hr0.size
    have hrY16:=hr0.trans (hBY16.mono hr0.size);have hwY16 : Below w.heap.size w Y16:=hB.trans (hrY16.mono hB.size);go_simp;(try rw [hY16]);(try rw [hga17]);refine hK.out _ _ (fun _=>hSv.out _ hwY16) ?_;clear hK K hY16 hga17
    try simp only [Act.put,putL_a,putL_z,putL_s]
    refine Ze (i:=1) rfl (by kernel_rfl) (fun K hK=>?_);obtain ⟨Y19,hY19⟩ : ∃ Y,Y16.alloc (.cells #[] 29) = Y:=⟨_,rfl⟩;obtain ⟨ga20,hga20⟩ : ∃ g,Y16.heap.size = g:=⟨_,rfl⟩
    have hBY19 : Below Y16.heap.size Y16 Y19:=by rw [<- hY19];exact (Below.refl _ _).alloc (Nat.le_refl _) _
    have hbl21 : Blk Y19 ga20 29 #[]:=by rw [<- hY19,<- hga20];exact Blk.new _ _ _
    have hgeY19 : wr.heap.size <= ga20:=by rw [<- hga20];exact hrY16.size
    have hrY19:=hrY16.trans (hBY19.mono hrY16.size);have hwY19 : Below w.heap.size w Y19:=hB.trans (hrY19.mono hB.size);have hdd : Hid (ga17 < ga20):=Za (by rw [<- hga20];exact hbl18.lt);have hbl18Y19:=Zb hBY19 hbl18;have hOY19 : OwnF 29 Y19 wr.heap.size (.slice (some ⟨ga20,0,none⟩) 0 0) []:=⟨[],.inr ⟨ga20,0,rfl,hgeY19,Nat.zero_le _,hbl21⟩,fun e he=>(by cases he),rfl⟩;go_simp;(try rw [hY19]);(try rw [hga20]);refine hK.out _ _ (fun _=>hSv.out _ hwY19) ?_;clear hK K hY19 hga20
    try simp only [Act.put,putL_a,putL_z,putL_s]
    refine Ze (i:=6) rfl (by kernel_rfl) (fun K hK=>?_);obtain ⟨fsY22,hRY22,hflY22,hfeY22,hfqY22⟩:=(hF.out.below (hB.trans (hrY19.mono hB.size))).reads;rw [if_pos (by rfl)];refine Z4 _ (.tmp 24) (.tmp 28) 23 rfl wr.heap.size 29 iF Tryz.underlying23 hi hz0 hz1 hz2 (.slice (some ⟨ga20,0,none⟩) 0 0) [] rfl hOY19 _ _ _ _ fsY22 rfl hRY22 hflY22 hfeY22 (by simp;omega) hrY19.size ?_;intro vY22 Y22 hOY22 hgY22 hkY22 hw2Y22;rw [List.nil_append,hfqY22] at hOY22;have hrY22:=hrY19.grown hgY22 hrY19.size (fun k hk=>hOY19.row_ge k hk);have hwY22 : Below w.heap.size w Y22:=hB.trans (hrY22.mono hB.size);have hbl18Y19Y22 : Blk Y22 ga17 29 #[.bool xn,.slice xA xk xc,.bool xm,.slice xB xj xd]:=(hgY22.block ga17 hbl18Y19.lt (fun e=>by simp [Value.ownBlock] at e;have:=hdd.out;omega)).trans hbl18Y19;refine hK.out _ _ (fun _=>hSv.out _ hwY22) ?_;clear hK K
    try simp only [Act.put,putL_a,putL_z,putL_s]
    refine Ze (i:=12) rfl (by kernel_rfl) (fun K hK=>?_);rw [if_pos (by rfl)];obtain ⟨zA,zc,hvz,hFz⟩:=hOY22.fl;rw [hqlen.out] at hvz hFz;subst hvz;refine Z4 _ (.tmp 29) (.tmp 34) 23 rfl wr.heap.size 29 iF Tryz.underlying23 hi hz0 hz1 hz2 (.slice zA n zc) _ rfl hOY22 _ (some ⟨ga17,0,none⟩) 1 1 [⟨xn,xA,xk,xc,xm,xB,xj,xd,xs[i]?.getD 0⟩] rfl (Zal _ hbl18Y19Y22) rfl (by intro e he;rw [List.mem_singleton] at he;subst he;exact hXf.out.below (hB.trans (hrY22.mono hB.size))) (by rw [hqlen.out];omega) hrY22.size ?_;intro vQ Y23 hOY23 hgY23 hkY23 hw2Y23;simp only [List.map_cons,List.map_nil] at hOY23;have hrY23:=hrY22.grown hgY23 hrY22.size (fun k hk=>hOY22.row_ge k hk);have hwY23 : Below w.heap.size w Y23:=hB.trans (hrY23.mono hB.size)
    rcases hOY23.fown with ⟨-,hnilq⟩ | ⟨g2,c2,rfl,hg2',hc21,hc22,hF2⟩
    ·simp at hnilq
    have hqn : (Q[i]?.getD [] ++ [xs[i]?.getD 0]).length = n + 1:=by rw [List.length_append,hqlen.out];rfl
    rw [hqn] at hc21 ⊢;refine hK.out _ _ (fun _=>hSv.out _ hwY23) ?_;clear hK K
    try simp only [Act.put,putL_a,putL_z,putL_s]
    obtain ⟨Z1,hZ1⟩ : ∃ Z,Y23.alloc (.cells #[.slice (some ⟨g2,0,none⟩) (n + 1) c2] 23) = Z:=⟨_,rfl⟩;obtain ⟨gz,hgz⟩ : ∃ g,Y23.heap.size = g:=⟨_,rfl⟩
    have hBZ : Below Y23.heap.size Y23 Z1:=by rw [<- hZ1];exact (Below.refl _ _).alloc (Nat.le_refl _) _
    have hbZ : Blk Z1 gz 23 #[.slice (some ⟨g2,0,none⟩) (n + 1) c2]:=by rw [<- hZ1,<- hgz];exact Blk.new _ _ _
    have hrZ:=hrY23.trans (hBZ.mono hrY23.size);have hwZ : Below w.heap.size w Z1:=hB.trans (hrZ.mono hB.size);refine Ze (i:=13) rfl (by kernel_rfl) (fun K hK=>?_);go_simp;(try rw [hZ1]);(try rw [hgz]);refine hK.out _ _ (fun _=>hSv.out _ hwZ) ?_;clear hK K hZ1 hgz
    try simp only [Act.put,putL_a,putL_z,putL_s]
    have hMZ:=hM.out.kept hrZ;have hFZ:=hF2.below hBZ
    have hll : (L.map RF.rs).length + 1 <= 1000:=by rw [List.length_map];omega
    refine Ze (i:=14) rfl (by kernel_rfl) (fun K hK=>?_);rw [if_pos (by rfl)];refine Zau _ (.tmp 23) (.tmp 36) 22 rfl w.heap.size 23 iS Tryz.underlying22 ki kz0 kz1 kz2 _ (L.map RF.rs) rfl hMZ.1 _ (some ⟨gz,0,none⟩) 1 1 [⟨some ⟨g2,0,none⟩,n + 1,c2⟩] rfl (Zhd hbZ) rfl hll hwZ.size ?_;intro v5 w5 hR5 hg5 hk5;have hw5:=hwZ.grown hg5 hwZ.size (fun k hk=>hMZ.1.row_ge k hk)
    have hnew : ∀ s ∈ L,s.g ≠ g2:=fun s hs=>by have:=hlt.out s hs;omega
    have hM5:=Za (hMZ.snoc hne (r:=⟨g2,c2,Q[i]?.getD [] ++ [xs[i]?.getD 0]⟩) ⟨hFZ,by rw [hqn];exact hc21,hc22⟩ (Nat.le_trans hB.size hg2') hnew (by simp only [RF.rs,hqn];exact hR5) hg5 hk5);have hQ5 : Hid (L.map RF.q ++ [Q[i]?.getD [] ++ [xs[i]?.getD 0]] = R.take (i + 1)):=Za (by rw [hQ.out,List.take_add_one,hRat.out i hin];rfl);refine hK.out _ _ (fun _=>hSv.out _ hw5) ?_;clear hK K
    try simp only [Act.put,putL_a,putL_z,putL_s]
    refine Ztx 1 [15] rfl (by kernel_rfl) (hSv.out _ hw5) ?_
    (refine tk1 (v:=?_) rfl (Or.inl ⟨by kernel_rfl,?_⟩) ?_;rotate_left;(· intro W2 _;go_simp;try with_reducible rfl);try simp only [Act.put,putL_a,putL_z,putL_s,putG_a,putG_s,putG_z])
    refine tk0 ?_;refine Zj (by kernel_rfl) ?_ _;refine OnlyNormal.normal ?_;go_wp2_with fail
    go_roundg (n - (i + 1))
    case measure=>omega
    case rel=>exact ⟨i + 1,_,by omega,by go_num,hM5.out,Za (by rw [List.map_append];exact hQ5.out),hw5⟩
  | zero =>
   obtain rfl : n = i:=by omega
   have t1 : decide ((n : Int) < (n : Int)) = false:=by simp
   have hQn : L.map RF.q = R:=by rw [hQ.out];exact List.take_of_length_le (by rw [hRl.out];exact Nat.le_refl _)
   obtain ⟨go,cap,rfl,hc1,hc2,hgo,hMB,hgs⟩:=hM.mat hne (fun e=>by rw [e] at hLl;simp at hLl;omega);rw [hLl] at hc1;simp only [hLl];unfold maxLen at hc2
   have hgG : Hid (∀ k,k ∈ L.map RF.g -> w.heap.size <= k):=Za (fun k hk=>by
    obtain ⟨r,hr,rfl⟩:=List.mem_map.1 hk
    exact hgs r hr)
   have hgoL : Hid (go ∉ L.map RF.g):=Za (List.nodup_cons.1 hMB.2.2).1;obtain ⟨w1,rfl⟩ : ∃ x : World,x = wr:=⟨_,rfl⟩;have hGX : Hid (∀ k,k ∈ L.map RF.g -> ∃ t cs,Blk w1 k t cs /\ NoLimb cs):=Za (fun k hk=>hMB.boxes k (.inr hk));have hgow : Hid (go < w1.heap.size):=Za (by obtain ⟨t,cs,hb,-⟩:=hMB.boxes go (.inl rfl);exact hb.lt);have hQn':=Za hQn;replace hMB:=Za hMB;replace hLl:=Za hLl;replace hB:=Za hB;clear hM hQ hQn hgs;go_wp2_with fail
   go_loopg [9] n (fun k iv wr=>∃ (p : Nat) (L1 : List RF),p + k = n /\ iv = .int .i64 p /\ MatB 23 29 wr go L1 /\ Hid (L1.length = n) /\ Hid (L1.map RF.g = L.map RF.g) /\ Hid (L1.map RF.c = L.map RF.c) /\ Hid (L1.map RF.q = Zef R p) /\ Hid (posP AR p) /\ Kept (fun g=>g ∈ L.map RF.g) w1 wr)
   case atStart=>exact ⟨0,L,by omega,rfl,hMB.out,hLl,Za rfl,Za rfl,Za hQn'.out,Za (fun t ht=>by omega),Kept.refl _ _⟩
   case round =>
    clear hMB;obtain ⟨wp_,rfl⟩ : ∃ x : World,x = wr:=⟨_,rfl⟩;obtain ⟨p,L1,hpk,rfl,hM,hl1,hg1,hc1',hq1,hpos,hK⟩:=hrel;have hBp : Hid (Below w.heap.size w wp_):=Za (hB.out.trans (hK.to_below hgG.out hB.out.size))
    have hE : Hid (∀ i k,i < n -> min p i <= k -> (Zbz L1 i)[k]?.getD 0 = Zz AR p i k):=Za (fun i k hi hk=>by
     rw [<- Zte,hq1.out,<- hAR.out]
     exact Zdd hRl.out hRrow.out p (by omega) i k hi hk)
    have hlen : Hid (∀ i,i < n -> (Zbz L1 i).length = n + 1):=Za (fun i hi=>by
     rw [Zja,hq1.out]
     exact Zhb hRrow.out p i (by rw [hRl.out];exact hi))
    cases gk with
    | zero =>
     obtain rfl : n = p:=by omega
     have t2 : decide ((n : Int) < (n : Int)) = false:=by simp
     have hE2 : Hid (∀ i k,i < n -> i <= k -> (Zbz L1 i)[k]?.getD 0 = Zz AR i i k):=Za (fun i k hi hk=>by rw [hE.out i k hi (by omega),Zjh (by omega)]);have hX0:=hX.out hpos.out;obtain ⟨E,hEe⟩ : ∃ E : Nat -> Nat -> Rat,(fun i j=>Zz AR i i j) = E:=⟨_,rfl⟩;rw [hEe] at hX0;have hE3 : Hid (∀ i k,i < n -> i <= k -> (Zbz L1 i)[k]?.getD 0 = E i k):=Za (fun i k hi hk=>by rw [hE2.out i k hi hk,<- hEe]);have hES : Hid (∀ i k,i < n -> SmN 380 380 (E i k)):=Za (fun i k hi=>by rw [<- hEe];exact hs.out i i k (by omega) (hpos.out.mono (by omega)) hi);have hE0 : Hid (∀ i,i < n -> E i i ≠ 0):=Za (fun i hi=>by rw [<- hEe];exact hpos.out.ne hi);obtain ⟨e1,e2,e3⟩:=hX0;replace e1:=Za e1;replace e2:=Za e2;replace e3:=Za e3;replace hEe:=Za hEe;have hmk:=makeFr (P:=Tryz.prog) 23 29 Tryz.underlying23 hi hz0 hz1 hz2 (n : Int) n rfl (by omega) wp_;obtain ⟨gO,hgO⟩ : ∃ g,wp_.heap.size = g:=⟨_,rfl⟩;obtain ⟨X2,hX2,hXB,-,-,-,sX⟩:=Z5 29 (Z3 (List.replicate n Zag)) (Below.refl wp_.heap.size wp_) (Nat.le_refl _)
     have hO : FTail 29 X2 gO n n (fun i=>X i n):=by rw [<- hX2,<- hgO];exact FTail.new _ _ _ _
     have hM2:=Za (hM.below hXB);have hBX : Hid (Below w.heap.size w X2):=Za (hBp.out.trans (hXB.mono hBp.out.size));have hgOw : Hid (w.heap.size <= gO):=Za (by rw [<- hgO];exact hBp.out.size)
     have hgoO : Hid (go ≠ gO):=Za (by
      obtain ⟨t,cs,hb,-⟩:=hM.boxes go (.inl rfl)
      have:=hb.lt;omega)
     have hgrO : Hid (∀ r ∈ L1,r.g ≠ gO):=Za (fun r hr=>by
      obtain ⟨t,cs,hb,-⟩:=hM.boxes r.g (.inr (List.mem_map.2 ⟨r,hr,rfl⟩))
      have:=hb.lt;omega)
     have hOb : Hid (∃ t cs,Blk X2 gO t cs /\ NoLimb cs):=Za hO.raw.box
     have hw1 : IntKind.i64.wrap ((n : Int) - 1) = (n : Int) - 1:=by rw [IntKind.wrap_i64];omega
     replace hO:=Za hO;replace hK:=Za hK;clear hM hXB sX;go_wp2_with fail;(try rw [hX2]);(try rw [hgO]);clear hmk hX2;replace hgO:=Za hgO
     go_loopg [14] n (fun k iv wr=>iv = .int .i64 ((k : Int) - 1) /\ k <= n /\ MatB 23 29 wr go L1 /\ FTail 29 wr gO n k (fun i=>X i n) /\ Kept (fun g=>g = gO) X2 wr)
     case atStart=>exact ⟨by go_num,Nat.le_refl _,hM2.out,hO.out,Kept.refl _ _⟩
     case round =>
      clear hM2 hO hw1;obtain ⟨wr0,rfl⟩ : ∃ x : World,x = wr:=⟨_,rfl⟩;obtain ⟨rfl,hkn,hM,hO,hK2⟩:=hrel
      cases gk with
      | zero =>
       have t3 : decide ((0 : Int) <= ((0 : Nat) : Int) - 1) = false:=by decide
       have t3' : decide ((0 : Int) <= -1) = false:=by decide
       have hfl:=Za (hO.fl (by unfold maxLen;omega));have hBe : Hid (Below w.heap.size w wr0):=Za (hBX.out.trans (hK2.to_below (fun k e=>by have:=hgOw.out;omega) hBX.out.size));have hpn:=hpos;replace hM:=Za hM;replace hK2:=Za hK2;replace hO:=Za hO;go_wp2_with fail;go_returns;exact ⟨hBe.out,.inl ⟨hpn.out,_,_,rfl,hfl.out⟩⟩
      | succ i =>
       have e9 : ((i + 1 : Nat) : Int) - 1 = (i : Int):=by omega
       rw [e9]
       have hin : i < n:=by omega
       have t3 : decide ((0 : Int) <= (i : Int)) = true:=decide_eq_true (by omega)
       have bi : (i : Int) < (n : Int):=by omega
       have bnn : (n : Int) < ((n + 1 : Nat) : Int):=by omega
       have bnn2 : (n : Int) < (n : Int) + 1:=by omega
       obtain ⟨ri,hri2⟩:=Zg5 (L:=L1) (i:=i) (by rw [hl1.out];exact hin);have hqi : ri.q = Zbz L1 i:=(Zgy hri2).symm
       have hli : ri.q.length = n + 1:=by rw [hqi];exact hlen.out i hin
       obtain ⟨ci,zi⟩:=hM.cell hri2;obtain ⟨fi,ki1,ki2⟩:=hM.row hri2;rw [hli] at ci ki1;unfold maxLen at ki2;obtain ⟨xn,xA,xk,xc,xm,xB,xj,xd,p0,p1,p2,p3,hf1⟩:=fi.at_ (i:=n) (by rw [hli];omega);rw [hqi,hE3.out i n hin (by omega)] at hf1;obtain ⟨V1,hV1,hBV1,a1,s1⟩:=Zav wr0 29 #[.bool false,.slice none 0 0,.bool false,.slice none 0 0];obtain ⟨gs,hgs⟩ : ∃ g,wr0.heap.size = g:=⟨_,rfl⟩;rw [hgs] at a1 s1;obtain ⟨u0,u1,u2,u3,v0,v1,v2,v3⟩:=a1.four;obtain ⟨W4,hW4,a4,hK4,s4⟩:=Za7 xn xA xk xc xm xB xj xd a1;have hB4 : Below wr0.heap.size wr0 W4:=hBV1.trans (hK4.to_below (fun k e=>by omega) hBV1.size);have hs4 : Hid (W4.heap.size = gs + 1):=Za (by rw [s4,s1]);have hY4:=Za (hf1.below hB4);have hM4:=Za (hM.below hB4);have hO4:=Za (hO.below hB4);have hK24 : Hid (Kept (fun g=>g = gO) X2 W4):=Za (hK2.below hB4);have hup : Hid (upS E X i n (i + 1) = E i n):=Za (Zs5 _ _ _ _ _ (Nat.le_refl _))
       have hwi : IntKind.i64.wrap ((i : Int) + 1) = ((i + 1 : Nat) : Int):=by rw [IntKind.wrap_i64];omega
       have hwi2 : IntKind.i64.wrap ((i : Int) - 1) = (i : Int) - 1:=by rw [IntKind.wrap_i64];omega
       have hgOs : Hid (gO < gs):=Za (by have:=hO.raw.lt;omega);replace hB4:=Za hB4;replace a4:=Za a4;replace hM:=Za hM;replace hO:=Za hO;replace hK2:=Za hK2;clear hf1 hBV1 hK4 s1 s4 fi hqi;go_wp2_with fail;(try rw [hgs]);(try rw [hW4]);clear u0 u1 u2 u3 v0 v1 v2 v3 a1 hV1 hW4 p0 p1 p2 p3 ci zi;replace hgs:=Za hgs
       go_loopg [16] (n - (i + 1)) (fun k kv wr=>∃ (t : Nat) (sn : Bool) (sA : Option Addr) (sk sc : Nat) (sm : Bool) (sB : Option Addr) (sj sd : Nat),t + k = n /\ kv = .int .i64 t /\ i + 1 <= t /\ Blk wr gs 29 #[.bool sn,.slice sA sk sc,.bool sm,.slice sB sj sd] /\ Hid (Fr wr sn sA sk sc sm sB sj sd (upS E X i n t)) /\ Kept (fun g=>g = gs) W4 wr)
       case atStart=>exact ⟨i + 1,_,_,_,_,_,_,_,_,by omega,by go_num,Nat.le_refl _,a4.out,Za (by rw [hup.out];exact hY4.out),Kept.refl _ _⟩
       case round =>
        clear a4 hY4 hwi;obtain ⟨wj,rfl⟩ : ∃ x : World,x = wr:=⟨_,rfl⟩;obtain ⟨t,sn,sA,sk,sc,sm,sB,sj,sd,htk,rfl,hit,hbs,hsv,hK5⟩:=hrel;have hs4':=hs4.out;have hgs':=hgs.out;have hBj : Hid (Below wr0.heap.size wr0 wj):=Za (hB4.out.trans (hK5.to_below (fun k e=>by omega) (by omega)));have hMj:=hM.out.below hBj.out;have hOj:=hO.out.below hBj.out;obtain ⟨ci,zi⟩:=hMj.cell hri2;obtain ⟨fi,-,-⟩:=hMj.row hri2;rw [hli] at ci;have hqi : ri.q = Zbz L1 i:=(Zgy hri2).symm;obtain ⟨s0,s1,s2,s3,y0,y1,y2,y3⟩:=hbs.four
        cases gk with
        | succ k' =>
         obtain rfl : k' = n - (t + 1):=by omega
         have htn : t < n:=by omega
         have t4 : decide ((t : Int) < (n : Int)) = true:=decide_eq_true (by omega)
         have bt : (t : Int) < (n : Int):=by omega
         have bt1 : (t : Int) < ((n + 1 : Nat) : Int):=by omega
         have bt2 : (t : Int) < (n : Int) + 1:=by omega
         obtain ⟨an,aA,ak,ac,am,aB,aj,ad,p0,p1,p2,p3,hfa⟩:=fi.at_ (i:=t) (by rw [hli];omega);rw [hqi,hE3.out i t hin (by omega)] at hfa;obtain ⟨on_,oA,ok,oc,om,oB,oj,od,o0,o1,o2,o3,hfo⟩:=hOj.at_ (j:=t) hit htn;have sa:=(hES.out i t hin).sm (i:=380) (by decide) (by decide);have sx:=(e2.out t).sm (i:=300) (by decide) (by decide);have sp : Sm (E i t * X t n):=((hES.out i t hin).mulN (e2.out t)).sm (by decide) (by decide);have su:=(e3.out i t).sm (i:=400) (by decide) (by decide);clear fi hMj hOj;go_wp2_with fail;obtain ⟨X0,hX0⟩ : ∃ X,wj.drew = X:=⟨_,rfl⟩
         have hr1 : Below wj.heap.size wj X0:=by rw [<- hX0];exact Zh (Below.refl _ _) 1
         have hSv1 : Hid (∀ wx,Below wj.heap.size wj wx -> wx.cell? ⟨gs,0,none⟩ = some (.bool sn) /\ wx.cell? ⟨gs,1,none⟩ = some (.slice sA sk sc) /\ wx.cell? ⟨gs,2,none⟩ = some (.bool sm) /\ wx.cell? ⟨gs,3,none⟩ = some (.slice sB sj sd) /\ wx.cell? ⟨go,i,none⟩ = some (.slice (some ⟨ri.g,0,none⟩) (n + 1) ri.c) /\ wx.cell? ⟨ri.g,t * 4,none⟩ = some (.bool an) /\ wx.cell? ⟨ri.g,t * 4 + 1,none⟩ = some (.slice aA ak ac) /\ wx.cell? ⟨ri.g,t * 4 + 2,none⟩ = some (.bool am) /\ wx.cell? ⟨ri.g,t * 4 + 3,none⟩ = some (.slice aB aj ad) /\ wx.cell? ⟨gO,t * 4,none⟩ = some (.bool on_) /\ wx.cell? ⟨gO,t * 4 + 1,none⟩ = some (.slice oA ok oc) /\ wx.cell? ⟨gO,t * 4 + 2,none⟩ = some (.bool om) /\ wx.cell? ⟨gO,t * 4 + 3,none⟩ = some (.slice oB oj od)):=Za (fun wx hbx=>⟨Zc hbx s0,Zc hbx s1,Zc hbx s2,Zc hbx s3,Zc hbx ci,Zc hbx p0,Zc hbx p1,Zc hbx p2,Zc hbx p3,Zc hbx o0,Zc hbx o1,Zc hbx o2,Zc hbx o3⟩);refine wp_heldS [14] hmx hSv1 (by rw [hX0];exact hr1) (fun hxs=>?_);rw [hX0];refine Zty 12 [0,1,2,3,4,5,6,7,8,9,10,11] rfl (by kernel_rfl) (hSv1.out _ hr1) ?_
         iterate 12 (refine tk1 (v:=?_) rfl (Or.inl ⟨by kernel_rfl,?_⟩) ?_;rotate_left;(· intro W2 hSw;(try dsimp only at hSw);go_simp;try with_reducible rfl);try simp only [Act.put,putL_a,putL_z,putL_s,putG_a,putG_s,putG_z])
         refine tk0 ?_;refine Ze (i:=12) rfl (by kernel_rfl) (fun K hK=>?_);go_simp;refine (Zhu an aA ak ac am aB aj ad on_ oA ok oc om oB oj od _ _ X0 (hfa.below hr1) (hfo.below hr1) sa sx).mono ?_;rintro e wq0 ⟨hbq0,yn,yA,yk,yc,ym,yB,yj,yd,rfl,hy⟩;have hrq0:=hr1.trans (hbq0.mono hr1.size);refine hK.out _ _ (fun _=>hSv1.out _ hrq0) ?_;clear hK K
         try simp only [Act.put,putL_a,putL_z,putL_s]
         refine Ze (i:=13) rfl (by kernel_rfl) (fun K hK=>?_);go_simp;refine (Zh0 sn sA sk sc sm sB sj sd yn yA yk yc ym yB yj yd _ _ wq0 (hsv.out.below hrq0) hy su sp).mono ?_;rintro e wq1 ⟨hbq1,zn,zA,zk,zc,zm,zB,zj,zd,rfl,hz⟩;have hrq1:=hrq0.trans (hbq1.mono hrq0.size);refine hK.out _ _ (fun _=>hSv1.out _ hrq1) ?_;clear hK K
         try simp only [Act.put,putL_a,putL_z,putL_s]
         have hbt:=Zb hrq1 hbs;obtain ⟨f0,f1,f2,f3,g0',g1',g2',g3'⟩:=hbt.four;obtain ⟨W7,hW7,p7,hK7,s7⟩:=Za7 zn zA zk zc zm zB zj zd hbt;have hU7:=Za (hz.keptN hK7 hbt (Zbt _ _ _ _ _ _ _ _));have hK8 : Hid (Kept (fun g=>g = gs) W4 W7):=Za ((hK5.below hrq1).trans hK7);replace p7:=Za p7;clear hK7 hz hy;refine Zt (i:=14) rfl (by kernel_rfl) (by kernel_rfl) (fun K hK=>?_);go_simp;(try rw [hW7]);refine hK.out _ _ ?_;clear hK K
         try simp only [Act.put,putL_a,putL_z,putL_s]
         refine Zj (by kernel_rfl) ?_ _;refine OnlyNormal.normal ?_;clear hW7 f0 f1 f2 f3 g0' g1' g2' g3' hbt hSv1 hxs hr1 hrq1 hX0 s0 s1 s2 s3 p0 p1 p2 p3 o0 o1 o2 o3;have hU8 : Hid (Fr W7 zn zA zk zc zm zB zj zd (upS E X i n (t + 1))):=Za (by rw [Zsa _ _ (by omega)];exact hU7.out);go_wp2_with fail
         go_roundg (n - (t + 1))
         case measure=>omega
         case rel=>exact ⟨t + 1,_,_,_,_,_,_,_,_,by omega,by go_num,by omega,p7.out,hU8,hK8.out⟩
        | zero =>
         obtain rfl : n = t:=by omega
         have t4 : decide ((n : Int) < (n : Int)) = false:=by simp
         have bi1 : (i : Int) < ((n + 1 : Nat) : Int):=by omega
         have bi2 : (i : Int) < (n : Int) + 1:=by omega
         obtain ⟨an,aA,ak,ac,am,aB,aj,ad,p0,p1,p2,p3,hfa⟩:=fi.at_ (i:=i) (by rw [hli];omega);rw [hqi,hE3.out i i hin (by omega)] at hfa;obtain ⟨on_,oA,ok,oc,om,oB,oj,od,o0,o1,o2,o3⟩:=hOj.raw.cells hin;have w0':=hOj.raw.frozen (i * 4);have w1':=hOj.raw.frozen (i * 4 + 1);have w2':=hOj.raw.frozen (i * 4 + 2);have w3':=hOj.raw.frozen (i * 4 + 3);have sa:=(hES.out i i hin).sm (i:=380) (by decide) (by decide);have su:=(e3.out i n).sm (i:=400) (by decide) (by decide);replace hMj:=Za hMj;replace hOj:=Za hOj;clear fi;go_wp2_with fail;obtain ⟨X0,hX0⟩ : ∃ X,wj.drew = X:=⟨_,rfl⟩
         have hr1 : Below wj.heap.size wj X0:=by rw [<- hX0];exact Zh (Below.refl _ _) 1
         have hSv1 : Hid (∀ wx,Below wj.heap.size wj wx -> wx.cell? ⟨gs,0,none⟩ = some (.bool sn) /\ wx.cell? ⟨gs,1,none⟩ = some (.slice sA sk sc) /\ wx.cell? ⟨gs,2,none⟩ = some (.bool sm) /\ wx.cell? ⟨gs,3,none⟩ = some (.slice sB sj sd) /\ wx.cell? ⟨go,i,none⟩ = some (.slice (some ⟨ri.g,0,none⟩) (n + 1) ri.c) /\ wx.cell? ⟨ri.g,i * 4,none⟩ = some (.bool an) /\ wx.cell? ⟨ri.g,i * 4 + 1,none⟩ = some (.slice aA ak ac) /\ wx.cell? ⟨ri.g,i * 4 + 2,none⟩ = some (.bool am) /\ wx.cell? ⟨ri.g,i * 4 + 3,none⟩ = some (.slice aB aj ad)):=Za (fun wx hbx=>⟨Zc hbx s0,Zc hbx s1,Zc hbx s2,Zc hbx s3,Zc hbx ci,Zc hbx p0,Zc hbx p1,Zc hbx p2,Zc hbx p3⟩);refine wp_heldS [12] hmx hSv1 (by rw [hX0];exact hr1) (fun hxs=>?_);rw [hX0];refine Zty 10 [0,1,2,3,4,5,6,7,8,9] rfl (by kernel_rfl) (hSv1.out _ hr1) ?_
         iterate 10 (refine tk1 (v:=?_) rfl (Or.inl ⟨by kernel_rfl,?_⟩) ?_;rotate_left;(· intro W2 hSw;(try dsimp only at hSw);go_simp;try with_reducible rfl);try simp only [Act.put,putL_a,putL_z,putL_s,putG_a,putG_s,putG_z])
         refine tk0 ?_;refine Ze (i:=10) rfl (by kernel_rfl) (fun K hK=>?_);go_simp;refine (Zin sn sA sk sc sm sB sj sd an aA ak ac am aB aj ad _ _ X0 (hsv.out.below hr1) (hfa.below hr1) su sa (hE0.out i hin)).mono ?_;rintro e wq0 ⟨hbq0,zn,zA,zk,zc,zm,zB,zj,zd,rfl,hz⟩;have hrq0:=hr1.trans (hbq0.mono hr1.size);refine hK.out _ _ (fun _=>hSv1.out _ hrq0) ?_;clear hK K
         try simp only [Act.put,putL_a,putL_z,putL_s]
         refine Ztx 1 [11] rfl (by kernel_rfl) (hSv1.out _ hrq0) ?_
         (refine tk1 (v:=?_) rfl (Or.inl ⟨by kernel_rfl,?_⟩) ?_;rotate_left;(· intro W2 _;go_simp;try with_reducible rfl);try simp only [Act.put,putL_a,putL_z,putL_s,putG_a,putG_s,putG_z])
         refine tk0 ?_;have hOr:=hOj.out.below hrq0;have hMr:=hMj.out.below hrq0;have hxi : Hid (upS E X i n n / E i i = X i n):=Za (e1.out i hin).symm;rw [hxi.out] at hz;obtain ⟨Z9,hZ9⟩ : ∃ W,Zh2 wq0 gO i zn zA zk zc zm zB zj zd = W:=⟨_,rfl⟩;have hZ9':=hZ9;unfold Zh2 at hZ9'
         have hKz : Kept (fun g=>g = gO) wq0 Z9:=by rw [<- hZ9];exact Zkx (Kept.refl _ _) (.inl rfl)
         have hO9 : Hid (FTail 29 Z9 gO n i (fun i=>X i n)):=Za (by rw [<- hZ9];exact hOr.set_ hin hz)
         have hGr : ∀ k,k = gO -> ∃ t cs,Blk wq0 k t cs /\ NoLimb cs:=fun k hk=>by rw [hk];exact hOr.raw.box
         have hM9 : Hid (MatB 23 29 Z9 go L1):=Za (hMr.keptG hKz hgoO.out (fun r hr=>hgrO.out r hr) hGr);have hK9 : Hid (Kept (fun g=>g = gO) X2 Z9):=Za ((hK2.out.below (hBj.out.trans (hrq0.mono hBj.out.size))).trans hKz);have f0:=Zi hrq0 o0 w0';have f1:=Zi hrq0 o1 w1';have f2:=Zi hrq0 o2 w2';have f3:=Zi hrq0 o3 w3';have g0:=Zc hrq0 o0;have g1:=Zc hrq0 o1;have g2:=Zc hrq0 o2;have g3:=Zc hrq0 o3;clear hOr hMr hZ9 hKz hz;refine Zt (i:=12) rfl (by kernel_rfl) (by kernel_rfl) (fun K hK=>?_);go_simp;(try rw [hZ9']);refine hK.out _ _ ?_;clear hK K
         try simp only [Act.put,putL_a,putL_z,putL_s]
         refine Zj (by kernel_rfl) ?_ _;refine OnlyNormal.normal ?_;clear hZ9' f0 f1 f2 f3 g0 g1 g2 g3 hrq0 hr1 hSv1 hxs hX0 s0 s1 s2 s3 p0 p1 p2 p3 o0 o1 o2 o3 w0' w1' w2' w3';go_wp2_with fail
         go_roundg i
         case measure=>omega
         case rel=>exact ⟨by go_num,by omega,hM9.out,hO9.out,hK9.out⟩
    | succ j =>
     obtain rfl : j = n - (p + 1):=by omega
     have hpn : p < n:=by omega
     have t2 : decide ((p : Int) < (n : Int)) = true:=decide_eq_true (by omega)
     have bp : (p : Int) < (n : Int):=by omega
     have bp1 : (p : Int) < (n : Int) + 1:=by omega
     have bpn : (p : Int) < ((n + 1 : Nat) : Int):=by omega
     obtain ⟨rp,hrp⟩:=Zg5 (L:=L1) (i:=p) (by rw [hl1.out];exact hpn);have hqp : rp.q = Zbz L1 p:=(Zgy hrp).symm
     have hlp : rp.q.length = n + 1:=by rw [hqp];exact hlen.out p hpn
     obtain ⟨cp,zp⟩:=hM.cell hrp;obtain ⟨fp,kp1,kp2⟩:=hM.row hrp;rw [hlp] at cp kp1;unfold maxLen at kp2;obtain ⟨n1,A1,k1,c1,m1,B1,j1,d1,p0,p1,p2,p3,hf1⟩:=fp.at_ (i:=p) (by rw [hlp];omega);rw [hqp,hE.out p p hpn (by omega)] at hf1;have hdp : Hid (Zz AR p p p = dQ AR p):=Za rfl;have hiff:=hf1.pos_iff
     have hwr : IntKind.i64.wrap ((p : Int) + 1) = ((p + 1 : Nat) : Int):=by rw [IntKind.wrap_i64];omega
     cases n1
     case true =>
      have hnp : Hid (¬ posP AR n):=Za (fun h=>by have:=hiff.2 (by rw [hdp.out];exact h p hpn);simp at this);replace hM:=Za hM;replace hK:=Za hK;replace hiff:=Za hiff;clear fp hqp hlp hf1;go_wp2_with fail;go_returns;exact ⟨hBp.out,.inr ⟨hnp.out,rfl⟩⟩
     by_cases hk1 : k1 = 0
     case pos =>
      have hnp : Hid (¬ posP AR n):=Za (fun h=>(hiff.2 (by rw [hdp.out];exact h p hpn)).2 hk1)
      have t3 : ((k1 : Int) == 0) = true:=by simp [hk1]
      have t3' : decide (k1 = 0) = true:=by simpa using hk1
      replace hM:=Za hM;replace hK:=Za hK;replace hiff:=Za hiff;have hk1l:=hf1.1.2.1;subst hk1;clear fp hqp hlp hf1;go_wp2_with fail;go_returns;exact ⟨hBp.out,.inr ⟨hnp.out,rfl⟩⟩
     have hpos2 : Hid (posP AR (p + 1)):=Za (fun t ht=>by
      rcases Nat.lt_or_ge t p with h1 | h1
      ·exact hpos.out t h1
      ·rw [show t = p by omega];exact (by rw [<- hdp.out];exact hiff.1 ⟨rfl,hk1⟩))
     have t3 : ((k1 : Int) == 0) = false:=by simp;omega
     have t3' : decide (k1 = 0) = false:=by simpa using hk1
     have hk1l:=hf1.1.2.1;replace hM:=Za hM;replace hK:=Za hK;replace hiff:=Za hiff;replace hk1:=Za hk1;clear fp hqp hlp hf1;go_wp2_with fail
     go_loopg [10] (n - (p + 1)) (fun k iv wr=>∃ (i : Nat) (L2 : List RF),i + k = n /\ iv = .int .i64 i /\ p + 1 <= i /\ MatB 23 29 wr go L2 /\ Hid (L2.length = n) /\ Hid (L2.map RF.g = L.map RF.g) /\ Hid (L2.map RF.c = L.map RF.c) /\ Hid (ClrTo L1 L2 p p i) /\ Kept (fun g=>g ∈ L.map RF.g) w1 wr)
     case atStart=>exact ⟨p + 1,L1,by omega,by go_num,Nat.le_refl _,hM.out,hl1,hg1,hc1',Za (fun j hj=>by by_cases h1 : j <= p \/ p + 1 <= j;rw [if_pos h1];exact absurd h1 (by omega)),hK.out⟩
     case round =>
      clear hM hK cp zp p0 p1 p2 p3 hk1l;obtain ⟨wi,rfl⟩ : ∃ x : World,x = wr:=⟨_,rfl⟩;obtain ⟨i,L2,hik,rfl,hpi,hM,hl2,hg2,hc2',hcl,hK⟩:=hrel
      cases gk with
      | zero =>
       obtain rfl : n = i:=by omega
       have t4 : decide ((n : Int) < (n : Int)) = false:=by simp
       have hfin : Hid (L2.map RF.q = Zef R (p + 1)):=Za (by
        rw [ClrTo.done (by rw [hl1.out];exact hcl.out) (by rw [hl2.out,hl1.out]),hq1.out];rfl)
       replace hM:=Za hM;replace hK:=Za hK;go_wp2_with fail
       go_roundg (n - (p + 1))
       case measure=>omega
       case rel=>exact ⟨p + 1,L2,by omega,by go_num,hM.out,hl2,hg2,hc2',hfin,hpos2,hK.out⟩
      | succ j =>
       obtain rfl : j = n - (i + 1):=by omega
       have hin : i < n:=by omega
       have t4 : decide ((i : Int) < (n : Int)) = true:=decide_eq_true (by omega)
       have bi : (i : Int) < (n : Int):=by omega
       obtain ⟨ri,hri2⟩:=Zg5 (L:=L2) (i:=i) (by rw [hl2.out];exact hin);obtain ⟨r2,hr2⟩:=Zg5 (L:=L2) (i:=p) (by rw [hl2.out];exact hpn)
       have hqi : ri.q = Zbz L1 i:=by
        have:=hcl.out i (by rw [hl1.out];exact hin);rw [Zgy hri2,if_pos (Or.inr (Nat.le_refl i))] at this;exact this
       have hqr : r2.q = Zbz L1 p:=by
        have:=hcl.out p (by rw [hl1.out];exact hpn);rw [Zgy hr2,if_pos (Or.inl (Nat.le_refl p))] at this;exact this
       have hli : ri.q.length = n + 1:=by rw [hqi];exact hlen.out i hin
       have hlr : r2.q.length = n + 1:=by rw [hqr];exact hlen.out p hpn
       obtain ⟨ci,zi⟩:=hM.cell hri2;obtain ⟨cr,zr⟩:=hM.cell hr2;obtain ⟨fi,ki1,ki2⟩:=hM.row hri2;obtain ⟨fr,kr1,kr2⟩:=hM.row hr2;rw [hli] at ci ki1;rw [hlr] at cr kr1;unfold maxLen at ki2 kr2;have hne2:=hM.ne2 hri2 hr2 (by omega);obtain ⟨n1,A1,k1,c1,m1,B1,j1,d1,p0,p1,p2,p3,hf1⟩:=fi.at_ (i:=p) (by rw [hli];omega);obtain ⟨n2,A2,k2,c2,m2,B2,j2,d2,q0,q1,q2,q3,hf2⟩:=fr.at_ (i:=p) (by rw [hlr];omega);rw [hqi,hE.out i p hin (by omega)] at hf1;rw [hqr,hE.out p p hpn (by omega)] at hf2;obtain ⟨by_,hby⟩ : ∃ q : Rat,Zz AR p i p / Zz AR p p p = q:=⟨_,rfl⟩;have hbyS : Hid (SmN 300 300 by_):=Za (by rw [<- hby];exact hl.out i p (by omega) hin hpos2.out);have sc1:=(hs.out p i p (by omega) hpos.out hin).sm (i:=380) (by decide) (by decide);have sc2:=(hs.out p p p (by omega) hpos.out hpn).sm (i:=380) (by decide) (by decide);have hdn0 : Hid (Zz AR p p p ≠ 0):=Za (fun h=>by have:=hpos2.out p (by omega);rw [<- hdp.out,h] at this;exact absurd this (by decide));replace hby:=Za hby;have fiH:=Za fi;have frH:=Za fr;clear fi fr;replace hM:=Za hM;replace hK:=Za hK;go_wp2_with fail
       have hSv1 : Hid (∀ wx,Below wi.heap.size wi wx -> wx.cell? ⟨go,i,none⟩ = some (.slice (some ⟨ri.g,0,none⟩) (n + 1) ri.c) /\ wx.cell? ⟨go,p,none⟩ = some (.slice (some ⟨r2.g,0,none⟩) (n + 1) r2.c) /\ wx.cell? ⟨ri.g,p * 4,none⟩ = some (.bool n1) /\ wx.cell? ⟨ri.g,p * 4 + 1,none⟩ = some (.slice A1 k1 c1) /\ wx.cell? ⟨ri.g,p * 4 + 2,none⟩ = some (.bool m1) /\ wx.cell? ⟨ri.g,p * 4 + 3,none⟩ = some (.slice B1 j1 d1) /\ wx.cell? ⟨r2.g,p * 4,none⟩ = some (.bool n2) /\ wx.cell? ⟨r2.g,p * 4 + 1,none⟩ = some (.slice A2 k2 c2) /\ wx.cell? ⟨r2.g,p * 4 + 2,none⟩ = some (.bool m2) /\ wx.cell? ⟨r2.g,p * 4 + 3,none⟩ = some (.slice B2 j2 d2)):=Za (fun wx hbx=>⟨Zc hbx ci,Zc hbx cr,Zc hbx p0,Zc hbx p1,Zc hbx p2,Zc hbx p3,Zc hbx q0,Zc hbx q1,Zc hbx q2,Zc hbx q3⟩);have hr1 : Below wi.heap.size wi wi.drew:=Zh (Below.refl _ _) 1;refine wp_heldS [] hmx hSv1 hr1 (fun hxs1=>?_);refine Zty 14 [0,1,2,3,4,5,6,7,8,9,10,11,12,13] rfl (by kernel_rfl) (hSv1.out _ hr1) ?_
       iterate 14 (refine tk1 (v:=?_) rfl (Or.inl ⟨by kernel_rfl,?_⟩) ?_;rotate_left;(· intro W2 hSw;(try dsimp only at hSw);go_simp;try with_reducible rfl);try simp only [Act.put,putL_a,putL_z,putL_s,putG_a,putG_s,putG_z])
       refine tk0 ?_;refine Zcp [(14,88),(15,11)] (fun _=>[]) [(14,88),(15,11)] (Zje wi.heap.size (Zz AR p i p / Zz AR p p p) 14 15) 1 (by kernel_rfl) (fun _ _ _ _ _ hb h=>Zn9 hb h) (fun wx h=>hSv1.out _ (hr1.trans (h.mono hr1.size))) ?hop1 ?hfin1
       case hop1 =>
        intro p hp;simp only [List.mem_cons,List.not_mem_nil,or_false] at hp;simp only [List.map_cons,List.map_nil,Zao,Act.put,putL_a,putL_z,putL_s]
        rcases hp with rfl | rfl
        ·intro ν wx hb hP
         have hbx:=hr1.trans (hb.mono hr1.size);refine Zab (i:=14) rfl (fun K hK=>?_);go_simp;refine (Zin n1 A1 k1 c1 m1 B1 j1 d1 n2 A2 k2 c2 m2 B2 j2 d2 _ _ wx (hf1.below hbx) (hf2.below hbx) sc1 sc2 hdn0.out).mono ?_;rintro e w5 ⟨hb5,na5,A5,k5,c5,nb5,B5,m5,d5,rfl,hf5⟩;exact hK.out _ _ ⟨_,rfl,(by simp only [Zje];exact ⟨_,_,_,_,_,_,_,_,rfl,hf5⟩),hb5,trivial⟩
        ·intro ν wx hb hP
         refine Zab (i:=15) rfl (fun K hK=>?_);go_simp;exact hK.out _ _ ⟨_,rfl,(by simp only [Zje];exact ⟨_,rfl,hb.size,Blk.new _ _ _⟩),(Below.refl _ _).alloc (Nat.le_refl _) _,trivial⟩
       case hfin1 =>
        intro ν wx hb hP;have h0:=hP (14,88) (by simp);have h4:=hP (15,11) (by simp);simp only [Zje] at h0 h4;obtain ⟨bbn,bbA,bbk,bbc,bbm,bbB,bbj,bbd,h0,bbf⟩:=h0;obtain ⟨gbb,h4,kv,qv⟩:=h4;simp only [List.map_cons,List.map_nil,Zao,Act.put,putL_a,putL_z,putL_s];rw [h0,h4];clear h0 h4 hP ν;have hbx:=hr1.trans (hb.mono hr1.size);have qv4:=qv.four;have kv2 : wi.heap.size <= gbb:=kv;refine (Zaa bbn bbA bbk bbc bbm bbB bbj bbd hbx kv2 qv).elim (fun Zbb hq=>?_);have c0:=qv4.1;have c1':=qv4.2.1;have c2':=qv4.2.2.1;have c3:=qv4.2.2.2.1;have f0:=qv4.2.2.2.2.1;have f1:=qv4.2.2.2.2.2.1;have f2:=qv4.2.2.2.2.2.2.1;have f3:=qv4.2.2.2.2.2.2.2;have hZ:=hq.1;refine Ze (i:=16) rfl (by kernel_rfl) (fun K hK=>?_);go_simp;(try rw [hZ]);refine hK.out _ _ (fun _=>hSv1.out _ hq.2.1) ?_;clear hK K
        try simp only [Act.put,putL_a,putL_z,putL_s]
        refine Zj (by kernel_rfl) ?_ _;refine OnlyNormal.normal ?_;have hbZbb:=hq.2.1;have bbb:=Za hq.2.2.1;have hgbb : Hid (wi.heap.size <= gbb):=Za kv2;replace bbf:=Za (Fr.keep bbf hq.2.2.2.1);clear hq hZ c0 c1' c2' c3 f0 f1 f2 f3 qv4 qv kv kv2 hbx hb hr1 hSv1 hxs1;rw [hby.out] at bbf;have hM2:=hM.out.below hbZbb;have hK2 : Kept (fun g=>g ∈ L.map RF.g) w1 Zbb:=hK.out.below hbZbb
        have hgb : Hid (gbb ∉ L.map RF.g):=Za (fun hmem=>by
         obtain ⟨t,cs,hb,-⟩:=hGX.out gbb hmem;have:=hb.lt;have:=hK.out.size;have:=hgbb.out
         omega)
        have hGZ : Hid (∀ k,k ∈ L.map RF.g -> ∃ t cs,Blk Zbb k t cs /\ NoLimb cs):=Za (fun k hk=>hM2.boxes k (.inr (by rw [hg2.out];exact hk)));have hgi : Hid (ri.g ∈ L.map RF.g):=Za (by rw [<- hg2.out];exact List.mem_map.2 ⟨ri,List.mem_of_getElem? hri2,rfl⟩);have hgr : Hid (r2.g ∈ L.map RF.g):=Za (by rw [<- hg2.out];exact List.mem_map.2 ⟨r2,List.mem_of_getElem? hr2,rfl⟩);clear hK hM p0 p1 p2 p3 q0 q1 q2 q3 sc1 sc2 hf1 hf2 ci cr zi zr hbZbb;replace hK2:=Za hK2;go_wp2_with fail
        go_loopg [12] (n + 1 - p) (fun k iv wr=>∃ (j : Nat) (q3 : List Rat),j + k = n + 1 /\ iv = .int .i64 j /\ p <= j /\ MatB 23 29 wr go (L2.set i ⟨ri.g,ri.c,q3⟩) /\ Hid (q3.length = n + 1) /\ Hid (∀ t : Nat,q3[t]?.getD 0 = if p <= t /\ t < j then (Zbz L1 i)[t]?.getD 0 - by_ * (Zbz L1 p)[t]?.getD 0 else (Zbz L1 i)[t]?.getD 0) /\ Kept (fun g=>g ∈ L.map RF.g) Zbb wr)
        case atStart =>
         refine ⟨p,ri.q,by omega,rfl,Nat.le_refl _,?_,Za hli,Za (fun t=>by rw [if_neg (by omega),hqi]),Kept.refl _ _⟩
         have e : L2.set i ⟨ri.g,ri.c,ri.q⟩ = L2:=by
          apply List.ext_getElem?
          intro t;rw [List.getElem?_set]
          split
          ·rename_i h;subst h;rw [if_pos (by rw [hl2.out];exact hin),hri2]
          ·rfl
         rw [e];exact hM2
        case round =>
         clear hM2;obtain ⟨wj,rfl⟩ : ∃ x : World,x = wr:=⟨_,rfl⟩;obtain ⟨j,q3,hjk,rfl,hcj,hM3,hl3,hq3,hK3⟩:=hrel;obtain ⟨c0,z0⟩:=hM3.cell (i:=i) (r:=⟨ri.g,ri.c,q3⟩) (by rw [List.getElem?_set,if_pos rfl,if_pos (by rw [hl2.out];exact hin)]);simp only [hl3.out] at c0
         cases gk with
         | zero =>
          obtain rfl : j = n + 1:=by omega
          have t5 : decide (((n + 1 : Nat) : Int) <= (n : Int)) = false:=decide_eq_false (by omega);have t5' : decide ((n : Int) + 1 <= (n : Int)) = false:=decide_eq_false (by omega)
          have hrel2 : Hid ((L2.set i ⟨ri.g,ri.c,q3⟩).length = n /\ (L2.set i ⟨ri.g,ri.c,q3⟩).map RF.g = L.map RF.g /\ (L2.set i ⟨ri.g,ri.c,q3⟩).map RF.c = L.map RF.c /\ ClrTo L1 (L2.set i ⟨ri.g,ri.c,q3⟩) p p (i + 1)):=Za (by
           refine ⟨by rw [List.length_set];exact hl2.out,?_,?_,?_⟩
           ·rw [Zgv (s:=⟨ri.g,ri.c,q3⟩) hri2 rfl];exact hg2.out
           ·rw [Zgv (s:=⟨ri.g,ri.c,q3⟩) hri2 rfl];exact hc2'.out
           ·refine hcl.out.step (by rw [hl2.out,hl1.out]) (by rw [hl1.out];exact hin) (by omega) ?_
            refine rowR_eq (by rw [hl3.out,hlen.out i hin]) (fun t=>?_)
            rw [hq3.out t,hlen.out i hin,hE.out i p hin (by omega),hE.out p p hpn (by omega),hby.out])
          have hK6 : Hid (Kept (fun g=>g ∈ L.map RF.g) w1 wj):=Za (hK2.out.trans hK3);replace hM3:=Za hM3;clear hK3;go_wp2_with fail
          go_roundg (n - (i + 1))
          case measure=>omega
          case rel=>exact ⟨i + 1,_,by omega,by go_num,by omega,hM3.out,Za hrel2.out.1,Za hrel2.out.2.1,Za hrel2.out.2.2.1,Za hrel2.out.2.2.2,hK6.out⟩
         | succ gk' =>
          obtain rfl : gk' = n - j:=by omega
          have hjm : j < n + 1:=by omega
          have t5 : decide ((j : Int) <= (n : Int)) = true:=decide_eq_true (by omega)
          have bj : (j : Int) < (n : Int) + 1:=by omega
          have bj2 : (j : Int) < ((n + 1 : Nat) : Int):=by omega
          obtain ⟨c1',z1⟩:=hM3.cell (i:=p) (r:=r2) (by rw [List.getElem?_set,if_neg (by omega)];exact hr2);rw [hlr] at c1';obtain ⟨f3,-,-⟩:=hM3.row (i:=i) (r:=⟨ri.g,ri.c,q3⟩) (by rw [List.getElem?_set,if_pos rfl,if_pos (by rw [hl2.out];exact hin)]);obtain ⟨f4,-,-⟩:=hM3.row (i:=p) (r:=r2) (by rw [List.getElem?_set,if_neg (by omega)];exact hr2);obtain ⟨n4,A4,k4,c4,m4,B4,j4,d4,q0,q1,q2,q3',hf4⟩:=f4.at_ (i:=j) (by rw [hlr];exact hjm);rw [hqr] at hf4;have hbb:=hK3.blk bbb.out hgb.out;obtain ⟨x0,x1,x2,x3,-⟩:=hbb.four;have hfb : Fr wj bbn bbA bbk bbc bbm bbB bbj bbd by_:=⟨hK3.wd bbf.out.1 hGZ.out,hK3.wd bbf.out.2 hGZ.out⟩;have hl3':=hl3.out;obtain ⟨n5,A5,k5,c5,m5,B5,j5,d5,u0,u1,u2,u3,hf5⟩:=f3.at_ (i:=j) (by rw [hl3'];exact hjm)
          have hf5c : q3[j]?.getD 0 = (Zbz L1 i)[j]?.getD 0:=by
           have h1:=hq3.out j;rw [if_neg (by omega)] at h1;exact h1
          simp only [hf5c] at hf5;have v0:=f3.frozen (j * 4);have v1:=f3.frozen (j * 4 + 1);have v2:=f3.frozen (j * 4 + 2);have v3:=f3.frozen (j * 4 + 3);have hEi : Hid (SmN 380 380 ((Zbz L1 i)[j]?.getD 0)):=Za (by rw [hE.out i j hin (by omega)];exact hs.out p i j (by omega) hpos.out hin);have hEp : Hid (SmN 380 380 ((Zbz L1 p)[j]?.getD 0)):=Za (by rw [hE.out p j hpn (by omega)];exact hs.out p p j (by omega) hpos.out hpn);have sc1:=hbyS.out.sm (i:=300) (by decide) (by decide);have sc2:=hEp.out.sm (i:=380) (by decide) (by decide);have sc3:=hEi.out.sm (i:=380) (by decide) (by decide);have sc4 : Sm (by_ * (Zbz L1 p)[j]?.getD 0):=(hbyS.out.mulN hEp.out).sm (by decide) (by decide);replace hM3:=Za hM3;replace hK3:=Za hK3;clear f4 hbb f3 hl3' hf5c;go_wp2_with fail;obtain ⟨X0,hX0⟩ : ∃ X,wj.drew = X:=⟨_,rfl⟩
          have hr1 : Below wj.heap.size wj X0:=by rw [<- hX0];exact Zh (Below.refl _ _) 1
          have hSv1 : Hid (∀ wx,Below wj.heap.size wj wx -> wx.cell? ⟨go,i,none⟩ = some (.slice (some ⟨ri.g,0,none⟩) (n + 1) ri.c) /\ wx.cell? ⟨go,p,none⟩ = some (.slice (some ⟨r2.g,0,none⟩) (n + 1) r2.c) /\ wx.cell? ⟨ri.g,j * 4,none⟩ = some (.bool n5) /\ wx.cell? ⟨ri.g,j * 4 + 1,none⟩ = some (.slice A5 k5 c5) /\ wx.cell? ⟨ri.g,j * 4 + 2,none⟩ = some (.bool m5) /\ wx.cell? ⟨ri.g,j * 4 + 3,none⟩ = some (.slice B5 j5 d5) /\ wx.cell? ⟨gbb,0,none⟩ = some (.bool bbn) /\ wx.cell? ⟨gbb,1,none⟩ = some (.slice bbA bbk bbc) /\ wx.cell? ⟨gbb,2,none⟩ = some (.bool bbm) /\ wx.cell? ⟨gbb,3,none⟩ = some (.slice bbB bbj bbd) /\ wx.cell? ⟨r2.g,j * 4,none⟩ = some (.bool n4) /\ wx.cell? ⟨r2.g,j * 4 + 1,none⟩ = some (.slice A4 k4 c4) /\ wx.cell? ⟨r2.g,j * 4 + 2,none⟩ = some (.bool m4) /\ wx.cell? ⟨r2.g,j * 4 + 3,none⟩ = some (.slice B4 j4 d4)):=Za (fun wx hbx=>⟨Zc hbx c0,Zc hbx c1',Zc hbx u0,Zc hbx u1,Zc hbx u2,Zc hbx u3,Zc hbx x0,Zc hbx x1,Zc hbx x2,Zc hbx x3,Zc hbx q0,Zc hbx q1,Zc hbx q2,Zc hbx q3'⟩);refine wp_heldS [23] hmx hSv1 (by rw [hX0];exact hr1) (fun hxs=>?_);rw [hX0];refine Zty 20 [0,1,2,3,4,5,6,7,8,9,10,11,12,13,14,15,16,17,18,19] rfl (by kernel_rfl) (hSv1.out _ hr1) ?_
          iterate 20 (refine tk1 (v:=?_) rfl (Or.inl ⟨by kernel_rfl,?_⟩) ?_;rotate_left;(· intro W2 hSw;(try dsimp only at hSw);go_simp;try with_reducible rfl);try simp only [Act.put,putL_a,putL_z,putL_s,putG_a,putG_s,putG_z])
          refine tk0 ?_;refine Ze (i:=20) rfl (by kernel_rfl) (fun K hK=>?_);go_simp;refine (Zhu bbn bbA bbk bbc bbm bbB bbj bbd n4 A4 k4 c4 m4 B4 j4 d4 _ _ X0 (hfb.below hr1) (hf4.below hr1) sc1 sc2).mono ?_;rintro e wq0 ⟨hbq0,yn,yA,yk,yc,ym,yB,yj,yd,rfl,hy⟩;have hrq0:=hr1.trans (hbq0.mono hr1.size);refine hK.out _ _ (fun _=>hSv1.out _ hrq0) ?_;clear hK K
          try simp only [Act.put,putL_a,putL_z,putL_s]
          refine Ze (i:=21) rfl (by kernel_rfl) (fun K hK=>?_);go_simp;refine (Zh0 n5 A5 k5 c5 m5 B5 j5 d5 yn yA yk yc ym yB yj yd _ _ wq0 (hf5.below hrq0) hy sc3 sc4).mono ?_;rintro e wq1 ⟨hbq1,zn,zA,zk,zc,zm,zB,zj,zd,rfl,hz⟩;have hrq1:=hrq0.trans (hbq1.mono hrq0.size);refine hK.out _ _ (fun _=>hSv1.out _ hrq1) ?_;clear hK K
          try simp only [Act.put,putL_a,putL_z,putL_s]
          refine Ztx 1 [22] rfl (by kernel_rfl) (hSv1.out _ hrq1) ?_
          (refine tk1 (v:=?_) rfl (Or.inl ⟨by kernel_rfl,?_⟩) ?_;rotate_left;(· intro W2 _;go_simp;try with_reducible rfl);try simp only [Act.put,putL_a,putL_z,putL_s,putG_a,putG_s,putG_z])
          refine tk0 ?_;have hM5:=hM3.out.below hrq1;obtain ⟨Z9,hZ9⟩ : ∃ W,Zh2 wq1 ri.g j zn zA zk zc zm zB zj zd = W:=⟨_,rfl⟩;have hZ9':=hZ9;unfold Zh2 at hZ9';have hK9 : Hid (Kept (fun g=>g ∈ L.map RF.g) Zbb Z9):=Za (by rw [<- hZ9];exact Zkx (hK3.out.below hrq1) (.inl hgi.out))
          have hM9 : Hid (MatB 23 29 Z9 go (L2.set i ⟨ri.g,ri.c,q3.set j ((Zbz L1 i)[j]?.getD 0 - by_ * (Zbz L1 p)[j]?.getD 0)⟩)):=Za (by
           have h1:=hM5.set_ (i:=i) (r:=⟨ri.g,ri.c,q3⟩) (by rw [List.getElem?_set,if_pos rfl,if_pos (by rw [hl2.out];exact hin)]) (k:=j) (by rw [show RF.q ⟨ri.g,ri.c,q3⟩ = q3 from rfl,hl3.out];exact hjm) hz;rw [List.set_set] at h1
           rw [<- hZ9];exact h1)
          have f0:=Zi hrq1 u0 v0;have f1:=Zi hrq1 u1 v1;have f2:=Zi hrq1 u2 v2;have f3:=Zi hrq1 u3 v3;have g0:=Zc hrq1 u0;have g1:=Zc hrq1 u1;have g2:=Zc hrq1 u2;have g3:=Zc hrq1 u3;clear hM5 hZ9;refine Zt (i:=23) rfl (by kernel_rfl) (by kernel_rfl) (fun K hK=>?_);go_simp;(try rw [hZ9']);refine hK.out _ _ ?_;clear hK K
          try simp only [Act.put,putL_a,putL_z,putL_s]
          refine Zj (by kernel_rfl) ?_ _;refine OnlyNormal.normal ?_;clear hZ9' f0 f1 f2 f3 g0 g1 g2 g3 hrq1 hr1 hSv1 hxs hX0 u0 u1 u2 u3 x0 x1 x2 x3 v0 v1 v2 v3 q0 q1 q2 q3' hz hy hf5 hM3 hK3 c0 c1' z0 z1;go_wp2_with fail
          go_roundg (n - j)
          case measure=>omega
          case rel=>exact ⟨j + 1,_,by omega,by go_num,by omega,hM9.out,Za (by rw [List.length_set];exact hl3.out),Za (Zs9 (by rw [hl3.out,hlen.out i hin]) hcj (by rw [hlen.out i hin];exact hjm) rfl hq3.out),hK9.out⟩
theorem Zga {A : Nat -> Nat -> Rat} {n c : Nat} (h : ∀ i,i < n -> A i c = 0) : ∀ t i,t <= n -> i < n -> Zz A t i c = 0
 | 0,i,_,hi=>h i hi
 | t + 1,i,ht,hi=>by
  show (if t < i then _ else _) = _;rw [Zga h t i (by omega) hi,Zga h t t (by omega) (by omega)]
  split
  ·grind
  ·rfl
theorem SmN.zeroC (a b : Nat) : SmN (a + 1) (b + 1) 0:=⟨by have:=Zdt (a + 1);show (0 : Rat).num.natAbs < _;exact this,by
 show (1 : Nat) < pw (b + 1);rw [Zai];have:=Zdt b
 omega⟩
section
variable {Q : List (List Rat)} {n : Nat}
theorem Znn (hm : ∀ i,i < n -> (Q[i]?.getD []).length = n) {t i k : Nat} (ht : t <= n) (hi : i < n) : Zz (Zk (Zbj Q (List.replicate n 0) n)) t i k = if k < n then Zz (Zk Q) t i k else 0:=by
 by_cases hk : k < n
 ·rw [if_pos hk]
  exact Zc3 (n:=n) (m:=n) (fun i k hi hk=>Zrr hm hi hk) (Nat.le_refl _) t i k ht hi hk
 ·rw [if_neg hk]
  refine Zga (n:=n) (fun i hi=>?_) t i ht hi
  rcases Nat.lt_or_ge n k with h | h
  ·exact Zpb hm hi h
  ·obtain rfl : n = k:=by omega
   rw [Zpr hm hi]
   simp [List.getElem?_replicate,hi]
theorem Zln (hm : ∀ i,i < n -> (Q[i]?.getD []).length = n) {i : Nat} (hi : i < n) : dQ (Zk (Zbj Q (List.replicate n 0) n)) i = dQ (Zk Q) i:=by
 unfold dQ;rw [Znn hm (by omega) hi,if_pos hi]
theorem Zfx (hm : ∀ i,i < n -> (Q[i]?.getD []).length = n) {t : Nat} (ht : t <= n) : posP (Zk (Zbj Q (List.replicate n 0) n)) t ↔ posP (Zk Q) t:=
 ⟨fun h s hs=>by rw [<- Zln hm (by omega)];exact h s hs,fun h s hs=>by rw [Zln hm (by omega)];exact h s hs⟩
theorem wide0_l (hm : ∀ i,i < n -> (Q[i]?.getD []).length = n) {i k : Nat} (hi : i < n) (hk : k < n) : lQ (Zk (Zbj Q (List.replicate n 0) n)) i k = lQ (Zk Q) i k:=by
 unfold lQ;rw [Zln hm hk,Znn hm (by omega) hi,if_pos hk]
theorem Zm0 (hm : ∀ i,i < n -> (Q[i]?.getD []).length = n) : SolvC (fun i j=>Zz (Zk (Zbj Q (List.replicate n 0) n)) i i j) (fun _ _=>0) n:=by
 have hz : ∀ (E : Nat -> Nat -> Rat) i t,upS E (fun _ _=>0) i n t = E i n:=fun E i t=>by
  unfold upS
  have : Zdi t (fun j=>if i < j then E i j * 0 else 0) = 0:=by
   induction t with
   | zero=>rfl
   | succ t ih=>simp only [Zdi];rw [ih];split <;> grind
  rw [this];grind
 have hE : ∀ i,Zz (Zk (Zbj Q (List.replicate n 0) n)) i i n = 0 \/ n <= i:=fun i=>by
  rcases Nat.lt_or_ge i n with h | h
  ·left;rw [Znn hm (by omega) h,if_neg (by omega)]
  ·exact .inr h
 refine ⟨fun i hi=>?_,fun i=>SmN.zeroC 299 299,fun i t=>?_⟩
 ·rw [hz]
  show (0 : Rat) = Zz _ i i n / _
  rcases hE i with h | h
  ·rw [h];grind
  ·omega
 ·rw [hz]
  show SmN 400 400 (Zz _ i i n)
  rcases hE i with h | h
  ·rw [h];exact SmN.zeroC 399 399
  ·have h0 : ∀ t,Zz (Zk (Zbj Q (List.replicate n 0) n)) t i n = 0 \/ True:=fun _=>.inr trivial
   have h1 : ∀ t j,n <= j -> Zz (Zk (Zbj Q (List.replicate n 0) n)) t j n = 0:=fun t=>by
    induction t with
    | zero =>
     intro j hj;show Zk _ j n = 0;unfold Zk;rw [List.getElem?_eq_none (l:=Zbj Q _ n) (by rw [Zhl];exact hj)];rfl
    | succ t ih =>
     intro j hj;show (if t < j then _ else _) = _
     have h2 : Zz (Zk (Zbj Q (List.replicate n 0) n)) t t n = 0:=by
      rcases Nat.lt_or_ge t n with h3 | h3
      ·rw [Znn hm (by omega) h3,if_neg (by omega)]
      ·exact ih t h3
     rw [ih j hj,h2]
     split
     ·grind
     ·rfl
   rw [h1 i i h];exact SmN.zeroC 399 399
end
theorem Znx (n : Nat) (w : World) (hn9 : n <= 100) :
    Calls Tryz.prog 100 #[.int .i64 n] w fun e w'=>∃ v,e = .returned v /\ Below w.heap.size w w' /\ OwnF 29 w' w.heap.size v (List.replicate n 0):=by
 obtain ⟨iF,hi,hz0,hz1,hz2⟩:=info_parts Zfl;go_enter Tryz.func100,Tryz.ntmps100;go_wp2_with fail
 go_loopg [3,4] n (fun k ov iv wr=>∃ i : Nat,i + k = n /\ iv = .int .i64 i /\ Below w.heap.size w wr /\ OwnF 29 wr w.heap.size ov (List.replicate i 0))
 case atStart=>exact ⟨0,by omega,rfl,Below.refl _ _,OwnF.nil _ _ _⟩
 case round =>
  obtain ⟨i,hik,rfl,hB,hO⟩:=hrel
  cases gk with
  | zero =>
   obtain rfl : n = i:=by omega
   have t1 : decide ((n : Int) < (n : Int)) = false:=by simp
   replace hO:=Za hO;go_wp2_with fail;go_ret;exact ⟨_,rfl,hB,hO.out⟩
  | succ k' =>
   obtain rfl : k' = n - (i + 1):=by omega
   have hin : i < n:=by omega
   have t1 : decide ((i : Int) < (n : Int)) = true:=decide_eq_true (by omega);obtain ⟨zA,zc,rfl,hFz⟩:=hO.fl
   have hrl : (List.replicate i (0 : Rat)).length = i:=by simp
   rw [hrl] at hFz ⊢;replace hO:=Za hO;replace hFz:=Za hFz;go_wp2_with fail;refine (Zky 0 wr (by decide) (by decide)).mono ?_;rintro e w1 ⟨hb1,xn,xA,xk,xc,xm,xB,xj,xd,rfl,hf⟩;obtain ⟨Y1,hY1⟩ : ∃ Y,w1.alloc (.cells #[.bool xn,.slice xA xk xc,.bool xm,.slice xB xj xd] 29) = Y:=⟨_,rfl⟩
   have hBY : Below w1.heap.size w1 Y1:=by rw [<- hY1];exact (Below.refl _ _).alloc (Nat.le_refl _) _
   have hbl : Blk Y1 w1.heap.size 29 #[.bool xn,.slice xA xk xc,.bool xm,.slice xB xj xd]:=by rw [<- hY1];exact Blk.new _ _ _
   have hfY : Fr Y1 xn xA xk xc xm xB xj xd 0:=hf.below hBY;have hOY:=(hO.out.kept hb1).kept hBY;have hBB:=hB.trans ((hb1.trans (hBY.mono hb1.size)).mono hB.size);have hs2:=hBB.size;rw [hrl] at hOY;go_wp2_with ((try rw [hY1]);at_builtin;refine Za3 _ rfl (.tmp 10) (.tmp 12) 23 rfl w.heap.size 29 iF Tryz.underlying23 hi hz0 hz1 hz2 _ _ rfl hOY _ (some ⟨w1.heap.size,0,none⟩) 1 1 [⟨xn,xA,xk,xc,xm,xB,xj,xd,0⟩] rfl (Zal _ hbl) rfl (by intro e he;rw [List.mem_singleton] at he;subst he;exact hfY) (by simp;omega) hs2 ?_;intro v2 w5 hO2 hg5 hk5);have hB5:=hBB.grown hg5 hs2 (fun k hk=>hOY.row_ge k hk);simp only [List.map_cons,List.map_nil] at hO2
   go_roundg (n - (i + 1))
   case measure=>omega
   case rel=>exact ⟨i + 1,by omega,by go_num,hB5,by rw [List.replicate_succ'];exact hO2⟩
theorem Zlq (A : Option Addr) (n c : Nat) (rs : List RX) (w : World) (h : MXL w A n c rs) (hF : FacC rs) (E : Int) (hE : Za9 rs = E) :
    Calls Tryz.prog 36 #[.slice A n c] w fun e w'=>e = .returned (.int .i64 E) /\ Below w.heap.size w w':=by
 have hmx : Tryz.prog.follows .mixedOrders = true:=by kernel_rfl
 have hl:=Za h.1;have hnc:=h.2.1;have hcm:=h.2.2.1;unfold maxLen at hcm;replace hE:=Za hE
 by_cases h6 : 6 < n
 ·have t1 : decide ((6 : Int) < (n : Int)) = true:=decide_eq_true (by omega)
  obtain rfl : E = 4:=by rw [<- hE.out];exact Zd1 (by unfold long6;rw [hl.out,decide_eq_true h6];rfl)
  clear h;go_enter Tryz.func36,Tryz.ntmps36;go_wp2_with fail;go_ret;exact ⟨rfl,by first | exact Below.refl _ _ | exact Zh (Below.refl _ _) _⟩
 have t1 : decide ((6 : Int) < (n : Int)) = false:=decide_eq_false (by omega);have hH:=Za h;clear h;go_enter Tryz.func36,Tryz.ntmps36;go_wp2_with fail
 go_loopg [3] n (fun t iv wr=>∃ i : Nat,i + t = n /\ iv = .int .i64 i /\ Hid (∀ j r,j < i -> rs[j]? = some r -> r.long6 = false) /\ Below w.heap.size w wr)
 case atStart=>exact ⟨0,by omega,rfl,Za (fun j r hj=>by omega),Below.refl _ _⟩
 case round =>
  obtain ⟨w1,rfl⟩ : ∃ x : World,x = wr:=⟨_,rfl⟩;obtain ⟨i,hik,rfl,hall,hB1⟩:=hrel
  cases gk with
  | succ t =>
   obtain rfl : t = n - (i + 1):=by omega
   have hin : i < n:=by omega
   have t2 : decide ((i : Int) < (n : Int)) = true:=decide_eq_true (by omega)
   have bi : (i : Int) < (n : Int):=by omega
   obtain ⟨g,o,r,rfl,he,c0,hL⟩:=(hH.out.below hB1).at_ hin;have hrl:=hL.nlenC;unfold maxLen at hrl;clear hL
   by_cases hx : 6 < r.n
   ·have t3 : decide ((6 : Int) < (r.n : Int)) = true:=decide_eq_true (by omega)
    obtain rfl : E = 4:=by
     rw [<- hE.out];refine Zd1 ?_;unfold long6;have : rs.any RX.long6 = true:=List.any_eq_true.2 ⟨r,List.mem_of_getElem? he,by unfold RX.long6;exact decide_eq_true hx⟩;rw [this,Bool.or_true]
    replace he:=Za he;replace hx:=Za hx;go_wp2_with fail;go_ret;exact ⟨rfl,hB1⟩
   ·have t3 : decide ((6 : Int) < (r.n : Int)) = false:=decide_eq_false (by omega)
    have hall2 : Hid (∀ j r',j < i + 1 -> rs[j]? = some r' -> r'.long6 = false):=Za (fun j r' hj he'=>by
     rcases Nat.lt_or_ge j i with h' | h'
     ·exact hall.out j r' h' he'
     ·obtain rfl : j = i:=by omega
      rw [he] at he'
      cases he'
      unfold RX.long6;exact decide_eq_false hx)
    replace he:=Za he;replace hx:=Za hx;go_wp2_with fail
    go_roundg (n - (i + 1))
    case measure=>omega
    case rel=>exact ⟨i + 1,by omega,by go_num,hall2,hB1⟩
  | zero =>
   obtain rfl : n = i:=by omega
   have t2 : decide ((n : Int) < (n : Int)) = false:=by simp
   have hlm : Hid (long6 rs = false):=Za (by
    unfold long6;rw [hl.out,decide_eq_false h6,Bool.false_or,List.any_eq_false];intro r hr;obtain ⟨j,hj,e⟩:=List.getElem_of_mem hr;have:=hall.out j r (by rw [hl.out] at hj;exact hj) (by rw [List.getElem?_eq_getElem hj,e])
    rw [this];decide)
   by_cases hn0 : n = 0
   ·have t3 : ((n : Int) == 0) = true:=by simp [hn0]
    have t3' : decide (n = 0) = true:=by simpa using hn0
    obtain rfl : E = 8:=by rw [<- hE.out];exact Znu hlm.out (by rw [hl.out];exact hn0)
    replace hn0:=Za hn0;go_wp2_with fail;go_ret;exact ⟨rfl,hB1⟩
   have t3 : ((n : Int) == 0) = false:=by simp;omega
   have t3' : decide (n = 0) = false:=by simpa using hn0
   replace hn0:=Za hn0;replace h6:=Za h6;go_wp2_with fail
   go_loopg [4] n (fun t iv wr=>∃ i : Nat,i + t = n /\ iv = .int .i64 i /\ Hid (∀ j r,j < i -> rs[j]? = some r -> Zcb rs.length r = true) /\ Below w.heap.size w wr)
   case atStart=>exact ⟨0,by omega,rfl,Za (fun j r hj=>by omega),hB1⟩
   case round =>
    clear hB1 hall;obtain ⟨wi,rfl⟩ : ∃ x : World,x = wr:=⟨_,rfl⟩;obtain ⟨i,hik,rfl,hall,hBi⟩:=hrel
    cases gk with
    | succ t =>
     obtain rfl : t = n - (i + 1):=by omega
     have hin : i < n:=by omega
     have t4 : decide ((i : Int) < (n : Int)) = true:=decide_eq_true (by omega)
     have bi : (i : Int) < (n : Int):=by omega
     obtain ⟨g,o,r,rfl,he,c0,hL⟩:=(hH.out.below hBi).at_ hin;have hrl:=hL.nlenC;unfold maxLen at hrl;have bad : Hid (Zcb rs.length r = false -> Za9 rs = 8):=Za (fun hf=>Zmr hlm.out (by rw [hl.out];exact hn0.out) (List.mem_of_getElem? he) hf)
     have good : Hid (Zcb rs.length r = true -> ∀ j r',j < i + 1 -> rs[j]? = some r' -> Zcb rs.length r' = true):=Za (fun hf j r' hj he'=>by
      rcases Nat.lt_or_ge j i with h' | h'
      ·exact hall.out j r' h' he'
      ·obtain rfl : j = i:=by omega
       rw [he] at he'
       cases he'
       exact hf)
     replace he:=Za he
     by_cases hq : r.n = n
     case neg =>
      have t5 : ((r.n : Int) == (n : Int)) = false:=beq_eq_false_iff_ne.2 (by omega)
      have t5' : ((r.n : Int) != (n : Int)) = true:=by rw [bne,t5];rfl
      have t5'' : decide (r.n = n) = false:=by simpa using hq
      obtain rfl : E = 8:=by rw [<- hE.out];exact bad.out (by unfold Zcb;rw [hl.out,decide_eq_false hq];rfl)
      replace hq:=Za hq;clear hL;go_wp2_with fail;go_ret;exact ⟨rfl,hBi⟩
     have t5 : ((r.n : Int) == (n : Int)) = true:=beq_iff_eq.2 (by omega)
     have t5' : ((r.n : Int) != (n : Int)) = false:=by rw [bne,t5];rfl
     have t5'' : decide (r.n = n) = true:=by simpa using hq
     obtain ⟨y,hy⟩ : ∃ y,Zc6 r.es = y:=⟨_,rfl⟩;have hV:=Za (fun W1 (hb : Below wi.heap.size wi W1)=>Zj3 r.A r.n r.c r.es W1 (hL.below hb) y hy);have hqn:=Za hq;replace hq:=Za hq;clear hL
     cases y
     ·obtain rfl : E = 8:=by rw [<- hE.out];exact bad.out (by unfold Zcb;rw [hy];simp)
      clear hy;go_wp2_with fail;refine (hV.out _ (by first | exact Below.refl _ _ | exact Zh (Below.refl _ _) _)).mono ?_;rintro e' w2 ⟨rfl,hb2⟩;go_wp2_with fail;go_ret;exact ⟨rfl,hBi.trans (hb2.mono hBi.size)⟩
     ·have hall2:=Za (good.out (by unfold Zcb;rw [hy,hl.out,hqn.out,decide_eq_true rfl];rfl))
      clear hy;go_wp2_with fail;refine (hV.out _ (by first | exact Below.refl _ _ | exact Zh (Below.refl _ _) _)).mono ?_;rintro e' w2 ⟨rfl,hb2⟩;go_wp2_with fail
      go_roundg (n - (i + 1))
      case measure=>omega
      case rel=>exact ⟨i + 1,by omega,by go_num,hall2,hBi.trans (hb2.mono hBi.size)⟩
    | zero =>
     obtain rfl : n = i:=by omega
     have t4 : decide ((n : Int) < (n : Int)) = false:=by simp
     have hV : Hid (covV rs):=Za ⟨hlm.out,by rw [hl.out];exact hn0.out,by
      rw [List.all_eq_true];intro r hr;obtain ⟨j,hj,e⟩:=List.getElem_of_mem hr
      exact hall.out j r (by rw [hl.out] at hj;exact hj) (by rw [List.getElem?_eq_getElem hj,e])⟩
     have hM:=Za (hV.out.good (hH.out.below hBi));have hSm : Hid (∀ a b,Sm (Zk (qM rs) a b)):=Za (fun a b=>(hV.out.small64 hH.out).smC (by decide) a b);have hrow : Hid (∀ a,a < n -> ((qM rs)[a]?.getD []).length = n):=Za (fun a ha=>hV.out.row hH.out a ha);go_wp2_with fail
     go_loopg [5] n (fun t jv wr=>∃ j : Nat,j + t = n /\ jv = .int .i64 j /\ Hid (∀ a b,a < j -> b < a -> Zk (qM rs) a b = Zk (qM rs) b a) /\ Below wi.heap.size wi wr)
     case atStart=>exact ⟨0,by omega,rfl,Za (fun a b ha=>by omega),Below.refl _ _⟩
     case round =>
      obtain ⟨wj,rfl⟩ : ∃ x : World,x = wr:=⟨_,rfl⟩;obtain ⟨j,hjk,rfl,hsy,hBj⟩:=hrel;have hBwj:=hBi.trans (hBj.mono hBi.size)
      cases gk with
      | zero =>
       obtain rfl : n = j:=by omega
       have t5 : decide ((n : Int) < (n : Int)) = false:=by simp
       have hs : Hid (Zeu (qM rs) = true):=Za (by
        unfold Zeu;rw [decide_eq_true_eq];intro a ha b hb;rw [show (qM rs).length = n by unfold qM;rw [List.length_map,hl.out]] at ha
        exact hsy.out a b ha hb)
       have hFP : Hid (FacP (Zk (qM rs)) n):=Za (by have:=hF hV.out hs.out;rw [hl.out] at this;exact this);go_wp2_with fail;refine (Znx n wj (by have:=h6.out;omega)).mono ?_;rintro e w5 ⟨v,rfl,hb5,hO⟩;obtain ⟨zA,zc,rfl,hz⟩:=hO.fl
       have hrl : (List.replicate n (0 : Rat)).length = n:=by simp
       rw [hrl] at hz ⊢;replace hz:=Za hz;clear hO;go_wp2_with fail;refine (Zlu A n c (qM rs) zA zc _ w5 (hM.out.below (hBj.trans (hb5.mono hBj.size))) hz.out (by have:=hn0.out;omega) (by have:=h6.out;omega) hrow.out (fun t i k ht hp hi=>?_) (fun i k hk hi hp=>?_) (fun _ _=>0) (fun _=>Zm0 hrow.out)).mono ?_
       ·rw [Znn hrow.out ht hi]
        split
        ·rename_i h1;exact hFP.out.s t i k ht ((Zfx hrow.out ht).1 hp) hi h1
        ·exact SmN.zeroC 379 379
       ·rw [wide0_l hrow.out hi (by omega)]
        exact hFP.out.l i k hk hi ((Zfx hrow.out (by omega)).1 hp)
       rintro e w6 ⟨hb6,⟨hp,B,c',rfl,-⟩ | ⟨hp,rfl⟩⟩
       ·obtain rfl : E = 0:=by rw [<- hE.out];exact hV.out.pos hs.out (by rw [hl.out];exact (Zfx hrow.out (Nat.le_refl _)).1 hp)
        go_wp2_with fail;go_ret;exact ⟨rfl,hBwj.trans ((hb5.trans (hb6.mono hb5.size)).mono hBwj.size)⟩
       ·obtain rfl : E = 8:=by rw [<- hE.out];exact hV.out.neg hs.out (by rw [hl.out];exact fun h=>hp ((Zfx hrow.out (Nat.le_refl _)).2 h))
        go_wp2_with fail;go_ret;exact ⟨rfl,hBwj.trans ((hb5.trans (hb6.mono hb5.size)).mono hBwj.size)⟩
      | succ t =>
       obtain rfl : t = n - (j + 1):=by omega
       have hji : j < n:=by omega
       have t5 : decide ((j : Int) < (n : Int)) = true:=decide_eq_true (by omega)
       have bj : (j : Int) < (n : Int):=by omega
       go_wp2_with fail
       go_loopg [6] j (fun t kv wr=>∃ k : Nat,k + t = j /\ kv = .int .i64 k /\ Hid (∀ b,b < k -> Zk (qM rs) j b = Zk (qM rs) b j) /\ Below wj.heap.size wj wr)
       case atStart=>exact ⟨0,by omega,rfl,Za (fun b hb=>by omega),Below.refl _ _⟩
       case round =>
        obtain ⟨wk,rfl⟩ : ∃ x : World,x = wr:=⟨_,rfl⟩;obtain ⟨k,hkk,rfl,hsk,hBk⟩:=hrel
        cases gk with
        | zero =>
         obtain rfl : j = k:=by omega
         have t6 : decide ((j : Int) < (j : Int)) = false:=by simp
         have hsy2 : Hid (∀ a b,a < j + 1 -> b < a -> Zk (qM rs) a b = Zk (qM rs) b a):=Za (fun a b ha hb=>by
          rcases Nat.lt_or_ge a j with h' | h'
          ·exact hsy.out a b h' hb
          ·obtain rfl : a = j:=by omega
           exact hsk.out b hb)
         go_wp2_with fail
         go_roundg (n - (j + 1))
         case measure=>omega
         case rel=>exact ⟨j + 1,by omega,by go_num,hsy2,hBj.trans (hBk.mono hBj.size)⟩
        | succ t' =>
         obtain rfl : t' = j - (k + 1):=by omega
         have hkj : k < j:=by omega
         have t6 : decide ((k : Int) < (j : Int)) = true:=decide_eq_true (by omega)
         have bk : (k : Int) < (j : Int):=by omega
         have bki : (k : Int) < (n : Int):=by omega
         have hBjk:=hBj.trans (hBk.mono hBj.size);obtain ⟨g,o,A',n',c',rfl,c0,hR⟩:=(hM.out.below hBjk).at_ hji
         have hn' : n = n':=by rw [<- hR.len];exact (hrow.out j hji).symm
         subst hn';have hrcap:=hR.cap;unfold maxLen at hrcap;obtain ⟨ga,oa,xn,xA,xk,xc,xm,xB,xj,xd,rfl,⟨r0,r1,r2,r3⟩,hX⟩:=hR.at_ (show k < n by omega);obtain ⟨A2,n2,c2,ck,hR2⟩:=(hM.out.below hBjk).atS (show k < n by omega)
         have hn2 : n = n2:=by rw [<- hR2.len];exact (hrow.out k (by omega)).symm
         subst hn2;have hrcap2:=hR2.cap;unfold maxLen at hrcap2;obtain ⟨gb,ob,yn,yA,yk,yc,ym,yB,yj,yd,rfl,⟨s0,s1,s2,s3⟩,hY⟩:=hR2.at_ hji;have eX : ((qM rs)[j]?.getD [])[k]?.getD 0 = Zk (qM rs) j k:=rfl;have eY : ((qM rs)[k]?.getD [])[j]?.getD 0 = Zk (qM rs) k j:=rfl;rw [eX] at hX;rw [eY] at hY;replace hX:=Za hX;replace hY:=Za hY;clear eX eY hR2 hR;go_wp2_with fail;obtain ⟨X0,hX0⟩ : ∃ X,wk.drew = X:=⟨_,rfl⟩
         have hr1 : Below wk.heap.size wk X0:=by rw [<- hX0];exact Zh (Below.refl _ _) 1
         have hSv1 : Hid (∀ wx,Below wk.heap.size wk wx -> wx.cell? ⟨g,o + j,none⟩ = some (.slice (some ⟨ga,oa,none⟩) n c') /\ wx.cell? ⟨ga,oa + k * 4,none⟩ = some (.bool xn) /\ wx.cell? ⟨ga,oa + k * 4 + 1,none⟩ = some (.slice xA xk xc) /\ wx.cell? ⟨ga,oa + k * 4 + 2,none⟩ = some (.bool xm) /\ wx.cell? ⟨ga,oa + k * 4 + 3,none⟩ = some (.slice xB xj xd) /\ wx.cell? ⟨g,o + k,none⟩ = some (.slice (some ⟨gb,ob,none⟩) n c2) /\ wx.cell? ⟨gb,ob + j * 4,none⟩ = some (.bool yn) /\ wx.cell? ⟨gb,ob + j * 4 + 1,none⟩ = some (.slice yA yk yc) /\ wx.cell? ⟨gb,ob + j * 4 + 2,none⟩ = some (.bool ym) /\ wx.cell? ⟨gb,ob + j * 4 + 3,none⟩ = some (.slice yB yj yd)):=Za (fun wx hbx=>⟨Zc hbx c0,Zc hbx r0,Zc hbx r1,Zc hbx r2,Zc hbx r3,Zc hbx ck,Zc hbx s0,Zc hbx s1,Zc hbx s2,Zc hbx s3⟩);refine wp_heldS [] hmx hSv1 (by rw [hX0];exact hr1) (fun hxs=>?_);rw [hX0];refine Zty 14 [0,1,2,3,4,5,6,7,8,9,10,11,12,13] rfl (by kernel_rfl) (hSv1.out _ hr1) ?_
         iterate 14 (refine tk1 (v:=?_) rfl (Or.inl ⟨by kernel_rfl,?_⟩) ?_;rotate_left;(· intro W2 hSw;(try dsimp only at hSw);go_simp;try with_reducible rfl);try simp only [Act.put,putL_a,putL_z,putL_s,putG_a,putG_s,putG_z])
         refine tk0 ?_;obtain ⟨z,hz⟩ : ∃ z,decide (Zk (qM rs) j k = Zk (qM rs) k j) = z:=⟨_,rfl⟩;refine Ze (i:=14) rfl (by kernel_rfl) (fun K hK=>?_);go_simp;refine (Zov xn xm yn ym xA xB yA yB xk xc xj xd yk yc yj yd _ _ X0 (hX.out.below hr1) (hY.out.below hr1) z hz).mono ?_;rintro e w5 ⟨rfl,hb5⟩;have hr5:=hr1.trans (hb5.mono hr1.size);refine hK.out _ _ (fun _=>hSv1.out _ hr5) ?_;clear hK K
         try simp only [Act.put,putL_a,putL_z,putL_s]
         refine Ztx 1 [15] rfl (by kernel_rfl) (hSv1.out _ hr5) ?_
         (refine tk1 (v:=?_) rfl (Or.inl ⟨by kernel_rfl,?_⟩) ?_;rotate_left;(· intro W2 _;go_simp;try with_reducible rfl);try simp only [Act.put,putL_a,putL_z,putL_s,putG_a,putG_s,putG_z])
         refine tk0 ?_;refine Zj (by kernel_rfl) ?_ _;refine OnlyNormal.normal ?_;have hB5 : Hid (Below wj.heap.size wj w5):=Za (hBk.trans (hr5.mono hBk.size));clear hSv1 hxs hr1 hr5 hb5 hX0 r0 r1 r2 r3 s0 s1 s2 s3 ck c0 hX hY
         cases z
         ·obtain rfl : E = 8:=by
            rw [<- hE.out];refine hV.out.asym ?_
            cases hb : Zeu (qM rs) with
            | false=>rfl
            | true=>exact absurd (symB_iff.1 hb j k (by unfold qM;rw [List.length_map,hl.out];exact hji) (by unfold qM;rw [List.length_map,hl.out];omega)) (of_decide_eq_false hz)
          replace hz:=Za hz;go_wp2_with fail;go_ret;exact ⟨rfl,hBwj.trans (hB5.out.mono hBwj.size)⟩
         ·have hsk2 : Hid (∀ b,b < k + 1 -> Zk (qM rs) j b = Zk (qM rs) b j):=Za (fun b hb=>by
            rcases Nat.lt_or_ge b k with h' | h'
            ·exact hsk.out b h'
            ·obtain rfl : b = k:=by omega
             exact of_decide_eq_true hz)
          replace hz:=Za hz;go_wp2_with fail
          go_roundg (j - (k + 1))
          case measure=>omega
          case rel=>exact ⟨k + 1,by omega,by go_num,hsk2,hB5.out⟩
theorem Zph (a : Rat) : 0 <= a * a:=by
 rcases Rat.le_total (a:=0) (b:=a) with h | h
 ·exact Rat.mul_nonneg h h
 ·have h1 : 0 <= -a:=by grind
  have h2:=Rat.mul_nonneg h1 h1
  have e : -a * -a = a * a:=by grind
  rw [e] at h2;exact h2
theorem Zeb {A : Nat -> Nat -> Rat} {n : Nat} (hA : ∀ i k,i < n -> k < n -> A i k = A k i) (hp : posP A n) {k : Nat} (hk : k < n) : ∀ f t,t + f = k -> 0 < Zz A t k k
 | 0,t,h=>by
  obtain rfl : t = k:=by omega
  exact hp t hk
 | f + 1,t,h=>by
  have h1:=Zeb hA hp hk f (t + 1) (by omega);have hd:=hp t (by omega);have h2:=Zi4 hA (t:=t) (i:=k) (k:=k) (by omega) (Nat.le_refl _) hk (hp.ne (by omega));have h3:=Rat.mul_nonneg (Zph (lQ A k t)) (Rat.le_of_lt hd)
  have e : Zz A t k k = Zz A (t + 1) k k + lQ A k t * lQ A k t * dQ A t:=by rw [h2];grind
  rw [e]
  have h6 : Zz A (t + 1) k k <= Zz A (t + 1) k k + lQ A k t * lQ A k t * dQ A t:=by grind
  exact Rat.not_le.1 fun h5=>Rat.not_le.2 h1 (Rat.le_trans h6 h5)
def Zb7 (rs : List RX) (k : Int) : Int:=if Za9 rs = 0 then (if rs.length = 6 then (if 0 <= k /\ k <= 5 then 0 else 2) else 8) else Za9 rs
def Ze9 (Q : Nat -> Nat -> Rat) (k : Nat) : List Rat:=(List.range 6).map fun i=>Q i k / Q k k
theorem Zey {Q : Nat -> Nat -> Rat} {k : Nat} : (Ze9 Q k).length = 6:=by simp [Ze9]
theorem Zku {Q : Nat -> Nat -> Rat} {k i : Nat} (h : i < 6) : (Ze9 Q k).take i ++ [Q i k / Q k k] = (Ze9 Q k).take (i + 1):=by
 rw [List.take_add_one];unfold Ze9;rw [List.getElem?_map,List.getElem?_range h];rfl
theorem Zdf {rs : List RX} {k E : Int} (h : Za9 rs = E) (h0 : E ≠ 0) : Zb7 rs k = E:=by subst h;unfold Zb7;rw [if_neg h0]
theorem Zfh {rs : List RX} {k : Int} (h : Za9 rs = 0) (h6 : rs.length ≠ 6) : Zb7 rs k = 8:=by unfold Zb7;rw [if_pos h,if_neg h6]
theorem Zdl {rs : List RX} {k : Int} (h : Za9 rs = 0) (h6 : rs.length = 6) (hk : ¬ (0 <= k /\ k <= 5)) : Zb7 rs k = 2:=by unfold Zb7;rw [if_pos h,if_pos h6,if_neg hk]
theorem Zqf {rs : List RX} {k : Int} (h : Za9 rs = 0) (h6 : rs.length = 6) (hk : 0 <= k /\ k <= 5) : Zb7 rs k = 0:=by unfold Zb7;rw [if_pos h,if_pos h6,if_pos hk]
def DirPost (rs : List RX) (k : Int) (w : World) (e : Ending) (w' : World) : Prop:=
 Below w.heap.size w w' /\ ((Zb7 rs k = 0 /\ ∃ A c,e = .returned (.tuple #[.slice A 6 c,.int .i64 0]) /\ FL w' A 6 c (Ze9 (Zk (qM rs)) k.toNat)) \/ (Zb7 rs k ≠ 0 /\ e = .returned (.tuple #[.slice none 0 0,.int .i64 (Zb7 rs k)])))
theorem DirPost.fall {rs : List RX} {k : Int} {w w' : World} {E : Int} (hb : Below w.heap.size w w') (h : Zb7 rs k = E) (h0 : E ≠ 0) : DirPost rs k w (.returned (.tuple #[.slice none 0 0,.int .i64 E])) w':=by
 subst h;exact ⟨hb,.inr ⟨h0,rfl⟩⟩
theorem Zfa (A : Option Addr) (n c : Nat) (rs : List RX) (kk : Int) (w : World) (h : MXL w A n c rs) (hF : FacC rs) (hk1 : -9223372036854775808 <= kk) (hk2 : kk <= 9223372036854775807) :
    Calls Tryz.prog 77 #[.slice A n c,.int .i64 kk] w (DirPost rs kk w):=by
 obtain ⟨iF,hi,hz0,hz1,hz2⟩:=info_parts Zfl
 have hmx : Tryz.prog.follows .mixedOrders = true:=by kernel_rfl
 have hnl:=Za h.1;have hnc:=h.2.1;have hcm:=h.2.2.1;unfold maxLen at hcm;obtain ⟨E,hE⟩ : ∃ E,Za9 rs = E:=⟨_,rfl⟩;have hC:=Za (fun W1 (hb : Below w.heap.size w W1)=>Zos A n c rs W1 (h.below hb) hF E hE);have hH:=Za h;clear h
 by_cases h0 : E = 0
 case neg =>
  have t0 : (E == 0) = false:=by simpa using h0
  have t0' : decide (E = 0) = false:=by simpa using h0
  have t0'' : (E != 0) = true:=by rw [bne,t0];rfl
  have hE0:=Za h0;have hPE:=Zdf (k:=kk) hE h0;replace hE:=Za hE;replace h0:=Za h0;go_enter Tryz.func77,Tryz.ntmps77;go_wp2_with fail;refine (hC.out _ (Below.refl _ _)).mono ?_;rintro e w1 ⟨rfl,hb1⟩;go_wp2_with fail;go_returns;exact DirPost.fall hb1 hPE hE0.out
 subst h0;obtain ⟨hcV,hcS,hcP⟩:=Ziv hE;have hM:=Za (hcV.good hH.out);have hrow : Hid (∀ a,a < n -> ((qM rs)[a]?.getD []).length = n):=Za (fun a ha=>hcV.row hH.out a ha);have hSm : Hid (∀ a b,Sm (Zk (qM rs) a b)):=Za (fun a b=>(hcV.small64 hH.out).smC (by decide) a b)
 have hdg : Hid (∀ a,a < n -> Zk (qM rs) a a ≠ 0):=Za (fun a ha=>by
  have h1:=Zeb (A:=Zk (qM rs)) (n:=rs.length) (fun i k hi hk=>symB_iff.1 hcS i k (by unfold qM;rw [List.length_map];exact hi) (by unfold qM;rw [List.length_map];exact hk)) hcP (by rw [hnl.out];exact ha) a 0 (by omega);intro e;have e2 : Zz (Zk (qM rs)) 0 a a = 0:=e
  rw [e2] at h1;exact absurd h1 (by decide))
 have hc0:=Za hE;clear hE hcV hcS hcP;go_enter Tryz.func77,Tryz.ntmps77;go_wp2_with fail;refine (hC.out _ (Below.refl _ _)).mono ?_;rintro e w1 ⟨rfl,hB1⟩;clear hC
 by_cases hn6 : n = 6
 case neg =>
  have t1 : ((n : Int) == 6) = false:=by simp;omega
  have t1' : ((n : Int) != 6) = true:=by rw [bne,t1];rfl
  have t1'' : decide (n = 6) = false:=by simpa using hn6
  have hPE:=Zfh (k:=kk) hc0.out (by rw [hnl.out];exact hn6);replace hn6:=Za hn6;go_wp2_with fail;go_returns;exact DirPost.fall hB1 hPE (by decide)
 subst hn6
 by_cases hk0 : kk < 0
 case pos =>
  have t2 : decide (kk < 0) = true:=decide_eq_true hk0;have hPE:=Zdl (k:=kk) hc0.out hnl.out (by omega);replace hk0:=Za hk0;go_wp2_with fail;go_returns;exact DirPost.fall hB1 hPE (by decide)
 have t2 : decide (kk < 0) = false:=decide_eq_false hk0
 by_cases hk5 : 5 < kk
 case pos =>
  have t3 : decide (5 < kk) = true:=decide_eq_true hk5;have hPE:=Zdl (k:=kk) hc0.out hnl.out (by omega);replace hk0:=Za hk0;replace hk5:=Za hk5;go_wp2_with fail;go_returns;exact DirPost.fall hB1 hPE (by decide)
 have t3 : decide (5 < kk) = false:=decide_eq_false hk5;obtain ⟨k,hkk⟩ : ∃ k : Nat,kk = k:=⟨kk.toNat,by omega⟩;subst hkk
 have hk6 : k < 6:=by omega
 have bk6 : (k : Int) < 6:=by omega
 have bk6' : (k : Int) < ((6 : Nat) : Int):=by omega
 have hPE : Hid (Zb7 rs (k : Int) = 0):=Za (Zqf hc0.out hnl.out (by omega))
 have t1 : (((6 : Nat) : Int) == 6) = true:=by decide
 replace hk0:=Za hk0;replace hk5:=Za hk5;have hmk:=Zna (P:=Tryz.prog) 23 29 Tryz.underlying23 hi hz0 hz1 hz2 6 (by omega) w1;have hOm:=Zkj 29 w1 6 (by unfold maxLen;omega);obtain ⟨V1,hV1⟩ : ∃ V,w1.alloc (.cells (Z3 (List.replicate 6 Zag)) 29) = V:=⟨_,rfl⟩
 have hBV : Below w1.heap.size w1 V1:=by rw [<- hV1];exact (Below.refl _ _).alloc (Nat.le_refl _) _
 rw [hV1] at hOm hmk;rw [show ((6 : Nat) : Int) = 6 by rfl] at hmk;replace hOm:=Za hOm;have hBw1:=hB1;go_wp2_with fail;clear hmk
 go_loopg [7,31] 6 (fun t rv iv wr=>∃ i : Nat,i + t = 6 /\ iv = .int .i64 i /\ OwnF 29 wr w1.heap.size rv ((Ze9 (Zk (qM rs)) k).take i) /\ Below w1.heap.size w1 wr)
 case atStart=>exact ⟨0,by omega,rfl,by simpa using hOm.out,hBV⟩
 case round =>
  clear hOm hV1 hBV V1;obtain ⟨wi,rfl⟩ : ∃ x : World,x = wr:=⟨_,rfl⟩;obtain ⟨i,hik,rfl,hO,hBi⟩:=hrel;have hBwi : Below w.heap.size w wi:=hBw1.trans (hBi.mono hBw1.size);obtain ⟨rA,rc,e9,hrF⟩:=hO.fl
  have hrl : ((Ze9 (Zk (qM rs)) k).take i).length = i:=by rw [List.length_take,Zey];omega
  rw [hrl] at e9 hrF;subst e9
  cases gk with
  | zero =>
   obtain rfl : i = 6:=by omega
   have t5 : decide (((6 : Nat) : Int) < ((6 : Nat) : Int)) = false:=by decide
   replace hO:=Za hO;replace hrF:=Za hrF;go_wp2_with fail;go_returns;refine ⟨hBwi,.inl ⟨hPE.out,_,_,rfl,?_⟩⟩;have h1:=hrF.out;rw [List.take_of_length_le (by rw [Zey];exact Nat.le_refl _)] at h1;exact h1
  | succ t' =>
   obtain rfl : t' = 6 - (i + 1):=by omega
   have hi6 : i < 6:=by omega
   have t5 : decide ((i : Int) < 6) = true:=decide_eq_true (by omega);have t5' : decide ((i : Int) < ((6 : Nat) : Int)) = true:=decide_eq_true (by omega)
   have bi : (i : Int) < 6:=by omega
   have bi' : (i : Int) < ((6 : Nat) : Int):=by omega
   obtain ⟨g1,o1,A',n',c',rfl,k0,hR⟩:=(hM.out.below hBwi).at_ hi6
   have hn' : n' = 6:=by rw [<- hR.len];exact hrow.out i hi6
   subst hn';have hrcap:=hR.cap;unfold maxLen at hrcap;obtain ⟨g2,o2,xn,xA,xk,xc,xm,xB,xj,xd,rfl,⟨x0,x1,x2,x3⟩,hX⟩:=hR.at_ hk6;obtain ⟨A2,n2,c2,k2,hR2⟩:=(hM.out.below hBwi).atS hk6
   have hn2 : n2 = 6:=by rw [<- hR2.len];exact hrow.out k hk6
   subst hn2;have hrcap2:=hR2.cap;unfold maxLen at hrcap2;obtain ⟨g3,o3,yn,yA,yk,yc,ym,yB,yj,yd,rfl,⟨y0,y1,y2,y3⟩,hY⟩:=hR2.at_ hk6;have eX : ((qM rs)[i]?.getD [])[k]?.getD 0 = Zk (qM rs) i k:=rfl;have eY : ((qM rs)[k]?.getD [])[k]?.getD 0 = Zk (qM rs) k k:=rfl;rw [eX] at hX;rw [eY] at hY;have s1:=hSm.out i k;have s2:=hSm.out k k;have hne0:=Za (hdg.out k hk6);replace hO:=Za hO;clear eX eY hR hR2 hrF;go_wp2_with fail;have hSv1 : Hid (∀ wx,Below wi.heap.size wi wx -> wx.cell? ⟨g1,o1 + i,none⟩ = some (.slice (some ⟨g2,o2,none⟩) 6 c') /\ wx.cell? ⟨g2,o2 + k * 4,none⟩ = some (.bool xn) /\ wx.cell? ⟨g2,o2 + k * 4 + 1,none⟩ = some (.slice xA xk xc) /\ wx.cell? ⟨g2,o2 + k * 4 + 2,none⟩ = some (.bool xm) /\ wx.cell? ⟨g2,o2 + k * 4 + 3,none⟩ = some (.slice xB xj xd) /\ wx.cell? ⟨g1,o1 + k,none⟩ = some (.slice (some ⟨g3,o3,none⟩) 6 c2) /\ wx.cell? ⟨g3,o3 + k * 4,none⟩ = some (.bool yn) /\ wx.cell? ⟨g3,o3 + k * 4 + 1,none⟩ = some (.slice yA yk yc) /\ wx.cell? ⟨g3,o3 + k * 4 + 2,none⟩ = some (.bool ym) /\ wx.cell? ⟨g3,o3 + k * 4 + 3,none⟩ = some (.slice yB yj yd)):=Za (fun wx hbx=>⟨Zc hbx k0,Zc hbx x0,Zc hbx x1,Zc hbx x2,Zc hbx x3,Zc hbx k2,Zc hbx y0,Zc hbx y1,Zc hbx y2,Zc hbx y3⟩);have hr1 : Below wi.heap.size wi wi.drew:=Zh (Below.refl _ _) 1;refine wp_heldS [] hmx hSv1 hr1 (fun hxs1=>?_);refine Zty 11 [0,1,2,3,4,5,6,7,8,9,10] rfl (by kernel_rfl) (hSv1.out _ hr1) ?_
   iterate 11 (refine tk1 (v:=?_) rfl (Or.inl ⟨by kernel_rfl,?_⟩) ?_;rotate_left;(· intro W2 hSw;(try dsimp only at hSw);go_simp;try with_reducible rfl);try simp only [Act.put,putL_a,putL_z,putL_s,putG_a,putG_s,putG_z])
   refine tk0 ?_;refine Zcp [(11,47),(12,35),(13,48),(15,10)] (fun i=>match i with | 12=>[14] | _=>[]) [(11,47),(12,35),(14,49),(13,48),(15,10)] (Zah wi.heap.size (Zk (qM rs) i k / Zk (qM rs) k k) 11 12 13 14 15 14) 2 (by kernel_rfl) (fun _ _ _ _ _ hb h=>Zdq hb h) (fun wx h=>hSv1.out _ (hr1.trans (h.mono hr1.size))) ?hop1 ?hfin1
   case hop1 =>
    intro p hp;simp only [List.mem_cons,List.not_mem_nil,or_false] at hp;simp only [List.map_cons,List.map_nil,Zao,Act.put,putL_a,putL_z,putL_s]
    rcases hp with rfl | rfl | rfl | rfl
    ·intro ν wx hb hP
     have hbx:=hr1.trans (hb.mono hr1.size);refine Zab (i:=11) rfl (fun K hK=>?_);go_simp;refine (Zob xn xm yn ym xA xB yA yB xk xc xj xd yk yc yj yd _ _ wx (hX.below hbx) (hY.below hbx) s1 s2 hne0.out).mono ?_;rintro e w5 ⟨hb5,na5,A5,k5,c5,nb5,B5,m5,d5,rfl,hf5⟩;exact hK.out _ _ ⟨_,rfl,(by simp only [Zah];exact ⟨_,_,_,_,_,_,_,_,rfl,hf5⟩),hb5,trivial⟩
    ·intro ν wx hb hP
     have h0:=hP (11,47) (by simp) (by kernel_rfl);simp only [Zah] at h0;obtain ⟨na5,A5,k5,c5,nb5,B5,m5,d5,hν,hf5⟩:=h0;rw [hν];refine Zab (i:=12) rfl (fun K hK=>?_);go_simp;refine hK.out _ _ ⟨_,rfl,(by simp only [Zah];exact ⟨_,_,_,_,_,_,_,_,rfl,hf5⟩),Below.refl _ _,?_⟩;exact ⟨_,.int .i64 0,rfl,Or.inl ⟨by kernel_rfl,fun W2 _=>by go_simp⟩,by simp [Zah],trivial⟩
    ·intro ν wx hb hP
     have h0:=hP (12,35) (by simp) (by kernel_rfl);simp only [Zah] at h0;obtain ⟨na5,A5,k5,c5,nb5,B5,m5,d5,hν,hf5⟩:=h0;rw [hν];refine Zab (i:=13) rfl (fun K hK=>?_);go_simp;exact hK.out _ _ ⟨_,rfl,(by simp only [Zah];exact ⟨_,_,_,_,_,_,_,_,rfl,hf5⟩),Below.refl _ _,trivial⟩
    ·intro ν wx hb hP
     refine Zab (i:=15) rfl (fun K hK=>?_);go_simp;exact hK.out _ _ ⟨_,rfl,(by simp only [Zah];exact ⟨_,rfl,hb.size,Blk.new _ _ _⟩),(Below.refl _ _).alloc (Nat.le_refl _) _,trivial⟩
   case hfin1 =>
    intro ν wx hb hP;have h0:=hP (11,47) (by simp);have h1:=hP (12,35) (by simp);have h2:=hP (13,48) (by simp);have h3:=hP (14,49) (by simp);have h4:=hP (15,10) (by simp);simp only [Zah] at h0 h1 h2 h4;obtain ⟨a0,a1,a2,a3,a4,a5,a6,a7,h0,-⟩:=h0;obtain ⟨b0',b1',b2',b3',b4',b5',b6',b7',h1,-⟩:=h1;obtain ⟨bbn,bbA,bbk,bbc,bbm,bbB,bbj,bbd,h2,bbf⟩:=h2;obtain ⟨gbb,h4,kv,qv⟩:=h4;simp only [List.map_cons,List.map_nil,Zao,Act.put,putL_a,putL_z,putL_s];rw [h0,h1,h2,(show ν 49 = Value.int .i64 0 by simpa [Zah] using h3),h4];clear h0 h1 h2 h3 h4 hP ν;have hbx:=hr1.trans (hb.mono hr1.size);have qv4:=qv.four;have kv2 : wi.heap.size <= gbb:=kv;refine (Zaa bbn bbA bbk bbc bbm bbB bbj bbd hbx kv2 qv).elim (fun Zbb hq=>?_);have c0:=qv4.1;have c1':=qv4.2.1;have c2':=qv4.2.2.1;have c3:=qv4.2.2.2.1;have f0:=qv4.2.2.2.2.1;have f1:=qv4.2.2.2.2.2.1;have f2:=qv4.2.2.2.2.2.2.1;have f3:=qv4.2.2.2.2.2.2.2;have hZ:=hq.1;refine Ze (i:=16) rfl (by kernel_rfl) (fun K hK=>?_);go_simp;(try rw [hZ]);refine hK.out _ _ (fun _=>hSv1.out _ hq.2.1) ?_;clear hK K
    try simp only [Act.put,putL_a,putL_z,putL_s]
    refine Ztx 1 [17] rfl (by kernel_rfl) (hSv1.out _ hq.2.1) ?_
    (refine tk1 (v:=?_) rfl (Or.inl ⟨by kernel_rfl,?_⟩) ?_;rotate_left;(· intro W2 _;go_simp;try with_reducible rfl);try simp only [Act.put,putL_a,putL_z,putL_s,putG_a,putG_s,putG_z])
    refine tk0 ?_;refine Zj (by kernel_rfl) ?_ _;refine OnlyNormal.normal ?_;have hbZbb:=hq.2.1;have bbb:=Za hq.2.2.1;replace bbf:=Za (Fr.keep bbf hq.2.2.2.1);clear hq hZ c0 c1' c2' c3 f0 f1 f2 f3 qv4 qv kv hbx hb hr1 hSv1 hxs1;obtain ⟨z0,z1,z2,z3,-⟩:=bbb.out.four;obtain ⟨Y1,hY1⟩ : ∃ Y,Zbb.alloc (.cells #[.bool bbn,.slice bbA bbk bbc,.bool bbm,.slice bbB bbj bbd] 29) = Y:=⟨_,rfl⟩;obtain ⟨gz,hgz⟩ : ∃ g,Zbb.heap.size = g:=⟨_,rfl⟩
    have hBY : Below Zbb.heap.size Zbb Y1:=by rw [<- hY1];exact (Below.refl _ _).alloc (Nat.le_refl _) _
    have hbY : Blk Y1 gz 29 #[.bool bbn,.slice bbA bbk bbc,.bool bbm,.slice bbB bbj bbd]:=by rw [<- hY1,<- hgz];exact Blk.new _ _ _
    have hOY:=(hO.out.kept hbZbb).kept hBY;have hfY:=bbf.out.below hBY;have hjY : Below w1.heap.size w1 Y1:=hBi.trans ((hbZbb.trans (hBY.mono hbZbb.size)).mono hBi.size);have hsz:=hjY.size
    have hll : ((Ze9 (Zk (qM rs)) k).take i).length + 1 <= 1000:=by rw [hrl];omega
    have hsc:=Zku (Q:=Zk (qM rs)) (k:=k) hi6;go_wp2_with ((try rw [hY1]);(try rw [hgz]);at_builtin;refine Za3 _ rfl (.tmp 50) (.tmp 52) 23 rfl w1.heap.size 29 iF Tryz.underlying23 hi hz0 hz1 hz2 _ _ rfl hOY _ (some ⟨gz,0,none⟩) 1 1 [⟨bbn,bbA,bbk,bbc,bbm,bbB,bbj,bbd,Zk (qM rs) i k / Zk (qM rs) k k⟩] rfl (Zal _ hbY) rfl (by intro e he;rw [List.mem_singleton] at he;subst he;exact hfY) hll hsz ?_;intro v7 w7 hO7 hg7 hk7);have hj7:=hjY.grown hg7 hsz (fun k hk=>hOY.row_ge k hk);simp only [List.map_cons,List.map_nil] at hO7;rw [hsc] at hO7;replace hO7:=Za hO7
    go_roundg (6 - (i + 1))
    case measure=>omega
    case rel=>exact ⟨i + 1,by omega,by go_num,hO7.out,hj7⟩
theorem Zd8 (A : Option Addr) (n c : Nat) (rs : List RX) (kk : Int) (w : World) (h : MXL w A n c rs) (hF : FacC rs) (hk1 : -9223372036854775808 <= kk) (hk2 : kk <= 9223372036854775807) :
    Calls Tryz.prog 80 #[.slice A n c,.int .i64 kk] w (DirPost rs kk w):=by
 obtain ⟨iF,hi,hz0,hz1,hz2⟩:=info_parts Zfl
 have hmx : Tryz.prog.follows .mixedOrders = true:=by kernel_rfl
 have hnl:=Za h.1;have hnc:=h.2.1;have hcm:=h.2.2.1;unfold maxLen at hcm;obtain ⟨E,hE⟩ : ∃ E,Za9 rs = E:=⟨_,rfl⟩;have hC:=Za (fun W1 (hb : Below w.heap.size w W1)=>Zlq A n c rs W1 (h.below hb) hF E hE);have hH:=Za h;clear h
 by_cases h0 : E = 0
 case neg =>
  have t0 : (E == 0) = false:=by simpa using h0
  have t0' : decide (E = 0) = false:=by simpa using h0
  have t0'' : (E != 0) = true:=by rw [bne,t0];rfl
  have hE0:=Za h0;have hPE:=Zdf (k:=kk) hE h0;replace hE:=Za hE;replace h0:=Za h0;go_enter Tryz.func80,Tryz.ntmps80;go_wp2_with fail;refine (hC.out _ (Below.refl _ _)).mono ?_;rintro e w1 ⟨rfl,hb1⟩;go_wp2_with fail;refine (hC.out _ hb1).mono ?_;rintro e w2 ⟨rfl,hb2⟩;go_wp2_with fail;go_returns;exact DirPost.fall (hb1.trans (hb2.mono hb1.size)) hPE hE0.out
 subst h0;obtain ⟨hcV,hcS,hcP⟩:=Ziv hE;have hM:=Za (hcV.good hH.out);have hrow : Hid (∀ a,a < n -> ((qM rs)[a]?.getD []).length = n):=Za (fun a ha=>hcV.row hH.out a ha);have hSm : Hid (∀ a b,Sm (Zk (qM rs) a b)):=Za (fun a b=>(hcV.small64 hH.out).smC (by decide) a b)
 have hdg : Hid (∀ a,a < n -> Zk (qM rs) a a ≠ 0):=Za (fun a ha=>by
  have h1:=Zeb (A:=Zk (qM rs)) (n:=rs.length) (fun i k hi hk=>symB_iff.1 hcS i k (by unfold qM;rw [List.length_map];exact hi) (by unfold qM;rw [List.length_map];exact hk)) hcP (by rw [hnl.out];exact ha) a 0 (by omega);intro e;have e2 : Zz (Zk (qM rs)) 0 a a = 0:=e
  rw [e2] at h1;exact absurd h1 (by decide))
 have hc0:=Za hE;clear hE hcV hcS hcP;go_enter Tryz.func80,Tryz.ntmps80;go_wp2_with fail;refine (hC.out _ (Below.refl _ _)).mono ?_;rintro e w1 ⟨rfl,hB1⟩;clear hC
 by_cases hn6 : n = 6
 case neg =>
  have t1 : ((n : Int) == 6) = false:=by simp;omega
  have t1' : ((n : Int) != 6) = true:=by rw [bne,t1];rfl
  have t1'' : decide (n = 6) = false:=by simpa using hn6
  have hPE:=Zfh (k:=kk) hc0.out (by rw [hnl.out];exact hn6);replace hn6:=Za hn6;go_wp2_with fail;go_returns;exact DirPost.fall hB1 hPE (by decide)
 subst hn6
 by_cases hk0 : kk < 0
 case pos =>
  have t2 : decide (kk < 0) = true:=decide_eq_true hk0;have hPE:=Zdl (k:=kk) hc0.out hnl.out (by omega);replace hk0:=Za hk0;go_wp2_with fail;go_returns;exact DirPost.fall hB1 hPE (by decide)
 have t2 : decide (kk < 0) = false:=decide_eq_false hk0
 by_cases hk5 : 5 < kk
 case pos =>
  have t3 : decide (5 < kk) = true:=decide_eq_true hk5;have hPE:=Zdl (k:=kk) hc0.out hnl.out (by omega);replace hk0:=Za hk0;replace hk5:=Za hk5;go_wp2_with fail;go_returns;exact DirPost.fall hB1 hPE (by decide)
 have t3 : decide (5 < kk) = false:=decide_eq_false hk5;obtain ⟨k,hkk⟩ : ∃ k : Nat,kk = k:=⟨kk.toNat,by omega⟩;subst hkk
 have hk6 : k < 6:=by omega
 have bk6 : (k : Int) < 6:=by omega
 have bk6' : (k : Int) < ((6 : Nat) : Int):=by omega
 have hPE : Hid (Zb7 rs (k : Int) = 0):=Za (Zqf hc0.out hnl.out (by omega))
 have t1 : (((6 : Nat) : Int) == 6) = true:=by decide
 replace hk0:=Za hk0;replace hk5:=Za hk5;have hBw1:=hB1;go_wp2_with fail
 go_loopg [6,7] 6 (fun t rv iv wr=>∃ i : Nat,i + t = 6 /\ iv = .int .i64 i /\ OwnF 29 wr w1.heap.size rv ((Ze9 (Zk (qM rs)) k).take i) /\ Below w1.heap.size w1 wr)
 case atStart=>exact ⟨0,by omega,rfl,by simpa using OwnF.nil 29 w1 w1.heap.size,Below.refl _ _⟩
 case round =>
  obtain ⟨wi,rfl⟩ : ∃ x : World,x = wr:=⟨_,rfl⟩;obtain ⟨i,hik,rfl,hO,hBi⟩:=hrel;have hBwi : Below w.heap.size w wi:=hBw1.trans (hBi.mono hBw1.size);obtain ⟨rA,rc,e9,hrF⟩:=hO.fl
  have hrl : ((Ze9 (Zk (qM rs)) k).take i).length = i:=by rw [List.length_take,Zey];omega
  rw [hrl] at e9 hrF;subst e9
  cases gk with
  | zero =>
   obtain rfl : i = 6:=by omega
   have t5 : decide (((6 : Nat) : Int) < ((6 : Nat) : Int)) = false:=by decide
   replace hO:=Za hO;replace hrF:=Za hrF;go_wp2_with fail;go_returns;refine ⟨hBwi,.inl ⟨hPE.out,_,_,rfl,?_⟩⟩;have h1:=hrF.out;rw [List.take_of_length_le (by rw [Zey];exact Nat.le_refl _)] at h1;exact h1
  | succ t' =>
   obtain rfl : t' = 6 - (i + 1):=by omega
   have hi6 : i < 6:=by omega
   have t5 : decide ((i : Int) < 6) = true:=decide_eq_true (by omega);have t5' : decide ((i : Int) < ((6 : Nat) : Int)) = true:=decide_eq_true (by omega)
   have bi : (i : Int) < 6:=by omega
   have bi' : (i : Int) < ((6 : Nat) : Int):=by omega
   obtain ⟨g1,o1,A',n',c',rfl,k0,hR⟩:=(hM.out.below hBwi).at_ hi6
   have hn' : n' = 6:=by rw [<- hR.len];exact hrow.out i hi6
   subst hn';have hrcap:=hR.cap;unfold maxLen at hrcap;obtain ⟨g2,o2,xn,xA,xk,xc,xm,xB,xj,xd,rfl,⟨x0,x1,x2,x3⟩,hX⟩:=hR.at_ hk6;obtain ⟨A2,n2,c2,k2,hR2⟩:=(hM.out.below hBwi).atS hk6
   have hn2 : n2 = 6:=by rw [<- hR2.len];exact hrow.out k hk6
   subst hn2;have hrcap2:=hR2.cap;unfold maxLen at hrcap2;obtain ⟨g3,o3,yn,yA,yk,yc,ym,yB,yj,yd,rfl,⟨y0,y1,y2,y3⟩,hY⟩:=hR2.at_ hk6;have eX : ((qM rs)[i]?.getD [])[k]?.getD 0 = Zk (qM rs) i k:=rfl;have eY : ((qM rs)[k]?.getD [])[k]?.getD 0 = Zk (qM rs) k k:=rfl;rw [eX] at hX;rw [eY] at hY;have s1:=hSm.out i k;have s2:=hSm.out k k;have hne0:=Za (hdg.out k hk6);replace hO:=Za hO;clear eX eY hR hR2 hrF;go_wp2_with fail;have hSv1 : Hid (∀ wx,Below wi.heap.size wi wx -> wx.cell? ⟨g1,o1 + i,none⟩ = some (.slice (some ⟨g2,o2,none⟩) 6 c') /\ wx.cell? ⟨g2,o2 + k * 4,none⟩ = some (.bool xn) /\ wx.cell? ⟨g2,o2 + k * 4 + 1,none⟩ = some (.slice xA xk xc) /\ wx.cell? ⟨g2,o2 + k * 4 + 2,none⟩ = some (.bool xm) /\ wx.cell? ⟨g2,o2 + k * 4 + 3,none⟩ = some (.slice xB xj xd) /\ wx.cell? ⟨g1,o1 + k,none⟩ = some (.slice (some ⟨g3,o3,none⟩) 6 c2) /\ wx.cell? ⟨g3,o3 + k * 4,none⟩ = some (.bool yn) /\ wx.cell? ⟨g3,o3 + k * 4 + 1,none⟩ = some (.slice yA yk yc) /\ wx.cell? ⟨g3,o3 + k * 4 + 2,none⟩ = some (.bool ym) /\ wx.cell? ⟨g3,o3 + k * 4 + 3,none⟩ = some (.slice yB yj yd)):=Za (fun wx hbx=>⟨Zc hbx k0,Zc hbx x0,Zc hbx x1,Zc hbx x2,Zc hbx x3,Zc hbx k2,Zc hbx y0,Zc hbx y1,Zc hbx y2,Zc hbx y3⟩);have hr1 : Below wi.heap.size wi wi.drew:=Zh (Below.refl _ _) 1;refine wp_heldS [] hmx hSv1 hr1 (fun hxs1=>?_);refine Zty 14 [0,1,2,3,4,5,6,7,8,9,10,11,12,13] rfl (by kernel_rfl) (hSv1.out _ hr1) ?_
   iterate 14 (refine tk1 (v:=?_) rfl (Or.inl ⟨by kernel_rfl,?_⟩) ?_;rotate_left;(· intro W2 hSw;(try dsimp only at hSw);go_simp;try with_reducible rfl);try simp only [Act.put,putL_a,putL_z,putL_s,putG_a,putG_s,putG_z])
   refine tk0 ?_;refine Zcp [(14,43),(15,28),(16,44),(18,8)] (fun i=>match i with | 15=>[17] | _=>[]) [(14,43),(15,28),(17,45),(16,44),(18,8)] (Zah wi.heap.size (Zk (qM rs) i k / Zk (qM rs) k k) 14 15 16 17 18 17) 2 (by kernel_rfl) (fun _ _ _ _ _ hb h=>Zdq hb h) (fun wx h=>hSv1.out _ (hr1.trans (h.mono hr1.size))) ?hop1 ?hfin1
   case hop1 =>
    intro p hp;simp only [List.mem_cons,List.not_mem_nil,or_false] at hp;simp only [List.map_cons,List.map_nil,Zao,Act.put,putL_a,putL_z,putL_s]
    rcases hp with rfl | rfl | rfl | rfl
    ·intro ν wx hb hP
     have hbx:=hr1.trans (hb.mono hr1.size);refine Zab (i:=14) rfl (fun K hK=>?_);go_simp;refine (Zmy xn xm yn ym xA xB yA yB xk xc xj xd yk yc yj yd _ _ wx (hX.below hbx) (hY.below hbx) s1 s2 hne0.out).mono ?_;rintro e w5 ⟨hb5,na5,A5,k5,c5,nb5,B5,m5,d5,rfl,hf5⟩;exact hK.out _ _ ⟨_,rfl,(by simp only [Zah];exact ⟨_,_,_,_,_,_,_,_,rfl,hf5⟩),hb5,trivial⟩
    ·intro ν wx hb hP
     have h0:=hP (14,43) (by simp) (by kernel_rfl);simp only [Zah] at h0;obtain ⟨na5,A5,k5,c5,nb5,B5,m5,d5,hν,hf5⟩:=h0;rw [hν];refine Zab (i:=15) rfl (fun K hK=>?_);go_simp;refine hK.out _ _ ⟨_,rfl,(by simp only [Zah];exact ⟨_,_,_,_,_,_,_,_,rfl,hf5⟩),Below.refl _ _,?_⟩;exact ⟨_,.int .i64 0,rfl,Or.inl ⟨by kernel_rfl,fun W2 _=>by go_simp⟩,by simp [Zah],trivial⟩
    ·intro ν wx hb hP
     have h0:=hP (15,28) (by simp) (by kernel_rfl);simp only [Zah] at h0;obtain ⟨na5,A5,k5,c5,nb5,B5,m5,d5,hν,hf5⟩:=h0;rw [hν];refine Zab (i:=16) rfl (fun K hK=>?_);go_simp;exact hK.out _ _ ⟨_,rfl,(by simp only [Zah];exact ⟨_,_,_,_,_,_,_,_,rfl,hf5⟩),Below.refl _ _,trivial⟩
    ·intro ν wx hb hP
     refine Zab (i:=18) rfl (fun K hK=>?_);go_simp;exact hK.out _ _ ⟨_,rfl,(by simp only [Zah];exact ⟨_,rfl,hb.size,Blk.new _ _ _⟩),(Below.refl _ _).alloc (Nat.le_refl _) _,trivial⟩
   case hfin1 =>
    intro ν wx hb hP;have h0:=hP (14,43) (by simp);have h1:=hP (15,28) (by simp);have h2:=hP (16,44) (by simp);have h3:=hP (17,45) (by simp);have h4:=hP (18,8) (by simp);simp only [Zah] at h0 h1 h2 h4;obtain ⟨a0,a1,a2,a3,a4,a5,a6,a7,h0,-⟩:=h0;obtain ⟨b0',b1',b2',b3',b4',b5',b6',b7',h1,-⟩:=h1;obtain ⟨bbn,bbA,bbk,bbc,bbm,bbB,bbj,bbd,h2,bbf⟩:=h2;obtain ⟨gbb,h4,kv,qv⟩:=h4;simp only [List.map_cons,List.map_nil,Zao,Act.put,putL_a,putL_z,putL_s];rw [h0,h1,h2,(show ν 45 = Value.int .i64 0 by simpa [Zah] using h3),h4];clear h0 h1 h2 h3 h4 hP ν;have hbx:=hr1.trans (hb.mono hr1.size);have qv4:=qv.four;have kv2 : wi.heap.size <= gbb:=kv;refine (Zaa bbn bbA bbk bbc bbm bbB bbj bbd hbx kv2 qv).elim (fun Zbb hq=>?_);have c0:=qv4.1;have c1':=qv4.2.1;have c2':=qv4.2.2.1;have c3:=qv4.2.2.2.1;have f0:=qv4.2.2.2.2.1;have f1:=qv4.2.2.2.2.2.1;have f2:=qv4.2.2.2.2.2.2.1;have f3:=qv4.2.2.2.2.2.2.2;have hZ:=hq.1;refine Ze (i:=19) rfl (by kernel_rfl) (fun K hK=>?_);go_simp;(try rw [hZ]);refine hK.out _ _ (fun _=>hSv1.out _ hq.2.1) ?_;clear hK K
    try simp only [Act.put,putL_a,putL_z,putL_s]
    refine Ztx 1 [20] rfl (by kernel_rfl) (hSv1.out _ hq.2.1) ?_
    (refine tk1 (v:=?_) rfl (Or.inl ⟨by kernel_rfl,?_⟩) ?_;rotate_left;(· intro W2 _;go_simp;try with_reducible rfl);try simp only [Act.put,putL_a,putL_z,putL_s,putG_a,putG_s,putG_z])
    refine tk0 ?_;refine Zj (by kernel_rfl) ?_ _;refine OnlyNormal.normal ?_;have hbZbb:=hq.2.1;have bbb:=Za hq.2.2.1;replace bbf:=Za (Fr.keep bbf hq.2.2.2.1);clear hq hZ c0 c1' c2' c3 f0 f1 f2 f3 qv4 qv kv hbx hb hr1 hSv1 hxs1;obtain ⟨z0,z1,z2,z3,-⟩:=bbb.out.four;obtain ⟨Y1,hY1⟩ : ∃ Y,Zbb.alloc (.cells #[.bool bbn,.slice bbA bbk bbc,.bool bbm,.slice bbB bbj bbd] 29) = Y:=⟨_,rfl⟩;obtain ⟨gz,hgz⟩ : ∃ g,Zbb.heap.size = g:=⟨_,rfl⟩
    have hBY : Below Zbb.heap.size Zbb Y1:=by rw [<- hY1];exact (Below.refl _ _).alloc (Nat.le_refl _) _
    have hbY : Blk Y1 gz 29 #[.bool bbn,.slice bbA bbk bbc,.bool bbm,.slice bbB bbj bbd]:=by rw [<- hY1,<- hgz];exact Blk.new _ _ _
    have hOY:=(hO.out.kept hbZbb).kept hBY;have hfY:=bbf.out.below hBY;have hjY : Below w1.heap.size w1 Y1:=hBi.trans ((hbZbb.trans (hBY.mono hbZbb.size)).mono hBi.size);have hsz:=hjY.size
    have hll : ((Ze9 (Zk (qM rs)) k).take i).length + 1 <= 1000:=by rw [hrl];omega
    have hsc:=Zku (Q:=Zk (qM rs)) (k:=k) hi6;go_wp2_with ((try rw [hY1]);(try rw [hgz]);at_builtin;refine Za3 _ rfl (.tmp 46) (.tmp 48) 23 rfl w1.heap.size 29 iF Tryz.underlying23 hi hz0 hz1 hz2 _ _ rfl hOY _ (some ⟨gz,0,none⟩) 1 1 [⟨bbn,bbA,bbk,bbc,bbm,bbB,bbj,bbd,Zk (qM rs) i k / Zk (qM rs) k k⟩] rfl (Zal _ hbY) rfl (by intro e he;rw [List.mem_singleton] at he;subst he;exact hfY) hll hsz ?_;intro v7 w7 hO7 hg7 hk7);have hj7:=hjY.grown hg7 hsz (fun k hk=>hOY.row_ge k hk);simp only [List.map_cons,List.map_nil] at hO7;rw [hsc] at hO7;replace hO7:=Za hO7
    go_roundg (6 - (i + 1))
    case measure=>omega
    case rel=>exact ⟨i + 1,by omega,by go_num,hO7.out,hj7⟩
theorem Zrd (na nb : Bool) (A B : Option Addr) (n c m d : Nat) (x : Rat) (w : World) (hx : Fr w na A n c nb B m d x) (hs : Sm x) :
    Calls Tryz.prog 83 #[.agg #[.bool na,.slice A n c,.bool nb,.slice B m d]] w (NumE w (Int.fdiv x.num x.den)):=by
 obtain ⟨W0,hW0,hB0,⟨q0,q1,q2⟩,s0⟩:=Zbm w 29 #[.bool na,.slice A n c,.bool nb,.slice B m d] 27 #[.bool false,.slice none 0 0] 30 #[.int .i64 0];have hX:=Za (hx.below hB0)
 have hmx : Tryz.prog.follows .mixedOrders = true:=by kernel_rfl
 clear hx hs;replace hW0:=Za hW0;obtain ⟨a0,a1,a2,a3,-⟩:=q0.four;have hq:=Za (And.intro q0 (And.intro q1 q2));clear q0 q1 q2
 go_enter_defers Tryz.func83,Tryz.ntmps83
 have hW0':=hW0.out;go_wp2_with fail;clear hW0 hW0';refine (Zb8 na nb A B n c m d x W0 hX.out).mono ?_;rintro e w1 ⟨rfl,hb1⟩;have hB1 : Below w.heap.size w w1:=hB0.trans (hb1.mono hB0.size);have s1 : W0.heap.size <= w1.heap.size:=hb1.size;replace hX:=Za (hX.out.below hb1);obtain ⟨q0,q1,q2⟩:=hq.out;replace q0:=Zb hb1 q0;replace q1:=Zb hb1 q1;replace q2:=Zb hb1 q2;clear hq hb1 hB0 a0 a1 a2 a3;obtain ⟨a0,a1,a2,a3,-⟩:=q0.four;have hq:=Za (And.intro q0 (And.intro q1 q2));clear q0 q1 q2;go_wp2_with fail;refine (Zcs w1).mono ?_;rintro e w1 ⟨rfl,rfl⟩;go_wp2_with fail;refine (Zda na nb A B n c m d x.num x.den w1 hX.out.1 hX.out.2 (by have:=x.den_pos;omega)).mono ?_;rintro e w2 ⟨hb2,nq,Aq,kq,cq,nr,Ar,kr,cr,rfl,hQ,hR⟩;have hB2 : Below w.heap.size w w2:=hB1.trans (hb2.mono hB1.size);have s2 : w1.heap.size <= w2.heap.size:=hb2.size;replace hX:=Za (hX.out.below hb2);obtain ⟨q0,q1,q2⟩:=hq.out;replace q0:=((Zb hb2 q0).alloc (.cells #[.bool nq,.slice Aq kq cq] 27)).alloc (.cells #[.bool nr,.slice Ar kr cr] 27);replace q1:=((Zb hb2 q1).alloc (.cells #[.bool nq,.slice Aq kq cq] 27)).alloc (.cells #[.bool nr,.slice Ar kr cr] 27);replace q2:=((Zb hb2 q2).alloc (.cells #[.bool nq,.slice Aq kq cq] 27)).alloc (.cells #[.bool nr,.slice Ar kr cr] 27);have q4 : Blk ((w2.alloc (.cells #[.bool nq,.slice Aq kq cq] 27)).alloc (.cells #[.bool nr,.slice Ar kr cr] 27)) w2.heap.size 27 #[.bool nq,.slice Aq kq cq]:=(Blk.new w2 _ _).alloc _
 have q5 : Blk ((w2.alloc (.cells #[.bool nq,.slice Aq kq cq] 27)).alloc (.cells #[.bool nr,.slice Ar kr cr] 27)) (w2.heap.size + 1) 27 #[.bool nr,.slice Ar kr cr]:=by
  have:=Blk.new (w2.alloc (.cells #[.bool nq,.slice Aq kq cq] 27)) 27 #[.bool nr,.slice Ar kr cr];simp only [World.size_alloc] at this;exact this
 have hB3 : Below w.heap.size w ((w2.alloc (.cells #[.bool nq,.slice Aq kq cq] 27)).alloc (.cells #[.bool nr,.slice Ar kr cr] 27)):=(hB2.alloc hB2.size _).alloc (by have:=hB2.size;simp;omega) _;have hX3:=(hX.out.alloc (.cells #[.bool nq,.slice Aq kq cq] 27)).alloc (.cells #[.bool nr,.slice Ar kr cr] 27);have hQ3:=(hQ.alloc (.cells #[.bool nq,.slice Aq kq cq] 27)).alloc (.cells #[.bool nr,.slice Ar kr cr] 27);have hR3:=(hR.alloc (.cells #[.bool nq,.slice Aq kq cq] 27)).alloc (.cells #[.bool nr,.slice Ar kr cr] 27);have e1:=q2.frozen 0;have e0:=q2.cell 0;simp only [List.getElem?_toArray,List.getElem?_cons_zero] at e0;have hs2:=hB2.size;clear hq hb2 hB1 a0 a1 a2 a3 hQ hR hX;have hX:=Za hX3;have hQ:=Za hQ3;have hR:=Za hR3;have hq:=Za (And.intro q0 (And.intro q1 (And.intro q2 (And.intro q4 q5))));clear q0 q1 q2 q4 q5 hX3 hQ3 hR3;replace hB3:=Za hB3;go_wp2_with fail;obtain ⟨q0,q1,q2,q4,q5⟩:=hq.out;obtain ⟨W5,hW5,hB5,q2',kW,kB,s5⟩:=Zbe 0 hB3.out (by omega) q2;replace q0:=kB _ _ _ (by omega) q0;replace q1:=kB _ _ _ (by omega) q1;replace q4:=kB _ _ _ (by omega) q4;replace q5:=kB _ _ _ (by omega) q5;replace hX : Hid (Fr W5 na A n c nb B m d x):=Za ⟨kW _ _ _ _ _ hX.out.1,kW _ _ _ _ _ hX.out.2⟩;replace hQ:=Za (kW _ _ _ _ _ hQ.out);replace hR:=Za (kW _ _ _ _ _ hR.out);rw [hW5];clear hq hB3 q2 kW kB hW5 e0 e1 q5 hR hX;obtain ⟨c0,c1,-⟩:=q4.two;obtain ⟨x0,x1,f0,f1⟩:=q1.two;have e0:=q2'.cell 0;have e1:=q2'.frozen 0;simp only [List.getElem?_toArray,List.getElem?_cons_zero] at e0
 have hq:=Za (And.intro q1 (And.intro q2' q4));clear q0 q1 q2' q4;replace hB5:=Za hB5;refine Z0 [] (fun wx=>wx.cell? ⟨w2.heap.size,0,none⟩ = some (.bool nq) /\ wx.cell? ⟨w2.heap.size,1,none⟩ = some (.slice Aq kq cq) /\ wx.cell? ⟨w.heap.size + 1 + 1,0,none⟩ = some (.int .i64 0)) hmx ⟨c0,c1,e0⟩ (fun _=>?_);refine Zty 2 [0,1] rfl (by kernel_rfl) ⟨c0,c1,e0⟩ ?_
 iterate 2 (refine tk1 (v:=?_) rfl (Or.inl ⟨by kernel_rfl,?_⟩) ?_;rotate_left;(· intro W2 hSw;(try dsimp only at hSw);go_simp;try with_reducible rfl);try simp only [Act.put,putL_a,putL_z,putL_s,putG_a,putG_s,putG_z])
 refine tk0 ?_;obtain ⟨u1,u2,u4⟩:=hq.out;obtain ⟨Wa,hWa,hBa,qa,kW,kB,sa⟩:=Z6 nq Aq kq cq hB5.out (by omega) u1;replace u2:=kB _ _ _ (by omega) u2;replace u4:=kB _ _ _ (by omega) u4;have HZ:=kW _ _ _ _ _ hQ.out;have g0:=u2.cell 0;have g1:=u2.frozen 0;simp only [List.getElem?_toArray,List.getElem?_cons_zero] at g0;obtain ⟨v0,v1,-⟩:=u4.two;refine Ze (i:=2) rfl (by kernel_rfl) (fun K hK=>?_);go_simp;(try rw [hWa]);refine hK.out _ _ (fun _=>⟨v0,v1,g0⟩) ?_;clear hK K
 try simp only [Act.put,putL_a,putL_z,putL_s,putG_a,putG_s,putG_z]
 obtain ⟨Wb,hWb,hBb,qb,kW2,kB2,sb⟩:=Zbe 0 hBa (by omega) u2;replace qa:=kB2 _ _ _ (by omega) qa;replace HZ:=kW2 _ _ _ _ _ HZ;replace u4:=kB2 _ _ _ (by omega) u4;obtain ⟨z0,z1,-⟩:=u4.two;have z2:=qb.cell 0;simp only [List.getElem?_toArray,List.getElem?_cons_zero] at z2;refine Ze (i:=3) rfl (by kernel_rfl) (fun K hK=>?_);go_simp;(try rw [hWb]);refine hK.out _ _ (fun _=>⟨z0,z1,z2⟩) ?_;clear hK K
 try simp only [Act.put,putL_a,putL_z,putL_s,putG_a,putG_s,putG_z]
 refine Zj (by kernel_rfl) ?_ _;refine OnlyNormal.normal ?_;obtain ⟨y0,y1,-⟩:=qa.two;have y4:=qb.cell 0;simp only [List.getElem?_toArray,List.getElem?_cons_zero] at y4;replace HZ:=Za HZ;replace hBb:=Za hBb;clear hBa kW kB kW2 kB2 u1 u2 hWa hWb x0 x1 f0 f1 e0 e1 g0 g1 c0 c1 hq;go_wp2_with fail;refine leaves_cons (f:=144) (args:=#[.pointer (some ⟨w.heap.size + 1 + 1,0,none⟩)]) (by simp) (by simp [go_sem]) ?_;refine (Zbh _ _).mono ?_;rintro e u' w'' ⟨rfl,rfl,rfl⟩;refine ⟨.tuple #[.agg #[.bool nq,.slice Aq kq cq],.int .i64 0],by simp [results,Tryz.results83,go_sem,y0,y1,y4],?_⟩;exact ⟨Zh hBb.out 1,_,_,_,_,rfl,HZ.out⟩
theorem Zjy (a : Int) : 0 <= a * a:=by
 rcases Int.lt_or_le a 0 with h | h
 ·have:=Int.mul_nonneg (show 0 <= -a by omega) (show 0 <= -a by omega)
  rw [Int.neg_mul_neg] at this;exact this
 ·exact Int.mul_nonneg h h
theorem Zn1 {a b H : Int} (ha : 0 <= a) (h : a + b <= 2 * H) : a * b <= H * H:=by
 have h1 : a * b <= a * (2 * H - a):=Int.mul_le_mul_of_nonneg_left (by omega) ha;have h2:=Zjy (H - a)
 have h3 : (H - a) * (H - a) = H * H - a * (2 * H - a):=by grind
 omega
theorem Zkb {s x : Nat} (hx : 0 < x) : s < ((s / x + x) / 2 + 1) * ((s / x + x) / 2 + 1):=by
 have h1 : s < (s / x + 1) * x:=by
  have:=Nat.lt_mul_div_succ s hx;rw [Nat.mul_comm] at this;exact this
 obtain ⟨q,hq⟩ : ∃ q,s / x = q:=⟨_,rfl⟩;rw [hq] at h1 ⊢;obtain ⟨h,hh⟩ : ∃ h,(q + x) / 2 = h:=⟨_,rfl⟩;rw [hh]
 have h2 : q + x <= 2 * h + 1:=by omega
 have h3:=Zn1 (a:=((q + 1 : Nat) : Int)) (b:=(x : Int)) (H:=((h + 1 : Nat) : Int)) (by omega) (by omega)
 have h4 : (q + 1) * x <= (h + 1) * (h + 1):=by exact_mod_cast h3
 omega
theorem Zom {s x : Nat} (h : x <= (s / x + x) / 2) : x * x <= s:=by
 have h1 : x <= s / x:=by omega
 have h2:=Nat.div_mul_le_self s x;have h3 : x * x <= s / x * x:=Nat.mul_le_mul_right x h1;omega
def IsRoot (s r : Nat) : Prop:=r * r <= s /\ s < (r + 1) * (r + 1)
theorem IsRoot.unique {s r t : Nat} (h : IsRoot s r) (k : IsRoot s t) : r = t:=by
 obtain ⟨h1,h2⟩:=h;obtain ⟨k1,k2⟩:=k
 rcases Nat.lt_trichotomy r t with h3 | h3 | h3
 ·have : (r + 1) * (r + 1) <= t * t:=Nat.mul_le_mul h3 h3
  omega
 ·exact h3
 ·have : (t + 1) * (t + 1) <= r * r:=Nat.mul_le_mul h3 h3
  omega
theorem Zhn {s x : Nat} (hs : s < (x + 1) * (x + 1)) (h : x <= (s / x + x) / 2) : IsRoot s x:=⟨Zom h,hs⟩
end Go.Proofs.YtaioanjcjijckaaGreat
