/- Package linear: vector, Check, square; the reference's -/
import Derived.Deep.LoopGhost
import Derived.Test.YtpehacgjclkhmaaGreatZy39
set_option maxRecDepth 100000
set_option maxHeartbeats 2000000
set_option linter.unusedSimpArgs false
set_option linter.unusedVariables false
namespace Go.Proofs.YtpehacgjclkhmaaGreat
open Go.RowKit
attribute [local go_sem] Zg
structure RI where
 A : Option Addr
 n : Nat
 c : Nat
 l : List Int
section
variable {w w' : World} {A : Option Addr} {n c : Nat} {rs : List RI}
end
def idxOk (n : Nat) (ls : List Int) (k : Nat) : Prop:=(0 <= ls[k]?.getD 0 /\ ls[k]?.getD 0 < n) /\ ∀ j : Nat,j < k -> ls[j]?.getD 0 ≠ ls[k]?.getD 0
instance (n : Nat) (ls : List Int) (k : Nat) : Decidable (idxOk n ls k):=by unfold idxOk;infer_instance
section
variable {rs : List RX} {ls : List Int} {n : Nat}
end
theorem Zk1 {P : Program} (t e : TypeId) {i : TypeInfo} (ht : P.underlying t = some (.slice e)) (hi : P.info? e = some i) (hz : i.zero = some (.agg #[.bool false,.slice none 0 0,.bool false,.slice none 0 0])) (hs : i.size = 4) (hb : i.bytes = 64)
    (n : Nat) (hn : n <= 1000000000000) (W : World) :
    (Instr.makeSlice t (.int .i64 0) (.int .i64 (n : Int))).run P W = .ok (.slice (some ⟨W.heap.size,0,none⟩) 0 n) (W.alloc (.cells (Z1 (List.replicate n Zab)) e)):=by
 have hr:=run_make (P:=P) W t e i _ ht hi hz .i64 .i64 0 n (by omega) (by omega) (by rw [hb];omega) (by omega);simp only [Int.toNat_natCast,Int.toNat_zero] at hr;rw [hr,hs,Zhc]
theorem Zix (t : TypeId) (w : World) (n : Nat) (hn : n <= maxLen) : OwnF t (w.alloc (.cells (Z1 (List.replicate n Zab)) t)) w.heap.size (.slice (some ⟨w.heap.size,0,none⟩) 0 n) []:=
 ⟨[],.inr ⟨w.heap.size,n,by rw [List.length_nil,Nat.zero_add],Nat.le_refl _,by rw [List.length_nil,Nat.zero_add];exact hn,by rw [List.nil_append];exact Blk.new _ _ _⟩,fun e he=>(by cases he),rfl⟩
theorem Zpc (z : Int) (w : World) :
    Calls Tryz.prog 151 #[.int .i64 z,.int .i64 0] w fun e w'=>e = .returned (.int .i64 z) /\ w' = w:=by
 go_enter Tryz.func151,Tryz.ntmps151;go_wp2_with fail;refine (Zcn 0 w).mono ?_;rintro e w1 ⟨rfl,rfl⟩;go_wp2_with fail;go_returns;exact ⟨rfl,rfl⟩
theorem Zpb (na : Bool) (A : Option Addr) (n c : Nat) (z : Int) (w : World) (hz : Wd w na A n c z) :
    Calls Tryz.prog 152 #[.agg #[.bool na,.slice A n c]] w fun e w'=>e = .returned (.tuple #[.int .i64 (Zbp z 0),.int .i64 0]) /\ Below w.heap.size w w':=by
 obtain ⟨r,hr⟩ : ∃ r,Zbp z 0 = r:=⟨_,rfl⟩;rw [hr];obtain ⟨W0,hW0,hB,q,sz⟩:=Zb3 w 27 #[.bool na,.slice A n c];replace hz:=Za (hz.below hB);obtain ⟨s0,s1,-,-⟩:=q.two;go_enter Tryz.func152,Tryz.ntmps152;go_wp2_with fail;refine (Zkd na false A none n c 0 0 z 0 W0 hz.out (Wd.zero _)).mono ?_;rintro e w1 ⟨rfl,hb1⟩;have hB1:=hB.trans (hb1.mono hB.size);rw [hr];replace hr:=Za hr;go_wp2_with fail;go_returns;exact ⟨rfl,hB1⟩
theorem Zlv (xn : Bool) (xA : Option Addr) (xk xc : Nat) (xm : Bool) (xB : Option Addr) (xj xd : Nat) (q : Rat) (w : World) (h : Fr w xn xA xk xc xm xB xj xd q) :
    Calls Tryz.prog 102 #[.agg #[.bool xn,.slice xA xk xc,.bool xm,.slice xB xj xd]] w fun e w'=>e = .returned (.int .i64 (Zbp q.num 0)) /\ Below w.heap.size w w':=by
 obtain ⟨W0,hW0,hB0,q0,s0⟩:=Zb3 w 91 #[.bool xn,.slice xA xk xc,.bool xm,.slice xB xj xd];obtain ⟨a0,a1,a2,a3,-⟩:=q0.four;have hX:=h.below hB0;go_enter Tryz.func102,Tryz.ntmps102;go_wp2_with fail;(try rw [hW0]);refine (Zpb xn xA xk xc q.num W0 hX.1).mono ?_;rintro e w1 ⟨rfl,hb1⟩;go_wp2_with fail;refine (Zpc _ w1).mono ?_;rintro e w2 ⟨rfl,rfl⟩;go_wp2_with fail;go_returns;exact ⟨rfl,hB0.trans (hb1.mono hB0.size)⟩
def Zgp (a : Rat) (qs : List Rat) : Nat -> Rat
 | 0=>a
 | j + 1=>Zgp a qs j * (qs[j]?.getD 0)
theorem Zi6 (an : Bool) (aA : Option Addr) (ak ac : Nat) (am : Bool) (aB : Option Addr) (aj ad : Nat) (a : Rat) (L : Option Addr) (k cap : Nat) (qs : List Rat) (w : World) (ha : Fr w an aA ak ac am aB aj ad a) (hl : FL w L k cap qs) (hk : k <= 100) (hs : ∀ j,j < k -> Sm (Zgp a qs j)) (he : ∀ j : Nat,j < k -> Sm (qs[j]?.getD 0)) :
    Calls Tryz.prog 51 #[.agg #[.bool an,.slice aA ak ac,.bool am,.slice aB aj ad],.slice L k cap] w (Zfz w (Zgp a qs k)):=by
 have hcap:=hl.cap;unfold maxLen at hcap;obtain ⟨W0,hW0,hB0,⟨q0,q1⟩,s0⟩:=Zfg w 91 #[.bool an,.slice aA ak ac,.bool am,.slice aB aj ad] 91 #[.bool false,.slice none 0 0,.bool false,.slice none 0 0];obtain ⟨g0,hg0⟩ : ∃ g,w.heap.size = g:=⟨_,rfl⟩;obtain ⟨gR,hgR⟩ : ∃ g,g0 + 1 = g:=⟨_,rfl⟩;rw [hg0] at q0 q1 s0 hB0;rw [hgR] at q1;have hA:=ha.below (hg0 ▸ hB0);have hsz : Hid (W0.heap.size = gR + 1):=Za (by rw [s0];omega);have hlH:=Za hl;have hsH:=Za hs;have heH:=Za he;have hg0H:=Za hg0;clear hl hs he;go_enter Tryz.func51,Tryz.ntmps51;go_wp2_with fail;(try rw [hW0]);(try rw [hg0]);(try rw [hgR]);have hgRH:=Za hgR;clear hW0 hg0 hgR
 go_loopg [9] k (fun t iv wr=>∃ (i : Nat) (xn : Bool) (xA : Option Addr) (xk xc : Nat) (xm : Bool) (xB : Option Addr) (xj xd : Nat),i + t = k /\ iv = .int .i64 i /\ Blk wr g0 91 #[.bool xn,.slice xA xk xc,.bool xm,.slice xB xj xd] /\ Hid (Fr wr xn xA xk xc xm xB xj xd (Zgp a qs i)) /\ Kept (fun k=>k = g0) W0 wr)
 case atStart=>exact ⟨0,_,_,_,_,_,_,_,_,by omega,rfl,q0,Za hA,Kept.refl _ _⟩
 case round =>
  obtain ⟨i,xn,xA,xk,xc,xm,xB,xj,xd,hik,rfl,hb3,hX,hK⟩:=hrel;have hsz':=hsz.out;have hgR':=hgRH.out;have hbR:=hK.blk q1 (by omega);have hBwr : Below g0 w wr:=hB0.trans (hK.to_below (fun k hk=>by omega) (by omega));obtain ⟨x0,x1,x2,x3,y0,y1,y2,y3⟩:=hb3.four
  cases gk with
  | zero =>
   obtain rfl : i = k:=by omega
   have t1 : decide ((i : Int) < (i : Int)) = false:=by simp
   obtain ⟨c0,c1,c2,c3,z0,z1,z2,z3⟩:=hbR.four;obtain ⟨W5,hW5,q5,hK5,s5⟩:=Zcg xn xA xk xc xm xB xj xd hbR;go_wp2_with fail;(try rw [hW5]);obtain ⟨r0,r1,r2,r3,-⟩:=q5.four;refine bodyPost_ret (v:=.agg #[.bool xn,.slice xA xk xc,.bool xm,.slice xB xj xd]) (by simp [results,Tryz.results51,go_sem,r0,r1,r2,r3]) rfl ?_;refine ⟨?_,_,_,_,_,_,_,_,_,rfl,hX.out.keptN hK5 hbR (Zcl _ _ _ _ _ _ _ _)⟩;rw [hg0H.out];exact hBwr.trans (hK5.to_below (fun k e=>by omega) (by have:=hBwr.size;have:=hK.size;omega))
  | succ t =>
   obtain rfl : t = k - (i + 1):=by omega
   have hin : i < k:=by omega
   have t1 : decide ((i : Int) < (k : Int)) = true:=decide_eq_true (by omega)
   have bi : (i : Int) < (k : Int):=by omega
   obtain ⟨gl,o,yn,yA,yk,yc,ym,yB,yj,yd,rfl,⟨c0,c1,c2,c3⟩,hY⟩:=(hlH.out.below (hg0H.out ▸ hBwr)).at_ hin;obtain ⟨W1,hW1,hB1,p1,s1⟩:=Zb3 wr 91 #[.bool false,.slice none 0 0,.bool false,.slice none 0 0];obtain ⟨gn,hgn⟩ : ∃ g,wr.heap.size = g:=⟨_,rfl⟩;rw [hgn] at p1 s1;have hb31:=Zc hB1 hb3;obtain ⟨u0,u1,u2,u3,v0,v1,v2,v3⟩:=p1.four;obtain ⟨W2,hW2,p2,hK2,s2⟩:=Zcg yn yA yk yc ym yB yj yd p1;have hB2 : Below wr.heap.size wr W2:=hB1.trans (hK2.to_below (fun k e=>by omega) hB1.size);have hX2:=hX.out.below hB2;have hY2:=hY.below hB2;have hb32:=Zc hB2 hb3;obtain ⟨m0,m1,m2,m3,n0,n1,n2,n3⟩:=hb32.four;obtain ⟨o0,o1,o2,o3,-⟩:=p2.four;have e0:=Zb hB1 c0;have e1:=Zb hB1 c1;have e2:=Zb hB1 c2;have e3:=Zb hB1 c3;go_wp2_with fail;(try rw [hW2]);go_wp2_with fail;refine (Znt xn xm yn ym xA xB yA yB xk xc xj xd yk yc yj yd _ _ W2 hX2 hY2 (hsH.out i hin) (heH.out i hin)).mono ?_;rintro e w3 ⟨hb3',pn,pA,pk,pc,pm,pB,pj,pd,rfl,hf⟩;go_wp2_with fail;refine (Zic pn pm pA pB pk pc pj pd _ w3 hf).mono ?_;rintro e w4 ⟨hb4,rn,rA,rk,rc,rm,rB,rj,rd,rfl,hr⟩;have hb34:=Zc hb4 (Zc hb3' hb32);obtain ⟨m0',m1',m2',m3',n0',n1',n2',n3'⟩:=hb34.four;obtain ⟨W5,hW5,q5,hK5,s5⟩:=Zcg rn rA rk rc rm rB rj rd hb34;clear x0 x1 x2 x3 y0 y1 y2 y3 m0 m1 m2 m3 n0 n1 n2 n3 o0 o1 o2 o3 u0 u1 u2 u3 v0 v1 v2 v3 e0 e1 e2 e3 c0 c1 c2 c3;go_wp2_with fail;(try rw [hW5]);have hF5:=Za (hr.keptN hK5 hb34 (Zcl _ _ _ _ _ _ _ _));have hK6 : Kept (fun k=>k = g0) W0 W5:=((hK.below hB2).below (hb3'.trans (hb4.mono hb3'.size))).trans hK5
   go_roundg (k - (i + 1))
   case measure=>omega
   case rel=>exact ⟨i + 1,_,_,_,_,_,_,_,_,by omega,by go_num,q5,hF5,hK6⟩
end Go.Proofs.YtpehacgjclkhmaaGreat
