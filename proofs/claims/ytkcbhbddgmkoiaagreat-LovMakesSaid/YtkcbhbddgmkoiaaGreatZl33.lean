/- Package covar: its falls, and its numbers. Package covar: -/
import Derived.Deep.LoopGhost
import Derived.Test.YtkcbhbddgmkoiaaGreatZl32
import Derived.Test.YtkcbhbddgmkoiaaGreatZl27
import Derived.Test.YtkcbhbddgmkoiaaGreatZl26
set_option maxRecDepth 100000
set_option maxHeartbeats 2000000
set_option linter.unusedSimpArgs false
set_option linter.unusedVariables false
namespace Go.Proofs.YtkcbhbddgmkoiaaGreat
open Go.RowKit
attribute [local go_sem] Zg
theorem Za3 {t : TypeId} {w : World} {g : Nat} {a0 : Bool} {A0 : Option Addr} {n0 c0 : Nat} {b0 : Bool} {B0 : Option Addr} {m0 d0 : Nat} (na : Bool) (A : Option Addr) (n c : Nat) (nb : Bool) (B : Option Addr) (m d : Nat) (hb : Blk w g t #[.bool a0,.slice A0 n0 c0,.bool b0,.slice B0 m0 d0]) :
    ∃ W,(((w.setCell ⟨g,0,none⟩ (.bool na)).setCell ⟨g,1,none⟩ (.slice A n c)).setCell ⟨g,2,none⟩ (.bool nb)).setCell ⟨g,3,none⟩ (.slice B m d) = W /\ Blk W g t #[.bool na,.slice A n c,.bool nb,.slice B m d] /\ Kept (fun k=>k = g) w W /\ W.heap.size = w.heap.size:=by
 have hb1 : Blk (w.setCell ⟨g,0,none⟩ (.bool na)) g t #[.bool na,.slice A0 n0 c0,.bool b0,.slice B0 m0 d0]:=hb.set_ 0 (.bool na);have hb2 : Blk ((w.setCell ⟨g,0,none⟩ (.bool na)).setCell ⟨g,1,none⟩ (.slice A n c)) g t #[.bool na,.slice A n c,.bool b0,.slice B0 m0 d0]:=hb1.set_ 1 (.slice A n c);have hb3 : Blk (((w.setCell ⟨g,0,none⟩ (.bool na)).setCell ⟨g,1,none⟩ (.slice A n c)).setCell ⟨g,2,none⟩ (.bool nb)) g t #[.bool na,.slice A n c,.bool nb,.slice B0 m0 d0]:=hb2.set_ 2 (.bool nb);have hb4 : Blk ((((w.setCell ⟨g,0,none⟩ (.bool na)).setCell ⟨g,1,none⟩ (.slice A n c)).setCell ⟨g,2,none⟩ (.bool nb)).setCell ⟨g,3,none⟩ (.slice B m d)) g t #[.bool na,.slice A n c,.bool nb,.slice B m d]:=hb3.set_ 3 (.slice B m d);have k0 : Kept (fun k=>k = g) w w:=Kept.refl _ _;exact ⟨_,rfl,hb4,(((k0.set_ (p:=⟨g,0,none⟩) (.inl rfl) _).set_ (p:=⟨g,1,none⟩) (.inl rfl) _).set_ (p:=⟨g,2,none⟩) (.inl rfl) _).set_ (p:=⟨g,3,none⟩) (.inl rfl) _,by simp⟩
theorem Fr.keptN {w w' : World} {na : Bool} {A : Option Addr} {n c : Nat} {nb : Bool} {B : Option Addr} {m d : Nat} {r : Rat} {g : Nat} {t : TypeId} {cs : Array Value} (h : Fr w na A n c nb B m d r) (hk : Kept (fun k=>k = g) w w') (hb : Blk w g t cs) (hn : NoLimb cs) : Fr w' na A n c nb B m d r:=
 ⟨hk.wd h.1 (fun k e=>by cases e;exact ⟨_,_,hb,hn⟩),hk.wd h.2 (fun k e=>by cases e;exact ⟨_,_,hb,hn⟩)⟩
theorem Zbl (a : Bool) (A : Option Addr) (n c : Nat) (b : Bool) (B : Option Addr) (m d : Nat) : NoLimb #[.bool a,.slice A n c,.bool b,.slice B m d]:=fun i x=>by
 match i with
 | 0=>simp
 | 1=>simp
 | 2=>simp
 | 3=>simp
 | i + 4=>simp
theorem Zct (x : Int) (w : World) :
    Calls Tryz.prog 34 #[.bool true,.int .i64 x] w fun e w'=>e = .returned (.tuple #[]) /\ w' = w:=by
 go_enter Tryz.func34,Tryz.ntmps34;go_wp2_with fail
 go_end0
 exact ⟨rfl,rfl⟩
theorem Zb8 (x : Int) (w : World) :
    Calls Tryz.prog 34 #[.bool false,.int .i64 x] w fun e w'=>e = .panicked [{ v:=.iface 119 (.agg #[.int .i64 x]),recovered:=false }] /\ w' = w:=by
 go_enter Tryz.func34,Tryz.ntmps34;go_wp2_with fail;exact ⟨rfl,rfl,rfl⟩
theorem Zlc (p : Addr) (w : World) :
    CallsD Tryz.prog 32 #[.pointer (some p)] .returning w fun e u' w'=>e = .returned (.tuple #[]) /\ u' = .returning /\ w' = w:=by
 refine callsD_of_wpS Tryz.func32 rfl fun c₀ cs hu=>?_
 apply wpS_seq
 apply wpS_region
 simp [wpOpsS,go_sem,recoverD,hu,Tryz.ntmps32,Exit.thenS]
 rw [show (#[Value.pointer (some p)] ++ (Array.replicate 14 undef).setIfInBounds 4 Value.nilIface) = #[Value.pointer (some p),undef,undef,undef,undef,Value.nilIface,undef,undef,undef,undef,undef,undef,undef,undef,undef] from rfl];refine wpS_of_wp ?_;go_wp2_with fail
 cases c₀
 simp_all [bodyPostS,results,Tryz.results32]
theorem Zq1 (x : Int) (w : World) : (Instr.typeAssert (.iface 119 (.agg #[.int .i64 x])) 20 119 true).run Tryz.prog w = .ok (.tuple #[.agg #[.int .i64 x],.bool true]) w:=by kernel_rfl
theorem Zmb (p : Addr) (x y : Int) (w : World) (hc : w.cell? p = some (.int .i64 y)) (hz : w.frozen? p = false) :
    CallsD Tryz.prog 32 #[.pointer (some p)] (.panicking [{ v:=.iface 119 (.agg #[.int .i64 x]),recovered:=false }]) w fun e u' w' =>
     e = .returned (.tuple #[]) /\ u' = .panicking [{ v:=.iface 119 (.agg #[.int .i64 x]),recovered:=true }] /\ w' = (w.alloc (.cells #[.int .i64 x] 119)).setCell p (.int .i64 x):=by
 have hlt:=Zu hc
 have hc1 : (w.alloc (.cells #[.int .i64 x] 119)).cell? p = some (.int .i64 y):=by rw [World.cell?_alloc_lt _ _ _ hlt];exact hc
 have hz1 : (w.alloc (.cells #[.int .i64 x] 119)).frozen? p = false:=by exact ((Below.refl w.heap.size w).alloc (Nat.le_refl _) _ |>.frozen hlt).trans hz
 have hta:=Zq1 x
 refine callsD_of_wpS Tryz.func32 rfl fun c₀ cs hu=>?_
 apply wpS_seq
 apply wpS_region
 simp [wpOpsS,go_sem,recoverD,hu,Tryz.ntmps32,Exit.thenS]
 rw [show (#[Value.pointer (some p)] ++ (Array.replicate 14 undef).setIfInBounds 4 (Value.iface 119 (.agg #[.int .i64 x]))) = #[Value.pointer (some p),undef,undef,undef,undef,Value.iface 119 (.agg #[.int .i64 x]),undef,undef,undef,undef,undef,undef,undef,undef,undef] from rfl];refine wpS_of_wp ?_;go_wp2_with fail
 simp [bodyPostS,results,Tryz.results32]
theorem Zix (na nb : Bool) (A B : Option Addr) (n c m d : Nat) (q : Rat) (w : World) (h : Fr w na A n c nb B m d q) :
    Calls Tryz.prog 72 #[.agg #[.bool na,.slice A n c,.bool nb,.slice B m d],.int .i64 0] w (Zdg w q):=by
 obtain ⟨W0,hW0,hB0,⟨q0,q1⟩,s0⟩:=Zec w 64 #[.bool na,.slice A n c,.bool nb,.slice B m d] 83 #[.bool false,.slice none 0 0,.bool false,.slice none 0 0];obtain ⟨a0,a1,a2,a3,-⟩:=q0.four;obtain ⟨gR,hgR⟩ : ∃ g,w.heap.size + 1 = g:=⟨_,rfl⟩;rw [hgR] at q1;have h0:=h.below hB0;go_enter Tryz.func72,Tryz.ntmps72;go_wp2_with fail;(try rw [hW0]);refine (Zct 0 W0).mono ?_;rintro e w1 ⟨rfl,rfl⟩;(try rw [hgR]);obtain ⟨c0,c1,c2,c3,z0,z1,z2,z3⟩:=q1.four;obtain ⟨W5,hW5,q5,hK5,s5⟩:=Za3 na A n c nb B m d q1;go_wp2_with fail;(try rw [hW5]);obtain ⟨r0,r1,r2,r3,-⟩:=q5.four;refine bodyPost_ret (v:=.agg #[.bool na,.slice A n c,.bool nb,.slice B m d]) (by simp [results,Tryz.results72,go_sem,r0,r1,r2,r3]) rfl ?_;refine ⟨?_,_,_,_,_,_,_,_,_,rfl,h0.keptN hK5 q1 (Zbl _ _ _ _ _ _ _ _)⟩;exact hB0.trans (hK5.to_below (fun k e=>by omega) (by omega))
theorem Zjk (na nb na' nb' : Bool) (A B A' B' : Option Addr) (n c m d n' c' m' d' : Nat) (a b : Rat) (w : World) (ha : Fr w na A n c nb B m d a) (hb : Fr w na' A' n' c' nb' B' m' d' b) (sa : Sm a) (sb : Sm b) :
    Calls Tryz.prog 114 #[.agg #[.bool na,.slice A n c,.bool nb,.slice B m d],.agg #[.bool na',.slice A' n' c',.bool nb',.slice B' m' d']] w (Zdg w (a - b)):=by
 obtain ⟨W0,hW0,hB0,⟨q0,q1,q2⟩,s0⟩:=Zbx w 83 #[.bool na,.slice A n c,.bool nb,.slice B m d] 83 #[.bool na',.slice A' n' c',.bool nb',.slice B' m' d'] 83 #[.bool false,.slice none 0 0,.bool false,.slice none 0 0];obtain ⟨a0,a1,a2,a3,-⟩:=q0.four;obtain ⟨b0,b1,b2,b3,-⟩:=q1.four;obtain ⟨gR,hgR⟩ : ∃ g,w.heap.size + 1 + 1 = g:=⟨_,rfl⟩;rw [hgR] at q2;have hA:=ha.below hB0;have hD:=hb.below hB0;go_enter Tryz.func114,Tryz.ntmps114;go_wp2_with fail;(try rw [hW0]);refine (fSub_ok na nb na' nb' A B A' B' n c m d n' c' m' d' a b W0 hA hD sa sb).mono ?_;rintro e w1 ⟨hb1,pn,pA,pk,pc,pm,pB,pj,pd,rfl,hf⟩;replace q2:=Zc hb1 q2;clear a0 a1 a2 a3 b0 b1 b2 b3 q0 q1 hA hD;go_wp2_with fail;refine (Zix pn pm pA pB pk pc pj pd _ w1 hf).mono ?_;rintro e w2 ⟨hb2,rn,rA,rk,rc,rm,rB,rj,rd,rfl,hr⟩;replace q2:=Zc hb2 q2;(try rw [hgR]);obtain ⟨c0,c1,c2,c3,z0,z1,z2,z3⟩:=q2.four;obtain ⟨W5,hW5,q5,hK5,s5⟩:=Za3 rn rA rk rc rm rB rj rd q2;clear hf;go_wp2_with fail;(try rw [hW5]);obtain ⟨r0,r1,r2,r3,-⟩:=q5.four;refine bodyPost_ret (v:=.agg #[.bool rn,.slice rA rk rc,.bool rm,.slice rB rj rd]) (by simp [results,Tryz.results114,go_sem,r0,r1,r2,r3]) rfl ?_;refine ⟨?_,_,_,_,_,_,_,_,_,rfl,hr.keptN hK5 q2 (Zbl _ _ _ _ _ _ _ _)⟩;have hB2:=hB0.trans ((hb1.trans (hb2.mono hb1.size)).mono hB0.size);exact hB2.trans (hK5.to_below (fun k e=>by omega) hB2.size)
theorem Zpq (z : Int) (w : World) :
    Calls Tryz.prog 140 #[.int .i64 z,.int .i64 0] w fun e w'=>e = .returned (.int .i64 z) /\ w' = w:=by
 go_enter Tryz.func140,Tryz.ntmps140;go_wp2_with fail;refine (Zct 0 w).mono ?_;rintro e w1 ⟨rfl,rfl⟩;go_wp2_with fail;go_returns;exact ⟨rfl,rfl⟩
theorem Zpp (na : Bool) (A : Option Addr) (n c : Nat) (z : Int) (w : World) (hz : Wd w na A n c z) :
    Calls Tryz.prog 141 #[.agg #[.bool na,.slice A n c]] w fun e w'=>e = .returned (.tuple #[.int .i64 (Zbc z 0),.int .i64 0]) /\ Below w.heap.size w w':=by
 obtain ⟨r,hr⟩ : ∃ r,Zbc z 0 = r:=⟨_,rfl⟩;rw [hr];obtain ⟨W0,hW0,hB,q,sz⟩:=Zaq w 62 #[.bool na,.slice A n c];replace hz:=Za (hz.below hB);obtain ⟨s0,s1,-,-⟩:=q.two;go_enter Tryz.func141,Tryz.ntmps141;go_wp2_with fail;refine (Zk2 na false A none n c 0 0 z 0 W0 hz.out (Wd.zero _)).mono ?_;rintro e w1 ⟨rfl,hb1⟩;have hB1:=hB.trans (hb1.mono hB.size);rw [hr];replace hr:=Za hr;go_wp2_with fail;go_returns;exact ⟨rfl,hB1⟩
theorem Zme (xn : Bool) (xA : Option Addr) (xk xc : Nat) (xm : Bool) (xB : Option Addr) (xj xd : Nat) (q : Rat) (w : World) (h : Fr w xn xA xk xc xm xB xj xd q) :
    Calls Tryz.prog 116 #[.agg #[.bool xn,.slice xA xk xc,.bool xm,.slice xB xj xd]] w fun e w'=>e = .returned (.int .i64 (Zbc q.num 0)) /\ Below w.heap.size w w':=by
 obtain ⟨W0,hW0,hB0,q0,s0⟩:=Zaq w 83 #[.bool xn,.slice xA xk xc,.bool xm,.slice xB xj xd];obtain ⟨a0,a1,a2,a3,-⟩:=q0.four;have hX:=h.below hB0;go_enter Tryz.func116,Tryz.ntmps116;go_wp2_with fail;(try rw [hW0]);refine (Zpp xn xA xk xc q.num W0 hX.1).mono ?_;rintro e w1 ⟨rfl,hb1⟩;go_wp2_with fail;refine (Zpq _ w1).mono ?_;rintro e w2 ⟨rfl,rfl⟩;go_wp2_with fail;go_returns;exact ⟨rfl,hB0.trans (hb1.mono hB0.size)⟩
def Zg8 (a : Rat) (qs : List Rat) : Nat -> Rat
 | 0=>a
 | j + 1=>Zg8 a qs j * (qs[j]?.getD 0)
theorem Zjr (an : Bool) (aA : Option Addr) (ak ac : Nat) (am : Bool) (aB : Option Addr) (aj ad : Nat) (a : Rat) (L : Option Addr) (k cap : Nat) (qs : List Rat) (w : World) (ha : Fr w an aA ak ac am aB aj ad a) (hl : FL w L k cap qs) (hk : k <= 100) (hs : ∀ j,j < k -> Sm (Zg8 a qs j)) (he : ∀ j : Nat,j < k -> Sm (qs[j]?.getD 0)) :
    Calls Tryz.prog 36 #[.agg #[.bool an,.slice aA ak ac,.bool am,.slice aB aj ad],.slice L k cap] w (Zdg w (Zg8 a qs k)):=by
 have hcap:=hl.cap;unfold maxLen at hcap;obtain ⟨W0,hW0,hB0,⟨q0,q1⟩,s0⟩:=Zec w 83 #[.bool an,.slice aA ak ac,.bool am,.slice aB aj ad] 83 #[.bool false,.slice none 0 0,.bool false,.slice none 0 0];obtain ⟨g0,hg0⟩ : ∃ g,w.heap.size = g:=⟨_,rfl⟩;obtain ⟨gR,hgR⟩ : ∃ g,g0 + 1 = g:=⟨_,rfl⟩;rw [hg0] at q0 q1 s0 hB0;rw [hgR] at q1;have hA:=ha.below (hg0 ▸ hB0);have hsz : Hid (W0.heap.size = gR + 1):=Za (by rw [s0];omega);have hlH:=Za hl;have hsH:=Za hs;have heH:=Za he;have hg0H:=Za hg0;clear hl hs he;go_enter Tryz.func36,Tryz.ntmps36;go_wp2_with fail;(try rw [hW0]);(try rw [hg0]);(try rw [hgR]);have hgRH:=Za hgR;clear hW0 hg0 hgR
 go_loopg [9] k (fun t iv wr=>∃ (i : Nat) (xn : Bool) (xA : Option Addr) (xk xc : Nat) (xm : Bool) (xB : Option Addr) (xj xd : Nat),i + t = k /\ iv = .int .i64 i /\ Blk wr g0 83 #[.bool xn,.slice xA xk xc,.bool xm,.slice xB xj xd] /\ Hid (Fr wr xn xA xk xc xm xB xj xd (Zg8 a qs i)) /\ Kept (fun k=>k = g0) W0 wr)
 case atStart=>exact ⟨0,_,_,_,_,_,_,_,_,by omega,rfl,q0,Za hA,Kept.refl _ _⟩
 case round =>
  obtain ⟨i,xn,xA,xk,xc,xm,xB,xj,xd,hik,rfl,hb3,hX,hK⟩:=hrel;have hsz':=hsz.out;have hgR':=hgRH.out;have hbR:=hK.blk q1 (by omega);have hBwr : Below g0 w wr:=hB0.trans (hK.to_below (fun k hk=>by omega) (by omega));obtain ⟨x0,x1,x2,x3,y0,y1,y2,y3⟩:=hb3.four
  cases gk with
  | zero =>
   obtain rfl : i = k:=by omega
   have t1 : decide ((i : Int) < (i : Int)) = false:=by simp
   obtain ⟨c0,c1,c2,c3,z0,z1,z2,z3⟩:=hbR.four;obtain ⟨W5,hW5,q5,hK5,s5⟩:=Za3 xn xA xk xc xm xB xj xd hbR;go_wp2_with fail;(try rw [hW5]);obtain ⟨r0,r1,r2,r3,-⟩:=q5.four;refine bodyPost_ret (v:=.agg #[.bool xn,.slice xA xk xc,.bool xm,.slice xB xj xd]) (by simp [results,Tryz.results36,go_sem,r0,r1,r2,r3]) rfl ?_;refine ⟨?_,_,_,_,_,_,_,_,_,rfl,hX.out.keptN hK5 hbR (Zbl _ _ _ _ _ _ _ _)⟩;rw [hg0H.out];exact hBwr.trans (hK5.to_below (fun k e=>by omega) (by have:=hBwr.size;have:=hK.size;omega))
  | succ t =>
   obtain rfl : t = k - (i + 1):=by omega
   have hin : i < k:=by omega
   have t1 : decide ((i : Int) < (k : Int)) = true:=decide_eq_true (by omega)
   have bi : (i : Int) < (k : Int):=by omega
   obtain ⟨gl,o,yn,yA,yk,yc,ym,yB,yj,yd,rfl,⟨c0,c1,c2,c3⟩,hY⟩:=(hlH.out.below (hg0H.out ▸ hBwr)).at_ hin;obtain ⟨W1,hW1,hB1,p1,s1⟩:=Zaq wr 83 #[.bool false,.slice none 0 0,.bool false,.slice none 0 0];obtain ⟨gn,hgn⟩ : ∃ g,wr.heap.size = g:=⟨_,rfl⟩;rw [hgn] at p1 s1;have hb31:=Zc hB1 hb3;obtain ⟨u0,u1,u2,u3,v0,v1,v2,v3⟩:=p1.four;obtain ⟨W2,hW2,p2,hK2,s2⟩:=Za3 yn yA yk yc ym yB yj yd p1;have hB2 : Below wr.heap.size wr W2:=hB1.trans (hK2.to_below (fun k e=>by omega) hB1.size);have hX2:=hX.out.below hB2;have hY2:=hY.below hB2;have hb32:=Zc hB2 hb3;obtain ⟨m0,m1,m2,m3,n0,n1,n2,n3⟩:=hb32.four;obtain ⟨o0,o1,o2,o3,-⟩:=p2.four;have e0:=Zb hB1 c0;have e1:=Zb hB1 c1;have e2:=Zb hB1 c2;have e3:=Zb hB1 c3;go_wp2_with fail;(try rw [hW2]);go_wp2_with fail;refine (Zn0 xn xm yn ym xA xB yA yB xk xc xj xd yk yc yj yd _ _ W2 hX2 hY2 (hsH.out i hin) (heH.out i hin)).mono ?_;rintro e w3 ⟨hb3',pn,pA,pk,pc,pm,pB,pj,pd,rfl,hf⟩;go_wp2_with fail;refine (Zix pn pm pA pB pk pc pj pd _ w3 hf).mono ?_;rintro e w4 ⟨hb4,rn,rA,rk,rc,rm,rB,rj,rd,rfl,hr⟩;have hb34:=Zc hb4 (Zc hb3' hb32);obtain ⟨m0',m1',m2',m3',n0',n1',n2',n3'⟩:=hb34.four;obtain ⟨W5,hW5,q5,hK5,s5⟩:=Za3 rn rA rk rc rm rB rj rd hb34;clear x0 x1 x2 x3 y0 y1 y2 y3 m0 m1 m2 m3 n0 n1 n2 n3 o0 o1 o2 o3 u0 u1 u2 u3 v0 v1 v2 v3 e0 e1 e2 e3 c0 c1 c2 c3;go_wp2_with fail;(try rw [hW5]);have hF5:=Za (hr.keptN hK5 hb34 (Zbl _ _ _ _ _ _ _ _));have hK6 : Kept (fun k=>k = g0) W0 W5:=((hK.below hB2).below (hb3'.trans (hb4.mono hb3'.size))).trans hK5
   go_roundg (k - (i + 1))
   case measure=>omega
   case rel=>exact ⟨i + 1,_,_,_,_,_,_,_,_,by omega,by go_num,q5,hF5,hK6⟩
section
variable {t : TypeId} {w w' : World} {base : Nat} {v : Value} {es : List WE}
end
section
variable {P : Program} (w : World)
end
section
variable {t : TypeId} {w w' : World} {base : Nat} {v : Value} {xs : List Int}
end
section
variable {P : Program} (w : World)
end
structure RS where
 A : Option Addr
 n : Nat
 c : Nat
def RS.val (r : RS) : Value:=.slice r.A r.n r.c
def Zab : List RS -> List Value
 | []=>[]
 | e :: l=>.slice e.A e.n e.c :: Zab l
def Zbj (es : List RS) : Array Value:=(Zab es).toArray
def Zdz : RS:=⟨none,0,0⟩
theorem Zaj (es : List RS) : (Zab es).length = es.length * 1:=by
 induction es with
 | nil=>rfl
 | cons e l ih=>simp only [Zab,List.length_cons,ih];omega
theorem Zdc (es : List RS) : Zab es = es.map RS.val:=by
 induction es with
 | nil=>rfl
 | cons e l ih=>simp only [Zab,List.map_cons,ih];rfl
theorem Znb {es : List RS} {i : Nat} {e : RS} (h : es[i]? = some e) : (Zab es)[i]? = some (.slice e.A e.n e.c):=by
 rw [Zdc,List.getElem?_map,h];rfl
theorem Zg0 {es : List RS} {i : Nat} {e : RS} (h : es[i]? = some e) : (Zbj es)[i]? = some (.slice e.A e.n e.c):=by simpa [Zbj] using Znb h
theorem Zi5 (es : List RS) : ∀ (i x : Nat),(Zab es)[i]? ≠ some (limb x):=by
 intro i x;rw [Zdc,List.getElem?_map]
 cases es[i]? with
 | none=>simp
 | some e=>simp [RS.val]
theorem Zer (es : List RS) : NoLimb (Zbj es):=fun i x=>by simpa [Zbj] using Zi5 es i x
theorem Zbp (es fs : List RS) : Zab (es ++ fs) = Zab es ++ Zab fs:=by simp only [Zdc,List.map_append]
theorem Znj (fs : List RS) : ∀ u ∈ Zab fs,u.oneCell' = true:=by
 intro u h;rw [Zdc] at h;obtain ⟨r,-,rfl⟩:=List.mem_map.1 h
 rfl
theorem Zfg (k : Nat) : (Builtin.zeroCells #[.slice none 0 0] k).toList = Zab (List.replicate k Zdz):=by
 rw [Zdc];unfold Builtin.zeroCells
 apply List.ext_getElem?
 intro i
 by_cases h : i < k
 ·simp [h,Zdz,RS.val,List.getElem?_replicate,Nat.mod_one]
 ·simp [h,List.getElem?_replicate]
def RowS (t : TypeId) (w : World) (base : Nat) (v : Value) (es : List RS) : Prop:=
 (v = .slice none 0 0 /\ es = []) \/ ∃ g sp,v = .slice (some ⟨g,0,none⟩) es.length (es.length + sp) /\ base <= g /\ es.length + sp <= maxLen /\ Blk w g t (Zbj (es ++ List.replicate sp Zdz))
section
variable {t : TypeId} {w w' : World} {base : Nat} {v : Value} {es : List RS}
theorem RowS.own (h : RowS t w base v es) : w.ownsRow base t 1 v es.length (Zab es):=by
 refine ⟨Zaj es,?_⟩
 rcases h with ⟨h1,rfl⟩ | ⟨g,sp,h1,h2,h3,h4⟩
 ·exact .inl ⟨h1,rfl⟩
 ·refine .inr ⟨g,_,_,h1,h2,h4,Nat.le_add_right _ _,h3,?_,?_⟩
  ·simp [Zbj,Zaj]
  ·simp only [Zbj]
   rw [Zbp,<- Zaj es];exact List.take_left
theorem RowS.row_ge (h : RowS t w base v es) : ∀ k,v.ownBlock = some k -> base <= k:=fun k hk=>(h.own.lt k hk).1
theorem RowS.kept (h : RowS t w base v es) (hb : Below w.heap.size w w') : RowS t w' base v es:=by
 rcases h with h | ⟨g,sp,h1,h2,h3,h4⟩
 ·exact .inl h
 ·exact .inr ⟨g,sp,h1,h2,h3,Zc hb h4⟩
theorem RowS.keep (h : RowS t w base v es) (hg : w.grownBy w' v.ownBlock) {A : Option Addr} {n c : Nat} {l : List Nat} (hL : Lim w A n c l) : Lim w' A n c l:=by
 refine ⟨hL.1,hL.2.1,hL.2.2.1,hL.2.2.2.1,fun hn=>?_⟩;obtain ⟨b,o,e,hc⟩:=hL.2.2.2.2 hn;refine ⟨b,o,e,fun k hk=>?_⟩;rw [<- hc k hk];refine World.cell?_of_block (hg.block b (Zu (hc k hk)) (fun e'=>?_))
 rcases h with ⟨rfl,_⟩ | ⟨g,sp,rfl,_,_,h4⟩
 ·cases e'
 ·have hbg : b = g:=by simpa [Value.ownBlock] using e'
  subst hbg;have h1:=hc k hk;rw [h4.cell] at h1;exact Zer _ _ _ h1
end
section
variable {P : Program} (w : World)
theorem Ziq (base : Nat) (t ty e : TypeId) (i : TypeInfo) (ht : P.underlying t = some (.slice e)) (hi : P.info? e = some i) (hz : i.zero = some (.slice none 0 0))
    (hs : i.size = 1) (hby : i.bytes = 24) (v : Value) (es : List RS) (hown : RowS e w base v es)
    (B : Nat) (A : Option Addr) (m c : Nat) (fs : List RS) (hr : Reads w B 1 A m (Zab fs)) (hm : fs.length = m) (h63 : es.length + m <= 1000) (hbase : base <= w.heap.size) :
    ∃ v' w',(Builtin.append_ #[t,t] ty #[v,.slice A m c]).run P w = .ok v' w' /\ RowS e w' base v' (es ++ fs) /\ w.grownBy w' v.ownBlock:=by
 rcases Nat.eq_zero_or_pos m with h0 | h0
 ·subst h0
  obtain rfl : fs = []:=List.eq_nil_of_length_eq_zero hm;rw [List.append_nil]
  rcases A with _ | ad
  ·exact ⟨v,w,Zbq w base t ty e i 1 ht hi v _ _ hown.own c,hown,World.grownBy.refl w _⟩
  ·have hf:=run_firstCells_some (P:=P) w i.size 0 ad 0 c [] (by simp) (by simp)
   rcases hown with ⟨rfl,rfl⟩ | ⟨g,sp,rfl,h2,h3,h4⟩
   ·refine ⟨.slice none 0 0,w,?_,.inl ⟨rfl,rfl⟩,World.grownBy.refl w _⟩
    simp [Builtin.append_,run_underlying ht,sizeOf,typeInfo,hi,Builtin.lenOf,Builtin.firstCells,loadCells,loadCellsFrom]
   ·refine ⟨_,w,?_,.inr ⟨g,sp,rfl,h2,h3,h4⟩,World.grownBy.refl w _⟩
    simp [Builtin.append_,run_underlying ht,sizeOf,typeInfo,hi,Builtin.lenOf,Builtin.firstCells,loadCells,loadCellsFrom,storeCells]
 ·obtain ⟨ad,rfl,_,hc⟩:=hr.2 h0
  have hl : (Zab fs).length = m * i.size:=by rw [Zaj,hm,hs]
  have hle : es.length * i.size = (Zab es).length:=by rw [Zaj,hs]
  rcases hown with ⟨rfl,rfl⟩ | ⟨g,sp,rfl,h2,h3,h4⟩
  ·have hrun:=run_append_nil (P:=P) w t ty e i _ ht hi hz ad m c (Zab fs) hl hc h0 (by omega) (by rw [hby];omega)
   have hge:=grownCap_ge w m 0 e;have hcm:=grownCap_le_maxLen w m 0 e (by unfold maxLen;simp only [List.length_nil] at h63;omega);refine ⟨_,_,hrun,.inr ⟨w.heap.size,grownCap w m 0 e - m,?_,hbase,?_,?_⟩,⟨rfl,rfl,rfl,by simp,fun k hk _=>Below.heap_alloc w.drew _ k hk⟩⟩
   ·rw [List.nil_append,hm,Nat.add_sub_cancel' hge]
   ·rw [List.nil_append,hm,Nat.add_sub_cancel' hge];exact hcm
   ·have:=heap_alloc_new w.drew (.cells ((Zab fs).toArray ++ Builtin.zeroCells (Value.slice none 0 0).cells (grownCap w m 0 e - m)) e)
    unfold Blk;refine this.trans ?_
    congr 1
    have hx : (Zab fs).toArray ++ Builtin.zeroCells (Value.slice none 0 0).cells (grownCap w m 0 e - m) = Zbj ([] ++ fs ++ List.replicate (grownCap w m 0 e - m) Zdz):=by
     apply Array.toList_inj.1
     rw [Array.toList_append,show (Value.slice none 0 0).cells = #[.slice none 0 0] from rfl,Zfg]
     simp [Zbj,Zbp]
    rw [hx]
  ·by_cases hroom : m <= sp
   ·have hrun:=run_append_room (P:=P) w t ty e i ht hi g es.length (es.length + sp) _ h4 ad m c (Zab fs) hl hc (Znj fs) (by omega) (by rw [hle,Zaj,Zaj];simp [Zbj,Zaj];omega)
    refine ⟨_,_,hrun,.inr ⟨g,sp - m,?_,h2,?_,?_⟩,⟨rfl,rfl,rfl,by simp [World.setRow],fun k _ hk=>setRow_other w g k _ (fun e'=>hk (by simp [Value.ownBlock,e']))⟩⟩
    ·rw [List.length_append,hm,show es.length + m + (sp - m) = es.length + sp by omega]
    ·rw [List.length_append,hm];omega
    ·refine (setRow_heap w g _ _ e _ h4).trans ?_
     congr 2
     unfold Zbj
     congr 1
     rw [hle]
     have hrep : List.replicate sp Zdz = List.replicate m Zdz ++ List.replicate (sp - m) Zdz:=by rw [List.replicate_append_replicate];congr 1;omega
     have hlm : (Zab fs).length = (Zab (List.replicate m Zdz)).length:=by rw [Zaj,Zaj,hm,List.length_replicate]
     simp only [Zbp];rw [List.take_left,hlm,<- List.length_append,hrep,Zbp,<- List.append_assoc (Zab es),List.drop_left,List.append_assoc]
   ·have holds : ∀ j u,(Zab es)[j]? = some u -> w.cell? ((⟨g,0,none⟩ : Addr).add j) = some u:=fun j u hu=>by
      rw [Zg,Nat.zero_add,h4.cell];simp only [Zbj,List.getElem?_toArray,Zbp];rw [List.getElem?_append_left (by rw [List.getElem?_eq_some_iff] at hu;exact hu.1)];exact hu
    have hrun:=run_append_grow (P:=P) w t ty e i _ ht hi hz ⟨g,0,none⟩ es.length (es.length + sp) (Zab es) hle.symm holds ad m c (Zab fs) hl hc (by omega) (by omega) (growslice_fits (by omega) (by rw [hby];omega));have hge:=grownCap_ge w (es.length + m) (es.length + sp) e;have hcm:=grownCap_le_maxLen w (es.length + m) (es.length + sp) e (by unfold maxLen;omega);refine ⟨_,_,hrun,.inr ⟨w.heap.size,grownCap w (es.length + m) (es.length + sp) e - (es.length + m),?_,hbase,?_,?_⟩,⟨rfl,rfl,rfl,by simp,fun k hk _=>Below.heap_alloc w.drew _ k hk⟩⟩
    ·rw [List.length_append,hm,Nat.add_sub_cancel' hge]
    ·rw [List.length_append,hm,Nat.add_sub_cancel' hge];exact hcm
    ·have:=heap_alloc_new w.drew (.cells ((Zab es).toArray ++ (Zab fs).toArray ++ Builtin.zeroCells (Value.slice none 0 0).cells (grownCap w (es.length + m) (es.length + sp) e - (es.length + m))) e)
     unfold Blk;refine this.trans ?_
     congr 1
     have hx : (Zab es).toArray ++ (Zab fs).toArray ++ Builtin.zeroCells (Value.slice none 0 0).cells (grownCap w (es.length + m) (es.length + sp) e - (es.length + m)) = Zbj (es ++ fs ++ List.replicate (grownCap w (es.length + m) (es.length + sp) e - (es.length + m)) Zdz):=by
      apply Array.toList_inj.1
      rw [Array.toList_append,Array.toList_append,show (Value.slice none 0 0).cells = #[.slice none 0 0] from rfl,Zfg]
      simp [Zbj,Zbp]
     rw [hx]
end
def Zc8 : Nat -> (Nat -> Rat) -> Rat
 | 0,_=>0
 | n + 1,f=>Zc8 n f + f n
def Za9 (i a : Nat) : Nat:=if a < i then a else a + 1
def sgnQ (i : Nat) : Rat:=if i % 2 = 0 then 1 else -1
def Zca : Nat -> (Nat -> Nat -> Rat) -> Rat
 | 0,_=>1
 | n + 1,M=>Zc8 (n + 1) fun i=>sgnQ i * M i 0 * Zca n (fun a b=>M (Za9 i a) (b + 1))
theorem Zh3 {n : Nat} {f g : Nat -> Rat} (h : ∀ i,i < n -> f i = g i) : Zc8 n f = Zc8 n g:=by
 induction n with
 | zero=>rfl
 | succ n ih=>simp only [Zc8];rw [ih (fun i hi=>h i (by omega)),h n (by omega)]
theorem Zp8 {n : Nat} (f g : Nat -> Rat) (x y : Rat) : Zc8 n (fun i=>x * f i + y * g i) = x * Zc8 n f + y * Zc8 n g:=by
 induction n with
 | zero=>simp only [Zc8];grind
 | succ n ih=>simp only [Zc8];rw [ih];grind
theorem Zph {n : Nat} {f : Nat -> Rat} (h : ∀ i,i < n -> f i = 0) : Zc8 n f = 0:=by
 induction n with
 | zero=>rfl
 | succ n ih=>simp only [Zc8];rw [ih (fun i hi=>h i (by omega)),h n (by omega)];grind
theorem Zl1 {n : Nat} {f : Nat -> Rat} (k : Nat) (hk : k < n) (h : ∀ i,i < n -> i ≠ k -> f i = 0) : Zc8 n f = f k:=by
 induction n with
 | zero=>omega
 | succ n ih =>
  simp only [Zc8]
  by_cases hn : k = n
  ·subst hn
   rw [Zph (fun i hi=>h i (by omega) (by omega))];grind
  ·rw [ih (by omega) (fun i hi=>h i (by omega)),h n (by omega) (by omega)];grind
theorem Zq5 {n : Nat} {f : Nat -> Rat} (k : Nat) (hk : k + 1 < n) (h : ∀ i,i < n -> i ≠ k -> i ≠ k + 1 -> f i = 0) : Zc8 n f = f k + f (k + 1):=by
 induction n with
 | zero=>omega
 | succ n ih =>
  simp only [Zc8]
  by_cases hn : k + 1 = n
  ·subst hn
   rw [Zl1 k (by omega) (fun i hi h2=>h i (by omega) h2 (by omega))]
  ·rw [ih (by omega) (fun i hi=>h i (by omega)),h n (by omega) (by omega) (by omega)];grind
theorem Zlt {i a n : Nat} (ha : a < n) : Za9 i a < n + 1:=by unfold Za9;split <;> omega
theorem Zqa (i a : Nat) : Za9 i a ≠ i:=by unfold Za9;split <;> omega
theorem Zfw {i k : Nat} (h : k ≠ i) : Za9 i (if k < i then k else k - 1) = k:=by
 unfold Za9
 by_cases h1 : k < i
 ·rw [if_pos h1,if_pos h1]
 ·rw [if_neg h1,if_neg (by omega)];omega
theorem Zpd {i a b : Nat} (h : Za9 i a = Za9 i b) : a = b:=by unfold Za9 at h;split at h <;> split at h <;> omega
theorem Zd7 {n : Nat} {M N : Nat -> Nat -> Rat} (h : ∀ a b,a < n -> b < n -> M a b = N a b) : Zca n M = Zca n N:=by
 induction n generalizing M N with
 | zero=>rfl
 | succ n ih =>
  simp only [Zca]
  refine Zh3 fun i hi=>?_
  rw [h i 0 hi (by omega),ih (fun a b ha hb=>h _ _ (Zlt ha) (by omega))]
def Zbo (M : Nat -> Nat -> Rat) (k : Nat) (r : Nat -> Rat) : Nat -> Nat -> Rat:=fun a b=>if a = k then r b else M a b
theorem Zdj {M : Nat -> Nat -> Rat} {k i : Nat} {r : Nat -> Rat} (h : k ≠ i) :
    (fun a b=>Zbo M k r (Za9 i a) (b + 1)) = Zbo (fun a b=>M (Za9 i a) (b + 1)) (if k < i then k else k - 1) (fun b=>r (b + 1)):=by
 funext a b
 unfold Zbo
 by_cases ha : a = (if k < i then k else k - 1)
 ·rw [if_pos ha,ha,Zfw h,if_pos rfl]
 ·rw [if_neg ha,if_neg]
  intro e;exact ha (Zpd (i:=i) (by rw [e,Zfw h]))
theorem Zdk {M : Nat -> Nat -> Rat} {k : Nat} {r : Nat -> Rat} : (fun a b=>Zbo M k r (Za9 k a) (b + 1)) = (fun a b=>M (Za9 k a) (b + 1)):=by
 funext a b
 unfold Zbo;rw [if_neg (Zqa k a)]
theorem Zk6 {n : Nat} (M : Nat -> Nat -> Rat) {k : Nat} (hk : k < n) (r s : Nat -> Rat) (x y : Rat) :
    Zca n (Zbo M k (fun b=>x * r b + y * s b)) = x * Zca n (Zbo M k r) + y * Zca n (Zbo M k s):=by
 induction n generalizing M k r s with
 | zero=>omega
 | succ n ih =>
  simp only [Zca];rw [<- Zp8]
  refine Zh3 fun i hi=>?_
  by_cases h : k = i
  ·subst h
   rw [Zdk,Zdk,Zdk];simp only [Zbo,if_true]
   grind
  ·rw [Zdj h,Zdj h,Zdj h]
   rw [ih (fun a b=>M (Za9 i a) (b + 1)) (k:=if k < i then k else k - 1) (by split <;> omega) (fun b=>r (b + 1)) (fun b=>s (b + 1))];simp only [Zbo,if_neg (show ¬ i = k from fun e=>h e.symm)]
   grind
theorem Zoz (i : Nat) : sgnQ (i + 1) = - sgnQ i:=by
 unfold sgnQ
 rcases Nat.mod_two_eq_zero_or_one i with h | h
 ·rw [if_pos h,if_neg (by omega)]
 ·rw [if_neg (by omega : ¬ i % 2 = 0),if_pos (by omega)];grind
theorem Zl6 {n : Nat} {M : Nat -> Nat -> Rat} {k : Nat} (hk : k + 1 < n) (h : ∀ b,M (k + 1) b = M k b) : Zca n M = 0:=by
 induction n generalizing M k with
 | zero=>omega
 | succ n ih =>
  simp only [Zca];rw [Zq5 k hk]
  ·have hm : (fun a b=>M (Za9 k a) (b + 1)) = (fun a b=>M (Za9 (k + 1) a) (b + 1)):=by
     funext a b
     by_cases ha : a = k
     ·subst ha
      simp only [Za9,if_neg (Nat.lt_irrefl a),if_pos (Nat.lt_succ_self a)];exact h _
     ·have : Za9 k a = Za9 (k + 1) a:=by unfold Za9;split <;> split <;> omega
      rw [this]
   rw [hm,h 0,Zoz];grind
  ·intro i hi h1 h2
   rw [ih (M:=fun a b=>M (Za9 i a) (b + 1)) (k:=if k < i then k else k - 1)]
   ·grind
   ·split <;> omega
   ·intro b
    have e1 : Za9 i (if k < i then k else k - 1) = k:=Zfw (Ne.symm h1)
    have e2 : Za9 i ((if k < i then k else k - 1) + 1) = k + 1:=by unfold Za9;split <;> split <;> omega
    rw [e1,e2];exact h _
theorem Zgs (M : Nat -> Nat -> Rat) (k : Nat) : Zbo M k (M k) = M:=by
 funext a b;unfold Zbo;split
 ·rename_i h;rw [h]
 ·rfl
theorem Zc3 (M : Nat -> Nat -> Rat) {k l : Nat} (h : k ≠ l) (r s : Nat -> Rat) : Zbo (Zbo M k r) l s = Zbo (Zbo M l s) k r:=by
 funext a b;unfold Zbo
 by_cases h1 : a = k
 ·subst h1;simp [h]
 ·simp [h1]
theorem Zio {n : Nat} (M : Nat -> Nat -> Rat) {k : Nat} (hk : k < n) (r s : Nat -> Rat) :
    Zca n (Zbo M k (fun b=>r b + s b)) = Zca n (Zbo M k r) + Zca n (Zbo M k s):=by
 have:=Zk6 M hk r s 1 1;rw [show (fun b=>r b + s b) = (fun b=>1 * r b + 1 * s b) by funext b;grind,this];grind
theorem Zkp {n : Nat} {k l : Nat} (hk : k < n) (hl : l < n) (hne : k ≠ l) (hz : ∀ (M : Nat -> Nat -> Rat),(∀ b,M k b = M l b) -> Zca n M = 0) (M : Nat -> Nat -> Rat) (r s : Nat -> Rat) :
    Zca n (Zbo (Zbo M k r) l s) = - Zca n (Zbo (Zbo M k s) l r):=by
 have h:=hz (Zbo (Zbo M k (fun b=>r b + s b)) l (fun b=>r b + s b)) (fun b=>by simp [Zbo,hne]);have h1:=hz (Zbo (Zbo M k r) l r) (fun b=>by simp [Zbo,hne]);have h2:=hz (Zbo (Zbo M k s) l s) (fun b=>by simp [Zbo,hne]);rw [Zio _ hl,Zc3 _ hne,Zc3 _ hne,Zio _ hk,Zio _ hk,<- Zc3 _ hne,<- Zc3 _ hne,<- Zc3 _ hne,<- Zc3 _ hne,h1,h2] at h
 grind
theorem Zg7 {n : Nat} : ∀ (d : Nat) (M : Nat -> Nat -> Rat) (k : Nat),k + d + 1 < n -> (∀ b,M k b = M (k + d + 1) b) -> Zca n M = 0:=by
 intro d
 induction d with
 | zero=>intro M k hk h;exact Zl6 hk (fun b=>(h b).symm)
 | succ d ih =>
  intro M k hk h;have h1:=Zkp (n:=n) (k:=k + d + 1) (l:=k + d + 2) (by omega) (by omega) (by omega) (fun M h=>Zl6 (k:=k + d + 1) (by omega) (fun b=>(h b).symm)) M (M (k + d + 1)) (M (k + d + 2));rw [Zgs,Zgs] at h1;rw [h1,ih _ k (by omega)]
  ·grind
  ·intro b
   have:=h b;rw [show k + (d + 1) + 1 = k + d + 2 by omega] at this;simp only [Zbo];rw [if_neg (by omega),if_neg (by omega),if_neg (by omega)]
   simpa using this
theorem Zqf {n : Nat} {M : Nat -> Nat -> Rat} {k l : Nat} (hk : k < n) (hl : l < n) (hne : k ≠ l) (h : ∀ b,M k b = M l b) : Zca n M = 0:=by
 rcases Nat.lt_or_gt_of_ne hne with h1 | h1
 ·exact Zg7 (l - k - 1) M k (by omega) (fun b=>by rw [show k + (l - k - 1) + 1 = l by omega];exact h b)
 ·exact Zg7 (k - l - 1) M l (by omega) (fun b=>by rw [show l + (k - l - 1) + 1 = k by omega];exact (h b).symm)
theorem Zld {n : Nat} (M : Nat -> Nat -> Rat) {k l : Nat} (hk : k < n) (hl : l < n) (hne : k ≠ l) (c : Rat) : Zca n (Zbo M k (fun b=>M k b + c * M l b)) = Zca n M:=by
 have h:=Zk6 M hk (M k) (M l) 1 c
 rw [show (fun b=>M k b + c * M l b) = (fun b=>1 * M k b + c * M l b) by funext b;grind,h,Zgs,
  Zqf (M:=Zbo M k (M l)) hk hl hne (fun b=>by simp [Zbo,Ne.symm hne])]
 grind
theorem Znf {n : Nat} (M : Nat -> Nat -> Rat) {l : Nat} (hl : l < n) (c : Nat -> Rat) : Zca n (fun a b=>if a = l then M a b else M a b + c a * M l b) = Zca n M:=by
 have key : ∀ m,m <= n -> Zca n (fun a b=>if a = l then M a b else if a < m then M a b + c a * M l b else M a b) = Zca n M:=by
  intro m
  induction m with
  | zero=>intro _;congr 1;funext a b;split <;> rfl
  | succ m ih =>
   intro hm;have h0:=ih (by omega)
   by_cases hml : m = l
   ·rw [<- h0];congr 1;funext a b
    by_cases ha : a = l
    ·simp [ha]
    ·rw [if_neg ha,if_neg ha]
     by_cases h1 : a < m
     ·rw [if_pos h1,if_pos (by omega)]
     ·rw [if_neg h1,if_neg (by omega)]
   ·have h1:=Zld (n:=n) (fun a b=>if a = l then M a b else if a < m then M a b + c a * M l b else M a b) (k:=m) (l:=l) (by omega) hl hml (c m)
    rw [h0] at h1;rw [<- h1];congr 1;funext a b;unfold Zbo
    by_cases ha : a = m
    ·subst ha;simp [hml]
    ·rw [if_neg ha]
     by_cases hal : a = l
     ·simp [hal]
     ·rw [if_neg hal]
      by_cases h1 : a < m
      ·rw [if_pos (by omega)];simp [hal,h1]
      ·rw [if_neg (by omega)];simp [hal,h1]
 rw [<- key n (Nat.le_refl _)]
 exact Zd7 fun a b ha hb=>by rw [if_pos ha]
def Zc6 : Nat -> (Nat -> Rat) -> Rat
 | 0,_=>1
 | n + 1,f=>Zc6 n f * f n
theorem Zg5 {n : Nat} {f g : Nat -> Rat} (h : ∀ i,i < n -> f i = g i) : Zc6 n f = Zc6 n g:=by
 induction n with
 | zero=>rfl
 | succ n ih=>simp only [Zc6];rw [ih (fun i hi=>h i (by omega)),h n (by omega)]
theorem Zlg {n : Nat} (f : Nat -> Rat) : Zc6 (n + 1) f = f 0 * Zc6 n (fun i=>f (i + 1)):=by
 induction n generalizing f with
 | zero=>simp only [Zc6];grind
 | succ n ih=>rw [Zc6,ih,Zc6];grind
theorem Zq8 {n : Nat} {M : Nat -> Nat -> Rat} (h : ∀ a b,a < n -> b < a -> M a b = 0) : Zca n M = Zc6 n (fun i=>M i i):=by
 induction n generalizing M with
 | zero=>rfl
 | succ n ih =>
  simp only [Zca];rw [Zl1 0 (by omega)]
  ·rw [Zlg,ih]
   ·have : sgnQ 0 = 1:=rfl
    rw [this,Zg5 (g:=fun i=>M (i + 1) (i + 1)) (fun i hi=>by simp only [Za9];rw [if_neg (by omega)])];grind
   ·intro a b ha hb
    simp only [Za9];rw [if_neg (by omega)];exact h _ _ (by omega) (by omega)
  ·intro i hi h0
   rw [h i 0 hi (by omega)];grind
end Go.Proofs.YtkcbhbddgmkoiaaGreat
