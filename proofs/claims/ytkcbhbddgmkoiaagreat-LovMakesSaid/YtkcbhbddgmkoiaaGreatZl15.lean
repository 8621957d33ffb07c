/- Package wide: Mul. Package wide: Sub. Package frac: Of, -/
import Derived.Deep.LoopGhost
import Derived.Test.YtkcbhbddgmkoiaaGreatZl14
set_option maxRecDepth 100000
set_option maxHeartbeats 4000000
set_option linter.unusedSimpArgs false
set_option linter.unusedVariables false
namespace Go.Proofs.YtkcbhbddgmkoiaaGreat
open Go.RowKit
attribute [local go_sem] Zg
theorem Zih (na nb : Bool) (A B : Option Addr) (n c m d : Nat) (za zb : Int) (w : World) (ha : Wd w na A n c za) (hb : Wd w nb B m d zb) :
    Calls Tryz.prog 87 #[.agg #[.bool na,.slice A n c],.agg #[.bool nb,.slice B m d]] w (ResW w (za * zb)):=by
 have hLa:=ha.lim;have hLb:=hb.lim;have hn:=ha.2.1;have hm:=hb.2.1
 have hB0 : ∀ X Y Z V : Obj,Below w.heap.size w ((((w.alloc X).alloc Y).alloc Z).alloc V):=fun X Y Z V=>((((Below.refl w.heap.size w).alloc (Nat.le_refl _) _).alloc (by simp) _).alloc (by simp;omega) _).alloc (by simp;omega) _
 have hW : ∀ X Y Z t,WL ((((w.alloc X).alloc Y).alloc Z).alloc (.cells #[.bool na,.slice A n c,.bool nb,.slice B m d] t)) (some ⟨w.heap.size + 1 + 1 + 1,0,none⟩) 2 2 [⟨na,A,n,c,digits za.natAbs⟩,⟨nb,B,m,d,digits zb.natAbs⟩]:=fun X Y Z t=>by
  have:=WL.two (neg:=na) (neg':=nb) (((hLa.alloc X).alloc Y).alloc Z) (((hLb.alloc X).alloc Y).alloc Z) t;simp only [World.size_alloc] at this;exact this
 have hW:=Za hW;have hB0:=Za hB0;have hgood : Hid (okW na (digits za.natAbs) = true /\ okW nb (digits zb.natAbs) = true):=⟨ha.ok,hb.ok⟩;have hza:=Za ha.sgEq;have hzb:=Za hb.sgEq;clear ha hb;go_enter Tryz.func87,Tryz.ntmps87;go_wp2_with fail;refine (Zb3 (hW.out _ _ _ _) (by have:=hgood.out;simp [WE.ok,this])).mono ?_;rintro e w1 ⟨rfl,hb1⟩;obtain ⟨hc1,hf1⟩:=Zbe hb1
 have hz1 : w.heap.size + 1 + 1 + 1 < w1.heap.size:=by have:=hb1.size;simp at this;omega
 have hB1 : Below w.heap.size w w1:=(hB0.out _ _ _ _).trans (hb1.mono (by simp;omega))
 have g0 : w1.cell? ⟨w.heap.size,0,none⟩ = some (.bool na):=by simp [hc1,go_sem]
 have g1 : w1.cell? ⟨w.heap.size,1,none⟩ = some (.slice A n c):=by simp [hc1,go_sem]
 have g2 : w1.cell? ⟨w.heap.size + 1,0,none⟩ = some (.bool nb):=by simp [hc1,go_sem]
 have g3 : w1.cell? ⟨w.heap.size + 1,1,none⟩ = some (.slice B m d):=by simp [hc1,go_sem]
 have gf : w1.frozen? ⟨w.heap.size + 1,0,none⟩ = false:=by simp [hf1,go_sem]
 have gB : Blk w1 (w.heap.size + 1) 62 #[.bool nb,.slice B m d]:=by
  refine Zc hb1 ((Blk.alloc (Blk.alloc ?_ _) _));have:=Blk.new (w.alloc (.cells #[.bool na,.slice A n c] 62)) 62 #[.bool nb,.slice B m d];simp only [World.size_alloc] at this;exact this
 have g7 : Blk w1 (w.heap.size + 1 + 1) 62 #[.bool false,.slice none 0 0]:=by
  refine Zc hb1 (Blk.alloc ?_ _);have:=Blk.new ((w.alloc (.cells #[.bool na,.slice A n c] 62)).alloc (.cells #[.bool nb,.slice B m d] 62)) 62 #[.bool false,.slice none 0 0];simp only [World.size_alloc] at this;exact this
 have hLa1:=hLa.below hB1;have hLb1:=hLb.below hB1;have HB:=Za gB;clear gB hc1 hf1;have g5:=g7.cell 0;have g6:=g7.cell 1;have g8:=g7.frozen 0;have g9:=g7.frozen 1
 simp at g5 g6
 go_wp2_with fail
 go_region_held3 (fun w'=>w'.cell? ⟨w.heap.size,0,none⟩ = some (.bool na) /\ w'.cell? ⟨w.heap.size,1,none⟩ = some (.slice A n c) /\ w'.cell? ⟨w.heap.size + 1,0,none⟩ = some (.bool nb) /\ w'.cell? ⟨w.heap.size + 1,1,none⟩ = some (.slice B m d))
  (((try dsimp only);(repeat' apply And.intro);all_goals (first | go_keep | (simp [*,go_sem];done))))
  (first
   | (go_at_call 124;refine (Zpn _ _ _ _ _ _ _ _ _ (by exact hLa1) (by exact hLb1) (by omega) (by omega)).mono ?_;rintro e w2 ⟨A2,n2,c2,l2,rfl,hL2,hP2,hb2⟩;have k0:=Zb hb2 g0;have k1:=Zb hb2 g1;have j0:=Zb hb2 g2;have k2:=Zb hb2 g3;have k3:=Zb hb2 g5;have k4:=Zb hb2 g6;have k5:=Zh hb2 g5 g8;have k6:=Zh hb2 g6 g9;have k7:=Zc hb2 g7)
   | (go_at_call 123;refine (Za5 _ _ _ _ _ _ (by exact hL2)).mono ?_;rintro e w3 ⟨hb3,neg3,A3,n3,c3,code3,rfl,hR3⟩;have m0:=Zb hb3 k0;have m1:=Zb hb3 k1;have i0:=Zb hb3 j0;have m2:=Zb hb3 k2;have m3:=Zb hb3 k3;have m4:=Zb hb3 k4;have m5:=Zh hb3 k3 k5;have m6:=Zh hb3 k4 k6;have m7:=Zc hb3 k7))
 have hB3 : Below w.heap.size w w3:=(hB1.trans ((Zn hb2).mono hB1.size)).trans (hb3.mono (Nat.le_trans hB1.size (Zn hb2).size))
 go_wp2
 have HZ : sg (na != nb) (val l2) = za * zb:=by
  have h1:=hza.out;have h2:=hzb.out;rw [hP2.2,Zq6,h1,h2]
 refine bodyPost_ret (v:=.tuple #[.agg #[.bool neg3,.slice A3 n3 c3],.int .i64 code3]) (by simp [results,Tryz.results87,go_sem,m3,m4]) rfl ?_;exact ResW.box (HZ ▸ hR3) hB3 (by omega) m7
theorem Sub_ok (na nb : Bool) (A B : Option Addr) (n c m d : Nat) (za zb : Int) (w : World) (ha : Wd w na A n c za) (hb : Wd w nb B m d zb) :
    Calls Tryz.prog 153 #[.agg #[.bool na,.slice A n c],.agg #[.bool nb,.slice B m d]] w (ResW w (za - zb)):=by
 have hLa:=ha.lim;have hLb:=hb.lim;have hn:=ha.2.1;have hm:=hb.2.1
 have hB0 : ∀ X Y Z V : Obj,Below w.heap.size w ((((w.alloc X).alloc Y).alloc Z).alloc V):=fun X Y Z V=>((((Below.refl w.heap.size w).alloc (Nat.le_refl _) _).alloc (by simp) _).alloc (by simp;omega) _).alloc (by simp;omega) _
 have hW : ∀ X Y Z t,WL ((((w.alloc X).alloc Y).alloc Z).alloc (.cells #[.bool na,.slice A n c,.bool nb,.slice B m d] t)) (some ⟨w.heap.size + 1 + 1 + 1,0,none⟩) 2 2 [⟨na,A,n,c,digits za.natAbs⟩,⟨nb,B,m,d,digits zb.natAbs⟩]:=fun X Y Z t=>by
  have:=WL.two (neg:=na) (neg':=nb) (((hLa.alloc X).alloc Y).alloc Z) (((hLb.alloc X).alloc Y).alloc Z) t;simp only [World.size_alloc] at this;exact this
 have hW:=Za hW;have hB0:=Za hB0;have hgood : Hid (okW na (digits za.natAbs) = true /\ okW nb (digits zb.natAbs) = true):=⟨ha.ok,hb.ok⟩;have hza:=Za ha.sgEq;have hzb:=Za hb.sgEq;clear ha hb;go_enter Tryz.func153,Tryz.ntmps153;go_wp2_with fail;refine (Zb3 (hW.out _ _ _ _) (by have:=hgood.out;simp [WE.ok,this])).mono ?_;rintro e w1 ⟨rfl,hb1⟩;obtain ⟨hc1,hf1⟩:=Zbe hb1
 have hz1 : w.heap.size + 1 + 1 + 1 < w1.heap.size:=by have:=hb1.size;simp at this;omega
 have hB1 : Below w.heap.size w w1:=(hB0.out _ _ _ _).trans (hb1.mono (by simp;omega))
 have g0 : w1.cell? ⟨w.heap.size,0,none⟩ = some (.bool na):=by simp [hc1,go_sem]
 have g1 : w1.cell? ⟨w.heap.size,1,none⟩ = some (.slice A n c):=by simp [hc1,go_sem]
 have g2 : w1.cell? ⟨w.heap.size + 1,0,none⟩ = some (.bool nb):=by simp [hc1,go_sem]
 have g3 : w1.cell? ⟨w.heap.size + 1,1,none⟩ = some (.slice B m d):=by simp [hc1,go_sem]
 have gf : w1.frozen? ⟨w.heap.size + 1,0,none⟩ = false:=by simp [hf1,go_sem]
 have gB : Blk w1 (w.heap.size + 1) 62 #[.bool nb,.slice B m d]:=by
  refine Zc hb1 ((Blk.alloc (Blk.alloc ?_ _) _));have:=Blk.new (w.alloc (.cells #[.bool na,.slice A n c] 62)) 62 #[.bool nb,.slice B m d];simp only [World.size_alloc] at this;exact this
 have g7 : Blk w1 (w.heap.size + 1 + 1) 62 #[.bool false,.slice none 0 0]:=by
  refine Zc hb1 (Blk.alloc ?_ _);have:=Blk.new ((w.alloc (.cells #[.bool na,.slice A n c] 62)).alloc (.cells #[.bool nb,.slice B m d] 62)) 62 #[.bool false,.slice none 0 0];simp only [World.size_alloc] at this;exact this
 have hLa1:=hLa.below hB1;have hLb1:=hLb.below hB1;have HB:=Za gB;clear gB hc1 hf1
 have hB1S : w.heap.size <= (w1.setCell ⟨w.heap.size + 1,0,none⟩ (.bool (!nb))).heap.size:=by simp;omega
 go_wp2_with fail;refine (Zn1 _ _ _ _ _ _ _ _ _ _ _ (by exact hLa1.set_box HB.out (NoLimb.box _ _ _ _) _ _) (by exact hLb1.set_box HB.out (NoLimb.box _ _ _ _) _ _) hn hm).mono ?_;rintro e w2 ⟨hb2,neg2,A2,n2,c2,code2,rfl,hR2⟩;have hB2 : Below w.heap.size w w2:=(hB1.setCell (p:=⟨w.heap.size + 1,0,none⟩) (by simp) _).trans (hb2.mono hB1S);have m7:=Zc hb2 (g7.far (by simp) _);have m3:=m7.cell 0;have m4:=m7.cell 1;have m5:=m7.frozen 0;have m6:=m7.frozen 1
 simp at m3 m4
 have HM:=Za m7;clear m7;go_wp2_with fail
 have HZ : sg na za.natAbs + sg (!nb) zb.natAbs = za - zb:=by
  have h1:=hza.out;have h2:=hzb.out;rw [Zf] at h1 h2;rw [Znk,h1,h2];omega
 refine bodyPost_ret (v:=.tuple #[.agg #[.bool neg2,.slice A2 n2 c2],.int .i64 code2]) (by simp [results,Tryz.results153,go_sem,m3,m4]) rfl ?_;exact ResW.box (HZ ▸ hR2) hB2 (by omega) HM.out
theorem Zaq (w : World) (t0 : TypeId) (c0 : Array Value) :
    ∃ W,w.alloc (.cells c0 t0) = W /\ Below w.heap.size w W /\ Blk W w.heap.size t0 c0 /\ W.heap.size = w.heap.size + 1:=
 ⟨_,rfl,(Below.refl w.heap.size w).alloc (Nat.le_refl _) _,Blk.new _ _ _,by simp⟩
theorem Of_pos (x y : Int) (w : World) (hx1 : -9223372036854775808 <= x) (hx2 : x <= 9223372036854775807) (h0 : 0 < y) (hy : y <= 9223372036854775807) :
    Calls Tryz.prog 56 #[.int .i64 x,.int .i64 y] w (Zed w (Rat.divInt x y)):=by
 obtain ⟨W0,hW0,hB0,hq,s0⟩:=Zaq w 64 #[.bool false,.slice none 0 0,.bool false,.slice none 0 0];replace hW0:=Za hW0;replace hq:=Za hq;go_enter Tryz.func56,Tryz.ntmps56;go_wp2_with fail;rw [hW0.out];clear hW0;refine (Zhr x W0 hx1 hx2).mono ?_;rintro e w1 ⟨hb1,na,A,n,c,rfl,hA⟩;have hB1 : Below w.heap.size w w1:=hB0.trans (hb1.mono (by omega));have s1 : W0.heap.size <= w1.heap.size:=hb1.size;replace hq:=Za (Zc hb1 hq.out);replace hA:=Za hA;clear hb1 hB0;go_wp2_with fail;refine (Zhr y w1 (by omega) hy).mono ?_;rintro e w2 ⟨hb2,nb,B,m,d,rfl,hB⟩;have hB2 : Below w.heap.size w w2:=hB1.trans (hb2.mono (by omega));have s2 : w1.heap.size <= w2.heap.size:=hb2.size;replace hq:=Za (Zc hb2 hq.out);replace hA:=Za (hA.out.below hb2)
 have hn : nb = false:=by rw [hB.1];simp;omega
 subst hn;replace hB:=Za hB;clear hb2 hB1;go_wp2_with fail;refine (Zq4 na A B n c m d x y w2 hA.out hB.out h0).mono ?_;rintro e w3 ⟨hb3,nx,Ax,kx,cx,ny,Ay,ky,cy,rfl,hF⟩;have hB3 : Below w.heap.size w w3:=hB2.trans (hb3.mono (by omega));have s3 : w2.heap.size <= w3.heap.size:=hb3.size;replace hq:=Za (Zc hb3 hq.out);obtain ⟨c20,c21,c22,c23,f20,f21,f22,f23⟩:=hq.out.four;clear hb3 hB2;replace hF:=Za hF;go_wp2_with fail;obtain ⟨W5,hW5,hB5,q2,kW,-,s5⟩:=Zac nx Ax kx cx ny Ay ky cy hB3 (by omega) hq.out;rw [hW5];obtain ⟨r0,r1,r2,r3,-⟩:=q2.four;refine bodyPost_ret (v:=.tuple #[.agg #[.bool nx,.slice Ax kx cx,.bool ny,.slice Ay ky cy],.int .i64 0]) (by simp [results,Tryz.results56,go_sem,r0,r1,r2,r3]) rfl ?_;exact ⟨hB5,_,_,_,_,_,_,_,_,rfl,kW _ _ _ _ _ hF.out.1,kW _ _ _ _ _ hF.out.2⟩
theorem Zeh (na nb na' nb' : Bool) (A B A' B' : Option Addr) (n c m d n' c' m' d' : Nat) (a b : Rat) (w : World) (ha : Fr w na A n c nb B m d a) (hb : Fr w na' A' n' c' nb' B' m' d' b) (hs : (a.num * b.den).natAbs < pw 4096) :
    Calls Tryz.prog 85 #[.agg #[.bool na,.slice A n c,.bool nb,.slice B m d],.agg #[.bool na',.slice A' n' c',.bool nb',.slice B' m' d']] w (NumW w (a.num * b.den)):=by
 obtain ⟨W0,hW0,hB0,⟨q0,q1,q2⟩,s0⟩:=Zbx w 64 #[.bool na,.slice A n c,.bool nb,.slice B m d] 64 #[.bool na',.slice A' n' c',.bool nb',.slice B' m' d'] 62 #[.bool false,.slice none 0 0];have hA:=Za (ha.1.below hB0);have hD:=Za (hb.2.below hB0);replace hs:=Za hs;clear ha hb;obtain ⟨c00,c01,-⟩:=q0.four;obtain ⟨-,-,c12,c13,-⟩:=q1.four;rw [<- hW0] at c00 c01 c12 c13;replace hW0:=Za hW0;go_enter Tryz.func85,Tryz.ntmps85;go_wp2_with fail;rw [hW0.out];clear hW0 c00 c01 c12 c13;refine (Zih na nb' A B' n c m' d' a.num b.den W0 hA.out hD.out).mono ?_;rintro e w1 ⟨hb1,np,P,k,q,code,rfl,hR⟩
 rcases hR with ⟨-,rfl,hP⟩ | ⟨hbig,-⟩
 case inr=>exact absurd hbig (by have:=hs.out;omega)
 have hB1 : Below w.heap.size w w1:=hB0.trans (hb1.mono (by omega));have s1 : W0.heap.size <= w1.heap.size:=hb1.size;replace q2:=Zc hb1 q2;clear hb1 hB0 q0 q1;replace q2:=Za q2;replace hP:=Za hP;go_wp2_with fail;refine (Zb5 np P k q w1).mono ?_;rintro e w2 ⟨rfl,hb2⟩;have hB2 : Below w.heap.size w w2:=hB1.trans (hb2.mono (by omega));have s2 : w1.heap.size <= w2.heap.size:=hb2.size;replace q2:=Zc hb2 q2.out;replace hP:=hP.out.below hb2;obtain ⟨c0,c1,f0,f1⟩:=q2.two;replace q2:=Za q2;replace hP:=Za hP;go_wp2_with fail;obtain ⟨W5,hW5,hB5,q3,kW,-,s5⟩:=Zag np P k q hB2 (by omega) q2.out;rw [hW5];obtain ⟨r0,r1,-⟩:=q3.two;refine bodyPost_ret (v:=.agg #[.bool np,.slice P k q]) (by simp [results,Tryz.results85,go_sem,r0,r1]) rfl ?_;exact ⟨hB5,_,_,_,_,rfl,kW _ _ _ _ _ hP.out⟩
def outB (x y z m : Int) : Bool:=decide (m < x \/ m < y \/ m < z \/ x < -m \/ y < -m \/ z < -m)
theorem Zl0 (x y z m : Int) (hm : 0 <= m) (hm2 : m <= 9223372036854775807) (w : World) :
    Calls Tryz.prog 89 #[.agg #[.int .i64 x,.int .i64 y,.int .i64 z],.int .i64 m] w fun e w'=>e = .returned (.bool (outB x y z m)) /\ Below w.heap.size w w':=by
 have hB0 : ∀ X : Obj,Below w.heap.size w (w.alloc X):=fun X=>(Below.refl w.heap.size w).alloc (Nat.le_refl _) _
 have hB0:=Za hB0;go_enter Tryz.func89,Tryz.ntmps89;go_wp2_with fail
 all_goals go_ret
 all_goals refine ⟨?_,hB0.out _⟩
 all_goals
  refine congrArg (fun b=>Ending.returned (.bool b)) ?_
  first
   | exact (decide_eq_true (by omega)).symm
   | (unfold outB;rw [Bool.eq_iff_iff];simp;omega)
structure St where
 t : Int
 p0 : Int
 p1 : Int
 p2 : Int
 v0 : Int
 v1 : Int
 v2 : Int
def stE (s : St) : Int:=if s.t < -5000000000000000 \/ 5000000000000000 < s.t \/ (s.p0 = 0 /\ s.p1 = 0 /\ s.p2 = 0) \/ outB s.p0 s.p1 s.p2 8796093022208 = true \/ outB s.v0 s.v1 s.v2 1099511627776 = true then 8 else 0
theorem Z3 {w : World} {g : Nat} {t : TypeId} {a b c d e f h : Value} (q : Blk w g t #[a,b,c,d,e,f,h]) : w.cell? ⟨g,0,none⟩ = some a /\ w.cell? ⟨g,1,none⟩ = some b /\ w.cell? ⟨g,2,none⟩ = some c /\ w.cell? ⟨g,3,none⟩ = some d /\ w.cell? ⟨g,4,none⟩ = some e /\ w.cell? ⟨g,5,none⟩ = some f /\ w.cell? ⟨g,6,none⟩ = some h:=
 ⟨q.cell 0,q.cell 1,q.cell 2,q.cell 3,q.cell 4,q.cell 5,q.cell 6⟩
theorem Zjj (s : St) (w : World) :
    Calls Tryz.prog 49 #[.agg #[.int .i64 s.t,.int .i64 s.p0,.int .i64 s.p1,.int .i64 s.p2,.int .i64 s.v0,.int .i64 s.v1,.int .i64 s.v2]] w fun e w'=>e = .returned (.int .i64 (stE s)) /\ Below w.heap.size w w':=by
 obtain ⟨t,p0,p1,p2,v0,v1,v2⟩:=s;simp only
 have hB0 : ∀ X : Obj,Below w.heap.size w (w.alloc X):=fun X=>(Below.refl w.heap.size w).alloc (Nat.le_refl _) _
 have hq0 : Blk (w.alloc (.cells #[.int .i64 t,.int .i64 p0,.int .i64 p1,.int .i64 p2,.int .i64 v0,.int .i64 v1,.int .i64 v2] 40)) w.heap.size 40 #[.int .i64 t,.int .i64 p0,.int .i64 p1,.int .i64 p2,.int .i64 v0,.int .i64 v1,.int .i64 v2]:=Blk.new w _ _;have hB0:=Za hB0;replace hq0:=Za hq0
 have hEq:=fun w=>Zll p0 p1 p2 w
 obtain ⟨E,hE⟩ : ∃ E,stE ⟨t,p0,p1,p2,v0,v1,v2⟩ = E:=⟨_,rfl⟩;rw [hE];replace hE:=Za hE;have hOut:=Za (fun W x y z m h1 h2=>Zl0 x y z m h1 h2 W);go_enter Tryz.func49,Tryz.ntmps49
 by_cases h1 : t < -5000000000000000
 ·have t1 : decide (t < -5000000000000000) = true:=decide_eq_true h1
  go_wp2_with fail;go_ret
  have h8 : E = 8:=by rw [<- hE.out];exact if_pos (Or.inl h1)
  exact ⟨by rw [h8];rfl,hB0.out _⟩
 have t1 : decide (t < -5000000000000000) = false:=decide_eq_false h1
 by_cases h2 : 5000000000000000 < t
 ·have t2 : decide (5000000000000000 < t) = true:=decide_eq_true h2
  go_wp2_with fail;go_ret
  have h8 : E = 8:=by rw [<- hE.out];exact if_pos (Or.inr (Or.inl h2))
  exact ⟨by rw [h8];rfl,hB0.out _⟩
 have t2 : decide (5000000000000000 < t) = false:=decide_eq_false h2
 by_cases h3 : p0 = 0 /\ p1 = 0 /\ p2 = 0
 ·obtain ⟨rfl,rfl,rfl⟩:=h3
  go_wp2_with fail;go_ret
  have h8 : E = 8:=by rw [<- hE.out];exact if_pos (Or.inr (Or.inr (Or.inl ⟨rfl,rfl,rfl⟩)))
  exact ⟨by rw [h8];rfl,hB0.out _⟩
 have t3 : (decide (p0 = 0) && decide (p1 = 0) && decide (p2 = 0)) = false:=by
  rw [Bool.eq_false_iff];intro h;simp at h;exact h3 ⟨h.1.1,h.1.2,h.2⟩
 rw [t3] at hEq;go_wp2_with fail;refine (hOut.out _ _ _ _ _ (by omega) (by omega)).mono ?_;rintro e w1 ⟨rfl,hb1⟩;have hB1 : Hid (Below w.heap.size w w1):=Za ((hB0.out _).trans (hb1.mono (by simp)));obtain ⟨c0,c1,c2,c3,c4,c5,c6⟩:=Z3 (Zc hb1 hq0.out);clear hb1
 cases h4 : outB p0 p1 p2 8796093022208 with
 | true =>
  go_wp2_with fail;go_ret
  have h8 : E = 8:=by rw [<- hE.out];exact if_pos (Or.inr (Or.inr (Or.inr (Or.inl h4))))
  exact ⟨by rw [h8];rfl,hB1.out⟩
 | false =>
  go_wp2_with fail;refine (hOut.out _ _ _ _ _ (by omega) (by omega)).mono ?_;rintro e w2 ⟨rfl,hb2⟩;have hB2 : Hid (Below w.heap.size w w2):=Za (hB1.out.trans (hb2.mono hB1.out.size));clear hb2
  cases h5 : outB v0 v1 v2 1099511627776 with
  | true =>
   go_wp2_with fail;go_ret
   have h8 : E = 8:=by rw [<- hE.out];exact if_pos (Or.inr (Or.inr (Or.inr (Or.inr h5))))
   exact ⟨by rw [h8];rfl,hB2.out⟩
  | false =>
   go_wp2_with fail;go_ret
   have h8 : E = 0:=by
    rw [<- hE.out]
    exact if_neg (by
     rintro (h | h | h | h | h)
     ·simp only at h;omega
     ·simp only at h;omega
     ·exact h3 h
     ·rw [h4] at h;cases h
     ·rw [h5] at h;cases h)
   exact ⟨by rw [h8];rfl,hB2.out⟩
def Zhi (s : St) (i : Nat) : Prop:=(0 < i -> ¬ (s.p0 < -8796093022208 \/ 8796093022208 < s.p0 \/ s.v0 < -1099511627776 \/ 1099511627776 < s.v0)) /\ (1 < i -> ¬ (s.p1 < -8796093022208 \/ 8796093022208 < s.p1 \/ s.v1 < -1099511627776 \/ 1099511627776 < s.v1)) /\ (2 < i -> ¬ (s.p2 < -8796093022208 \/ 8796093022208 < s.p2 \/ s.v2 < -1099511627776 \/ 1099511627776 < s.v2))
theorem Zg2 (s : St) (w : World) :
    Calls Tryz.prog 23 #[.agg #[.int .i64 s.t,.int .i64 s.p0,.int .i64 s.p1,.int .i64 s.p2,.int .i64 s.v0,.int .i64 s.v1,.int .i64 s.v2]] w fun e w'=>e = .returned (.int .i64 (stE s)) /\ Below w.heap.size w w':=by
 obtain ⟨t,p0,p1,p2,v0,v1,v2⟩:=s;simp only
 have hB0 : ∀ X : Obj,Below w.heap.size w (w.alloc X):=fun X=>(Below.refl w.heap.size w).alloc (Nat.le_refl _) _
 have hq0 : Blk (w.alloc (.cells #[.int .i64 t,.int .i64 p0,.int .i64 p1,.int .i64 p2,.int .i64 v0,.int .i64 v1,.int .i64 v2] 40)) w.heap.size 40 #[.int .i64 t,.int .i64 p0,.int .i64 p1,.int .i64 p2,.int .i64 v0,.int .i64 v1,.int .i64 v2]:=Blk.new w _ _;have hB0:=Za hB0
 have hEq:=fun w=>Zll p0 p1 p2 w
 obtain ⟨E,hE⟩ : ∃ E,stE ⟨t,p0,p1,p2,v0,v1,v2⟩ = E:=⟨_,rfl⟩;rw [hE];replace hE:=Za hE;obtain ⟨c0,c1,c2,c3,c4,c5,c6⟩:=Z3 hq0;clear hq0;go_enter Tryz.func23,Tryz.ntmps23
 by_cases h1 : t < -5000000000000000
 ·have t1 : decide (t < -5000000000000000) = true:=decide_eq_true h1
  go_wp2_with fail;go_ret
  have h8 : E = 8:=by rw [<- hE.out];exact if_pos (Or.inl h1)
  exact ⟨by rw [h8];rfl,hB0.out _⟩
 have t1 : decide (t < -5000000000000000) = false:=decide_eq_false h1
 by_cases h2 : 5000000000000000 < t
 ·have t2 : decide (5000000000000000 < t) = true:=decide_eq_true h2
  go_wp2_with fail;go_ret
  have h8 : E = 8:=by rw [<- hE.out];exact if_pos (Or.inr (Or.inl h2))
  exact ⟨by rw [h8];rfl,hB0.out _⟩
 have t2 : decide (5000000000000000 < t) = false:=decide_eq_false h2
 by_cases h3 : p0 = 0 /\ p1 = 0 /\ p2 = 0
 ·obtain ⟨rfl,rfl,rfl⟩:=h3
  go_wp2_with fail;go_ret
  have h8 : E = 8:=by rw [<- hE.out];exact if_pos (Or.inr (Or.inr (Or.inl ⟨rfl,rfl,rfl⟩)))
  exact ⟨by rw [h8];rfl,hB0.out _⟩
 have t3 : (decide (p0 = 0) && decide (p1 = 0) && decide (p2 = 0)) = false:=by
  rw [Bool.eq_false_iff];intro h;simp at h;exact h3 ⟨h.1.1,h.1.2,h.2⟩
 rw [t3] at hEq;replace h3:=Za h3;obtain ⟨W0,hW0⟩ : ∃ W,w.alloc (.cells #[.int .i64 t,.int .i64 p0,.int .i64 p1,.int .i64 p2,.int .i64 v0,.int .i64 v1,.int .i64 v2] 40) = W:=⟨_,rfl⟩;have hBW : Hid (Below w.heap.size w W0):=Za (by rw [<- hW0];exact hB0.out _);rw [hW0] at c0 c1 c2 c3 c4 c5 c6;replace hW0:=Za hW0;go_wp2_with fail;rw [hW0.out]
 go_loopg [3] 3 (fun k iv wr=>wr = W0 /\ ∃ i : Nat,i + k = 3 /\ iv = .int .i64 i /\ Hid (Zhi ⟨t,p0,p1,p2,v0,v1,v2⟩ i))
 case atStart=>exact ⟨rfl,0,by omega,rfl,Za ⟨fun h=>by omega,fun h=>by omega,fun h=>by omega⟩⟩
 case round =>
  obtain ⟨rfl,i,hik,rfl,hin⟩:=hrel
  rcases (show i = 0 \/ i = 1 \/ i = 2 \/ i = 3 by omega) with rfl | rfl | rfl | rfl
  ·obtain rfl : gk = 3:=by omega
   by_cases ka : p0 < -8796093022208
   ·have ua : decide (p0 < -8796093022208) = true:=decide_eq_true ka
    go_wp2_with fail;go_ret
    have h8 : E = 8:=by rw [<- hE.out];exact if_pos (Or.inr (Or.inr (Or.inr (Or.inl (decide_eq_true (by simp only;omega))))))
    exact ⟨by rw [h8];rfl,hBW.out⟩
   have ua : decide (p0 < -8796093022208) = false:=decide_eq_false ka
   by_cases kb : 8796093022208 < p0
   ·have ub : decide (8796093022208 < p0) = true:=decide_eq_true kb
    go_wp2_with fail;go_ret
    have h8 : E = 8:=by rw [<- hE.out];exact if_pos (Or.inr (Or.inr (Or.inr (Or.inl (decide_eq_true (by simp only;omega))))))
    exact ⟨by rw [h8];rfl,hBW.out⟩
   have ub : decide (8796093022208 < p0) = false:=decide_eq_false kb
   by_cases kc : v0 < -1099511627776
   ·have uc : decide (v0 < -1099511627776) = true:=decide_eq_true kc
    go_wp2_with fail;go_ret
    have h8 : E = 8:=by rw [<- hE.out];exact if_pos (Or.inr (Or.inr (Or.inr (Or.inr (decide_eq_true (by simp only;omega))))))
    exact ⟨by rw [h8];rfl,hBW.out⟩
   have uc : decide (v0 < -1099511627776) = false:=decide_eq_false kc
   by_cases kd : 1099511627776 < v0
   ·have ud : decide (1099511627776 < v0) = true:=decide_eq_true kd
    go_wp2_with fail;go_ret
    have h8 : E = 8:=by rw [<- hE.out];exact if_pos (Or.inr (Or.inr (Or.inr (Or.inr (decide_eq_true (by simp only;omega))))))
    exact ⟨by rw [h8];rfl,hBW.out⟩
   have ud : decide (1099511627776 < v0) = false:=decide_eq_false kd;have hin2 : Hid (Zhi ⟨t,p0,p1,p2,v0,v1,v2⟩ 1):=Za ⟨fun _=>by simp only;omega,fun h=>by omega,fun h=>by omega⟩;go_wp2_with fail
   go_roundg 2
   case measure=>omega
   case rel=>exact ⟨rfl,1,by omega,by go_num,hin2⟩
  ·obtain rfl : gk = 2:=by omega
   by_cases ka : p1 < -8796093022208
   ·have ua : decide (p1 < -8796093022208) = true:=decide_eq_true ka
    go_wp2_with fail;go_ret
    have h8 : E = 8:=by rw [<- hE.out];exact if_pos (Or.inr (Or.inr (Or.inr (Or.inl (decide_eq_true (by simp only;omega))))))
    exact ⟨by rw [h8];rfl,hBW.out⟩
   have ua : decide (p1 < -8796093022208) = false:=decide_eq_false ka
   by_cases kb : 8796093022208 < p1
   ·have ub : decide (8796093022208 < p1) = true:=decide_eq_true kb
    go_wp2_with fail;go_ret
    have h8 : E = 8:=by rw [<- hE.out];exact if_pos (Or.inr (Or.inr (Or.inr (Or.inl (decide_eq_true (by simp only;omega))))))
    exact ⟨by rw [h8];rfl,hBW.out⟩
   have ub : decide (8796093022208 < p1) = false:=decide_eq_false kb
   by_cases kc : v1 < -1099511627776
   ·have uc : decide (v1 < -1099511627776) = true:=decide_eq_true kc
    go_wp2_with fail;go_ret
    have h8 : E = 8:=by rw [<- hE.out];exact if_pos (Or.inr (Or.inr (Or.inr (Or.inr (decide_eq_true (by simp only;omega))))))
    exact ⟨by rw [h8];rfl,hBW.out⟩
   have uc : decide (v1 < -1099511627776) = false:=decide_eq_false kc
   by_cases kd : 1099511627776 < v1
   ·have ud : decide (1099511627776 < v1) = true:=decide_eq_true kd
    go_wp2_with fail;go_ret
    have h8 : E = 8:=by rw [<- hE.out];exact if_pos (Or.inr (Or.inr (Or.inr (Or.inr (decide_eq_true (by simp only;omega))))))
    exact ⟨by rw [h8];rfl,hBW.out⟩
   have ud : decide (1099511627776 < v1) = false:=decide_eq_false kd;have hin2 : Hid (Zhi ⟨t,p0,p1,p2,v0,v1,v2⟩ 2):=Za ⟨fun h=>hin.out.1 (by omega),fun _=>by simp only;omega,fun h=>by omega⟩;go_wp2_with fail
   go_roundg 1
   case measure=>omega
   case rel=>exact ⟨rfl,2,by omega,by go_num,hin2⟩
  ·obtain rfl : gk = 1:=by omega
   by_cases ka : p2 < -8796093022208
   ·have ua : decide (p2 < -8796093022208) = true:=decide_eq_true ka
    go_wp2_with fail;go_ret
    have h8 : E = 8:=by rw [<- hE.out];exact if_pos (Or.inr (Or.inr (Or.inr (Or.inl (decide_eq_true (by simp only;omega))))))
    exact ⟨by rw [h8];rfl,hBW.out⟩
   have ua : decide (p2 < -8796093022208) = false:=decide_eq_false ka
   by_cases kb : 8796093022208 < p2
   ·have ub : decide (8796093022208 < p2) = true:=decide_eq_true kb
    go_wp2_with fail;go_ret
    have h8 : E = 8:=by rw [<- hE.out];exact if_pos (Or.inr (Or.inr (Or.inr (Or.inl (decide_eq_true (by simp only;omega))))))
    exact ⟨by rw [h8];rfl,hBW.out⟩
   have ub : decide (8796093022208 < p2) = false:=decide_eq_false kb
   by_cases kc : v2 < -1099511627776
   ·have uc : decide (v2 < -1099511627776) = true:=decide_eq_true kc
    go_wp2_with fail;go_ret
    have h8 : E = 8:=by rw [<- hE.out];exact if_pos (Or.inr (Or.inr (Or.inr (Or.inr (decide_eq_true (by simp only;omega))))))
    exact ⟨by rw [h8];rfl,hBW.out⟩
   have uc : decide (v2 < -1099511627776) = false:=decide_eq_false kc
   by_cases kd : 1099511627776 < v2
   ·have ud : decide (1099511627776 < v2) = true:=decide_eq_true kd
    go_wp2_with fail;go_ret
    have h8 : E = 8:=by rw [<- hE.out];exact if_pos (Or.inr (Or.inr (Or.inr (Or.inr (decide_eq_true (by simp only;omega))))))
    exact ⟨by rw [h8];rfl,hBW.out⟩
   have ud : decide (1099511627776 < v2) = false:=decide_eq_false kd;have hin2 : Hid (Zhi ⟨t,p0,p1,p2,v0,v1,v2⟩ 3):=Za ⟨fun h=>hin.out.1 (by omega),fun h=>hin.out.2.1 (by omega),fun _=>by simp only;omega⟩;go_wp2_with fail
   go_roundg 0
   case measure=>omega
   case rel=>exact ⟨rfl,3,by omega,by go_num,hin2⟩
  ·go_wp2_with fail
   go_ret
   have h8 : E = 0:=by
    rw [<- hE.out];have q0:=hin.out.1 (by omega);have q1:=hin.out.2.1 (by omega);have q2:=hin.out.2.2 (by omega);simp only at q0 q1 q2
    exact if_neg (by
     rintro (h | h | h | h | h)
     ·simp only at h;omega
     ·simp only at h;omega
     ·exact h3.out h
     ·have h:=of_decide_eq_true h;simp only at h;omega
     ·have h:=of_decide_eq_true h;simp only at h;omega)
   exact ⟨by rw [h8];rfl,hBW.out⟩
def Zjl (z : Int) : Bool:=decide (-9223372036854775808 <= z) && decide (z < 9223372036854775808)
def intV (z : Int) : Int:=if Zjl z = true then z else 0
def intE (z : Int) : Int:=if Zjl z = true then 0 else 16
theorem Zde {z : Int} (h : -9223372036854775808 <= z /\ z < 9223372036854775808) : intV z = z:=by unfold intV Zjl;simp [h.1,h.2]
theorem Zdf {z : Int} (h : -9223372036854775808 <= z /\ z < 9223372036854775808) : intE z = 0:=by unfold intE Zjl;simp [h.1,h.2]
theorem Zcw {z : Int} (h : ¬ (-9223372036854775808 <= z /\ z < 9223372036854775808)) : intV z = 0:=by
 unfold intV Zjl;rw [if_neg];simpa using h
theorem Zcv {z : Int} (h : ¬ (-9223372036854775808 <= z /\ z < 9223372036854775808)) : intE z = 16:=by
 unfold intE Zjl;rw [if_neg];simpa using h
theorem or_shl {x y : Nat} (hx : x < 4294967296) : x ||| y * 4294967296 = x + y * 4294967296:=by
 have h:=Nat.shiftLeft_add_eq_or_of_lt (i:=32) (b:=x) (by omega) y;rw [Nat.shiftLeft_eq] at h;rw [Nat.or_comm,<- h,Nat.add_comm]
theorem Zje {u : Nat} (h : (digits u).length <= 2) : u < 18446744073709551616:=by
 have:=(Zp u 2).1 h
 have e : pw 2 = 18446744073709551616:=by decide
 omega
theorem Zhn {u : Nat} (h : 2 < (digits u).length) : 18446744073709551616 <= u:=by
 have:=Zcy h
 have e : pw 2 = 18446744073709551616:=by decide
 omega
theorem pw1 : pw 1 = 4294967296:=by decide
theorem pw2 : pw 2 = 18446744073709551616:=by decide
theorem neg64 {u : Nat} (h : u <= 9223372036854775808) (h0 : 0 < u) : wrap64 (IntKind.u64.wrap (-(u : Int))) = -(u : Int):=by
 rw [IntKind.wrap_u64];unfold wrap64;omega
theorem or64 {a b r : Nat} (ha : a < 18446744073709551616) (hb : b < 18446744073709551616) (h : a ||| b = r) (hr : r < 18446744073709551616) : bits .or .u64 (a : Int) (b : Int) = (r : Int):=by
 have h64 : ∀ x : Nat,x < 18446744073709551616 -> (BitVec.ofInt 64 (x : Int)).toNat = x:=fun x hx=>by
  rw [BitVec.ofInt_natCast,BitVec.toNat_ofNat];exact Nat.mod_eq_of_lt hx
 show IntKind.u64.wrap ((BitVec.ofInt 64 (a : Int) ||| BitVec.ofInt 64 (b : Int)).toNat : Int) = _;rw [BitVec.toNat_or,h64 a ha,h64 b hb,h];exact IntWalk.u64_in _ (by omega)
theorem Zpt {a b : Nat} (ha : a < 4294967296) (hb : b < 4294967296) : bits .or .u64 (a : Int) ((b : Int) * 4294967296) = ((a + b * 4294967296 : Nat) : Int):=by
 have e : ((b : Int) * 4294967296) = ((b * 4294967296 : Nat) : Int):=by omega
 rw [e];exact or64 (by omega) (by omega) (or_shl ha) (by omega)
theorem Znc {a : Nat} (ha : a < 4294967296) : bits .or .u64 0 (a : Int) = (a : Int):=or64 (a:=0) (by omega) (by omega) (Nat.zero_or a) (by omega)
theorem limb0 {u : Nat} (h : u < 18446744073709551616) : (digits u)[0]?.getD 0 = u % 4294967296:=by
 by_cases h0 : u = 0
 ·subst h0;rw [Zz];rfl
 ·rw [Za1 h0];rfl
theorem limb1 {u : Nat} (h : u < 18446744073709551616) : (digits u)[1]?.getD 0 = u / 4294967296:=by
 by_cases h0 : u = 0
 ·subst h0;rw [Zz];rfl
 ·rw [Za1 h0]
  by_cases h1 : u / 4294967296 = 0
  ·rw [h1,Zz];rfl
  ·rw [Za1 h1]
   show u / 4294967296 % 4294967296 = _;omega
theorem wInt_ok (neg : Bool) (A : Option Addr) (n c : Nat) (z : Int) (w : World) (hz : Wd w neg A n c z) :
    Calls Tryz.prog 92 #[.agg #[.bool neg,.slice A n c]] w fun e w'=>e = .returned (.tuple #[.int .i64 (intV z),.int .i64 (intE z)]) /\ Below w.heap.size w w':=by
 have hL:=hz.lim;have hn:=hz.2.1;have hneg:=hz.1;have hlen:=hL.len
 have hW : ∀ X t,WL ((w.alloc X).alloc (.cells #[.bool neg,.slice A n c] t)) (some ⟨w.heap.size + 1,0,none⟩) 1 1 [⟨neg,A,n,c,digits z.natAbs⟩]:=fun X t=>by
  have:=WL.one (neg:=neg) (hL.alloc X) t;simp only [World.size_alloc] at this;exact this
 have hW:=Za hW
 have hB0 : ∀ X Y : Obj,Below w.heap.size w ((w.alloc X).alloc Y):=fun X Y=>((Below.refl w.heap.size w).alloc (Nat.le_refl _) _).alloc (by simp) _
 have hB0:=Za hB0;have hgood : Hid (okW neg (digits z.natAbs) = true):=hz.ok;replace hneg:=Za hneg;replace hlen:=Za hlen;clear hz;go_enter Tryz.func92,Tryz.ntmps92;go_wp2_with fail;refine (Zb3 (hW.out _ _) (by have:=hgood.out;simp [WE.ok,this])).mono ?_;rintro e w1 ⟨rfl,hb1⟩;obtain ⟨hc1,hf1⟩:=Zbe hb1
 have hz1 : w.heap.size + 1 < w1.heap.size:=by have:=hb1.size;simp at this;omega
 have hB1 : Below w.heap.size w w1:=(hB0.out _ _).trans (hb1.mono (by simp;omega))
 have g0 : w1.cell? ⟨w.heap.size,0,none⟩ = some (.bool neg):=by simp [hc1,go_sem]
 have g1 : w1.cell? ⟨w.heap.size,1,none⟩ = some (.slice A n c):=by simp [hc1,go_sem]
 have hL1:=Za (hL.below hB1);clear hc1 hf1 hB0 hL hb1 hW hgood;obtain ⟨u,hu⟩ : ∃ u,z.natAbs = u:=⟨_,rfl⟩;rw [hu] at hL1 hlen;replace hB1:=Za hB1
 by_cases h2 : 2 < n
 ·have u2 : decide ((2 : Int) < (n : Int)) = true:=decide_eq_true (by omega)
  have hbig : ¬ (-9223372036854775808 <= z /\ z < 9223372036854775808):=by
   have:=Zhn (u:=u) (by rw [hlen.out];exact h2);omega
  go_wp2_with fail;go_returns;exact ⟨by rw [Zcw hbig,Zcv hbig];rfl,hB1.out⟩
 have u2 : decide ((2 : Int) < (n : Int)) = false:=decide_eq_false (by omega);have hu64 : u < 18446744073709551616:=Zje (by rw [hlen.out];omega);go_wp2_with fail
 go_loopg [21,5] n (fun k iv uv wr=>wr = w1 /\ ∃ i : Nat,i + k = n /\ iv = .int .i64 i /\ ∃ X : Nat,uv = .int .u64 X /\ Hid (X = u % pw i))
 case atStart=>exact ⟨rfl,0,by omega,rfl,0,rfl,Za (by rw [Zbr];omega)⟩
 case round =>
  obtain ⟨rfl,i,hik,rfl,X,rfl,hX⟩:=hrel
  cases gk with
  | zero =>
   obtain rfl : i = n:=by omega
   have t1 : decide ((i : Int) < (i : Int)) = false:=by simp
   have hXu : u = X:=by
    have h1:=hX.out;have h2:=Zaw u;rw [hlen.out] at h2;rw [h1,Nat.mod_eq_of_lt h2]
   subst hXu;clear hX
   cases hn2 : neg with
   | true =>
    subst hn2
    have hzn : z = -(u : Int) /\ 0 < u:=by have:=hneg.out;simp at this;omega
    by_cases hle : u <= 9223372036854775808
    ·have v1 : decide ((u : Int) <= 9223372036854775808) = true:=decide_eq_true (by omega)
     have hfit : -9223372036854775808 <= z /\ z < 9223372036854775808:=by omega
     go_wp2_with fail;go_returns;refine ⟨?_,hB1.out⟩;rw [Zde hfit,Zdf hfit];rw [hzn.1];exact congrArg (fun x=>Ending.returned (.tuple #[.int .i64 x,.int .i64 0])) (neg64 hle hzn.2)
    ·have v1 : decide ((u : Int) <= 9223372036854775808) = false:=decide_eq_false (by omega)
     have hfit : ¬ (-9223372036854775808 <= z /\ z < 9223372036854775808):=by omega
     go_wp2_with fail;go_returns;exact ⟨by rw [Zcw hfit,Zcv hfit];rfl,hB1.out⟩
   | false =>
    subst hn2
    have hzn : z = (u : Int):=by have:=hneg.out;simp at this;omega
    by_cases hle : u < 9223372036854775808
    ·have v1 : decide ((u : Int) < 9223372036854775808) = true:=decide_eq_true (by omega)
     have hfit : -9223372036854775808 <= z /\ z < 9223372036854775808:=by omega
     go_wp2_with fail;go_returns;refine ⟨?_,hB1.out⟩;rw [Zde hfit,Zdf hfit];rw [hzn];rfl
    ·have v1 : decide ((u : Int) < 9223372036854775808) = false:=decide_eq_false (by omega)
     have hfit : ¬ (-9223372036854775808 <= z /\ z < 9223372036854775808):=by omega
     go_wp2_with fail;go_returns;exact ⟨by rw [Zcw hfit,Zcv hfit];rfl,hB1.out⟩
  | succ gk' =>
   obtain rfl : gk' = n - (i + 1):=by omega
   have t1 : decide ((i : Int) < (n : Int)) = true:=decide_eq_true (by omega)
   have bi : (i : Int) < (n : Int):=by omega
   obtain ⟨g,o,rfl,hcell⟩:=hL1.out.at_ (k:=i) (by omega)
   rcases (show i = 0 \/ i = 1 by omega) with rfl | rfl
   case inl =>
    have hc0 : wr.cell? ⟨g,o,none⟩ = some (.int .u32 ((u % 4294967296 : Nat) : Int)):=by
     have:=hcell;rw [limb0 hu64] at this;exact this
    clear hcell;have hx0 : Hid (X = 0):=Za (by have:=hX.out;rw [this,Zbr];omega);obtain rfl:=hx0.out;have hor : Hid (bits .or .u64 0 (((u % 4294967296 : Nat)) : Int) = ((u % 4294967296 : Nat) : Int)):=Za (Znc (by omega));go_wp2_with fail
    go_roundg (n - 1)
    case measure=>omega
    case rel=>exact ⟨rfl,1,by omega,by go_num,_,congrArg _ hor.out,Za (by rw [pw1])⟩
   case inr =>
    have hc0 : wr.cell? ⟨g,o + 1,none⟩ = some (.int .u32 ((u / 4294967296 : Nat) : Int)):=by
     have:=hcell;rw [limb1 hu64] at this;exact this
    clear hcell;obtain ⟨X0,rfl,hx0,hx1⟩ : ∃ X0,X = X0 /\ X0 = u % 4294967296 /\ X0 < 4294967296:=⟨X,rfl,by have:=hX.out;rw [pw1] at this;exact this,by have:=hX.out;rw [pw1] at this;omega⟩;have hor : Hid (bits .or .u64 ((u % 4294967296 : Nat) : Int) (((u / 4294967296 : Nat) : Int) * 4294967296) = ((u % 4294967296 + u / 4294967296 * 4294967296 : Nat) : Int)):=Za (Zpt (by omega) (by omega));go_wp2_with fail
    go_roundg (n - 2)
    case measure=>omega
    case rel=>exact ⟨rfl,2,by omega,by go_num,_,congrArg _ hor.out,Za (by rw [pw2];omega)⟩
theorem rInt_ok (neg : Bool) (A : Option Addr) (n c : Nat) (z : Int) (w : World) (hz : Wd w neg A n c z) :
    Calls Tryz.prog 95 #[.agg #[.bool neg,.slice A n c]] w fun e w'=>e = .returned (.tuple #[.int .i64 (intV z),.int .i64 (intE z)]) /\ Below w.heap.size w w':=by
 have hL:=hz.lim;have hn:=hz.2.1;have hneg:=hz.1;have hlen:=hL.len
 have hB0 : ∀ X : Obj,Below w.heap.size w (w.alloc X):=fun X=>(Below.refl w.heap.size w).alloc (Nat.le_refl _) _
 have hB0:=Za hB0;have hgood : Hid (okW neg (digits z.natAbs) = true):=hz.ok;replace hneg:=Za hneg;replace hlen:=Za hlen;have hLx:=Za (fun X=>hL.alloc X);clear hz;go_enter Tryz.func95,Tryz.ntmps95;go_wp2_with fail;refine (Za0 (hLx.out _) hgood.out).mono ?_;rintro e w1 ⟨rfl,hb1⟩;obtain ⟨hc1,hf1⟩:=Zbe hb1
 have hz1 : w.heap.size < w1.heap.size:=by have:=hb1.size;simp at this;omega
 have hB1 : Below w.heap.size w w1:=(hB0.out _).trans (hb1.mono (by simp))
 have g0 : w1.cell? ⟨w.heap.size,0,none⟩ = some (.bool neg):=by simp [hc1,go_sem]
 have g1 : w1.cell? ⟨w.heap.size,1,none⟩ = some (.slice A n c):=by simp [hc1,go_sem]
 have hL1:=Za (hL.below hB1);clear hc1 hf1 hB0 hL hb1 hLx hgood;obtain ⟨u,hu⟩ : ∃ u,z.natAbs = u:=⟨_,rfl⟩;rw [hu] at hL1 hlen;replace hB1:=Za hB1;go_wp2_with fail
 by_cases h2 : 2 < n
 ·have hbig : ¬ (-9223372036854775808 <= z /\ z < 9223372036854775808):=by
    have:=Zhn (u:=u) (by rw [hlen.out];exact h2);omega
  go_loopg [5,4] n (fun k iv uv wr=>wr = w1 /\ iv = .int .i64 ((n : Int) - 1) /\ uv = .int .u64 0)
  case atStart=>exact ⟨rfl,by go_num,rfl⟩
  case round =>
   obtain ⟨rfl,rfl,rfl⟩:=hrel;have t1 : decide ((0 : Int) <= (n : Int) - 1) = true:=decide_eq_true (by omega);have t2 : decide ((1 : Int) < (n : Int) - 1) = true:=decide_eq_true (by omega);go_wp2_with fail;go_returns;exact ⟨by rw [Zcw hbig,Zcv hbig];rfl,hB1.out⟩
 have hu64 : u < 18446744073709551616:=Zje (by rw [hlen.out];omega);have hun : Hid (u < pw n):=Za (by have:=Zaw u;rw [hlen.out] at this;exact this)
 go_loopg [5,4] n (fun k iv uv wr=>wr = w1 /\ k <= n /\ iv = .int .i64 ((k : Int) - 1) /\ ∃ X : Nat,uv = .int .u64 X /\ Hid (X = u / pw k))
 case atStart=>exact ⟨rfl,Nat.le_refl _,by go_num,0,rfl,Za (by rw [Nat.div_eq_of_lt hun.out])⟩
 case round =>
  obtain ⟨rfl,hkn,rfl,X,rfl,hX⟩:=hrel
  cases gk with
  | zero =>
   have hXu : u = X:=by
    have h1:=hX.out;rw [Zbr,Nat.div_one] at h1;exact h1.symm
   subst hXu;clear hX
   cases hn2 : neg with
   | true =>
    subst hn2
    have hzn : z = -(u : Int) /\ 0 < u:=by have:=hneg.out;simp at this;omega
    by_cases hle : u <= 9223372036854775808
    ·have v1 : decide ((u : Int) <= 9223372036854775808) = true:=decide_eq_true (by omega)
     have hfit : -9223372036854775808 <= z /\ z < 9223372036854775808:=by omega
     go_wp2_with fail;go_returns;refine ⟨?_,hB1.out⟩;rw [Zde hfit,Zdf hfit];rw [hzn.1];exact congrArg (fun x=>Ending.returned (.tuple #[.int .i64 x,.int .i64 0])) (neg64 hle hzn.2)
    ·have v1 : decide ((u : Int) <= 9223372036854775808) = false:=decide_eq_false (by omega)
     have hfit : ¬ (-9223372036854775808 <= z /\ z < 9223372036854775808):=by omega
     go_wp2_with fail;go_returns;exact ⟨by rw [Zcw hfit,Zcv hfit];rfl,hB1.out⟩
   | false =>
    subst hn2
    have hzn : z = (u : Int):=by have:=hneg.out;simp at this;omega
    by_cases hle : u < 9223372036854775808
    ·have v1 : decide ((u : Int) < 9223372036854775808) = true:=decide_eq_true (by omega)
     have hfit : -9223372036854775808 <= z /\ z < 9223372036854775808:=by omega
     go_wp2_with fail;go_returns;refine ⟨?_,hB1.out⟩;rw [Zde hfit,Zdf hfit];rw [hzn];rfl
    ·have v1 : decide ((u : Int) < 9223372036854775808) = false:=decide_eq_false (by omega)
     have hfit : ¬ (-9223372036854775808 <= z /\ z < 9223372036854775808):=by omega
     go_wp2_with fail;go_returns;exact ⟨by rw [Zcw hfit,Zcv hfit];rfl,hB1.out⟩
  | succ gk' =>
   have t1 : decide ((0 : Int) <= ((gk' + 1 : Nat) : Int) - 1) = true:=decide_eq_true (by omega);have t2 : decide ((1 : Int) < ((gk' + 1 : Nat) : Int) - 1) = false:=decide_eq_false (by omega);obtain ⟨g,o,rfl,hcell⟩:=hL1.out.at_ (k:=gk') (by omega)
   rcases (show gk' = 0 \/ gk' = 1 by omega) with rfl | rfl
   case inl =>
    have hc0 : wr.cell? ⟨g,o,none⟩ = some (.int .u32 ((u % 4294967296 : Nat) : Int)):=by
     have:=hcell;rw [limb0 hu64] at this;exact this
    clear hcell;obtain ⟨X0,rfl,hx0⟩ : ∃ X0,X = X0 /\ X0 = u / 4294967296:=⟨X,rfl,by have:=hX.out;rw [pw1] at this;exact this⟩;subst hx0
    have bi : (0 : Int) < (n : Int):=by omega
    go_wp2_with fail
    go_roundg 0
    case measure=>omega
    case rel=>exact ⟨rfl,by omega,by go_num,u,by go_num,Za (by rw [Zbr,Nat.div_one])⟩
   case inr =>
    have hc0 : wr.cell? ⟨g,o + 1,none⟩ = some (.int .u32 ((u / 4294967296 : Nat) : Int)):=by
     have:=hcell;rw [limb1 hu64] at this;exact this
    clear hcell;have hx0 : Hid (X = 0):=Za (by have:=hX.out;rw [this];exact Nat.div_eq_of_lt (by rw [pw2];exact hu64));obtain rfl:=hx0.out
    have bi : (1 : Int) < (n : Int):=by omega
    go_wp2_with fail
    go_roundg 1
    case measure=>omega
    case rel=>exact ⟨rfl,by omega,by go_num,_,by go_num,Za (by rw [pw1])⟩
theorem OnlyNormal.imp {Q : Exit -> Act -> World -> Prop} (e : Exit) (a : Act) (w : World) (h : OnlyNormal Q e a w) : Q e a w:=by
 cases e <;> first | exact h | exact (h : False).elim
theorem Z6 {P : Program} {id : Nat} {ops : Array Oper} {Q : Exit -> Act -> World -> Prop} {a : Act} {w : World} (L : List Nat) (S : World -> Prop) (hm : P.follows .mixedOrders = true)
    (hS : S w.drew) (h : S w.drew -> Z8 P .any ops (OnlyNormal Q) L S ops.size (Array.replicate ops.size false) a w.drew) : (Code.region id ops true).wp P Q a w:=
 Code.wp_mono OnlyNormal.imp (wp_region_any hm (Zfn _ _ _ _ (h hS)))
theorem wp_heldS {P : Program} {id : Nat} {ops : Array Oper} {Q : Exit -> Act -> World -> Prop} {a : Act} {w w0 : World} {B : Nat} {S : World -> Prop} (L : List Nat) (hm : P.follows .mixedOrders = true)
    (hv : Hid (∀ wx,Below B w0 wx -> S wx)) (hb : Below B w0 w.drew) (h : S w.drew -> Z8 P .any ops (OnlyNormal Q) L S ops.size (Array.replicate ops.size false) a w.drew) : (Code.region id ops true).wp P Q a w:=Z6 L S hm (hv.out _ hb) h
theorem Zpc {l n : Nat} {P : Program} {id : Nat} {ops : Array Oper} {Q : Exit -> Act -> World -> Prop} {a : Act} {w w0 : World} {B : Nat} {S : World -> Prop} (L : List Nat) (hm : P.follows .mixedOrders = true) (hnd : Zgh ops = true)
    (hv : Hid (∀ wx,Below B w0 wx -> S wx)) (hb : Below B w0 w.drew) (h : S w.drew -> Z8 P .any ops (OnlyNormal Q) L S ops.size (Array.replicate ops.size false) a w.drew) : (Code.region id ops true).wpIn (Fence.wide.inRound l) n P Q a w:=Zb6 L S hm hnd (hv.out _ hb) h
end Go.Proofs.YtkcbhbddgmkoiaaGreat
