/- Reference of frac: Add, Sub, Mul, Div of small fractions -/
import Derived.Test.YtpehacgjclkhmaaGreatZw25
set_option maxRecDepth 100000
set_option maxHeartbeats 1000000
set_option linter.unusedSimpArgs false
set_option linter.unusedVariables false
namespace Go.Proofs.YtpehacgjclkhmaaGreat
open Go.RowKit
attribute [local go_sem] Zg
theorem Zj4 {x y : Int} {na nb : Bool} (ha : na = decide (x < 0)) (hb : nb = decide (y < 0)) : Zd7 na nb (digits x.natAbs) (digits y.natAbs) = decide (x = y):=by
 unfold Zd7;rw [Zbz,ha,hb]
 by_cases h : x = y
 ·subst h;simp [Zbe]
 ·rw [decide_eq_false h]
  unfold Zbe
  by_cases h1 : (decide (x < 0) == decide (y < 0)) = true
  ·have : x.natAbs ≠ y.natAbs:=by
     intro e;rw [beq_iff_eq,decide_eq_decide] at h1;omega
   rcases Nat.lt_or_gt_of_ne this with h2 | h2
   ·rw [if_pos (by omega)];simp
   ·rw [if_neg (by omega),if_pos (by omega)];simp
  ·rw [Bool.not_eq_true] at h1;rw [h1];rfl
def Fz (w : World) (na : Bool) (A : Option Addr) (n c : Nat) (nb : Bool) (B : Option Addr) (m d : Nat) (q : Int × Int) : Prop:=Wd w na A n c q.1 /\ Wd w nb B m d q.2
theorem Fz.below {w w' : World} {na : Bool} {A : Option Addr} {n c : Nat} {nb : Bool} {B : Option Addr} {m d : Nat} {r : Int × Int} (h : Fz w na A n c nb B m d r) (hb : Below w.heap.size w w') : Fz w' na A n c nb B m d r:=⟨h.1.below hb,h.2.below hb⟩
def prQ (r : Rat) : Int × Int:=(r.num,(r.den : Nat))
theorem Fr.fz {w : World} {na : Bool} {A : Option Addr} {n c : Nat} {nb : Bool} {B : Option Addr} {m d : Nat} {r : Rat} (h : Fr w na A n c nb B m d r) : Fz w na A n c nb B m d (prQ r):=h
theorem Zp8 (na nb na' nb' : Bool) (A B A' B' : Option Addr) (n c m d n' c' m' d' : Nat) (a b : Int × Int) (w : World) (ha : Fz w na A n c nb B m d a) (hb : Fz w na' A' n' c' nb' B' m' d' b) (s : Bool) (hs : decide (a = b) = s) :
    Calls Tryz.prog 16 #[.agg #[.bool na,.slice A n c,.bool nb,.slice B m d],.agg #[.bool na',.slice A' n' c',.bool nb',.slice B' m' d']] w fun e w'=>e = .returned (.bool s) /\ Below w.heap.size w w':=by
 obtain ⟨W0,hW0,hB0,⟨q0,q1⟩,s0⟩:=Zeq w 29 #[.bool na,.slice A n c,.bool nb,.slice B m d] 29 #[.bool na',.slice A' n' c',.bool nb',.slice B' m' d'];have hA:=Zb (ha.below hB0);have hD:=Zb (hb.below hB0);have e1:=Zb (Zj4 ha.1.1 hb.1.1);have e2:=Zb (Zj4 ha.2.1 hb.2.1);clear ha hb;obtain ⟨x,hx⟩ : ∃ x,decide (a.1 = b.1) = x:=⟨_,rfl⟩;obtain ⟨y,hy⟩ : ∃ y,decide (a.2 = b.2) = y:=⟨_,rfl⟩
 have hsx : s = (x && y):=by
  rw [<- hs,<- hx,<- hy,Bool.eq_iff_iff];simp only [decide_eq_true_eq,Bool.and_eq_true]
  constructor
  ·rintro rfl;exact ⟨rfl,rfl⟩
  ·rintro ⟨h1,h2⟩;exact Prod.ext h1 h2
 subst hsx;rw [hx] at e1;rw [hy] at e2;clear hs hx hy;obtain ⟨a0,a1,a2,a3,-⟩:=q0.four;obtain ⟨b0,b1,b2,b3,-⟩:=q1.four;have hq:=Zb (And.intro q0 q1);clear q0 q1;go_enter Tryz.func16,Tryz.ntmps16;go_wp2_with fail;refine (Zdj na na' A A' n c n' c' _ _ W0 hA.out.1.lim hD.out.1.lim).mono ?_;rw [e1.out];rintro e w1 ⟨rfl,hb1⟩;have hB1 : Below w.heap.size w w1:=hB0.trans (hb1.mono hB0.size);replace hA:=Zb (hA.out.below hb1);replace hD:=Zb (hD.out.below hb1);obtain ⟨q0,q1⟩:=hq.out;replace q0:=Zd hb1 q0;replace q1:=Zd hb1 q1;clear hW0 hb1 a0 a1 a2 a3 b0 b1 b2 b3 hq hB0;obtain ⟨a0,a1,a2,a3,-⟩:=q0.four;obtain ⟨b0,b1,b2,b3,-⟩:=q1.four;clear q0 q1
 cases x
 ·go_wp2_with fail
  go_ret;exact ⟨rfl,hB1⟩
 ·go_wp2_with fail
  refine (Zdj nb nb' B B' m d m' d' _ _ w1 hA.out.2.lim hD.out.2.lim).mono ?_;rw [e2.out];rintro e w2 ⟨rfl,hb2⟩;have hB2 : Below w.heap.size w w2:=hB1.trans (hb2.mono hB1.size);go_wp2_with fail;go_ret;exact ⟨by simp,hB2⟩
theorem prQ_inj {a b : Rat} : prQ a = prQ b ↔ a = b:=by
 constructor
 ·intro h
  have h1:=congrArg Prod.fst h;have h2:=congrArg Prod.snd h;simp only [prQ] at h1 h2;exact Rat.ext h1 (by omega)
 ·rintro rfl;rfl
theorem Zh3 (na nb na' nb' : Bool) (A B A' B' : Option Addr) (n c m d n' c' m' d' : Nat) (a b : Rat) (w : World) (ha : Fr w na A n c nb B m d a) (hb : Fr w na' A' n' c' nb' B' m' d' b) (s : Bool) (hs : decide (a = b) = s) :
    Calls Tryz.prog 16 #[.agg #[.bool na,.slice A n c,.bool nb,.slice B m d],.agg #[.bool na',.slice A' n' c',.bool nb',.slice B' m' d']] w fun e w'=>e = .returned (.bool s) /\ Below w.heap.size w w':=
 Zp8 na nb na' nb' A B A' B' n c m d n' c' m' d' (prQ a) (prQ b) w ha.fz hb.fz s (by rw [<- hs];exact decide_eq_decide.2 prQ_inj)
def Zg8 (a b : Rat) : Int:=if a < b then -1 else if b < a then 1 else 0
theorem Zla (a b : Rat) : Zbe (a.num * b.den) (b.num * a.den) = Zg8 a b:=by
 unfold Zbe Zg8;simp only [Rat.lt_iff]
theorem Zri (na nb na' nb' : Bool) (A B A' B' : Option Addr) (n c m d n' c' m' d' : Nat) (a b : Rat) (w : World) (ha : Fr w na A n c nb B m d a) (hb : Fr w na' A' n' c' nb' B' m' d' b) (sa : Sm a) (sb : Sm b) :
    Calls Tryz.prog 27 #[.agg #[.bool na,.slice A n c,.bool nb,.slice B m d],.agg #[.bool na',.slice A' n' c',.bool nb',.slice B' m' d']] w fun e w'=>e = .returned (.tuple #[.int .i64 (Zg8 a b),.int .i64 0]) /\ Below w.heap.size w w':=by
 rw [<- Zla];have h1:=Zb (Zbg sa.1 sb.dn);have h2:=Zb (Zbg sb.1 sa.dn);obtain ⟨W0,hW0,hB0,⟨q0,q1⟩,s0⟩:=Zeq w 29 #[.bool na,.slice A n c,.bool nb,.slice B m d] 29 #[.bool na',.slice A' n' c',.bool nb',.slice B' m' d'];have hA:=Zb (ha.below hB0);have hD:=Zb (hb.below hB0);clear ha hb sa sb
 generalize hX : a.num * ((b.den : Nat) : Int) = X at *
 generalize hY : b.num * ((a.den : Nat) : Int) = Y at *
 replace hX:=Zb hX;replace hY:=Zb hY;obtain ⟨a0,a1,a2,a3,-⟩:=q0.four;obtain ⟨b0,b1,b2,b3,-⟩:=q1.four;have hq:=Zb (And.intro q0 q1);clear q0 q1;go_enter Tryz.func27,Tryz.ntmps27;go_wp2_with fail;refine (Zpa na nb na' nb' A B A' B' n c m d n' c' m' d' a b W0 hA.out hD.out).mono ?_;rintro e w1 ⟨rfl,hb1⟩;have hB1 : Below w.heap.size w w1:=hB0.trans (hb1.mono hB0.size);replace hA:=Zb (hA.out.below hb1);replace hD:=Zb (hD.out.below hb1);obtain ⟨q0,q1⟩:=hq.out;replace q0:=Zd hb1 q0;replace q1:=Zd hb1 q1;clear hW0 hb1 a0 a1 a2 a3 b0 b1 b2 b3 hq hB0;obtain ⟨a0,a1,a2,a3,-⟩:=q0.four;obtain ⟨b0,b1,b2,b3,-⟩:=q1.four;have hq:=Zb (And.intro q0 q1);clear q0 q1;go_wp2_with fail;have hM:=Zft na nb' A B' n c m' d' a.num b.den w1 hA.out.1 hD.out.2;rw [hX.out] at hM;refine hM.mono ?_;clear hM;rintro e w2 ⟨hb2,n1,P1,k1,c1,code,rfl,hR⟩;have hP1:=Zb (hR.small h1.out);have hcode:=hR.code0 h1.out;subst hcode;have hC2 : Below w.heap.size w w2:=hB1.trans (hb2.mono hB1.size);replace hA:=Zb (hA.out.below hb2);replace hD:=Zb (hD.out.below hb2);obtain ⟨q0,q1⟩:=hq.out;replace q0:=Zd hb2 q0;replace q1:=Zd hb2 q1;clear hb2 a0 a1 a2 a3 b0 b1 b2 b3 hq hB1 hR h1 hX;obtain ⟨W2,hW2,hB2,r1,kW,kB,t2⟩:=Z6 27 #[.bool n1,.slice P1 k1 c1] hC2 hC2.size;replace q0:=kB _ _ _ q0;replace q1:=kB _ _ _ q1;replace hA:=Zb (hA.out.keep kW);replace hD:=Zb (hD.out.keep kW);replace hP1:=Zb (kW _ _ _ _ _ hP1.out);clear kW kB hC2;obtain ⟨a0,a1,a2,a3,-⟩:=q0.four;obtain ⟨b0,b1,b2,b3,-⟩:=q1.four;clear q0 q1;replace r1:=Zb r1
 go_wp2_with fail;have hM:=Zft na' nb A' B n' c' m d b.num a.den W2 hD.out.1 hA.out.2;rw [hY.out] at hM;refine hM.mono ?_;clear hM;rintro e w3 ⟨hb3,n2,P2,k2,c2,code,rfl,hR⟩;have hP2:=Zb (hR.small h2.out);have hcode:=hR.code0 h2.out;subst hcode;have hC3 : Below w.heap.size w w3:=hB2.trans (hb3.mono hB2.size);replace r1:=Zd hb3 r1.out;replace hP1:=Zb (hP1.out.below hb3);clear hb3 a0 a1 a2 a3 b0 b1 b2 b3 hB2 hR h2 hY hA hD hW2;obtain ⟨W3,hW3,hB3,r2,kW,kB,t3⟩:=Z6 27 #[.bool n2,.slice P2 k2 c2] hC3 hC3.size;replace r1:=kB _ _ _ r1;replace hP1:=Zb (kW _ _ _ _ _ hP1.out);replace hP2:=Zb (kW _ _ _ _ _ hP2.out);clear kW kB hC3;obtain ⟨x0,x1,-⟩:=r1.two;obtain ⟨y0,y1,-⟩:=r2.two;clear r1 r2;go_wp2_with fail;refine (Zku n1 n2 P1 P2 k1 c1 k2 c2 X Y W3 hP1.out hP2.out).mono ?_;rintro e w4 ⟨rfl,hb4⟩;have hB4 : Below w.heap.size w w4:=hB3.trans (hb4.mono hB3.size);go_wp2_with fail
 go_ret2
 exact ⟨rfl,hB4⟩
end Go.Proofs.YtpehacgjclkhmaaGreat
