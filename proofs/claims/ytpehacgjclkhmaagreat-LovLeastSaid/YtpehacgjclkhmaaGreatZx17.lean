/- Package frac: both, Sub, Mul. Package frac: Sub, Mul of -/
import Derived.Test.YtpehacgjclkhmaaGreatZx16
set_option maxRecDepth 100000
set_option maxHeartbeats 2000000
set_option linter.unusedSimpArgs false
set_option linter.unusedVariables false
namespace Go.Proofs.YtpehacgjclkhmaaGreat
open Go.RowKit
attribute [local go_sem] Zg
theorem Zcq (na nb : Bool) (A B : Option Addr) (n c m d : Nat) (r : Rat) (w : World) (h : Fr w na A n c nb B m d r) :
    Calls Tryz.prog 92 #[.agg #[.bool na,.slice A n c,.bool nb,.slice B m d]] w fun e w'=>e = .returned (.int .i64 0) /\ Below w.heap.size w w':=by
 have hn:=h.neg;subst hn;have hl:=Zqx r;exact Zim na A B n c m d r.num r.den w h.1 h.2 hl.1 true (by rw [hl.2];rfl)
theorem Zmn (F : FuncId) (na nb na' nb' : Bool) (A B A' B' : Option Addr) (n c m d n' c' m' d' : Nat) (a b : Rat) (X Y : Int) (w : World) (ha : Fr w na A n c nb B m d a) (hb : Fr w na' A' n' c' nb' B' m' d' b) (hY : 0 < Y) (hcf : ∀ (x y : Value) (W : World),(callFunc F #[x,y]).run Tryz.prog W = .ok (.enter F #[x,y]) W)
    (hF : ∀ W : World,Fr W na A n c nb B m d a -> Fr W na' A' n' c' nb' B' m' d' b -> Calls Tryz.prog F #[.agg #[.bool na,.slice A n c,.bool nb,.slice B m d],.agg #[.bool na',.slice A' n' c',.bool nb',.slice B' m' d']] W (Zk1 W X Y)) :
    Calls Tryz.prog 120 #[.agg #[.bool na,.slice A n c,.bool nb,.slice B m d],.agg #[.bool na',.slice A' n' c',.bool nb',.slice B' m' d'],.func (.func F) #[] #[]] w (Zc9 w (Rat.divInt X Y)):=by
 obtain ⟨W0,hW0,hB0,⟨q0,q1,q2,q3⟩,s0⟩:=Ze0 w 29 #[.bool na,.slice A n c,.bool nb,.slice B m d] 29 #[.bool na',.slice A' n' c',.bool nb',.slice B' m' d'] 29 #[.bool false,.slice none 0 0,.bool false,.slice none 0 0] 30 #[.int .i64 0];have hA:=Zb (ha.below hB0);have hD:=Zb (hb.below hB0);replace hF:=Zb hF;clear ha hb;replace hW0:=Zb hW0;obtain ⟨a0,a1,a2,a3,-⟩:=q0.four;have hq:=Zb (And.intro q0 (And.intro q1 (And.intro q2 q3)));clear q0 q1 q2 q3
 go_enter_defers Tryz.func120,Tryz.ntmps120
 have hW0':=hW0.out;go_wp2_with fail;clear hW0 hW0';refine (Zcq na nb A B n c m d a W0 hA.out).mono ?_;rintro e w1 ⟨rfl,hb1⟩;have hB1 : Below w.heap.size w w1:=hB0.trans (hb1.mono hB0.size);have s1 : W0.heap.size <= w1.heap.size:=hb1.size;replace hA:=Zb (hA.out.below hb1);replace hD:=Zb (hD.out.below hb1);obtain ⟨q0,q1,q2,q3⟩:=hq.out;replace q0:=Zc hb1 q0;replace q1:=Zc hb1 q1;replace q2:=Zc hb1 q2;replace q3:=Zc hb1 q3;clear hq hb1 hB0 a0 a1 a2 a3;obtain ⟨b0,b1,b2,b3,-⟩:=q1.four;have hq:=Zb (And.intro q0 (And.intro q1 (And.intro q2 q3)));clear q0 q1 q2 q3;go_wp2_with fail;refine (Zc5 w1).mono ?_;rintro e w1 ⟨rfl,rfl⟩;go_wp2_with fail;refine (Zcq na' nb' A' B' n' c' m' d' b w1 hD.out).mono ?_;rintro e w2 ⟨rfl,hb2⟩;have hB2 : Below w.heap.size w w2:=hB1.trans (hb2.mono hB1.size);have s2 : w1.heap.size <= w2.heap.size:=hb2.size;replace hA:=Zb (hA.out.below hb2);replace hD:=Zb (hD.out.below hb2);obtain ⟨q0,q1,q2,q3⟩:=hq.out;replace q0:=Zc hb2 q0;replace q1:=Zc hb2 q1;replace q2:=Zc hb2 q2;replace q3:=Zc hb2 q3;clear hq hb2 hB1 b0 b1 b2 b3;obtain ⟨a0,a1,a2,a3,-⟩:=q0.four;obtain ⟨b0,b1,b2,b3,-⟩:=q1.four;have hq:=Zb (And.intro q2 q3);clear q0 q1 q2 q3;go_wp2_with fail;refine (Zc5 w2).mono ?_;rintro e w2 ⟨rfl,rfl⟩;go_wp2_with fail;refine (hF.out w2 hA.out hD.out).mono ?_;rintro e w3 ⟨hb3,nu,U,k1,u,nv,V,k2,v,rfl,hU,hV⟩;have hB3 : Below w.heap.size w w3:=hB2.trans (hb3.mono hB2.size);have s3 : w2.heap.size <= w3.heap.size:=hb3.size
 have hn : nv = false:=by rw [hV.1];simp;omega
 subst hn;have q2:=Zc hb3 hq.out.1;have q3:=Zc hb3 hq.out.2;clear hq hb3 hB2 a0 a1 a2 a3 b0 b1 b2 b3 hA hD hF;have hq:=Zb (And.intro q2 q3);replace hU:=Zb hU;replace hV:=Zb hV;clear q2 q3;go_wp2_with fail;refine (Zgh nu U V k1 u k2 v X Y w3 hU.out hV.out hY).mono ?_;rintro e w4 ⟨hb4,nx,Ax,kx,cx,ny,Ay,ky,cy,rfl,hF⟩;have hB4 : Below w.heap.size w w4:=hB3.trans (hb4.mono hB3.size);have s4 : w3.heap.size <= w4.heap.size:=hb4.size;have q2:=Zc hb4 hq.out.1;have q3:=Zc hb4 hq.out.2;clear hq hb4 hU hV hB3;have c2:=Zb q2.four;have c3:=q3.cell 0;have f3:=q3.frozen 0
 simp at c3
 obtain ⟨c20,c21,c22,c23,f20,f21,f22,f23⟩:=c2.out;have hq:=Zb (And.intro q2 q3);clear q2 q3;go_wp2_with fail;obtain ⟨W5,hW5,hB5,q2,kW,kB,s5⟩:=Z6 nx Ax kx cx ny Ay ky cy hB4 (by omega) hq.out.1;have q3:=kB _ _ _ (by omega) hq.out.2;have HX5:=Zb (kW _ _ _ _ _ hF.1);have HY5:=Zb (kW _ _ _ _ _ hF.2);rw [hW5];clear kW kB c20 c21 c22 c23 c3 f3 f20 f21 f22 f23 hq hF;obtain ⟨W6,hW6,hB6,q3,kW,kB,s6⟩:=Zaz 0 hB5 (by omega) q3;replace q2:=kB _ _ _ (by omega) q2;have HX6:=Zb (kW _ _ _ _ _ HX5.out);have HY6:=Zb (kW _ _ _ _ _ HY5.out);rw [hW6];obtain ⟨r0,r1,r2,r3,-⟩:=q2.four;have r4:=q3.cell 0
 simp at r4
 clear kW kB hB5 HX5 HY5 hW5 hW6;refine leaves_cons (f:=128) (args:=#[.pointer (some ⟨w.heap.size + 1 + 1 + 1,0,none⟩)]) (by simp) (by simp [go_sem]) ?_;refine (Zbt _ _).mono ?_;rintro e u' w'' ⟨rfl,rfl,rfl⟩;refine ⟨.tuple #[.agg #[.bool nx,.slice Ax kx cx,.bool ny,.slice Ay ky cy],.int .i64 0],by simp [results,Tryz.results120,go_sem,r0,r1,r2,r3,r4],?_⟩;exact ⟨hB6,_,_,_,_,_,_,_,_,rfl,HX6.out,HY6.out⟩
theorem Zqa (x y : Value) (W : World) : (callFunc 146 #[x,y]).run Tryz.prog W = .ok (.enter 146 #[x,y]) W:=by simp [go_sem]
theorem Zp7 (x y : Value) (W : World) : (callFunc 150 #[x,y]).run Tryz.prog W = .ok (.enter 150 #[x,y]) W:=by simp [go_sem]
def Sm (r : Rat) : Prop:=r.num.natAbs < pw 1000 /\ r.den < pw 1000
theorem Zcl {x y : Nat} {i j : Nat} (hx : x < pw i) (hy : y < pw j) : x * y < pw (i + j):=by
 rw [Zd3];exact Nat.mul_lt_mul'' hx hy
theorem Zgi {x y : Int} (hx : x.natAbs < pw 1000) (hy : y.natAbs < pw 1000) : (x * y).natAbs < pw 2000:=by
 rw [Int.natAbs_mul];have h:=Zcl hx hy;rw [show 1000 + 1000 = 2000 from rfl] at h;exact h
theorem Zum (k : Nat) : pw k + pw k <= pw (k + 1):=by rw [Zak];generalize pw k = x;omega
theorem Zqc : pw 2000 + pw 2000 <= pw 4096:=Nat.le_trans (Zum 2000) (Zdv (by decide))
theorem Zaj {x y : Int} (hx : x.natAbs < pw 1000) (hy : y.natAbs < pw 1000) : (x * y).natAbs < pw 4096:=Nat.lt_of_lt_of_le (Zgi hx hy) (Zdv (by decide))
theorem Zp1 {x y z v : Int} (hx : x.natAbs < pw 1000) (hy : y.natAbs < pw 1000) (hz : z.natAbs < pw 1000) (hv : v.natAbs < pw 1000) : (x * y - z * v).natAbs < pw 4096:=by
 have h1:=Zgi hx hy;have h2:=Zgi hz hv;have h3:=Zqc;omega
theorem Sm.dn {r : Rat} (h : Sm r) : ((r.den : Nat) : Int).natAbs < pw 1000:=by simpa using h.2
theorem Zlm (a b : Rat) : Rat.divInt (a.num * b.num) ((a.den : Int) * (b.den : Nat)) = a * b:=by
 rw [<- Rat.divInt_mul_divInt,Rat.num_divInt_den,Rat.num_divInt_den]
theorem Zmk (a b : Rat) : Rat.divInt (a.num * b.den - b.num * a.den) ((a.den : Int) * (b.den : Nat)) = a - b:=by
 have ha : ((a.den : Nat) : Int) ≠ 0:=by have:=a.den_pos;omega
 have hb : ((b.den : Nat) : Int) ≠ 0:=by have:=b.den_pos;omega
 rw [<- Rat.divInt_sub_divInt _ _ ha hb,Rat.num_divInt_den,Rat.num_divInt_den]
theorem Zba (a b : Rat) : 0 < ((a.den : Int) * (b.den : Nat)):=Int.mul_pos (by have:=a.den_pos;omega) (by have:=b.den_pos;omega)
theorem fSub_ok (na nb na' nb' : Bool) (A B A' B' : Option Addr) (n c m d n' c' m' d' : Nat) (a b : Rat) (w : World) (ha : Fr w na A n c nb B m d a) (hb : Fr w na' A' n' c' nb' B' m' d' b) (sa : Sm a) (sb : Sm b) :
    Calls Tryz.prog 100 #[.agg #[.bool na,.slice A n c,.bool nb,.slice B m d],.agg #[.bool na',.slice A' n' c',.bool nb',.slice B' m' d']] w (Zc9 w (a - b)):=by
 obtain ⟨W0,hW0,hB0,⟨q0,q1,q2⟩,s0⟩:=Zbh w 29 #[.bool na,.slice A n c,.bool nb,.slice B m d] 29 #[.bool na',.slice A' n' c',.bool nb',.slice B' m' d'] 29 #[.bool false,.slice none 0 0,.bool false,.slice none 0 0];have hA:=Zb (ha.below hB0);have hD:=Zb (hb.below hB0)
 have hF:=fun (W : World) (h1 : Fr W na A n c nb B m d a) (h2 : Fr W na' A' n' c' nb' B' m' d' b)=>Sub1_ok na nb na' nb' A B A' B' n c m d n' c' m' d' a b W h1 h2 (Zaj sa.1 sb.dn) (Zaj sb.1 sa.dn) (Zp1 sa.1 sb.dn sb.1 sa.dn) (Zaj sa.dn sb.dn)
 have hG:=Zb (Zmn 150 na nb na' nb' A B A' B' n c m d n' c' m' d' a b _ _ W0 hA.out hD.out (Zba a b) Zp7 hF);rw [Zmk] at hG;clear hF ha hb sa sb hA hD;obtain ⟨a0,a1,a2,a3,-⟩:=q0.four;obtain ⟨b0,b1,b2,b3,-⟩:=q1.four;replace q2:=Zb q2;clear q0 q1;go_enter Tryz.func100,Tryz.ntmps100;go_wp2_with fail;refine hG.out.mono ?_;rintro e w1 ⟨hb1,nx,Ax,kx,cx,ny,Ay,ky,cy,rfl,hX⟩;have hB1 : Below w.heap.size w w1:=hB0.trans (hb1.mono hB0.size);have s1 : W0.heap.size <= w1.heap.size:=hb1.size;replace q2:=Zb (Zc hb1 q2.out);replace hX:=Zb hX;clear hb1 a0 a1 a2 a3 b0 b1 b2 b3 hB0 hG hW0;obtain ⟨c20,c21,c22,c23,f20,f21,f22,f23⟩:=q2.out.four;go_wp2_with fail;obtain ⟨W5,hW5,hB5,q2,kW,-,s5⟩:=Z6 nx Ax kx cx ny Ay ky cy hB1 (by omega) q2.out;rw [hW5];obtain ⟨r0,r1,r2,r3,-⟩:=q2.four;refine bodyPost_ret (v:=.tuple #[.agg #[.bool nx,.slice Ax kx cx,.bool ny,.slice Ay ky cy],.int .i64 0]) (by simp [results,Tryz.results100,go_sem,r0,r1,r2,r3]) rfl ?_;exact ⟨hB5,_,_,_,_,_,_,_,_,rfl,kW _ _ _ _ _ hX.out.1,kW _ _ _ _ _ hX.out.2⟩
theorem Zqm (na nb na' nb' : Bool) (A B A' B' : Option Addr) (n c m d n' c' m' d' : Nat) (a b : Rat) (w : World) (ha : Fr w na A n c nb B m d a) (hb : Fr w na' A' n' c' nb' B' m' d' b) (sa : Sm a) (sb : Sm b) :
    Calls Tryz.prog 95 #[.agg #[.bool na,.slice A n c,.bool nb,.slice B m d],.agg #[.bool na',.slice A' n' c',.bool nb',.slice B' m' d']] w (Zc9 w (a * b)):=by
 obtain ⟨W0,hW0,hB0,⟨q0,q1,q2⟩,s0⟩:=Zbh w 29 #[.bool na,.slice A n c,.bool nb,.slice B m d] 29 #[.bool na',.slice A' n' c',.bool nb',.slice B' m' d'] 29 #[.bool false,.slice none 0 0,.bool false,.slice none 0 0];have hA:=Zb (ha.below hB0);have hD:=Zb (hb.below hB0)
 have hF:=fun (W : World) (h1 : Fr W na A n c nb B m d a) (h2 : Fr W na' A' n' c' nb' B' m' d' b)=>Mul1_ok na nb na' nb' A B A' B' n c m d n' c' m' d' a b W h1 h2 (Zaj sa.1 sb.1) (Zaj sa.dn sb.dn)
 have hG:=Zb (Zmn 146 na nb na' nb' A B A' B' n c m d n' c' m' d' a b _ _ W0 hA.out hD.out (Zba a b) Zqa hF);rw [Zlm] at hG;clear hF ha hb sa sb hA hD;obtain ⟨a0,a1,a2,a3,-⟩:=q0.four;obtain ⟨b0,b1,b2,b3,-⟩:=q1.four;replace q2:=Zb q2;clear q0 q1;go_enter Tryz.func95,Tryz.ntmps95;go_wp2_with fail;refine hG.out.mono ?_;rintro e w1 ⟨hb1,nx,Ax,kx,cx,ny,Ay,ky,cy,rfl,hX⟩;have hB1 : Below w.heap.size w w1:=hB0.trans (hb1.mono hB0.size);have s1 : W0.heap.size <= w1.heap.size:=hb1.size;replace q2:=Zb (Zc hb1 q2.out);replace hX:=Zb hX;clear hb1 a0 a1 a2 a3 b0 b1 b2 b3 hB0 hG hW0;obtain ⟨c20,c21,c22,c23,f20,f21,f22,f23⟩:=q2.out.four;go_wp2_with fail;obtain ⟨W5,hW5,hB5,q2,kW,-,s5⟩:=Z6 nx Ax kx cx ny Ay ky cy hB1 (by omega) q2.out;rw [hW5];obtain ⟨r0,r1,r2,r3,-⟩:=q2.four;refine bodyPost_ret (v:=.tuple #[.agg #[.bool nx,.slice Ax kx cx,.bool ny,.slice Ay ky cy],.int .i64 0]) (by simp [results,Tryz.results95,go_sem,r0,r1,r2,r3]) rfl ?_;exact ⟨hB5,_,_,_,_,_,_,_,_,rfl,kW _ _ _ _ _ hX.out.1,kW _ _ _ _ _ hX.out.2⟩
theorem Zl5 (na nb : Bool) (A B : Option Addr) (n c m d : Nat) (za zb : Int) (w : World) (ha : Wd w na A n c za) (hb : Wd w nb B m d zb) :
    Calls Tryz.prog 103 #[.agg #[.bool na,.slice A n c],.agg #[.bool nb,.slice B m d]] w (ResW w (za + zb)):=by
 have hLa:=ha.lim;have hLb:=hb.lim;have hn:=ha.2.1;have hm:=hb.2.1
 have hB0 : ∀ X Y Z V : Obj,Below w.heap.size w ((((w.alloc X).alloc Y).alloc Z).alloc V):=fun X Y Z V=>((((Below.refl w.heap.size w).alloc (Nat.le_refl _) _).alloc (by simp) _).alloc (by simp;omega) _).alloc (by simp;omega) _
 have hW : ∀ X Y Z t,WL ((((w.alloc X).alloc Y).alloc Z).alloc (.cells #[.bool na,.slice A n c,.bool nb,.slice B m d] t)) (some ⟨w.heap.size + 1 + 1 + 1,0,none⟩) 2 2 [⟨na,A,n,c,digits za.natAbs⟩,⟨nb,B,m,d,digits zb.natAbs⟩]:=fun X Y Z t=>by
  have:=WL.two (neg:=na) (neg':=nb) (((hLa.alloc X).alloc Y).alloc Z) (((hLb.alloc X).alloc Y).alloc Z) t;simp only [World.size_alloc] at this;exact this
 have hW:=Zb hW;have hB0:=Zb hB0;have hgood : Hid (okW na (digits za.natAbs) = true /\ okW nb (digits zb.natAbs) = true):=⟨ha.ok,hb.ok⟩;have hza:=Zb ha.sgEq;have hzb:=Zb hb.sgEq;clear ha hb;go_enter Tryz.func103,Tryz.ntmps103;go_wp2_with fail;refine (Zcf (hW.out _ _ _ _) (by have:=hgood.out;simp [WE.ok,this])).mono ?_;rintro e w1 ⟨rfl,hb1⟩;obtain ⟨hc1,hf1⟩:=Zbm hb1
 have hz1 : w.heap.size + 1 + 1 + 1 < w1.heap.size:=by have:=hb1.size;simp at this;omega
 have hB1 : Below w.heap.size w w1:=(hB0.out _ _ _ _).trans (hb1.mono (by simp;omega))
 have g0 : w1.cell? ⟨w.heap.size,0,none⟩ = some (.bool na):=by simp [hc1,go_sem]
 have g1 : w1.cell? ⟨w.heap.size,1,none⟩ = some (.slice A n c):=by simp [hc1,go_sem]
 have g2 : w1.cell? ⟨w.heap.size + 1,0,none⟩ = some (.bool nb):=by simp [hc1,go_sem]
 have g3 : w1.cell? ⟨w.heap.size + 1,1,none⟩ = some (.slice B m d):=by simp [hc1,go_sem]
 have gf : w1.frozen? ⟨w.heap.size + 1,0,none⟩ = false:=by simp [hf1,go_sem]
 have gB : Blk w1 (w.heap.size + 1) 27 #[.bool nb,.slice B m d]:=by
  refine Zc hb1 ((Blk.alloc (Blk.alloc ?_ _) _));have:=Blk.new (w.alloc (.cells #[.bool na,.slice A n c] 27)) 27 #[.bool nb,.slice B m d];simp only [World.size_alloc] at this;exact this
 have g7 : Blk w1 (w.heap.size + 1 + 1) 27 #[.bool false,.slice none 0 0]:=by
  refine Zc hb1 (Blk.alloc ?_ _);have:=Blk.new ((w.alloc (.cells #[.bool na,.slice A n c] 27)).alloc (.cells #[.bool nb,.slice B m d] 27)) 27 #[.bool false,.slice none 0 0];simp only [World.size_alloc] at this;exact this
 have hLa1:=hLa.below hB1;have hLb1:=hLb.below hB1;have HB:=Zb gB;clear gB hc1 hf1;go_wp2_with fail;refine (Zqn _ _ _ _ _ _ _ _ _ _ _ (by exact hLa1) (by exact hLb1) hn hm).mono ?_;rintro e w2 ⟨hb2,neg2,A2,n2,c2,code2,rfl,hR2⟩;have hB2 : Below w.heap.size w w2:=hB1.trans (hb2.mono hB1.size);have m7:=Zc hb2 g7;have m3:=m7.cell 0;have m4:=m7.cell 1;have m5:=m7.frozen 0;have m6:=m7.frozen 1
 simp at m3 m4
 have HM:=Zb m7;clear m7;go_wp2_with fail
 have HZ : sg na za.natAbs + sg nb zb.natAbs = za + zb:=by
  have h1:=hza.out;have h2:=hzb.out;rw [Zf] at h1 h2;rw [h1,h2]
 refine bodyPost_ret (v:=.tuple #[.agg #[.bool neg2,.slice A2 n2 c2],.int .i64 code2]) (by simp [results,Tryz.results103,go_sem,m3,m4]) rfl ?_;exact ResW.box (HZ ▸ hR2) hB2 (by omega) HM.out
end Go.Proofs.YtpehacgjclkhmaaGreat
