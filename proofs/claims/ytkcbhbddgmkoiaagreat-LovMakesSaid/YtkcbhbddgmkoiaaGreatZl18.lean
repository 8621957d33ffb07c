/- Package frac: both, Sub, Mul. Package frac: Sub, Mul of -/
import Derived.Test.YtkcbhbddgmkoiaaGreatZl17
set_option maxRecDepth 100000
set_option maxHeartbeats 2000000
set_option linter.unusedSimpArgs false
set_option linter.unusedVariables false
namespace Go.Proofs.YtkcbhbddgmkoiaaGreat
open Go.RowKit
attribute [local go_sem] Zg
theorem Zch (na nb : Bool) (A B : Option Addr) (n c m d : Nat) (r : Rat) (w : World) (h : Fr w na A n c nb B m d r) :
    Calls Tryz.prog 111 #[.agg #[.bool na,.slice A n c,.bool nb,.slice B m d]] w fun e w'=>e = .returned (.int .i64 0) /\ Below w.heap.size w w':=by
 have hn:=h.neg;subst hn;have hl:=Zn8 r;exact Zhm na A B n c m d r.num r.den w h.1 h.2 hl.1 true (by rw [hl.2];rfl)
theorem Zob (F : FuncId) (na nb na' nb' : Bool) (A B A' B' : Option Addr) (n c m d n' c' m' d' : Nat) (a b : Rat) (X Y : Int) (w : World) (ha : Fr w na A n c nb B m d a) (hb : Fr w na' A' n' c' nb' B' m' d' b) (hY : 0 < Y) (hcf : ∀ (x y : Value) (W : World),(callFunc F #[x,y]).run Tryz.prog W = .ok (.enter F #[x,y]) W)
    (hF : ∀ W : World,Fr W na A n c nb B m d a -> Fr W na' A' n' c' nb' B' m' d' b -> Calls Tryz.prog F #[.agg #[.bool na,.slice A n c,.bool nb,.slice B m d],.agg #[.bool na',.slice A' n' c',.bool nb',.slice B' m' d']] W (Zlr W X Y)) :
    Calls Tryz.prog 81 #[.agg #[.bool na,.slice A n c,.bool nb,.slice B m d],.agg #[.bool na',.slice A' n' c',.bool nb',.slice B' m' d'],.func (.func F) #[] #[]] w (Zed w (Rat.divInt X Y)):=by
 obtain ⟨W0,hW0,hB0,⟨q0,q1,q2,q3⟩,s0⟩:=Zfi w 64 #[.bool na,.slice A n c,.bool nb,.slice B m d] 64 #[.bool na',.slice A' n' c',.bool nb',.slice B' m' d'] 64 #[.bool false,.slice none 0 0,.bool false,.slice none 0 0] 27 #[.int .i64 0];have hA:=Za (ha.below hB0);have hD:=Za (hb.below hB0);replace hF:=Za hF;clear ha hb;replace hW0:=Za hW0;obtain ⟨a0,a1,a2,a3,-⟩:=q0.four;have hq:=Za (And.intro q0 (And.intro q1 (And.intro q2 q3)));clear q0 q1 q2 q3
 go_enter_defers Tryz.func81,Tryz.ntmps81
 have hW0':=hW0.out;go_wp2_with fail;clear hW0 hW0';refine (Zch na nb A B n c m d a W0 hA.out).mono ?_;rintro e w1 ⟨rfl,hb1⟩;have hB1 : Below w.heap.size w w1:=hB0.trans (hb1.mono hB0.size);have s1 : W0.heap.size <= w1.heap.size:=hb1.size;replace hA:=Za (hA.out.below hb1);replace hD:=Za (hD.out.below hb1);obtain ⟨q0,q1,q2,q3⟩:=hq.out;replace q0:=Zc hb1 q0;replace q1:=Zc hb1 q1;replace q2:=Zc hb1 q2;replace q3:=Zc hb1 q3;clear hq hb1 hB0 a0 a1 a2 a3;obtain ⟨b0,b1,b2,b3,-⟩:=q1.four;have hq:=Za (And.intro q0 (And.intro q1 (And.intro q2 q3)));clear q0 q1 q2 q3;go_wp2_with fail;refine (Zcp w1).mono ?_;rintro e w1 ⟨rfl,rfl⟩;go_wp2_with fail;refine (Zch na' nb' A' B' n' c' m' d' b w1 hD.out).mono ?_;rintro e w2 ⟨rfl,hb2⟩;have hB2 : Below w.heap.size w w2:=hB1.trans (hb2.mono hB1.size);have s2 : w1.heap.size <= w2.heap.size:=hb2.size;replace hA:=Za (hA.out.below hb2);replace hD:=Za (hD.out.below hb2);obtain ⟨q0,q1,q2,q3⟩:=hq.out;replace q0:=Zc hb2 q0;replace q1:=Zc hb2 q1;replace q2:=Zc hb2 q2;replace q3:=Zc hb2 q3;clear hq hb2 hB1 b0 b1 b2 b3;obtain ⟨a0,a1,a2,a3,-⟩:=q0.four;obtain ⟨b0,b1,b2,b3,-⟩:=q1.four;have hq:=Za (And.intro q2 q3);clear q0 q1 q2 q3;go_wp2_with fail;refine (Zcp w2).mono ?_;rintro e w2 ⟨rfl,rfl⟩;go_wp2_with fail;refine (hF.out w2 hA.out hD.out).mono ?_;rintro e w3 ⟨hb3,nu,U,k1,u,nv,V,k2,v,rfl,hU,hV⟩;have hB3 : Below w.heap.size w w3:=hB2.trans (hb3.mono hB2.size);have s3 : w2.heap.size <= w3.heap.size:=hb3.size
 have hn : nv = false:=by rw [hV.1];simp;omega
 subst hn;have q2:=Zc hb3 hq.out.1;have q3:=Zc hb3 hq.out.2;clear hq hb3 hB2 a0 a1 a2 a3 b0 b1 b2 b3 hA hD hF;have hq:=Za (And.intro q2 q3);replace hU:=Za hU;replace hV:=Za hV;clear q2 q3;go_wp2_with fail;refine (Zfs nu U V k1 u k2 v X Y w3 hU.out hV.out hY).mono ?_;rintro e w4 ⟨hb4,nx,Ax,kx,cx,ny,Ay,ky,cy,rfl,hF⟩;have hB4 : Below w.heap.size w w4:=hB3.trans (hb4.mono hB3.size);have s4 : w3.heap.size <= w4.heap.size:=hb4.size;have q2:=Zc hb4 hq.out.1;have q3:=Zc hb4 hq.out.2;clear hq hb4 hU hV hB3;have c2:=Za q2.four;have c3:=q3.cell 0;have f3:=q3.frozen 0
 simp at c3
 obtain ⟨c20,c21,c22,c23,f20,f21,f22,f23⟩:=c2.out;have hq:=Za (And.intro q2 q3);clear q2 q3;go_wp2_with fail;obtain ⟨W5,hW5,hB5,q2,kW,kB,s5⟩:=Zac nx Ax kx cx ny Ay ky cy hB4 (by omega) hq.out.1;have q3:=kB _ _ _ (by omega) hq.out.2;have HX5:=Za (kW _ _ _ _ _ hF.1);have HY5:=Za (kW _ _ _ _ _ hF.2);rw [hW5];clear kW kB c20 c21 c22 c23 c3 f3 f20 f21 f22 f23 hq hF;obtain ⟨W6,hW6,hB6,q3,kW,kB,s6⟩:=Zbm 0 hB5 (by omega) q3;replace q2:=kB _ _ _ (by omega) q2;have HX6:=Za (kW _ _ _ _ _ HX5.out);have HY6:=Za (kW _ _ _ _ _ HY5.out);rw [hW6];obtain ⟨r0,r1,r2,r3,-⟩:=q2.four;have r4:=q3.cell 0
 simp at r4
 clear kW kB hB5 HX5 HY5 hW5 hW6;refine leaves_cons (f:=112) (args:=#[.pointer (some ⟨w.heap.size + 1 + 1 + 1,0,none⟩)]) (by simp) (by simp [go_sem]) ?_;refine (Zbk _ _).mono ?_;rintro e u' w'' ⟨rfl,rfl,rfl⟩;refine ⟨.tuple #[.agg #[.bool nx,.slice Ax kx cx,.bool ny,.slice Ay ky cy],.int .i64 0],by simp [results,Tryz.results81,go_sem,r0,r1,r2,r3,r4],?_⟩;exact ⟨hB6,_,_,_,_,_,_,_,_,rfl,HX6.out,HY6.out⟩
theorem Znq (x y : Value) (W : World) : (callFunc 117 #[x,y]).run Tryz.prog W = .ok (.enter 117 #[x,y]) W:=by simp [go_sem]
theorem Znn (x y : Value) (W : World) : (callFunc 152 #[x,y]).run Tryz.prog W = .ok (.enter 152 #[x,y]) W:=by simp [go_sem]
def Sm (r : Rat) : Prop:=r.num.natAbs < pw 1000 /\ r.den < pw 1000
theorem Zdl {x y : Nat} {i j : Nat} (hx : x < pw i) (hy : y < pw j) : x * y < pw (i + j):=by
 rw [Zew];exact Nat.mul_lt_mul'' hx hy
theorem Zia {x y : Int} (hx : x.natAbs < pw 1000) (hy : y.natAbs < pw 1000) : (x * y).natAbs < pw 2000:=by
 rw [Int.natAbs_mul];have h:=Zdl hx hy;rw [show 1000 + 1000 = 2000 from rfl] at h;exact h
theorem pw_two (k : Nat) : pw k + pw k <= pw (k + 1):=by rw [Zah];generalize pw k = x;omega
theorem Zq9 : pw 2000 + pw 2000 <= pw 4096:=Nat.le_trans (pw_two 2000) (Zej (by decide))
theorem Zbd {x y : Int} (hx : x.natAbs < pw 1000) (hy : y.natAbs < pw 1000) : (x * y).natAbs < pw 4096:=Nat.lt_of_lt_of_le (Zia hx hy) (Zej (by decide))
theorem Zqq {x y z v : Int} (hx : x.natAbs < pw 1000) (hy : y.natAbs < pw 1000) (hz : z.natAbs < pw 1000) (hv : v.natAbs < pw 1000) : (x * y - z * v).natAbs < pw 4096:=by
 have h1:=Zia hx hy;have h2:=Zia hz hv;have h3:=Zq9;omega
theorem Sm.dn {r : Rat} (h : Sm r) : ((r.den : Nat) : Int).natAbs < pw 1000:=by simpa using h.2
theorem Zj6 (a b : Rat) : Rat.divInt (a.num * b.num) ((a.den : Int) * (b.den : Nat)) = a * b:=by
 rw [<- Rat.divInt_mul_divInt,Rat.num_divInt_den,Rat.num_divInt_den]
theorem Zoa (a b : Rat) : Rat.divInt (a.num * b.den - b.num * a.den) ((a.den : Int) * (b.den : Nat)) = a - b:=by
 have ha : ((a.den : Nat) : Int) ≠ 0:=by have:=a.den_pos;omega
 have hb : ((b.den : Nat) : Int) ≠ 0:=by have:=b.den_pos;omega
 rw [<- Rat.divInt_sub_divInt _ _ ha hb,Rat.num_divInt_den,Rat.num_divInt_den]
theorem Zcq (a b : Rat) : 0 < ((a.den : Int) * (b.den : Nat)):=Int.mul_pos (by have:=a.den_pos;omega) (by have:=b.den_pos;omega)
theorem fSub_ok (na nb na' nb' : Bool) (A B A' B' : Option Addr) (n c m d n' c' m' d' : Nat) (a b : Rat) (w : World) (ha : Fr w na A n c nb B m d a) (hb : Fr w na' A' n' c' nb' B' m' d' b) (sa : Sm a) (sb : Sm b) :
    Calls Tryz.prog 139 #[.agg #[.bool na,.slice A n c,.bool nb,.slice B m d],.agg #[.bool na',.slice A' n' c',.bool nb',.slice B' m' d']] w (Zed w (a - b)):=by
 obtain ⟨W0,hW0,hB0,⟨q0,q1,q2⟩,s0⟩:=Zbx w 64 #[.bool na,.slice A n c,.bool nb,.slice B m d] 64 #[.bool na',.slice A' n' c',.bool nb',.slice B' m' d'] 64 #[.bool false,.slice none 0 0,.bool false,.slice none 0 0];have hA:=Za (ha.below hB0);have hD:=Za (hb.below hB0)
 have hF:=fun (W : World) (h1 : Fr W na A n c nb B m d a) (h2 : Fr W na' A' n' c' nb' B' m' d' b)=>Sub1_ok na nb na' nb' A B A' B' n c m d n' c' m' d' a b W h1 h2 (Zbd sa.1 sb.dn) (Zbd sb.1 sa.dn) (Zqq sa.1 sb.dn sb.1 sa.dn) (Zbd sa.dn sb.dn)
 have hG:=Za (Zob 152 na nb na' nb' A B A' B' n c m d n' c' m' d' a b _ _ W0 hA.out hD.out (Zcq a b) Znn hF);rw [Zoa] at hG;clear hF ha hb sa sb hA hD;obtain ⟨a0,a1,a2,a3,-⟩:=q0.four;obtain ⟨b0,b1,b2,b3,-⟩:=q1.four;replace q2:=Za q2;clear q0 q1;go_enter Tryz.func139,Tryz.ntmps139;go_wp2_with fail;refine hG.out.mono ?_;rintro e w1 ⟨hb1,nx,Ax,kx,cx,ny,Ay,ky,cy,rfl,hX⟩;have hB1 : Below w.heap.size w w1:=hB0.trans (hb1.mono hB0.size);have s1 : W0.heap.size <= w1.heap.size:=hb1.size;replace q2:=Za (Zc hb1 q2.out);replace hX:=Za hX;clear hb1 a0 a1 a2 a3 b0 b1 b2 b3 hB0 hG hW0;obtain ⟨c20,c21,c22,c23,f20,f21,f22,f23⟩:=q2.out.four;go_wp2_with fail;obtain ⟨W5,hW5,hB5,q2,kW,-,s5⟩:=Zac nx Ax kx cx ny Ay ky cy hB1 (by omega) q2.out;rw [hW5];obtain ⟨r0,r1,r2,r3,-⟩:=q2.four;refine bodyPost_ret (v:=.tuple #[.agg #[.bool nx,.slice Ax kx cx,.bool ny,.slice Ay ky cy],.int .i64 0]) (by simp [results,Tryz.results139,go_sem,r0,r1,r2,r3]) rfl ?_;exact ⟨hB5,_,_,_,_,_,_,_,_,rfl,kW _ _ _ _ _ hX.out.1,kW _ _ _ _ _ hX.out.2⟩
theorem Zn0 (na nb na' nb' : Bool) (A B A' B' : Option Addr) (n c m d n' c' m' d' : Nat) (a b : Rat) (w : World) (ha : Fr w na A n c nb B m d a) (hb : Fr w na' A' n' c' nb' B' m' d' b) (sa : Sm a) (sb : Sm b) :
    Calls Tryz.prog 73 #[.agg #[.bool na,.slice A n c,.bool nb,.slice B m d],.agg #[.bool na',.slice A' n' c',.bool nb',.slice B' m' d']] w (Zed w (a * b)):=by
 obtain ⟨W0,hW0,hB0,⟨q0,q1,q2⟩,s0⟩:=Zbx w 64 #[.bool na,.slice A n c,.bool nb,.slice B m d] 64 #[.bool na',.slice A' n' c',.bool nb',.slice B' m' d'] 64 #[.bool false,.slice none 0 0,.bool false,.slice none 0 0];have hA:=Za (ha.below hB0);have hD:=Za (hb.below hB0)
 have hF:=fun (W : World) (h1 : Fr W na A n c nb B m d a) (h2 : Fr W na' A' n' c' nb' B' m' d' b)=>Mul1_ok na nb na' nb' A B A' B' n c m d n' c' m' d' a b W h1 h2 (Zbd sa.1 sb.1) (Zbd sa.dn sb.dn)
 have hG:=Za (Zob 117 na nb na' nb' A B A' B' n c m d n' c' m' d' a b _ _ W0 hA.out hD.out (Zcq a b) Znq hF);rw [Zj6] at hG;clear hF ha hb sa sb hA hD;obtain ⟨a0,a1,a2,a3,-⟩:=q0.four;obtain ⟨b0,b1,b2,b3,-⟩:=q1.four;replace q2:=Za q2;clear q0 q1;go_enter Tryz.func73,Tryz.ntmps73;go_wp2_with fail;refine hG.out.mono ?_;rintro e w1 ⟨hb1,nx,Ax,kx,cx,ny,Ay,ky,cy,rfl,hX⟩;have hB1 : Below w.heap.size w w1:=hB0.trans (hb1.mono hB0.size);have s1 : W0.heap.size <= w1.heap.size:=hb1.size;replace q2:=Za (Zc hb1 q2.out);replace hX:=Za hX;clear hb1 a0 a1 a2 a3 b0 b1 b2 b3 hB0 hG hW0;obtain ⟨c20,c21,c22,c23,f20,f21,f22,f23⟩:=q2.out.four;go_wp2_with fail;obtain ⟨W5,hW5,hB5,q2,kW,-,s5⟩:=Zac nx Ax kx cx ny Ay ky cy hB1 (by omega) q2.out;rw [hW5];obtain ⟨r0,r1,r2,r3,-⟩:=q2.four;refine bodyPost_ret (v:=.tuple #[.agg #[.bool nx,.slice Ax kx cx,.bool ny,.slice Ay ky cy],.int .i64 0]) (by simp [results,Tryz.results73,go_sem,r0,r1,r2,r3]) rfl ?_;exact ⟨hB5,_,_,_,_,_,_,_,_,rfl,kW _ _ _ _ _ hX.out.1,kW _ _ _ _ _ hX.out.2⟩
theorem Zm3 (na nb : Bool) (A B : Option Addr) (n c m d : Nat) (za zb : Int) (w : World) (ha : Wd w na A n c za) (hb : Wd w nb B m d zb) :
    Calls Tryz.prog 119 #[.agg #[.bool na,.slice A n c],.agg #[.bool nb,.slice B m d]] w (ResW w (za + zb)):=by
 have hLa:=ha.lim;have hLb:=hb.lim;have hn:=ha.2.1;have hm:=hb.2.1
 have hB0 : ∀ X Y Z V : Obj,Below w.heap.size w ((((w.alloc X).alloc Y).alloc Z).alloc V):=fun X Y Z V=>((((Below.refl w.heap.size w).alloc (Nat.le_refl _) _).alloc (by simp) _).alloc (by simp;omega) _).alloc (by simp;omega) _
 have hW : ∀ X Y Z t,WL ((((w.alloc X).alloc Y).alloc Z).alloc (.cells #[.bool na,.slice A n c,.bool nb,.slice B m d] t)) (some ⟨w.heap.size + 1 + 1 + 1,0,none⟩) 2 2 [⟨na,A,n,c,digits za.natAbs⟩,⟨nb,B,m,d,digits zb.natAbs⟩]:=fun X Y Z t=>by
  have:=WL.two (neg:=na) (neg':=nb) (((hLa.alloc X).alloc Y).alloc Z) (((hLb.alloc X).alloc Y).alloc Z) t;simp only [World.size_alloc] at this;exact this
 have hW:=Za hW;have hB0:=Za hB0;have hgood : Hid (okW na (digits za.natAbs) = true /\ okW nb (digits zb.natAbs) = true):=⟨ha.ok,hb.ok⟩;have hza:=Za ha.sgEq;have hzb:=Za hb.sgEq;clear ha hb;go_enter Tryz.func119,Tryz.ntmps119;go_wp2_with fail;refine (Zb3 (hW.out _ _ _ _) (by have:=hgood.out;simp [WE.ok,this])).mono ?_;rintro e w1 ⟨rfl,hb1⟩;obtain ⟨hc1,hf1⟩:=Zbe hb1
 have hz1 : w.heap.size + 1 + 1 + 1 < w1.heap.size:=by have:=hb1.size;simp at this;omega
 have hB1 : Below w.heap.size w w1:=(hB0.out _ _ _ _).trans (hb1.mono (by simp;omega))
 have g0 : w1.cell? ⟨w.heap.size,0,none⟩ = some (.bool na):=by simp [hc1,go_sem]
 have g1 : w1.cell? ⟨w.heap.size,1,none⟩ = some (.slice A n c):=by simp [hc1,go_sem]
 have g2 : w1.cell? ⟨w.heap.size + 1,0,none⟩ = some (.bool nb):=by simp [hc1,go_sem]
 have g3 : w1.cell? ⟨w.heap.size + 1,1,none⟩ = some (.slice B m d):=by simp [hc1,go_sem]
 have gf : w1.frozen? ⟨w.heap.size + 1,0,none⟩ = false:=by simp [hf1,go_sem]
 have gB : Blk w1 (w.heap.size + 1) 62 #[.bool nb,.slice B m d]:=by
  refine Zc hb1 ((Blk.alloc (Blk.alloc ?_ _) _));have:=Blk.new (w.alloc (.cells #[.bool na,.slice A n c] 62)) 62 #[.bool nb,.slice B m d];simp only [World.size_alloc] at this;exact this
 have g7 : Blk w1 (w.heap.size + 1 + 1) 62 #[.bool false,.slice none 0 0]:=by
  refine Zc hb1 (Blk.alloc ?_ _);have:=Blk.new ((w.alloc (.cells #[.bool na,.slice A n c] 62)).alloc (.cells #[.bool nb,.slice B m d] 62)) 62 #[.bool false,.slice none 0 0];simp only [World.size_alloc] at this;exact this
 have hLa1:=hLa.below hB1;have hLb1:=hLb.below hB1;have HB:=Za gB;clear gB hc1 hf1;go_wp2_with fail;refine (Zn1 _ _ _ _ _ _ _ _ _ _ _ (by exact hLa1) (by exact hLb1) hn hm).mono ?_;rintro e w2 ⟨hb2,neg2,A2,n2,c2,code2,rfl,hR2⟩;have hB2 : Below w.heap.size w w2:=hB1.trans (hb2.mono hB1.size);have m7:=Zc hb2 g7;have m3:=m7.cell 0;have m4:=m7.cell 1;have m5:=m7.frozen 0;have m6:=m7.frozen 1
 simp at m3 m4
 have HM:=Za m7;clear m7;go_wp2_with fail
 have HZ : sg na za.natAbs + sg nb zb.natAbs = za + zb:=by
  have h1:=hza.out;have h2:=hzb.out;rw [Zf] at h1 h2;rw [h1,h2]
 refine bodyPost_ret (v:=.tuple #[.agg #[.bool neg2,.slice A2 n2 c2],.int .i64 code2]) (by simp [results,Tryz.results119,go_sem,m3,m4]) rfl ?_;exact ResW.box (HZ ▸ hR2) hB2 (by omega) HM.out
theorem Zhh (na nb : Bool) (A B : Option Addr) (n c m d : Nat) (za zb : Int) (w : World) (ha : Wd w na A n c za) (hb : Wd w nb B m d zb) :
    Calls Tryz.prog 104 #[.agg #[.bool na,.slice A n c],.agg #[.bool nb,.slice B m d]] w (ResW w (za + zb)):=by
 have hLa:=ha.lim;have hLb:=hb.lim;have hn:=ha.2.1;have hm:=hb.2.1;have hB0 : Below w.heap.size w (((w.alloc (.cells #[.bool na,.slice A n c] 62)).alloc (.cells #[.bool nb,.slice B m d] 62)).alloc (.cells #[.bool false,.slice none 0 0] 62)):=(((Below.refl w.heap.size w).alloc (Nat.le_refl _) _).alloc (by simp) _).alloc (by simp;omega) _;have hB0:=Za hB0
 have hgood : Hid ((okW na (digits za.natAbs) && okW nb (digits zb.natAbs)) = true):=by unfold Hid;rw [ha.ok,hb.ok];rfl
 have hza:=Za ha.sgEq;have hzb:=Za hb.sgEq;have hlb:=Za hb.lim.len;clear ha hb;go_enter Tryz.func104,Tryz.ntmps104;go_wp2_with fail;refine (Zc7 (hLa.below hB0.out) (hLb.below hB0.out) hgood.out).mono ?_;rintro e w1 ⟨rfl,hb1⟩;obtain ⟨hc1,hf1⟩:=Zbe hb1
 have hz1 : w.heap.size + 1 + 1 < w1.heap.size:=by have:=hb1.size;simp at this;omega
 have hB1 : Below w.heap.size w w1:=hB0.out.trans (hb1.mono (by simp;omega))
 have g0 : w1.cell? ⟨w.heap.size,0,none⟩ = some (.bool na):=by simp [hc1,go_sem]
 have g1 : w1.cell? ⟨w.heap.size,1,none⟩ = some (.slice A n c):=by simp [hc1,go_sem]
 have g2 : w1.cell? ⟨w.heap.size + 1,0,none⟩ = some (.bool nb):=by simp [hc1,go_sem]
 have g3 : w1.cell? ⟨w.heap.size + 1,1,none⟩ = some (.slice B m d):=by simp [hc1,go_sem]
 have g7 : Blk w1 (w.heap.size + 1 + 1) 62 #[.bool false,.slice none 0 0]:=by
  refine Zc hb1 ?_;have:=Blk.new ((w.alloc (.cells #[.bool na,.slice A n c] 62)).alloc (.cells #[.bool nb,.slice B m d] 62)) 62 #[.bool false,.slice none 0 0];simp only [World.size_alloc] at this;exact this
 have g5:=g7.cell 0;have g6:=g7.cell 1;have g8:=g7.frozen 0;have g9:=g7.frozen 1
 simp at g5 g6
 clear hc1 hf1;have hLa1:=hLa.below hB1;have hLb1:=hLb.below hB1;go_wp2_with fail;refine (Zc9 _ _ _ _ _ _ _ _ _ _ _ (by exact hLa1) (by exact hLb1) hn hm).mono ?_;rintro e w2 ⟨hb2,neg2,A2,n2,c2,code2,rfl,hR2⟩;have hB2 : Below w.heap.size w w2:=hB1.trans (hb2.mono hB1.size);have m7:=Zc hb2 g7;have m3:=m7.cell 0;have m4:=m7.cell 1;have m5:=m7.frozen 0;have m6:=m7.frozen 1
 simp at m3 m4
 have HM:=Za m7;clear m7;go_wp2_with fail
 have HZ : sg na za.natAbs + sg nb zb.natAbs = za + zb:=by
  have h1:=hza.out;have h2:=hzb.out;rw [Zf] at h1 h2;rw [h1,h2]
 refine bodyPost_ret (v:=.tuple #[.agg #[.bool neg2,.slice A2 n2 c2],.int .i64 code2]) (by simp [results,Tryz.results104,go_sem,m3,m4]) rfl ?_;exact ResW.box (HZ ▸ hR2) hB2 (by omega) HM.out
theorem Zn9 (na nb : Bool) (A B : Option Addr) (n c m d : Nat) (za zb : Int) (w : World) (ha : Wd w na A n c za) (hb : Wd w nb B m d zb) :
    Calls Tryz.prog 105 #[.agg #[.bool na,.slice A n c],.agg #[.bool nb,.slice B m d]] w (ResW w (za - zb)):=by
 have hLa:=ha.lim;have hLb:=hb.lim;have hn:=ha.2.1;have hm:=hb.2.1;have hB0 : Below w.heap.size w (((w.alloc (.cells #[.bool na,.slice A n c] 62)).alloc (.cells #[.bool nb,.slice B m d] 62)).alloc (.cells #[.bool false,.slice none 0 0] 62)):=(((Below.refl w.heap.size w).alloc (Nat.le_refl _) _).alloc (by simp) _).alloc (by simp;omega) _;have hB0:=Za hB0
 have hgood : Hid ((okW na (digits za.natAbs) && okW nb (digits zb.natAbs)) = true):=by unfold Hid;rw [ha.ok,hb.ok];rfl
 have hza:=Za ha.sgEq;have hzb:=Za hb.sgEq;have hlb:=Za hb.lim.len;clear ha hb;go_enter Tryz.func105,Tryz.ntmps105;go_wp2_with fail;refine (Zc7 (hLa.below hB0.out) (hLb.below hB0.out) hgood.out).mono ?_;rintro e w1 ⟨rfl,hb1⟩;obtain ⟨hc1,hf1⟩:=Zbe hb1
 have hz1 : w.heap.size + 1 + 1 < w1.heap.size:=by have:=hb1.size;simp at this;omega
 have hB1 : Below w.heap.size w w1:=hB0.out.trans (hb1.mono (by simp;omega))
 have g0 : w1.cell? ⟨w.heap.size,0,none⟩ = some (.bool na):=by simp [hc1,go_sem]
 have g1 : w1.cell? ⟨w.heap.size,1,none⟩ = some (.slice A n c):=by simp [hc1,go_sem]
 have g2 : w1.cell? ⟨w.heap.size + 1,0,none⟩ = some (.bool nb):=by simp [hc1,go_sem]
 have g3 : w1.cell? ⟨w.heap.size + 1,1,none⟩ = some (.slice B m d):=by simp [hc1,go_sem]
 have g7 : Blk w1 (w.heap.size + 1 + 1) 62 #[.bool false,.slice none 0 0]:=by
  refine Zc hb1 ?_;have:=Blk.new ((w.alloc (.cells #[.bool na,.slice A n c] 62)).alloc (.cells #[.bool nb,.slice B m d] 62)) 62 #[.bool false,.slice none 0 0];simp only [World.size_alloc] at this;exact this
 have g5:=g7.cell 0;have g6:=g7.cell 1;have g8:=g7.frozen 0;have g9:=g7.frozen 1
 simp at g5 g6
 clear hc1 hf1;have hLa1:=hLa.below hB1;have hLb1:=hLb.below hB1
 by_cases hm0 : 0 < m
 ·have hd : decide (0 < m) = true:=by simpa using hm0
  cases nb
  ·go_wp2_with fail
   refine (Zc9 _ _ _ _ _ _ _ _ _ _ _ (by exact hLa1) (by exact hLb1) hn hm).mono ?_;rintro e w2 ⟨hb2,neg2,A2,n2,c2,code2,rfl,hR2⟩;have hB2 : Below w.heap.size w w2:=hB1.trans (hb2.mono hB1.size);have m7:=Zc hb2 g7;have m3:=m7.cell 0;have m4:=m7.cell 1;have m5:=m7.frozen 0;have m6:=m7.frozen 1
   simp at m3 m4
   have HM:=Za m7;clear m7;go_wp2_with fail
   have HZ : sg na za.natAbs + sg (true) zb.natAbs = za - zb:=by
    have h1:=hza.out;have h2:=hzb.out;rw [Zf] at h1 h2
    have h3 : sg (true) zb.natAbs = - zb:=by unfold sg at h2 ⊢;simp at h2 ⊢;omega
    rw [h1,h3];omega
   refine bodyPost_ret (v:=.tuple #[.agg #[.bool neg2,.slice A2 n2 c2],.int .i64 code2]) (by simp [results,Tryz.results105,go_sem,m3,m4]) rfl ?_;exact ResW.box (HZ ▸ hR2) hB2 (by omega) HM.out
  ·go_wp2_with fail
   refine (Zc9 _ _ _ _ _ _ _ _ _ _ _ (by exact hLa1) (by exact hLb1) hn hm).mono ?_;rintro e w2 ⟨hb2,neg2,A2,n2,c2,code2,rfl,hR2⟩;have hB2 : Below w.heap.size w w2:=hB1.trans (hb2.mono hB1.size);have m7:=Zc hb2 g7;have m3:=m7.cell 0;have m4:=m7.cell 1;have m5:=m7.frozen 0;have m6:=m7.frozen 1
   simp at m3 m4
   have HM:=Za m7;clear m7;go_wp2_with fail
   have HZ : sg na za.natAbs + sg (false) zb.natAbs = za - zb:=by
    have h1:=hza.out;have h2:=hzb.out;rw [Zf] at h1 h2
    have h3 : sg (false) zb.natAbs = - zb:=by unfold sg at h2 ⊢;simp at h2 ⊢;omega
    rw [h1,h3];omega
   refine bodyPost_ret (v:=.tuple #[.agg #[.bool neg2,.slice A2 n2 c2],.int .i64 code2]) (by simp [results,Tryz.results105,go_sem,m3,m4]) rfl ?_;exact ResW.box (HZ ▸ hR2) hB2 (by omega) HM.out
 ·obtain rfl : m = 0:=by omega
  have hz0 : zb.natAbs = 0:=by have:=hlb.out;exact digits_eq_nil.1 (List.eq_nil_of_length_eq_zero this)
  have hz0:=Za hz0
  cases nb
  ·go_wp2_with fail
   refine (Zc9 _ _ _ _ _ _ _ _ _ _ _ (by exact hLa1) (by exact hLb1) hn hm).mono ?_;rintro e w2 ⟨hb2,neg2,A2,n2,c2,code2,rfl,hR2⟩;have hB2 : Below w.heap.size w w2:=hB1.trans (hb2.mono hB1.size);have m7:=Zc hb2 g7;have m3:=m7.cell 0;have m4:=m7.cell 1;have m5:=m7.frozen 0;have m6:=m7.frozen 1
   simp at m3 m4
   have HM:=Za m7;clear m7;go_wp2_with fail
   have HZ : sg na za.natAbs + sg (false) zb.natAbs = za - zb:=by
    have h1:=hza.out;have h2:=hzb.out;rw [Zf] at h1 h2
    have h3 : sg (false) zb.natAbs = - zb:=by have h4:=hz0.out;unfold sg;simp;omega
    rw [h1,h3];omega
   refine bodyPost_ret (v:=.tuple #[.agg #[.bool neg2,.slice A2 n2 c2],.int .i64 code2]) (by simp [results,Tryz.results105,go_sem,m3,m4]) rfl ?_;exact ResW.box (HZ ▸ hR2) hB2 (by omega) HM.out
  ·go_wp2_with fail
   refine (Zc9 _ _ _ _ _ _ _ _ _ _ _ (by exact hLa1) (by exact hLb1) hn hm).mono ?_;rintro e w2 ⟨hb2,neg2,A2,n2,c2,code2,rfl,hR2⟩;have hB2 : Below w.heap.size w w2:=hB1.trans (hb2.mono hB1.size);have m7:=Zc hb2 g7;have m3:=m7.cell 0;have m4:=m7.cell 1;have m5:=m7.frozen 0;have m6:=m7.frozen 1
   simp at m3 m4
   have HM:=Za m7;clear m7;go_wp2_with fail
   have HZ : sg na za.natAbs + sg (false) zb.natAbs = za - zb:=by
    have h1:=hza.out;have h2:=hzb.out;rw [Zf] at h1 h2
    have h3 : sg (false) zb.natAbs = - zb:=by have h4:=hz0.out;unfold sg;simp;omega
    rw [h1,h3];omega
   refine bodyPost_ret (v:=.tuple #[.agg #[.bool neg2,.slice A2 n2 c2],.int .i64 code2]) (by simp [results,Tryz.results105,go_sem,m3,m4]) rfl ?_;exact ResW.box (HZ ▸ hR2) hB2 (by omega) HM.out
end Go.Proofs.YtkcbhbddgmkoiaaGreat
