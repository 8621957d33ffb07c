/- Package frac: reduce with a negative denominator, both, -/
import Derived.Lib.SlBuf
import Derived.Test.YtigdclhagmnopaaGreatZq20
set_option maxRecDepth 100000
set_option maxHeartbeats 8000000
set_option linter.unusedSimpArgs false
set_option linter.unusedVariables false
namespace Go.Proofs.YtigdclhagmnopaaGreat
open Go.RowKit
attribute [local go_sem] Zh
theorem Zr0 (na:Bool) (A B:Option Addr) (n c m d:Nat) (za zb:Int) (w:World) (ha:Wd w na A n c za) (hb:Wd w true B m d zb) (h0:zb < 0) :
    Calls Tryz.prog 151 #[.agg #[.bool na,.slice A n c],.agg #[.bool true,.slice B m d]] w (Zff w (Rat.divInt za zb)):=by
 have hgs:=Zd1 ha.small hb.small;have hx:=Za (Zjb (a:=za) (b:=zb) (by omega));have hy:=Za (Ziv (a:=za) (b:=zb) (by omega));have hG0:=Za (Zks (a:=za) (b:=zb) (by omega))
 have hGE:Zfr za zb=-((Nat.gcd za.natAbs zb.natAbs:Nat):Int):=by unfold Zfr;rw [if_pos h0]
 rw [hGE] at hx hy hG0;have HA:=Za ha;have HB:=Za hb;obtain ⟨G,hG⟩:∃ G,Nat.gcd za.natAbs zb.natAbs=G:=⟨_,rfl⟩;rw [hG] at hx hy hG0 hgs
 have HGc:Hid (∀ W:World,Wd W na A n c za->Wd W true B m d zb->Calls Tryz.prog 96 #[.agg #[.bool na,.slice A n c],.agg #[.bool true,.slice B m d]] W (ResW W (G:Int))):=fun W h1 h2=>by
  have:=Zjv na true A B n c m d za zb W h1 h2;rw [hG] at this;exact this
 generalize Rat.divInt za zb=R at *
 clear ha hb hG hGE
 have hB0:∀ X Y Z:Obj,Below w.heap.size w (((w.alloc X).alloc Y).alloc Z):=fun X Y Z=>(((Below.refl w.heap.size w).alloc (Nat.le_refl _) _).alloc (by simp) _).alloc (by simp;omega) _
 have hB0:=Za hB0;go_enter Tryz.func151,Tryz.ntmps151;go_wp2_with fail;have q0:Blk (((w.alloc (.cells #[.bool na,.slice A n c] 43)).alloc (.cells #[.bool true,.slice B m d] 43)).alloc (.cells #[.bool false,.slice none 0 0,.bool false,.slice none 0 0] 45)) w.heap.size 43 #[.bool na,.slice A n c]:=((Blk.new _ _ _).alloc _).alloc _
 have q1:Blk (((w.alloc (.cells #[.bool na,.slice A n c] 43)).alloc (.cells #[.bool true,.slice B m d] 43)).alloc (.cells #[.bool false,.slice none 0 0,.bool false,.slice none 0 0] 45)) (w.heap.size+1) 43 #[.bool true,.slice B m d]:=by
  have:=(Blk.new (w.alloc (.cells #[.bool na,.slice A n c] 43)) 43 #[.bool true,.slice B m d]).alloc (.cells #[.bool false,.slice none 0 0,.bool false,.slice none 0 0] 45);simp only [World.size_alloc] at this;exact this
 have q2:Blk (((w.alloc (.cells #[.bool na,.slice A n c] 43)).alloc (.cells #[.bool true,.slice B m d] 43)).alloc (.cells #[.bool false,.slice none 0 0,.bool false,.slice none 0 0] 45)) (w.heap.size+1+1) 45 #[.bool false,.slice none 0 0,.bool false,.slice none 0 0]:=by
  have:=Blk.new ((w.alloc (.cells #[.bool na,.slice A n c] 43)).alloc (.cells #[.bool true,.slice B m d] 43)) 45 #[.bool false,.slice none 0 0,.bool false,.slice none 0 0];simp only [World.size_alloc] at this;exact this
 refine (HGc.out _ (((HA.out.alloc _).alloc _).alloc _) (((HB.out.alloc _).alloc _).alloc _)).mono ?_;rintro e w1 ⟨hb1,ng,Ag,kg,cg,code,rfl,hR⟩
 rcases hR with ⟨-,rfl,hgw⟩ | ⟨hbig,-⟩
 case inr=>exact absurd hbig (by omega)
 have hB1:Below w.heap.size w w1:=(hB0.out _ _ _).trans (hb1.mono (by simp;omega));have HA1:=Za (HA.out.below hB1);have HB1:=Za (HB.out.below hB1)
 have s1:w.heap.size+1+1 < w1.heap.size:=by have:=hb1.size;simp at this;omega
 replace q0:=Zc hb1 q0;replace q1:=Zc hb1 q1;replace q2:=Zc hb1 q2;obtain ⟨c00,c01,-,-⟩:=q0.two;obtain ⟨c10,c11,-,-⟩:=q1.two;have hq:=Za (And.intro q0 (And.intro q1 q2));clear q0 q1 q2 hb1;go_wp2_with fail;refine (Zdn ng Ag kg cg _).mono ?_;rintro e w2 ⟨rfl,hb2⟩;have hB2:Below w.heap.size w w2:=hB1.trans (hb2.mono hB1.size);have HA2:=Za (HA1.out.below hb2);have HB2:=Za (HB1.out.below hb2);have HG2:=Za (hgw.below hb2)
 have s2:w.heap.size+1+1 < w2.heap.size:=by have:=hb2.size;omega
 have q0:=Zc hb2 hq.out.1;have q1:=Zc hb2 hq.out.2.1;have q2:=Zc hb2 hq.out.2.2;clear c00 c01 c10 c11 hB1 hb2 hgw HA1 HB1 hq;obtain ⟨W3,hW3,hB3,q3,kW,kB,s3⟩:=Zr 43 #[.bool ng,.slice Ag kg cg] hB2 (by omega);replace q0:=kB _ _ _ q0;replace q1:=kB _ _ _ q1;replace q2:=kB _ _ _ q2;have HA3:=Za (kW _ _ _ _ _ HA2.out);have HB3:=Za (kW _ _ _ _ _ HB2.out);have HG3:=Za (kW _ _ _ _ _ HG2.out);have s4:w.heap.size+1+1 < w2.heap.size:=s2;clear kW kB HA2 HB2 HG2 hB2;have c0:=Za q0.two;have c1:=Za q1.two;have c3:=Za q3.two;rw [<- hW3] at c0 c1 c3;obtain ⟨c00,c01,-,-⟩:=c0.out;obtain ⟨c10,c11,-,-⟩:=c1.out;obtain ⟨c30,c31,-,-⟩:=c3.out;have hq:=Za (And.intro q0 (And.intro q1 (And.intro q2 q3)));clear q0 q1 q2 q3;replace hW3:=Za hW3;go_wp2_with fail;rw [hW3.out];refine (Zsp ng Ag kg cg G W3 HG3.out).mono ?_;rintro e w4 ⟨hb4,n5,A5,k5,c5,code,rfl,hR⟩
 have hsm:(-(G:Int)).natAbs < pw 4096:=by rw [Int.natAbs_neg];exact HG3.out.small
 have HN4:=Za (hR.small hsm);have hcode:=hR.code0 hsm;subst hcode;have hB4:Below w.heap.size w w4:=hB3.trans (hb4.mono (by omega));have HA4:=Za (HA3.out.below hb4);have HB4:=Za (HB3.out.below hb4)
 have s5:w2.heap.size+1 <= w4.heap.size:=by have:=hb4.size;omega
 have q0:=Zc hb4 hq.out.1;have q1:=Zc hb4 hq.out.2.1;have q2:=Zc hb4 hq.out.2.2.1;have q3:=Zc hb4 hq.out.2.2.2;clear hb4 c0 c1 c3 c00 c01 c10 c11 c30 c31 hW3 HA3 HB3 HG3 hB3 hq hR hsm;have hq:=Za (And.intro q0 (And.intro q1 (And.intro q2 q3)));clear q0 q1 q2 q3;go_wp2_with fail;refine (Zdn n5 A5 k5 c5 _).mono ?_;rintro e w5 ⟨rfl,hb5⟩;have hB5:Below w.heap.size w w5:=hB4.trans (hb5.mono (by omega));have HA5:=Za (HA4.out.below hb5);have HB5:=Za (HB4.out.below hb5);have HN5:=Za (HN4.out.below hb5);have s6:w4.heap.size <= w5.heap.size:=hb5.size;have q0:=Zc hb5 hq.out.1;have q1:=Zc hb5 hq.out.2.1;have q2:=Zc hb5 hq.out.2.2.1;have q3:=Zc hb5 hq.out.2.2.2;clear hb5 HA4 HB4 HN4 hB4 hq;obtain ⟨W7,hW7,hB7,q3',kW,kB,s7⟩:=Zav n5 A5 k5 c5 hB5 (by omega) q3;replace q0:=kB _ _ _ (by omega) q0;replace q1:=kB _ _ _ (by omega) q1;replace q2:=kB _ _ _ (by omega) q2;have HA7:=Za (kW _ _ _ _ _ HA5.out);have HB7:=Za (kW _ _ _ _ _ HB5.out);have HG7:=Za (kW _ _ _ _ _ HN5.out);obtain ⟨x30,x31,y30,y31⟩:=q3.two;have c0:=Za q0.two;have c1:=Za q1.two;have c3:=Za q3'.two;obtain ⟨c00,c01,-,-⟩:=c0.out;obtain ⟨c10,c11,-,-⟩:=c1.out;obtain ⟨c30,c31,-,-⟩:=c3.out;have hq:=Za (And.intro q0 (And.intro q1 (And.intro q2 q3')));clear q0 q1 q2 q3 q3' kW kB HA5 HB5 HN5 hB5;replace hW7:=Za hW7;have hW7':=hW7.out;go_wp2_with fail;(try rw [hW7.out]);clear x30 x31 y30 y31 hW7';refine (Zfm na n5 A A5 n c k5 c5 za (-(G:Int)) _ HA7.out HG7.out hG0.out).mono ?_;rintro e w9 ⟨hb9,nx,Ax,kx,cx,nr,Ar,kr,cr,rfl,hwx,-⟩
 rw [hx.out] at hwx;have hB4:Below w.heap.size w w9:=hB7.trans (hb9.mono (by omega));have HB4:=Za (HB7.out.below hb9);have HG4:=Za (HG7.out.below hb9)
 have s8:w2.heap.size+1 <= w9.heap.size:=by have:=hb9.size;omega
 have q1:=Zc hb9 hq.out.2.1;have q2:=Zc hb9 hq.out.2.2.1;have q3:=Zc hb9 hq.out.2.2.2;clear hb9 c0 c1 c3 c00 c01 c10 c11 c30 c31 hW7 HA7 HB7 HG7 hB7 hq;obtain ⟨W5,hW5,hB5,q5,kW,kB,s6⟩:=Zr 43 #[.bool nx,.slice Ax kx cx] hB4 (by omega);replace q1:=kB _ _ _ q1;replace q2:=kB _ _ _ q2;replace q3:=kB _ _ _ q3;have HB5:=Za (kW _ _ _ _ _ HB4.out);have HG5:=Za (kW _ _ _ _ _ HG4.out);have HX5:=Za (kW _ _ _ _ _ hwx);clear kW kB HB4 HG4 hwx hB4;obtain ⟨W6,hW6,hB6,-,kW,kB,s7⟩:=Zr 43 #[.bool nr,.slice Ar kr cr] hB5 (by omega);replace q1:=kB _ _ _ q1;replace q2:=kB _ _ _ q2;replace q3:=kB _ _ _ q3;replace q5:=kB _ _ _ q5;have HB6:=Za (kW _ _ _ _ _ HB5.out);have HG6:=Za (kW _ _ _ _ _ HG5.out);have HX6:=Za (kW _ _ _ _ _ HX5.out);clear kW kB HB5 HG5 HX5 hB5;have c1:=Za q1.two;have c3:=Za q3.two;rw [<- hW6,<- hW5] at c1 c3;obtain ⟨c10,c11,-,-⟩:=c1.out;obtain ⟨c30,c31,-,-⟩:=c3.out;have hq:=Za (And.intro q2 q5);clear q1 q2 q3 q5;rw [<- hW5] at hW6;replace hW6:=Za hW6;clear hW5;go_wp2_with fail;rw [hW6.out];refine (Zfm true n5 B A5 m d k5 c5 zb (-(G:Int)) _ HB6.out HG6.out hG0.out).mono ?_;rintro e w7 ⟨hb7,ny,Ay,ky,cy,ns,As,ks,cs,rfl,hwy,-⟩;rw [hy.out] at hwy;have hB7:Below w.heap.size w w7:=hB6.trans (hb7.mono (by omega));have HX7:=Za (HX6.out.below hb7)
 have s11:w9.heap.size+2 <= w7.heap.size:=by have:=hb7.size;omega
 have q2:=Zc hb7 hq.out.1;have q5:=Zc hb7 hq.out.2;clear hb7 c1 c3 c10 c11 c30 c31 hW6 HB6 HG6 HX6 hB6 hq;obtain ⟨W8,hW8,hB8,q8,kW,kB,s9⟩:=Zr 43 #[.bool ny,.slice Ay ky cy] hB7 (by omega);replace q2:=kB _ _ _ q2;replace q5:=kB _ _ _ q5;have HX8:=Za (kW _ _ _ _ _ HX7.out);have HY8:=Za (kW _ _ _ _ _ hwy);clear kW kB HX7 hwy hB7;obtain ⟨W9,hW9,hB9,-,kW,kB,s10⟩:=Zr 43 #[.bool ns,.slice As ks cs] hB8 (by omega);replace q2:=kB _ _ _ q2;replace q5:=kB _ _ _ q5;replace q8:=kB _ _ _ q8;have HX9:=Za (kW _ _ _ _ _ HX8.out);have HY9:=Za (kW _ _ _ _ _ HY8.out);clear kW kB HX8 HY8 hB8;have c5:=Za q5.two;have c8:=Za q8.two;have c2:=Za q2.four;have hq:=Za q2;rw [<- hW9,<- hW8] at c5 c8 c2;rw [<- hW8] at hW9;clear hW8 q2 q5 q8;obtain ⟨c50,c51,-,-⟩:=c5.out;obtain ⟨c80,c81,-,-⟩:=c8.out;obtain ⟨c20,c21,c22,c23,f20,f21,f22,f23⟩:=c2.out;replace hW9:=Za hW9;replace hB9:=Za hB9;go_wp2_with fail;rw [hW9.out];obtain ⟨W,hW,hB,hblk,kW,-⟩:=Z3 nx Ax kx cx ny Ay ky cy hB9.out (by omega) hq.out;rw [hW];obtain ⟨r0,r1,r2,r3,-⟩:=hblk.four;refine bodyPost_ret (v:=.agg #[.bool nx,.slice Ax kx cx,.bool ny,.slice Ay ky cy]) (by simp [results,Tryz.results151,go_sem,r0,r1,r2,r3]) rfl ?_;exact ⟨hB,_,_,_,_,_,_,_,_,rfl,kW _ _ _ _ _ HX9.out,kW _ _ _ _ _ HY9.out⟩
theorem Zra (na nb:Bool) (A B:Option Addr) (n c m d:Nat) (za zb:Int) (w:World) (ha:Wd w na A n c za) (hb:Wd w nb B m d zb) (h0:zb ≠ 0) :
    Calls Tryz.prog 151 #[.agg #[.bool na,.slice A n c],.agg #[.bool nb,.slice B m d]] w (Zff w (Rat.divInt za zb)):=by
 by_cases hn:zb < 0
 ·have:nb=true:=by rw [hb.1];exact decide_eq_true hn
  subst this;exact Zr0 na A B n c m d za zb w ha hb hn
 ·have:nb=false:=by rw [hb.1];exact decide_eq_false hn
  subst this;exact Zic na A B n c m d za zb w ha hb (by omega)
theorem Zv3 (F:FuncId) (na nb na' nb':Bool) (A B A' B':Option Addr) (n c m d n' c' m' d':Nat) (a b:Rat) (X Y:Int) (w:World) (ha:Fr w na A n c nb B m d a) (hb:Fr w na' A' n' c' nb' B' m' d' b) (hY:Y ≠ 0) (hcf:∀ (x y:Value) (W:World),(callFunc F #[x,y]).run Tryz.prog W=.ok (.enter F #[x,y]) W)
    (hF:∀ W:World,Fr W na A n c nb B m d a->Fr W na' A' n' c' nb' B' m' d' b->Calls Tryz.prog F #[.agg #[.bool na,.slice A n c,.bool nb,.slice B m d],.agg #[.bool na',.slice A' n' c',.bool nb',.slice B' m' d']] W (Zna W X Y)) :
    Calls Tryz.prog 119 #[.agg #[.bool na,.slice A n c,.bool nb,.slice B m d],.agg #[.bool na',.slice A' n' c',.bool nb',.slice B' m' d'],.func (.func F) #[] #[]] w (Zef w (Rat.divInt X Y)):=by
 obtain ⟨W0,hW0,hB0,⟨q0,q1,q2,q3⟩,s0⟩:=Zft w 45 #[.bool na,.slice A n c,.bool nb,.slice B m d] 45 #[.bool na',.slice A' n' c',.bool nb',.slice B' m' d'] 45 #[.bool false,.slice none 0 0,.bool false,.slice none 0 0] 24 #[.int .i64 0];have hA:=Za (ha.below hB0);have hD:=Za (hb.below hB0);replace hF:=Za hF;clear ha hb;replace hW0:=Za hW0;obtain ⟨a0,a1,a2,a3,-⟩:=q0.four;have hq:=Za (And.intro q0 (And.intro q1 (And.intro q2 q3)));clear q0 q1 q2 q3
 go_enter_defers Tryz.func119,Tryz.ntmps119
 have hW0':=hW0.out;go_wp2_with fail;clear hW0 hW0';refine (Zd3 na nb A B n c m d a W0 hA.out).mono ?_;rintro e w1 ⟨rfl,hb1⟩;have hB1:Below w.heap.size w w1:=hB0.trans (hb1.mono hB0.size);have s1:W0.heap.size <= w1.heap.size:=hb1.size;replace hA:=Za (hA.out.below hb1);replace hD:=Za (hD.out.below hb1);obtain ⟨q0,q1,q2,q3⟩:=hq.out;replace q0:=Zc hb1 q0;replace q1:=Zc hb1 q1;replace q2:=Zc hb1 q2;replace q3:=Zc hb1 q3;clear hq hb1 hB0 a0 a1 a2 a3;obtain ⟨b0,b1,b2,b3,-⟩:=q1.four;have hq:=Za (And.intro q0 (And.intro q1 (And.intro q2 q3)));clear q0 q1 q2 q3;go_wp2_with fail;refine (Ze1 w1).mono ?_;rintro e w1 ⟨rfl,rfl⟩;go_wp2_with fail;refine (Zd3 na' nb' A' B' n' c' m' d' b w1 hD.out).mono ?_;rintro e w2 ⟨rfl,hb2⟩;have hB2:Below w.heap.size w w2:=hB1.trans (hb2.mono hB1.size);have s2:w1.heap.size <= w2.heap.size:=hb2.size;replace hA:=Za (hA.out.below hb2);replace hD:=Za (hD.out.below hb2);obtain ⟨q0,q1,q2,q3⟩:=hq.out;replace q0:=Zc hb2 q0;replace q1:=Zc hb2 q1;replace q2:=Zc hb2 q2;replace q3:=Zc hb2 q3;clear hq hb2 hB1 b0 b1 b2 b3;obtain ⟨a0,a1,a2,a3,-⟩:=q0.four;obtain ⟨b0,b1,b2,b3,-⟩:=q1.four;have hq:=Za (And.intro q2 q3);clear q0 q1 q2 q3;go_wp2_with fail;refine (Ze1 w2).mono ?_;rintro e w2 ⟨rfl,rfl⟩;go_wp2_with fail;refine (hF.out w2 hA.out hD.out).mono ?_;rintro e w3 ⟨hb3,nu,U,k1,u,nv,V,k2,v,rfl,hU,hV⟩;have hB3:Below w.heap.size w w3:=hB2.trans (hb3.mono hB2.size);have s3:w2.heap.size <= w3.heap.size:=hb3.size;have q2:=Zc hb3 hq.out.1;have q3:=Zc hb3 hq.out.2
 clear hq hb3 hB2 a0 a1 a2 a3 b0 b1 b2 b3 hA hD hF;have hq:=Za (And.intro q2 q3);replace hU:=Za hU;replace hV:=Za hV;clear q2 q3;go_wp2_with fail;refine (Zra nu nv U V k1 u k2 v X Y w3 hU.out hV.out hY).mono ?_;rintro e w4 ⟨hb4,nx,Ax,kx,cx,ny,Ay,ky,cy,rfl,hF⟩;have hB4:Below w.heap.size w w4:=hB3.trans (hb4.mono hB3.size);have s4:w3.heap.size <= w4.heap.size:=hb4.size;have q2:=Zc hb4 hq.out.1;have q3:=Zc hb4 hq.out.2;clear hq hb4 hU hV hB3;have c2:=Za q2.four;have c3:=q3.cell 0;have f3:=q3.frozen 0
 simp at c3
 obtain ⟨c20,c21,c22,c23,f20,f21,f22,f23⟩:=c2.out;have hq:=Za (And.intro q2 q3);clear q2 q3;go_wp2_with fail;obtain ⟨W5,hW5,hB5,q2,kW,kB,s5⟩:=Z3 nx Ax kx cx ny Ay ky cy hB4 (by omega) hq.out.1;have q3:=kB _ _ _ (by omega) hq.out.2;have HX5:=Za (kW _ _ _ _ _ hF.1);have HY5:=Za (kW _ _ _ _ _ hF.2);rw [hW5];clear kW kB c20 c21 c22 c23 c3 f3 f20 f21 f22 f23 hq hF;obtain ⟨W6,hW6,hB6,q3,kW,kB,s6⟩:=Zjf 0 hB5 (by omega) q3;replace q2:=kB _ _ _ (by omega) q2;have HX6:=Za (kW _ _ _ _ _ HX5.out);have HY6:=Za (kW _ _ _ _ _ HY5.out);rw [hW6];obtain ⟨r0,r1,r2,r3,-⟩:=q2.four;have r4:=q3.cell 0
 simp at r4
 clear kW kB hB5 HX5 HY5 hW5 hW6;refine leaves_cons (f:=102) (args:=#[.pointer (some ⟨w.heap.size+1+1+1,0,none⟩)]) (by simp) (by simp [go_sem]) ?_;refine (Zgi _ _).mono ?_;rintro e u' w'' ⟨rfl,rfl,rfl⟩;refine ⟨.tuple #[.agg #[.bool nx,.slice Ax kx cx,.bool ny,.slice Ay ky cy],.int .i64 0],by simp [results,Tryz.results119,go_sem,r0,r1,r2,r3,r4],?_⟩;exact ⟨hB6,_,_,_,_,_,_,_,_,rfl,HX6.out,HY6.out⟩
theorem Zrp (x y:Value) (W:World):(callFunc 156 #[x,y]).run Tryz.prog W=.ok (.enter 156 #[x,y]) W:=by simp [go_sem]
theorem Div1_ok (na nb na' nb':Bool) (A B A' B':Option Addr) (n c m d n' c' m' d':Nat) (a b:Rat) (w:World) (ha:Fr w na A n c nb B m d a) (hb:Fr w na' A' n' c' nb' B' m' d' b)
    (hs:(a.num * b.den).natAbs < pw 4096) (ht:((a.den:Int) * b.num).natAbs < pw 4096) (h0:b ≠ 0) :
    Calls Tryz.prog 156 #[.agg #[.bool na,.slice A n c,.bool nb,.slice B m d],.agg #[.bool na',.slice A' n' c',.bool nb',.slice B' m' d']] w (Zna w (a.num * b.den) ((a.den:Int) * b.num)):=by
 obtain ⟨W0,hW0,hB0,⟨q0,q1,q2,q3⟩,s0⟩:=Zft w 45 #[.bool na,.slice A n c,.bool nb,.slice B m d] 45 #[.bool na',.slice A' n' c',.bool nb',.slice B' m' d'] 43 #[.bool false,.slice none 0 0] 43 #[.bool false,.slice none 0 0]
 have hz0:((n':Int) == 0)=false:=by
  have:n' ≠ 0:=fun e=>h0 (hb.zero_iff.1 e)
  simp;omega
 have hmx:Tryz.prog.follows .mixedOrders=true:=by kernel_rfl
 have hA:=Za (ha.below hB0);have hD:=Za (hb.below hB0);replace hs:=Za hs;replace ht:=Za ht;have sz:=Za hB0.size;have hB:=Za hB0;clear ha hb hB0 s0;replace q0:=Za q0;replace q1:=Za q1;replace q2:=Za q2;replace q3:=Za q3;obtain ⟨a0,a1,a2,a3,-⟩:=q0.out.four;obtain ⟨b0,b1,b2,b3,-⟩:=q1.out.four;replace hW0:=Za hW0;go_enter Tryz.func156,Tryz.ntmps156;go_wp2_with fail;rw [hW0.out];refine (Zi5 na' A' n' c' W0 (Nat.le_trans hD.out.1.2.1 (by decide)) false hz0).mono ?_;rintro e wz ⟨rfl,hbz⟩;replace q0:=Za (Zc hbz q0.out);replace q1:=Za (Zc hbz q1.out);replace q2:=Za (Zc hbz q2.out);replace q3:=Za (Zc hbz q3.out);replace hA:=Za (hA.out.below hbz);replace hD:=Za (hD.out.below hbz);replace hB:=Za (hB.out.trans (hbz.mono sz.out));replace sz:=Za (Nat.le_trans sz.out hbz.size);clear a0 a1 a2 a3 b0 b1 b2 b3 hW0 hbz;obtain ⟨a0,a1,a2,a3,-⟩:=q0.out.four;obtain ⟨b0,b1,b2,b3,-⟩:=q1.out.four;go_wp2_with fail;refine Zaj [12] (fun W'=>W'.cell? ⟨w.heap.size,0,none⟩=some (.bool na)/\W'.cell? ⟨w.heap.size,1,none⟩=some (.slice A n c)/\W'.cell? ⟨w.heap.size,2,none⟩=some (.bool nb)/\W'.cell? ⟨w.heap.size,3,none⟩=some (.slice B m d)/\W'.cell? ⟨w.heap.size+1,0,none⟩=some (.bool na')/\W'.cell? ⟨w.heap.size+1,1,none⟩=some (.slice A' n' c')/\W'.cell? ⟨w.heap.size+1,2,none⟩=some (.bool nb')/\W'.cell? ⟨w.heap.size+1,3,none⟩=some (.slice B' m' d')) hmx ⟨a0,a1,a2,a3,b0,b1,b2,b3⟩ (fun _=>?_);refine Zi4 6 [0,1,3,4,5,6] rfl (by kernel_rfl) ⟨a0,a1,a2,a3,b0,b1,b2,b3⟩ ?_
 iterate 6 (refine tk1 (v:=?_) rfl (Or.inl ⟨by kernel_rfl,?_⟩) ?_;rotate_left;(· intro W2 hSw;(try dsimp only at hSw);go_simp;try with_reducible rfl);try simp only [Act.put,Zgj,Zfx,Zge,putG_a,putG_s,putG_z])
 refine tk0 ?_;refine Ze (i:=2) rfl (by kernel_rfl) (fun K hK=>?_);go_simp;refine (Zex na nb na' nb' A B A' B' n c m d n' c' m' d' a b wz.drew hA.out hD.out hs.out).mono ?_;rintro e w1 ⟨hb1,np,P,k,q,rfl,hP⟩;replace hb1:=Zo hb1;replace hP:=Za hP;clear hs;replace q0:=Za (Zc hb1 q0.out);replace q1:=Za (Zc hb1 q1.out);replace q2:=Za (Zc hb1 q2.out);replace q3:=Za (Zc hb1 q3.out);replace hA:=Za (hA.out.below hb1);replace hD:=Za (hD.out.below hb1);replace hB:=Za (hB.out.trans (hb1.mono sz.out));replace sz:=Za (Nat.le_trans sz.out hb1.size);clear a0 a1 a2 a3 b0 b1 b2 b3;obtain ⟨a0,a1,a2,a3,-⟩:=q0.out.four;obtain ⟨b0,b1,b2,b3,-⟩:=q1.out.four;clear hb1;refine hK.out _ _ (fun _=>⟨a0,a1,a2,a3,b0,b1,b2,b3⟩) ?_;clear hK K
 try simp only [Act.put,Zgj,Zfx,Zge]
 refine Ze (i:=7) rfl (by kernel_rfl) (fun K hK=>?_);go_simp;refine (Zif nb na' B A' m d n' c' a.den b.num w1 hA.out.2 hD.out.1).mono ?_;rintro e w3 ⟨hb3,np',P',k',q',code,rfl,hR⟩;have hP':=Za (hR.small ht.out);have hcode:=hR.code0 ht.out;subst hcode;clear ht hR;replace hP:=Za (hP.out.below hb3);replace q0:=Za (Zc hb3 q0.out);replace q1:=Za (Zc hb3 q1.out);replace q2:=Za (Zc hb3 q2.out);replace q3:=Za (Zc hb3 q3.out);replace hA:=Za (hA.out.below hb3);replace hD:=Za (hD.out.below hb3);replace hB:=Za (hB.out.trans (hb3.mono sz.out));replace sz:=Za (Nat.le_trans sz.out hb3.size);clear a0 a1 a2 a3 b0 b1 b2 b3;obtain ⟨a0,a1,a2,a3,-⟩:=q0.out.four;obtain ⟨b0,b1,b2,b3,-⟩:=q1.out.four;clear hb3;refine hK.out _ _ (fun _=>⟨a0,a1,a2,a3,b0,b1,b2,b3⟩) ?_;clear hK K
 try simp only [Act.put,Zgj,Zfx,Zge]
 refine Zi4 2 [8,9] rfl (by kernel_rfl) ⟨a0,a1,a2,a3,b0,b1,b2,b3⟩ ?_
 iterate 2 (refine tk1 (v:=?_) rfl (Or.inl ⟨by kernel_rfl,?_⟩) ?_;rotate_left;(· intro W2 hSw;(try dsimp only at hSw);go_simp;try with_reducible rfl);try simp only [Act.put,Zgj,Zfx,Zge,putG_a,putG_s,putG_z])
 refine tk0 ?_;refine Ze (i:=10) rfl (by kernel_rfl) (fun K hK=>?_);go_simp;refine (Zdn np' P' k' q' w3).mono ?_;rintro e w4 ⟨rfl,hb4⟩;replace hP:=Za (hP.out.below hb4);replace hP':=Za (hP'.out.below hb4);replace q0:=Za (Zc hb4 q0.out);replace q1:=Za (Zc hb4 q1.out);replace q2:=Za (Zc hb4 q2.out);replace q3:=Za (Zc hb4 q3.out);replace hA:=Za (hA.out.below hb4);replace hD:=Za (hD.out.below hb4);replace hB:=Za (hB.out.trans (hb4.mono sz.out));replace sz:=Za (Nat.le_trans sz.out hb4.size);clear a0 a1 a2 a3 b0 b1 b2 b3;obtain ⟨a0,a1,a2,a3,-⟩:=q0.out.four;obtain ⟨b0,b1,b2,b3,-⟩:=q1.out.four;clear hb4;obtain ⟨x0,x1,f0,f1⟩:=q2.out.two;refine hK.out _ _ (fun _=>⟨a0,a1,a2,a3,b0,b1,b2,b3⟩) ?_;clear hK K
 try simp only [Act.put,Zgj,Zfx,Zge]
 refine Ze (i:=11) rfl (by kernel_rfl) (fun K hK=>?_);go_simp;obtain ⟨W5,hW5,hB5,q2',kW,kB,s5⟩:=Zav np P k q hB.out (by omega) q2.out;rw [hW5];clear hW5 x0 x1 f0 f1 a0 a1 a2 a3 b0 b1 b2 b3 hA hD;replace q0:=kB _ _ _ (by omega) q0.out;replace q1:=kB _ _ _ (by omega) q1.out;obtain ⟨a0,a1,a2,a3,-⟩:=q0.four;obtain ⟨b0,b1,b2,b3,-⟩:=q1.four;replace q3:=Za (kB _ _ _ (by omega) q3.out);replace hP:=Za (kW _ _ _ _ _ hP.out);replace hP':=Za (kW _ _ _ _ _ hP'.out);clear kW kB q2 hB q0 q1;obtain ⟨y0,y1,g0,g1⟩:=q3.out.two;refine hK.out _ _ (fun _=>⟨a0,a1,a2,a3,b0,b1,b2,b3⟩) ?_;clear hK K
 try simp only [Act.put,Zgj,Zfx,Zge]
 refine Zu (i:=12) rfl (by kernel_rfl) (by kernel_rfl) (fun K hK=>?_);go_simp;obtain ⟨W6,hW6,hB6,q3',kW,kB,s6⟩:=Zav np' P' k' q' hB5 (by omega) q3.out;rw [hW6];clear hW6 y0 y1 g0 g1 a0 a1 a2 a3 b0 b1 b2 b3;replace q2':=kB _ _ _ (by omega) q2';replace hP:=Za (kW _ _ _ _ _ hP.out);replace hP':=Za (kW _ _ _ _ _ hP'.out);clear kW kB q3 hB5;refine hK.out _ _ ?_;clear hK K
 try simp only [Act.put,Zgj,Zfx,Zge]
 refine Zk (by kernel_rfl) ?_ _;refine OnlyNormal.normal ?_;obtain ⟨r0,r1,-⟩:=q2'.two;obtain ⟨r2,r3,-⟩:=q3'.two;go_wp2_with fail;refine bodyPost_ret (v:=.tuple #[.agg #[.bool np,.slice P k q],.agg #[.bool np',.slice P' k' q']]) (by simp [results,Tryz.results156,go_sem,r0,r1,r2,r3]) rfl ?_;exact ⟨hB6,_,_,_,_,_,_,_,_,rfl,hP.out,hP'.out⟩
theorem Zwm (na nb na' nb':Bool) (A B A' B':Option Addr) (n c m d n' c' m' d':Nat) (a b:Rat) (w:World) (ha:Fr w na A n c nb B m d a) (hb:Fr w na' A' n' c' nb' B' m' d' b) (sa:Sm a) (sb:Sm b) (h0:b ≠ 0) :
    Calls Tryz.prog 117 #[.agg #[.bool na,.slice A n c,.bool nb,.slice B m d],.agg #[.bool na',.slice A' n' c',.bool nb',.slice B' m' d']] w (Zef w (a / b)):=by
 obtain ⟨W0,hW0,hB0,⟨q0,q1,q2⟩,s0⟩:=Zcy w 45 #[.bool na,.slice A n c,.bool nb,.slice B m d] 45 #[.bool na',.slice A' n' c',.bool nb',.slice B' m' d'] 45 #[.bool false,.slice none 0 0,.bool false,.slice none 0 0];have hA:=Za (ha.below hB0);have hD:=Za (hb.below hB0)
 have hF:=fun (W:World) (h1:Fr W na A n c nb B m d a) (h2:Fr W na' A' n' c' nb' B' m' d' b)=>Div1_ok na nb na' nb' A B A' B' n c m d n' c' m' d' a b W h1 h2 (Zbg sa.1 sb.dn) (Zbg sa.dn sb.1) h0
 have hG:=Za (Zv3 156 na nb na' nb' A B A' B' n c m d n' c' m' d' a b _ _ W0 hA.out hD.out (Zrz a b h0) Zrp hF);rw [Zqf a b h0] at hG;clear hF ha hb sa sb hA hD;obtain ⟨a0,a1,a2,a3,-⟩:=q0.four;obtain ⟨b0,b1,b2,b3,-⟩:=q1.four;replace q2:=Za q2;clear q0 q1;go_enter Tryz.func117,Tryz.ntmps117;go_wp2_with fail;refine hG.out.mono ?_;rintro e w1 ⟨hb1,nx,Ax,kx,cx,ny,Ay,ky,cy,rfl,hX⟩;have hB1:Below w.heap.size w w1:=hB0.trans (hb1.mono hB0.size);have s1:W0.heap.size <= w1.heap.size:=hb1.size;replace q2:=Za (Zc hb1 q2.out);replace hX:=Za hX;clear hb1 a0 a1 a2 a3 b0 b1 b2 b3 hB0 hG hW0;obtain ⟨c20,c21,c22,c23,f20,f21,f22,f23⟩:=q2.out.four;go_wp2_with fail;obtain ⟨W5,hW5,hB5,q2,kW,-,s5⟩:=Z3 nx Ax kx cx ny Ay ky cy hB1 (by omega) q2.out;rw [hW5];obtain ⟨r0,r1,r2,r3,-⟩:=q2.four;refine bodyPost_ret (v:=.tuple #[.agg #[.bool nx,.slice Ax kx cx,.bool ny,.slice Ay ky cy],.int .i64 0]) (by simp [results,Tryz.results117,go_sem,r0,r1,r2,r3]) rfl ?_;exact ⟨hB5,_,_,_,_,_,_,_,_,rfl,kW _ _ _ _ _ hX.out.1,kW _ _ _ _ _ hX.out.2⟩
theorem Zqt (k:Nat):List.replicate k (Value.slice none 0 0)=Zar (List.replicate k Zay):=by
 rw [Zce,List.map_replicate];rfl
theorem Zk2 (k:Nat):madeCells (Value.agg #[.bool false,.slice none 0 0,.bool false,.slice none 0 0]).cells (k * 4)=Z8 (List.replicate k Zax):=by
 apply Array.toList_inj.1
 show (madeCells #[.bool false,.slice none 0 0,.bool false,.slice none 0 0] (k * 4)).toList=Zq (List.replicate k Zax)
 apply List.ext_getElem?
 intro i
 by_cases h:i < k * 4
 ·have he:(List.replicate k Zax)[i / 4]?=some Zax:=by rw [List.getElem?_replicate,if_pos (by omega)]
  have hc:=Zez he
  have h4:i % 4=0 \/ i % 4=1 \/ i % 4=2 \/ i % 4=3:=by omega
  have hm:(madeCells #[.bool false,.slice none 0 0,.bool false,.slice none 0 0] (k * 4)).toList[i]?=some ((#[.bool false,.slice none 0 0,.bool false,.slice none 0 0]:Array Value)[i % 4]?.getD default):=by
   unfold madeCells
   simp [h]
  rw [hm]
  rcases h4 with h2 | h2 | h2 | h2
  ·rw [show i / 4 * 4=i by omega] at hc;rw [hc.1,h2];rfl
  ·rw [show i / 4 * 4+1=i by omega] at hc;rw [hc.2.1,h2];rfl
  ·rw [show i / 4 * 4+2=i by omega] at hc;rw [hc.2.2.1,h2];rfl
  ·rw [show i / 4 * 4+3=i by omega] at hc;rw [hc.2.2.2,h2];rfl
 ·have a1:(Zq (List.replicate k Zax))[i]?=none:=List.getElem?_eq_none (by rw [Zw];simp;omega)
  have a2:(madeCells #[.bool false,.slice none 0 0,.bool false,.slice none 0 0] (k * 4)).toList[i]?=none:=List.getElem?_eq_none (by unfold madeCells;simp;omega);rw [a1,a2]
theorem makeFr {P:Program} (t e:TypeId) {i:TypeInfo} (ht:P.underlying t=some (.slice e)) (hi:P.info? e=some i) (hz:i.zero=some (.agg #[.bool false,.slice none 0 0,.bool false,.slice none 0 0])) (hs:i.size=4) (hb:i.bytes=64)
    (x:Int) (n:Nat) (hx:x=n) (hn:n <= 1000000000000) (W:World) :
    (Instr.makeSlice t (.int .i64 x) (.int .i64 x)).run P W=.ok (.slice (some ⟨W.heap.size,0,none⟩) n n) (W.alloc (.cells (Z8 (List.replicate n Zax)) e)):=by
 subst hx;have hr:=run_make (P:=P) W t e i _ ht hi hz .i64 .i64 n n (by omega) (by omega) (by rw [hb];omega) (by omega);simp only [Int.toNat_natCast] at hr;rw [hr,hs,Zk2]
theorem Zot {P:Program} (t e:TypeId) {i:TypeInfo} (ht:P.underlying t=some (.slice e)) (hi:P.info? e=some i) (hz:i.zero=some (.slice none 0 0)) (hs:i.size=1) (hb:i.bytes=24)
    (x:Int) (n:Nat) (hx:x=n) (hn:n <= 1000000000000) (W:World) :
    (Instr.makeSlice t (.int .i64 x) (.int .i64 x)).run P W=.ok (.slice (some ⟨W.heap.size,0,none⟩) n n) (W.alloc (.cells (Z7 (List.replicate n Zay)) e)):=by
 subst hx;have hr:=run_make (P:=P) W t e i _ ht hi hz .i64 .i64 n n (by omega) (by omega) (by rw [hb];omega) (by omega);simp only [Int.toNat_natCast] at hr;rw [hr,hs,Nat.mul_one]
 have:madeCells (Value.slice none 0 0).cells n=Z7 (List.replicate n Zay):=by
  apply Array.toList_inj.1
  show (madeCells #[.slice none 0 0] n).toList=Zar (List.replicate n Zay);rw [<- Zqt]
  apply List.ext_getElem?
  intro j;unfold madeCells
  by_cases h:j < n
  ·simp [h,Nat.mod_one]
  ·simp [h]
 rw [this]
section
variable {P:Program} (w:World)
theorem Zmu (dT sT ty elem:TypeId) (i:TypeInfo) (g o dLen dCap:Nat) (a:Addr) (sLen sCap:Nat) (cur:Array Value) (t:TypeId) (cs:List Value)
    (hu:P.underlying dT=some (.slice elem)) (hi:P.info? elem=some i) (hg:w.heap[g]?=some (.cells cur t (0,0))) (hn:cs.length=Nat.min sLen dLen * i.size)
    (hsrc:∀ j v,cs[j]?=some v->w.cell? (a.add j)=some v) (hfit:o+cs.length <= cur.size) (h1:∀ v ∈ cs,v.oneCell'=true) :
    (Builtin.copy_ #[dT,sT] ty #[.slice (some ⟨g,o,none⟩) dLen dCap,.slice (some a) sLen sCap]).run P w =
     .ok (goInt (Nat.min sLen dLen)) (w.setRow g (cur.toList.take o ++ cs ++ cur.toList.drop (o+cs.length)).toArray):=by
 have hl:=run_loadCells_list (P:=P) w a cs hsrc;have hst:=run_storeCells_at P g o t cs 0 cur w hg (by simpa using hfit) h1
 simp [Builtin.copy_,run_underlying hu,Builtin.lenOf,Builtin.firstCells,sizeOf,typeInfo,hi,<- hn,hl,hst]
theorem Zh2 (t ty e:TypeId) (i:TypeInfo) (hu:P.underlying t=some (.slice e)) (hi:P.info? e=some i) (hs:i.size=4) {tF:TypeId} {g k d dc:Nat} {es:List FE} (hb:Blk w g tF (Z8 es))
    (B:Nat) (A:Option Addr) (m c:Nat) (fs:List FE) (hr:Reads w B 4 A m (Zq fs)) (hm:fs.length=m) (hm0:0 < m) (hd:m <= d) (hk:k+m <= es.length) :
    (Builtin.copy_ #[t,t] ty #[.slice (some ⟨g,k * 4,none⟩) d dc,.slice A m c]).run P w=.ok (goInt m) (w.setRow g (Z8 (es.take k ++ fs ++ es.drop (k+m)))):=by
 obtain ⟨ad,rfl,_,hc⟩:=hr.2 hm0
 have hl:(Zq fs).length=m * 4:=by rw [Zw,hm]
 have:=Zmu (P:=P) w t t ty e i g (k * 4) d dc ad m c _ tF (Zq fs) hu hi hb (by rw [hl,hs,show Nat.min m d=m from Nat.min_eq_left hd]) hc
  (by rw [hl];show k * 4+m * 4 <= (Z8 es).size;unfold Z8;simp only [List.size_toArray];rw [Zw];omega) (Zin fs)
 rw [this,show Nat.min m d=m from Nat.min_eq_left hd]
 congr 2
 unfold Z8
 have e1:Zq (es.take k)=(Zq es).take (k * 4):=by
  have h1:Zq es=Zq (es.take k) ++ Zq (es.drop k):=by rw [<- Zam,List.take_append_drop]
  have h2:(Zq (es.take k)).length=k * 4:=by rw [Zw,List.length_take,Nat.min_eq_left (by omega)]
  rw [h1,<- h2,List.take_left]
 have e2:Zq (es.drop (k+m))=(Zq es).drop (k * 4+m * 4):=by
  have h1:Zq es=Zq (es.take (k+m)) ++ Zq (es.drop (k+m)):=by rw [<- Zam,List.take_append_drop]
  have h2:(Zq (es.take (k+m))).length=k * 4+m * 4:=by rw [Zw,List.length_take,Nat.min_eq_left (by omega)];omega
  rw [h1,<- h2,List.drop_left]
 rw [hl,Zam,Zam,e1,e2]
end
theorem Kept.setRow {G:Nat->Prop} {w0 w:World} (h:Kept G w0 w) {g:Nat} (hg:G g \/ w0.heap.size <= g) (cs:Array Value):Kept G w0 (w.setRow g cs):=
 ⟨h.os,h.tape,h.output,by simp [World.setRow];exact h.size,fun k hk hG=>(setRow_other w g k cs (by rcases hg with hg | hg;exact fun e=>hG (e ▸ hg);omega)).trans (h.block k hk hG)⟩
theorem Zmk {w:World} {g:Nat} {t:TypeId} {cs cs':Array Value} (h:Blk w g t cs):Blk (w.setRow g cs') g t cs':=setRow_heap w g _ _ t _ h
theorem Zl5 {w:World} {g k:Nat} {t:TypeId} {cs cs':Array Value} (h:Blk w k t cs) (hne:k ≠ g):Blk (w.setRow g cs') k t cs:=(setRow_other w g k _ hne).trans h
theorem FL.readsK {w:World} {A:Option Addr} {n c:Nat} {qs:List Rat} (h:FL w A n c qs) {go:Nat} {t:TypeId} {rs:List RS} (hb:Blk w go t (Z7 rs)) :
    ∃ fs:List FE,fs.length=n/\fs.map FE.q=qs/\∀ w',Kept (fun k=>k=go) w w'->Reads w' w'.heap.size 4 A n (Zq fs)/\∀ e ∈ fs,e.in_ w':=by
 obtain ⟨es,h1,h2,h3,h4,h5,h6⟩:=h;refine ⟨es,h1,h5,fun w' hk=>?_⟩
 have hG:∀ k,k=go->∃ t cs,Blk w k t cs/\NoLimb cs:=fun k hk=>⟨t,Z7 rs,by rw [hk];exact hb,Zbb _⟩
 refine ⟨⟨by rw [Zw,h1],fun hn=>?_⟩,fun e he=>⟨hk.wd (h4 e he).1 hG,hk.wd (h4 e he).2 hG⟩⟩;obtain ⟨g,o,e1,hc⟩:=h6 hn
 have hne:g ≠ go:=fun e=>by
  have h0:=(hc 0 es[0] (List.getElem?_eq_getElem (by omega))).1;rw [e,hb.cell] at h0;unfold Z7 at h0;rw [Zce] at h0;simp only [List.getElem?_toArray,List.getElem?_map] at h0
  cases hx:rs[o+0 * 4]? with
  | none=>rw [hx] at h0;cases h0
  | some r=>rw [hx] at h0;cases h0
 have hcell:∀ (i:Nat) (v:Value),w.cell? ⟨g,i,none⟩=some v->w'.cell? ⟨g,i,none⟩=some v:=fun i v hv=>by
  rw [<- hv];exact World.cell?_of_block (hk.block g (Zp hv) hne)
 refine ⟨⟨g,o,none⟩,e1,?_,fun j u hu=>?_⟩
 ·have:=(hc 0 es[0] (List.getElem?_eq_getElem (by omega))).1
  exact Nat.lt_of_lt_of_le (Zp this) hk.size
 ·rw [Zh]
  have hj:j < es.length * 4:=by
   have:=(List.getElem?_eq_some_iff.1 hu).1
   rwa [Zw] at this
  have he:=List.getElem?_eq_getElem (show j / 4 < es.length by omega);have hg:=Zez he;have hm:=hc (j / 4) _ he
  have h4:j % 4=0 \/ j % 4=1 \/ j % 4=2 \/ j % 4=3:=by omega
  rcases h4 with h2 | h2 | h2 | h2
  ·rw [show j / 4 * 4=j by omega] at hg hm;rw [hg.1] at hu;cases hu;exact hcell _ _ hm.1
  ·rw [show j / 4 * 4+1=j by omega] at hg hm;rw [hg.2.1] at hu;cases hu;exact hcell _ _ hm.2.1
  ·rw [show j / 4 * 4+2=j by omega] at hg hm;rw [hg.2.2.1] at hu;cases hu;exact hcell _ _ hm.2.2.1
  ·rw [show j / 4 * 4+3=j by omega] at hg hm;rw [hg.2.2.2] at hu;cases hu;exact hcell _ _ hm.2.2.2
theorem MatB.mfl {tS tF:TypeId} {w:World} {go n c:Nat} {L:List RF} (h:MatB tS tF w go L) (hl:L.length=n) (hc:n <= c) (hm:c <= maxLen):MFL w (some ⟨go,0,none⟩) n c (L.map RF.q):=by
 refine ⟨by rw [List.length_map,hl],hc,hm,fun _=>⟨go,0,rfl,fun k q hq=>?_⟩⟩;rw [List.getElem?_map] at hq;obtain ⟨r,hr,rfl⟩:=Option.map_eq_some_iff.1 hq;have h1:=(h.cell hr).1;obtain ⟨h2,h3,h4⟩:=h.row hr;exact ⟨_,_,_,by rw [Nat.zero_add];exact h1,h2.fl h3 h4⟩
theorem Ztk (F:FuncId) (cap:Value) (A:Option Addr) (n c m s:Nat) (Q:List (List Rat)) (S:Nat->List Rat) (w:World) (h:MFL w A n c Q) (hn9:n <= 900) (hm:∀ i,i < n->(Q[i]?.getD []).length=m) (hm0:0 < m) (hm9:m <= 900) (hs0:0 < s) (hs9:s <= 900) (hS:∀ i,i < n->(S i).length=s)
    (hcf:∀ (x:Value) (W:World),(callFunc F #[x,cap]).run Tryz.prog W=.ok (.enter F #[x,cap]) W)
    (hF:∀ (W:World) (i:Nat),Below w.heap.size w W->i < n->Calls Tryz.prog F #[.int .i64 i,cap] W fun e W'=>∃ A c,e=.returned (.slice A s c)/\Below W.heap.size W W'/\FL W' A s c (S i)) :
    Calls Tryz.prog 76 #[.slice A n c,.func (.func F) #[] #[cap]] w fun e w'=>∃ go L,e=.returned (.slice (some ⟨go,0,none⟩) n n)/\Below w.heap.size w w'/\w.heap.size <= go/\L.length=n/\MatB 40 45 w' go L/\L.map RF.q=(List.range n).map fun i=>Q[i]?.getD [] ++ S i:=by
 obtain ⟨iF,hi,hz0,hz1,hz2⟩:=info_parts Ze2;obtain ⟨iS,ki,kz0,kz1,kz2⟩:=info_parts Zjm;have hl:=Za h.1;have hnc:=h.2.1;have hcm:=h.2.2.1;unfold maxLen at hcm
 have hne:(40:TypeId) ≠ 45:=by decide
 replace hm:=Za hm;replace h:=Za h;replace hS:=Za hS;replace hF:=Za hF;obtain ⟨W0,hW0⟩:∃ X,w.alloc (.cells (Z7 (List.replicate n Zay)) 40)=X:=⟨_,rfl⟩;obtain ⟨go,hgo⟩:∃ g,w.heap.size=g:=⟨_,rfl⟩;have q0:Hid (Blk W0 go 40 (Z7 (List.replicate n Zay))):=Za (by rw [<- hW0,<- hgo];exact Blk.new _ _ _);have hB0:Hid (Below w.heap.size w W0):=Za (by rw [<- hW0];exact (Below.refl _ _).alloc (Nat.le_refl _) _);have s0:Hid (W0.heap.size=go+1):=Za (by rw [<- hW0,<- hgo];simp);have hmk:=Zot (P:=Tryz.prog) 22 40 Tryz.underlying22 ki kz0 kz1 kz2 (n:Int) n rfl (by omega);go_enter Tryz.func76,Tryz.ntmps76;go_wp2_with fail;(try rw [hW0]);(try rw [hgo]);replace hgo:=Za hgo;clear hW0 hmk
 go_loopg [14] n (fun k iv wr=>∃ (i:Nat) (L:List RF),i+k=n/\iv=.int .i64 i/\Hid (L.length=i)/\Blk wr go 40 (Z7 (L.map RF.rs ++ List.replicate (n - i) Zay))/\Hid (∀ r ∈ L,(FOwn 45 wr r.g r.q/\r.q.length <= r.c/\r.c <= maxLen)/\W0.heap.size <= r.g)/\Hid ((L.map RF.g).Nodup)/\Hid (L.map RF.q=(List.range i).map fun i=>Q[i]?.getD [] ++ S i)/\Kept (fun k=>k=go) W0 wr)
 case atStart=>exact ⟨0,[],by omega,rfl,Za rfl,q0.out,Za (fun r hr=>(by cases hr)),Za List.nodup_nil,Za rfl,Kept.refl _ _⟩
 case round =>
  obtain ⟨i,L,hik,rfl,hLl,hbo,hrows,hnd,hLq,hK⟩:=hrel;have hBx:Below w.heap.size w wr:=hB0.out.trans (hK.to_below (fun k hk=>by rw [hk,hgo.out];exact Nat.le_refl _) hB0.out.size)
  cases gk with
  | zero =>
   obtain rfl:i=n:=by omega
   have t1:decide ((i:Int) < (i:Int))=false:=by simp
   replace hbo:=Za hbo;go_wp2_with fail;go_ret;refine ⟨go,L,rfl,hBx,by rw [hgo.out];exact Nat.le_refl _,hLl.out,⟨⟨_,hbo.out⟩,fun r hr=>(hrows.out r hr).1,?_⟩,hLq.out⟩;refine List.nodup_cons.2 ⟨fun hmm=>?_,hnd.out⟩;obtain ⟨r,hr,e⟩:=List.mem_map.1 hmm;have:=(hrows.out r hr).2;have:=s0.out;omega
  | succ j =>
   obtain rfl:j=n - (i+1):=by omega
   have hin:i < n:=by omega
   have t1:decide ((i:Int) < (n:Int))=true:=decide_eq_true (by omega)
   have bi:(i:Int) < (n:Int):=by omega
   obtain ⟨ga,oa,A1,n1,c1,rfl,k0,hF0⟩:=(h.out.below hBx).at_ hin
   have hn1:n1=m:=by rw [<- hF0.len];exact hm.out i hin
   subst hn1;replace hF0:=Za hF0;replace hbo:=Za hbo;go_wp2_with fail;refine (hF.out wr i hBx hin).mono ?_;rintro e w1 ⟨As,cs,rfl,hb1,hFS⟩;have hbo1:=Zc hb1 hbo.out;obtain ⟨fs,hfl,hfq,hRf⟩:=(hF0.out.below hb1).readsK hbo1;obtain ⟨gs,hgl,hgq,hRg⟩:=hFS.readsK hbo1;obtain ⟨gN,hgN⟩:∃ g,w1.heap.size=g:=⟨_,rfl⟩;obtain ⟨W2,hW2⟩:∃ X,w1.alloc (.cells (Z8 (List.replicate (n1+s) Zax)) 45)=X:=⟨_,rfl⟩
   have hb2:Below w1.heap.size w1 W2:=by rw [<- hW2];exact (Below.refl _ _).alloc (Nat.le_refl _) _
   have hbN:Blk W2 gN 45 (Z8 (List.replicate (n1+s) Zax)):=by rw [<- hW2,<- hgN];exact Blk.new _ _ _
   have hbo2:=Zc hb2 hbo1;have hgo1:=hbo1.lt
   have hgogN:go < gN:=by omega
   have x0:=hbo2.cell i;have x1:=hbo2.frozen i;rw [show (Z7 (L.map RF.rs ++ List.replicate (n - i) Zay))[i]?=some (.slice none 0 0) from Zbw (e:=Zay) (by rw [List.getElem?_append_right (by rw [List.length_map,hLl.out];exact Nat.le_refl _),List.length_map,hLl.out,Nat.sub_self,List.getElem?_replicate,if_pos (by omega)])] at x0
   have hqs:(Q[i]?.getD [] ++ S i).length=n1+s:=by rw [List.length_append,hm.out i hin,hS.out i hin]
   obtain ⟨W3,hW3⟩:∃ X,W2.setCell ⟨go,i,none⟩ (.slice (some ⟨gN,0,none⟩) (n1+s) (n1+s))=X:=⟨_,rfl⟩
   have hset:(L.map RF.rs ++ List.replicate (n - i) Zay).set i ⟨some ⟨gN,0,none⟩,n1+s,n1+s⟩=(L ++ [RF.mk gN (n1+s) (Q[i]?.getD [] ++ S i)]).map RF.rs ++ List.replicate (n - (i+1)) Zay:=by
    rw [List.set_append_right _ _ (by rw [List.length_map,hLl.out];exact Nat.le_refl _),List.length_map,hLl.out,Nat.sub_self,show n - i=n - (i+1)+1 by omega,List.replicate_succ,List.set_cons_zero,List.map_append,List.append_assoc];simp only [List.map_cons,List.map_nil,RF.rs,hqs]
    rfl
   have hbo3:Blk W3 go 40 (Z7 ((L ++ [RF.mk gN (n1+s) (Q[i]?.getD [] ++ S i)]).map RF.rs ++ List.replicate (n - (i+1)) Zay)):=by
    have:=hbo2.set_ i (.slice (some ⟨gN,0,none⟩) (n1+s) (n1+s));rw [Zdb ⟨some ⟨gN,0,none⟩,n1+s,n1+s⟩,hW3,hset] at this;exact this
   have hbN3:Blk W3 gN 45 (Z8 (List.replicate (n1+s) Zax)):=by rw [<- hW3];exact hbN.far (by show gN ≠ go;omega) _
   have hk3:Kept (fun k=>k=go) w1 W3:=by
    rw [<- hW3];exact Kept.set_ (G:=fun k=>k=go) (Kept.of_below hb2) (p:=⟨go,i,none⟩) (Or.inl rfl) _
   have hget:∀ W,Blk W go 40 (Z7 ((L ++ [RF.mk gN (n1+s) (Q[i]?.getD [] ++ S i)]).map RF.rs ++ List.replicate (n - (i+1)) Zay))->W.cell? ⟨go,i,none⟩=some (.slice (some ⟨gN,0,none⟩) (n1+s) (n1+s)):=fun W hW=>by
    rw [hW.cell];refine Zbw (e:=⟨some ⟨gN,0,none⟩,n1+s,n1+s⟩) ?_;rw [<- hset,List.getElem?_set_self (by simp [hLl.out];omega)]
   have x3:=hget W3 hbo3
   have hcp1:=fun ty=>Zh2 (P:=Tryz.prog) W3 40 ty 45 iF Tryz.underlying40 hi hz1 hbN3 W3.heap.size A1 n1 c1 fs (hRf W3 hk3).1 hfl hm0 (d:=n1+s) (dc:=n1+s) (k:=0) (by omega) (by simp)
   rw [Nat.zero_mul,List.take_zero,List.nil_append,Nat.zero_add,List.drop_replicate,Nat.add_sub_cancel_left] at hcp1;obtain ⟨W4,hW4⟩:∃ X,W3.setRow gN (Z8 (fs ++ List.replicate s Zax))=X:=⟨_,rfl⟩;rw [hW4] at hcp1
   have hbN4:Blk W4 gN 45 (Z8 (fs ++ List.replicate s Zax)):=by rw [<- hW4];exact Zmk hbN3
   have hbo4:=show Blk W4 go 40 _ by rw [<- hW4];exact Zl5 hbo3 (by omega)
   have hk4:Kept (fun k=>k=go) w1 W4:=by rw [<- hW4];exact hk3.setRow (.inr (by omega)) _
   have x4:=hget W4 hbo4
   have hcp2:=fun ty=>Zh2 (P:=Tryz.prog) W4 40 ty 45 iF Tryz.underlying40 hi hz1 hbN4 W4.heap.size As s cs gs (hRg W4 hk4).1 hgl hs0 (d:=s) (dc:=s) (k:=n1) (Nat.le_refl _) (by simp [hfl])
   rw [List.take_left' hfl,show n1+s=(fs ++ List.replicate s Zax).length by simp [hfl],List.drop_length,List.append_nil] at hcp2;obtain ⟨W5,hW5⟩:∃ X,W4.setRow gN (Z8 (fs ++ gs))=X:=⟨_,rfl⟩;rw [hW5] at hcp2
   have hbN5:Blk W5 gN 45 (Z8 (fs ++ gs)):=by rw [<- hW5];exact Zmk hbN4
   have hbo5:=show Blk W5 go 40 _ by rw [<- hW5];exact Zl5 hbo4 (by omega)
   have hk5:Kept (fun k=>k=go) w1 W5:=by rw [<- hW5];exact hk4.setRow (.inr (by omega)) _
   have hmk:=makeFr (P:=Tryz.prog) 40 45 Tryz.underlying40 hi hz0 hz1 hz2 ((n1:Int)+(s:Int)) (n1+s) (by omega) (by omega);have bx:(i:Int) < (n:Int):=bi
   have hFO:FOwn 45 W5 gN (Q[i]?.getD [] ++ S i):=⟨fs ++ gs,[],by rw [List.append_nil];exact hbN5,fun e he=>by
    rcases List.mem_append.1 he with he | he
    ·exact (hRf W5 hk5).2 e he
    ·exact (hRg W5 hk5).2 e he,by rw [List.map_append,hfq,hgq]⟩
   have hGw:∀ k,k=go->∃ t cs,Blk wr k t cs/\NoLimb cs:=fun k hk=>⟨_,_,hk ▸ hbo.out,Zbb _⟩
   have hk05:Kept (fun k=>k=go) wr W5:=(Kept.of_below hb1).trans (hk5.mono (fun k _ h=>h))
   have hrows5:Hid (∀ r ∈ L ++ [RF.mk gN (n1+s) (Q[i]?.getD [] ++ S i)],(FOwn 45 W5 r.g r.q/\r.q.length <= r.c/\r.c <= maxLen)/\W0.heap.size <= r.g):=Za (fun r hr=>by
    rcases List.mem_append.1 hr with hr | hr
    ·obtain ⟨⟨r1,r2⟩,r3⟩:=hrows.out r hr
     have:=s0.out;exact ⟨⟨r1.keptG hk05 (by omega) hGw,r2⟩,r3⟩
    ·rw [List.mem_singleton] at hr
     subst hr;have h7:=hK.size;have h8:=hb1.size
     exact ⟨⟨hFO,by show (Q[i]?.getD [] ++ S i).length <= n1+s;omega,by show n1+s <= maxLen;unfold maxLen;omega⟩,by show W0.heap.size <= gN;omega⟩)
   have hnd5:Hid (((L ++ [RF.mk gN (n1+s) (Q[i]?.getD [] ++ S i)]).map RF.g).Nodup):=Za (by
    rw [List.map_append,List.nodup_append];refine ⟨hnd.out,by simp,fun a ha b hb=>?_⟩;obtain ⟨r,hr,rfl⟩:=List.mem_map.1 ha;simp only [List.map_cons,List.map_nil,List.mem_singleton] at hb;have h6:=(hrows.out r hr).1.1.lt;have h7:=hb1.size
    omega)
   have hLq5:Hid ((L ++ [RF.mk gN (n1+s) (Q[i]?.getD [] ++ S i)]).map RF.q=(List.range (i+1)).map fun i=>Q[i]?.getD [] ++ S i):=Za (by
    rw [List.map_append,hLq.out,List.range_succ,List.map_append];rfl)
   have hK5:Hid (Kept (fun k=>k=go) W0 W5):=Za (hK.trans hk05);have hLl5:Hid ((L ++ [RF.mk gN (n1+s) (Q[i]?.getD [] ++ S i)]).length=i+1):=Za (by rw [List.length_append,hLl.out];rfl);replace hbo5:=Za hbo5;clear hRf hRg hfl hfq hgl hgq hbo1 hb2 hbN hbo2 hset hbo3 hbN3 hk3 hget hbN4 hbo4 hk4 hbN5 hk5 hFO hGw hk05 hFS hgo1;go_wp2_with fail
   go_roundg (n - (i+1))
   case measure=>omega
   case rel=>exact ⟨i+1,L ++ [RF.mk gN (n1+s) (Q[i]?.getD [] ++ S i)],by omega,by go_num,hLl5,hbo5.out,hrows5,hnd5,hLq5,hK5.out⟩
end Go.Proofs.YtigdclhagmnopaaGreat
