/- Package frac: reduce with a negative denominator, both, -/
import Derived.Test.YtaioanjcjijckaaGreatZb23
set_option maxRecDepth 100000
set_option maxHeartbeats 2000000
set_option linter.unusedSimpArgs false
set_option linter.unusedVariables false
namespace Go.Proofs.YtaioanjcjijckaaGreat
open Go.RowKit
attribute [local go_sem] Zf
theorem Zpx (na:Bool) (A B:Option Addr) (n c m d:Nat) (za zb:Int) (w:World) (ha:Wd w na A n c za) (hb:Wd w true B m d zb) (h0:zb < 0) :
    Calls Tryz.prog 189 #[.agg #[.bool na,.slice A n c],.agg #[.bool true,.slice B m d]] w (Zdi w (Rat.divInt za zb)):=by
 have hgs:=Zc9 ha.small hb.small;have hx:=Za (Zh1 (a:=za) (b:=zb) (by omega));have hy:=Za (Zhi (a:=za) (b:=zb) (by omega));have hG0:=Za (Zi2 (a:=za) (b:=zb) (by omega))
 have hGE:Ze6 za zb=-((Nat.gcd za.natAbs zb.natAbs:Nat):Int):=by unfold Ze6;rw [if_pos h0]
 rw [hGE] at hx hy hG0;have HA:=Za ha;have HB:=Za hb;obtain ⟨G,hG⟩:∃ G,Nat.gcd za.natAbs zb.natAbs=G:=⟨_,rfl⟩;rw [hG] at hx hy hG0 hgs
 have HGc:Hid (∀ W:World,Wd W na A n c za->Wd W true B m d zb->Calls Tryz.prog 179 #[.agg #[.bool na,.slice A n c],.agg #[.bool true,.slice B m d]] W (ResW W (G:Int))):=fun W h1 h2=>by
  have:=Zjn na true A B n c m d za zb W h1 h2;rw [hG] at this;exact this
 generalize Rat.divInt za zb=R at *
 clear ha hb hG hGE
 have hB0:∀ X Y Z:Obj,Below w.heap.size w (((w.alloc X).alloc Y).alloc Z):=fun X Y Z=>(((Below.refl w.heap.size w).alloc (Nat.le_refl _) _).alloc (by simp) _).alloc (by simp;omega) _
 have hB0:=Za hB0;go_enter Tryz.func189,Tryz.ntmps189;go_wp2_with fail;have q0:Blk (((w.alloc (.cells #[.bool na,.slice A n c] 27)).alloc (.cells #[.bool true,.slice B m d] 27)).alloc (.cells #[.bool false,.slice none 0 0,.bool false,.slice none 0 0] 29)) w.heap.size 27 #[.bool na,.slice A n c]:=((Blk.new _ _ _).alloc _).alloc _
 have q1:Blk (((w.alloc (.cells #[.bool na,.slice A n c] 27)).alloc (.cells #[.bool true,.slice B m d] 27)).alloc (.cells #[.bool false,.slice none 0 0,.bool false,.slice none 0 0] 29)) (w.heap.size+1) 27 #[.bool true,.slice B m d]:=by
  have:=(Blk.new (w.alloc (.cells #[.bool na,.slice A n c] 27)) 27 #[.bool true,.slice B m d]).alloc (.cells #[.bool false,.slice none 0 0,.bool false,.slice none 0 0] 29);simp only [World.size_alloc] at this;exact this
 have q2:Blk (((w.alloc (.cells #[.bool na,.slice A n c] 27)).alloc (.cells #[.bool true,.slice B m d] 27)).alloc (.cells #[.bool false,.slice none 0 0,.bool false,.slice none 0 0] 29)) (w.heap.size+1+1) 29 #[.bool false,.slice none 0 0,.bool false,.slice none 0 0]:=by
  have:=Blk.new ((w.alloc (.cells #[.bool na,.slice A n c] 27)).alloc (.cells #[.bool true,.slice B m d] 27)) 29 #[.bool false,.slice none 0 0,.bool false,.slice none 0 0];simp only [World.size_alloc] at this;exact this
 refine (HGc.out _ (((HA.out.alloc _).alloc _).alloc _) (((HB.out.alloc _).alloc _).alloc _)).mono ?_;rintro e w1 ⟨hb1,ng,Ag,kg,cg,code,rfl,hR⟩
 rcases hR with ⟨-,rfl,hgw⟩ | ⟨hbig,-⟩
 case inr=>exact absurd hbig (by omega)
 have hB1:Below w.heap.size w w1:=(hB0.out _ _ _).trans (hb1.mono (by simp;omega));have HA1:=Za (HA.out.below hB1);have HB1:=Za (HB.out.below hB1)
 have s1:w.heap.size+1+1 < w1.heap.size:=by have:=hb1.size;simp at this;omega
 replace q0:=Zc hb1 q0;replace q1:=Zc hb1 q1;replace q2:=Zc hb1 q2;obtain ⟨c00,c01,-,-⟩:=q0.two;obtain ⟨c10,c11,-,-⟩:=q1.two;have hq:=Za (And.intro q0 (And.intro q1 q2));clear q0 q1 q2 hb1;go_wp2_with fail;refine (Zdd ng Ag kg cg _).mono ?_;rintro e w2 ⟨rfl,hb2⟩;have hB2:Below w.heap.size w w2:=hB1.trans (hb2.mono hB1.size);have HA2:=Za (HA1.out.below hb2);have HB2:=Za (HB1.out.below hb2);have HG2:=Za (hgw.below hb2)
 have s2:w.heap.size+1+1 < w2.heap.size:=by have:=hb2.size;omega
 have q0:=Zc hb2 hq.out.1;have q1:=Zc hb2 hq.out.2.1;have q2:=Zc hb2 hq.out.2.2;clear c00 c01 c10 c11 hB1 hb2 hgw HA1 HB1 hq;obtain ⟨W3,hW3,hB3,q3,kW,kB,s3⟩:=Z5 27 #[.bool ng,.slice Ag kg cg] hB2 (by omega);replace q0:=kB _ _ _ q0;replace q1:=kB _ _ _ q1;replace q2:=kB _ _ _ q2;have HA3:=Za (kW _ _ _ _ _ HA2.out);have HB3:=Za (kW _ _ _ _ _ HB2.out);have HG3:=Za (kW _ _ _ _ _ HG2.out);have s4:w.heap.size+1+1 < w2.heap.size:=s2;clear kW kB HA2 HB2 HG2 hB2;have c0:=Za q0.two;have c1:=Za q1.two;have c3:=Za q3.two;rw [<- hW3] at c0 c1 c3;obtain ⟨c00,c01,-,-⟩:=c0.out;obtain ⟨c10,c11,-,-⟩:=c1.out;obtain ⟨c30,c31,-,-⟩:=c3.out;have hq:=Za (And.intro q0 (And.intro q1 (And.intro q2 q3)));clear q0 q1 q2 q3;replace hW3:=Za hW3;go_wp2_with fail;rw [hW3.out];refine (Neg_ok ng Ag kg cg G W3 HG3.out).mono ?_;rintro e w4 ⟨hb4,n5,A5,k5,c5,code,rfl,hR⟩
 have hsm:(-(G:Int)).natAbs < pw 4096:=by rw [Int.natAbs_neg];exact HG3.out.small
 have HN4:=Za (hR.small hsm);have hcode:=hR.code0 hsm;subst hcode;have hB4:Below w.heap.size w w4:=hB3.trans (hb4.mono (by omega));have HA4:=Za (HA3.out.below hb4);have HB4:=Za (HB3.out.below hb4)
 have s5:w2.heap.size+1 <= w4.heap.size:=by have:=hb4.size;omega
 have q0:=Zc hb4 hq.out.1;have q1:=Zc hb4 hq.out.2.1;have q2:=Zc hb4 hq.out.2.2.1;have q3:=Zc hb4 hq.out.2.2.2;clear hb4 c0 c1 c3 c00 c01 c10 c11 c30 c31 hW3 HA3 HB3 HG3 hB3 hq hR hsm;have hq:=Za (And.intro q0 (And.intro q1 (And.intro q2 q3)));clear q0 q1 q2 q3;go_wp2_with fail;refine (Zdd n5 A5 k5 c5 _).mono ?_;rintro e w5 ⟨rfl,hb5⟩;have hB5:Below w.heap.size w w5:=hB4.trans (hb5.mono (by omega));have HA5:=Za (HA4.out.below hb5);have HB5:=Za (HB4.out.below hb5);have HN5:=Za (HN4.out.below hb5);have s6:w4.heap.size <= w5.heap.size:=hb5.size;have q0:=Zc hb5 hq.out.1;have q1:=Zc hb5 hq.out.2.1;have q2:=Zc hb5 hq.out.2.2.1;have q3:=Zc hb5 hq.out.2.2.2;clear hb5 HA4 HB4 HN4 hB4 hq;obtain ⟨W7,hW7,hB7,q3',kW,kB,s7⟩:=Zaa n5 A5 k5 c5 hB5 (by omega) q3;replace q0:=kB _ _ _ (by omega) q0;replace q1:=kB _ _ _ (by omega) q1;replace q2:=kB _ _ _ (by omega) q2;have HA7:=Za (kW _ _ _ _ _ HA5.out);have HB7:=Za (kW _ _ _ _ _ HB5.out);have HG7:=Za (kW _ _ _ _ _ HN5.out);obtain ⟨x30,x31,y30,y31⟩:=q3.two;have c0:=Za q0.two;have c1:=Za q1.two;have c3:=Za q3'.two;obtain ⟨c00,c01,-,-⟩:=c0.out;obtain ⟨c10,c11,-,-⟩:=c1.out;obtain ⟨c30,c31,-,-⟩:=c3.out;have hq:=Za (And.intro q0 (And.intro q1 (And.intro q2 q3')));clear q0 q1 q2 q3 q3' kW kB HA5 HB5 HN5 hB5;replace hW7:=Za hW7;have hW7':=hW7.out;go_wp2_with fail;(try rw [hW7.out]);clear x30 x31 y30 y31 hW7';refine (Zgm na n5 A A5 n c k5 c5 za (-(G:Int)) _ HA7.out HG7.out hG0.out).mono ?_;rintro e w9 ⟨hb9,nx,Ax,kx,cx,nr,Ar,kr,cr,rfl,hwx,-⟩
 rw [hx.out] at hwx;have hB4:Below w.heap.size w w9:=hB7.trans (hb9.mono (by omega));have HB4:=Za (HB7.out.below hb9);have HG4:=Za (HG7.out.below hb9)
 have s8:w2.heap.size+1 <= w9.heap.size:=by have:=hb9.size;omega
 have q1:=Zc hb9 hq.out.2.1;have q2:=Zc hb9 hq.out.2.2.1;have q3:=Zc hb9 hq.out.2.2.2;clear hb9 c0 c1 c3 c00 c01 c10 c11 c30 c31 hW7 HA7 HB7 HG7 hB7 hq;obtain ⟨W5,hW5,hB5,q5,kW,kB,s6⟩:=Z5 27 #[.bool nx,.slice Ax kx cx] hB4 (by omega);replace q1:=kB _ _ _ q1;replace q2:=kB _ _ _ q2;replace q3:=kB _ _ _ q3;have HB5:=Za (kW _ _ _ _ _ HB4.out);have HG5:=Za (kW _ _ _ _ _ HG4.out);have HX5:=Za (kW _ _ _ _ _ hwx);clear kW kB HB4 HG4 hwx hB4;obtain ⟨W6,hW6,hB6,-,kW,kB,s7⟩:=Z5 27 #[.bool nr,.slice Ar kr cr] hB5 (by omega);replace q1:=kB _ _ _ q1;replace q2:=kB _ _ _ q2;replace q3:=kB _ _ _ q3;replace q5:=kB _ _ _ q5;have HB6:=Za (kW _ _ _ _ _ HB5.out);have HG6:=Za (kW _ _ _ _ _ HG5.out);have HX6:=Za (kW _ _ _ _ _ HX5.out);clear kW kB HB5 HG5 HX5 hB5;have c1:=Za q1.two;have c3:=Za q3.two;rw [<- hW6,<- hW5] at c1 c3;obtain ⟨c10,c11,-,-⟩:=c1.out;obtain ⟨c30,c31,-,-⟩:=c3.out;have hq:=Za (And.intro q2 q5);clear q1 q2 q3 q5;rw [<- hW5] at hW6;replace hW6:=Za hW6;clear hW5;go_wp2_with fail;rw [hW6.out];refine (Zgm true n5 B A5 m d k5 c5 zb (-(G:Int)) _ HB6.out HG6.out hG0.out).mono ?_;rintro e w7 ⟨hb7,ny,Ay,ky,cy,ns,As,ks,cs,rfl,hwy,-⟩;rw [hy.out] at hwy;have hB7:Below w.heap.size w w7:=hB6.trans (hb7.mono (by omega));have HX7:=Za (HX6.out.below hb7)
 have s11:w9.heap.size+2 <= w7.heap.size:=by have:=hb7.size;omega
 have q2:=Zc hb7 hq.out.1;have q5:=Zc hb7 hq.out.2;clear hb7 c1 c3 c10 c11 c30 c31 hW6 HB6 HG6 HX6 hB6 hq;obtain ⟨W8,hW8,hB8,q8,kW,kB,s9⟩:=Z5 27 #[.bool ny,.slice Ay ky cy] hB7 (by omega);replace q2:=kB _ _ _ q2;replace q5:=kB _ _ _ q5;have HX8:=Za (kW _ _ _ _ _ HX7.out);have HY8:=Za (kW _ _ _ _ _ hwy);clear kW kB HX7 hwy hB7;obtain ⟨W9,hW9,hB9,-,kW,kB,s10⟩:=Z5 27 #[.bool ns,.slice As ks cs] hB8 (by omega);replace q2:=kB _ _ _ q2;replace q5:=kB _ _ _ q5;replace q8:=kB _ _ _ q8;have HX9:=Za (kW _ _ _ _ _ HX8.out);have HY9:=Za (kW _ _ _ _ _ HY8.out);clear kW kB HX8 HY8 hB8;have c5:=Za q5.two;have c8:=Za q8.two;have c2:=Za q2.four;have hq:=Za q2;rw [<- hW9,<- hW8] at c5 c8 c2;rw [<- hW8] at hW9;clear hW8 q2 q5 q8;obtain ⟨c50,c51,-,-⟩:=c5.out;obtain ⟨c80,c81,-,-⟩:=c8.out;obtain ⟨c20,c21,c22,c23,f20,f21,f22,f23⟩:=c2.out;replace hW9:=Za hW9;replace hB9:=Za hB9;go_wp2_with fail;rw [hW9.out];obtain ⟨W,hW,hB,hblk,kW,-⟩:=Zv nx Ax kx cx ny Ay ky cy hB9.out (by omega) hq.out;rw [hW];obtain ⟨r0,r1,r2,r3,-⟩:=hblk.four;refine bodyPost_ret (v:=.agg #[.bool nx,.slice Ax kx cx,.bool ny,.slice Ay ky cy]) (by simp [results,Tryz.results189,go_sem,r0,r1,r2,r3]) rfl ?_;exact ⟨hB,_,_,_,_,_,_,_,_,rfl,kW _ _ _ _ _ HX9.out,kW _ _ _ _ _ HY9.out⟩
theorem Zo8 (na nb:Bool) (A B:Option Addr) (n c m d:Nat) (za zb:Int) (w:World) (ha:Wd w na A n c za) (hb:Wd w nb B m d zb) (h0:zb ≠ 0) :
    Calls Tryz.prog 189 #[.agg #[.bool na,.slice A n c],.agg #[.bool nb,.slice B m d]] w (Zdi w (Rat.divInt za zb)):=by
 by_cases hn:zb < 0
 ·have:nb=true:=by rw [hb.1];exact decide_eq_true hn
  subst this;exact Zpx na A B n c m d za zb w ha hb hn
 ·have:nb=false:=by rw [hb.1];exact decide_eq_false hn
  subst this;exact Zg4 na A B n c m d za zb w ha hb (by omega)
theorem Ztm (F:FuncId) (na nb na' nb':Bool) (A B A' B':Option Addr) (n c m d n' c' m' d':Nat) (a b:Rat) (X Y:Int) (w:World) (ha:Fr w na A n c nb B m d a) (hb:Fr w na' A' n' c' nb' B' m' d' b) (hY:Y ≠ 0) (hcf:∀ (x y:Value) (W:World),(callFunc F #[x,y]).run Tryz.prog W=.ok (.enter F #[x,y]) W)
    (hF:∀ W:World,Fr W na A n c nb B m d a->Fr W na' A' n' c' nb' B' m' d' b->Calls Tryz.prog F #[.agg #[.bool na,.slice A n c,.bool nb,.slice B m d],.agg #[.bool na',.slice A' n' c',.bool nb',.slice B' m' d']] W (Zll W X Y)) :
    Calls Tryz.prog 183 #[.agg #[.bool na,.slice A n c,.bool nb,.slice B m d],.agg #[.bool na',.slice A' n' c',.bool nb',.slice B' m' d'],.func (.func F) #[] #[]] w (Zei w (Rat.divInt X Y)):=by
 obtain ⟨W0,hW0,hB0,⟨q0,q1,q2,q3⟩,s0⟩:=Ze9 w 29 #[.bool na,.slice A n c,.bool nb,.slice B m d] 29 #[.bool na',.slice A' n' c',.bool nb',.slice B' m' d'] 29 #[.bool false,.slice none 0 0,.bool false,.slice none 0 0] 30 #[.int .i64 0];have hA:=Za (ha.below hB0);have hD:=Za (hb.below hB0);replace hF:=Za hF;clear ha hb;replace hW0:=Za hW0;obtain ⟨a0,a1,a2,a3,-⟩:=q0.four;have hq:=Za (And.intro q0 (And.intro q1 (And.intro q2 q3)));clear q0 q1 q2 q3
 go_enter_defers Tryz.func183,Tryz.ntmps183
 have hW0':=hW0.out;go_wp2_with fail;clear hW0 hW0';refine (Zdq na nb A B n c m d a W0 hA.out).mono ?_;rintro e w1 ⟨rfl,hb1⟩;have hB1:Below w.heap.size w w1:=hB0.trans (hb1.mono hB0.size);have s1:W0.heap.size <= w1.heap.size:=hb1.size;replace hA:=Za (hA.out.below hb1);replace hD:=Za (hD.out.below hb1);obtain ⟨q0,q1,q2,q3⟩:=hq.out;replace q0:=Zc hb1 q0;replace q1:=Zc hb1 q1;replace q2:=Zc hb1 q2;replace q3:=Zc hb1 q3;clear hq hb1 hB0 a0 a1 a2 a3;obtain ⟨b0,b1,b2,b3,-⟩:=q1.four;have hq:=Za (And.intro q0 (And.intro q1 (And.intro q2 q3)));clear q0 q1 q2 q3;go_wp2_with fail;refine (Zel w1).mono ?_;rintro e w1 ⟨rfl,rfl⟩;go_wp2_with fail;refine (Zdq na' nb' A' B' n' c' m' d' b w1 hD.out).mono ?_;rintro e w2 ⟨rfl,hb2⟩;have hB2:Below w.heap.size w w2:=hB1.trans (hb2.mono hB1.size);have s2:w1.heap.size <= w2.heap.size:=hb2.size;replace hA:=Za (hA.out.below hb2);replace hD:=Za (hD.out.below hb2);obtain ⟨q0,q1,q2,q3⟩:=hq.out;replace q0:=Zc hb2 q0;replace q1:=Zc hb2 q1;replace q2:=Zc hb2 q2;replace q3:=Zc hb2 q3;clear hq hb2 hB1 b0 b1 b2 b3;obtain ⟨a0,a1,a2,a3,-⟩:=q0.four;obtain ⟨b0,b1,b2,b3,-⟩:=q1.four;have hq:=Za (And.intro q2 q3);clear q0 q1 q2 q3;go_wp2_with fail;refine (Zel w2).mono ?_;rintro e w2 ⟨rfl,rfl⟩;go_wp2_with fail;refine (hF.out w2 hA.out hD.out).mono ?_;rintro e w3 ⟨hb3,nu,U,k1,u,nv,V,k2,v,rfl,hU,hV⟩;have hB3:Below w.heap.size w w3:=hB2.trans (hb3.mono hB2.size);have s3:w2.heap.size <= w3.heap.size:=hb3.size;have q2:=Zc hb3 hq.out.1;have q3:=Zc hb3 hq.out.2
 clear hq hb3 hB2 a0 a1 a2 a3 b0 b1 b2 b3 hA hD hF;have hq:=Za (And.intro q2 q3);replace hU:=Za hU;replace hV:=Za hV;clear q2 q3;go_wp2_with fail;refine (Zo8 nu nv U V k1 u k2 v X Y w3 hU.out hV.out hY).mono ?_;rintro e w4 ⟨hb4,nx,Ax,kx,cx,ny,Ay,ky,cy,rfl,hF⟩;have hB4:Below w.heap.size w w4:=hB3.trans (hb4.mono hB3.size);have s4:w3.heap.size <= w4.heap.size:=hb4.size;have q2:=Zc hb4 hq.out.1;have q3:=Zc hb4 hq.out.2;clear hq hb4 hU hV hB3;have c2:=Za q2.four;have c3:=q3.cell 0;have f3:=q3.frozen 0
 simp at c3
 obtain ⟨c20,c21,c22,c23,f20,f21,f22,f23⟩:=c2.out;have hq:=Za (And.intro q2 q3);clear q2 q3;go_wp2_with fail;obtain ⟨W5,hW5,hB5,q2,kW,kB,s5⟩:=Zv nx Ax kx cx ny Ay ky cy hB4 (by omega) hq.out.1;have q3:=kB _ _ _ (by omega) hq.out.2;have HX5:=Za (kW _ _ _ _ _ hF.1);have HY5:=Za (kW _ _ _ _ _ hF.2);rw [hW5];clear kW kB c20 c21 c22 c23 c3 f3 f20 f21 f22 f23 hq hF;obtain ⟨W6,hW6,hB6,q3,kW,kB,s6⟩:=Zbu 0 hB5 (by omega) q3;replace q2:=kB _ _ _ (by omega) q2;have HX6:=Za (kW _ _ _ _ _ HX5.out);have HY6:=Za (kW _ _ _ _ _ HY5.out);rw [hW6];obtain ⟨r0,r1,r2,r3,-⟩:=q2.four;have r4:=q3.cell 0
 simp at r4
 clear kW kB hB5 HX5 HY5 hW5 hW6;refine leaves_cons (f:=144) (args:=#[.pointer (some ⟨w.heap.size+1+1+1,0,none⟩)]) (by simp) (by simp [go_sem]) ?_;refine (Zfp _ _).mono ?_;rintro e u' w'' ⟨rfl,rfl,rfl⟩;refine ⟨.tuple #[.agg #[.bool nx,.slice Ax kx cx,.bool ny,.slice Ay ky cy],.int .i64 0],by simp [results,Tryz.results183,go_sem,r0,r1,r2,r3,r4],?_⟩;exact ⟨hB6,_,_,_,_,_,_,_,_,rfl,HX6.out,HY6.out⟩
theorem Zpk (x y:Value) (W:World):(callFunc 187 #[x,y]).run Tryz.prog W=.ok (.enter 187 #[x,y]) W:=by simp [go_sem]
theorem Div1_ok (na nb na' nb':Bool) (A B A' B':Option Addr) (n c m d n' c' m' d':Nat) (a b:Rat) (w:World) (ha:Fr w na A n c nb B m d a) (hb:Fr w na' A' n' c' nb' B' m' d' b)
    (hs:(a.num * b.den).natAbs < pw 4096) (ht:((a.den:Int) * b.num).natAbs < pw 4096) (h0:b ≠ 0) :
    Calls Tryz.prog 187 #[.agg #[.bool na,.slice A n c,.bool nb,.slice B m d],.agg #[.bool na',.slice A' n' c',.bool nb',.slice B' m' d']] w (Zll w (a.num * b.den) ((a.den:Int) * b.num)):=by
 obtain ⟨W0,hW0,hB0,⟨q0,q1,q2,q3⟩,s0⟩:=Ze9 w 29 #[.bool na,.slice A n c,.bool nb,.slice B m d] 29 #[.bool na',.slice A' n' c',.bool nb',.slice B' m' d'] 27 #[.bool false,.slice none 0 0] 27 #[.bool false,.slice none 0 0]
 have hz0:((n':Int) == 0)=false:=by
  have:n' ≠ 0:=fun e=>h0 (hb.zero_iff.1 e)
  simp;omega
 have hmx:Tryz.prog.follows .mixedOrders=true:=by kernel_rfl
 have hA:=Za (ha.below hB0);have hD:=Za (hb.below hB0);replace hs:=Za hs;replace ht:=Za ht;have sz:=Za hB0.size;have hB:=Za hB0;clear ha hb hB0 s0;replace q0:=Za q0;replace q1:=Za q1;replace q2:=Za q2;replace q3:=Za q3;obtain ⟨a0,a1,a2,a3,-⟩:=q0.out.four;obtain ⟨b0,b1,b2,b3,-⟩:=q1.out.four;replace hW0:=Za hW0;go_enter Tryz.func187,Tryz.ntmps187;go_wp2_with fail;rw [hW0.out];refine (Zhu na' A' n' c' W0 (Nat.le_trans hD.out.1.2.1 (by decide)) false hz0).mono ?_;rintro e wz ⟨rfl,hbz⟩;replace q0:=Za (Zc hbz q0.out);replace q1:=Za (Zc hbz q1.out);replace q2:=Za (Zc hbz q2.out);replace q3:=Za (Zc hbz q3.out);replace hA:=Za (hA.out.below hbz);replace hD:=Za (hD.out.below hbz);replace hB:=Za (hB.out.trans (hbz.mono sz.out));replace sz:=Za (Nat.le_trans sz.out hbz.size);clear a0 a1 a2 a3 b0 b1 b2 b3 hW0 hbz;obtain ⟨a0,a1,a2,a3,-⟩:=q0.out.four;obtain ⟨b0,b1,b2,b3,-⟩:=q1.out.four;go_wp2_with fail;refine Z8 [12] (fun W'=>W'.cell? ⟨w.heap.size,0,none⟩=some (.bool na)/\W'.cell? ⟨w.heap.size,1,none⟩=some (.slice A n c)/\W'.cell? ⟨w.heap.size,2,none⟩=some (.bool nb)/\W'.cell? ⟨w.heap.size,3,none⟩=some (.slice B m d)/\W'.cell? ⟨w.heap.size+1,0,none⟩=some (.bool na')/\W'.cell? ⟨w.heap.size+1,1,none⟩=some (.slice A' n' c')/\W'.cell? ⟨w.heap.size+1,2,none⟩=some (.bool nb')/\W'.cell? ⟨w.heap.size+1,3,none⟩=some (.slice B' m' d')) hmx ⟨a0,a1,a2,a3,b0,b1,b2,b3⟩ (fun _=>?_);refine Zu5 6 [0,1,3,4,5,6] rfl (by kernel_rfl) ⟨a0,a1,a2,a3,b0,b1,b2,b3⟩ ?_
 iterate 6 (refine tk1 (v:=?_) rfl (Or.inl ⟨by kernel_rfl,?_⟩) ?_;rotate_left;(· intro W2 hSw;(try dsimp only at hSw);go_simp;try with_reducible rfl);try simp only [Act.put,putL_a,putL_z,putL_s,putG_a,putG_s,putG_z])
 refine tk0 ?_;refine Ze (i:=2) rfl (by kernel_rfl) (fun K hK=>?_);go_simp;refine (Zeg na nb na' nb' A B A' B' n c m d n' c' m' d' a b wz.drew hA.out hD.out hs.out).mono ?_;rintro e w1 ⟨hb1,np,P,k,q,rfl,hP⟩;replace hb1:=Zq hb1;replace hP:=Za hP;clear hs;replace q0:=Za (Zc hb1 q0.out);replace q1:=Za (Zc hb1 q1.out);replace q2:=Za (Zc hb1 q2.out);replace q3:=Za (Zc hb1 q3.out);replace hA:=Za (hA.out.below hb1);replace hD:=Za (hD.out.below hb1);replace hB:=Za (hB.out.trans (hb1.mono sz.out));replace sz:=Za (Nat.le_trans sz.out hb1.size);clear a0 a1 a2 a3 b0 b1 b2 b3;obtain ⟨a0,a1,a2,a3,-⟩:=q0.out.four;obtain ⟨b0,b1,b2,b3,-⟩:=q1.out.four;clear hb1;refine hK.out _ _ (fun _=>⟨a0,a1,a2,a3,b0,b1,b2,b3⟩) ?_;clear hK K
 try simp only [Act.put,putL_a,putL_z,putL_s]
 refine Ze (i:=7) rfl (by kernel_rfl) (fun K hK=>?_);go_simp;refine (Zie nb na' B A' m d n' c' a.den b.num w1 hA.out.2 hD.out.1).mono ?_;rintro e w3 ⟨hb3,np',P',k',q',code,rfl,hR⟩;have hP':=Za (hR.small ht.out);have hcode:=hR.code0 ht.out;subst hcode;clear ht hR;replace hP:=Za (hP.out.below hb3);replace q0:=Za (Zc hb3 q0.out);replace q1:=Za (Zc hb3 q1.out);replace q2:=Za (Zc hb3 q2.out);replace q3:=Za (Zc hb3 q3.out);replace hA:=Za (hA.out.below hb3);replace hD:=Za (hD.out.below hb3);replace hB:=Za (hB.out.trans (hb3.mono sz.out));replace sz:=Za (Nat.le_trans sz.out hb3.size);clear a0 a1 a2 a3 b0 b1 b2 b3;obtain ⟨a0,a1,a2,a3,-⟩:=q0.out.four;obtain ⟨b0,b1,b2,b3,-⟩:=q1.out.four;clear hb3;refine hK.out _ _ (fun _=>⟨a0,a1,a2,a3,b0,b1,b2,b3⟩) ?_;clear hK K
 try simp only [Act.put,putL_a,putL_z,putL_s]
 refine Zu5 2 [8,9] rfl (by kernel_rfl) ⟨a0,a1,a2,a3,b0,b1,b2,b3⟩ ?_
 iterate 2 (refine tk1 (v:=?_) rfl (Or.inl ⟨by kernel_rfl,?_⟩) ?_;rotate_left;(· intro W2 hSw;(try dsimp only at hSw);go_simp;try with_reducible rfl);try simp only [Act.put,putL_a,putL_z,putL_s,putG_a,putG_s,putG_z])
 refine tk0 ?_;refine Ze (i:=10) rfl (by kernel_rfl) (fun K hK=>?_);go_simp;refine (Zdd np' P' k' q' w3).mono ?_;rintro e w4 ⟨rfl,hb4⟩;replace hP:=Za (hP.out.below hb4);replace hP':=Za (hP'.out.below hb4);replace q0:=Za (Zc hb4 q0.out);replace q1:=Za (Zc hb4 q1.out);replace q2:=Za (Zc hb4 q2.out);replace q3:=Za (Zc hb4 q3.out);replace hA:=Za (hA.out.below hb4);replace hD:=Za (hD.out.below hb4);replace hB:=Za (hB.out.trans (hb4.mono sz.out));replace sz:=Za (Nat.le_trans sz.out hb4.size);clear a0 a1 a2 a3 b0 b1 b2 b3;obtain ⟨a0,a1,a2,a3,-⟩:=q0.out.four;obtain ⟨b0,b1,b2,b3,-⟩:=q1.out.four;clear hb4;obtain ⟨x0,x1,f0,f1⟩:=q2.out.two;refine hK.out _ _ (fun _=>⟨a0,a1,a2,a3,b0,b1,b2,b3⟩) ?_;clear hK K
 try simp only [Act.put,putL_a,putL_z,putL_s]
 refine Ze (i:=11) rfl (by kernel_rfl) (fun K hK=>?_);go_simp;obtain ⟨W5,hW5,hB5,q2',kW,kB,s5⟩:=Zaa np P k q hB.out (by omega) q2.out;rw [hW5];clear hW5 x0 x1 f0 f1 a0 a1 a2 a3 b0 b1 b2 b3 hA hD;replace q0:=kB _ _ _ (by omega) q0.out;replace q1:=kB _ _ _ (by omega) q1.out;obtain ⟨a0,a1,a2,a3,-⟩:=q0.four;obtain ⟨b0,b1,b2,b3,-⟩:=q1.four;replace q3:=Za (kB _ _ _ (by omega) q3.out);replace hP:=Za (kW _ _ _ _ _ hP.out);replace hP':=Za (kW _ _ _ _ _ hP'.out);clear kW kB q2 hB q0 q1;obtain ⟨y0,y1,g0,g1⟩:=q3.out.two;refine hK.out _ _ (fun _=>⟨a0,a1,a2,a3,b0,b1,b2,b3⟩) ?_;clear hK K
 try simp only [Act.put,putL_a,putL_z,putL_s]
 refine Zp (i:=12) rfl (by kernel_rfl) (by kernel_rfl) (fun K hK=>?_);go_simp;obtain ⟨W6,hW6,hB6,q3',kW,kB,s6⟩:=Zaa np' P' k' q' hB5 (by omega) q3.out;rw [hW6];clear hW6 y0 y1 g0 g1 a0 a1 a2 a3 b0 b1 b2 b3;replace q2':=kB _ _ _ (by omega) q2';replace hP:=Za (kW _ _ _ _ _ hP.out);replace hP':=Za (kW _ _ _ _ _ hP'.out);clear kW kB q3 hB5;refine hK.out _ _ ?_;clear hK K
 try simp only [Act.put,putL_a,putL_z,putL_s]
 refine Zj (by kernel_rfl) ?_ _;refine OnlyNormal.normal ?_;obtain ⟨r0,r1,-⟩:=q2'.two;obtain ⟨r2,r3,-⟩:=q3'.two;go_wp2_with fail;refine bodyPost_ret (v:=.tuple #[.agg #[.bool np,.slice P k q],.agg #[.bool np',.slice P' k' q']]) (by simp [results,Tryz.results187,go_sem,r0,r1,r2,r3]) rfl ?_;exact ⟨hB6,_,_,_,_,_,_,_,_,rfl,hP.out,hP'.out⟩
theorem Ztz (na nb na' nb':Bool) (A B A' B':Option Addr) (n c m d n' c' m' d':Nat) (a b:Rat) (w:World) (ha:Fr w na A n c nb B m d a) (hb:Fr w na' A' n' c' nb' B' m' d' b) (sa:Sm a) (sb:Sm b) (h0:b ≠ 0) :
    Calls Tryz.prog 119 #[.agg #[.bool na,.slice A n c,.bool nb,.slice B m d],.agg #[.bool na',.slice A' n' c',.bool nb',.slice B' m' d']] w (Zei w (a / b)):=by
 obtain ⟨W0,hW0,hB0,⟨q0,q1,q2⟩,s0⟩:=Zb5 w 29 #[.bool na,.slice A n c,.bool nb,.slice B m d] 29 #[.bool na',.slice A' n' c',.bool nb',.slice B' m' d'] 29 #[.bool false,.slice none 0 0,.bool false,.slice none 0 0];have hA:=Za (ha.below hB0);have hD:=Za (hb.below hB0)
 have hF:=fun (W:World) (h1:Fr W na A n c nb B m d a) (h2:Fr W na' A' n' c' nb' B' m' d' b)=>Div1_ok na nb na' nb' A B A' B' n c m d n' c' m' d' a b W h1 h2 (Zba sa.1 sb.dn) (Zba sa.dn sb.1) h0
 have hG:=Za (Ztm 187 na nb na' nb' A B A' B' n c m d n' c' m' d' a b _ _ W0 hA.out hD.out (Zg8 a b h0) Zpk hF);rw [Zf7 a b h0] at hG;clear hF ha hb sa sb hA hD;obtain ⟨a0,a1,a2,a3,-⟩:=q0.four;obtain ⟨b0,b1,b2,b3,-⟩:=q1.four;replace q2:=Za q2;clear q0 q1;go_enter Tryz.func119,Tryz.ntmps119;go_wp2_with fail;refine hG.out.mono ?_;rintro e w1 ⟨hb1,nx,Ax,kx,cx,ny,Ay,ky,cy,rfl,hX⟩;have hB1:Below w.heap.size w w1:=hB0.trans (hb1.mono hB0.size);have s1:W0.heap.size <= w1.heap.size:=hb1.size;replace q2:=Za (Zc hb1 q2.out);replace hX:=Za hX;clear hb1 a0 a1 a2 a3 b0 b1 b2 b3 hB0 hG hW0;obtain ⟨c20,c21,c22,c23,f20,f21,f22,f23⟩:=q2.out.four;go_wp2_with fail;obtain ⟨W5,hW5,hB5,q2,kW,-,s5⟩:=Zv nx Ax kx cx ny Ay ky cy hB1 (by omega) q2.out;rw [hW5];obtain ⟨r0,r1,r2,r3,-⟩:=q2.four;refine bodyPost_ret (v:=.tuple #[.agg #[.bool nx,.slice Ax kx cx,.bool ny,.slice Ay ky cy],.int .i64 0]) (by simp [results,Tryz.results119,go_sem,r0,r1,r2,r3]) rfl ?_;exact ⟨hB5,_,_,_,_,_,_,_,_,rfl,kW _ _ _ _ _ hX.out.1,kW _ _ _ _ _ hX.out.2⟩
theorem Zj9 (na nb na' nb':Bool) (A B A' B':Option Addr) (n c m d n' c' m' d':Nat) (a b:Rat) (w:World) (ha:Fr w na A n c nb B m d a) (hb:Fr w na' A' n' c' nb' B' m' d' b) (sa:Sm a) (sb:Sm b) (h0:b ≠ 0) :
    Calls Tryz.prog 63 #[.agg #[.bool na,.slice A n c,.bool nb,.slice B m d],.agg #[.bool na',.slice A' n' c',.bool nb',.slice B' m' d']] w (Zdi w (a / b)):=by
 obtain ⟨W0,hW0,hB0,⟨q0,q1,q2⟩,s0⟩:=Zb5 w 99 #[.bool na,.slice A n c,.bool nb,.slice B m d] 99 #[.bool na',.slice A' n' c',.bool nb',.slice B' m' d'] 99 #[.bool false,.slice none 0 0,.bool false,.slice none 0 0];obtain ⟨a0,a1,a2,a3,-⟩:=q0.four;obtain ⟨b0,b1,b2,b3,-⟩:=q1.four;obtain ⟨gR,hgR⟩:∃ g,w.heap.size+1+1=g:=⟨_,rfl⟩;rw [hgR] at q2;have hA:=ha.below hB0;have hD:=hb.below hB0;go_enter Tryz.func63,Tryz.ntmps63;go_wp2_with fail;(try rw [hW0]);refine (Ztz na nb na' nb' A B A' B' n c m d n' c' m' d' a b W0 hA hD sa sb h0).mono ?_;rintro e w1 ⟨hb1,pn,pA,pk,pc,pm,pB,pj,pd,rfl,hf⟩;replace q2:=Zc hb1 q2;clear a0 a1 a2 a3 b0 b1 b2 b3 q0 q1 hA hD;go_wp2_with fail;refine (Zew pn pm pA pB pk pc pj pd _ w1 hf).mono ?_;rintro e w2 ⟨hb2,rn,rA,rk,rc,rm,rB,rj,rd,rfl,hr⟩;replace q2:=Zc hb2 q2;(try rw [hgR]);obtain ⟨c0,c1,c2,c3,z0,z1,z2,z3⟩:=q2.four;obtain ⟨W5,hW5,q5,hK5,s5⟩:=Zao rn rA rk rc rm rB rj rd q2;clear hf;go_wp2_with fail;(try rw [hW5]);obtain ⟨r0,r1,r2,r3,-⟩:=q5.four;refine bodyPost_ret (v:=.agg #[.bool rn,.slice rA rk rc,.bool rm,.slice rB rj rd]) (by simp [results,Tryz.results63,go_sem,r0,r1,r2,r3]) rfl ?_;refine ⟨?_,_,_,_,_,_,_,_,_,rfl,hr.keptN hK5 q2 (Zay _ _ _ _ _ _ _ _)⟩;have hB2:=hB0.trans ((hb1.trans (hb2.mono hb1.size)).mono hB0.size);exact hB2.trans (hK5.to_below (fun k e=>by omega) hB2.size)
def upS (E X:Nat->Nat->Rat) (i k t:Nat):Rat:=E i k - Z4 t (fun j=>if i < j then E i j * X j k else 0)
theorem Zut (E X:Nat->Nat->Rat) (i k t:Nat) (h:t <= i+1):upS E X i k t=E i k:=by
 unfold upS
 have:Z4 t (fun j=>if i < j then E i j * X j k else 0)=0:=by
  induction t with
  | zero=>rfl
  | succ t ih=>simp only [Z4];rw [ih (by omega),if_neg (by omega)];grind
 rw [this];grind
theorem Zs6 (E X:Nat->Nat->Rat) {i k t:Nat} (h:i < t):upS E X i k (t+1)=upS E X i k t - E i t * X t k:=by
 unfold upS;simp only [Z4];rw [if_pos h];grind
def Zld (E X:Nat->Nat->Rat) (n m:Nat):Prop:=
 (∀ i,i < n->E i i ≠ 0)/\(∀ i k,i < n->n <= k->k < m->X i k=upS E X i k n / E i i)/\(∀ i j,SmN 300 300 (E i j))/\(∀ i k,SmN 300 300 (X i k))/\∀ i k t,SmN 400 400 (upS E X i k t)
theorem Zr3 {E X X':Nat->Nat->Rat} {i k t:Nat} (h:∀ j,i < j->j < t->X j k=X' j k):upS E X i k t=upS E X' i k t:=by
 unfold upS
 congr 1
 refine Zx fun j hj=>?_
 by_cases hij:i < j
 ·rw [if_pos hij,if_pos hij,h j hij hj]
 ·rw [if_neg hij,if_neg hij]
theorem Zse {E E' X:Nat->Nat->Rat} {i k t:Nat} {c:Rat} (h:∀ j,E' i j=c * E i j):upS E' X i k t=c * upS E X i k t:=by
 unfold upS
 have:Z4 t (fun j=>if i < j then E' i j * X j k else 0)=c * Z4 t (fun j=>if i < j then E i j * X j k else 0):=by
  have h1:=Zd8 (n:=t) (fun j=>if i < j then E i j * X j k else 0) (fun _=>0) c 0;rw [show c * Z4 t (fun j=>if i < j then E i j * X j k else 0)=c * Z4 t (fun j=>if i < j then E i j * X j k else 0)+0 * Z4 t (fun _=>0) by grind,<- h1]
  refine Zx fun j _=>?_
  by_cases hij:i < j
  ·rw [if_pos hij,if_pos hij,h];grind
  ·rw [if_neg hij,if_neg hij];grind
 rw [this,h];grind
theorem Zng {E X:Nat->Nat->Rat} {n i k t:Nat} (hX:∀ j,n <= j->X j k=0) (h:n <= t):upS E X i k t=upS E X i k n:=by
 unfold upS
 congr 1
 induction t with
 | zero=>obtain rfl:n=0:=by omega
         rfl
 | succ t ih =>
  by_cases hn:n=t+1
  ·rw [hn]
  ·simp only [Z4]
   rw [ih (by omega)]
   by_cases hit:i < t
   ·rw [if_pos hit,hX t (by omega)];grind
   ·rw [if_neg hit];grind
theorem Zkn {n:Nat} (E:Nat->Nat->Rat):∀ t,t <= n->∃ X:Nat->Nat->Rat,(∀ i k,n - t <= i->i < n->X i k=upS E X i k n / E i i)/\∀ i k,n <= i->X i k=0
 | 0,_=>⟨fun _ _=>0,fun i k h1 h2=>by omega,fun _ _ _=>rfl⟩
 | t+1,ht=>by
  obtain ⟨X,h1,h2⟩:=Zkn (n:=n) E t (by omega);refine ⟨fun i k=>if i=n - (t+1) then upS E X i k n / E i i else X i k,fun i k hi hn=>?_,fun i k hi=>?_⟩
  ·have hc:upS E (fun i k=>if i=n - (t+1) then upS E X i k n / E i i else X i k) i k n=upS E X i k n:=Zr3 fun j hj hjn=>by
     rw [if_neg (by omega)]
   rw [hc];show (if i=n - (t+1) then upS E X i k n / E i i else X i k)=_
   by_cases hit:i=n - (t+1)
   ·rw [if_pos hit]
   ·rw [if_neg hit];exact h1 i k (by omega) hn
  ·show (if i=n - (t+1) then _ else _)=_
   rw [if_neg (by omega)];exact h2 i k hi
theorem Zjm {n:Nat} {E X:Nat->Nat->Rat} {i k:Nat} (hi:i < n) (hlow:∀ j,j < i->E i j=0) (hd:E i i ≠ 0) (hX:X i k=upS E X i k n / E i i):Z4 n (fun j=>E i j * X j k)=E i k:=by
 have h1:E i i * X i k=upS E X i k n:=by rw [hX];grind
 unfold upS at h1
 have h2:Z4 n (fun j=>E i j * X j k)=Z4 n (fun j=>if j=i then E i i * X i k else 0)+Z4 n (fun j=>if i < j then E i j * X j k else 0):=by
  have:=Zd8 (n:=n) (fun j=>if j=i then E i i * X i k else 0) (fun j=>if i < j then E i j * X j k else 0) 1 1;rw [show ∀ a b:Rat,a+b=1 * a+1 * b by intro a b;grind,<- this]
  refine Zx fun j _=>?_
  rcases Nat.lt_trichotomy j i with h | h | h
  ·rw [hlow j h,if_neg (by omega),if_neg (by omega)];grind
  ·subst h;rw [if_pos rfl,if_neg (Nat.lt_irrefl _)];grind
  ·rw [if_neg (by omega),if_pos h];grind
 rw [h2,Zf9 i hi (fun j _ hj=>if_neg hj),if_pos rfl,h1];grind
def Zky (R:List (List Rat)) (m:Nat) (x:Nat->Rat) (i:Nat):Rat:=Z4 m (fun j=>Zg R i j * x j)
theorem Zid {n m:Nat} (x:Nat->Rat):∀ (f col r:Nat) (R:List (List Rat)) (neg:Bool),R.length=n->(∀ i,i < n->(R[i]?.getD []).length=m)->r <= n->(∀ i j,r <= i->i < n->j < col->Zg R i j=0) ->
    (∀ i,i < n->Zky (Zbe f col r R neg).1 m x i=0)->∀ i,i < n->Zky R m x i=0
 | 0,col,r,R,neg,_,_,_,_,h=>h
 | f+1,col,r,R,neg,hl,hrow,hr,hlow,h=>by
  unfold Zbe at h;rw [hl] at h
  by_cases hrn:r=n
  ·simp only [if_pos hrn] at h;exact h
  ·simp only [if_neg hrn] at h
   obtain ⟨q,hq⟩:∃ q,Zbp (fun i=>Zg R i col == 0) n n r=q:=⟨_,rfl⟩;obtain ⟨p1,p2,p3,p4⟩:=Zed (z:=fun i=>Zg R i col == 0) (n:=n) (f:=n) (k:=r) (by omega) (by omega);rw [hq] at p1 p2 p3 p4;rw [hq] at h
   by_cases hqn:q=n
   ·simp only [if_pos hqn] at h
    refine Zid x f (col+1) r R neg hl hrow hr (fun i j h1 h2 h3=>?_) h
    by_cases hj:j=col
    ·rw [hj];simpa using p3 i h1 (by omega)
    ·exact hlow i j h1 h2 (by omega)
   ·simp only [if_neg hqn] at h
    have hqn':q < n:=by omega
    have hpv:Zg R q col ≠ 0:=by simpa using p4 hqn'
    have hsl:(Zas R q r).length=n:=by rw [Zig,hl]
    have hsrow:∀ i,i < (Zas R q r).length->((Zas R q r)[i]?.getD []).length=m:=fun i hi=>by
     rw [hsl] at hi;rw [Zey (by omega) (by omega)];exact hrow _ (Zil hqn' (by omega) hi)
    have hes:∀ i j,Zg (Zas R q r) i j=Zg R (swI q r i) j:=fun i j=>Zgk (by omega) (by omega) i j
    have hslow:∀ i j,r <= i->i < n->j < col->Zg (Zas R q r) i j=0:=fun i j h1 h2 h3=>by
     rw [hes];exact hlow _ j (Zm8 p1 h1) (Zil hqn' (by omega) h2) h3
    have hsr:swI q r r=q:=by unfold swI;split
                             ·rename_i e;exact e
                             ·rw [if_pos rfl]
    have hpr:Zg (Zas R q r) r col ≠ 0:=by rw [hes,hsr];exact hpv
    have hec:∀ i j,i < n->Zg (Za8 (Zas R q r) r col) i j=if i <= r then Zg (Zas R q r) i j else Zg (Zas R q r) i j - Zg (Zas R q r) i col / Zg (Zas R q r) r col * Zg (Zas R q r) r j:=
     fun i j hi=>Zfg (m:=m) hsrow (fun j hj=>hslow r j (Nat.le_refl _) (by omega) hj) i j (by omega) (by omega)
    have ih:=Zid x f (col+1) (r+1) (Za8 (Zas R q r) r col) _ (by rw [Zea,hsl]) (fun i hi=>by rw [Zj7 i (by omega)];exact hsrow i (by omega)) (by omega) (fun i j h1 h2 h3=>by
     rw [hec i j h2,if_neg (by omega)]
     by_cases hj:j=col
     ·rw [hj];grind
     ·rw [hslow i j (by omega) h2 (by omega),hslow r j (Nat.le_refl _) (by omega) (by omega)];grind) h
    have hdr:Zky (Zas R q r) m x r=0:=by
     have:=ih r (by omega);unfold Zky at this ⊢;rw [<- this]
     refine Zx fun j _=>by rw [hec r j (by omega),if_pos (Nat.le_refl _)]
    have hds:∀ i,i < n->Zky (Zas R q r) m x i=0:=fun i hi=>by
     have h1:=ih i hi
     by_cases hir:i <= r
     ·unfold Zky at h1 ⊢
      rw [<- h1]
      exact Zx fun j _=>by rw [hec i j hi,if_pos hir]
     ·unfold Zky at h1 hdr ⊢
      have h2:=Zd8 (n:=m) (fun j=>Zg (Zas R q r) i j * x j) (fun j=>Zg (Zas R q r) r j * x j) 1 (-(Zg (Zas R q r) i col / Zg (Zas R q r) r col));rw [hdr] at h2
      have h3:Z4 m (fun j=>Zg (Za8 (Zas R q r) r col) i j * x j)=Z4 m (fun j=>1 * (Zg (Zas R q r) i j * x j)+-(Zg (Zas R q r) i col / Zg (Zas R q r) r col) * (Zg (Zas R q r) r j * x j)):=
       Zx fun j _=>by rw [hec i j hi,if_neg hir];grind
      rw [h3,h2] at h1
      grind
    intro i hi;have:=hds (swI q r i) (Zil hqn' (by omega) hi);unfold Zky at this ⊢;rw [<- this]
    exact Zx fun j _=>by rw [hes,swI_swI]
theorem BndQ.sub {B C:Nat} {p q:Rat} (h:BndQ B p) (k:BndQ C q):BndQ (B+C) (p - q):=by
 obtain ⟨a,rfl,ha⟩:=h;obtain ⟨b,rfl,hb⟩:=k;exact ⟨a - b,by rw [Rat.intCast_sub],by omega⟩
theorem BndQ.zero {B:Nat}:BndQ B 0:=⟨0,rfl,by simp⟩
def SolQ (Q X:Nat->Nat->Rat) (n m:Nat):Prop:=∀ i k,i < n->n <= k->k < m->Z4 n (fun j=>Q i j * X j k)=Q i k
theorem Zkw {n m:Nat} {f:Nat->Rat} {k:Nat} (hk:n <= k) (hm:k < m) (h:∀ j,n <= j->j ≠ k->f j=0):Z4 m f=Z4 n f+f k:=by
 induction m with
 | zero=>omega
 | succ m ih =>
  simp only [Z4]
  by_cases hkm:k=m
  ·subst hkm
   congr 1
   have:∀ t,n+t <= k->Z4 (n+t) f=Z4 n f:=by
    intro t
    induction t with
    | zero=>intro _;rfl
    | succ t iht=>intro ht;rw [<- Nat.add_assoc];simp only [Z4];rw [iht (by omega),h (n+t) (by omega) (by omega)];grind
   have h1:=this (k - n) (by omega);rw [show n+(k - n)=k by omega] at h1;exact h1
  ·rw [ih (by omega),h m (by omega) (by omega)];grind
section
variable {B S n m:Nat}
theorem Zqj (hB:1 <= B) (hS:1 <= S) (R:List (List Rat)) (hl:R.length=n) (hrow:∀ i,i < n->(R[i]?.getD []).length=m) (hs:∀ i,i < n->denAt R i <= S) (hBd:∀ i j,i < n->(Zbc (Zbd R) i j).natAbs <= B) (hnm:n <= m)
    (g1:(n+1) * (Za9 B n * Za9 B n) < pw 400) (g2:Za9 B n * Za9 B n * S < pw 400) (g3:Za9 B n * S < pw 300) :
    okZ (Za9 B n+1) m n 0 0 (Zbd R) 1/\okR (Za9 B n+1) (Za9 B n * S+1) m n 0 0 R /\
    (Zcz n 0 0 (Zbd R) false 1).2.1=(Zbe n 0 0 R false).2.1/\(Zbe n 0 0 R false).2.1 <= n /\
    ((Zbe n 0 0 R false).2.1 < n->Zax n (Zg R)=0) /\
    ((Zbe n 0 0 R false).2.1=n->Zax n (Zg R) ≠ 0/\∃ X:Nat->Nat->Rat,Zld (Zg (Zbe n 0 0 R false).1) X n m/\Zld (fun i j=>(Zbc (Zcz n 0 0 (Zbd R) false 1).1 i j:Rat)) X n m/\SolQ (Zg R) X n m/\∀ i k,(X i k).num.natAbs <= Za9 B n/\(X i k).den <= Za9 B n):=by
 obtain ⟨h1,h2⟩:=Zkh R hl hrow hs hBd;obtain ⟨o1,o2,o3,o4,col',pc',G',s',o5,o6,o7,o8,o9⟩:=Zii hB hS n 0 0 R _ _ _ _ false 1 h1 h2 (by omega)
 have hby:((byZ R n:Nat):Rat) ≠ 0:=by
  intro h;have:byZ R n=0:=by exact_mod_cast h
  have:=byZ_pos R n;omega
 have hdG:=o9 (fun b=>b);rw [Zpf (fun a b=>Zg R a b) (fun a=>((denAt R a:Nat):Rat)),<- Zuj] at hdG;have hs1:sgB false=1:=rfl;rw [hs1] at hdG
 have hsq:∀ b,sgB b * sgB b=1:=by intro b;cases b <;> simp [sgB] <;> grind
 refine ⟨o1,o2,o3,o5.rn,fun hr=>?_,fun hr=>?_⟩
 ·have hE:=o5.det n (fun b=>b) (fun a=>a) (fun a ha=>ha) (fun a _=>rfl) (fun a ha=>ha)
  have hcn:col'=n:=by omega
  have h0:Zax n (fun a b=>s' a * Zg (Zbe n 0 0 R false).1 a b)=0:=by
   rw [Zhv]
   ·refine Zp9 (k:=n - 1) (by omega) ?_
    rw [o5.low (n - 1) (n - 1) (by omega) (by omega) (by omega)];grind
   ·intro a b ha hb
    by_cases har:a < (Zbe n 0 0 R false).2.1
    ·have:∀ l,l < (Zbe n 0 0 R false).2.1->l <= pc' l:=by
       intro l
       induction l with
       | zero=>intro _;omega
       | succ l ih=>intro hl;have:=ih (by omega);have:=o5.inc l (l+1) (by omega) hl;omega
     have:=this a har;rw [o5.bef a b har (by omega)];grind
    ·rw [o5.low a b (by omega) ha (by omega)];grind
  rw [hE] at h0;rw [h0] at hdG
  have:((byZ R n:Nat):Rat) * Zax n (Zg R)=0:=by grind
  rcases Rat.mul_eq_zero.1 this with h | h
  ·exact absurd h hby
  ·exact h
 ·rw [hr] at o5 o6
  have hcol:col' <= n:=by omega
  have hdiag:∀ l,l < n->pc' l=l:=fun l hl=>o5.diag hcol hl
  obtain ⟨E,hEe⟩:∃ E,Zg (Zbe n 0 0 R false).1=E:=⟨_,rfl⟩
  have hElow:∀ i j,i < n->j < i->E i j=0:=fun i j hi hj=>by rw [<- hEe];exact o5.bef i j hi (by rw [hdiag i hi];exact hj)
  have hEd:∀ i,i < n->E i i ≠ 0:=fun i hi=>by have:=o5.piv i hi;rw [hdiag i hi] at this;rw [<- hEe];exact this
  have hEout:∀ i j,n <= i->E i j=0:=fun i j hi=>by rw [<- hEe];unfold Zg;rw [List.getElem?_eq_none (l:=(Zbe n 0 0 R false).1) (by rw [o5.len];exact hi)];rfl
  have hEcol:∀ i j,i < n->m <= j->E i j=0:=fun i j hi hj=>by rw [<- hEe];exact Zn0 o5.row hi hj
  have hs0:∀ i,i < n->s' i ≠ 0:=fun i hi=>(o5.sB i hi).2
  -- the determinant
  obtain ⟨D,hD⟩:∃ D,Zax n (fun a b=>G' a b)=D:=⟨_,rfl⟩
  have hDE:Zax n (fun a b=>s' a * E a b)=D:=by
   have:=o5.det n (fun b=>b) (fun a=>a) (fun a ha=>ha) (fun a _=>rfl) (fun a ha=>ha);rw [<- hD,<- this,hEe]
  have hD0:D ≠ 0:=by
   rw [<- hDE,Zhv (fun a b ha hb=>by rw [hElow a b ha hb];grind)];intro h0
   have hp:∀ t,t <= n->Zat t (fun i=>s' i * E i i) ≠ 0:=by
    intro t
    induction t with
    | zero=>intro _ h;simp only [Zat] at h;revert h;decide
    | succ t ih =>
     intro ht h;simp only [Zat] at h
     rcases Rat.mul_eq_zero.1 h with h | h
     ·exact ih (by omega) h
     ·rcases Rat.mul_eq_zero.1 h with h | h
      ·exact hs0 t (by omega) h
      ·exact hEd t (by omega) h
   exact hp n (Nat.le_refl _) h0
  have hDb:BndQ (Za9 B n) D:=by rw [<- hD];exact Zje fun a b ha hb=>o5.gB a b ha
  obtain ⟨X,hX,hXout⟩:=Zkn (n:=n) E n (Nat.le_refl _)
  replace hX:∀ i k,i < n->X i k=upS E X i k n / E i i:=fun i k hi=>hX i k (by omega) hi
  have hES:∀ i k,i < n->Z4 n (fun j=>E i j * X j k)=E i k:=fun i k hi=>Zjm hi (fun j hj=>hElow i j hi hj) (hEd i hi) (hX i k hi)
  have hXD:∀ i k,i < n->BndQ (Za9 B n) (D * X i k):=fun i k hi=>by
   have hc:=cramer (fun a b=>s' a * E a b) (fun j=>X j k) (fun a=>s' a * E a k) (fun a ha=>by
    have:=Zd8 (n:=n) (fun j=>E a j * X j k) (fun _=>0) (s' a) 0;rw [hES a k ha] at this;rw [show s' a * E a k=s' a * E a k+0 * Z4 n (fun _=>0) by grind,<- this]
    exact Zx fun j _=>by grind) hi
   rw [hDE] at hc;rw [hc];have:=o5.det n (fun b=>if b=i then k else b) (fun a=>a) (fun a ha=>ha) (fun a _=>rfl) (fun a ha=>ha);rw [hEe] at this
   rw [<- Za4 (M:=fun a b=>s' a * E a (if b=i then k else b)) (fun a b _ _=>by
    by_cases hb:b=i
    ·rw [if_pos hb,if_pos hb]
    ·rw [if_neg hb,if_neg hb]),this]
   exact Zje fun a b ha hb=>o5.gB a _ ha
  have hXb:∀ i k,(X i k).num.natAbs <= Za9 B n/\(X i k).den <= Za9 B n:=fun i k=>by
   have hb1:1 <= Za9 B n:=Zcx (m:=0) hB (by omega)
   by_cases hi:i < n
   ·exact Zgo (hXD i k hi) hDb hD0
   ·rw [hXout i k (by omega)];exact ⟨Nat.zero_le _,hb1⟩
  have hb1:1 <= Za9 B n:=Zcx (m:=0) hB (by omega);have hbS:Za9 B n <= Za9 B n * S:=Nat.le_mul_of_pos_right _ hS
  obtain ⟨P,hP⟩:∃ P:Nat->Rat,P=fun i=>Zd0 (Zbe n 0 0 R false).1 pc' s' i * s' i:=⟨_,rfl⟩
  have hP0:∀ i,i < n->P i ≠ 0:=fun i hi h0=>by
   rw [hP] at h0
   rcases Rat.mul_eq_zero.1 h0 with h | h
   ·exact o5.piv_ne (l:=i) (by omega) h
   ·exact hs0 i hi h
  have hPb:∀ i,i < n->BndQ (Za9 B n * S) (P i):=fun i hi=>by
   rw [hP];have h5:=o5.pivL_bnd (l:=i) (by omega);have h6:=Zcx hB (show i <= n by omega);exact (h5.mul (o5.sB i hi).1).mono (Nat.mul_le_mul h6 (Nat.le_refl _))
  have hPE:∀ i j,i < n->BndQ (Za9 B n) (P i * E i j):=fun i j hi=>by
   have h5:=o5.minor hi j;rw [show min i n=i by omega,hEe] at h5;rw [hP]
   have:Zd0 (Zbe n 0 0 R false).1 pc' s' i * s' i * E i j=Zd0 (Zbe n 0 0 R false).1 pc' s' i * (s' i * E i j):=by grind
   rw [this];exact h5.mono (Zcx hB (by omega))
  have hup:∀ i k t,i < n->t <= n->BndQ ((n+1) * (Za9 B n * Za9 B n)) (P i * D * upS E X i k t):=fun i k t hi ht=>by
   have e:P i * D * upS E X i k t=P i * E i k * D - Z4 t (fun j=>if i < j then (P i * E i j) * (D * X j k) else 0):=by
    unfold upS;have:=Zd8 (n:=t) (fun j=>if i < j then E i j * X j k else 0) (fun _=>0) (P i * D) 0
    have h5:Z4 t (fun j=>if i < j then (P i * E i j) * (D * X j k) else 0)=P i * D * Z4 t (fun j=>if i < j then E i j * X j k else 0)+0 * Z4 t (fun _=>0):=by
     rw [<- this]
     refine Zx fun j _=>?_
     by_cases hij:i < j
     ·rw [if_pos hij,if_pos hij];grind
     ·rw [if_neg hij,if_neg hij];grind
    rw [h5];grind
   rw [e]
   have hsum:BndQ (t * (Za9 B n * Za9 B n)) (Z4 t (fun j=>if i < j then (P i * E i j) * (D * X j k) else 0)):=Zoz fun j hj=>by
    by_cases hij:i < j
    ·rw [if_pos hij];exact (hPE i j hi).mul (hXD j k (by omega))
    ·rw [if_neg hij];exact BndQ.zero
   refine (((hPE i k hi).mul hDb).sub hsum).mono ?_;rw [Nat.add_mul,Nat.one_mul,Nat.add_comm];exact Nat.add_le_add_right (Nat.mul_le_mul ht (Nat.le_refl _)) _
  have hPD:∀ i,i < n->BndQ (Za9 B n * Za9 B n * S) (P i * D):=fun i hi=>by
   refine ((hPb i hi).mul hDb).mono ?_;rw [Nat.mul_right_comm];exact Nat.le_refl _
  have hupb:∀ i k t,SmN 400 400 (upS E X i k t):=fun i k t=>by
   by_cases hi:i < n
   ·rcases Nat.le_total t n with ht | ht
    ·have:=Zgo (hup i k t hi ht) (hPD i hi) (fun h0=>by
       rcases Rat.mul_eq_zero.1 h0 with h | h
       ·exact hP0 i hi h
       ·exact hD0 h)
     exact ⟨Nat.lt_of_le_of_lt this.1 g1,Nat.lt_of_le_of_lt this.2 g2⟩
    ·rw [Zng (fun j hj=>hXout j k hj) ht]
     have:=Zgo (hup i k n hi (Nat.le_refl _)) (hPD i hi) (fun h0=>by
      rcases Rat.mul_eq_zero.1 h0 with h | h
      ·exact hP0 i hi h
      ·exact hD0 h)
     exact ⟨Nat.lt_of_le_of_lt this.1 g1,Nat.lt_of_le_of_lt this.2 g2⟩
   ·have:upS E X i k t=0:=by
      unfold upS
      rw [hEout i k (by omega),Zgt (fun j _=>by
       by_cases hij:i < j
       ·rw [if_pos hij,hEout i j (by omega)];grind
       ·rw [if_neg hij])]
      grind
    rw [this];exact ⟨Zb2 _,by show 1 < pw 400;exact Nat.lt_of_lt_of_le Ze2 (Zdh (by decide))⟩
  have hXs:∀ i k,SmN 300 300 (X i k):=fun i k=>⟨Nat.lt_of_le_of_lt (hXb i k).1 (Nat.lt_of_le_of_lt hbS g3),Nat.lt_of_le_of_lt (hXb i k).2 (Nat.lt_of_le_of_lt hbS g3)⟩
  have hEs:∀ i j,SmN 300 300 (E i j):=fun i j=>by
   by_cases hi:i < n
   ·have:=Zgo (hPE i j hi) (hPb i hi) (hP0 i hi)
    exact ⟨Nat.lt_of_le_of_lt this.1 (Nat.lt_of_le_of_lt hbS g3),Nat.lt_of_le_of_lt this.2 g3⟩
   ·rw [hEout i j (by omega)];exact ⟨Zb2 _,by show 1 < pw 300;exact Nat.lt_of_lt_of_le Ze2 (Zdh (by decide))⟩
  have hZE:∀ i j,i < n->(Zbc (Zcz n 0 0 (Zbd R) false 1).1 i j:Rat)=P i * E i j:=fun i j hi=>by
   rw [o6.ent i j hi,show min i n=i by omega,hEe,hP];grind
  have hZout:∀ i j,n <= i->(Zbc (Zcz n 0 0 (Zbd R) false 1).1 i j:Rat)=0:=fun i j hi=>by
   unfold Zbc;rw [List.getElem?_eq_none (l:=(Zcz n 0 0 (Zbd R) false 1).1) (by rw [o6.len];exact hi)];rfl
  refine ⟨?_,X,?_,?_,?_,hXb⟩
  ·intro h0
   rw [hD] at hdG;rw [h0] at hdG;have hq:=hsq (Zbe n 0 0 R false).2.2
   apply hD0
   have:sgB (Zbe n 0 0 R false).2.2 * (sgB (Zbe n 0 0 R false).2.2 * D)=0:=by rw [hdG];grind
   grind
  ·rw [hEe]
   exact ⟨hEd,fun i k hi _ _=>hX i k hi,hEs,hXs,hupb⟩
  ·have hsc:∀ i k t,i < n->upS (fun i j=>(Zbc (Zcz n 0 0 (Zbd R) false 1).1 i j:Rat)) X i k t=P i * upS E X i k t:=fun i k t hi=>Zse (E:=E) fun j=>hZE i j hi
   refine ⟨fun i hi=>?_,fun i k hi _ _=>?_,fun i j=>?_,hXs,fun i k t=>?_⟩
   ·show (Zbc (Zcz n 0 0 (Zbd R) false 1).1 i i:Rat) ≠ 0
    rw [hZE i i hi];intro h0
    rcases Rat.mul_eq_zero.1 h0 with h | h
    ·exact hP0 i hi h
    ·exact hEd i hi h
   ·show X i k=upS (fun i j=>(Zbc (Zcz n 0 0 (Zbd R) false 1).1 i j:Rat)) X i k n / (Zbc (Zcz n 0 0 (Zbd R) false 1).1 i i:Rat)
    rw [hsc i k n hi,hZE i i hi,hX i k hi];have a1:=hP0 i hi;have a2:=hEd i hi
    grind
   ·by_cases hi:i < n
    ·obtain ⟨z,hz1,hz2⟩:=hPE i j hi
     show SmN 300 300 (Zbc (Zcz n 0 0 (Zbd R) false 1).1 i j:Rat);rw [hZE i j hi,hz1];exact (SmN.int (i:=300) (Nat.lt_of_le_of_lt hz2 (Nat.lt_of_le_of_lt hbS g3))).mono (by decide) (by decide)
    ·show SmN 300 300 (Zbc (Zcz n 0 0 (Zbd R) false 1).1 i j:Rat)
     rw [hZout i j (by omega)];exact ⟨Zb2 _,by show 1 < pw 300;exact Nat.lt_of_lt_of_le Ze2 (Zdh (by decide))⟩
   ·have key:∀ t,i < n->t <= n->SmN 400 400 (P i * upS E X i k t):=fun t hi ht=>by
      have h5:=hup i k t hi ht
      have e:P i * D * upS E X i k t=D * (P i * upS E X i k t):=by grind
      rw [e] at h5;have:=Zgo h5 hDb hD0;have hbb:Za9 B n <= Za9 B n * Za9 B n * S:=Nat.le_trans (Nat.le_mul_of_pos_right _ hb1) (Nat.le_mul_of_pos_right _ hS);exact ⟨Nat.lt_of_le_of_lt this.1 g1,Nat.lt_of_le_of_lt this.2 (Nat.lt_of_le_of_lt hbb g2)⟩
    by_cases hi:i < n
    ·rw [hsc i k t hi]
     rcases Nat.le_total t n with ht | ht
     ·exact key t hi ht
     ·rw [Zng (fun j hj=>hXout j k hj) ht];exact key n hi (Nat.le_refl _)
    ·have:upS (fun i j=>(Zbc (Zcz n 0 0 (Zbd R) false 1).1 i j:Rat)) X i k t=0:=by
       unfold upS
       have hz:∀ j,(Zbc (Zcz n 0 0 (Zbd R) false 1).1 i j:Rat)=0:=fun j=>hZout i j (by omega)
       simp only [hz]
       rw [Zgt (fun j _=>by
        by_cases hij:i < j
        ·rw [if_pos hij];grind
        ·rw [if_neg hij])]
       grind
     rw [this];exact ⟨Zb2 _,by show 1 < pw 400;exact Nat.lt_of_lt_of_le Ze2 (Zdh (by decide))⟩
  ·intro i k hi hk hkm
   have hv:∀ (F:Nat->Rat),Z4 m (fun j=>F j * (if j < n then X j k else if j=k then -1 else 0))=Z4 n (fun j=>F j * X j k) - F k:=fun F=>by
    have h1:=Zkw (n:=n) (m:=m) (f:=fun j=>F j * (if j < n then X j k else if j=k then -1 else 0)) (k:=k) hk hkm (fun j h1 h2=>by
     show F j * (if j < n then X j k else if j=k then -1 else 0)=0
     rw [if_neg (show ¬ j < n by omega),if_neg h2];grind)
    have h2:Z4 n (fun j=>F j * (if j < n then X j k else if j=k then -1 else 0))=Z4 n (fun j=>F j * X j k):=Zx fun j hj=>by
     show F j * (if j < n then X j k else if j=k then -1 else 0)=F j * X j k;rw [if_pos hj]
    have h3:F k * (if k < n then X k k else if k=k then -1 else 0)=- F k:=by
     rw [if_neg (show ¬ k < n by omega),if_pos rfl];grind
    rw [h1,h2,h3];grind
   have hker:=Zid (n:=n) (m:=m) (fun j=>if j < n then X j k else if j=k then -1 else 0) n 0 0 R false hl hrow (Nat.zero_le _) (fun _ j _ _ hj=>by omega) (fun i hi=>by
    unfold Zky;have h1:=hv (fun j=>E i j);rw [hEe];rw [hES i k hi] at h1
    rw [h1];grind) i hi
   unfold Zky at hker;have h1:=hv (fun j=>Zg R i j);rw [hker] at h1
   grind
end
end Go.Proofs.YtaioanjcjijckaaGreat
