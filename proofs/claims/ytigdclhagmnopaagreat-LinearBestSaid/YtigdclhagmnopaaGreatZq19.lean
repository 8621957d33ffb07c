/- Reference of frac: Reduced, product with any denominator -/
import Derived.Test.YtigdclhagmnopaaGreatZq18
set_option maxRecDepth 100000
set_option maxHeartbeats 1000000
set_option linter.unusedSimpArgs false
set_option linter.unusedVariables false
namespace Go.Proofs.YtigdclhagmnopaaGreat
open Go.RowKit
attribute [local go_sem] Zh
theorem Zop (na:Bool) (A B:Option Addr) (n c m d:Nat) (za zb:Int) (w:World) (ha:Wd w na A n c za) (hb:Wd w true B m d zb) (h0:zb < 0) :
    Calls Tryz.prog 136 #[.agg #[.bool na,.slice A n c],.agg #[.bool true,.slice B m d]] w (Zff w (Rat.divInt za zb)):=by
 have hgs:=Zd1 ha.small hb.small;have hx:=Za (Zjb (a:=za) (b:=zb) (by omega));have hy:=Za (Ziv (a:=za) (b:=zb) (by omega));have hG0:=Za (Zks (a:=za) (b:=zb) (by omega))
 have hGE:Zfr za zb=-((Nat.gcd za.natAbs zb.natAbs:Nat):Int):=by unfold Zfr;rw [if_pos (by omega)]
 rw [hGE] at hx hy hG0;have HA:=Za ha;have HB:=Za hb;obtain ⟨G,hG⟩:∃ G,Nat.gcd za.natAbs zb.natAbs=G:=⟨_,rfl⟩;rw [hG] at hx hy hG0 hgs
 have HGc:Hid (∀ W:World,Wd W na A n c za->Wd W true B m d zb->Calls Tryz.prog 84 #[.agg #[.bool na,.slice A n c],.agg #[.bool true,.slice B m d]] W (ResW W (G:Int))):=fun W h1 h2=>by
  have:=Zor na true A B n c m d za zb W h1 h2;rw [hG] at this;exact this
 generalize Rat.divInt za zb=R at *
 clear ha hb hG hGE
 have hB0:∀ X Y Z:Obj,Below w.heap.size w (((w.alloc X).alloc Y).alloc Z):=fun X Y Z=>(((Below.refl w.heap.size w).alloc (Nat.le_refl _) _).alloc (by simp) _).alloc (by simp;omega) _
 have hB0:=Za hB0;go_enter Tryz.func136,Tryz.ntmps136;go_wp2_with fail;have q0:Blk (((w.alloc (.cells #[.bool na,.slice A n c] 43)).alloc (.cells #[.bool true,.slice B m d] 43)).alloc (.cells #[.bool false,.slice none 0 0,.bool false,.slice none 0 0] 45)) w.heap.size 43 #[.bool na,.slice A n c]:=((Blk.new _ _ _).alloc _).alloc _
 have q1:Blk (((w.alloc (.cells #[.bool na,.slice A n c] 43)).alloc (.cells #[.bool true,.slice B m d] 43)).alloc (.cells #[.bool false,.slice none 0 0,.bool false,.slice none 0 0] 45)) (w.heap.size+1) 43 #[.bool true,.slice B m d]:=by
  have:=(Blk.new (w.alloc (.cells #[.bool na,.slice A n c] 43)) 43 #[.bool true,.slice B m d]).alloc (.cells #[.bool false,.slice none 0 0,.bool false,.slice none 0 0] 45);simp only [World.size_alloc] at this;exact this
 have q2:Blk (((w.alloc (.cells #[.bool na,.slice A n c] 43)).alloc (.cells #[.bool true,.slice B m d] 43)).alloc (.cells #[.bool false,.slice none 0 0,.bool false,.slice none 0 0] 45)) (w.heap.size+1+1) 45 #[.bool false,.slice none 0 0,.bool false,.slice none 0 0]:=by
  have:=Blk.new ((w.alloc (.cells #[.bool na,.slice A n c] 43)).alloc (.cells #[.bool true,.slice B m d] 43)) 45 #[.bool false,.slice none 0 0,.bool false,.slice none 0 0];simp only [World.size_alloc] at this;exact this
 refine (HGc.out _ (((HA.out.alloc _).alloc _).alloc _) (((HB.out.alloc _).alloc _).alloc _)).mono ?_;rintro e w1 ⟨hb1,ng,Ag,kg,cg,code,rfl,hR⟩
 rcases hR with ⟨-,rfl,hgw⟩ | ⟨hbig,-⟩
 case inr=>exact absurd hbig (by omega)
 have hB1:Below w.heap.size w w1:=(hB0.out _ _ _).trans (hb1.mono (by simp;omega));have HA1:=Za (HA.out.below hB1);have HB1:=Za (HB.out.below hB1)
 have s1:w.heap.size+1+1 < w1.heap.size:=by have:=hb1.size;simp at this;omega
 replace q0:=Zc hb1 q0;replace q1:=Zc hb1 q1;replace q2:=Zc hb1 q2;have HG2:=Za hgw;have s2:w.heap.size+1+1 < w1.heap.size:=s1;clear hb1 hgw;obtain ⟨W3,hW3,hB3,q3,kW,kB,s3⟩:=Zr 43 #[.bool ng,.slice Ag kg cg] hB1 (by omega);replace q0:=kB _ _ _ q0;replace q1:=kB _ _ _ q1;replace q2:=kB _ _ _ q2;have HA3:=Za (kW _ _ _ _ _ HA1.out);have HB3:=Za (kW _ _ _ _ _ HB1.out);have HG3:=Za (kW _ _ _ _ _ HG2.out);have s4:w.heap.size+1+1 < w1.heap.size:=s2;clear kW kB HA1 HB1 HG2 hB1;have c0:=Za q0.two;have c1:=Za q1.two;have c3:=Za q3.two;rw [<- hW3] at c0 c1 c3;obtain ⟨c00,c01,-,-⟩:=c0.out;obtain ⟨c10,c11,-,-⟩:=c1.out;obtain ⟨c30,c31,-,-⟩:=c3.out;have hq:=Za (And.intro q0 (And.intro q1 (And.intro q2 q3)));clear q0 q1 q2 q3;replace hW3:=Za hW3;go_wp2_with fail;rw [hW3.out];refine (rNeg_ok ng Ag kg cg (G:Int) _ HG3.out).mono ?_;rintro e wn ⟨hbn,n2,A2,k2,c2,code,rfl,hR⟩
 have hbig:¬ pw 4096 <= (-(G:Int)).natAbs:=by omega
 rcases hR with ⟨-,rfl,hgn⟩ | ⟨hbig',-⟩
 case inr=>exact absurd hbig' hbig
 have hBn:Below w.heap.size w wn:=hB3.trans (hbn.mono (by omega));have HAn:=Za (HA3.out.below hbn);have HBn:=Za (HB3.out.below hbn);replace hgn:=Za hgn
 have sn:w1.heap.size+1 <= wn.heap.size:=by have:=hbn.size;omega
 have q0:=Zc hbn hq.out.1;have q1:=Zc hbn hq.out.2.1;have q2:=Zc hbn hq.out.2.2.1;have q3:=Zc hbn hq.out.2.2.2;clear hbn c0 c1 c3 c00 c01 c10 c11 c30 c31 hW3 HA3 HB3 HG3 hB3 hq;have d3:=Za q3.two;obtain ⟨d30,d31,d32,d33⟩:=d3.out
 have hN1:w.heap.size ≠ w1.heap.size:=by omega
 have hN2:w.heap.size+1 ≠ w1.heap.size:=by omega
 have hN3:w.heap.size+1+1 ≠ w1.heap.size:=by omega
 obtain ⟨V,hV,hBV,q3',kV,-,sV⟩:=Zav n2 A2 k2 c2 hBn (by omega) q3
 replace q0:Blk V w.heap.size 43 #[.bool na,.slice A n c]:=by rw [<- hV];exact (q0.far hN1 _).far hN1 _
 replace q1:Blk V (w.heap.size+1) 43 #[.bool true,.slice B m d]:=by rw [<- hV];exact (q1.far hN2 _).far hN2 _
 replace q2:Blk V (w.heap.size+1+1) 45 #[.bool false,.slice none 0 0,.bool false,.slice none 0 0]:=by rw [<- hV];exact (q2.far hN3 _).far hN3 _
 have HA3:=Za (kV _ _ _ _ _ HAn.out);have HB3:=Za (kV _ _ _ _ _ HBn.out);have HG3:=Za (kV _ _ _ _ _ hgn.out);clear kV HAn HBn hgn hBn;have c0:=Za q0.two;have c1:=Za q1.two;have c3:=Za q3'.two;rw [<- hV] at c0 c1 c3;obtain ⟨c00,c01,-,-⟩:=c0.out;obtain ⟨c10,c11,-,-⟩:=c1.out;obtain ⟨c30,c31,-,-⟩:=c3.out;have hq:=Za (And.intro q0 (And.intro q1 (And.intro q2 q3')));clear q0 q1 q2 q3 q3' d3;replace hV:=Za hV;go_wp2_with fail;rw [hV.out]
 have s3:w1.heap.size+1 <= V.heap.size:=by omega
 refine (Zf6 na n2 A A2 n c k2 c2 za (-(G:Int)) _ HA3.out HG3.out hG0.out).mono ?_;rintro e w4 ⟨hb4,nx,Ax,kx,cx,nr,Ar,kr,cr,rfl,hwx,-⟩;rw [hx.out] at hwx;have hB4:Below w.heap.size w w4:=hBV.trans (hb4.mono (by omega));have HB4:=Za (HB3.out.below hb4);have HG4:=Za (HG3.out.below hb4)
 have s5:w1.heap.size+1 <= w4.heap.size:=by have:=hb4.size;omega
 have q1:=Zc hb4 hq.out.2.1;have q2:=Zc hb4 hq.out.2.2.1;have q3:=Zc hb4 hq.out.2.2.2;clear hb4 c0 c1 c3 c00 c01 c10 c11 c30 c31 d30 d31 d32 d33 hV HA3 HB3 HG3 hBV hq;obtain ⟨W5,hW5,hB5,q5,kW,kB,s6⟩:=Zr 43 #[.bool nx,.slice Ax kx cx] hB4 (by omega);replace q1:=kB _ _ _ q1;replace q2:=kB _ _ _ q2;replace q3:=kB _ _ _ q3;have HB5:=Za (kW _ _ _ _ _ HB4.out);have HG5:=Za (kW _ _ _ _ _ HG4.out);have HX5:=Za (kW _ _ _ _ _ hwx);clear kW kB HB4 HG4 hwx hB4;obtain ⟨W6,hW6,hB6,-,kW,kB,s7⟩:=Zr 43 #[.bool nr,.slice Ar kr cr] hB5 (by omega);replace q1:=kB _ _ _ q1;replace q2:=kB _ _ _ q2;replace q3:=kB _ _ _ q3;replace q5:=kB _ _ _ q5;have HB6:=Za (kW _ _ _ _ _ HB5.out);have HG6:=Za (kW _ _ _ _ _ HG5.out);have HX6:=Za (kW _ _ _ _ _ HX5.out);clear kW kB HB5 HG5 HX5 hB5;have c1:=Za q1.two;have c3:=Za q3.two;rw [<- hW6,<- hW5] at c1 c3;obtain ⟨c10,c11,-,-⟩:=c1.out;obtain ⟨c30,c31,-,-⟩:=c3.out;have hq:=Za (And.intro q2 q5);clear q1 q2 q3 q5;rw [<- hW5] at hW6;replace hW6:=Za hW6;clear hW5;go_wp2_with fail;rw [hW6.out];refine (Zf6 true n2 B A2 m d k2 c2 zb (-(G:Int)) _ HB6.out HG6.out hG0.out).mono ?_;rintro e w7 ⟨hb7,ny,Ay,ky,cy,ns,As,ks,cs,rfl,hwy,-⟩;rw [hy.out] at hwy;have hB7:Below w.heap.size w w7:=hB6.trans (hb7.mono (by omega));have HX7:=Za (HX6.out.below hb7)
 have s8:w4.heap.size+2 <= w7.heap.size:=by have:=hb7.size;omega
 have q2:=Zc hb7 hq.out.1;have q5:=Zc hb7 hq.out.2;clear hb7 c1 c3 c10 c11 c30 c31 hW6 HB6 HG6 HX6 hB6 hq;obtain ⟨W8,hW8,hB8,q8,kW,kB,s9⟩:=Zr 43 #[.bool ny,.slice Ay ky cy] hB7 (by omega);replace q2:=kB _ _ _ q2;replace q5:=kB _ _ _ q5;have HX8:=Za (kW _ _ _ _ _ HX7.out);have HY8:=Za (kW _ _ _ _ _ hwy);clear kW kB HX7 hwy hB7;obtain ⟨W9,hW9,hB9,-,kW,kB,s10⟩:=Zr 43 #[.bool ns,.slice As ks cs] hB8 (by omega);replace q2:=kB _ _ _ q2;replace q5:=kB _ _ _ q5;replace q8:=kB _ _ _ q8;have HX9:=Za (kW _ _ _ _ _ HX8.out);have HY9:=Za (kW _ _ _ _ _ HY8.out);clear kW kB HX8 HY8 hB8;have c5:=Za q5.two;have c8:=Za q8.two;have c2:=Za q2.four;have hq:=Za q2;rw [<- hW9,<- hW8] at c5 c8 c2;rw [<- hW8] at hW9;clear hW8 q2 q5 q8;obtain ⟨c50,c51,-,-⟩:=c5.out;obtain ⟨c80,c81,-,-⟩:=c8.out;obtain ⟨c20,c21,c22,c23,f20,f21,f22,f23⟩:=c2.out;replace hW9:=Za hW9;replace hB9:=Za hB9;go_wp2_with fail;rw [hW9.out];obtain ⟨W,hW,hB,hblk,kW,-⟩:=Z3 nx Ax kx cx ny Ay ky cy hB9.out (by omega) hq.out;rw [hW];obtain ⟨r0,r1,r2,r3,-⟩:=hblk.four;refine bodyPost_ret (v:=.agg #[.bool nx,.slice Ax kx cx,.bool ny,.slice Ay ky cy]) (by simp [results,Tryz.results136,go_sem,r0,r1,r2,r3]) rfl ?_;exact ⟨hB,_,_,_,_,_,_,_,_,rfl,kW _ _ _ _ _ HX9.out,kW _ _ _ _ _ HY9.out⟩
theorem Zo1 (na nb:Bool) (A B:Option Addr) (n c m d:Nat) (za zb:Int) (w:World) (ha:Wd w na A n c za) (hb:Wd w nb B m d zb) (h0:zb ≠ 0) :
    Calls Tryz.prog 136 #[.agg #[.bool na,.slice A n c],.agg #[.bool nb,.slice B m d]] w (Zff w (Rat.divInt za zb)):=by
 have hn:=hb.1
 by_cases hz:zb < 0
 ·rw [decide_eq_true hz] at hn
  subst hn;exact Zop na A B n c m d za zb w ha hb hz
 ·rw [decide_eq_false hz] at hn
  subst hn;exact Zei na A B n c m d za zb w ha hb (by omega)
theorem Zn9 (na nb nc nd:Bool) (A B C D:Option Addr) (n c m d n' c' m' d':Nat) (x y u v:Int) (w:World) (ha:Wd w na A n c x) (hb:Wd w nb B m d y) (hc:Wd w nc C n' c' u) (hd:Wd w nd D m' d' v)
    (hs:(x * y).natAbs < pw 4096) (ht:(u * v).natAbs < pw 4096) (h0:u * v ≠ 0) :
    Calls Tryz.prog 85 #[.agg #[.bool na,.slice A n c],.agg #[.bool nb,.slice B m d],.agg #[.bool nc,.slice C n' c'],.agg #[.bool nd,.slice D m' d']] w (Zef w (Rat.divInt (x * y) (u * v))):=by
 obtain ⟨W0,hW0,hB0,⟨q0,q1,q2,q3,q4⟩,s0⟩:=alloc5 w 43 #[.bool na,.slice A n c] 43 #[.bool nb,.slice B m d] 43 #[.bool nc,.slice C n' c'] 43 #[.bool nd,.slice D m' d'] 45 #[.bool false,.slice none 0 0,.bool false,.slice none 0 0];have hA:=Za (And.intro (ha.below hB0) (hb.below hB0));have hC:=Za (And.intro (hc.below hB0) (hd.below hB0));replace hs:=Za hs;replace ht:=Za ht;replace h0:=Za h0;clear ha hb hc hd;obtain ⟨a0,a1,-⟩:=q0.two;obtain ⟨b0,b1,-⟩:=q1.two;have hq:=Za (And.intro q2 (And.intro q3 q4));clear q0 q1 q2 q3 q4;go_enter Tryz.func85,Tryz.ntmps85;go_wp2_with fail;refine (Zd5 na nb A B n c m d x y W0 hA.out.1 hA.out.2).mono ?_;rintro e w1 ⟨hb1,np,P,k,q,code,rfl,hR⟩;have hP:=Za (hR.small hs.out);have hcode:=hR.code0 hs.out;subst hcode;have hB1:Below w.heap.size w w1:=hB0.trans (hb1.mono hB0.size);have s1:W0.heap.size <= w1.heap.size:=hb1.size;replace hC:=Za (And.intro (hC.out.1.below hb1) (hC.out.2.below hb1));obtain ⟨q2,q3,q4⟩:=hq.out;replace q2:=Zc hb1 q2;replace q3:=Zc hb1 q3;replace q4:=Zc hb1 q4;clear hW0 hb1 a0 a1 b0 b1 hq hR hs hB0 hA;obtain ⟨W2,hW2,hB2,q5,kW,kB,s2⟩:=Zr 43 #[.bool np,.slice P k q] hB1 hB1.size;replace hC:=Za (And.intro (kW _ _ _ _ _ hC.out.1) (kW _ _ _ _ _ hC.out.2));replace hP:=Za (kW _ _ _ _ _ hP.out);replace q2:=kB _ _ _ q2;replace q3:=kB _ _ _ q3;replace q4:=kB _ _ _ q4;clear kW kB hB1;obtain ⟨a0,a1,-⟩:=q2.two;obtain ⟨b0,b1,-⟩:=q3.two;have hq:=Za (And.intro q4 q5);clear q2 q3 q4 q5;go_wp2_with fail
 refine (Zd5 nc nd C D n' c' m' d' u v W2 hC.out.1 hC.out.2).mono ?_;rintro e w3 ⟨hb3,nr,R,k2,r,code,rfl,hR⟩;have hQ:=Za (hR.small ht.out);have hcode:=hR.code0 ht.out;subst hcode;have hB3:Below w.heap.size w w3:=hB2.trans (hb3.mono hB2.size);have s3:W2.heap.size <= w3.heap.size:=hb3.size;obtain ⟨q4,q5⟩:=hq.out;replace q4:=Zc hb3 q4;replace q5:=Zc hb3 q5;replace hP:=Za (hP.out.below hb3);clear hW2 hb3 a0 a1 b0 b1 hq hR ht hB2 hC;obtain ⟨W4,hW4,hB4,q6,kW,kB,s4⟩:=Zr 43 #[.bool nr,.slice R k2 r] hB3 hB3.size;replace hQ:=Za (kW _ _ _ _ _ hQ.out);replace hP:=Za (kW _ _ _ _ _ hP.out);replace q4:=kB _ _ _ q4;replace q5:=kB _ _ _ q5;clear kW kB hB3;obtain ⟨a0,a1,-⟩:=q5.two;obtain ⟨b0,b1,-⟩:=q6.two;have hq:=Za q4;clear q4 q5 q6;go_wp2_with fail;refine (Zo1 np nr P R k q k2 r _ _ W4 hP.out hQ.out h0.out).mono ?_;rintro e w5 ⟨hb5,nx,Ax,kx,cx,ny,Ay,ky,cy,rfl,hF⟩;have hB5:Below w.heap.size w w5:=hB4.trans (hb5.mono hB4.size);have s5:W4.heap.size <= w5.heap.size:=hb5.size;replace hq:=Za (Zc hb5 hq.out);replace hF:=Za hF;clear a0 a1 b0 b1 hW4 hb5 hB4 hP hQ;obtain ⟨c20,c21,c22,c23,f20,f21,f22,f23⟩:=hq.out.four;go_wp2_with fail;obtain ⟨W6,hW6,hB6,q2,kW,-,s6⟩:=Z3 nx Ax kx cx ny Ay ky cy hB5 (by omega) hq.out;rw [hW6];obtain ⟨r0,r1,r2,r3,-⟩:=q2.four;refine bodyPost_ret (v:=.tuple #[.agg #[.bool nx,.slice Ax kx cx,.bool ny,.slice Ay ky cy],.int .i64 0]) (by simp [results,Tryz.results85,go_sem,r0,r1,r2,r3]) rfl ?_;exact ⟨hB6,_,_,_,_,_,_,_,_,rfl,kW _ _ _ _ _ hF.out.1,kW _ _ _ _ _ hF.out.2⟩
theorem Zqf (a b:Rat) (h:b ≠ 0):Rat.divInt (a.num * b.den) ((a.den:Int) * b.num)=a / b:=by
 rw [Rat.divInt_eq_div,Rat.intCast_mul,Rat.intCast_mul,Rat.intCast_natCast,Rat.intCast_natCast]
 have e0:∀ x:Rat,((x.num:Int):Rat)=x * ((x.den:Nat):Rat):=fun x=>by
  have h1:((x.num:Int):Rat) / ((x.den:Nat):Rat)=x:=by have:=Rat.num_divInt_den x;rw [Rat.divInt_eq_div,Rat.intCast_natCast] at this;exact this
  have h2:((x.den:Nat):Rat) ≠ 0:=by intro h;have:x.den=0:=by exact_mod_cast h
                                    have:=x.den_pos;omega
  rw [<- h1];grind
 have d:∀ x:Rat,((x.den:Nat):Rat) ≠ 0:=fun x h=>by
  have:x.den=0:=by exact_mod_cast h
  have:=x.den_pos;omega
 rw [e0 a,e0 b];have da:=d a;have db:=d b
 grind
theorem Zrz (a b:Rat) (h:b ≠ 0):((a.den:Int) * b.num) ≠ 0:=by
 have h1:=a.den_pos
 have h2:b.num ≠ 0:=fun e=>h (Rat.num_eq_zero.1 e)
 exact Int.mul_ne_zero (by omega) h2
theorem Zfb (na nb na' nb':Bool) (A B A' B':Option Addr) (n c m d n' c' m' d':Nat) (a b:Rat) (w:World) (ha:Fr w na A n c nb B m d a) (hb:Fr w na' A' n' c' nb' B' m' d' b) (sa:Sm a) (sb:Sm b) :
    Calls Tryz.prog 37 #[.agg #[.bool na,.slice A n c,.bool nb,.slice B m d],.agg #[.bool na',.slice A' n' c',.bool nb',.slice B' m' d']] w (Zef w (a * b)):=by
 obtain ⟨W0,hW0,hB0,⟨q0,q1,q2⟩,s0⟩:=Zcy w 45 #[.bool na,.slice A n c,.bool nb,.slice B m d] 45 #[.bool na',.slice A' n' c',.bool nb',.slice B' m' d'] 45 #[.bool false,.slice none 0 0,.bool false,.slice none 0 0];have hA:=ha.below hB0;have hD:=hb.below hB0;clear ha hb;have hG:=Zn9 na na' nb nb' A A' B B' n c n' c' m d m' d' a.num b.num a.den b.den W0 hA.1 hD.1 hA.2 hD.2 (Zbg sa.1 sb.1) (Zbg sa.dn sb.dn) (Int.ne_of_gt (Zcs a b));rw [Zol] at hG;replace hG:=Za hG;clear sa sb hA hD;obtain ⟨a0,a1,a2,a3,-⟩:=q0.four;obtain ⟨b0,b1,b2,b3,-⟩:=q1.four;replace q2:=Za q2;clear q0 q1;go_enter Tryz.func37,Tryz.ntmps37;go_wp2_with fail;refine hG.out.mono ?_;clear hG;rintro e w2 ⟨hb2,nx,Ax,kx,cx,ny,Ay,ky,cy,rfl,hF⟩;have hB2:Below w.heap.size w w2:=hB0.trans (hb2.mono hB0.size);have s2:W0.heap.size <= w2.heap.size:=hb2.size;replace q2:=Za (Zc hb2 q2.out);replace hF:=Za hF;clear a0 a1 a2 a3 b0 b1 b2 b3 hb2;obtain ⟨c20,c21,c22,c23,f20,f21,f22,f23⟩:=q2.out.four;go_wp2_with fail;obtain ⟨W7,hW7,hB7,q3,kW,-,s7⟩:=Z3 nx Ax kx cx ny Ay ky cy hB2 (by omega) q2.out;rw [hW7];obtain ⟨r0,r1,r2,r3,-⟩:=q3.four;refine bodyPost_ret (v:=.tuple #[.agg #[.bool nx,.slice Ax kx cx,.bool ny,.slice Ay ky cy],.int .i64 0]) (by simp [results,Tryz.results37,go_sem,r0,r1,r2,r3]) rfl ?_;exact ⟨hB7,_,_,_,_,_,_,_,_,rfl,kW _ _ _ _ _ hF.out.1,kW _ _ _ _ _ hF.out.2⟩
theorem Zul (na nb na' nb':Bool) (A B A' B':Option Addr) (n c m d n' c' m' d':Nat) (a b:Rat) (w:World) (ha:Fr w na A n c nb B m d a) (hb:Fr w na' A' n' c' nb' B' m' d' b) (sa:Sm a) (sb:Sm b) :
    Calls Tryz.prog 72 #[.agg #[.bool na,.slice A n c,.bool nb,.slice B m d],.agg #[.bool na',.slice A' n' c',.bool nb',.slice B' m' d']] w (Zef w (a - b)):=by
 obtain ⟨W0,hW0,hB0,⟨q0,q1,q2⟩,s0⟩:=Zcy w 45 #[.bool na,.slice A n c,.bool nb,.slice B m d] 45 #[.bool na',.slice A' n' c',.bool nb',.slice B' m' d'] 45 #[.bool false,.slice none 0 0,.bool false,.slice none 0 0];have hA:=ha.below hB0;have hD:=hb.below hB0;clear ha hb;have hG:=Zsr na nb na' nb' A B A' B' n c m d n' c' m' d' a b W0 hA hD sa sb;replace hG:=Za hG;clear sa sb hA hD;obtain ⟨a0,a1,a2,a3,-⟩:=q0.four;obtain ⟨b0,b1,b2,b3,-⟩:=q1.four;replace q2:=Za q2;clear q0 q1;go_enter Tryz.func72,Tryz.ntmps72;go_wp2_with fail;refine hG.out.mono ?_;clear hG;rintro e w2 ⟨hb2,nx,Ax,kx,cx,ny,Ay,ky,cy,rfl,hF⟩;have hB2:Below w.heap.size w w2:=hB0.trans (hb2.mono hB0.size);have s2:W0.heap.size <= w2.heap.size:=hb2.size;replace q2:=Za (Zc hb2 q2.out);replace hF:=Za hF;clear a0 a1 a2 a3 b0 b1 b2 b3 hb2;obtain ⟨c20,c21,c22,c23,f20,f21,f22,f23⟩:=q2.out.four;go_wp2_with fail;obtain ⟨W7,hW7,hB7,q3,kW,-,s7⟩:=Z3 nx Ax kx cx ny Ay ky cy hB2 (by omega) q2.out;rw [hW7];obtain ⟨r0,r1,r2,r3,-⟩:=q3.four;refine bodyPost_ret (v:=.tuple #[.agg #[.bool nx,.slice Ax kx cx,.bool ny,.slice Ay ky cy],.int .i64 0]) (by simp [results,Tryz.results72,go_sem,r0,r1,r2,r3]) rfl ?_;exact ⟨hB7,_,_,_,_,_,_,_,_,rfl,kW _ _ _ _ _ hF.out.1,kW _ _ _ _ _ hF.out.2⟩
theorem Zk3 (na nb na' nb':Bool) (A B A' B':Option Addr) (n c m d n' c' m' d':Nat) (a b:Rat) (w:World) (ha:Fr w na A n c nb B m d a) (hb:Fr w na' A' n' c' nb' B' m' d' b) (sa:Sm a) (sb:Sm b) :
    Calls Tryz.prog 41 #[.agg #[.bool na,.slice A n c,.bool nb,.slice B m d],.agg #[.bool na',.slice A' n' c',.bool nb',.slice B' m' d']] w (Zef w (a+b)):=by
 obtain ⟨W0,hW0,hB0,⟨q0,q1,q2⟩,s0⟩:=Zcy w 45 #[.bool na,.slice A n c,.bool nb,.slice B m d] 45 #[.bool na',.slice A' n' c',.bool nb',.slice B' m' d'] 45 #[.bool false,.slice none 0 0,.bool false,.slice none 0 0];have hA:=ha.below hB0;have hD:=hb.below hB0;clear ha hb;have hG:=Zr6 na nb na' nb' A B A' B' n c m d n' c' m' d' a b W0 hA hD sa sb;replace hG:=Za hG;clear sa sb hA hD;obtain ⟨a0,a1,a2,a3,-⟩:=q0.four;obtain ⟨b0,b1,b2,b3,-⟩:=q1.four;replace q2:=Za q2;clear q0 q1;go_enter Tryz.func41,Tryz.ntmps41;go_wp2_with fail;refine hG.out.mono ?_;clear hG;rintro e w2 ⟨hb2,nx,Ax,kx,cx,ny,Ay,ky,cy,rfl,hF⟩;have hB2:Below w.heap.size w w2:=hB0.trans (hb2.mono hB0.size);have s2:W0.heap.size <= w2.heap.size:=hb2.size;replace q2:=Za (Zc hb2 q2.out);replace hF:=Za hF;clear a0 a1 a2 a3 b0 b1 b2 b3 hb2;obtain ⟨c20,c21,c22,c23,f20,f21,f22,f23⟩:=q2.out.four;go_wp2_with fail;obtain ⟨W7,hW7,hB7,q3,kW,-,s7⟩:=Z3 nx Ax kx cx ny Ay ky cy hB2 (by omega) q2.out;rw [hW7];obtain ⟨r0,r1,r2,r3,-⟩:=q3.four;refine bodyPost_ret (v:=.tuple #[.agg #[.bool nx,.slice Ax kx cx,.bool ny,.slice Ay ky cy],.int .i64 0]) (by simp [results,Tryz.results41,go_sem,r0,r1,r2,r3]) rfl ?_;exact ⟨hB7,_,_,_,_,_,_,_,_,rfl,kW _ _ _ _ _ hF.out.1,kW _ _ _ _ _ hF.out.2⟩
theorem num_le (a b:Int) (h:b ≠ 0):(Rat.divInt a b).num.natAbs <= a.natAbs:=by
 rw [Rat.num_divInt];rw [Int.natAbs_ediv_of_dvd]
 ·refine Nat.le_trans (Nat.div_le_self _ _) ?_
  rw [Int.natAbs_mul]
  rcases Int.lt_or_gt_of_ne h with g | g
  ·rw [Int.sign_eq_neg_one_of_neg g];simp
  ·rw [Int.sign_eq_one_of_pos g];simp
 ·exact Int.dvd_trans (Int.gcd_dvd_right _ _) (Int.dvd_mul_left _ _)
theorem den_le (a b:Int) (h:b ≠ 0):(Rat.divInt a b).den <= b.natAbs:=by
 rw [Rat.den_divInt,if_neg h];exact Nat.div_le_self _ _
theorem Zem:1 < pw 1:=by rw [Zbh,Zdo];decide
def SmN (i j:Nat) (r:Rat):Prop:=r.num.natAbs < pw i/\r.den < pw j
theorem SmN.sm {i j:Nat} {r:Rat} (h:SmN i j r) (hi:i <= 1000) (hj:j <= 1000):Sm r:=⟨Nat.lt_of_lt_of_le h.1 (Zbk hi),Nat.lt_of_lt_of_le h.2 (Zbk hj)⟩
theorem SmN.mono {i j i' j':Nat} {r:Rat} (h:SmN i j r) (hi:i <= i') (hj:j <= j'):SmN i' j' r:=⟨Nat.lt_of_lt_of_le h.1 (Zbk hi),Nat.lt_of_lt_of_le h.2 (Zbk hj)⟩
theorem SmN.int {i:Nat} {n:Int} (hn:n.natAbs < pw i):SmN i 1 (n:Rat):=⟨by simpa using hn,by simp only [Rat.den_intCast];exact Zem⟩
structure RF where
 g:Nat
 c:Nat
 q:List Rat
def RF.rs (r:RF):RS:=⟨some ⟨r.g,0,none⟩,r.q.length,r.c⟩
def MatB (tS tF:TypeId) (w:World) (go:Nat) (L:List RF):Prop:=
 (∃ zs,Blk w go tS (Z7 (L.map RF.rs ++ zs)))/\(∀ r ∈ L,FOwn tF w r.g r.q/\r.q.length <= r.c/\r.c <= maxLen)/\(go :: L.map RF.g).Nodup
section
variable {tS tF:TypeId} {w w':World} {go:Nat} {L:List RF}
theorem MatB.below (h:MatB tS tF w go L) (hb:Below w.heap.size w w'):MatB tS tF w' go L:=by
 obtain ⟨⟨zs,h1⟩,h2,h3⟩:=h;exact ⟨⟨zs,Zc hb h1⟩,fun r hr=>⟨(h2 r hr).1.below hb,(h2 r hr).2⟩,h3⟩
theorem MatB.cell (h:MatB tS tF w go L) {i:Nat} {r:RF} (hr:L[i]?=some r):w.cell? ⟨go,i,none⟩=some (.slice (some ⟨r.g,0,none⟩) r.q.length r.c)/\w.frozen? ⟨go,i,none⟩=false:=by
 obtain ⟨⟨zs,h1⟩,-,-⟩:=h;refine ⟨?_,h1.frozen i⟩;rw [h1.cell];refine Zbw (e:=r.rs) ?_;have hi:=(List.getElem?_eq_some_iff.1 hr).1;rw [List.getElem?_append_left (by simpa using hi),List.getElem?_map,hr];rfl
theorem MatB.row (h:MatB tS tF w go L) {i:Nat} {r:RF} (hr:L[i]?=some r):FOwn tF w r.g r.q/\r.q.length <= r.c/\r.c <= maxLen:=h.2.1 r (List.mem_of_getElem? hr)
theorem Zwb {α:Type} {l:List α} {i j:Nat} {x y:α} (hx:l[i]?=some x) (hy:l[j]?=some y):Zai l i j=(l.set i y).set j x:=by unfold Zai;rw [hx,hy]
theorem Zj5 {α β:Type} (f:α->β) (l:List α) (i j:Nat):(Zai l i j).map f=Zai (l.map f) i j:=by
 unfold Zai;rw [List.getElem?_map,List.getElem?_map]
 cases l[i]? with
 | none=>rfl
 | some x=>cases l[j]? with
  | none=>rfl
  | some y=>simp [List.map_set]
theorem Zia {α:Type} (l:List α) (i j:Nat):∀ x,x ∈ Zai l i j->x ∈ l:=by
 intro x hx;unfold Zai at hx
 split at hx
 ·rename_i a b ha hb
  rcases List.mem_or_eq_of_mem_set hx with hx | rfl
  ·rcases List.mem_or_eq_of_mem_set hx with hx | rfl
   ·exact hx
   ·exact List.mem_of_getElem? hb
  ·exact List.mem_of_getElem? ha
 ·exact hx
theorem Zq4 {l:List Nat} (h:l.Nodup) {i j:Nat} (hi:i < l.length) (hj:j < l.length):(Zai l i j).Nodup:=by
 unfold List.Nodup;rw [List.pairwise_iff_getElem];intro a b ha hb hab e;rw [Zdz] at ha hb
 have h1:(Zai l i j)[a]?=(Zai l i j)[b]?:=by rw [List.getElem?_eq_getElem (by rw [Zdz];exact ha),List.getElem?_eq_getElem (by rw [Zdz];exact hb),e]
 rw [Zdg hi hj,Zdg hi hj] at h1;have ha':swI i j a < l.length:=Zg8 hi hj ha;have:=(List.getElem?_inj ha' h).1 h1
 have h2:swI i j (swI i j a)=swI i j (swI i j b):=by rw [this]
 rw [Zox,Zox] at h2;omega
end
section
variable {a b:Rat} {i j k l:Nat}
theorem SmN.mulN (h:SmN i j a) (g:SmN k l b):SmN (i+k) (j+l) (a * b):=by
 rw [<- Zol a b];have hd:((a.den:Int) * (b.den:Nat)) ≠ 0:=Int.ne_of_gt (Zcs a b);refine ⟨Nat.lt_of_le_of_lt (num_le _ _ hd) ?_,Nat.lt_of_le_of_lt (den_le _ _ hd) ?_⟩
 ·rw [Int.natAbs_mul];exact Zhj h.1 g.1
 ·rw [Int.natAbs_mul,Int.natAbs_natCast,Int.natAbs_natCast];exact Zhj h.2 g.2
end
end Go.Proofs.YtigdclhagmnopaaGreat
