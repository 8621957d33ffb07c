/- Reference of frac: Reduced. Package frac: reduce. Package -/
import Derived.Defers
import Derived.Recover
import Derived.Test.YtigdclhagmnopaaGreatZq11
set_option maxRecDepth 100000
set_option maxHeartbeats 1000000
set_option linter.unusedSimpArgs false
set_option linter.unusedVariables false
namespace Go.Proofs.YtigdclhagmnopaaGreat
open Go.RowKit
attribute [local go_sem] Zh
theorem Zei (na:Bool) (A B:Option Addr) (n c m d:Nat) (za zb:Int) (w:World) (ha:Wd w na A n c za) (hb:Wd w false B m d zb) (h0:0 < zb) :
    Calls Tryz.prog 136 #[.agg #[.bool na,.slice A n c],.agg #[.bool false,.slice B m d]] w (Zff w (Rat.divInt za zb)):=by
 have hgs:=Zd1 ha.small hb.small;have hx:=Za (Zjb (a:=za) (b:=zb) (by omega));have hy:=Za (Ziv (a:=za) (b:=zb) (by omega));have hG0:=Za (Zks (a:=za) (b:=zb) (by omega))
 have hGE:Zfr za zb=(Nat.gcd za.natAbs zb.natAbs:Nat):=by unfold Zfr;rw [if_neg (by omega)]
 rw [hGE] at hx hy hG0;have HA:=Za ha;have HB:=Za hb;obtain ⟨G,hG⟩:∃ G,Nat.gcd za.natAbs zb.natAbs=G:=⟨_,rfl⟩;rw [hG] at hx hy hG0 hgs
 have HGc:Hid (∀ W:World,Wd W na A n c za->Wd W false B m d zb->Calls Tryz.prog 84 #[.agg #[.bool na,.slice A n c],.agg #[.bool false,.slice B m d]] W (ResW W (G:Int))):=fun W h1 h2=>by
  have:=Zor na false A B n c m d za zb W h1 h2;rw [hG] at this;exact this
 generalize Rat.divInt za zb=R at *
 clear ha hb hG hGE
 have hB0:∀ X Y Z:Obj,Below w.heap.size w (((w.alloc X).alloc Y).alloc Z):=fun X Y Z=>(((Below.refl w.heap.size w).alloc (Nat.le_refl _) _).alloc (by simp) _).alloc (by simp;omega) _
 have hB0:=Za hB0;go_enter Tryz.func136,Tryz.ntmps136;go_wp2_with fail;have q0:Blk (((w.alloc (.cells #[.bool na,.slice A n c] 43)).alloc (.cells #[.bool false,.slice B m d] 43)).alloc (.cells #[.bool false,.slice none 0 0,.bool false,.slice none 0 0] 45)) w.heap.size 43 #[.bool na,.slice A n c]:=((Blk.new _ _ _).alloc _).alloc _
 have q1:Blk (((w.alloc (.cells #[.bool na,.slice A n c] 43)).alloc (.cells #[.bool false,.slice B m d] 43)).alloc (.cells #[.bool false,.slice none 0 0,.bool false,.slice none 0 0] 45)) (w.heap.size+1) 43 #[.bool false,.slice B m d]:=by
  have:=(Blk.new (w.alloc (.cells #[.bool na,.slice A n c] 43)) 43 #[.bool false,.slice B m d]).alloc (.cells #[.bool false,.slice none 0 0,.bool false,.slice none 0 0] 45);simp only [World.size_alloc] at this;exact this
 have q2:Blk (((w.alloc (.cells #[.bool na,.slice A n c] 43)).alloc (.cells #[.bool false,.slice B m d] 43)).alloc (.cells #[.bool false,.slice none 0 0,.bool false,.slice none 0 0] 45)) (w.heap.size+1+1) 45 #[.bool false,.slice none 0 0,.bool false,.slice none 0 0]:=by
  have:=Blk.new ((w.alloc (.cells #[.bool na,.slice A n c] 43)).alloc (.cells #[.bool false,.slice B m d] 43)) 45 #[.bool false,.slice none 0 0,.bool false,.slice none 0 0];simp only [World.size_alloc] at this;exact this
 refine (HGc.out _ (((HA.out.alloc _).alloc _).alloc _) (((HB.out.alloc _).alloc _).alloc _)).mono ?_;rintro e w1 ⟨hb1,ng,Ag,kg,cg,code,rfl,hR⟩
 rcases hR with ⟨-,rfl,hgw⟩ | ⟨hbig,-⟩
 case inr=>exact absurd hbig (by omega)
 have hB1:Below w.heap.size w w1:=(hB0.out _ _ _).trans (hb1.mono (by simp;omega));have HA1:=Za (HA.out.below hB1);have HB1:=Za (HB.out.below hB1)
 have s1:w.heap.size+1+1 < w1.heap.size:=by have:=hb1.size;simp at this;omega
 replace q0:=Zc hb1 q0;replace q1:=Zc hb1 q1;replace q2:=Zc hb1 q2;have HG2:=Za hgw;have s2:w.heap.size+1+1 < w1.heap.size:=s1;clear hb1 hgw;obtain ⟨W3,hW3,hB3,q3,kW,kB,s3⟩:=Zr 43 #[.bool ng,.slice Ag kg cg] hB1 (by omega);replace q0:=kB _ _ _ q0;replace q1:=kB _ _ _ q1;replace q2:=kB _ _ _ q2;have HA3:=Za (kW _ _ _ _ _ HA1.out);have HB3:=Za (kW _ _ _ _ _ HB1.out);have HG3:=Za (kW _ _ _ _ _ HG2.out);have s4:w.heap.size+1+1 < w1.heap.size:=s2;clear kW kB HA1 HB1 HG2 hB1;have c0:=Za q0.two;have c1:=Za q1.two;have c3:=Za q3.two;rw [<- hW3] at c0 c1 c3;obtain ⟨c00,c01,-,-⟩:=c0.out;obtain ⟨c10,c11,-,-⟩:=c1.out;obtain ⟨c30,c31,-,-⟩:=c3.out;have hq:=Za (And.intro q0 (And.intro q1 (And.intro q2 q3)));clear q0 q1 q2 q3;replace hW3:=Za hW3;go_wp2_with fail;rw [hW3.out];refine (Zf6 na ng A Ag n c kg cg za G _ HA3.out HG3.out hG0.out).mono ?_;rintro e w4 ⟨hb4,nx,Ax,kx,cx,nr,Ar,kr,cr,rfl,hwx,-⟩;rw [hx.out] at hwx;have hB4:Below w.heap.size w w4:=hB3.trans (hb4.mono (by omega));have HB4:=Za (HB3.out.below hb4);have HG4:=Za (HG3.out.below hb4)
 have s5:w1.heap.size+1 <= w4.heap.size:=by have:=hb4.size;omega
 have q1:=Zc hb4 hq.out.2.1;have q2:=Zc hb4 hq.out.2.2.1;have q3:=Zc hb4 hq.out.2.2.2;clear hb4 c0 c1 c3 c00 c01 c10 c11 c30 c31 hW3 HA3 HB3 HG3 hB3 hq;obtain ⟨W5,hW5,hB5,q5,kW,kB,s6⟩:=Zr 43 #[.bool nx,.slice Ax kx cx] hB4 (by omega);replace q1:=kB _ _ _ q1;replace q2:=kB _ _ _ q2;replace q3:=kB _ _ _ q3;have HB5:=Za (kW _ _ _ _ _ HB4.out);have HG5:=Za (kW _ _ _ _ _ HG4.out);have HX5:=Za (kW _ _ _ _ _ hwx);clear kW kB HB4 HG4 hwx hB4;obtain ⟨W6,hW6,hB6,-,kW,kB,s7⟩:=Zr 43 #[.bool nr,.slice Ar kr cr] hB5 (by omega);replace q1:=kB _ _ _ q1;replace q2:=kB _ _ _ q2;replace q3:=kB _ _ _ q3;replace q5:=kB _ _ _ q5;have HB6:=Za (kW _ _ _ _ _ HB5.out);have HG6:=Za (kW _ _ _ _ _ HG5.out);have HX6:=Za (kW _ _ _ _ _ HX5.out);clear kW kB HB5 HG5 HX5 hB5;have c1:=Za q1.two;have c3:=Za q3.two;rw [<- hW6,<- hW5] at c1 c3;obtain ⟨c10,c11,-,-⟩:=c1.out;obtain ⟨c30,c31,-,-⟩:=c3.out;have hq:=Za (And.intro q2 q5);clear q1 q2 q3 q5;rw [<- hW5] at hW6;replace hW6:=Za hW6;clear hW5;go_wp2_with fail;rw [hW6.out];refine (Zf6 false ng B Ag m d kg cg zb G _ HB6.out HG6.out hG0.out).mono ?_;rintro e w7 ⟨hb7,ny,Ay,ky,cy,ns,As,ks,cs,rfl,hwy,-⟩;rw [hy.out] at hwy;have hB7:Below w.heap.size w w7:=hB6.trans (hb7.mono (by omega));have HX7:=Za (HX6.out.below hb7)
 have s8:w4.heap.size+2 <= w7.heap.size:=by have:=hb7.size;omega
 have q2:=Zc hb7 hq.out.1;have q5:=Zc hb7 hq.out.2;clear hb7 c1 c3 c10 c11 c30 c31 hW6 HB6 HG6 HX6 hB6 hq;obtain ⟨W8,hW8,hB8,q8,kW,kB,s9⟩:=Zr 43 #[.bool ny,.slice Ay ky cy] hB7 (by omega);replace q2:=kB _ _ _ q2;replace q5:=kB _ _ _ q5;have HX8:=Za (kW _ _ _ _ _ HX7.out);have HY8:=Za (kW _ _ _ _ _ hwy);clear kW kB HX7 hwy hB7;obtain ⟨W9,hW9,hB9,-,kW,kB,s10⟩:=Zr 43 #[.bool ns,.slice As ks cs] hB8 (by omega);replace q2:=kB _ _ _ q2;replace q5:=kB _ _ _ q5;replace q8:=kB _ _ _ q8;have HX9:=Za (kW _ _ _ _ _ HX8.out);have HY9:=Za (kW _ _ _ _ _ HY8.out);clear kW kB HX8 HY8 hB8;have c5:=Za q5.two;have c8:=Za q8.two;have c2:=Za q2.four;have hq:=Za q2;rw [<- hW9,<- hW8] at c5 c8 c2;rw [<- hW8] at hW9;clear hW8 q2 q5 q8;obtain ⟨c50,c51,-,-⟩:=c5.out;obtain ⟨c80,c81,-,-⟩:=c8.out;obtain ⟨c20,c21,c22,c23,f20,f21,f22,f23⟩:=c2.out;replace hW9:=Za hW9;replace hB9:=Za hB9;go_wp2_with fail;rw [hW9.out];obtain ⟨W,hW,hB,hblk,kW,-⟩:=Z3 nx Ax kx cx ny Ay ky cy hB9.out (by omega) hq.out;rw [hW];obtain ⟨r0,r1,r2,r3,-⟩:=hblk.four;refine bodyPost_ret (v:=.agg #[.bool nx,.slice Ax kx cx,.bool ny,.slice Ay ky cy]) (by simp [results,Tryz.results136,go_sem,r0,r1,r2,r3]) rfl ?_;exact ⟨hB,_,_,_,_,_,_,_,_,rfl,kW _ _ _ _ _ HX9.out,kW _ _ _ _ _ HY9.out⟩
theorem Zic (na:Bool) (A B:Option Addr) (n c m d:Nat) (za zb:Int) (w:World) (ha:Wd w na A n c za) (hb:Wd w false B m d zb) (h0:0 < zb) :
    Calls Tryz.prog 151 #[.agg #[.bool na,.slice A n c],.agg #[.bool false,.slice B m d]] w (Zff w (Rat.divInt za zb)):=by
 have hgs:=Zd1 ha.small hb.small;have hx:=Za (Zjb (a:=za) (b:=zb) (by omega));have hy:=Za (Ziv (a:=za) (b:=zb) (by omega));have hG0:=Za (Zks (a:=za) (b:=zb) (by omega))
 have hGE:Zfr za zb=(Nat.gcd za.natAbs zb.natAbs:Nat):=by unfold Zfr;rw [if_neg (by omega)]
 rw [hGE] at hx hy hG0;have HA:=Za ha;have HB:=Za hb;obtain ⟨G,hG⟩:∃ G,Nat.gcd za.natAbs zb.natAbs=G:=⟨_,rfl⟩;rw [hG] at hx hy hG0 hgs
 have HGc:Hid (∀ W:World,Wd W na A n c za->Wd W false B m d zb->Calls Tryz.prog 96 #[.agg #[.bool na,.slice A n c],.agg #[.bool false,.slice B m d]] W (ResW W (G:Int))):=fun W h1 h2=>by
  have:=Zjv na false A B n c m d za zb W h1 h2;rw [hG] at this;exact this
 generalize Rat.divInt za zb=R at *
 clear ha hb hG hGE
 have hB0:∀ X Y Z:Obj,Below w.heap.size w (((w.alloc X).alloc Y).alloc Z):=fun X Y Z=>(((Below.refl w.heap.size w).alloc (Nat.le_refl _) _).alloc (by simp) _).alloc (by simp;omega) _
 have hB0:=Za hB0;go_enter Tryz.func151,Tryz.ntmps151;go_wp2_with fail;have q0:Blk (((w.alloc (.cells #[.bool na,.slice A n c] 43)).alloc (.cells #[.bool false,.slice B m d] 43)).alloc (.cells #[.bool false,.slice none 0 0,.bool false,.slice none 0 0] 45)) w.heap.size 43 #[.bool na,.slice A n c]:=((Blk.new _ _ _).alloc _).alloc _
 have q1:Blk (((w.alloc (.cells #[.bool na,.slice A n c] 43)).alloc (.cells #[.bool false,.slice B m d] 43)).alloc (.cells #[.bool false,.slice none 0 0,.bool false,.slice none 0 0] 45)) (w.heap.size+1) 43 #[.bool false,.slice B m d]:=by
  have:=(Blk.new (w.alloc (.cells #[.bool na,.slice A n c] 43)) 43 #[.bool false,.slice B m d]).alloc (.cells #[.bool false,.slice none 0 0,.bool false,.slice none 0 0] 45);simp only [World.size_alloc] at this;exact this
 have q2:Blk (((w.alloc (.cells #[.bool na,.slice A n c] 43)).alloc (.cells #[.bool false,.slice B m d] 43)).alloc (.cells #[.bool false,.slice none 0 0,.bool false,.slice none 0 0] 45)) (w.heap.size+1+1) 45 #[.bool false,.slice none 0 0,.bool false,.slice none 0 0]:=by
  have:=Blk.new ((w.alloc (.cells #[.bool na,.slice A n c] 43)).alloc (.cells #[.bool false,.slice B m d] 43)) 45 #[.bool false,.slice none 0 0,.bool false,.slice none 0 0];simp only [World.size_alloc] at this;exact this
 refine (HGc.out _ (((HA.out.alloc _).alloc _).alloc _) (((HB.out.alloc _).alloc _).alloc _)).mono ?_;rintro e w1 ⟨hb1,ng,Ag,kg,cg,code,rfl,hR⟩
 rcases hR with ⟨-,rfl,hgw⟩ | ⟨hbig,-⟩
 case inr=>exact absurd hbig (by omega)
 have hB1:Below w.heap.size w w1:=(hB0.out _ _ _).trans (hb1.mono (by simp;omega));have HA1:=Za (HA.out.below hB1);have HB1:=Za (HB.out.below hB1)
 have s1:w.heap.size+1+1 < w1.heap.size:=by have:=hb1.size;simp at this;omega
 replace q0:=Zc hb1 q0;replace q1:=Zc hb1 q1;replace q2:=Zc hb1 q2;obtain ⟨c00,c01,-,-⟩:=q0.two;obtain ⟨c10,c11,-,-⟩:=q1.two;have hq:=Za (And.intro q0 (And.intro q1 q2));clear q0 q1 q2 hb1;go_wp2_with fail;refine (Zdn ng Ag kg cg _).mono ?_;rintro e w2 ⟨rfl,hb2⟩;have hB2:Below w.heap.size w w2:=hB1.trans (hb2.mono hB1.size);have HA2:=Za (HA1.out.below hb2);have HB2:=Za (HB1.out.below hb2);have HG2:=Za (hgw.below hb2)
 have s2:w.heap.size+1+1 < w2.heap.size:=by have:=hb2.size;omega
 have q0:=Zc hb2 hq.out.1;have q1:=Zc hb2 hq.out.2.1;have q2:=Zc hb2 hq.out.2.2;clear c00 c01 c10 c11 hB1 hb2 hgw HA1 HB1 hq;obtain ⟨W3,hW3,hB3,q3,kW,kB,s3⟩:=Zr 43 #[.bool ng,.slice Ag kg cg] hB2 (by omega);replace q0:=kB _ _ _ q0;replace q1:=kB _ _ _ q1;replace q2:=kB _ _ _ q2;have HA3:=Za (kW _ _ _ _ _ HA2.out);have HB3:=Za (kW _ _ _ _ _ HB2.out);have HG3:=Za (kW _ _ _ _ _ HG2.out);have s4:w.heap.size+1+1 < w2.heap.size:=s2;clear kW kB HA2 HB2 HG2 hB2;have c0:=Za q0.two;have c1:=Za q1.two;have c3:=Za q3.two;rw [<- hW3] at c0 c1 c3;obtain ⟨c00,c01,-,-⟩:=c0.out;obtain ⟨c10,c11,-,-⟩:=c1.out;obtain ⟨c30,c31,-,-⟩:=c3.out;have hq:=Za (And.intro q0 (And.intro q1 (And.intro q2 q3)));clear q0 q1 q2 q3;replace hW3:=Za hW3;go_wp2_with fail;rw [hW3.out];refine (Zfm na ng A Ag n c kg cg za G _ HA3.out HG3.out hG0.out).mono ?_;rintro e w4 ⟨hb4,nx,Ax,kx,cx,nr,Ar,kr,cr,rfl,hwx,-⟩;rw [hx.out] at hwx;have hB4:Below w.heap.size w w4:=hB3.trans (hb4.mono (by omega));have HB4:=Za (HB3.out.below hb4);have HG4:=Za (HG3.out.below hb4)
 have s5:w2.heap.size+1 <= w4.heap.size:=by have:=hb4.size;omega
 have q1:=Zc hb4 hq.out.2.1;have q2:=Zc hb4 hq.out.2.2.1;have q3:=Zc hb4 hq.out.2.2.2;clear hb4 c0 c1 c3 c00 c01 c10 c11 c30 c31 hW3 HA3 HB3 HG3 hB3 hq;obtain ⟨W5,hW5,hB5,q5,kW,kB,s6⟩:=Zr 43 #[.bool nx,.slice Ax kx cx] hB4 (by omega);replace q1:=kB _ _ _ q1;replace q2:=kB _ _ _ q2;replace q3:=kB _ _ _ q3;have HB5:=Za (kW _ _ _ _ _ HB4.out);have HG5:=Za (kW _ _ _ _ _ HG4.out);have HX5:=Za (kW _ _ _ _ _ hwx);clear kW kB HB4 HG4 hwx hB4;obtain ⟨W6,hW6,hB6,-,kW,kB,s7⟩:=Zr 43 #[.bool nr,.slice Ar kr cr] hB5 (by omega);replace q1:=kB _ _ _ q1;replace q2:=kB _ _ _ q2;replace q3:=kB _ _ _ q3;replace q5:=kB _ _ _ q5;have HB6:=Za (kW _ _ _ _ _ HB5.out);have HG6:=Za (kW _ _ _ _ _ HG5.out);have HX6:=Za (kW _ _ _ _ _ HX5.out);clear kW kB HB5 HG5 HX5 hB5;have c1:=Za q1.two;have c3:=Za q3.two;rw [<- hW6,<- hW5] at c1 c3;obtain ⟨c10,c11,-,-⟩:=c1.out;obtain ⟨c30,c31,-,-⟩:=c3.out;have hq:=Za (And.intro q2 q5);clear q1 q2 q3 q5;rw [<- hW5] at hW6;replace hW6:=Za hW6;clear hW5;go_wp2_with fail;rw [hW6.out];refine (Zfm false ng B Ag m d kg cg zb G _ HB6.out HG6.out hG0.out).mono ?_;rintro e w7 ⟨hb7,ny,Ay,ky,cy,ns,As,ks,cs,rfl,hwy,-⟩;rw [hy.out] at hwy;have hB7:Below w.heap.size w w7:=hB6.trans (hb7.mono (by omega));have HX7:=Za (HX6.out.below hb7)
 have s8:w4.heap.size+2 <= w7.heap.size:=by have:=hb7.size;omega
 have q2:=Zc hb7 hq.out.1;have q5:=Zc hb7 hq.out.2;clear hb7 c1 c3 c10 c11 c30 c31 hW6 HB6 HG6 HX6 hB6 hq;obtain ⟨W8,hW8,hB8,q8,kW,kB,s9⟩:=Zr 43 #[.bool ny,.slice Ay ky cy] hB7 (by omega);replace q2:=kB _ _ _ q2;replace q5:=kB _ _ _ q5;have HX8:=Za (kW _ _ _ _ _ HX7.out);have HY8:=Za (kW _ _ _ _ _ hwy);clear kW kB HX7 hwy hB7;obtain ⟨W9,hW9,hB9,-,kW,kB,s10⟩:=Zr 43 #[.bool ns,.slice As ks cs] hB8 (by omega);replace q2:=kB _ _ _ q2;replace q5:=kB _ _ _ q5;replace q8:=kB _ _ _ q8;have HX9:=Za (kW _ _ _ _ _ HX8.out);have HY9:=Za (kW _ _ _ _ _ HY8.out);clear kW kB HX8 HY8 hB8;have c5:=Za q5.two;have c8:=Za q8.two;have c2:=Za q2.four;have hq:=Za q2;rw [<- hW9,<- hW8] at c5 c8 c2;rw [<- hW8] at hW9;clear hW8 q2 q5 q8;obtain ⟨c50,c51,-,-⟩:=c5.out;obtain ⟨c80,c81,-,-⟩:=c8.out;obtain ⟨c20,c21,c22,c23,f20,f21,f22,f23⟩:=c2.out;replace hW9:=Za hW9;replace hB9:=Za hB9;go_wp2_with fail;rw [hW9.out];obtain ⟨W,hW,hB,hblk,kW,-⟩:=Z3 nx Ax kx cx ny Ay ky cy hB9.out (by omega) hq.out;rw [hW];obtain ⟨r0,r1,r2,r3,-⟩:=hblk.four;refine bodyPost_ret (v:=.agg #[.bool nx,.slice Ax kx cx,.bool ny,.slice Ay ky cy]) (by simp [results,Tryz.results151,go_sem,r0,r1,r2,r3]) rfl ?_;exact ⟨hB,_,_,_,_,_,_,_,_,rfl,kW _ _ _ _ _ HX9.out,kW _ _ _ _ _ HY9.out⟩
theorem Ze1 (w:World) :
    Calls Tryz.prog 103 #[.int .i64 0] w fun e w'=>e=.returned (.tuple #[])/\w'=w:=by
 go_enter Tryz.func103,Tryz.ntmps103;go_wp2_with fail
 go_end0
 exact ⟨rfl,rfl⟩
theorem Zgi (p:Addr) (w:World) :
    CallsD Tryz.prog 102 #[.pointer (some p)] .returning w fun e u' w'=>e=.returned (.tuple #[])/\u'=.returning/\w'=w:=by
 refine callsD_of_wpS Tryz.func102 rfl fun c₀ cs hu=>?_
 apply wpS_seq
 apply wpS_region
 simp [wpOpsS,go_sem,recoverD,hu,Tryz.ntmps102,Exit.thenS]
 rw [show (#[Value.pointer (some p)] ++ (Array.replicate 14 undef).setIfInBounds 4 Value.nilIface)=#[Value.pointer (some p),undef,undef,undef,undef,Value.nilIface,undef,undef,undef,undef,undef,undef,undef,undef,undef] from rfl];refine wpS_of_wp ?_;go_wp2_with fail
 cases c₀
 simp_all [bodyPostS,results,Tryz.results102]
theorem Zc4 (na:Bool) (A B:Option Addr) (n c m d:Nat) (za zb:Int) (w:World) (ha:Wd w na A n c za) (hb:Wd w false B m d zb) (h0:0 < zb) :
    Calls Tryz.prog 108 #[.agg #[.bool na,.slice A n c],.agg #[.bool false,.slice B m d]] w (Zef w (Rat.divInt za zb)):=by
 have hm0:0 < m:=by rw [<- hb.lim.len];exact length_digits_pos.2 (by omega)
 have hm0':((m:Int) == 0)=false:=by simp;omega
 have hm:=hb.2.1;have HA:=Za ha;have HB:=Za hb;clear ha hb;obtain ⟨W0,hW0,hB0,hq,s0⟩:=Zft w 43 #[.bool na,.slice A n c] 43 #[.bool false,.slice B m d] 45 #[.bool false,.slice none 0 0,.bool false,.slice none 0 0] 24 #[.int .i64 0];replace hW0:=Za hW0;replace hq:=Za hq
 go_enter_defers Tryz.func108,Tryz.ntmps108
 go_wp2_with fail;rw [hW0.out];have HA0:=Za (HA.out.below hB0);have HB0:=Za (HB.out.below hB0);clear HA HB hW0;refine (Znn na A n c _ W0 HA0.out.lim).mono ?_;rw [HA0.out.ok];rintro e w1 ⟨rfl,hb1⟩;have hB1:Below w.heap.size w w1:=hB0.trans (hb1.mono hB0.size);have s1:W0.heap.size <= w1.heap.size:=hb1.size;have HA1:=Za (HA0.out.below hb1);have HB1:=Za (HB0.out.below hb1);obtain ⟨q0,q1,q2,q3⟩:=hq.out;replace q0:=Zc hb1 q0;replace q1:=Zc hb1 q1;replace q2:=Zc hb1 q2;replace q3:=Zc hb1 q3;obtain ⟨c00,c01,-,-⟩:=q0.two;obtain ⟨c10,c11,-,-⟩:=q1.two;clear hq hb1 HA0 HB0 hB0;have hq:=Za (And.intro q0 (And.intro q1 (And.intro q2 q3)));clear q0 q1 q2 q3;simp only [Zjn,if_true];go_wp2_with fail;refine (Ze1 w1).mono ?_;rintro e w1 ⟨rfl,rfl⟩;go_wp2_with fail;refine (Znn false B m d _ w1 HB1.out.lim).mono ?_;rw [HB1.out.ok];rintro e w2 ⟨rfl,hb2⟩;have hB2:Below w.heap.size w w2:=hB1.trans (hb2.mono hB1.size);have s2:w1.heap.size <= w2.heap.size:=hb2.size;have HA2:=Za (HA1.out.below hb2);have HB2:=Za (HB1.out.below hb2);obtain ⟨q0,q1,q2,q3⟩:=hq.out;replace q0:=Zc hb2 q0;replace q1:=Zc hb2 q1;replace q2:=Zc hb2 q2;replace q3:=Zc hb2 q3;clear c00 c01 c10 c11;obtain ⟨c00,c01,-,-⟩:=q0.two;obtain ⟨c10,c11,-,-⟩:=q1.two;clear hq hb2 HA1 HB1 hB1;have hq:=Za (And.intro q0 (And.intro q1 (And.intro q2 q3)));clear q0 q1 q2 q3;simp only [Zjn,if_true];go_wp2_with fail;refine (Ze1 w2).mono ?_;rintro e w2 ⟨rfl,rfl⟩;go_wp2_with fail;refine (Zi5 false B m d w2 (by omega) false hm0').mono ?_
 rintro e w3 ⟨rfl,hb3⟩;have hB3:Below w.heap.size w w3:=hB2.trans (hb3.mono hB2.size);have s3:w2.heap.size <= w3.heap.size:=hb3.size;have HA3:=Za (HA2.out.below hb3);have HB3:=Za (HB2.out.below hb3);obtain ⟨q0,q1,q2,q3⟩:=hq.out;replace q0:=Zc hb3 q0;replace q1:=Zc hb3 q1;replace q2:=Zc hb3 q2;replace q3:=Zc hb3 q3;clear c00 c01 c10 c11;obtain ⟨c00,c01,-,-⟩:=q0.two;obtain ⟨c10,c11,-,-⟩:=q1.two;clear hq hb3 HA2 HB2 hB2;have hq:=Za (And.intro q2 q3);clear q0 q1 q2 q3;go_wp2_with fail;refine (Zic na A B n c m d za zb w3 HA3.out HB3.out h0).mono ?_;rintro e w4 ⟨hb4,nx,Ax,kx,cx,ny,Ay,ky,cy,rfl,hF⟩;have hB4:Below w.heap.size w w4:=hB3.trans (hb4.mono hB3.size);have s4:w3.heap.size <= w4.heap.size:=hb4.size;have q2:=Zc hb4 hq.out.1;have q3:=Zc hb4 hq.out.2;clear hq hb4 HA3 HB3 hB3 c00 c01 c10 c11;have c2:=Za q2.four;have c3:=q3.cell 0;have f3:=q3.frozen 0
 simp at c3
 obtain ⟨c20,c21,c22,c23,f20,f21,f22,f23⟩:=c2.out;have hq:=Za (And.intro q2 q3);clear q2 q3;go_wp2_with fail;obtain ⟨W5,hW5,hB5,q2,kW,kB,s5⟩:=Z3 nx Ax kx cx ny Ay ky cy hB4 (by omega) hq.out.1;have q3:=kB _ _ _ (by omega) hq.out.2;have HX5:=Za (kW _ _ _ _ _ hF.1);have HY5:=Za (kW _ _ _ _ _ hF.2);rw [hW5];clear kW kB c20 c21 c22 c23 c3 f3 f20 f21 f22 f23 hq hF;obtain ⟨W6,hW6,hB6,q3,kW,kB,s6⟩:=Zjf 0 hB5 (by omega) q3;replace q2:=kB _ _ _ (by omega) q2;have HX6:=Za (kW _ _ _ _ _ HX5.out);have HY6:=Za (kW _ _ _ _ _ HY5.out);rw [hW6];obtain ⟨r0,r1,r2,r3,-⟩:=q2.four;have r4:=q3.cell 0
 simp at r4
 clear kW kB hB5 HX5 HY5 hW5 hW6;refine leaves_cons (f:=102) (args:=#[.pointer (some ⟨w.heap.size+1+1+1,0,none⟩)]) (by simp) (by simp [go_sem]) ?_;refine (Zgi _ _).mono ?_;rintro e u' w'' ⟨rfl,rfl,rfl⟩;refine ⟨.tuple #[.agg #[.bool nx,.slice Ax kx cx,.bool ny,.slice Ay ky cy],.int .i64 0],by simp [results,Tryz.results108,go_sem,r0,r1,r2,r3,r4],?_⟩;exact ⟨hB6,_,_,_,_,_,_,_,_,rfl,HX6.out,HY6.out⟩
theorem Zif (na nb:Bool) (A B:Option Addr) (n c m d:Nat) (za zb:Int) (w:World) (ha:Wd w na A n c za) (hb:Wd w nb B m d zb) :
    Calls Tryz.prog 122 #[.agg #[.bool na,.slice A n c],.agg #[.bool nb,.slice B m d]] w (ResW w (za * zb)):=by
 have hLa:=ha.lim;have hLb:=hb.lim;have hn:=ha.2.1;have hm:=hb.2.1
 have hB0:∀ X Y Z V:Obj,Below w.heap.size w ((((w.alloc X).alloc Y).alloc Z).alloc V):=fun X Y Z V=>((((Below.refl w.heap.size w).alloc (Nat.le_refl _) _).alloc (by simp) _).alloc (by simp;omega) _).alloc (by simp;omega) _
 have hW:∀ X Y Z t,WL ((((w.alloc X).alloc Y).alloc Z).alloc (.cells #[.bool na,.slice A n c,.bool nb,.slice B m d] t)) (some ⟨w.heap.size+1+1+1,0,none⟩) 2 2 [⟨na,A,n,c,digits za.natAbs⟩,⟨nb,B,m,d,digits zb.natAbs⟩]:=fun X Y Z t=>by
  have:=WL.two (neg:=na) (neg':=nb) (((hLa.alloc X).alloc Y).alloc Z) (((hLb.alloc X).alloc Y).alloc Z) t;simp only [World.size_alloc] at this;exact this
 have hW:=Za hW;have hB0:=Za hB0;have hgood:Hid (okW na (digits za.natAbs)=true/\okW nb (digits zb.natAbs)=true):=⟨ha.ok,hb.ok⟩;have hza:=Za ha.sgEq;have hzb:=Za hb.sgEq;clear ha hb;go_enter Tryz.func122,Tryz.ntmps122;go_wp2_with fail;refine (Zdm (hW.out _ _ _ _) (by have:=hgood.out;simp [WE.ok,this])).mono ?_;rintro e w1 ⟨rfl,hb1⟩;obtain ⟨hc1,hf1⟩:=Zck hb1
 have hz1:w.heap.size+1+1+1 < w1.heap.size:=by have:=hb1.size;simp at this;omega
 have hB1:Below w.heap.size w w1:=(hB0.out _ _ _ _).trans (hb1.mono (by simp;omega))
 have g0:w1.cell? ⟨w.heap.size,0,none⟩=some (.bool na):=by simp [hc1,go_sem]
 have g1:w1.cell? ⟨w.heap.size,1,none⟩=some (.slice A n c):=by simp [hc1,go_sem]
 have g2:w1.cell? ⟨w.heap.size+1,0,none⟩=some (.bool nb):=by simp [hc1,go_sem]
 have g3:w1.cell? ⟨w.heap.size+1,1,none⟩=some (.slice B m d):=by simp [hc1,go_sem]
 have gf:w1.frozen? ⟨w.heap.size+1,0,none⟩=false:=by simp [hf1,go_sem]
 have gB:Blk w1 (w.heap.size+1) 43 #[.bool nb,.slice B m d]:=by
  refine Zc hb1 ((Blk.alloc (Blk.alloc ?_ _) _));have:=Blk.new (w.alloc (.cells #[.bool na,.slice A n c] 43)) 43 #[.bool nb,.slice B m d];simp only [World.size_alloc] at this;exact this
 have g7:Blk w1 (w.heap.size+1+1) 43 #[.bool false,.slice none 0 0]:=by
  refine Zc hb1 (Blk.alloc ?_ _);have:=Blk.new ((w.alloc (.cells #[.bool na,.slice A n c] 43)).alloc (.cells #[.bool nb,.slice B m d] 43)) 43 #[.bool false,.slice none 0 0];simp only [World.size_alloc] at this;exact this
 have hLa1:=hLa.below hB1;have hLb1:=hLb.below hB1;have HB:=Za gB;clear gB hc1 hf1;have g5:=g7.cell 0;have g6:=g7.cell 1;have g8:=g7.frozen 0;have g9:=g7.frozen 1
 simp at g5 g6
 go_wp2_with fail
 go_region_held3 (fun w'=>w'.cell? ⟨w.heap.size,0,none⟩=some (.bool na)/\w'.cell? ⟨w.heap.size,1,none⟩=some (.slice A n c)/\w'.cell? ⟨w.heap.size+1,0,none⟩=some (.bool nb)/\w'.cell? ⟨w.heap.size+1,1,none⟩=some (.slice B m d))
  (((try dsimp only);(repeat' apply And.intro);all_goals (first | go_keep | (simp [*,go_sem];done))))
  (first
   | (go_at_call 157;refine (Zud _ _ _ _ _ _ _ _ _ (by exact hLa1) (by exact hLb1) (by omega) (by omega)).mono ?_;rintro e w2 ⟨A2,n2,c2,l2,rfl,hL2,hP2,hb2⟩;have k0:=Zb hb2 g0;have k1:=Zb hb2 g1;have j0:=Zb hb2 g2;have k2:=Zb hb2 g3;have k3:=Zb hb2 g5;have k4:=Zb hb2 g6;have k5:=Zj hb2 g5 g8;have k6:=Zj hb2 g6 g9;have k7:=Zc hb2 g7)
   | (go_at_call 141;refine (Zb5 _ _ _ _ _ _ (by exact hL2)).mono ?_;rintro e w3 ⟨hb3,neg3,A3,n3,c3,code3,rfl,hR3⟩;have m0:=Zb hb3 k0;have m1:=Zb hb3 k1;have i0:=Zb hb3 j0;have m2:=Zb hb3 k2;have m3:=Zb hb3 k3;have m4:=Zb hb3 k4;have m5:=Zj hb3 k3 k5;have m6:=Zj hb3 k4 k6;have m7:=Zc hb3 k7))
 have hB3:Below w.heap.size w w3:=(hB1.trans ((Zo hb2).mono hB1.size)).trans (hb3.mono (Nat.le_trans hB1.size (Zo hb2).size))
 go_wp2
 have HZ:sg (na != nb) (val l2)=za * zb:=by
  have h1:=hza.out;have h2:=hzb.out;rw [hP2.2,Zwj,h1,h2]
 refine bodyPost_ret (v:=.tuple #[.agg #[.bool neg3,.slice A3 n3 c3],.int .i64 code3]) (by simp [results,Tryz.results122,go_sem,m3,m4]) rfl ?_;exact ResW.box (HZ ▸ hR3) hB3 (by omega) m7
theorem Zwe (na nb:Bool) (A B:Option Addr) (n c m d:Nat) (za zb:Int) (w:World) (ha:Wd w na A n c za) (hb:Wd w nb B m d zb) :
    Calls Tryz.prog 124 #[.agg #[.bool na,.slice A n c],.agg #[.bool nb,.slice B m d]] w (ResW w (za - zb)):=by
 have hLa:=ha.lim;have hLb:=hb.lim;have hn:=ha.2.1;have hm:=hb.2.1
 have hB0:∀ X Y Z V:Obj,Below w.heap.size w ((((w.alloc X).alloc Y).alloc Z).alloc V):=fun X Y Z V=>((((Below.refl w.heap.size w).alloc (Nat.le_refl _) _).alloc (by simp) _).alloc (by simp;omega) _).alloc (by simp;omega) _
 have hW:∀ X Y Z t,WL ((((w.alloc X).alloc Y).alloc Z).alloc (.cells #[.bool na,.slice A n c,.bool nb,.slice B m d] t)) (some ⟨w.heap.size+1+1+1,0,none⟩) 2 2 [⟨na,A,n,c,digits za.natAbs⟩,⟨nb,B,m,d,digits zb.natAbs⟩]:=fun X Y Z t=>by
  have:=WL.two (neg:=na) (neg':=nb) (((hLa.alloc X).alloc Y).alloc Z) (((hLb.alloc X).alloc Y).alloc Z) t;simp only [World.size_alloc] at this;exact this
 have hW:=Za hW;have hB0:=Za hB0;have hgood:Hid (okW na (digits za.natAbs)=true/\okW nb (digits zb.natAbs)=true):=⟨ha.ok,hb.ok⟩;have hza:=Za ha.sgEq;have hzb:=Za hb.sgEq;clear ha hb;go_enter Tryz.func124,Tryz.ntmps124;go_wp2_with fail;refine (Zdm (hW.out _ _ _ _) (by have:=hgood.out;simp [WE.ok,this])).mono ?_;rintro e w1 ⟨rfl,hb1⟩;obtain ⟨hc1,hf1⟩:=Zck hb1
 have hz1:w.heap.size+1+1+1 < w1.heap.size:=by have:=hb1.size;simp at this;omega
 have hB1:Below w.heap.size w w1:=(hB0.out _ _ _ _).trans (hb1.mono (by simp;omega))
 have g0:w1.cell? ⟨w.heap.size,0,none⟩=some (.bool na):=by simp [hc1,go_sem]
 have g1:w1.cell? ⟨w.heap.size,1,none⟩=some (.slice A n c):=by simp [hc1,go_sem]
 have g2:w1.cell? ⟨w.heap.size+1,0,none⟩=some (.bool nb):=by simp [hc1,go_sem]
 have g3:w1.cell? ⟨w.heap.size+1,1,none⟩=some (.slice B m d):=by simp [hc1,go_sem]
 have gf:w1.frozen? ⟨w.heap.size+1,0,none⟩=false:=by simp [hf1,go_sem]
 have gB:Blk w1 (w.heap.size+1) 43 #[.bool nb,.slice B m d]:=by
  refine Zc hb1 ((Blk.alloc (Blk.alloc ?_ _) _));have:=Blk.new (w.alloc (.cells #[.bool na,.slice A n c] 43)) 43 #[.bool nb,.slice B m d];simp only [World.size_alloc] at this;exact this
 have g7:Blk w1 (w.heap.size+1+1) 43 #[.bool false,.slice none 0 0]:=by
  refine Zc hb1 (Blk.alloc ?_ _);have:=Blk.new ((w.alloc (.cells #[.bool na,.slice A n c] 43)).alloc (.cells #[.bool nb,.slice B m d] 43)) 43 #[.bool false,.slice none 0 0];simp only [World.size_alloc] at this;exact this
 have hLa1:=hLa.below hB1;have hLb1:=hLb.below hB1;have HB:=Za gB;clear gB hc1 hf1
 have hB1S:w.heap.size <= (w1.setCell ⟨w.heap.size+1,0,none⟩ (.bool (!nb))).heap.size:=by simp;omega
 go_wp2_with fail;refine (Zs8 _ _ _ _ _ _ _ _ _ _ _ (by exact hLa1.set_box HB.out (NoLimb.box _ _ _ _) _ _) (by exact hLb1.set_box HB.out (NoLimb.box _ _ _ _) _ _) hn hm).mono ?_;rintro e w2 ⟨hb2,neg2,A2,n2,c2,code2,rfl,hR2⟩;have hB2:Below w.heap.size w w2:=(hB1.setCell (p:=⟨w.heap.size+1,0,none⟩) (by simp) _).trans (hb2.mono hB1S);have m7:=Zc hb2 (g7.far (by simp) _);have m3:=m7.cell 0;have m4:=m7.cell 1;have m5:=m7.frozen 0;have m6:=m7.frozen 1
 simp at m3 m4
 have HM:=Za m7;clear m7;go_wp2_with fail
 have HZ:sg na za.natAbs+sg (!nb) zb.natAbs=za - zb:=by
  have h1:=hza.out;have h2:=hzb.out;rw [Zi] at h1 h2;rw [Zru,h1,h2];omega
 refine bodyPost_ret (v:=.tuple #[.agg #[.bool neg2,.slice A2 n2 c2],.int .i64 code2]) (by simp [results,Tryz.results124,go_sem,m3,m4]) rfl ?_;exact ResW.box (HZ ▸ hR2) hB2 (by omega) HM.out
theorem Zbr (w:World) (t0:TypeId) (c0:Array Value) :
    ∃ W,w.alloc (.cells c0 t0)=W/\Below w.heap.size w W/\Blk W w.heap.size t0 c0/\W.heap.size=w.heap.size+1:=
 ⟨_,rfl,(Below.refl w.heap.size w).alloc (Nat.le_refl _) _,Blk.new _ _ _,by simp⟩
theorem Zo8 (x y:Int) (w:World) (hx1:-9223372036854775808 <= x) (hx2:x <= 9223372036854775807) (h0:0 < y) (hy:y <= 9223372036854775807) :
    Calls Tryz.prog 65 #[.int .i64 x,.int .i64 y] w (Zef w (Rat.divInt x y)):=by
 obtain ⟨W0,hW0,hB0,hq,s0⟩:=Zbr w 45 #[.bool false,.slice none 0 0,.bool false,.slice none 0 0];replace hW0:=Za hW0;replace hq:=Za hq;go_enter Tryz.func65,Tryz.ntmps65;go_wp2_with fail;rw [hW0.out];clear hW0;refine (Za5 x W0 hx1 hx2).mono ?_;rintro e w1 ⟨hb1,na,A,n,c,rfl,hA⟩;have hB1:Below w.heap.size w w1:=hB0.trans (hb1.mono (by omega));have s1:W0.heap.size <= w1.heap.size:=hb1.size;replace hq:=Za (Zc hb1 hq.out);replace hA:=Za hA;clear hb1 hB0;go_wp2_with fail;refine (Za5 y w1 (by omega) hy).mono ?_;rintro e w2 ⟨hb2,nb,B,m,d,rfl,hB⟩;have hB2:Below w.heap.size w w2:=hB1.trans (hb2.mono (by omega));have s2:w1.heap.size <= w2.heap.size:=hb2.size;replace hq:=Za (Zc hb2 hq.out);replace hA:=Za (hA.out.below hb2)
 have hn:nb=false:=by rw [hB.1];simp;omega
 subst hn;replace hB:=Za hB;clear hb2 hB1;go_wp2_with fail;refine (Zc4 na A B n c m d x y w2 hA.out hB.out h0).mono ?_;rintro e w3 ⟨hb3,nx,Ax,kx,cx,ny,Ay,ky,cy,rfl,hF⟩;have hB3:Below w.heap.size w w3:=hB2.trans (hb3.mono (by omega));have s3:w2.heap.size <= w3.heap.size:=hb3.size;replace hq:=Za (Zc hb3 hq.out);obtain ⟨c20,c21,c22,c23,f20,f21,f22,f23⟩:=hq.out.four;clear hb3 hB2;replace hF:=Za hF;go_wp2_with fail;obtain ⟨W5,hW5,hB5,q2,kW,-,s5⟩:=Z3 nx Ax kx cx ny Ay ky cy hB3 (by omega) hq.out;rw [hW5];obtain ⟨r0,r1,r2,r3,-⟩:=q2.four;refine bodyPost_ret (v:=.tuple #[.agg #[.bool nx,.slice Ax kx cx,.bool ny,.slice Ay ky cy],.int .i64 0]) (by simp [results,Tryz.results65,go_sem,r0,r1,r2,r3]) rfl ?_;exact ⟨hB5,_,_,_,_,_,_,_,_,rfl,kW _ _ _ _ _ hF.out.1,kW _ _ _ _ _ hF.out.2⟩
theorem Zex (na nb na' nb':Bool) (A B A' B':Option Addr) (n c m d n' c' m' d':Nat) (a b:Rat) (w:World) (ha:Fr w na A n c nb B m d a) (hb:Fr w na' A' n' c' nb' B' m' d' b) (hs:(a.num * b.den).natAbs < pw 4096) :
    Calls Tryz.prog 106 #[.agg #[.bool na,.slice A n c,.bool nb,.slice B m d],.agg #[.bool na',.slice A' n' c',.bool nb',.slice B' m' d']] w (NumW w (a.num * b.den)):=by
 obtain ⟨W0,hW0,hB0,⟨q0,q1,q2⟩,s0⟩:=Zcy w 45 #[.bool na,.slice A n c,.bool nb,.slice B m d] 45 #[.bool na',.slice A' n' c',.bool nb',.slice B' m' d'] 43 #[.bool false,.slice none 0 0];have hA:=Za (ha.1.below hB0);have hD:=Za (hb.2.below hB0);replace hs:=Za hs;clear ha hb;obtain ⟨c00,c01,-⟩:=q0.four;obtain ⟨-,-,c12,c13,-⟩:=q1.four;rw [<- hW0] at c00 c01 c12 c13;replace hW0:=Za hW0;go_enter Tryz.func106,Tryz.ntmps106;go_wp2_with fail;rw [hW0.out];clear hW0 c00 c01 c12 c13;refine (Zif na nb' A B' n c m' d' a.num b.den W0 hA.out hD.out).mono ?_;rintro e w1 ⟨hb1,np,P,k,q,code,rfl,hR⟩
 rcases hR with ⟨-,rfl,hP⟩ | ⟨hbig,-⟩
 case inr=>exact absurd hbig (by have:=hs.out;omega)
 have hB1:Below w.heap.size w w1:=hB0.trans (hb1.mono (by omega));have s1:W0.heap.size <= w1.heap.size:=hb1.size;replace q2:=Zc hb1 q2;clear hb1 hB0 q0 q1;replace q2:=Za q2;replace hP:=Za hP;go_wp2_with fail;refine (Zdn np P k q w1).mono ?_;rintro e w2 ⟨rfl,hb2⟩;have hB2:Below w.heap.size w w2:=hB1.trans (hb2.mono (by omega));have s2:w1.heap.size <= w2.heap.size:=hb2.size;replace q2:=Zc hb2 q2.out;replace hP:=hP.out.below hb2;obtain ⟨c0,c1,f0,f1⟩:=q2.two;replace q2:=Za q2;replace hP:=Za hP;go_wp2_with fail;obtain ⟨W5,hW5,hB5,q3,kW,-,s5⟩:=Zav np P k q hB2 (by omega) q2.out;rw [hW5];obtain ⟨r0,r1,-⟩:=q3.two;refine bodyPost_ret (v:=.agg #[.bool np,.slice P k q]) (by simp [results,Tryz.results106,go_sem,r0,r1]) rfl ?_;exact ⟨hB5,_,_,_,_,rfl,kW _ _ _ _ _ hP.out⟩
theorem Ztx (na:Bool) (A B:Option Addr) (n c m d:Nat) (za zb:Int) (w:World) (ha:Wd w na A n c za) (hb:Wd w false B m d zb) (h0:0 < zb) :
    Calls Tryz.prog 137 #[.agg #[.bool na,.slice A n c],.agg #[.bool false,.slice B m d]] w (Zef w (Rat.divInt za zb)):=by
 have hm0:0 < m:=by rw [<- hb.lim.len];exact length_digits_pos.2 (by omega)
 have hm0':((m:Int) == 0)=false:=by simp;omega
 have hm:=hb.2.1;obtain ⟨W0,hW0,hB0,⟨q0,q1,q2⟩,s0⟩:=Zcy w 43 #[.bool na,.slice A n c] 43 #[.bool false,.slice B m d] 45 #[.bool false,.slice none 0 0,.bool false,.slice none 0 0];have HA:=Za (ha.below hB0);have HB:=Za (hb.below hB0);clear ha hb;obtain ⟨c00,c01,-⟩:=q0.two;have hq:=Za (And.intro q0 (And.intro q1 q2));clear q0 q1 q2;go_enter Tryz.func137,Tryz.ntmps137;go_wp2_with fail;refine (Zdv HA.out.lim HA.out.ok).mono ?_;rintro e w1 ⟨rfl,hb1⟩;have hB1:Below w.heap.size w w1:=hB0.trans (hb1.mono hB0.size);have s1:W0.heap.size <= w1.heap.size:=hb1.size;replace HA:=Za (HA.out.below hb1);replace HB:=Za (HB.out.below hb1);obtain ⟨q0,q1,q2⟩:=hq.out;replace q0:=Zc hb1 q0;replace q1:=Zc hb1 q1;replace q2:=Zc hb1 q2;clear c00 c01 hq hb1 hB0 hW0;obtain ⟨c10,c11,-⟩:=q1.two;have hq:=Za (And.intro q0 (And.intro q1 q2));clear q0 q1 q2;go_wp2_with fail;refine (Zdv HB.out.lim HB.out.ok).mono ?_;rintro e w2 ⟨rfl,hb2⟩;have hB2:Below w.heap.size w w2:=hB1.trans (hb2.mono hB1.size);have s2:w1.heap.size <= w2.heap.size:=hb2.size;replace HA:=Za (HA.out.below hb2);replace HB:=Za (HB.out.below hb2);obtain ⟨q0,q1,q2⟩:=hq.out;replace q0:=Zc hb2 q0;replace q1:=Zc hb2 q1;replace q2:=Zc hb2 q2;clear c10 c11 hq hb2 hB1;obtain ⟨c00,c01,-⟩:=q0.two;obtain ⟨c10,c11,-⟩:=q1.two;have hq:=Za q2;clear q0 q1 q2;go_wp2_with fail;refine (Zei na A B n c m d za zb w2 HA.out HB.out h0).mono ?_;rintro e w3 ⟨hb3,nx,Ax,kx,cx,ny,Ay,ky,cy,rfl,hF⟩;have hB3:Below w.heap.size w w3:=hB2.trans (hb3.mono hB2.size)
 have s3:w2.heap.size <= w3.heap.size:=hb3.size;replace hq:=Za (Zc hb3 hq.out);replace hF:=Za hF;clear c00 c01 c10 c11 hb3 hB2 HA HB;obtain ⟨c20,c21,c22,c23,f20,f21,f22,f23⟩:=hq.out.four;go_wp2_with fail;obtain ⟨W5,hW5,hB5,q2,kW,-,s5⟩:=Z3 nx Ax kx cx ny Ay ky cy hB3 (by omega) hq.out;rw [hW5];obtain ⟨r0,r1,r2,r3,-⟩:=q2.four;refine bodyPost_ret (v:=.tuple #[.agg #[.bool nx,.slice Ax kx cx,.bool ny,.slice Ay ky cy],.int .i64 0]) (by simp [results,Tryz.results137,go_sem,r0,r1,r2,r3]) rfl ?_;exact ⟨hB5,_,_,_,_,_,_,_,_,rfl,kW _ _ _ _ _ hF.out.1,kW _ _ _ _ _ hF.out.2⟩
theorem rOf_pos (x y:Int) (w:World) (hx1:-9223372036854775808 <= x) (hx2:x <= 9223372036854775807) (h0:0 < y) (hy:y <= 9223372036854775807) :
    Calls Tryz.prog 87 #[.int .i64 x,.int .i64 y] w (Zef w (Rat.divInt x y)):=by
 obtain ⟨W0,hW0,hB0,hq,s0⟩:=Zbr w 45 #[.bool false,.slice none 0 0,.bool false,.slice none 0 0];replace hW0:=Za hW0;replace hq:=Za hq;go_enter Tryz.func87,Tryz.ntmps87;go_wp2_with fail;rw [hW0.out];clear hW0;refine (Zej x W0 hx1 hx2).mono ?_;rintro e w1 ⟨hb1,na,A,n,c,rfl,hA⟩;have hB1:Below w.heap.size w w1:=hB0.trans (hb1.mono (by omega));have s1:W0.heap.size <= w1.heap.size:=hb1.size;replace hq:=Za (Zc hb1 hq.out);replace hA:=Za hA;clear hb1 hB0;go_wp2_with fail;refine (Zej y w1 (by omega) hy).mono ?_;rintro e w2 ⟨hb2,nb,B,m,d,rfl,hB⟩;have hB2:Below w.heap.size w w2:=hB1.trans (hb2.mono (by omega));have s2:w1.heap.size <= w2.heap.size:=hb2.size;replace hq:=Za (Zc hb2 hq.out);replace hA:=Za (hA.out.below hb2)
 have hn:nb=false:=by rw [hB.1];simp;omega
 subst hn;replace hB:=Za hB;clear hb2 hB1;go_wp2_with fail;refine (Ztx na A B n c m d x y w2 hA.out hB.out h0).mono ?_;rintro e w3 ⟨hb3,nx,Ax,kx,cx,ny,Ay,ky,cy,rfl,hF⟩;have hB3:Below w.heap.size w w3:=hB2.trans (hb3.mono (by omega));have s3:w2.heap.size <= w3.heap.size:=hb3.size;replace hq:=Za (Zc hb3 hq.out);obtain ⟨c20,c21,c22,c23,f20,f21,f22,f23⟩:=hq.out.four;clear hb3 hB2;replace hF:=Za hF;go_wp2_with fail;obtain ⟨W5,hW5,hB5,q2,kW,-,s5⟩:=Z3 nx Ax kx cx ny Ay ky cy hB3 (by omega) hq.out;rw [hW5];obtain ⟨r0,r1,r2,r3,-⟩:=q2.four;refine bodyPost_ret (v:=.tuple #[.agg #[.bool nx,.slice Ax kx cx,.bool ny,.slice Ay ky cy],.int .i64 0]) (by simp [results,Tryz.results87,go_sem,r0,r1,r2,r3]) rfl ?_;exact ⟨hB5,_,_,_,_,_,_,_,_,rfl,kW _ _ _ _ _ hF.out.1,kW _ _ _ _ _ hF.out.2⟩
theorem Zhq (x:Int) (w:World) (hx1:-9223372036854775808 <= x) (hx2:x <= 9223372036854775807) :
    Calls Tryz.prog 90 #[.int .i64 x] w (Zff w (x:Rat)):=by
 obtain ⟨W0,hW0,hB0,hq,s0⟩:=Zbr w 45 #[.bool false,.slice none 0 0,.bool false,.slice none 0 0];replace hq:=Za hq;go_enter Tryz.func90,Tryz.ntmps90;go_wp2_with fail;refine (Zej x W0 hx1 hx2).mono ?_;rintro e w1 ⟨hb1,na,A,n,c,rfl,hA⟩;have hB1:Below w.heap.size w w1:=hB0.trans (hb1.mono (by omega));have s1:W0.heap.size <= w1.heap.size:=hb1.size;replace hq:=Za (Zc hb1 hq.out);replace hA:=Za hA;clear hb1 hB0 hW0;go_wp2_with fail;refine (Zej 1 w1 (by omega) (by omega)).mono ?_;rintro e w2 ⟨hb2,nb,B,m,d,rfl,hB⟩;have hB2:Below w.heap.size w w2:=hB1.trans (hb2.mono (by omega));have s2:w1.heap.size <= w2.heap.size:=hb2.size;replace hq:=Za (Zc hb2 hq.out);replace hA:=Za (hA.out.below hb2);replace hB:=Za hB;clear hb2 hB1;obtain ⟨c20,c21,c22,c23,f20,f21,f22,f23⟩:=hq.out.four;go_wp2_with fail;obtain ⟨W5,hW5,hB5,q2,kW,-,s5⟩:=Z3 na A n c nb B m d hB2 (by omega) hq.out;rw [hW5];obtain ⟨r0,r1,r2,r3,-⟩:=q2.four;refine bodyPost_ret (v:=.agg #[.bool na,.slice A n c,.bool nb,.slice B m d]) (by simp [results,Tryz.results90,go_sem,r0,r1,r2,r3]) rfl ?_;exact ⟨hB5,_,_,_,_,_,_,_,_,rfl,kW _ _ _ _ _ hA.out,kW _ _ _ _ _ hB.out⟩
theorem OnlyNormal.imp {Q:Exit->Act->World->Prop} (e:Exit) (a:Act) (w:World) (h:OnlyNormal Q e a w):Q e a w:=by
 cases e <;> first | exact h | exact (h:False).elim
theorem Zaj {P:Program} {id:Nat} {ops:Array Oper} {Q:Exit->Act->World->Prop} {a:Act} {w:World} (L:List Nat) (S:World->Prop) (hm:P.follows .mixedOrders=true)
    (hS:S w.drew) (h:S w.drew->Zal P .any ops (OnlyNormal Q) L S ops.size (Array.replicate ops.size false) a w.drew):(Code.region id ops true).wp P Q a w:=
 Code.wp_mono OnlyNormal.imp (wp_region_any hm (Zh8 _ _ _ _ (h hS)))
theorem wp_heldS {P:Program} {id:Nat} {ops:Array Oper} {Q:Exit->Act->World->Prop} {a:Act} {w w0:World} {B:Nat} {S:World->Prop} (L:List Nat) (hm:P.follows .mixedOrders=true)
    (hv:Hid (∀ wx,Below B w0 wx->S wx)) (hb:Below B w0 w.drew) (h:S w.drew->Zal P .any ops (OnlyNormal Q) L S ops.size (Array.replicate ops.size false) a w.drew):(Code.region id ops true).wp P Q a w:=Zaj L S hm (hv.out _ hb) h
theorem Zt7 {l n:Nat} {P:Program} {id:Nat} {ops:Array Oper} {Q:Exit->Act->World->Prop} {a:Act} {w w0:World} {B:Nat} {S:World->Prop} (L:List Nat) (hm:P.follows .mixedOrders=true) (hnd:Zjh ops=true)
    (hv:Hid (∀ wx,Below B w0 wx->S wx)) (hb:Below B w0 w.drew) (h:S w.drew->Zal P .any ops (OnlyNormal Q) L S ops.size (Array.replicate ops.size false) a w.drew):(Code.region id ops true).wpIn (Fence.wide.inRound l) n P Q a w:=Za7 L S hm hnd (hv.out _ hb) h
theorem Ziu (na nb:Bool) (A B:Option Addr) (n c m d:Nat) (r:Rat) (w:World) (h:Fr w na A n c nb B m d r) :
    Calls Tryz.prog 35 #[.agg #[.bool na,.slice A n c,.bool nb,.slice B m d]] w fun e w'=>e=.returned (.int .i64 0)/\Below w.heap.size w w':=by
 have hn:=h.neg;subst hn
 have hmx:Tryz.prog.follows .mixedOrders=true:=by kernel_rfl
 have hl:=Zs1 r
 have hm0:0 < m:=by rw [<- h.2.lim.len];exact length_digits_pos.2 (by have:=hl.1;omega)
 have hm0':((m:Int) == 0)=false:=by simp;omega
 have hm:=h.2.2.1;obtain ⟨W0,hW0,hB0,q0,s0⟩:=Zbr w 45 #[.bool na,.slice A n c,.bool false,.slice B m d];have hA:=Za (h.below hB0);clear h;obtain ⟨a0,a1,a2,a3,-⟩:=q0.four;replace q0:=Za q0;go_enter Tryz.func35,Tryz.ntmps35;go_wp2_with fail;refine (Zdv hA.out.1.lim hA.out.1.ok).mono ?_;rintro e w1 ⟨rfl,hb1⟩;have hB1:Below w.heap.size w w1:=hB0.trans (hb1.mono hB0.size);replace hA:=Za (hA.out.below hb1);replace q0:=Za (Zc hb1 q0.out);clear a0 a1 a2 a3 hb1 hB0 hW0;obtain ⟨a0,a1,a2,a3,-⟩:=q0.out.four;go_wp2_with fail;refine (Zdv hA.out.2.lim hA.out.2.ok).mono ?_;rintro e w2 ⟨rfl,hb2⟩;have hB2:Below w.heap.size w w2:=hB1.trans (hb2.mono hB1.size);replace hA:=Za (hA.out.below hb2);replace q0:=Za (Zc hb2 q0.out);clear a0 a1 a2 a3 hb2 hB1;obtain ⟨a0,a1,a2,a3,-⟩:=q0.out.four;go_wp2_with fail;refine (Zor na false A B n c m d r.num r.den w2 hA.out.1 hA.out.2).mono ?_;rw [hl.2];rintro e w3 ⟨hb3,ng,Ag,kg,cg,code,rfl,hR⟩;have hG:=Za (hR.small (Zbt 4096 |> fun h=>by have:pw 0 < pw 4096:=Zb0 (by decide);rw [Zdo] at this;exact this));have hB3:Below w.heap.size w w3:=hB2.trans (hb3.mono hB2.size);clear a0 a1 a2 a3 hb3 hB2 q0 hA hR;obtain ⟨W4,hW4,hB4,q4,kW,kB,s4⟩:=Zr 43 #[.bool ng,.slice Ag kg cg] hB3 hB3.size;replace hG:=Za (kW _ _ _ _ _ hG.out);clear kW kB;obtain ⟨g0,g1,-⟩:=q4.two;replace q4:=Za q4;go_wp2_with fail;refine Zaj [] (fun W'=>W'.cell? ⟨w3.heap.size,0,none⟩=some (.bool ng)/\W'.cell? ⟨w3.heap.size,1,none⟩=some (.slice Ag kg cg)) hmx ⟨g0,g1⟩ (fun _=>?_)
 refine Zi4 1 [0] rfl (by kernel_rfl) ⟨g0,g1⟩ ?_
 (refine tk1 (v:=?_) rfl (Or.inl ⟨by kernel_rfl,?_⟩) ?_;rotate_left;(· intro W2 hSw;(try dsimp only at hSw);go_simp;try with_reducible rfl);try simp only [Act.put,Zgj,Zfx,Zge,putG_a,putG_s,putG_z])
 refine tk0 ?_;refine Ze (i:=1) rfl (by kernel_rfl) (fun K hK=>?_);go_simp;refine (Zej 1 W4.drew (by omega) (by omega)).mono ?_;rintro e w5 ⟨hb5,n1,A1,k1,c1,rfl,hO⟩;replace hb5:=Zo hb5;have hB5:Below w.heap.size w w5:=hB4.trans (hb5.mono (by show w.heap.size <= W4.heap.size;have:=hB3.size;omega));replace hG:=Za (hG.out.below hb5);replace q4:=Za (Zc hb5 q4.out);clear g0 g1;obtain ⟨g0,g1,-⟩:=q4.out.two;refine hK.out _ _ (fun _=>⟨g0,g1⟩) ?_;clear hK K
 try simp only [Act.put,Zgj,Zfx,Zge]
 refine Ze (i:=2) rfl (by kernel_rfl) (fun K hK=>?_);go_simp;refine (Zfq ng n1 Ag A1 kg cg k1 c1 _ _ w5 hG.out.lim hO.lim).mono ?_
 have hsm:Zg7 ng n1 (digits (Int.natAbs ((1:Nat):Int))) (digits (Int.natAbs 1))=true:=by have h1:=hG.out.1;have h2:=hO.1;rw [h1,h2];unfold Zg7;simp [Zde,Zeh]
 rw [hsm];rintro e w6 ⟨rfl,hb6⟩;have hB6:Below w.heap.size w w6:=hB5.trans (hb6.mono hB5.size);replace q4:=Za (Zc hb6 q4.out);clear g0 g1;obtain ⟨g0,g1,-⟩:=q4.out.two;refine hK.out _ _ (fun _=>⟨g0,g1⟩) ?_;clear hK K
 try simp only [Act.put,Zgj,Zfx,Zge]
 refine Zi4 1 [3] rfl (by kernel_rfl) ⟨g0,g1⟩ ?_
 (refine tk1 (v:=?_) rfl (Or.inl ⟨by kernel_rfl,?_⟩) ?_;rotate_left;(· intro W2 hSw;(try dsimp only at hSw);go_simp;try with_reducible rfl);try simp only [Act.put,Zgj,Zfx,Zge,putG_a,putG_s,putG_z])
 refine tk0 ?_;refine Zk (by kernel_rfl) ?_ _;refine OnlyNormal.normal ?_;go_wp2_with fail;go_ret;exact ⟨rfl,hB6⟩
end Go.Proofs.YtigdclhagmnopaaGreat
