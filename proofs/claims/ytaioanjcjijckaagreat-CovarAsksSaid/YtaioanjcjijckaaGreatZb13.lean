/- Reference of frac: Reduced. Package frac: reduce. Package -/
import Derived.Defers
import Derived.Recover
import Derived.Test.YtaioanjcjijckaaGreatZb12
set_option maxRecDepth 100000
set_option maxHeartbeats 1000000
set_option linter.unusedSimpArgs false
set_option linter.unusedVariables false
namespace Go.Proofs.YtaioanjcjijckaaGreat
open Go.RowKit
attribute [local go_sem] Zf
theorem Zfi (na:Bool) (A B:Option Addr) (n c m d:Nat) (za zb:Int) (w:World) (ha:Wd w na A n c za) (hb:Wd w false B m d zb) (h0:0 < zb) :
    Calls Tryz.prog 47 #[.agg #[.bool na,.slice A n c],.agg #[.bool false,.slice B m d]] w (Zdi w (Rat.divInt za zb)):=by
 have hgs:=Zc9 ha.small hb.small;have hx:=Za (Zh1 (a:=za) (b:=zb) (by omega));have hy:=Za (Zhi (a:=za) (b:=zb) (by omega));have hG0:=Za (Zi2 (a:=za) (b:=zb) (by omega))
 have hGE:Ze6 za zb=(Nat.gcd za.natAbs zb.natAbs:Nat):=by unfold Ze6;rw [if_neg (by omega)]
 rw [hGE] at hx hy hG0;have HA:=Za ha;have HB:=Za hb;obtain ⟨G,hG⟩:∃ G,Nat.gcd za.natAbs zb.natAbs=G:=⟨_,rfl⟩;rw [hG] at hx hy hG0 hgs
 have HGc:Hid (∀ W:World,Wd W na A n c za->Wd W false B m d zb->Calls Tryz.prog 101 #[.agg #[.bool na,.slice A n c],.agg #[.bool false,.slice B m d]] W (ResW W (G:Int))):=fun W h1 h2=>by
  have:=Zi6 na false A B n c m d za zb W h1 h2;rw [hG] at this;exact this
 generalize Rat.divInt za zb=R at *
 clear ha hb hG hGE
 have hB0:∀ X Y Z:Obj,Below w.heap.size w (((w.alloc X).alloc Y).alloc Z):=fun X Y Z=>(((Below.refl w.heap.size w).alloc (Nat.le_refl _) _).alloc (by simp) _).alloc (by simp;omega) _
 have hB0:=Za hB0;go_enter Tryz.func47,Tryz.ntmps47;go_wp2_with fail;have q0:Blk (((w.alloc (.cells #[.bool na,.slice A n c] 27)).alloc (.cells #[.bool false,.slice B m d] 27)).alloc (.cells #[.bool false,.slice none 0 0,.bool false,.slice none 0 0] 29)) w.heap.size 27 #[.bool na,.slice A n c]:=((Blk.new _ _ _).alloc _).alloc _
 have q1:Blk (((w.alloc (.cells #[.bool na,.slice A n c] 27)).alloc (.cells #[.bool false,.slice B m d] 27)).alloc (.cells #[.bool false,.slice none 0 0,.bool false,.slice none 0 0] 29)) (w.heap.size+1) 27 #[.bool false,.slice B m d]:=by
  have:=(Blk.new (w.alloc (.cells #[.bool na,.slice A n c] 27)) 27 #[.bool false,.slice B m d]).alloc (.cells #[.bool false,.slice none 0 0,.bool false,.slice none 0 0] 29);simp only [World.size_alloc] at this;exact this
 have q2:Blk (((w.alloc (.cells #[.bool na,.slice A n c] 27)).alloc (.cells #[.bool false,.slice B m d] 27)).alloc (.cells #[.bool false,.slice none 0 0,.bool false,.slice none 0 0] 29)) (w.heap.size+1+1) 29 #[.bool false,.slice none 0 0,.bool false,.slice none 0 0]:=by
  have:=Blk.new ((w.alloc (.cells #[.bool na,.slice A n c] 27)).alloc (.cells #[.bool false,.slice B m d] 27)) 29 #[.bool false,.slice none 0 0,.bool false,.slice none 0 0];simp only [World.size_alloc] at this;exact this
 refine (HGc.out _ (((HA.out.alloc _).alloc _).alloc _) (((HB.out.alloc _).alloc _).alloc _)).mono ?_;rintro e w1 ⟨hb1,ng,Ag,kg,cg,code,rfl,hR⟩
 rcases hR with ⟨-,rfl,hgw⟩ | ⟨hbig,-⟩
 case inr=>exact absurd hbig (by omega)
 have hB1:Below w.heap.size w w1:=(hB0.out _ _ _).trans (hb1.mono (by simp;omega));have HA1:=Za (HA.out.below hB1);have HB1:=Za (HB.out.below hB1)
 have s1:w.heap.size+1+1 < w1.heap.size:=by have:=hb1.size;simp at this;omega
 replace q0:=Zc hb1 q0;replace q1:=Zc hb1 q1;replace q2:=Zc hb1 q2;have HG2:=Za hgw;have s2:w.heap.size+1+1 < w1.heap.size:=s1;clear hb1 hgw;obtain ⟨W3,hW3,hB3,q3,kW,kB,s3⟩:=Z5 27 #[.bool ng,.slice Ag kg cg] hB1 (by omega);replace q0:=kB _ _ _ q0;replace q1:=kB _ _ _ q1;replace q2:=kB _ _ _ q2;have HA3:=Za (kW _ _ _ _ _ HA1.out);have HB3:=Za (kW _ _ _ _ _ HB1.out);have HG3:=Za (kW _ _ _ _ _ HG2.out);have s4:w.heap.size+1+1 < w1.heap.size:=s2;clear kW kB HA1 HB1 HG2 hB1;have c0:=Za q0.two;have c1:=Za q1.two;have c3:=Za q3.two;rw [<- hW3] at c0 c1 c3;obtain ⟨c00,c01,-,-⟩:=c0.out;obtain ⟨c10,c11,-,-⟩:=c1.out;obtain ⟨c30,c31,-,-⟩:=c3.out;have hq:=Za (And.intro q0 (And.intro q1 (And.intro q2 q3)));clear q0 q1 q2 q3;replace hW3:=Za hW3;go_wp2_with fail;rw [hW3.out];refine (Zcq na ng A Ag n c kg cg za G _ HA3.out HG3.out hG0.out).mono ?_;rintro e w4 ⟨hb4,nx,Ax,kx,cx,nr,Ar,kr,cr,rfl,hwx,-⟩;rw [hx.out] at hwx;have hB4:Below w.heap.size w w4:=hB3.trans (hb4.mono (by omega));have HB4:=Za (HB3.out.below hb4);have HG4:=Za (HG3.out.below hb4)
 have s5:w1.heap.size+1 <= w4.heap.size:=by have:=hb4.size;omega
 have q1:=Zc hb4 hq.out.2.1;have q2:=Zc hb4 hq.out.2.2.1;have q3:=Zc hb4 hq.out.2.2.2;clear hb4 c0 c1 c3 c00 c01 c10 c11 c30 c31 hW3 HA3 HB3 HG3 hB3 hq;obtain ⟨W5,hW5,hB5,q5,kW,kB,s6⟩:=Z5 27 #[.bool nx,.slice Ax kx cx] hB4 (by omega);replace q1:=kB _ _ _ q1;replace q2:=kB _ _ _ q2;replace q3:=kB _ _ _ q3;have HB5:=Za (kW _ _ _ _ _ HB4.out);have HG5:=Za (kW _ _ _ _ _ HG4.out);have HX5:=Za (kW _ _ _ _ _ hwx);clear kW kB HB4 HG4 hwx hB4;obtain ⟨W6,hW6,hB6,-,kW,kB,s7⟩:=Z5 27 #[.bool nr,.slice Ar kr cr] hB5 (by omega);replace q1:=kB _ _ _ q1;replace q2:=kB _ _ _ q2;replace q3:=kB _ _ _ q3;replace q5:=kB _ _ _ q5;have HB6:=Za (kW _ _ _ _ _ HB5.out);have HG6:=Za (kW _ _ _ _ _ HG5.out);have HX6:=Za (kW _ _ _ _ _ HX5.out);clear kW kB HB5 HG5 HX5 hB5;have c1:=Za q1.two;have c3:=Za q3.two;rw [<- hW6,<- hW5] at c1 c3;obtain ⟨c10,c11,-,-⟩:=c1.out;obtain ⟨c30,c31,-,-⟩:=c3.out;have hq:=Za (And.intro q2 q5);clear q1 q2 q3 q5;rw [<- hW5] at hW6;replace hW6:=Za hW6;clear hW5;go_wp2_with fail;rw [hW6.out];refine (Zcq false ng B Ag m d kg cg zb G _ HB6.out HG6.out hG0.out).mono ?_;rintro e w7 ⟨hb7,ny,Ay,ky,cy,ns,As,ks,cs,rfl,hwy,-⟩;rw [hy.out] at hwy;have hB7:Below w.heap.size w w7:=hB6.trans (hb7.mono (by omega));have HX7:=Za (HX6.out.below hb7)
 have s8:w4.heap.size+2 <= w7.heap.size:=by have:=hb7.size;omega
 have q2:=Zc hb7 hq.out.1;have q5:=Zc hb7 hq.out.2;clear hb7 c1 c3 c10 c11 c30 c31 hW6 HB6 HG6 HX6 hB6 hq;obtain ⟨W8,hW8,hB8,q8,kW,kB,s9⟩:=Z5 27 #[.bool ny,.slice Ay ky cy] hB7 (by omega);replace q2:=kB _ _ _ q2;replace q5:=kB _ _ _ q5;have HX8:=Za (kW _ _ _ _ _ HX7.out);have HY8:=Za (kW _ _ _ _ _ hwy);clear kW kB HX7 hwy hB7;obtain ⟨W9,hW9,hB9,-,kW,kB,s10⟩:=Z5 27 #[.bool ns,.slice As ks cs] hB8 (by omega);replace q2:=kB _ _ _ q2;replace q5:=kB _ _ _ q5;replace q8:=kB _ _ _ q8;have HX9:=Za (kW _ _ _ _ _ HX8.out);have HY9:=Za (kW _ _ _ _ _ HY8.out);clear kW kB HX8 HY8 hB8;have c5:=Za q5.two;have c8:=Za q8.two;have c2:=Za q2.four;have hq:=Za q2;rw [<- hW9,<- hW8] at c5 c8 c2;rw [<- hW8] at hW9;clear hW8 q2 q5 q8;obtain ⟨c50,c51,-,-⟩:=c5.out;obtain ⟨c80,c81,-,-⟩:=c8.out;obtain ⟨c20,c21,c22,c23,f20,f21,f22,f23⟩:=c2.out;replace hW9:=Za hW9;replace hB9:=Za hB9;go_wp2_with fail;rw [hW9.out];obtain ⟨W,hW,hB,hblk,kW,-⟩:=Zv nx Ax kx cx ny Ay ky cy hB9.out (by omega) hq.out;rw [hW];obtain ⟨r0,r1,r2,r3,-⟩:=hblk.four;refine bodyPost_ret (v:=.agg #[.bool nx,.slice Ax kx cx,.bool ny,.slice Ay ky cy]) (by simp [results,Tryz.results47,go_sem,r0,r1,r2,r3]) rfl ?_;exact ⟨hB,_,_,_,_,_,_,_,_,rfl,kW _ _ _ _ _ HX9.out,kW _ _ _ _ _ HY9.out⟩
theorem Zg4 (na:Bool) (A B:Option Addr) (n c m d:Nat) (za zb:Int) (w:World) (ha:Wd w na A n c za) (hb:Wd w false B m d zb) (h0:0 < zb) :
    Calls Tryz.prog 189 #[.agg #[.bool na,.slice A n c],.agg #[.bool false,.slice B m d]] w (Zdi w (Rat.divInt za zb)):=by
 have hgs:=Zc9 ha.small hb.small;have hx:=Za (Zh1 (a:=za) (b:=zb) (by omega));have hy:=Za (Zhi (a:=za) (b:=zb) (by omega));have hG0:=Za (Zi2 (a:=za) (b:=zb) (by omega))
 have hGE:Ze6 za zb=(Nat.gcd za.natAbs zb.natAbs:Nat):=by unfold Ze6;rw [if_neg (by omega)]
 rw [hGE] at hx hy hG0;have HA:=Za ha;have HB:=Za hb;obtain ⟨G,hG⟩:∃ G,Nat.gcd za.natAbs zb.natAbs=G:=⟨_,rfl⟩;rw [hG] at hx hy hG0 hgs
 have HGc:Hid (∀ W:World,Wd W na A n c za->Wd W false B m d zb->Calls Tryz.prog 179 #[.agg #[.bool na,.slice A n c],.agg #[.bool false,.slice B m d]] W (ResW W (G:Int))):=fun W h1 h2=>by
  have:=Zjn na false A B n c m d za zb W h1 h2;rw [hG] at this;exact this
 generalize Rat.divInt za zb=R at *
 clear ha hb hG hGE
 have hB0:∀ X Y Z:Obj,Below w.heap.size w (((w.alloc X).alloc Y).alloc Z):=fun X Y Z=>(((Below.refl w.heap.size w).alloc (Nat.le_refl _) _).alloc (by simp) _).alloc (by simp;omega) _
 have hB0:=Za hB0;go_enter Tryz.func189,Tryz.ntmps189;go_wp2_with fail;have q0:Blk (((w.alloc (.cells #[.bool na,.slice A n c] 27)).alloc (.cells #[.bool false,.slice B m d] 27)).alloc (.cells #[.bool false,.slice none 0 0,.bool false,.slice none 0 0] 29)) w.heap.size 27 #[.bool na,.slice A n c]:=((Blk.new _ _ _).alloc _).alloc _
 have q1:Blk (((w.alloc (.cells #[.bool na,.slice A n c] 27)).alloc (.cells #[.bool false,.slice B m d] 27)).alloc (.cells #[.bool false,.slice none 0 0,.bool false,.slice none 0 0] 29)) (w.heap.size+1) 27 #[.bool false,.slice B m d]:=by
  have:=(Blk.new (w.alloc (.cells #[.bool na,.slice A n c] 27)) 27 #[.bool false,.slice B m d]).alloc (.cells #[.bool false,.slice none 0 0,.bool false,.slice none 0 0] 29);simp only [World.size_alloc] at this;exact this
 have q2:Blk (((w.alloc (.cells #[.bool na,.slice A n c] 27)).alloc (.cells #[.bool false,.slice B m d] 27)).alloc (.cells #[.bool false,.slice none 0 0,.bool false,.slice none 0 0] 29)) (w.heap.size+1+1) 29 #[.bool false,.slice none 0 0,.bool false,.slice none 0 0]:=by
  have:=Blk.new ((w.alloc (.cells #[.bool na,.slice A n c] 27)).alloc (.cells #[.bool false,.slice B m d] 27)) 29 #[.bool false,.slice none 0 0,.bool false,.slice none 0 0];simp only [World.size_alloc] at this;exact this
 refine (HGc.out _ (((HA.out.alloc _).alloc _).alloc _) (((HB.out.alloc _).alloc _).alloc _)).mono ?_;rintro e w1 ⟨hb1,ng,Ag,kg,cg,code,rfl,hR⟩
 rcases hR with ⟨-,rfl,hgw⟩ | ⟨hbig,-⟩
 case inr=>exact absurd hbig (by omega)
 have hB1:Below w.heap.size w w1:=(hB0.out _ _ _).trans (hb1.mono (by simp;omega));have HA1:=Za (HA.out.below hB1);have HB1:=Za (HB.out.below hB1)
 have s1:w.heap.size+1+1 < w1.heap.size:=by have:=hb1.size;simp at this;omega
 replace q0:=Zc hb1 q0;replace q1:=Zc hb1 q1;replace q2:=Zc hb1 q2;obtain ⟨c00,c01,-,-⟩:=q0.two;obtain ⟨c10,c11,-,-⟩:=q1.two;have hq:=Za (And.intro q0 (And.intro q1 q2));clear q0 q1 q2 hb1;go_wp2_with fail;refine (Zdd ng Ag kg cg _).mono ?_;rintro e w2 ⟨rfl,hb2⟩;have hB2:Below w.heap.size w w2:=hB1.trans (hb2.mono hB1.size);have HA2:=Za (HA1.out.below hb2);have HB2:=Za (HB1.out.below hb2);have HG2:=Za (hgw.below hb2)
 have s2:w.heap.size+1+1 < w2.heap.size:=by have:=hb2.size;omega
 have q0:=Zc hb2 hq.out.1;have q1:=Zc hb2 hq.out.2.1;have q2:=Zc hb2 hq.out.2.2;clear c00 c01 c10 c11 hB1 hb2 hgw HA1 HB1 hq;obtain ⟨W3,hW3,hB3,q3,kW,kB,s3⟩:=Z5 27 #[.bool ng,.slice Ag kg cg] hB2 (by omega);replace q0:=kB _ _ _ q0;replace q1:=kB _ _ _ q1;replace q2:=kB _ _ _ q2;have HA3:=Za (kW _ _ _ _ _ HA2.out);have HB3:=Za (kW _ _ _ _ _ HB2.out);have HG3:=Za (kW _ _ _ _ _ HG2.out);have s4:w.heap.size+1+1 < w2.heap.size:=s2;clear kW kB HA2 HB2 HG2 hB2;have c0:=Za q0.two;have c1:=Za q1.two;have c3:=Za q3.two;rw [<- hW3] at c0 c1 c3;obtain ⟨c00,c01,-,-⟩:=c0.out;obtain ⟨c10,c11,-,-⟩:=c1.out;obtain ⟨c30,c31,-,-⟩:=c3.out;have hq:=Za (And.intro q0 (And.intro q1 (And.intro q2 q3)));clear q0 q1 q2 q3;replace hW3:=Za hW3;go_wp2_with fail;rw [hW3.out];refine (Zgm na ng A Ag n c kg cg za G _ HA3.out HG3.out hG0.out).mono ?_;rintro e w4 ⟨hb4,nx,Ax,kx,cx,nr,Ar,kr,cr,rfl,hwx,-⟩;rw [hx.out] at hwx;have hB4:Below w.heap.size w w4:=hB3.trans (hb4.mono (by omega));have HB4:=Za (HB3.out.below hb4);have HG4:=Za (HG3.out.below hb4)
 have s5:w2.heap.size+1 <= w4.heap.size:=by have:=hb4.size;omega
 have q1:=Zc hb4 hq.out.2.1;have q2:=Zc hb4 hq.out.2.2.1;have q3:=Zc hb4 hq.out.2.2.2;clear hb4 c0 c1 c3 c00 c01 c10 c11 c30 c31 hW3 HA3 HB3 HG3 hB3 hq;obtain ⟨W5,hW5,hB5,q5,kW,kB,s6⟩:=Z5 27 #[.bool nx,.slice Ax kx cx] hB4 (by omega);replace q1:=kB _ _ _ q1;replace q2:=kB _ _ _ q2;replace q3:=kB _ _ _ q3;have HB5:=Za (kW _ _ _ _ _ HB4.out);have HG5:=Za (kW _ _ _ _ _ HG4.out);have HX5:=Za (kW _ _ _ _ _ hwx);clear kW kB HB4 HG4 hwx hB4;obtain ⟨W6,hW6,hB6,-,kW,kB,s7⟩:=Z5 27 #[.bool nr,.slice Ar kr cr] hB5 (by omega);replace q1:=kB _ _ _ q1;replace q2:=kB _ _ _ q2;replace q3:=kB _ _ _ q3;replace q5:=kB _ _ _ q5;have HB6:=Za (kW _ _ _ _ _ HB5.out);have HG6:=Za (kW _ _ _ _ _ HG5.out);have HX6:=Za (kW _ _ _ _ _ HX5.out);clear kW kB HB5 HG5 HX5 hB5;have c1:=Za q1.two;have c3:=Za q3.two;rw [<- hW6,<- hW5] at c1 c3;obtain ⟨c10,c11,-,-⟩:=c1.out;obtain ⟨c30,c31,-,-⟩:=c3.out;have hq:=Za (And.intro q2 q5);clear q1 q2 q3 q5;rw [<- hW5] at hW6;replace hW6:=Za hW6;clear hW5;go_wp2_with fail;rw [hW6.out];refine (Zgm false ng B Ag m d kg cg zb G _ HB6.out HG6.out hG0.out).mono ?_;rintro e w7 ⟨hb7,ny,Ay,ky,cy,ns,As,ks,cs,rfl,hwy,-⟩;rw [hy.out] at hwy;have hB7:Below w.heap.size w w7:=hB6.trans (hb7.mono (by omega));have HX7:=Za (HX6.out.below hb7)
 have s8:w4.heap.size+2 <= w7.heap.size:=by have:=hb7.size;omega
 have q2:=Zc hb7 hq.out.1;have q5:=Zc hb7 hq.out.2;clear hb7 c1 c3 c10 c11 c30 c31 hW6 HB6 HG6 HX6 hB6 hq;obtain ⟨W8,hW8,hB8,q8,kW,kB,s9⟩:=Z5 27 #[.bool ny,.slice Ay ky cy] hB7 (by omega);replace q2:=kB _ _ _ q2;replace q5:=kB _ _ _ q5;have HX8:=Za (kW _ _ _ _ _ HX7.out);have HY8:=Za (kW _ _ _ _ _ hwy);clear kW kB HX7 hwy hB7;obtain ⟨W9,hW9,hB9,-,kW,kB,s10⟩:=Z5 27 #[.bool ns,.slice As ks cs] hB8 (by omega);replace q2:=kB _ _ _ q2;replace q5:=kB _ _ _ q5;replace q8:=kB _ _ _ q8;have HX9:=Za (kW _ _ _ _ _ HX8.out);have HY9:=Za (kW _ _ _ _ _ HY8.out);clear kW kB HX8 HY8 hB8;have c5:=Za q5.two;have c8:=Za q8.two;have c2:=Za q2.four;have hq:=Za q2;rw [<- hW9,<- hW8] at c5 c8 c2;rw [<- hW8] at hW9;clear hW8 q2 q5 q8;obtain ⟨c50,c51,-,-⟩:=c5.out;obtain ⟨c80,c81,-,-⟩:=c8.out;obtain ⟨c20,c21,c22,c23,f20,f21,f22,f23⟩:=c2.out;replace hW9:=Za hW9;replace hB9:=Za hB9;go_wp2_with fail;rw [hW9.out];obtain ⟨W,hW,hB,hblk,kW,-⟩:=Zv nx Ax kx cx ny Ay ky cy hB9.out (by omega) hq.out;rw [hW];obtain ⟨r0,r1,r2,r3,-⟩:=hblk.four;refine bodyPost_ret (v:=.agg #[.bool nx,.slice Ax kx cx,.bool ny,.slice Ay ky cy]) (by simp [results,Tryz.results189,go_sem,r0,r1,r2,r3]) rfl ?_;exact ⟨hB,_,_,_,_,_,_,_,_,rfl,kW _ _ _ _ _ HX9.out,kW _ _ _ _ _ HY9.out⟩
theorem Zel (w:World) :
    Calls Tryz.prog 145 #[.int .i64 0] w fun e w'=>e=.returned (.tuple #[])/\w'=w:=by
 go_enter Tryz.func145,Tryz.ntmps145;go_wp2_with fail
 go_end0
 exact ⟨rfl,rfl⟩
theorem Zfp (p:Addr) (w:World) :
    CallsD Tryz.prog 144 #[.pointer (some p)] .returning w fun e u' w'=>e=.returned (.tuple #[])/\u'=.returning/\w'=w:=by
 refine callsD_of_wpS Tryz.func144 rfl fun c₀ cs hu=>?_
 apply wpS_seq
 apply wpS_region
 simp [wpOpsS,go_sem,recoverD,hu,Tryz.ntmps144,Exit.thenS]
 rw [show (#[Value.pointer (some p)] ++ (Array.replicate 14 undef).setIfInBounds 4 Value.nilIface)=#[Value.pointer (some p),undef,undef,undef,undef,Value.nilIface,undef,undef,undef,undef,undef,undef,undef,undef,undef] from rfl];refine wpS_of_wp ?_;go_wp2_with fail
 cases c₀
 simp_all [bodyPostS,results,Tryz.results144]
theorem Zo0 (na:Bool) (A B:Option Addr) (n c m d:Nat) (za zb:Int) (w:World) (ha:Wd w na A n c za) (hb:Wd w false B m d zb) (h0:0 < zb) :
    Calls Tryz.prog 121 #[.agg #[.bool na,.slice A n c],.agg #[.bool false,.slice B m d]] w (Zei w (Rat.divInt za zb)):=by
 have hm0:0 < m:=by rw [<- hb.lim.len];exact length_digits_pos.2 (by omega)
 have hm0':((m:Int) == 0)=false:=by simp;omega
 have hm:=hb.2.1;have HA:=Za ha;have HB:=Za hb;clear ha hb;obtain ⟨W0,hW0,hB0,hq,s0⟩:=Ze9 w 27 #[.bool na,.slice A n c] 27 #[.bool false,.slice B m d] 29 #[.bool false,.slice none 0 0,.bool false,.slice none 0 0] 30 #[.int .i64 0];replace hW0:=Za hW0;replace hq:=Za hq
 go_enter_defers Tryz.func121,Tryz.ntmps121
 go_wp2_with fail;rw [hW0.out];have HA0:=Za (HA.out.below hB0);have HB0:=Za (HB.out.below hB0);clear HA HB hW0;refine (Zlx na A n c _ W0 HA0.out.lim).mono ?_;rw [HA0.out.ok];rintro e w1 ⟨rfl,hb1⟩;have hB1:Below w.heap.size w w1:=hB0.trans (hb1.mono hB0.size);have s1:W0.heap.size <= w1.heap.size:=hb1.size;have HA1:=Za (HA0.out.below hb1);have HB1:=Za (HB0.out.below hb1);obtain ⟨q0,q1,q2,q3⟩:=hq.out;replace q0:=Zc hb1 q0;replace q1:=Zc hb1 q1;replace q2:=Zc hb1 q2;replace q3:=Zc hb1 q3;obtain ⟨c00,c01,-,-⟩:=q0.two;obtain ⟨c10,c11,-,-⟩:=q1.two;clear hq hb1 HA0 HB0 hB0;have hq:=Za (And.intro q0 (And.intro q1 (And.intro q2 q3)));clear q0 q1 q2 q3;simp only [Zft,if_true];go_wp2_with fail;refine (Zel w1).mono ?_;rintro e w1 ⟨rfl,rfl⟩;go_wp2_with fail;refine (Zlx false B m d _ w1 HB1.out.lim).mono ?_;rw [HB1.out.ok];rintro e w2 ⟨rfl,hb2⟩;have hB2:Below w.heap.size w w2:=hB1.trans (hb2.mono hB1.size);have s2:w1.heap.size <= w2.heap.size:=hb2.size;have HA2:=Za (HA1.out.below hb2);have HB2:=Za (HB1.out.below hb2);obtain ⟨q0,q1,q2,q3⟩:=hq.out;replace q0:=Zc hb2 q0;replace q1:=Zc hb2 q1;replace q2:=Zc hb2 q2;replace q3:=Zc hb2 q3;clear c00 c01 c10 c11;obtain ⟨c00,c01,-,-⟩:=q0.two;obtain ⟨c10,c11,-,-⟩:=q1.two;clear hq hb2 HA1 HB1 hB1;have hq:=Za (And.intro q0 (And.intro q1 (And.intro q2 q3)));clear q0 q1 q2 q3;simp only [Zft,if_true];go_wp2_with fail;refine (Zel w2).mono ?_;rintro e w2 ⟨rfl,rfl⟩;go_wp2_with fail;refine (Zhu false B m d w2 (by omega) false hm0').mono ?_
 rintro e w3 ⟨rfl,hb3⟩;have hB3:Below w.heap.size w w3:=hB2.trans (hb3.mono hB2.size);have s3:w2.heap.size <= w3.heap.size:=hb3.size;have HA3:=Za (HA2.out.below hb3);have HB3:=Za (HB2.out.below hb3);obtain ⟨q0,q1,q2,q3⟩:=hq.out;replace q0:=Zc hb3 q0;replace q1:=Zc hb3 q1;replace q2:=Zc hb3 q2;replace q3:=Zc hb3 q3;clear c00 c01 c10 c11;obtain ⟨c00,c01,-,-⟩:=q0.two;obtain ⟨c10,c11,-,-⟩:=q1.two;clear hq hb3 HA2 HB2 hB2;have hq:=Za (And.intro q2 q3);clear q0 q1 q2 q3;go_wp2_with fail;refine (Zg4 na A B n c m d za zb w3 HA3.out HB3.out h0).mono ?_;rintro e w4 ⟨hb4,nx,Ax,kx,cx,ny,Ay,ky,cy,rfl,hF⟩;have hB4:Below w.heap.size w w4:=hB3.trans (hb4.mono hB3.size);have s4:w3.heap.size <= w4.heap.size:=hb4.size;have q2:=Zc hb4 hq.out.1;have q3:=Zc hb4 hq.out.2;clear hq hb4 HA3 HB3 hB3 c00 c01 c10 c11;have c2:=Za q2.four;have c3:=q3.cell 0;have f3:=q3.frozen 0
 simp at c3
 obtain ⟨c20,c21,c22,c23,f20,f21,f22,f23⟩:=c2.out;have hq:=Za (And.intro q2 q3);clear q2 q3;go_wp2_with fail;obtain ⟨W5,hW5,hB5,q2,kW,kB,s5⟩:=Zv nx Ax kx cx ny Ay ky cy hB4 (by omega) hq.out.1;have q3:=kB _ _ _ (by omega) hq.out.2;have HX5:=Za (kW _ _ _ _ _ hF.1);have HY5:=Za (kW _ _ _ _ _ hF.2);rw [hW5];clear kW kB c20 c21 c22 c23 c3 f3 f20 f21 f22 f23 hq hF;obtain ⟨W6,hW6,hB6,q3,kW,kB,s6⟩:=Zbu 0 hB5 (by omega) q3;replace q2:=kB _ _ _ (by omega) q2;have HX6:=Za (kW _ _ _ _ _ HX5.out);have HY6:=Za (kW _ _ _ _ _ HY5.out);rw [hW6];obtain ⟨r0,r1,r2,r3,-⟩:=q2.four;have r4:=q3.cell 0
 simp at r4
 clear kW kB hB5 HX5 HY5 hW5 hW6;refine leaves_cons (f:=144) (args:=#[.pointer (some ⟨w.heap.size+1+1+1,0,none⟩)]) (by simp) (by simp [go_sem]) ?_;refine (Zfp _ _).mono ?_;rintro e u' w'' ⟨rfl,rfl,rfl⟩;refine ⟨.tuple #[.agg #[.bool nx,.slice Ax kx cx,.bool ny,.slice Ay ky cy],.int .i64 0],by simp [results,Tryz.results121,go_sem,r0,r1,r2,r3,r4],?_⟩;exact ⟨hB6,_,_,_,_,_,_,_,_,rfl,HX6.out,HY6.out⟩
theorem Zie (na nb:Bool) (A B:Option Addr) (n c m d:Nat) (za zb:Int) (w:World) (ha:Wd w na A n c za) (hb:Wd w nb B m d zb) :
    Calls Tryz.prog 186 #[.agg #[.bool na,.slice A n c],.agg #[.bool nb,.slice B m d]] w (ResW w (za * zb)):=by
 have hLa:=ha.lim;have hLb:=hb.lim;have hn:=ha.2.1;have hm:=hb.2.1
 have hB0:∀ X Y Z V:Obj,Below w.heap.size w ((((w.alloc X).alloc Y).alloc Z).alloc V):=fun X Y Z V=>((((Below.refl w.heap.size w).alloc (Nat.le_refl _) _).alloc (by simp) _).alloc (by simp;omega) _).alloc (by simp;omega) _
 have hW:∀ X Y Z t,WL ((((w.alloc X).alloc Y).alloc Z).alloc (.cells #[.bool na,.slice A n c,.bool nb,.slice B m d] t)) (some ⟨w.heap.size+1+1+1,0,none⟩) 2 2 [⟨na,A,n,c,digits za.natAbs⟩,⟨nb,B,m,d,digits zb.natAbs⟩]:=fun X Y Z t=>by
  have:=WL.two (neg:=na) (neg':=nb) (((hLa.alloc X).alloc Y).alloc Z) (((hLb.alloc X).alloc Y).alloc Z) t;simp only [World.size_alloc] at this;exact this
 have hW:=Za hW;have hB0:=Za hB0;have hgood:Hid (okW na (digits za.natAbs)=true/\okW nb (digits zb.natAbs)=true):=⟨ha.ok,hb.ok⟩;have hza:=Za ha.sgEq;have hzb:=Za hb.sgEq;clear ha hb;go_enter Tryz.func186,Tryz.ntmps186;go_wp2_with fail;refine (Zc0 (hW.out _ _ _ _) (by have:=hgood.out;simp [WE.ok,this])).mono ?_;rintro e w1 ⟨rfl,hb1⟩;obtain ⟨hc1,hf1⟩:=Zca hb1
 have hz1:w.heap.size+1+1+1 < w1.heap.size:=by have:=hb1.size;simp at this;omega
 have hB1:Below w.heap.size w w1:=(hB0.out _ _ _ _).trans (hb1.mono (by simp;omega))
 have g0:w1.cell? ⟨w.heap.size,0,none⟩=some (.bool na):=by simp [hc1,go_sem]
 have g1:w1.cell? ⟨w.heap.size,1,none⟩=some (.slice A n c):=by simp [hc1,go_sem]
 have g2:w1.cell? ⟨w.heap.size+1,0,none⟩=some (.bool nb):=by simp [hc1,go_sem]
 have g3:w1.cell? ⟨w.heap.size+1,1,none⟩=some (.slice B m d):=by simp [hc1,go_sem]
 have gf:w1.frozen? ⟨w.heap.size+1,0,none⟩=false:=by simp [hf1,go_sem]
 have gB:Blk w1 (w.heap.size+1) 27 #[.bool nb,.slice B m d]:=by
  refine Zc hb1 ((Blk.alloc (Blk.alloc ?_ _) _));have:=Blk.new (w.alloc (.cells #[.bool na,.slice A n c] 27)) 27 #[.bool nb,.slice B m d];simp only [World.size_alloc] at this;exact this
 have g7:Blk w1 (w.heap.size+1+1) 27 #[.bool false,.slice none 0 0]:=by
  refine Zc hb1 (Blk.alloc ?_ _);have:=Blk.new ((w.alloc (.cells #[.bool na,.slice A n c] 27)).alloc (.cells #[.bool nb,.slice B m d] 27)) 27 #[.bool false,.slice none 0 0];simp only [World.size_alloc] at this;exact this
 have hLa1:=hLa.below hB1;have hLb1:=hLb.below hB1;have HB:=Za gB;clear gB hc1 hf1;have g5:=g7.cell 0;have g6:=g7.cell 1;have g8:=g7.frozen 0;have g9:=g7.frozen 1
 simp at g5 g6
 go_wp2_with fail
 go_region_held3 (fun w'=>w'.cell? ⟨w.heap.size,0,none⟩=some (.bool na)/\w'.cell? ⟨w.heap.size,1,none⟩=some (.slice A n c)/\w'.cell? ⟨w.heap.size+1,0,none⟩=some (.bool nb)/\w'.cell? ⟨w.heap.size+1,1,none⟩=some (.slice B m d))
  (((try dsimp only);(repeat' apply And.intro);all_goals (first | go_keep | (simp [*,go_sem];done))))
  (first
   | (go_at_call 220;refine (Zr5 _ _ _ _ _ _ _ _ _ (by exact hLa1) (by exact hLb1) (by omega) (by omega)).mono ?_;rintro e w2 ⟨A2,n2,c2,l2,rfl,hL2,hP2,hb2⟩;have k0:=Zb hb2 g0;have k1:=Zb hb2 g1;have j0:=Zb hb2 g2;have k2:=Zb hb2 g3;have k3:=Zb hb2 g5;have k4:=Zb hb2 g6;have k5:=Zk hb2 g5 g8;have k6:=Zk hb2 g6 g9;have k7:=Zc hb2 g7)
   | (go_at_call 155;refine (Zbt _ _ _ _ _ _ (by exact hL2)).mono ?_;rintro e w3 ⟨hb3,neg3,A3,n3,c3,code3,rfl,hR3⟩;have m0:=Zb hb3 k0;have m1:=Zb hb3 k1;have i0:=Zb hb3 j0;have m2:=Zb hb3 k2;have m3:=Zb hb3 k3;have m4:=Zb hb3 k4;have m5:=Zk hb3 k3 k5;have m6:=Zk hb3 k4 k6;have m7:=Zc hb3 k7))
 have hB3:Below w.heap.size w w3:=(hB1.trans ((Zq hb2).mono hB1.size)).trans (hb3.mono (Nat.le_trans hB1.size (Zq hb2).size))
 go_wp2
 have HZ:sg (na != nb) (val l2)=za * zb:=by
  have h1:=hza.out;have h2:=hzb.out;rw [hP2.2,Zty,h1,h2]
 refine bodyPost_ret (v:=.tuple #[.agg #[.bool neg3,.slice A3 n3 c3],.int .i64 code3]) (by simp [results,Tryz.results186,go_sem,m3,m4]) rfl ?_;exact ResW.box (HZ ▸ hR3) hB3 (by omega) m7
theorem Ztv (na nb:Bool) (A B:Option Addr) (n c m d:Nat) (za zb:Int) (w:World) (ha:Wd w na A n c za) (hb:Wd w nb B m d zb) :
    Calls Tryz.prog 128 #[.agg #[.bool na,.slice A n c],.agg #[.bool nb,.slice B m d]] w (ResW w (za - zb)):=by
 have hLa:=ha.lim;have hLb:=hb.lim;have hn:=ha.2.1;have hm:=hb.2.1
 have hB0:∀ X Y Z V:Obj,Below w.heap.size w ((((w.alloc X).alloc Y).alloc Z).alloc V):=fun X Y Z V=>((((Below.refl w.heap.size w).alloc (Nat.le_refl _) _).alloc (by simp) _).alloc (by simp;omega) _).alloc (by simp;omega) _
 have hW:∀ X Y Z t,WL ((((w.alloc X).alloc Y).alloc Z).alloc (.cells #[.bool na,.slice A n c,.bool nb,.slice B m d] t)) (some ⟨w.heap.size+1+1+1,0,none⟩) 2 2 [⟨na,A,n,c,digits za.natAbs⟩,⟨nb,B,m,d,digits zb.natAbs⟩]:=fun X Y Z t=>by
  have:=WL.two (neg:=na) (neg':=nb) (((hLa.alloc X).alloc Y).alloc Z) (((hLb.alloc X).alloc Y).alloc Z) t;simp only [World.size_alloc] at this;exact this
 have hW:=Za hW;have hB0:=Za hB0;have hgood:Hid (okW na (digits za.natAbs)=true/\okW nb (digits zb.natAbs)=true):=⟨ha.ok,hb.ok⟩;have hza:=Za ha.sgEq;have hzb:=Za hb.sgEq;clear ha hb;go_enter Tryz.func128,Tryz.ntmps128;go_wp2_with fail;refine (Zc0 (hW.out _ _ _ _) (by have:=hgood.out;simp [WE.ok,this])).mono ?_;rintro e w1 ⟨rfl,hb1⟩;obtain ⟨hc1,hf1⟩:=Zca hb1
 have hz1:w.heap.size+1+1+1 < w1.heap.size:=by have:=hb1.size;simp at this;omega
 have hB1:Below w.heap.size w w1:=(hB0.out _ _ _ _).trans (hb1.mono (by simp;omega))
 have g0:w1.cell? ⟨w.heap.size,0,none⟩=some (.bool na):=by simp [hc1,go_sem]
 have g1:w1.cell? ⟨w.heap.size,1,none⟩=some (.slice A n c):=by simp [hc1,go_sem]
 have g2:w1.cell? ⟨w.heap.size+1,0,none⟩=some (.bool nb):=by simp [hc1,go_sem]
 have g3:w1.cell? ⟨w.heap.size+1,1,none⟩=some (.slice B m d):=by simp [hc1,go_sem]
 have gf:w1.frozen? ⟨w.heap.size+1,0,none⟩=false:=by simp [hf1,go_sem]
 have gB:Blk w1 (w.heap.size+1) 27 #[.bool nb,.slice B m d]:=by
  refine Zc hb1 ((Blk.alloc (Blk.alloc ?_ _) _));have:=Blk.new (w.alloc (.cells #[.bool na,.slice A n c] 27)) 27 #[.bool nb,.slice B m d];simp only [World.size_alloc] at this;exact this
 have g7:Blk w1 (w.heap.size+1+1) 27 #[.bool false,.slice none 0 0]:=by
  refine Zc hb1 (Blk.alloc ?_ _);have:=Blk.new ((w.alloc (.cells #[.bool na,.slice A n c] 27)).alloc (.cells #[.bool nb,.slice B m d] 27)) 27 #[.bool false,.slice none 0 0];simp only [World.size_alloc] at this;exact this
 have hLa1:=hLa.below hB1;have hLb1:=hLb.below hB1;have HB:=Za gB;clear gB hc1 hf1
 have hB1S:w.heap.size <= (w1.setCell ⟨w.heap.size+1,0,none⟩ (.bool (!nb))).heap.size:=by simp;omega
 go_wp2_with fail;refine (Zra _ _ _ _ _ _ _ _ _ _ _ (by exact hLa1.set_box HB.out (NoLimb.box _ _ _ _) _ _) (by exact hLb1.set_box HB.out (NoLimb.box _ _ _ _) _ _) hn hm).mono ?_;rintro e w2 ⟨hb2,neg2,A2,n2,c2,code2,rfl,hR2⟩;have hB2:Below w.heap.size w w2:=(hB1.setCell (p:=⟨w.heap.size+1,0,none⟩) (by simp) _).trans (hb2.mono hB1S);have m7:=Zc hb2 (g7.far (by simp) _);have m3:=m7.cell 0;have m4:=m7.cell 1;have m5:=m7.frozen 0;have m6:=m7.frozen 1
 simp at m3 m4
 have HM:=Za m7;clear m7;go_wp2_with fail
 have HZ:sg na za.natAbs+sg (!nb) zb.natAbs=za - zb:=by
  have h1:=hza.out;have h2:=hzb.out;rw [Zh] at h1 h2;rw [Zpo,h1,h2];omega
 refine bodyPost_ret (v:=.tuple #[.agg #[.bool neg2,.slice A2 n2 c2],.int .i64 code2]) (by simp [results,Tryz.results128,go_sem,m3,m4]) rfl ?_;exact ResW.box (HZ ▸ hR2) hB2 (by omega) HM.out
theorem Zaw (w:World) (t0:TypeId) (c0:Array Value) :
    ∃ W,w.alloc (.cells c0 t0)=W/\Below w.heap.size w W/\Blk W w.heap.size t0 c0/\W.heap.size=w.heap.size+1:=
 ⟨_,rfl,(Below.refl w.heap.size w).alloc (Nat.le_refl _) _,Blk.new _ _ _,by simp⟩
theorem Zu2 (x y:Int) (w:World) (hx1:-9223372036854775808 <= x) (hx2:x <= 9223372036854775807) (h0:0 < y) (hy:y <= 9223372036854775807) :
    Calls Tryz.prog 65 #[.int .i64 x,.int .i64 y] w (Zei w (Rat.divInt x y)):=by
 obtain ⟨W0,hW0,hB0,hq,s0⟩:=Zaw w 29 #[.bool false,.slice none 0 0,.bool false,.slice none 0 0];replace hW0:=Za hW0;replace hq:=Za hq;go_enter Tryz.func65,Tryz.ntmps65;go_wp2_with fail;rw [hW0.out];clear hW0;refine (Zeh x W0 hx1 hx2).mono ?_;rintro e w1 ⟨hb1,na,A,n,c,rfl,hA⟩;have hB1:Below w.heap.size w w1:=hB0.trans (hb1.mono (by omega));have s1:W0.heap.size <= w1.heap.size:=hb1.size;replace hq:=Za (Zc hb1 hq.out);replace hA:=Za hA;clear hb1 hB0;go_wp2_with fail;refine (Zeh y w1 (by omega) hy).mono ?_;rintro e w2 ⟨hb2,nb,B,m,d,rfl,hB⟩;have hB2:Below w.heap.size w w2:=hB1.trans (hb2.mono (by omega));have s2:w1.heap.size <= w2.heap.size:=hb2.size;replace hq:=Za (Zc hb2 hq.out);replace hA:=Za (hA.out.below hb2)
 have hn:nb=false:=by rw [hB.1];simp;omega
 subst hn;replace hB:=Za hB;clear hb2 hB1;go_wp2_with fail;refine (Zo0 na A B n c m d x y w2 hA.out hB.out h0).mono ?_;rintro e w3 ⟨hb3,nx,Ax,kx,cx,ny,Ay,ky,cy,rfl,hF⟩;have hB3:Below w.heap.size w w3:=hB2.trans (hb3.mono (by omega));have s3:w2.heap.size <= w3.heap.size:=hb3.size;replace hq:=Za (Zc hb3 hq.out);obtain ⟨c20,c21,c22,c23,f20,f21,f22,f23⟩:=hq.out.four;clear hb3 hB2;replace hF:=Za hF;go_wp2_with fail;obtain ⟨W5,hW5,hB5,q2,kW,-,s5⟩:=Zv nx Ax kx cx ny Ay ky cy hB3 (by omega) hq.out;rw [hW5];obtain ⟨r0,r1,r2,r3,-⟩:=q2.four;refine bodyPost_ret (v:=.tuple #[.agg #[.bool nx,.slice Ax kx cx,.bool ny,.slice Ay ky cy],.int .i64 0]) (by simp [results,Tryz.results65,go_sem,r0,r1,r2,r3]) rfl ?_;exact ⟨hB5,_,_,_,_,_,_,_,_,rfl,kW _ _ _ _ _ hF.out.1,kW _ _ _ _ _ hF.out.2⟩
theorem Zeg (na nb na' nb':Bool) (A B A' B':Option Addr) (n c m d n' c' m' d':Nat) (a b:Rat) (w:World) (ha:Fr w na A n c nb B m d a) (hb:Fr w na' A' n' c' nb' B' m' d' b) (hs:(a.num * b.den).natAbs < pw 4096) :
    Calls Tryz.prog 177 #[.agg #[.bool na,.slice A n c,.bool nb,.slice B m d],.agg #[.bool na',.slice A' n' c',.bool nb',.slice B' m' d']] w (NumW w (a.num * b.den)):=by
 obtain ⟨W0,hW0,hB0,⟨q0,q1,q2⟩,s0⟩:=Zb5 w 29 #[.bool na,.slice A n c,.bool nb,.slice B m d] 29 #[.bool na',.slice A' n' c',.bool nb',.slice B' m' d'] 27 #[.bool false,.slice none 0 0];have hA:=Za (ha.1.below hB0);have hD:=Za (hb.2.below hB0);replace hs:=Za hs;clear ha hb;obtain ⟨c00,c01,-⟩:=q0.four;obtain ⟨-,-,c12,c13,-⟩:=q1.four;rw [<- hW0] at c00 c01 c12 c13;replace hW0:=Za hW0;go_enter Tryz.func177,Tryz.ntmps177;go_wp2_with fail;rw [hW0.out];clear hW0 c00 c01 c12 c13;refine (Zie na nb' A B' n c m' d' a.num b.den W0 hA.out hD.out).mono ?_;rintro e w1 ⟨hb1,np,P,k,q,code,rfl,hR⟩
 rcases hR with ⟨-,rfl,hP⟩ | ⟨hbig,-⟩
 case inr=>exact absurd hbig (by have:=hs.out;omega)
 have hB1:Below w.heap.size w w1:=hB0.trans (hb1.mono (by omega));have s1:W0.heap.size <= w1.heap.size:=hb1.size;replace q2:=Zc hb1 q2;clear hb1 hB0 q0 q1;replace q2:=Za q2;replace hP:=Za hP;go_wp2_with fail;refine (Zdd np P k q w1).mono ?_;rintro e w2 ⟨rfl,hb2⟩;have hB2:Below w.heap.size w w2:=hB1.trans (hb2.mono (by omega));have s2:w1.heap.size <= w2.heap.size:=hb2.size;replace q2:=Zc hb2 q2.out;replace hP:=hP.out.below hb2;obtain ⟨c0,c1,f0,f1⟩:=q2.two;replace q2:=Za q2;replace hP:=Za hP;go_wp2_with fail;obtain ⟨W5,hW5,hB5,q3,kW,-,s5⟩:=Zaa np P k q hB2 (by omega) q2.out;rw [hW5];obtain ⟨r0,r1,-⟩:=q3.two;refine bodyPost_ret (v:=.agg #[.bool np,.slice P k q]) (by simp [results,Tryz.results177,go_sem,r0,r1]) rfl ?_;exact ⟨hB5,_,_,_,_,rfl,kW _ _ _ _ _ hP.out⟩
theorem Zic (x:Int) (w:World) (hx1:-9223372036854775808 <= x) (hx2:x <= 9223372036854775807) :
    Calls Tryz.prog 59 #[.int .i64 x] w (Zdi w (x:Rat)):=by
 obtain ⟨W0,hW0,hB0,hq,s0⟩:=Zaw w 29 #[.bool false,.slice none 0 0,.bool false,.slice none 0 0];replace hq:=Za hq;go_enter Tryz.func59,Tryz.ntmps59;go_wp2_with fail;refine (Zdl x W0 hx1 hx2).mono ?_;rintro e w1 ⟨hb1,na,A,n,c,rfl,hA⟩;have hB1:Below w.heap.size w w1:=hB0.trans (hb1.mono (by omega));have s1:W0.heap.size <= w1.heap.size:=hb1.size;replace hq:=Za (Zc hb1 hq.out);replace hA:=Za hA;clear hb1 hB0 hW0;go_wp2_with fail;refine (Zdl 1 w1 (by omega) (by omega)).mono ?_;rintro e w2 ⟨hb2,nb,B,m,d,rfl,hB⟩;have hB2:Below w.heap.size w w2:=hB1.trans (hb2.mono (by omega));have s2:w1.heap.size <= w2.heap.size:=hb2.size;replace hq:=Za (Zc hb2 hq.out);replace hA:=Za (hA.out.below hb2);replace hB:=Za hB;clear hb2 hB1;obtain ⟨c20,c21,c22,c23,f20,f21,f22,f23⟩:=hq.out.four;go_wp2_with fail;obtain ⟨W5,hW5,hB5,q2,kW,-,s5⟩:=Zv na A n c nb B m d hB2 (by omega) hq.out;rw [hW5];obtain ⟨r0,r1,r2,r3,-⟩:=q2.four;refine bodyPost_ret (v:=.agg #[.bool na,.slice A n c,.bool nb,.slice B m d]) (by simp [results,Tryz.results59,go_sem,r0,r1,r2,r3]) rfl ?_;exact ⟨hB5,_,_,_,_,_,_,_,_,rfl,kW _ _ _ _ _ hA.out,kW _ _ _ _ _ hB.out⟩
end Go.Proofs.YtaioanjcjijckaaGreat
