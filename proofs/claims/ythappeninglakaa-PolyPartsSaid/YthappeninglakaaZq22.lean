/- Reference of frac: Reduced. Reference of frac: Make, Of, -/
import Derived.Test.YthappeninglakaaZq16
import Derived.Test.YthappeninglakaaZq20
set_option maxRecDepth 100000
set_option maxHeartbeats 1000000
set_option linter.unusedSimpArgs false
set_option linter.unusedVariables false
namespace Go.Proofs.Ythappeninglakaa
open Go.RowKit
attribute [local go_sem] Zj
theorem Zhn (na : Bool) (A B : Option Addr) (n c m d : Nat) (za zb : Int) (w : World) (ha : Wd w na A n c za) (hb : Wd w false B m d zb) (h0 : 0 < zb) :
    Calls Try.prog 94 #[.agg #[.bool na,.slice A n c],.agg #[.bool false,.slice B m d]] w (FracW w (Rat.divInt za zb)):=by
 have hgs:=Zqo ha.small hb.small;have hx:=Zb (red_num (a:=za) (b:=zb) (by omega));have hy:=Zb (red_den (a:=za) (b:=zb) (by omega));have hG0:=Zb (redG_ne (a:=za) (b:=zb) (by omega))
 have hGE : Zi7 za zb = (Nat.gcd za.natAbs zb.natAbs : Nat):=by unfold Zi7;rw [if_neg (by omega)]
 rw [hGE] at hx hy hG0;have HA:=Zb ha;have HB:=Zb hb;obtain ⟨G,hG⟩ : ∃ G,Nat.gcd za.natAbs zb.natAbs = G:=⟨_,rfl⟩;rw [hG] at hx hy hG0 hgs
 have HGc : Hid (∀ W : World,Wd W na A n c za -> Wd W false B m d zb -> Calls Try.prog 65 #[.agg #[.bool na,.slice A n c],.agg #[.bool false,.slice B m d]] W (ResW W (G : Int))):=fun W h1 h2=>by
  have:=Zmd na false A B n c m d za zb W h1 h2;rw [hG] at this;exact this
 generalize Rat.divInt za zb = R at *
 clear ha hb hG hGE
 have hB0 : ∀ X Y Z : Obj,Below w.heap.size w (((w.alloc X).alloc Y).alloc Z):=fun X Y Z=>(((Below.refl w.heap.size w).alloc (Nat.le_refl _) _).alloc (by simp) _).alloc (by simp;omega) _
 have hB0:=Zb hB0;go_enter Try.func94,Try.ntmps94;go_wp2_with fail;have q0 : Blk (((w.alloc (.cells #[.bool na,.slice A n c] 26)).alloc (.cells #[.bool false,.slice B m d] 26)).alloc (.cells #[.bool false,.slice none 0 0,.bool false,.slice none 0 0] 78)) w.heap.size 26 #[.bool na,.slice A n c]:=((Blk.new _ _ _).alloc _).alloc _
 have q1 : Blk (((w.alloc (.cells #[.bool na,.slice A n c] 26)).alloc (.cells #[.bool false,.slice B m d] 26)).alloc (.cells #[.bool false,.slice none 0 0,.bool false,.slice none 0 0] 78)) (w.heap.size + 1) 26 #[.bool false,.slice B m d]:=by
  have:=(Blk.new (w.alloc (.cells #[.bool na,.slice A n c] 26)) 26 #[.bool false,.slice B m d]).alloc (.cells #[.bool false,.slice none 0 0,.bool false,.slice none 0 0] 78);simp only [World.size_alloc] at this;exact this
 have q2 : Blk (((w.alloc (.cells #[.bool na,.slice A n c] 26)).alloc (.cells #[.bool false,.slice B m d] 26)).alloc (.cells #[.bool false,.slice none 0 0,.bool false,.slice none 0 0] 78)) (w.heap.size + 1 + 1) 78 #[.bool false,.slice none 0 0,.bool false,.slice none 0 0]:=by
  have:=Blk.new ((w.alloc (.cells #[.bool na,.slice A n c] 26)).alloc (.cells #[.bool false,.slice B m d] 26)) 78 #[.bool false,.slice none 0 0,.bool false,.slice none 0 0];simp only [World.size_alloc] at this;exact this
 refine (HGc.out _ (((HA.out.alloc _).alloc _).alloc _) (((HB.out.alloc _).alloc _).alloc _)).mono ?_;rintro e w1 ⟨hb1,ng,Ag,kg,cg,code,rfl,hR⟩
 rcases hR with ⟨-,rfl,hgw⟩ | ⟨hbig,-⟩
 case inr=>exact absurd hbig (by omega)
 have hB1 : Below w.heap.size w w1:=(hB0.out _ _ _).trans (hb1.mono (by simp;omega));have HA1:=Zb (HA.out.below hB1);have HB1:=Zb (HB.out.below hB1)
 have s1 : w.heap.size + 1 + 1 < w1.heap.size:=by have:=hb1.size;simp at this;omega
 replace q0:=Zd hb1 q0;replace q1:=Zd hb1 q1;replace q2:=Zd hb1 q2;have HG2:=Zb hgw;have s2 : w.heap.size + 1 + 1 < w1.heap.size:=s1;clear hb1 hgw;obtain ⟨W3,hW3,hB3,q3,kW,kB,s3⟩:=Z8 26 #[.bool ng,.slice Ag kg cg] hB1 (by omega);replace q0:=kB _ _ _ q0;replace q1:=kB _ _ _ q1;replace q2:=kB _ _ _ q2;have HA3:=Zb (kW _ _ _ _ _ HA1.out);have HB3:=Zb (kW _ _ _ _ _ HB1.out);have HG3:=Zb (kW _ _ _ _ _ HG2.out);have s4 : w.heap.size + 1 + 1 < w1.heap.size:=s2;clear kW kB HA1 HB1 HG2 hB1;have c0:=Zb q0.two;have c1:=Zb q1.two;have c3:=Zb q3.two;rw [<- hW3] at c0 c1 c3;obtain ⟨c00,c01,-,-⟩:=c0.out;obtain ⟨c10,c11,-,-⟩:=c1.out;obtain ⟨c30,c31,-,-⟩:=c3.out;have hq:=Zb (And.intro q0 (And.intro q1 (And.intro q2 q3)));clear q0 q1 q2 q3;replace hW3:=Zb hW3;go_wp2_with fail;rw [hW3.out];refine (Zfk na ng A Ag n c kg cg za G _ HA3.out HG3.out hG0.out).mono ?_;rintro e w4 ⟨hb4,nx,Ax,kx,cx,nr,Ar,kr,cr,rfl,hwx,-⟩;rw [hx.out] at hwx;have hB4 : Below w.heap.size w w4:=hB3.trans (hb4.mono (by omega));have HB4:=Zb (HB3.out.below hb4);have HG4:=Zb (HG3.out.below hb4)
 have s5 : w1.heap.size + 1 <= w4.heap.size:=by have:=hb4.size;omega
 have q1:=Zd hb4 hq.out.2.1;have q2:=Zd hb4 hq.out.2.2.1;have q3:=Zd hb4 hq.out.2.2.2;clear hb4 c0 c1 c3 c00 c01 c10 c11 c30 c31 hW3 HA3 HB3 HG3 hB3 hq;obtain ⟨W5,hW5,hB5,q5,kW,kB,s6⟩:=Z8 26 #[.bool nx,.slice Ax kx cx] hB4 (by omega);replace q1:=kB _ _ _ q1;replace q2:=kB _ _ _ q2;replace q3:=kB _ _ _ q3;have HB5:=Zb (kW _ _ _ _ _ HB4.out);have HG5:=Zb (kW _ _ _ _ _ HG4.out);have HX5:=Zb (kW _ _ _ _ _ hwx);clear kW kB HB4 HG4 hwx hB4;obtain ⟨W6,hW6,hB6,-,kW,kB,s7⟩:=Z8 26 #[.bool nr,.slice Ar kr cr] hB5 (by omega);replace q1:=kB _ _ _ q1;replace q2:=kB _ _ _ q2;replace q3:=kB _ _ _ q3;replace q5:=kB _ _ _ q5;have HB6:=Zb (kW _ _ _ _ _ HB5.out);have HG6:=Zb (kW _ _ _ _ _ HG5.out);have HX6:=Zb (kW _ _ _ _ _ HX5.out);clear kW kB HB5 HG5 HX5 hB5;have c1:=Zb q1.two;have c3:=Zb q3.two;rw [<- hW6,<- hW5] at c1 c3;obtain ⟨c10,c11,-,-⟩:=c1.out;obtain ⟨c30,c31,-,-⟩:=c3.out;have hq:=Zb (And.intro q2 q5);clear q1 q2 q3 q5;rw [<- hW5] at hW6;replace hW6:=Zb hW6;clear hW5;go_wp2_with fail;rw [hW6.out];refine (Zfk false ng B Ag m d kg cg zb G _ HB6.out HG6.out hG0.out).mono ?_;rintro e w7 ⟨hb7,ny,Ay,ky,cy,ns,As,ks,cs,rfl,hwy,-⟩;rw [hy.out] at hwy;have hB7 : Below w.heap.size w w7:=hB6.trans (hb7.mono (by omega));have HX7:=Zb (HX6.out.below hb7)
 have s8 : w4.heap.size + 2 <= w7.heap.size:=by have:=hb7.size;omega
 have q2:=Zd hb7 hq.out.1;have q5:=Zd hb7 hq.out.2;clear hb7 c1 c3 c10 c11 c30 c31 hW6 HB6 HG6 HX6 hB6 hq;obtain ⟨W8,hW8,hB8,q8,kW,kB,s9⟩:=Z8 26 #[.bool ny,.slice Ay ky cy] hB7 (by omega);replace q2:=kB _ _ _ q2;replace q5:=kB _ _ _ q5;have HX8:=Zb (kW _ _ _ _ _ HX7.out);have HY8:=Zb (kW _ _ _ _ _ hwy);clear kW kB HX7 hwy hB7;obtain ⟨W9,hW9,hB9,-,kW,kB,s10⟩:=Z8 26 #[.bool ns,.slice As ks cs] hB8 (by omega);replace q2:=kB _ _ _ q2;replace q5:=kB _ _ _ q5;replace q8:=kB _ _ _ q8;have HX9:=Zb (kW _ _ _ _ _ HX8.out);have HY9:=Zb (kW _ _ _ _ _ HY8.out);clear kW kB HX8 HY8 hB8;have c5:=Zb q5.two;have c8:=Zb q8.two;have c2:=Zb q2.four;have hq:=Zb q2;rw [<- hW9,<- hW8] at c5 c8 c2;rw [<- hW8] at hW9;clear hW8 q2 q5 q8;obtain ⟨c50,c51,-,-⟩:=c5.out;obtain ⟨c80,c81,-,-⟩:=c8.out;obtain ⟨c20,c21,c22,c23,f20,f21,f22,f23⟩:=c2.out;replace hW9:=Zb hW9;replace hB9:=Zb hB9;go_wp2_with fail;rw [hW9.out];obtain ⟨W,hW,hB,hblk,kW,-⟩:=Zdp nx Ax kx cx ny Ay ky cy hB9.out (by omega) hq.out;rw [hW];obtain ⟨r0,r1,r2,r3,-⟩:=hblk.four;refine bodyPost_ret (v:=.agg #[.bool nx,.slice Ax kx cx,.bool ny,.slice Ay ky cy]) (by simp [results,Try.results94,go_sem,r0,r1,r2,r3]) rfl ?_;exact ⟨hB,_,_,_,_,_,_,_,_,rfl,kW _ _ _ _ _ HX9.out,kW _ _ _ _ _ HY9.out⟩
theorem ResP.code0 {w : World} {z : Int} {neg : Bool} {A : Option Addr} {n c : Nat} {code : Int} (h : ResP w z neg A n c code) (hs : z.natAbs < pw 4096) : code = 0:=by
 rcases h with ⟨_,h,_⟩ | ⟨h,_⟩
 ·exact h
 ·omega
end Go.Proofs.Ythappeninglakaa
