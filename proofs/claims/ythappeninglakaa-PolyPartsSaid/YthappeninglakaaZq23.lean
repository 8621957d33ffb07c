/- Package frac: the closures of Sub (and Add where the seat -/
import Derived.Test.YthappeninglakaaZq22
set_option maxRecDepth 100000
set_option maxHeartbeats 1000000
set_option linter.unusedSimpArgs false
set_option linter.unusedVariables false
namespace Go.Proofs.Ythappeninglakaa
open Go.RowKit
attribute [local go_sem] Zj
def Sm (r : Rat) : Prop:=r.num.natAbs < pw 1000 /\ r.den < pw 1000
theorem Zqd {x y : Nat} {i j : Nat} (hx : x < pw i) (hy : y < pw j) : x * y < pw (i + j):=by
 rw [Zco];exact Nat.mul_lt_mul'' hx hy
theorem Zkd {x y : Int} (hx : x.natAbs < pw 1000) (hy : y.natAbs < pw 1000) : (x * y).natAbs < pw 2000:=by
 rw [Int.natAbs_mul];have h:=Zqd hx hy;rw [show 1000 + 1000 = 2000 from rfl] at h;exact h
theorem pw_two (k : Nat) : pw k + pw k <= pw (k + 1):=by rw [Zal];generalize pw k = x;omega
theorem Ztw : pw 2000 + pw 2000 <= pw 4096:=Nat.le_trans (pw_two 2000) (Zdn (by decide))
theorem Ze3 {x y : Int} (hx : x.natAbs < pw 1000) (hy : y.natAbs < pw 1000) : (x * y).natAbs < pw 4096:=Nat.lt_of_lt_of_le (Zkd hx hy) (Zdn (by decide))
theorem sm_sub {x y z v : Int} (hx : x.natAbs < pw 1000) (hy : y.natAbs < pw 1000) (hz : z.natAbs < pw 1000) (hv : v.natAbs < pw 1000) : (x * y - z * v).natAbs < pw 4096:=by
 have h1:=Zkd hx hy;have h2:=Zkd hz hv;have h3:=Ztw;omega
theorem Sm.dn {r : Rat} (h : Sm r) : ((r.den : Nat) : Int).natAbs < pw 1000:=by simpa using h.2
theorem rat_mul (a b : Rat) : Rat.divInt (a.num * b.num) ((a.den : Int) * (b.den : Nat)) = a * b:=by
 rw [<- Rat.divInt_mul_divInt,Rat.num_divInt_den,Rat.num_divInt_den]
theorem rat_sub (a b : Rat) : Rat.divInt (a.num * b.den - b.num * a.den) ((a.den : Int) * (b.den : Nat)) = a - b:=by
 have ha : ((a.den : Nat) : Int) ≠ 0:=by have:=a.den_pos;omega
 have hb : ((b.den : Nat) : Int) ≠ 0:=by have:=b.den_pos;omega
 rw [<- Rat.divInt_sub_divInt _ _ ha hb,Rat.num_divInt_den,Rat.num_divInt_den]
theorem Zis (a b : Rat) : 0 < ((a.den : Int) * (b.den : Nat)):=Int.mul_pos (by have:=a.den_pos;omega) (by have:=b.den_pos;omega)
theorem alloc5 (w : World) (t0 : TypeId) (c0 : Array Value) (t1 : TypeId) (c1 : Array Value) (t2 : TypeId) (c2 : Array Value) (t3 : TypeId) (c3 : Array Value) (t4 : TypeId) (c4 : Array Value) :
    ∃ W,((((w.alloc (.cells c0 t0)).alloc (.cells c1 t1)).alloc (.cells c2 t2)).alloc (.cells c3 t3)).alloc (.cells c4 t4) = W /\ Below w.heap.size w W /\ (Blk W w.heap.size t0 c0 /\ Blk W (w.heap.size + 1) t1 c1 /\ Blk W (w.heap.size + 1 + 1) t2 c2 /\ Blk W (w.heap.size + 1 + 1 + 1) t3 c3 /\ Blk W (w.heap.size + 1 + 1 + 1 + 1) t4 c4) /\ W.heap.size = w.heap.size + 1 + 1 + 1 + 1 + 1:=by
 obtain ⟨W,hW,h1,h2,h3⟩:=alloc4 w t0 c0 t1 c1 t2 c2 t3 c3;refine ⟨_,rfl,?_,⟨?_,?_,?_,?_,?_⟩,by rw [hW];simp [h3]⟩ <;> rw [hW]
 ·exact h1.alloc (by omega) _
 ·exact h2.1.alloc _
 ·exact h2.2.1.alloc _
 ·exact h2.2.2.1.alloc _
 ·exact h2.2.2.2.alloc _
 ·rw [<- h3];exact Blk.new _ _ _
theorem Zit (na nb nc nd : Bool) (A B C D : Option Addr) (n c m d n' c' m' d' : Nat) (x y u v : Int) (w : World) (ha : Wd w na A n c x) (hb : Wd w nb B m d y) (hc : Wd w nc C n' c' u) (hd : Wd w nd D m' d' v)
    (hs : (x * y).natAbs < pw 4096) (ht : (u * v).natAbs < pw 4096) (h0 : 0 < u * v) :
    Calls Try.prog 80 #[.agg #[.bool na,.slice A n c],.agg #[.bool nb,.slice B m d],.agg #[.bool nc,.slice C n' c'],.agg #[.bool nd,.slice D m' d']] w (Zn0 w (Rat.divInt (x * y) (u * v))):=by
 obtain ⟨W0,hW0,hB0,⟨q0,q1,q2,q3,q4⟩,s0⟩:=alloc5 w 26 #[.bool na,.slice A n c] 26 #[.bool nb,.slice B m d] 26 #[.bool nc,.slice C n' c'] 26 #[.bool nd,.slice D m' d'] 78 #[.bool false,.slice none 0 0,.bool false,.slice none 0 0];have hA:=Zb (And.intro (ha.below hB0) (hb.below hB0));have hC:=Zb (And.intro (hc.below hB0) (hd.below hB0));replace hs:=Zb hs;replace ht:=Zb ht;replace h0:=Zb h0;clear ha hb hc hd;obtain ⟨a0,a1,-⟩:=q0.two;obtain ⟨b0,b1,-⟩:=q1.two;have hq:=Zb (And.intro q2 (And.intro q3 q4));clear q0 q1 q2 q3 q4;go_enter Try.func80,Try.ntmps80;go_wp2_with fail;refine (Zdf na nb A B n c m d x y W0 hA.out.1 hA.out.2).mono ?_;rintro e w1 ⟨hb1,np,P,k,q,code,rfl,hR⟩;have hP:=Zb (hR.small hs.out);have hcode:=hR.code0 hs.out;subst hcode;have hB1 : Below w.heap.size w w1:=hB0.trans (hb1.mono hB0.size);have s1 : W0.heap.size <= w1.heap.size:=hb1.size;replace hC:=Zb (And.intro (hC.out.1.below hb1) (hC.out.2.below hb1));obtain ⟨q2,q3,q4⟩:=hq.out;replace q2:=Zd hb1 q2;replace q3:=Zd hb1 q3;replace q4:=Zd hb1 q4;clear hW0 hb1 a0 a1 b0 b1 hq hR hs hB0 hA;obtain ⟨W2,hW2,hB2,q5,kW,kB,s2⟩:=Z8 26 #[.bool np,.slice P k q] hB1 hB1.size;replace hC:=Zb (And.intro (kW _ _ _ _ _ hC.out.1) (kW _ _ _ _ _ hC.out.2));replace hP:=Zb (kW _ _ _ _ _ hP.out);replace q2:=kB _ _ _ q2;replace q3:=kB _ _ _ q3;replace q4:=kB _ _ _ q4;clear kW kB hB1;obtain ⟨a0,a1,-⟩:=q2.two;obtain ⟨b0,b1,-⟩:=q3.two;have hq:=Zb (And.intro q4 q5);clear q2 q3 q4 q5;go_wp2_with fail
 refine (Zdf nc nd C D n' c' m' d' u v W2 hC.out.1 hC.out.2).mono ?_;rintro e w3 ⟨hb3,nr,R,k2,r,code,rfl,hR⟩;have hQ:=Zb (hR.small ht.out);have hcode:=hR.code0 ht.out;subst hcode;have hB3 : Below w.heap.size w w3:=hB2.trans (hb3.mono hB2.size);have s3 : W2.heap.size <= w3.heap.size:=hb3.size;obtain ⟨q4,q5⟩:=hq.out;replace q4:=Zd hb3 q4;replace q5:=Zd hb3 q5;replace hP:=Zb (hP.out.below hb3);clear hW2 hb3 a0 a1 b0 b1 hq hR ht hB2 hC
 have hn : nr = false:=by rw [hQ.out.1];have:=h0.out;simp;omega
 subst hn;obtain ⟨W4,hW4,hB4,q6,kW,kB,s4⟩:=Z8 26 #[.bool false,.slice R k2 r] hB3 hB3.size;replace hQ:=Zb (kW _ _ _ _ _ hQ.out);replace hP:=Zb (kW _ _ _ _ _ hP.out);replace q4:=kB _ _ _ q4;replace q5:=kB _ _ _ q5;clear kW kB hB3;obtain ⟨a0,a1,-⟩:=q5.two;obtain ⟨b0,b1,-⟩:=q6.two;have hq:=Zb q4;clear q4 q5 q6;go_wp2_with fail;refine (Zhn np P R k q k2 r _ _ W4 hP.out hQ.out h0.out).mono ?_;rintro e w5 ⟨hb5,nx,Ax,kx,cx,ny,Ay,ky,cy,rfl,hF⟩;have hB5 : Below w.heap.size w w5:=hB4.trans (hb5.mono hB4.size);have s5 : W4.heap.size <= w5.heap.size:=hb5.size;replace hq:=Zb (Zd hb5 hq.out);replace hF:=Zb hF;clear a0 a1 b0 b1 hW4 hb5 hB4 hP hQ;obtain ⟨c20,c21,c22,c23,f20,f21,f22,f23⟩:=hq.out.four;go_wp2_with fail;obtain ⟨W6,hW6,hB6,q2,kW,-,s6⟩:=Zdp nx Ax kx cx ny Ay ky cy hB5 (by omega) hq.out;rw [hW6];obtain ⟨r0,r1,r2,r3,-⟩:=q2.four;refine bodyPost_ret (v:=.tuple #[.agg #[.bool nx,.slice Ax kx cx,.bool ny,.slice Ay ky cy],.int .i64 0]) (by simp [results,Try.results80,go_sem,r0,r1,r2,r3]) rfl ?_;exact ⟨hB6,_,_,_,_,_,_,_,_,rfl,kW _ _ _ _ _ hF.out.1,kW _ _ _ _ _ hF.out.2⟩
end Go.Proofs.Ythappeninglakaa
