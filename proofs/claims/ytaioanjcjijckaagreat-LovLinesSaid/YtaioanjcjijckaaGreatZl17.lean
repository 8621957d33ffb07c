/- Package frac: Sub, Mul of small fractions. Package wide: -/
import Derived.Test.YtaioanjcjijckaaGreatZl16
set_option maxRecDepth 100000
set_option maxHeartbeats 4000000
set_option linter.unusedSimpArgs false
set_option linter.unusedVariables false
namespace Go.Proofs.YtaioanjcjijckaaGreat
open Go.RowKit
attribute [local go_sem] Zg
def Sm (r : Rat) : Prop:=r.num.natAbs < pw 1000 /\ r.den < pw 1000
theorem Zdy {x y : Nat} {i j : Nat} (hx : x < pw i) (hy : y < pw j) : x * y < pw (i + j):=by
 rw [Zen];exact Nat.mul_lt_mul'' hx hy
theorem Zi6 {x y : Int} (hx : x.natAbs < pw 1000) (hy : y.natAbs < pw 1000) : (x * y).natAbs < pw 2000:=by
 rw [Int.natAbs_mul];have h:=Zdy hx hy;rw [show 1000 + 1000 = 2000 from rfl] at h;exact h
theorem pw_two (k : Nat) : pw k + pw k <= pw (k + 1):=by rw [Zai];generalize pw k = x;omega
theorem Ztr : pw 2000 + pw 2000 <= pw 4096:=Nat.le_trans (pw_two 2000) (Zez (by decide))
theorem Zbk {x y : Int} (hx : x.natAbs < pw 1000) (hy : y.natAbs < pw 1000) : (x * y).natAbs < pw 4096:=Nat.lt_of_lt_of_le (Zi6 hx hy) (Zez (by decide))
theorem Zs4 {x y z v : Int} (hx : x.natAbs < pw 1000) (hy : y.natAbs < pw 1000) (hz : z.natAbs < pw 1000) (hv : v.natAbs < pw 1000) : (x * y - z * v).natAbs < pw 4096:=by
 have h1:=Zi6 hx hy;have h2:=Zi6 hz hv;have h3:=Ztr;omega
theorem Sm.dn {r : Rat} (h : Sm r) : ((r.den : Nat) : Int).natAbs < pw 1000:=by simpa using h.2
theorem Zld (a b : Rat) : Rat.divInt (a.num * b.num) ((a.den : Int) * (b.den : Nat)) = a * b:=by
 rw [<- Rat.divInt_mul_divInt,Rat.num_divInt_den,Rat.num_divInt_den]
theorem Zqb (a b : Rat) : Rat.divInt (a.num * b.den - b.num * a.den) ((a.den : Int) * (b.den : Nat)) = a - b:=by
 have ha : ((a.den : Nat) : Int) ≠ 0:=by have:=a.den_pos;omega
 have hb : ((b.den : Nat) : Int) ≠ 0:=by have:=b.den_pos;omega
 rw [<- Rat.divInt_sub_divInt _ _ ha hb,Rat.num_divInt_den,Rat.num_divInt_den]
theorem Zc1 (a b : Rat) : 0 < ((a.den : Int) * (b.den : Nat)):=Int.mul_pos (by have:=a.den_pos;omega) (by have:=b.den_pos;omega)
theorem fSub_ok (na nb na' nb' : Bool) (A B A' B' : Option Addr) (n c m d n' c' m' d' : Nat) (a b : Rat) (w : World) (ha : Fr w na A n c nb B m d a) (hb : Fr w na' A' n' c' nb' B' m' d' b) (sa : Sm a) (sb : Sm b) :
    Calls Tryz.prog 124 #[.agg #[.bool na,.slice A n c,.bool nb,.slice B m d],.agg #[.bool na',.slice A' n' c',.bool nb',.slice B' m' d']] w (Zdr w (a - b)):=by
 obtain ⟨W0,hW0,hB0,⟨q0,q1,q2⟩,s0⟩:=Zbm w 29 #[.bool na,.slice A n c,.bool nb,.slice B m d] 29 #[.bool na',.slice A' n' c',.bool nb',.slice B' m' d'] 29 #[.bool false,.slice none 0 0,.bool false,.slice none 0 0];have hA:=Za (ha.below hB0);have hD:=Za (hb.below hB0)
 have hF:=fun (W : World) (h1 : Fr W na A n c nb B m d a) (h2 : Fr W na' A' n' c' nb' B' m' d' b)=>Sub1_ok na nb na' nb' A B A' B' n c m d n' c' m' d' a b W h1 h2 (Zbk sa.1 sb.dn) (Zbk sb.1 sa.dn) (Zs4 sa.1 sb.dn sb.1 sa.dn) (Zbk sa.dn sb.dn)
 have hG:=Za (Zqd 191 na nb na' nb' A B A' B' n c m d n' c' m' d' a b _ _ W0 hA.out hD.out (Zc1 a b) Zpj hF);rw [Zqb] at hG;clear hF ha hb sa sb hA hD;obtain ⟨a0,a1,a2,a3,-⟩:=q0.four;obtain ⟨b0,b1,b2,b3,-⟩:=q1.four;replace q2:=Za q2;clear q0 q1;go_enter Tryz.func124,Tryz.ntmps124;go_wp2_with fail;refine hG.out.mono ?_;rintro e w1 ⟨hb1,nx,Ax,kx,cx,ny,Ay,ky,cy,rfl,hX⟩;have hB1 : Below w.heap.size w w1:=hB0.trans (hb1.mono hB0.size);have s1 : W0.heap.size <= w1.heap.size:=hb1.size;replace q2:=Za (Zb hb1 q2.out);replace hX:=Za hX;clear hb1 a0 a1 a2 a3 b0 b1 b2 b3 hB0 hG hW0;obtain ⟨c20,c21,c22,c23,f20,f21,f22,f23⟩:=q2.out.four;go_wp2_with fail;obtain ⟨W5,hW5,hB5,q2,kW,-,s5⟩:=Zaa nx Ax kx cx ny Ay ky cy hB1 (by omega) q2.out;rw [hW5];obtain ⟨r0,r1,r2,r3,-⟩:=q2.four;refine bodyPost_ret (v:=.tuple #[.agg #[.bool nx,.slice Ax kx cx,.bool ny,.slice Ay ky cy],.int .i64 0]) (by simp [results,Tryz.results124,go_sem,r0,r1,r2,r3]) rfl ?_;exact ⟨hB5,_,_,_,_,_,_,_,_,rfl,kW _ _ _ _ _ hX.out.1,kW _ _ _ _ _ hX.out.2⟩
theorem Zp0 (na nb na' nb' : Bool) (A B A' B' : Option Addr) (n c m d n' c' m' d' : Nat) (a b : Rat) (w : World) (ha : Fr w na A n c nb B m d a) (hb : Fr w na' A' n' c' nb' B' m' d' b) (sa : Sm a) (sb : Sm b) :
    Calls Tryz.prog 118 #[.agg #[.bool na,.slice A n c,.bool nb,.slice B m d],.agg #[.bool na',.slice A' n' c',.bool nb',.slice B' m' d']] w (Zdr w (a * b)):=by
 obtain ⟨W0,hW0,hB0,⟨q0,q1,q2⟩,s0⟩:=Zbm w 29 #[.bool na,.slice A n c,.bool nb,.slice B m d] 29 #[.bool na',.slice A' n' c',.bool nb',.slice B' m' d'] 29 #[.bool false,.slice none 0 0,.bool false,.slice none 0 0];have hA:=Za (ha.below hB0);have hD:=Za (hb.below hB0)
 have hF:=fun (W : World) (h1 : Fr W na A n c nb B m d a) (h2 : Fr W na' A' n' c' nb' B' m' d' b)=>Mul1_ok na nb na' nb' A B A' B' n c m d n' c' m' d' a b W h1 h2 (Zbk sa.1 sb.1) (Zbk sa.dn sb.dn)
 have hG:=Za (Zqd 184 na nb na' nb' A B A' B' n c m d n' c' m' d' a b _ _ W0 hA.out hD.out (Zc1 a b) Zpo hF);rw [Zld] at hG;clear hF ha hb sa sb hA hD;obtain ⟨a0,a1,a2,a3,-⟩:=q0.four;obtain ⟨b0,b1,b2,b3,-⟩:=q1.four;replace q2:=Za q2;clear q0 q1;go_enter Tryz.func118,Tryz.ntmps118;go_wp2_with fail;refine hG.out.mono ?_;rintro e w1 ⟨hb1,nx,Ax,kx,cx,ny,Ay,ky,cy,rfl,hX⟩;have hB1 : Below w.heap.size w w1:=hB0.trans (hb1.mono hB0.size);have s1 : W0.heap.size <= w1.heap.size:=hb1.size;replace q2:=Za (Zb hb1 q2.out);replace hX:=Za hX;clear hb1 a0 a1 a2 a3 b0 b1 b2 b3 hB0 hG hW0;obtain ⟨c20,c21,c22,c23,f20,f21,f22,f23⟩:=q2.out.four;go_wp2_with fail;obtain ⟨W5,hW5,hB5,q2,kW,-,s5⟩:=Zaa nx Ax kx cx ny Ay ky cy hB1 (by omega) q2.out;rw [hW5];obtain ⟨r0,r1,r2,r3,-⟩:=q2.four;refine bodyPost_ret (v:=.tuple #[.agg #[.bool nx,.slice Ax kx cx,.bool ny,.slice Ay ky cy],.int .i64 0]) (by simp [results,Tryz.results118,go_sem,r0,r1,r2,r3]) rfl ?_;exact ⟨hB5,_,_,_,_,_,_,_,_,rfl,kW _ _ _ _ _ hX.out.1,kW _ _ _ _ _ hX.out.2⟩
theorem Zoy (na nb : Bool) (A B : Option Addr) (n c m d : Nat) (za zb : Int) (w : World) (ha : Wd w na A n c za) (hb : Wd w nb B m d zb) :
    Calls Tryz.prog 127 #[.agg #[.bool na,.slice A n c],.agg #[.bool nb,.slice B m d]] w (ResW w (za + zb)):=by
 have hLa:=ha.lim;have hLb:=hb.lim;have hn:=ha.2.1;have hm:=hb.2.1
 have hB0 : ∀ X Y Z V : Obj,Below w.heap.size w ((((w.alloc X).alloc Y).alloc Z).alloc V):=fun X Y Z V=>((((Below.refl w.heap.size w).alloc (Nat.le_refl _) _).alloc (by simp) _).alloc (by simp;omega) _).alloc (by simp;omega) _
 have hW : ∀ X Y Z t,WL ((((w.alloc X).alloc Y).alloc Z).alloc (.cells #[.bool na,.slice A n c,.bool nb,.slice B m d] t)) (some ⟨w.heap.size + 1 + 1 + 1,0,none⟩) 2 2 [⟨na,A,n,c,digits za.natAbs⟩,⟨nb,B,m,d,digits zb.natAbs⟩]:=fun X Y Z t=>by
  have:=WL.two (neg:=na) (neg':=nb) (((hLa.alloc X).alloc Y).alloc Z) (((hLb.alloc X).alloc Y).alloc Z) t;simp only [World.size_alloc] at this;exact this
 have hW:=Za hW;have hB0:=Za hB0;have hgood : Hid (okW na (digits za.natAbs) = true /\ okW nb (digits zb.natAbs) = true):=⟨ha.ok,hb.ok⟩;have hza:=Za ha.sgEq;have hzb:=Za hb.sgEq;clear ha hb;go_enter Tryz.func127,Tryz.ntmps127;go_wp2_with fail;refine (Zbs (hW.out _ _ _ _) (by have:=hgood.out;simp [WE.ok,this])).mono ?_;rintro e w1 ⟨rfl,hb1⟩;obtain ⟨hc1,hf1⟩:=Zbd hb1
 have hz1 : w.heap.size + 1 + 1 + 1 < w1.heap.size:=by have:=hb1.size;simp at this;omega
 have hB1 : Below w.heap.size w w1:=(hB0.out _ _ _ _).trans (hb1.mono (by simp;omega))
 have g0 : w1.cell? ⟨w.heap.size,0,none⟩ = some (.bool na):=by simp [hc1,go_sem]
 have g1 : w1.cell? ⟨w.heap.size,1,none⟩ = some (.slice A n c):=by simp [hc1,go_sem]
 have g2 : w1.cell? ⟨w.heap.size + 1,0,none⟩ = some (.bool nb):=by simp [hc1,go_sem]
 have g3 : w1.cell? ⟨w.heap.size + 1,1,none⟩ = some (.slice B m d):=by simp [hc1,go_sem]
 have gf : w1.frozen? ⟨w.heap.size + 1,0,none⟩ = false:=by simp [hf1,go_sem]
 have gB : Blk w1 (w.heap.size + 1) 27 #[.bool nb,.slice B m d]:=by
  refine Zb hb1 ((Blk.alloc (Blk.alloc ?_ _) _));have:=Blk.new (w.alloc (.cells #[.bool na,.slice A n c] 27)) 27 #[.bool nb,.slice B m d];simp only [World.size_alloc] at this;exact this
 have g7 : Blk w1 (w.heap.size + 1 + 1) 27 #[.bool false,.slice none 0 0]:=by
  refine Zb hb1 (Blk.alloc ?_ _);have:=Blk.new ((w.alloc (.cells #[.bool na,.slice A n c] 27)).alloc (.cells #[.bool nb,.slice B m d] 27)) 27 #[.bool false,.slice none 0 0];simp only [World.size_alloc] at this;exact this
 have hLa1:=hLa.below hB1;have hLb1:=hLb.below hB1;have HB:=Za gB;clear gB hc1 hf1;go_wp2_with fail;refine (Zp1 _ _ _ _ _ _ _ _ _ _ _ (by exact hLa1) (by exact hLb1) hn hm).mono ?_;rintro e w2 ⟨hb2,neg2,A2,n2,c2,code2,rfl,hR2⟩;have hB2 : Below w.heap.size w w2:=hB1.trans (hb2.mono hB1.size);have m7:=Zb hb2 g7;have m3:=m7.cell 0;have m4:=m7.cell 1;have m5:=m7.frozen 0;have m6:=m7.frozen 1
 simp at m3 m4
 have HM:=Za m7;clear m7;go_wp2_with fail
 have HZ : sg na za.natAbs + sg nb zb.natAbs = za + zb:=by
  have h1:=hza.out;have h2:=hzb.out;rw [Zf] at h1 h2;rw [h1,h2]
 refine bodyPost_ret (v:=.tuple #[.agg #[.bool neg2,.slice A2 n2 c2],.int .i64 code2]) (by simp [results,Tryz.results127,go_sem,m3,m4]) rfl ?_;exact ResW.box (HZ ▸ hR2) hB2 (by omega) HM.out
theorem Zh9 (na nb : Bool) (A B : Option Addr) (n c m d : Nat) (za zb : Int) (w : World) (ha : Wd w na A n c za) (hb : Wd w nb B m d zb) :
    Calls Tryz.prog 72 #[.agg #[.bool na,.slice A n c],.agg #[.bool nb,.slice B m d]] w (ResW w (za + zb)):=by
 have hLa:=ha.lim;have hLb:=hb.lim;have hn:=ha.2.1;have hm:=hb.2.1;have hB0 : Below w.heap.size w (((w.alloc (.cells #[.bool na,.slice A n c] 27)).alloc (.cells #[.bool nb,.slice B m d] 27)).alloc (.cells #[.bool false,.slice none 0 0] 27)):=(((Below.refl w.heap.size w).alloc (Nat.le_refl _) _).alloc (by simp) _).alloc (by simp;omega) _;have hB0:=Za hB0
 have hgood : Hid ((okW na (digits za.natAbs) && okW nb (digits zb.natAbs)) = true):=by unfold Hid;rw [ha.ok,hb.ok];rfl
 have hza:=Za ha.sgEq;have hzb:=Za hb.sgEq;have hlb:=Za hb.lim.len;clear ha hb;go_enter Tryz.func72,Tryz.ntmps72;go_wp2_with fail;refine (Zdh (hLa.below hB0.out) (hLb.below hB0.out) hgood.out).mono ?_;rintro e w1 ⟨rfl,hb1⟩;obtain ⟨hc1,hf1⟩:=Zbd hb1
 have hz1 : w.heap.size + 1 + 1 < w1.heap.size:=by have:=hb1.size;simp at this;omega
 have hB1 : Below w.heap.size w w1:=hB0.out.trans (hb1.mono (by simp;omega))
 have g0 : w1.cell? ⟨w.heap.size,0,none⟩ = some (.bool na):=by simp [hc1,go_sem]
 have g1 : w1.cell? ⟨w.heap.size,1,none⟩ = some (.slice A n c):=by simp [hc1,go_sem]
 have g2 : w1.cell? ⟨w.heap.size + 1,0,none⟩ = some (.bool nb):=by simp [hc1,go_sem]
 have g3 : w1.cell? ⟨w.heap.size + 1,1,none⟩ = some (.slice B m d):=by simp [hc1,go_sem]
 have g7 : Blk w1 (w.heap.size + 1 + 1) 27 #[.bool false,.slice none 0 0]:=by
  refine Zb hb1 ?_;have:=Blk.new ((w.alloc (.cells #[.bool na,.slice A n c] 27)).alloc (.cells #[.bool nb,.slice B m d] 27)) 27 #[.bool false,.slice none 0 0];simp only [World.size_alloc] at this;exact this
 have g5:=g7.cell 0;have g6:=g7.cell 1;have g8:=g7.frozen 0;have g9:=g7.frozen 1
 simp at g5 g6
 clear hc1 hf1;have hLa1:=hLa.below hB1;have hLb1:=hLb.below hB1;go_wp2_with fail;refine (Zdj _ _ _ _ _ _ _ _ _ _ _ (by exact hLa1) (by exact hLb1) hn hm).mono ?_;rintro e w2 ⟨hb2,neg2,A2,n2,c2,code2,rfl,hR2⟩;have hB2 : Below w.heap.size w w2:=hB1.trans (hb2.mono hB1.size);have m7:=Zb hb2 g7;have m3:=m7.cell 0;have m4:=m7.cell 1;have m5:=m7.frozen 0;have m6:=m7.frozen 1
 simp at m3 m4
 have HM:=Za m7;clear m7;go_wp2_with fail
 have HZ : sg na za.natAbs + sg nb zb.natAbs = za + zb:=by
  have h1:=hza.out;have h2:=hzb.out;rw [Zf] at h1 h2;rw [h1,h2]
 refine bodyPost_ret (v:=.tuple #[.agg #[.bool neg2,.slice A2 n2 c2],.int .i64 code2]) (by simp [results,Tryz.results72,go_sem,m3,m4]) rfl ?_;exact ResW.box (HZ ▸ hR2) hB2 (by omega) HM.out
theorem Zp9 (na nb : Bool) (A B : Option Addr) (n c m d : Nat) (za zb : Int) (w : World) (ha : Wd w na A n c za) (hb : Wd w nb B m d zb) :
    Calls Tryz.prog 73 #[.agg #[.bool na,.slice A n c],.agg #[.bool nb,.slice B m d]] w (ResW w (za - zb)):=by
 have hLa:=ha.lim;have hLb:=hb.lim;have hn:=ha.2.1;have hm:=hb.2.1;have hB0 : Below w.heap.size w (((w.alloc (.cells #[.bool na,.slice A n c] 27)).alloc (.cells #[.bool nb,.slice B m d] 27)).alloc (.cells #[.bool false,.slice none 0 0] 27)):=(((Below.refl w.heap.size w).alloc (Nat.le_refl _) _).alloc (by simp) _).alloc (by simp;omega) _;have hB0:=Za hB0
 have hgood : Hid ((okW na (digits za.natAbs) && okW nb (digits zb.natAbs)) = true):=by unfold Hid;rw [ha.ok,hb.ok];rfl
 have hza:=Za ha.sgEq;have hzb:=Za hb.sgEq;have hlb:=Za hb.lim.len;clear ha hb;go_enter Tryz.func73,Tryz.ntmps73;go_wp2_with fail;refine (Zdh (hLa.below hB0.out) (hLb.below hB0.out) hgood.out).mono ?_;rintro e w1 ⟨rfl,hb1⟩;obtain ⟨hc1,hf1⟩:=Zbd hb1
 have hz1 : w.heap.size + 1 + 1 < w1.heap.size:=by have:=hb1.size;simp at this;omega
 have hB1 : Below w.heap.size w w1:=hB0.out.trans (hb1.mono (by simp;omega))
 have g0 : w1.cell? ⟨w.heap.size,0,none⟩ = some (.bool na):=by simp [hc1,go_sem]
 have g1 : w1.cell? ⟨w.heap.size,1,none⟩ = some (.slice A n c):=by simp [hc1,go_sem]
 have g2 : w1.cell? ⟨w.heap.size + 1,0,none⟩ = some (.bool nb):=by simp [hc1,go_sem]
 have g3 : w1.cell? ⟨w.heap.size + 1,1,none⟩ = some (.slice B m d):=by simp [hc1,go_sem]
 have g7 : Blk w1 (w.heap.size + 1 + 1) 27 #[.bool false,.slice none 0 0]:=by
  refine Zb hb1 ?_;have:=Blk.new ((w.alloc (.cells #[.bool na,.slice A n c] 27)).alloc (.cells #[.bool nb,.slice B m d] 27)) 27 #[.bool false,.slice none 0 0];simp only [World.size_alloc] at this;exact this
 have g5:=g7.cell 0;have g6:=g7.cell 1;have g8:=g7.frozen 0;have g9:=g7.frozen 1
 simp at g5 g6
 clear hc1 hf1;have hLa1:=hLa.below hB1;have hLb1:=hLb.below hB1
 by_cases hm0 : 0 < m
 ·have hd : decide (0 < m) = true:=by simpa using hm0
  cases nb
  ·go_wp2_with fail
   refine (Zdj _ _ _ _ _ _ _ _ _ _ _ (by exact hLa1) (by exact hLb1) hn hm).mono ?_;rintro e w2 ⟨hb2,neg2,A2,n2,c2,code2,rfl,hR2⟩;have hB2 : Below w.heap.size w w2:=hB1.trans (hb2.mono hB1.size);have m7:=Zb hb2 g7;have m3:=m7.cell 0;have m4:=m7.cell 1;have m5:=m7.frozen 0;have m6:=m7.frozen 1
   simp at m3 m4
   have HM:=Za m7;clear m7;go_wp2_with fail
   have HZ : sg na za.natAbs + sg (true) zb.natAbs = za - zb:=by
    have h1:=hza.out;have h2:=hzb.out;rw [Zf] at h1 h2
    have h3 : sg (true) zb.natAbs = - zb:=by unfold sg at h2 ⊢;simp at h2 ⊢;omega
    rw [h1,h3];omega
   refine bodyPost_ret (v:=.tuple #[.agg #[.bool neg2,.slice A2 n2 c2],.int .i64 code2]) (by simp [results,Tryz.results73,go_sem,m3,m4]) rfl ?_;exact ResW.box (HZ ▸ hR2) hB2 (by omega) HM.out
  ·go_wp2_with fail
   refine (Zdj _ _ _ _ _ _ _ _ _ _ _ (by exact hLa1) (by exact hLb1) hn hm).mono ?_;rintro e w2 ⟨hb2,neg2,A2,n2,c2,code2,rfl,hR2⟩;have hB2 : Below w.heap.size w w2:=hB1.trans (hb2.mono hB1.size);have m7:=Zb hb2 g7;have m3:=m7.cell 0;have m4:=m7.cell 1;have m5:=m7.frozen 0;have m6:=m7.frozen 1
   simp at m3 m4
   have HM:=Za m7;clear m7;go_wp2_with fail
   have HZ : sg na za.natAbs + sg (false) zb.natAbs = za - zb:=by
    have h1:=hza.out;have h2:=hzb.out;rw [Zf] at h1 h2
    have h3 : sg (false) zb.natAbs = - zb:=by unfold sg at h2 ⊢;simp at h2 ⊢;omega
    rw [h1,h3];omega
   refine bodyPost_ret (v:=.tuple #[.agg #[.bool neg2,.slice A2 n2 c2],.int .i64 code2]) (by simp [results,Tryz.results73,go_sem,m3,m4]) rfl ?_;exact ResW.box (HZ ▸ hR2) hB2 (by omega) HM.out
 ·obtain rfl : m = 0:=by omega
  have hz0 : zb.natAbs = 0:=by have:=hlb.out;exact digits_eq_nil.1 (List.eq_nil_of_length_eq_zero this)
  have hz0:=Za hz0
  cases nb
  ·go_wp2_with fail
   refine (Zdj _ _ _ _ _ _ _ _ _ _ _ (by exact hLa1) (by exact hLb1) hn hm).mono ?_;rintro e w2 ⟨hb2,neg2,A2,n2,c2,code2,rfl,hR2⟩;have hB2 : Below w.heap.size w w2:=hB1.trans (hb2.mono hB1.size);have m7:=Zb hb2 g7;have m3:=m7.cell 0;have m4:=m7.cell 1;have m5:=m7.frozen 0;have m6:=m7.frozen 1
   simp at m3 m4
   have HM:=Za m7;clear m7;go_wp2_with fail
   have HZ : sg na za.natAbs + sg (false) zb.natAbs = za - zb:=by
    have h1:=hza.out;have h2:=hzb.out;rw [Zf] at h1 h2
    have h3 : sg (false) zb.natAbs = - zb:=by have h4:=hz0.out;unfold sg;simp;omega
    rw [h1,h3];omega
   refine bodyPost_ret (v:=.tuple #[.agg #[.bool neg2,.slice A2 n2 c2],.int .i64 code2]) (by simp [results,Tryz.results73,go_sem,m3,m4]) rfl ?_;exact ResW.box (HZ ▸ hR2) hB2 (by omega) HM.out
  ·go_wp2_with fail
   refine (Zdj _ _ _ _ _ _ _ _ _ _ _ (by exact hLa1) (by exact hLb1) hn hm).mono ?_;rintro e w2 ⟨hb2,neg2,A2,n2,c2,code2,rfl,hR2⟩;have hB2 : Below w.heap.size w w2:=hB1.trans (hb2.mono hB1.size);have m7:=Zb hb2 g7;have m3:=m7.cell 0;have m4:=m7.cell 1;have m5:=m7.frozen 0;have m6:=m7.frozen 1
   simp at m3 m4
   have HM:=Za m7;clear m7;go_wp2_with fail
   have HZ : sg na za.natAbs + sg (false) zb.natAbs = za - zb:=by
    have h1:=hza.out;have h2:=hzb.out;rw [Zf] at h1 h2
    have h3 : sg (false) zb.natAbs = - zb:=by have h4:=hz0.out;unfold sg;simp;omega
    rw [h1,h3];omega
   refine bodyPost_ret (v:=.tuple #[.agg #[.bool neg2,.slice A2 n2 c2],.int .i64 code2]) (by simp [results,Tryz.results73,go_sem,m3,m4]) rfl ?_;exact ResW.box (HZ ▸ hR2) hB2 (by omega) HM.out
def Zgh (x : Rat) : Int:=if (x.den : Int) < Int.fmod x.num x.den + Int.fmod x.num x.den \/ (x.den : Int) = Int.fmod x.num x.den + Int.fmod x.num x.den /\ Int.fdiv x.num x.den % 2 = 1 then Int.fdiv x.num x.den + 1 else Int.fdiv x.num x.den
def NumE (w : World) (z : Int) (e : Ending) (w' : World) : Prop:=
 Below w.heap.size w w' /\ ∃ neg A n c,e = .returned (.tuple #[.agg #[.bool neg,.slice A n c],.int .i64 0]) /\ Wd w' neg A n c z
theorem Zqg {x : Rat} : 0 <= Int.fmod x.num x.den /\ Int.fmod x.num x.den < x.den:=by
 have h:=x.den_pos;rw [Int.fmod_eq_emod_of_nonneg _ (by omega)];exact ⟨Int.emod_nonneg _ (by omega),Int.emod_lt_of_pos _ (by omega)⟩
theorem Zi0 {x : Rat} {k : Nat} (h : x.num.natAbs < k) : (Int.fdiv x.num x.den).natAbs <= k:=by
 have h0:=x.den_pos;rw [Int.fdiv_eq_ediv_of_nonneg _ (by omega)]
 have h2 : x.num / (x.den : Int) <= k:=Int.ediv_le_of_le_mul (by omega) (by
  have : (k : Int) * 1 <= (k : Int) * (x.den : Int):=Int.mul_le_mul_of_nonneg_left (by omega) (by omega)
  omega)
 have h3 : -(k : Int) <= x.num / (x.den : Int):=Int.le_ediv_of_mul_le (by omega) (by
  have : (-(k : Int)) * (x.den : Int) <= -(k : Int) * 1:=Int.mul_le_mul_of_nonpos_left (by omega) (by omega)
  omega)
 omega
theorem Zfw {x : Rat} (h : (x.den : Int) < Int.fmod x.num x.den + Int.fmod x.num x.den \/ (x.den : Int) = Int.fmod x.num x.den + Int.fmod x.num x.den /\ Int.fdiv x.num x.den % 2 = 1) : Zgh x = Int.fdiv x.num x.den + 1:=if_pos h
theorem Zco {x : Rat} (h : ¬ ((x.den : Int) < Int.fmod x.num x.den + Int.fmod x.num x.den \/ (x.den : Int) = Int.fmod x.num x.den + Int.fmod x.num x.den /\ Int.fdiv x.num x.den % 2 = 1)) : Zgh x = Int.fdiv x.num x.den:=if_neg h
theorem Zg7 {u : Nat} : (digits u)[0]?.getD 0 % 2 = u % 2:=by
 by_cases h0 : u = 0
 ·subst h0;rw [Zy];rfl
 ·rw [Za5 h0]
  show u % 4294967296 % 2 = u % 2;omega
theorem and_one {u : Nat} (hu : u < 4294967296) : bits .and .u32 (u : Int) 1 = ((u % 2 : Nat) : Int):=by
 have h64 : ∀ x : Nat,x < 4294967296 -> (BitVec.ofInt 32 (x : Int)).toNat = x:=fun x hx=>by
  rw [BitVec.ofInt_natCast,BitVec.toNat_ofNat];exact Nat.mod_eq_of_lt hx
 show IntKind.u32.wrap ((BitVec.ofInt 32 (u : Int) &&& BitVec.ofInt 32 ((1 : Nat) : Int)).toNat : Int) = _;rw [BitVec.toNat_and,h64 u hu,h64 1 (by omega),Nat.and_one_is_mod];exact IntWalk.u32_in _ (by omega)
theorem Zqr (na nb : Bool) (A B : Option Addr) (n c m d : Nat) (x : Rat) (w : World) (hx : Fr w na A n c nb B m d x) (hs : Sm x) :
    Calls Tryz.prog 201 #[.agg #[.bool na,.slice A n c,.bool nb,.slice B m d]] w (NumE w (Zgh x)):=by
 obtain ⟨W0,hW0,hB0,⟨q0,q1,q2⟩,s0⟩:=Zbm w 29 #[.bool na,.slice A n c,.bool nb,.slice B m d] 27 #[.bool false,.slice none 0 0] 30 #[.int .i64 0];have hX:=Za (hx.below hB0)
 have hmx : Tryz.prog.follows .mixedOrders = true:=by kernel_rfl
 have hbig:=Zf0 (a:=1000) (b:=4096) (by decide)
 have hbig2 : pw 1000 + pw 1000 + 2 < pw 4096:=by
  have h1:=Zez (a:=1001) (b:=4096) (by decide);have h2 : pw 1001 = 4294967296 * pw 1000:=Zai 1000;have h3:=Zdt 1000;omega
 have hrr : Hid ((Int.fmod x.num x.den + Int.fmod x.num x.den).natAbs < pw 4096):=Za (by have h1:=Zqg (x:=x);have h2:=hs.2;omega);have hqq : Hid ((Int.fdiv x.num x.den + 1).natAbs < pw 4096):=Za (by have h1:=Zi0 (x:=x) hs.1;omega);clear hx hs hbig hbig2;replace hW0:=Za hW0;obtain ⟨a0,a1,a2,a3,-⟩:=q0.four;have hq:=Za (And.intro q0 (And.intro q1 q2));clear q0 q1 q2
 go_enter_defers Tryz.func201,Tryz.ntmps201
 have hW0':=hW0.out;go_wp2_with fail;clear hW0 hW0';refine (Zb8 na nb A B n c m d x W0 hX.out).mono ?_;rintro e w1 ⟨rfl,hb1⟩;have hB1 : Below w.heap.size w w1:=hB0.trans (hb1.mono hB0.size);have s1 : W0.heap.size <= w1.heap.size:=hb1.size;replace hX:=Za (hX.out.below hb1);obtain ⟨q0,q1,q2⟩:=hq.out;replace q0:=Zb hb1 q0;replace q1:=Zb hb1 q1;replace q2:=Zb hb1 q2;clear hq hb1 hB0 a0 a1 a2 a3;obtain ⟨a0,a1,a2,a3,-⟩:=q0.four;have hq:=Za (And.intro q0 (And.intro q1 q2));clear q0 q1 q2;go_wp2_with fail;refine (Zcs w1).mono ?_;rintro e w1 ⟨rfl,rfl⟩;go_wp2_with fail;refine (Zda na nb A B n c m d x.num x.den w1 hX.out.1 hX.out.2 (by have:=x.den_pos;omega)).mono ?_;rintro e w2 ⟨hb2,nq,Aq,kq,cq,nr,Ar,kr,cr,rfl,hQ,hR⟩;have hB2 : Below w.heap.size w w2:=hB1.trans (hb2.mono hB1.size);have s2 : w1.heap.size <= w2.heap.size:=hb2.size;replace hX:=Za (hX.out.below hb2);obtain ⟨q0,q1,q2⟩:=hq.out;replace q0:=((Zb hb2 q0).alloc (.cells #[.bool nq,.slice Aq kq cq] 27)).alloc (.cells #[.bool nr,.slice Ar kr cr] 27);replace q1:=((Zb hb2 q1).alloc (.cells #[.bool nq,.slice Aq kq cq] 27)).alloc (.cells #[.bool nr,.slice Ar kr cr] 27);replace q2:=((Zb hb2 q2).alloc (.cells #[.bool nq,.slice Aq kq cq] 27)).alloc (.cells #[.bool nr,.slice Ar kr cr] 27);have q4 : Blk ((w2.alloc (.cells #[.bool nq,.slice Aq kq cq] 27)).alloc (.cells #[.bool nr,.slice Ar kr cr] 27)) w2.heap.size 27 #[.bool nq,.slice Aq kq cq]:=(Blk.new w2 _ _).alloc _
 have q5 : Blk ((w2.alloc (.cells #[.bool nq,.slice Aq kq cq] 27)).alloc (.cells #[.bool nr,.slice Ar kr cr] 27)) (w2.heap.size + 1) 27 #[.bool nr,.slice Ar kr cr]:=by
  have:=Blk.new (w2.alloc (.cells #[.bool nq,.slice Aq kq cq] 27)) 27 #[.bool nr,.slice Ar kr cr];simp only [World.size_alloc] at this;exact this
 have hB3 : Below w.heap.size w ((w2.alloc (.cells #[.bool nq,.slice Aq kq cq] 27)).alloc (.cells #[.bool nr,.slice Ar kr cr] 27)):=(hB2.alloc hB2.size _).alloc (by have:=hB2.size;simp;omega) _;have hX3:=(hX.out.alloc (.cells #[.bool nq,.slice Aq kq cq] 27)).alloc (.cells #[.bool nr,.slice Ar kr cr] 27);have hQ3:=(hQ.alloc (.cells #[.bool nq,.slice Aq kq cq] 27)).alloc (.cells #[.bool nr,.slice Ar kr cr] 27);have hR3:=(hR.alloc (.cells #[.bool nq,.slice Aq kq cq] 27)).alloc (.cells #[.bool nr,.slice Ar kr cr] 27);have e1:=q2.frozen 0;have e0:=q2.cell 0;simp only [List.getElem?_toArray,List.getElem?_cons_zero] at e0;have hs2:=hB2.size;clear hq hb2 hB1 a0 a1 a2 a3 hQ hR hX;have hX:=Za hX3;have hQ:=Za hQ3;have hR:=Za hR3;have hq:=Za (And.intro q0 (And.intro q1 (And.intro q2 (And.intro q4 q5))));clear q0 q1 q2 q4 q5 hX3 hQ3 hR3;replace hB3:=Za hB3;go_wp2_with fail;obtain ⟨q0,q1,q2,q4,q5⟩:=hq.out;obtain ⟨W5,hW5,hB5,q2',kW,kB,s5⟩:=Zbe 0 hB3.out (by omega) q2;replace q0:=kB _ _ _ (by omega) q0;replace q1:=kB _ _ _ (by omega) q1;replace q4:=kB _ _ _ (by omega) q4;replace q5:=kB _ _ _ (by omega) q5;replace hX : Hid (Fr W5 na A n c nb B m d x):=Za ⟨kW _ _ _ _ _ hX.out.1,kW _ _ _ _ _ hX.out.2⟩;replace hQ:=Za (kW _ _ _ _ _ hQ.out);replace hR:=Za (kW _ _ _ _ _ hR.out);rw [hW5];clear hq hB3 q2 kW kB hW5 e0 e1;refine (Zcs W5).mono ?_;rintro e W5 ⟨rfl,rfl⟩;obtain ⟨r0,r1,-⟩:=q5.two;obtain ⟨-,-,r2,r3,-⟩:=q0.four;have hq:=Za (And.intro q1 (And.intro q2' q4));clear q0 q1 q2' q4 q5
 replace hB5:=Za hB5;go_wp2_with fail;have hSv : Hid (∀ wx,Below W5.heap.size W5 wx -> wx.cell? ⟨w2.heap.size + 1,0,none⟩ = some (.bool nr) /\ wx.cell? ⟨w2.heap.size + 1,1,none⟩ = some (.slice Ar kr cr) /\ wx.cell? ⟨w.heap.size,2,none⟩ = some (.bool nb) /\ wx.cell? ⟨w.heap.size,3,none⟩ = some (.slice B m d)):=Za (fun wx hbx=>⟨Zc hbx r0,Zc hbx r1,Zc hbx r2,Zc hbx r3⟩);have hr : Below W5.heap.size W5 W5.drew:=Zh (Below.refl _ _) 1;refine wp_heldS [] hmx hSv hr (fun hxs=>?_);refine Zty 4 [0,1,6,7] rfl (by kernel_rfl) (hSv.out _ hr) ?_
 iterate 4 (refine tk1 (v:=?_) rfl (Or.inl ⟨by kernel_rfl,?_⟩) ?_;rotate_left;(· intro W2 hSw;(try dsimp only at hSw);go_simp;try with_reducible rfl);try simp only [Act.put,putL_a,putL_z,putL_s,putG_a,putG_s,putG_z])
 refine tk0 ?_;refine Ze (i:=2) rfl (by kernel_rfl) (fun K hK=>?_);go_simp;refine (Zoy nr nr Ar Ar kr cr kr cr _ _ W5.drew (hR.out.below hr) (hR.out.below hr)).mono ?_;rintro e w6 ⟨hb6,np,P,k,q,code,rfl,hRes⟩;have hr6:=hr.trans (hb6.mono hr.size);have hP:=Za (hRes.small hrr.out);have hcode:=hRes.code0 hrr.out;subst hcode;clear hRes hrr;refine hK.out _ _ (fun _=>hSv.out _ hr6) ?_;clear hK K
 try simp only [Act.put,putL_a,putL_z,putL_s]
 refine Zty 2 [3,4] rfl (by kernel_rfl) (hSv.out _ hr6) ?_
 iterate 2 (refine tk1 (v:=?_) rfl (Or.inl ⟨by kernel_rfl,?_⟩) ?_;rotate_left;(· intro W2 hSw;(try dsimp only at hSw);go_simp;try with_reducible rfl);try simp only [Act.put,putL_a,putL_z,putL_s,putG_a,putG_s,putG_z])
 refine tk0 ?_;refine Ze (i:=5) rfl (by kernel_rfl) (fun K hK=>?_);go_simp;refine (Zcg np P k q w6).mono ?_;rintro e w7 ⟨rfl,hb7⟩;have hr7:=hr6.trans (hb7.mono hr6.size);replace hP:=Za (hP.out.below hb7);refine hK.out _ _ (fun _=>hSv.out _ hr7) ?_;clear hK K
 try simp only [Act.put,putL_a,putL_z,putL_s]
 refine Ze (i:=8) rfl (by kernel_rfl) (fun K hK=>?_);go_simp;refine (Zmd np nb P B k q m d _ _ w7 hP.out (hX.out.2.below hr7)).mono ?_;rintro e w8 ⟨rfl,hb8⟩;have hr8:=hr7.trans (hb8.mono hr7.size);refine hK.out _ _ (fun _=>hSv.out _ hr8) ?_;clear hK K
 try simp only [Act.put,putL_a,putL_z,putL_s]
 refine Zty 5 [9,10,11,12,13] rfl (by kernel_rfl) (hSv.out _ hr8) ?_
 iterate 5 (refine tk1 (v:=?_) rfl (Or.inl ⟨by kernel_rfl,?_⟩) ?_;rotate_left;(· intro W2 hSw;(try dsimp only at hSw);go_simp;try with_reducible rfl);try simp only [Act.put,putL_a,putL_z,putL_s,putG_a,putG_s,putG_z])
 refine tk0 ?_;refine Zj (by kernel_rfl) ?_ _;refine OnlyNormal.normal ?_;obtain ⟨q1,q2,q4⟩:=hq.out;replace q1:=Zb hr8 q1;replace q2:=Zb hr8 q2;replace q4:=Zb hr8 q4;replace hQ:=Za (hQ.out.below hr8);have hB8:=hB5.out.trans (hr8.mono hB5.out.size);have s8:=hr8.size;clear hq hr hr6 hr7 hr8 hb6 hb7 hb8 hSv hxs hR hX hP hB5 r0 r1 r2 r3;replace hqq:=hqq
 rcases Int.lt_trichotomy (x.den : Int) (Int.fmod x.num x.den + Int.fmod x.num x.den) with hlt | heq | hgt
 case inl =>
  have hz:=Zfw (x:=x) (.inl hlt)
  have hc : Zaw (Int.fmod x.num x.den + Int.fmod x.num x.den) (x.den : Int) = 1:=by unfold Zaw;rw [if_neg (by omega),if_pos hlt]
  rw [hc];clear hlt hc;replace hz:=Za hz;go_wp2_with fail;obtain ⟨c0,c1,-⟩:=q4.two;have hSv : Hid (∀ wx,Below w8.heap.size w8 wx -> wx.cell? ⟨w2.heap.size,0,none⟩ = some (.bool nq) /\ wx.cell? ⟨w2.heap.size,1,none⟩ = some (.slice Aq kq cq)):=Za (fun wx hbx=>⟨Zc hbx c0,Zc hbx c1⟩);have hr : Below w8.heap.size w8 w8.drew:=Zh (Below.refl _ _) 1;have hqh:=Za (And.intro q1 (And.intro q2 q4));have hBh:=Za hB8;clear q1 q2 q4 hB8 c0 c1;refine wp_heldS [6] hmx hSv hr (fun hxs=>?_);refine Zty 1 [0] rfl (by kernel_rfl) (hSv.out _ hr) ?_
  (refine tk1 (v:=?_) rfl (Or.inl ⟨by kernel_rfl,?_⟩) ?_;rotate_left;(· intro W2 hSw;(try dsimp only at hSw);go_simp;try with_reducible rfl);try simp only [Act.put,putL_a,putL_z,putL_s,putG_a,putG_s,putG_z])
  refine tk0 ?_;refine Ze (i:=1) rfl (by kernel_rfl) (fun K hK=>?_);go_simp;refine (Zo2 w8.drew).mono ?_;rintro e w11 ⟨hb11,n1,A1,k1,c1,rfl,hO⟩;have hr11:=hr.trans (hb11.mono hr.size);replace hO:=Za hO;refine hK.out _ _ (fun _=>hSv.out _ hr11) ?_;clear hK K
  try simp only [Act.put,putL_a,putL_z,putL_s]
  refine Ze (i:=2) rfl (by kernel_rfl) (fun K hK=>?_);go_simp;refine (Zoy nq n1 Aq A1 kq cq k1 c1 _ _ w11 (hQ.out.below hr11) hO.out).mono ?_;rintro e w12 ⟨hb12,np,P,k,q,code,rfl,hRes⟩;have hr12:=hr11.trans (hb12.mono hr11.size);have hP:=Za (hRes.small hqq.out);have hcode:=hRes.code0 hqq.out;subst hcode;clear hRes hqq hO;refine hK.out _ _ (fun _=>hSv.out _ hr12) ?_;clear hK K
  try simp only [Act.put,putL_a,putL_z,putL_s]
  refine Zty 2 [3,4] rfl (by kernel_rfl) (hSv.out _ hr12) ?_
  iterate 2 (refine tk1 (v:=?_) rfl (Or.inl ⟨by kernel_rfl,?_⟩) ?_;rotate_left;(· intro W2 hSw;(try dsimp only at hSw);go_simp;try with_reducible rfl);try simp only [Act.put,putL_a,putL_z,putL_s,putG_a,putG_s,putG_z])
  refine tk0 ?_;refine Ze (i:=5) rfl (by kernel_rfl) (fun K hK=>?_);go_simp;refine (Zcg np P k q w12).mono ?_;rintro e w13 ⟨rfl,hb13⟩;have hr13:=hr12.trans (hb13.mono hr12.size);replace hP:=Za (hP.out.below hb13);obtain ⟨q1,q2,q4⟩:=hqh.out;replace q1:=Zb hr13 q1;replace q2:=Zb hr13 q2;replace q4:=Zb hr13 q4;have hB13:=hBh.out.trans (hr13.mono hBh.out.size);obtain ⟨x0,x1,f0,f1⟩:=q4.two;refine hK.out _ _ (fun _=>hSv.out _ hr13) ?_;clear hK K
  try simp only [Act.put,putL_a,putL_z,putL_s]
  refine Zt (i:=6) rfl (by kernel_rfl) (by kernel_rfl) (fun K hK=>?_);go_simp;obtain ⟨W14,hW14,hB14,q4',kW,kB,s14⟩:=Z6 np P k q hB13 (by omega) q4;rw [hW14];clear hW14 x0 x1 f0 f1;replace q1:=kB _ _ _ (by omega) q1;replace q2:=kB _ _ _ (by omega) q2;replace hP:=Za (kW _ _ _ _ _ hP.out);have s13:=hr13.size;clear kW kB;refine hK.out _ _ ?_;clear hK K
  try simp only [Act.put,putL_a,putL_z,putL_s]
  refine Zj (by kernel_rfl) ?_ _;refine OnlyNormal.normal ?_;clear hr hr11 hr12 hr13 hb11 hb12 hb13 hSv hxs hqh hBh q4 hB13;obtain ⟨c0,c1,-⟩:=q4'.two;obtain ⟨x0,x1,f0,f1⟩:=q1.two;have e0:=q2.cell 0;have e1:=q2.frozen 0;simp only [List.getElem?_toArray,List.getElem?_cons_zero] at e0;have hBh:=Za hB14;have hqh:=Za (And.intro q1 (And.intro q2 q4'));clear q1 q2 q4' hB14;go_wp2_with fail;obtain ⟨u1,u2,u4⟩:=hqh.out;obtain ⟨Wa,hWa,hBa,qa,kW,kB,sa⟩:=Z6 np P k q hBh.out (by omega) u1;replace u2:=kB _ _ _ (by omega) u2;have HZ:=kW _ _ _ _ _ hP.out;rw [hWa];obtain ⟨Wb,hWb,hBb,qb,kW2,kB2,sb⟩:=Zbe 0 hBa (by omega) u2;replace qa:=kB2 _ _ _ (by omega) qa;replace HZ:=kW2 _ _ _ _ _ HZ;rw [hWb];obtain ⟨y0,y1,-⟩:=qa.two;have y4:=qb.cell 0;simp only [List.getElem?_toArray,List.getElem?_cons_zero] at y4;refine leaves_cons (f:=144) (args:=#[.pointer (some ⟨w.heap.size + 1 + 1,0,none⟩)]) (by simp) (by simp [go_sem]) ?_;refine (Zbh _ _).mono ?_;rintro e u' w'' ⟨rfl,rfl,rfl⟩;refine ⟨.tuple #[.agg #[.bool np,.slice P k q],.int .i64 0],by simp [results,Tryz.results201,go_sem,y0,y1,y4],?_⟩;exact ⟨hBb,_,_,_,_,rfl,by rw [hz.out];exact HZ⟩
 case inr.inr =>
  have hz:=Zco (x:=x) (by omega)
  have hc : Zaw (Int.fmod x.num x.den + Int.fmod x.num x.den) (x.den : Int) = -1:=by unfold Zaw;rw [if_pos hgt]
  rw [hc];clear hgt hc;replace hz:=Za hz;obtain ⟨c0,c1,-⟩:=q4.two;obtain ⟨x0,x1,f0,f1⟩:=q1.two;have e0:=q2.cell 0;have e1:=q2.frozen 0;simp only [List.getElem?_toArray,List.getElem?_cons_zero] at e0;have hBh:=Za hB8;have hqh:=Za (And.intro q1 (And.intro q2 q4));clear q1 q2 q4 hB8;go_wp2_with fail;obtain ⟨u1,u2,u4⟩:=hqh.out;obtain ⟨Wa,hWa,hBa,qa,kW,kB,sa⟩:=Z6 nq Aq kq cq hBh.out (by omega) u1;replace u2:=kB _ _ _ (by omega) u2;have HZ:=kW _ _ _ _ _ hQ.out;rw [hWa];obtain ⟨Wb,hWb,hBb,qb,kW2,kB2,sb⟩:=Zbe 0 hBa (by omega) u2;replace qa:=kB2 _ _ _ (by omega) qa;replace HZ:=kW2 _ _ _ _ _ HZ;rw [hWb];obtain ⟨y0,y1,-⟩:=qa.two;have y4:=qb.cell 0;simp only [List.getElem?_toArray,List.getElem?_cons_zero] at y4;refine leaves_cons (f:=144) (args:=#[.pointer (some ⟨w.heap.size + 1 + 1,0,none⟩)]) (by simp) (by simp [go_sem]) ?_;refine (Zbh _ _).mono ?_;rintro e u' w'' ⟨rfl,rfl,rfl⟩;refine ⟨.tuple #[.agg #[.bool nq,.slice Aq kq cq],.int .i64 0],by simp [results,Tryz.results201,go_sem,y0,y1,y4],?_⟩;exact ⟨hBb,_,_,_,_,rfl,by rw [hz.out];exact HZ⟩
 case inr.inl =>
  have hc : Zaw (Int.fmod x.num x.den + Int.fmod x.num x.den) (x.den : Int) = 0:=by unfold Zaw;rw [if_neg (by omega),if_neg (by omega)]
  rw [hc];replace heq:=Za heq;clear hc;have hk0:=hQ.out.lim.len;have hkm:=hQ.out.2.1;replace hk0:=Za hk0;obtain ⟨c0,c1,-⟩:=q4.two;replace hB8:=Za hB8;have hqy:=Za (And.intro q1 (And.intro q2 q4));clear q1 q2 q4
  by_cases hk : kq = 0
  case pos =>
   subst hk
   have hq0 : Int.fdiv x.num x.den = 0:=by
    have:=digits_eq_nil.1 (List.length_eq_zero_iff.1 hk0.out);omega
   have hz:=Zco (x:=x) (by rw [hq0];have:=heq.out;omega);clear hq0 hk0;replace hz:=Za hz;go_wp2_with fail;refine (Zea nq Aq 0 cq w8 (by omega) true (by decide)).mono ?_;rintro e w9 ⟨rfl,hb9⟩;obtain ⟨q1,q2,q4⟩:=hqy.out;replace q1:=Zb hb9 q1;replace q2:=Zb hb9 q2;replace q4:=Zb hb9 q4;replace hQ:=Za (hQ.out.below hb9);have hB9:=hB8.out.trans (hb9.mono hB8.out.size);have s9:=hb9.size;clear hqy hB8 c0 c1 hb9;obtain ⟨c0,c1,-⟩:=q4.two;obtain ⟨x0,x1,f0,f1⟩:=q1.two;have e0:=q2.cell 0;have e1:=q2.frozen 0;simp only [List.getElem?_toArray,List.getElem?_cons_zero] at e0;have hBh:=Za hB9;have hqh:=Za (And.intro q1 (And.intro q2 q4));clear q1 q2 q4 hB9;go_wp2_with fail;obtain ⟨u1,u2,u4⟩:=hqh.out;obtain ⟨Wa,hWa,hBa,qa,kW,kB,sa⟩:=Z6 nq Aq 0 cq hBh.out (by omega) u1;replace u2:=kB _ _ _ (by omega) u2;have HZ:=kW _ _ _ _ _ hQ.out;rw [hWa];obtain ⟨Wb,hWb,hBb,qb,kW2,kB2,sb⟩:=Zbe 0 hBa (by omega) u2;replace qa:=kB2 _ _ _ (by omega) qa;replace HZ:=kW2 _ _ _ _ _ HZ;rw [hWb];obtain ⟨y0,y1,-⟩:=qa.two;have y4:=qb.cell 0;simp only [List.getElem?_toArray,List.getElem?_cons_zero] at y4;refine leaves_cons (f:=144) (args:=#[.pointer (some ⟨w.heap.size + 1 + 1,0,none⟩)]) (by simp) (by simp [go_sem]) ?_;refine (Zbh _ _).mono ?_;rintro e u' w'' ⟨rfl,rfl,rfl⟩;refine ⟨.tuple #[.agg #[.bool nq,.slice Aq 0 cq],.int .i64 0],by simp [results,Tryz.results201,go_sem,y0,y1,y4],?_⟩;exact ⟨hBb,_,_,_,_,rfl,by rw [hz.out];exact HZ⟩
  case neg =>
   have hkb : ((kq : Int) == 0) = false:=by simp;omega
   obtain ⟨gq,oq,rfl,hcell⟩:=hQ.out.lim.at_ (k:=0) (by omega);go_wp2_with fail;refine (Zea nq _ kq cq w8 (by omega) false hkb).mono ?_;rintro e w9 ⟨rfl,hb9⟩;obtain ⟨q1,q2,q4⟩:=hqy.out;replace q1:=Zb hb9 q1;replace q2:=Zb hb9 q2;replace q4:=Zb hb9 q4;replace hQ:=Za (hQ.out.below hb9);have hc9 : w9.cell? ⟨gq,oq,none⟩ = some (.int .u32 (((digits (Int.fdiv x.num x.den).natAbs)[0]?.getD 0 : Nat) : Int)):=Zc hb9 hcell;have hB9:=Za (hB8.out.trans (hb9.mono hB8.out.size));have s9:=hb9.size;clear hqy hB8 c0 c1 hb9 hcell;obtain ⟨c0,c1,-⟩:=q4.two
   have bk : (0 : Int) < (kq : Int):=by omega
   obtain ⟨u,hu⟩ : ∃ u,(digits (Int.fdiv x.num x.den).natAbs)[0]?.getD 0 = u:=⟨_,rfl⟩;have hou:=Zg7 (u:=(Int.fdiv x.num x.den).natAbs)
   have hu32 : u < 4294967296:=by rw [<- hu];exact (Zb2 _).get _
   rw [hu] at hc9 hou;have hbit : bits .and .u32 (u : Int) 1 = ((u % 2 : Nat) : Int):=and_one hu32;replace hou:=Za hou;clear hu;have hqy:=Za (And.intro q1 (And.intro q2 q4));clear q1 q2 q4
   by_cases hodd : u % 2 = 1
   case pos =>
    have hz:=Zfw (x:=x) (.inr ⟨heq.out,by have:=hou.out;omega⟩);rw [hodd] at hbit;replace hz:=Za hz;replace hodd:=Za hodd;obtain ⟨q1,q2,q4⟩:=hqy.out;clear hqy c0 c1;obtain ⟨c0,c1,-⟩:=q4.two;have hB9':=hB9.out;clear hB9;go_wp2_with fail;obtain ⟨c0,c1,-⟩:=q4.two;have hSv : Hid (∀ wx,Below w9.heap.size w9 wx -> wx.cell? ⟨w2.heap.size,0,none⟩ = some (.bool nq) /\ wx.cell? ⟨w2.heap.size,1,none⟩ = some (.slice (some ⟨gq,oq,none⟩) kq cq)):=Za (fun wx hbx=>⟨Zc hbx c0,Zc hbx c1⟩);have hr : Below w9.heap.size w9 w9.drew:=Zh (Below.refl _ _) 1;have hqh:=Za (And.intro q1 (And.intro q2 q4));have hBh:=Za hB9';clear q1 q2 q4 hB9' c0 c1;refine wp_heldS [6] hmx hSv hr (fun hxs=>?_);refine Zty 1 [0] rfl (by kernel_rfl) (hSv.out _ hr) ?_
    (refine tk1 (v:=?_) rfl (Or.inl ⟨by kernel_rfl,?_⟩) ?_;rotate_left;(· intro W2 hSw;(try dsimp only at hSw);go_simp;try with_reducible rfl);try simp only [Act.put,putL_a,putL_z,putL_s,putG_a,putG_s,putG_z])
    refine tk0 ?_;refine Ze (i:=1) rfl (by kernel_rfl) (fun K hK=>?_);go_simp;refine (Zo2 w9.drew).mono ?_;rintro e w11 ⟨hb11,n1,A1,k1,c1,rfl,hO⟩;have hr11:=hr.trans (hb11.mono hr.size);replace hO:=Za hO;refine hK.out _ _ (fun _=>hSv.out _ hr11) ?_;clear hK K
    try simp only [Act.put,putL_a,putL_z,putL_s]
    refine Ze (i:=2) rfl (by kernel_rfl) (fun K hK=>?_);go_simp;refine (Zoy nq n1 (some ⟨gq,oq,none⟩) A1 kq cq k1 c1 _ _ w11 (hQ.out.below hr11) hO.out).mono ?_;rintro e w12 ⟨hb12,np,P,k,q,code,rfl,hRes⟩;have hr12:=hr11.trans (hb12.mono hr11.size);have hP:=Za (hRes.small hqq.out);have hcode:=hRes.code0 hqq.out;subst hcode;clear hRes hqq hO;refine hK.out _ _ (fun _=>hSv.out _ hr12) ?_;clear hK K
    try simp only [Act.put,putL_a,putL_z,putL_s]
    refine Zty 2 [3,4] rfl (by kernel_rfl) (hSv.out _ hr12) ?_
    iterate 2 (refine tk1 (v:=?_) rfl (Or.inl ⟨by kernel_rfl,?_⟩) ?_;rotate_left;(· intro W2 hSw;(try dsimp only at hSw);go_simp;try with_reducible rfl);try simp only [Act.put,putL_a,putL_z,putL_s,putG_a,putG_s,putG_z])
    refine tk0 ?_;refine Ze (i:=5) rfl (by kernel_rfl) (fun K hK=>?_);go_simp;refine (Zcg np P k q w12).mono ?_;rintro e w13 ⟨rfl,hb13⟩;have hr13:=hr12.trans (hb13.mono hr12.size);replace hP:=Za (hP.out.below hb13);obtain ⟨q1,q2,q4⟩:=hqh.out;replace q1:=Zb hr13 q1;replace q2:=Zb hr13 q2;replace q4:=Zb hr13 q4;have hB13:=hBh.out.trans (hr13.mono hBh.out.size);obtain ⟨x0,x1,f0,f1⟩:=q4.two;refine hK.out _ _ (fun _=>hSv.out _ hr13) ?_;clear hK K
    try simp only [Act.put,putL_a,putL_z,putL_s]
    refine Zt (i:=6) rfl (by kernel_rfl) (by kernel_rfl) (fun K hK=>?_);go_simp;obtain ⟨W14,hW14,hB14,q4',kW,kB,s14⟩:=Z6 np P k q hB13 (by omega) q4;rw [hW14];clear hW14 x0 x1 f0 f1;replace q1:=kB _ _ _ (by omega) q1;replace q2:=kB _ _ _ (by omega) q2;replace hP:=Za (kW _ _ _ _ _ hP.out);have s13:=hr13.size;clear kW kB;refine hK.out _ _ ?_;clear hK K
    try simp only [Act.put,putL_a,putL_z,putL_s]
    refine Zj (by kernel_rfl) ?_ _;refine OnlyNormal.normal ?_;clear hr hr11 hr12 hr13 hb11 hb12 hb13 hSv hxs hqh hBh q4 hB13;obtain ⟨c0,c1,-⟩:=q4'.two;obtain ⟨x0,x1,f0,f1⟩:=q1.two;have e0:=q2.cell 0;have e1:=q2.frozen 0;simp only [List.getElem?_toArray,List.getElem?_cons_zero] at e0;have hBh:=Za hB14;have hqh:=Za (And.intro q1 (And.intro q2 q4'));clear q1 q2 q4' hB14;go_wp2_with fail;obtain ⟨u1,u2,u4⟩:=hqh.out;obtain ⟨Wa,hWa,hBa,qa,kW,kB,sa⟩:=Z6 np P k q hBh.out (by omega) u1;replace u2:=kB _ _ _ (by omega) u2;have HZ:=kW _ _ _ _ _ hP.out;rw [hWa];obtain ⟨Wb,hWb,hBb,qb,kW2,kB2,sb⟩:=Zbe 0 hBa (by omega) u2;replace qa:=kB2 _ _ _ (by omega) qa;replace HZ:=kW2 _ _ _ _ _ HZ;rw [hWb];obtain ⟨y0,y1,-⟩:=qa.two;have y4:=qb.cell 0;simp only [List.getElem?_toArray,List.getElem?_cons_zero] at y4;refine leaves_cons (f:=144) (args:=#[.pointer (some ⟨w.heap.size + 1 + 1,0,none⟩)]) (by simp) (by simp [go_sem]) ?_;refine (Zbh _ _).mono ?_;rintro e u' w'' ⟨rfl,rfl,rfl⟩;refine ⟨.tuple #[.agg #[.bool np,.slice P k q],.int .i64 0],by simp [results,Tryz.results201,go_sem,y0,y1,y4],?_⟩;exact ⟨hBb,_,_,_,_,rfl,by rw [hz.out];exact HZ⟩
   case neg =>
    have hev : u % 2 = 0:=by omega
    have hz:=Zco (x:=x) (by have h1:=hou.out;have h2:=heq.out;omega);rw [hev] at hbit;replace hz:=Za hz;replace hodd:=Za hodd;replace hev:=Za hev;obtain ⟨q1,q2,q4⟩:=hqy.out;have hB9':=hB9.out;clear hqy hB9 c0 c1;obtain ⟨c0,c1,-⟩:=q4.two;obtain ⟨x0,x1,f0,f1⟩:=q1.two;have e0:=q2.cell 0;have e1:=q2.frozen 0;simp only [List.getElem?_toArray,List.getElem?_cons_zero] at e0;have hBh:=Za hB9';have hqh:=Za (And.intro q1 (And.intro q2 q4));clear q1 q2 q4 hB9';go_wp2_with fail;obtain ⟨u1,u2,u4⟩:=hqh.out;obtain ⟨Wa,hWa,hBa,qa,kW,kB,sa⟩:=Z6 nq (some ⟨gq,oq,none⟩) kq cq hBh.out (by omega) u1;replace u2:=kB _ _ _ (by omega) u2;have HZ:=kW _ _ _ _ _ hQ.out;rw [hWa];obtain ⟨Wb,hWb,hBb,qb,kW2,kB2,sb⟩:=Zbe 0 hBa (by omega) u2;replace qa:=kB2 _ _ _ (by omega) qa;replace HZ:=kW2 _ _ _ _ _ HZ;rw [hWb];obtain ⟨y0,y1,-⟩:=qa.two;have y4:=qb.cell 0;simp only [List.getElem?_toArray,List.getElem?_cons_zero] at y4;refine leaves_cons (f:=144) (args:=#[.pointer (some ⟨w.heap.size + 1 + 1,0,none⟩)]) (by simp) (by simp [go_sem]) ?_;refine (Zbh _ _).mono ?_;rintro e u' w'' ⟨rfl,rfl,rfl⟩;refine ⟨.tuple #[.agg #[.bool nq,.slice (some ⟨gq,oq,none⟩) kq cq],.int .i64 0],by simp [results,Tryz.results201,go_sem,y0,y1,y4],?_⟩;exact ⟨hBb,_,_,_,_,rfl,by rw [hz.out];exact HZ⟩
end Go.Proofs.YtaioanjcjijckaaGreat
