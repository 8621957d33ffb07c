/- Package frac: Sub, Mul of small fractions. Package wide: -/
import Derived.Test.YtpehacgjclkhmaaGreatZy16
set_option maxRecDepth 100000
set_option maxHeartbeats 4000000
set_option linter.unusedSimpArgs false
set_option linter.unusedVariables false
namespace Go.Proofs.YtpehacgjclkhmaaGreat
open Go.RowKit
attribute [local go_sem] Zg
def Sm (r : Rat) : Prop:=r.num.natAbs < pw 1000 /\ r.den < pw 1000
theorem Zde {x y : Nat} {i j : Nat} (hx : x < pw i) (hy : y < pw j) : x * y < pw (i + j):=by
 rw [Zdr];exact Nat.mul_lt_mul'' hx hy
theorem Zm9 {x y : Int} (hx : x.natAbs < pw 1000) (hy : y.natAbs < pw 1000) : (x * y).natAbs < pw 2000:=by
 rw [Int.natAbs_mul];have h:=Zde hx hy;rw [show 1000 + 1000 = 2000 from rfl] at h;exact h
theorem pw_two (k : Nat) : pw k + pw k <= pw (k + 1):=by rw [Z8];generalize pw k = x;omega
theorem pw2001 : pw 2000 + pw 2000 <= pw 4096:=Nat.le_trans (pw_two 2000) (Ze0 (by decide))
theorem Zct {x y : Int} (hx : x.natAbs < pw 1000) (hy : y.natAbs < pw 1000) : (x * y).natAbs < pw 4096:=Nat.lt_of_lt_of_le (Zm9 hx hy) (Ze0 (by decide))
theorem sm_sub {x y z v : Int} (hx : x.natAbs < pw 1000) (hy : y.natAbs < pw 1000) (hz : z.natAbs < pw 1000) (hv : v.natAbs < pw 1000) : (x * y - z * v).natAbs < pw 4096:=by
 have h1:=Zm9 hx hy;have h2:=Zm9 hz hv;have h3:=pw2001;omega
theorem Sm.dn {r : Rat} (h : Sm r) : ((r.den : Nat) : Int).natAbs < pw 1000:=by simpa using h.2
theorem Znm (a b : Rat) : Rat.divInt (a.num * b.num) ((a.den : Int) * (b.den : Nat)) = a * b:=by
 rw [<- Rat.divInt_mul_divInt,Rat.num_divInt_den,Rat.num_divInt_den]
theorem rat_sub (a b : Rat) : Rat.divInt (a.num * b.den - b.num * a.den) ((a.den : Int) * (b.den : Nat)) = a - b:=by
 have ha : ((a.den : Nat) : Int) ≠ 0:=by have:=a.den_pos;omega
 have hb : ((b.den : Nat) : Int) ≠ 0:=by have:=b.den_pos;omega
 rw [<- Rat.divInt_sub_divInt _ _ ha hb,Rat.num_divInt_den,Rat.num_divInt_den]
theorem Zd4 (a b : Rat) : 0 < ((a.den : Int) * (b.den : Nat)):=Int.mul_pos (by have:=a.den_pos;omega) (by have:=b.den_pos;omega)
theorem fSub_ok (na nb na' nb' : Bool) (A B A' B' : Option Addr) (n c m d n' c' m' d' : Nat) (a b : Rat) (w : World) (ha : Fr w na A n c nb B m d a) (hb : Fr w na' A' n' c' nb' B' m' d' b) (sa : Sm a) (sb : Sm b) :
    Calls Tryz.prog 100 #[.agg #[.bool na,.slice A n c,.bool nb,.slice B m d],.agg #[.bool na',.slice A' n' c',.bool nb',.slice B' m' d']] w (Zfw w (a - b)):=by
 obtain ⟨W0,hW0,hB0,⟨q0,q1,q2⟩,s0⟩:=Zcp w 29 #[.bool na,.slice A n c,.bool nb,.slice B m d] 29 #[.bool na',.slice A' n' c',.bool nb',.slice B' m' d'] 29 #[.bool false,.slice none 0 0,.bool false,.slice none 0 0];have hA:=Za (ha.below hB0);have hD:=Za (hb.below hB0)
 have hF:=fun (W : World) (h1 : Fr W na A n c nb B m d a) (h2 : Fr W na' A' n' c' nb' B' m' d' b)=>Sub1_ok na nb na' nb' A B A' B' n c m d n' c' m' d' a b W h1 h2 (Zct sa.1 sb.dn) (Zct sb.1 sa.dn) (sm_sub sa.1 sb.dn sb.1 sa.dn) (Zct sa.dn sb.dn)
 have hG:=Za (Zn0 150 na nb na' nb' A B A' B' n c m d n' c' m' d' a b _ _ W0 hA.out hD.out (Zd4 a b) Zne hF);rw [rat_sub] at hG;clear hF ha hb sa sb hA hD;obtain ⟨a0,a1,a2,a3,-⟩:=q0.four;obtain ⟨b0,b1,b2,b3,-⟩:=q1.four;replace q2:=Za q2;clear q0 q1;go_enter Tryz.func100,Tryz.ntmps100;go_wp2_with fail;refine hG.out.mono ?_;rintro e w1 ⟨hb1,nx,Ax,kx,cx,ny,Ay,ky,cy,rfl,hX⟩;have hB1 : Below w.heap.size w w1:=hB0.trans (hb1.mono hB0.size);have s1 : W0.heap.size <= w1.heap.size:=hb1.size;replace q2:=Za (Zc hb1 q2.out);replace hX:=Za hX;clear hb1 a0 a1 a2 a3 b0 b1 b2 b3 hB0 hG hW0;obtain ⟨c20,c21,c22,c23,f20,f21,f22,f23⟩:=q2.out.four;go_wp2_with fail;obtain ⟨W5,hW5,hB5,q2,kW,-,s5⟩:=Zau nx Ax kx cx ny Ay ky cy hB1 (by omega) q2.out;rw [hW5];obtain ⟨r0,r1,r2,r3,-⟩:=q2.four;refine bodyPost_ret (v:=.tuple #[.agg #[.bool nx,.slice Ax kx cx,.bool ny,.slice Ay ky cy],.int .i64 0]) (by simp [results,Tryz.results100,go_sem,r0,r1,r2,r3]) rfl ?_;exact ⟨hB5,_,_,_,_,_,_,_,_,rfl,kW _ _ _ _ _ hX.out.1,kW _ _ _ _ _ hX.out.2⟩
theorem Znt (na nb na' nb' : Bool) (A B A' B' : Option Addr) (n c m d n' c' m' d' : Nat) (a b : Rat) (w : World) (ha : Fr w na A n c nb B m d a) (hb : Fr w na' A' n' c' nb' B' m' d' b) (sa : Sm a) (sb : Sm b) :
    Calls Tryz.prog 95 #[.agg #[.bool na,.slice A n c,.bool nb,.slice B m d],.agg #[.bool na',.slice A' n' c',.bool nb',.slice B' m' d']] w (Zfw w (a * b)):=by
 obtain ⟨W0,hW0,hB0,⟨q0,q1,q2⟩,s0⟩:=Zcp w 29 #[.bool na,.slice A n c,.bool nb,.slice B m d] 29 #[.bool na',.slice A' n' c',.bool nb',.slice B' m' d'] 29 #[.bool false,.slice none 0 0,.bool false,.slice none 0 0];have hA:=Za (ha.below hB0);have hD:=Za (hb.below hB0)
 have hF:=fun (W : World) (h1 : Fr W na A n c nb B m d a) (h2 : Fr W na' A' n' c' nb' B' m' d' b)=>Mul1_ok na nb na' nb' A B A' B' n c m d n' c' m' d' a b W h1 h2 (Zct sa.1 sb.1) (Zct sa.dn sb.dn)
 have hG:=Za (Zn0 146 na nb na' nb' A B A' B' n c m d n' c' m' d' a b _ _ W0 hA.out hD.out (Zd4 a b) Zni hF);rw [Znm] at hG;clear hF ha hb sa sb hA hD;obtain ⟨a0,a1,a2,a3,-⟩:=q0.four;obtain ⟨b0,b1,b2,b3,-⟩:=q1.four;replace q2:=Za q2;clear q0 q1;go_enter Tryz.func95,Tryz.ntmps95;go_wp2_with fail;refine hG.out.mono ?_;rintro e w1 ⟨hb1,nx,Ax,kx,cx,ny,Ay,ky,cy,rfl,hX⟩;have hB1 : Below w.heap.size w w1:=hB0.trans (hb1.mono hB0.size);have s1 : W0.heap.size <= w1.heap.size:=hb1.size;replace q2:=Za (Zc hb1 q2.out);replace hX:=Za hX;clear hb1 a0 a1 a2 a3 b0 b1 b2 b3 hB0 hG hW0;obtain ⟨c20,c21,c22,c23,f20,f21,f22,f23⟩:=q2.out.four;go_wp2_with fail;obtain ⟨W5,hW5,hB5,q2,kW,-,s5⟩:=Zau nx Ax kx cx ny Ay ky cy hB1 (by omega) q2.out;rw [hW5];obtain ⟨r0,r1,r2,r3,-⟩:=q2.four;refine bodyPost_ret (v:=.tuple #[.agg #[.bool nx,.slice Ax kx cx,.bool ny,.slice Ay ky cy],.int .i64 0]) (by simp [results,Tryz.results95,go_sem,r0,r1,r2,r3]) rfl ?_;exact ⟨hB5,_,_,_,_,_,_,_,_,rfl,kW _ _ _ _ _ hX.out.1,kW _ _ _ _ _ hX.out.2⟩
theorem Zmp (na nb : Bool) (A B : Option Addr) (n c m d : Nat) (za zb : Int) (w : World) (ha : Wd w na A n c za) (hb : Wd w nb B m d zb) :
    Calls Tryz.prog 103 #[.agg #[.bool na,.slice A n c],.agg #[.bool nb,.slice B m d]] w (ResW w (za + zb)):=by
 have hLa:=ha.lim;have hLb:=hb.lim;have hn:=ha.2.1;have hm:=hb.2.1
 have hB0 : ∀ X Y Z V : Obj,Below w.heap.size w ((((w.alloc X).alloc Y).alloc Z).alloc V):=fun X Y Z V=>((((Below.refl w.heap.size w).alloc (Nat.le_refl _) _).alloc (by simp) _).alloc (by simp;omega) _).alloc (by simp;omega) _
 have hW : ∀ X Y Z t,WL ((((w.alloc X).alloc Y).alloc Z).alloc (.cells #[.bool na,.slice A n c,.bool nb,.slice B m d] t)) (some ⟨w.heap.size + 1 + 1 + 1,0,none⟩) 2 2 [⟨na,A,n,c,digits za.natAbs⟩,⟨nb,B,m,d,digits zb.natAbs⟩]:=fun X Y Z t=>by
  have:=WL.two (neg:=na) (neg':=nb) (((hLa.alloc X).alloc Y).alloc Z) (((hLb.alloc X).alloc Y).alloc Z) t;simp only [World.size_alloc] at this;exact this
 have hW:=Za hW;have hB0:=Za hB0;have hgood : Hid (okW na (digits za.natAbs) = true /\ okW nb (digits zb.natAbs) = true):=⟨ha.ok,hb.ok⟩;have hza:=Za ha.sgEq;have hzb:=Za hb.sgEq;clear ha hb;go_enter Tryz.func103,Tryz.ntmps103;go_wp2_with fail;refine (Zbe (hW.out _ _ _ _) (by have:=hgood.out;simp [WE.ok,this])).mono ?_;rintro e w1 ⟨rfl,hb1⟩;obtain ⟨hc1,hf1⟩:=Zbk hb1
 have hz1 : w.heap.size + 1 + 1 + 1 < w1.heap.size:=by have:=hb1.size;simp at this;omega
 have hB1 : Below w.heap.size w w1:=(hB0.out _ _ _ _).trans (hb1.mono (by simp;omega))
 have g0 : w1.cell? ⟨w.heap.size,0,none⟩ = some (.bool na):=by simp [hc1,go_sem]
 have g1 : w1.cell? ⟨w.heap.size,1,none⟩ = some (.slice A n c):=by simp [hc1,go_sem]
 have g2 : w1.cell? ⟨w.heap.size + 1,0,none⟩ = some (.bool nb):=by simp [hc1,go_sem]
 have g3 : w1.cell? ⟨w.heap.size + 1,1,none⟩ = some (.slice B m d):=by simp [hc1,go_sem]
 have gf : w1.frozen? ⟨w.heap.size + 1,0,none⟩ = false:=by simp [hf1,go_sem]
 have gB : Blk w1 (w.heap.size + 1) 27 #[.bool nb,.slice B m d]:=by
  refine Zc hb1 ((Blk.alloc (Blk.alloc ?_ _) _));have:=Blk.new (w.alloc (.cells #[.bool na,.slice A n c] 27)) 27 #[.bool nb,.slice B m d];simp only [World.size_alloc] at this;exact this
 have g7 : Blk w1 (w.heap.size + 1 + 1) 27 #[.bool false,.slice none 0 0]:=by
  refine Zc hb1 (Blk.alloc ?_ _);have:=Blk.new ((w.alloc (.cells #[.bool na,.slice A n c] 27)).alloc (.cells #[.bool nb,.slice B m d] 27)) 27 #[.bool false,.slice none 0 0];simp only [World.size_alloc] at this;exact this
 have hLa1:=hLa.below hB1;have hLb1:=hLb.below hB1;have HB:=Za gB;clear gB hc1 hf1;go_wp2_with fail;refine (Znu _ _ _ _ _ _ _ _ _ _ _ (by exact hLa1) (by exact hLb1) hn hm).mono ?_;rintro e w2 ⟨hb2,neg2,A2,n2,c2,code2,rfl,hR2⟩;have hB2 : Below w.heap.size w w2:=hB1.trans (hb2.mono hB1.size);have m7:=Zc hb2 g7;have m3:=m7.cell 0;have m4:=m7.cell 1;have m5:=m7.frozen 0;have m6:=m7.frozen 1
 simp at m3 m4
 have HM:=Za m7;clear m7;go_wp2_with fail
 have HZ : sg na za.natAbs + sg nb zb.natAbs = za + zb:=by
  have h1:=hza.out;have h2:=hzb.out;rw [Zf] at h1 h2;rw [h1,h2]
 refine bodyPost_ret (v:=.tuple #[.agg #[.bool neg2,.slice A2 n2 c2],.int .i64 code2]) (by simp [results,Tryz.results103,go_sem,m3,m4]) rfl ?_;exact ResW.box (HZ ▸ hR2) hB2 (by omega) HM.out
def Zhw (x : Rat) : Int:=if (x.den : Int) < Int.fmod x.num x.den + Int.fmod x.num x.den \/ (x.den : Int) = Int.fmod x.num x.den + Int.fmod x.num x.den /\ Int.fdiv x.num x.den % 2 = 1 then Int.fdiv x.num x.den + 1 else Int.fdiv x.num x.den
def NumE (w : World) (z : Int) (e : Ending) (w' : World) : Prop:=
 Below w.heap.size w w' /\ ∃ neg A n c,e = .returned (.tuple #[.agg #[.bool neg,.slice A n c],.int .i64 0]) /\ Wd w' neg A n c z
theorem fmod_le {x : Rat} : 0 <= Int.fmod x.num x.den /\ Int.fmod x.num x.den < x.den:=by
 have h:=x.den_pos;rw [Int.fmod_eq_emod_of_nonneg _ (by omega)];exact ⟨Int.emod_nonneg _ (by omega),Int.emod_lt_of_pos _ (by omega)⟩
theorem Zms {x : Rat} {k : Nat} (h : x.num.natAbs < k) : (Int.fdiv x.num x.den).natAbs <= k:=by
 have h0:=x.den_pos;rw [Int.fdiv_eq_ediv_of_nonneg _ (by omega)]
 have h2 : x.num / (x.den : Int) <= k:=Int.ediv_le_of_le_mul (by omega) (by
  have : (k : Int) * 1 <= (k : Int) * (x.den : Int):=Int.mul_le_mul_of_nonneg_left (by omega) (by omega)
  omega)
 have h3 : -(k : Int) <= x.num / (x.den : Int):=Int.le_ediv_of_mul_le (by omega) (by
  have : (-(k : Int)) * (x.den : Int) <= -(k : Int) * 1:=Int.mul_le_mul_of_nonpos_left (by omega) (by omega)
  omega)
 omega
theorem Zi9 {x : Rat} (h : (x.den : Int) < Int.fmod x.num x.den + Int.fmod x.num x.den \/ (x.den : Int) = Int.fmod x.num x.den + Int.fmod x.num x.den /\ Int.fdiv x.num x.den % 2 = 1) : Zhw x = Int.fdiv x.num x.den + 1:=if_pos h
theorem Zeb {x : Rat} (h : ¬ ((x.den : Int) < Int.fmod x.num x.den + Int.fmod x.num x.den \/ (x.den : Int) = Int.fmod x.num x.den + Int.fmod x.num x.den /\ Int.fdiv x.num x.den % 2 = 1)) : Zhw x = Int.fdiv x.num x.den:=if_neg h
theorem Zqo {u : Nat} : (digits u)[0]?.getD 0 % 2 = u % 2:=by
 by_cases h0 : u = 0
 ·subst h0;rw [Zy];rfl
 ·rw [Zav h0]
  show u % 4294967296 % 2 = u % 2;omega
theorem and_one {u : Nat} (hu : u < 4294967296) : bits .and .u32 (u : Int) 1 = ((u % 2 : Nat) : Int):=by
 have h64 : ∀ x : Nat,x < 4294967296 -> (BitVec.ofInt 32 (x : Int)).toNat = x:=fun x hx=>by
  rw [BitVec.ofInt_natCast,BitVec.toNat_ofNat];exact Nat.mod_eq_of_lt hx
 show IntKind.u32.wrap ((BitVec.ofInt 32 (u : Int) &&& BitVec.ofInt 32 ((1 : Nat) : Int)).toNat : Int) = _;rw [BitVec.toNat_and,h64 u hu,h64 1 (by omega),Nat.and_one_is_mod];exact IntWalk.u32_in _ (by omega)
theorem Zoa (na nb : Bool) (A B : Option Addr) (n c m d : Nat) (x : Rat) (w : World) (hx : Fr w na A n c nb B m d x) (hs : Sm x) :
    Calls Tryz.prog 140 #[.agg #[.bool na,.slice A n c,.bool nb,.slice B m d]] w (NumE w (Zhw x)):=by
 obtain ⟨W0,hW0,hB0,⟨q0,q1,q2⟩,s0⟩:=Zcp w 29 #[.bool na,.slice A n c,.bool nb,.slice B m d] 27 #[.bool false,.slice none 0 0] 30 #[.int .i64 0];have hX:=Za (hx.below hB0)
 have hmx : Tryz.prog.follows .mixedOrders = true:=by kernel_rfl
 have hbig:=Zgi (a:=1000) (b:=4096) (by decide)
 have hbig2 : pw 1000 + pw 1000 + 2 < pw 4096:=by
  have h1:=Ze0 (a:=1001) (b:=4096) (by decide);have h2 : pw 1001 = 4294967296 * pw 1000:=Z8 1000;have h3:=Zdx 1000;omega
 have hrr : Hid ((Int.fmod x.num x.den + Int.fmod x.num x.den).natAbs < pw 4096):=Za (by have h1:=fmod_le (x:=x);have h2:=hs.2;omega);have hqq : Hid ((Int.fdiv x.num x.den + 1).natAbs < pw 4096):=Za (by have h1:=Zms (x:=x) hs.1;omega);clear hx hs hbig hbig2;replace hW0:=Za hW0;obtain ⟨a0,a1,a2,a3,-⟩:=q0.four;have hq:=Za (And.intro q0 (And.intro q1 q2));clear q0 q1 q2
 go_enter_defers Tryz.func140,Tryz.ntmps140
 have hW0':=hW0.out;go_wp2_with fail;clear hW0 hW0';refine (Zbr na nb A B n c m d x W0 hX.out).mono ?_;rintro e w1 ⟨rfl,hb1⟩;have hB1 : Below w.heap.size w w1:=hB0.trans (hb1.mono hB0.size);have s1 : W0.heap.size <= w1.heap.size:=hb1.size;replace hX:=Za (hX.out.below hb1);obtain ⟨q0,q1,q2⟩:=hq.out;replace q0:=Zc hb1 q0;replace q1:=Zc hb1 q1;replace q2:=Zc hb1 q2;clear hq hb1 hB0 a0 a1 a2 a3;obtain ⟨a0,a1,a2,a3,-⟩:=q0.four;have hq:=Za (And.intro q0 (And.intro q1 q2));clear q0 q1 q2;go_wp2_with fail;refine (Zcc w1).mono ?_;rintro e w1 ⟨rfl,rfl⟩;go_wp2_with fail;refine (Zcw na nb A B n c m d x.num x.den w1 hX.out.1 hX.out.2 (by have:=x.den_pos;omega)).mono ?_;rintro e w2 ⟨hb2,nq,Aq,kq,cq,nr,Ar,kr,cr,rfl,hQ,hR⟩;have hB2 : Below w.heap.size w w2:=hB1.trans (hb2.mono hB1.size);have s2 : w1.heap.size <= w2.heap.size:=hb2.size;replace hX:=Za (hX.out.below hb2);obtain ⟨q0,q1,q2⟩:=hq.out;replace q0:=((Zc hb2 q0).alloc (.cells #[.bool nq,.slice Aq kq cq] 27)).alloc (.cells #[.bool nr,.slice Ar kr cr] 27);replace q1:=((Zc hb2 q1).alloc (.cells #[.bool nq,.slice Aq kq cq] 27)).alloc (.cells #[.bool nr,.slice Ar kr cr] 27);replace q2:=((Zc hb2 q2).alloc (.cells #[.bool nq,.slice Aq kq cq] 27)).alloc (.cells #[.bool nr,.slice Ar kr cr] 27);have q4 : Blk ((w2.alloc (.cells #[.bool nq,.slice Aq kq cq] 27)).alloc (.cells #[.bool nr,.slice Ar kr cr] 27)) w2.heap.size 27 #[.bool nq,.slice Aq kq cq]:=(Blk.new w2 _ _).alloc _
 have q5 : Blk ((w2.alloc (.cells #[.bool nq,.slice Aq kq cq] 27)).alloc (.cells #[.bool nr,.slice Ar kr cr] 27)) (w2.heap.size + 1) 27 #[.bool nr,.slice Ar kr cr]:=by
  have:=Blk.new (w2.alloc (.cells #[.bool nq,.slice Aq kq cq] 27)) 27 #[.bool nr,.slice Ar kr cr];simp only [World.size_alloc] at this;exact this
 have hB3 : Below w.heap.size w ((w2.alloc (.cells #[.bool nq,.slice Aq kq cq] 27)).alloc (.cells #[.bool nr,.slice Ar kr cr] 27)):=(hB2.alloc hB2.size _).alloc (by have:=hB2.size;simp;omega) _;have hX3:=(hX.out.alloc (.cells #[.bool nq,.slice Aq kq cq] 27)).alloc (.cells #[.bool nr,.slice Ar kr cr] 27);have hQ3:=(hQ.alloc (.cells #[.bool nq,.slice Aq kq cq] 27)).alloc (.cells #[.bool nr,.slice Ar kr cr] 27);have hR3:=(hR.alloc (.cells #[.bool nq,.slice Aq kq cq] 27)).alloc (.cells #[.bool nr,.slice Ar kr cr] 27);have e1:=q2.frozen 0;have e0:=q2.cell 0;simp only [List.getElem?_toArray,List.getElem?_cons_zero] at e0;have hs2:=hB2.size;clear hq hb2 hB1 a0 a1 a2 a3 hQ hR hX;have hX:=Za hX3;have hQ:=Za hQ3;have hR:=Za hR3;have hq:=Za (And.intro q0 (And.intro q1 (And.intro q2 (And.intro q4 q5))));clear q0 q1 q2 q4 q5 hX3 hQ3 hR3;replace hB3:=Za hB3;go_wp2_with fail;obtain ⟨q0,q1,q2,q4,q5⟩:=hq.out;obtain ⟨W5,hW5,hB5,q2',kW,kB,s5⟩:=Za3 0 hB3.out (by omega) q2;replace q0:=kB _ _ _ (by omega) q0;replace q1:=kB _ _ _ (by omega) q1;replace q4:=kB _ _ _ (by omega) q4;replace q5:=kB _ _ _ (by omega) q5;replace hX : Hid (Fr W5 na A n c nb B m d x):=Za ⟨kW _ _ _ _ _ hX.out.1,kW _ _ _ _ _ hX.out.2⟩;replace hQ:=Za (kW _ _ _ _ _ hQ.out);replace hR:=Za (kW _ _ _ _ _ hR.out);rw [hW5];clear hq hB3 q2 kW kB hW5 e0 e1;refine (Zcc W5).mono ?_;rintro e W5 ⟨rfl,rfl⟩;obtain ⟨r0,r1,-⟩:=q5.two;obtain ⟨-,-,r2,r3,-⟩:=q0.four;have hq:=Za (And.intro q1 (And.intro q2' q4));clear q0 q1 q2' q4 q5
 replace hB5:=Za hB5;go_wp2_with fail;have hSv : Hid (∀ wx,Below W5.heap.size W5 wx -> wx.cell? ⟨w2.heap.size + 1,0,none⟩ = some (.bool nr) /\ wx.cell? ⟨w2.heap.size + 1,1,none⟩ = some (.slice Ar kr cr) /\ wx.cell? ⟨w.heap.size,2,none⟩ = some (.bool nb) /\ wx.cell? ⟨w.heap.size,3,none⟩ = some (.slice B m d)):=Za (fun wx hbx=>⟨Zb hbx r0,Zb hbx r1,Zb hbx r2,Zb hbx r3⟩);have hr : Below W5.heap.size W5 W5.drew:=Zi (Below.refl _ _) 1;refine wp_heldS [] hmx hSv hr (fun hxs=>?_);refine Zrd 4 [0,1,6,7] rfl (by kernel_rfl) (hSv.out _ hr) ?_
 iterate 4 (refine tk1 (v:=?_) rfl (Or.inl ⟨by kernel_rfl,?_⟩) ?_;rotate_left;(· intro W2 hSw;(try dsimp only at hSw);go_simp;try with_reducible rfl);try simp only [Act.put,putL_a,putL_z,putL_s,putG_a,putG_s,putG_z])
 refine tk0 ?_;refine Ze (i:=2) rfl (by kernel_rfl) (fun K hK=>?_);go_simp;refine (Zmp nr nr Ar Ar kr cr kr cr _ _ W5.drew (hR.out.below hr) (hR.out.below hr)).mono ?_;rintro e w6 ⟨hb6,np,P,k,q,code,rfl,hRes⟩;have hr6:=hr.trans (hb6.mono hr.size);have hP:=Za (hRes.small hrr.out);have hcode:=hRes.code0 hrr.out;subst hcode;clear hRes hrr;refine hK.out _ _ (fun _=>hSv.out _ hr6) ?_;clear hK K
 try simp only [Act.put,putL_a,putL_z,putL_s]
 refine Zrd 2 [3,4] rfl (by kernel_rfl) (hSv.out _ hr6) ?_
 iterate 2 (refine tk1 (v:=?_) rfl (Or.inl ⟨by kernel_rfl,?_⟩) ?_;rotate_left;(· intro W2 hSw;(try dsimp only at hSw);go_simp;try with_reducible rfl);try simp only [Act.put,putL_a,putL_z,putL_s,putG_a,putG_s,putG_z])
 refine tk0 ?_;refine Ze (i:=5) rfl (by kernel_rfl) (fun K hK=>?_);go_simp;refine (Zby np P k q w6).mono ?_;rintro e w7 ⟨rfl,hb7⟩;have hr7:=hr6.trans (hb7.mono hr6.size);replace hP:=Za (hP.out.below hb7);refine hK.out _ _ (fun _=>hSv.out _ hr7) ?_;clear hK K
 try simp only [Act.put,putL_a,putL_z,putL_s]
 refine Ze (i:=8) rfl (by kernel_rfl) (fun K hK=>?_);go_simp;refine (Zkd np nb P B k q m d _ _ w7 hP.out (hX.out.2.below hr7)).mono ?_;rintro e w8 ⟨rfl,hb8⟩;have hr8:=hr7.trans (hb8.mono hr7.size);refine hK.out _ _ (fun _=>hSv.out _ hr8) ?_;clear hK K
 try simp only [Act.put,putL_a,putL_z,putL_s]
 refine Zrd 5 [9,10,11,12,13] rfl (by kernel_rfl) (hSv.out _ hr8) ?_
 iterate 5 (refine tk1 (v:=?_) rfl (Or.inl ⟨by kernel_rfl,?_⟩) ?_;rotate_left;(· intro W2 hSw;(try dsimp only at hSw);go_simp;try with_reducible rfl);try simp only [Act.put,putL_a,putL_z,putL_s,putG_a,putG_s,putG_z])
 refine tk0 ?_;refine Zl (by kernel_rfl) ?_ _;refine OnlyNormal.normal ?_;obtain ⟨q1,q2,q4⟩:=hq.out;replace q1:=Zc hr8 q1;replace q2:=Zc hr8 q2;replace q4:=Zc hr8 q4;replace hQ:=Za (hQ.out.below hr8);have hB8:=hB5.out.trans (hr8.mono hB5.out.size);have s8:=hr8.size;clear hq hr hr6 hr7 hr8 hb6 hb7 hb8 hSv hxs hR hX hP hB5 r0 r1 r2 r3;replace hqq:=hqq
 rcases Int.lt_trichotomy (x.den : Int) (Int.fmod x.num x.den + Int.fmod x.num x.den) with hlt | heq | hgt
 case inl =>
  have hz:=Zi9 (x:=x) (.inl hlt)
  have hc : Zbp (Int.fmod x.num x.den + Int.fmod x.num x.den) (x.den : Int) = 1:=by unfold Zbp;rw [if_neg (by omega),if_pos hlt]
  rw [hc];clear hlt hc;replace hz:=Za hz;go_wp2_with fail;obtain ⟨c0,c1,-⟩:=q4.two;have hSv : Hid (∀ wx,Below w8.heap.size w8 wx -> wx.cell? ⟨w2.heap.size,0,none⟩ = some (.bool nq) /\ wx.cell? ⟨w2.heap.size,1,none⟩ = some (.slice Aq kq cq)):=Za (fun wx hbx=>⟨Zb hbx c0,Zb hbx c1⟩);have hr : Below w8.heap.size w8 w8.drew:=Zi (Below.refl _ _) 1;have hqh:=Za (And.intro q1 (And.intro q2 q4));have hBh:=Za hB8;clear q1 q2 q4 hB8 c0 c1;refine wp_heldS [6] hmx hSv hr (fun hxs=>?_);refine Zrd 1 [0] rfl (by kernel_rfl) (hSv.out _ hr) ?_
  (refine tk1 (v:=?_) rfl (Or.inl ⟨by kernel_rfl,?_⟩) ?_;rotate_left;(· intro W2 hSw;(try dsimp only at hSw);go_simp;try with_reducible rfl);try simp only [Act.put,putL_a,putL_z,putL_s,putG_a,putG_s,putG_z])
  refine tk0 ?_;refine Ze (i:=1) rfl (by kernel_rfl) (fun K hK=>?_);go_simp;refine (Zmv w8.drew).mono ?_;rintro e w11 ⟨hb11,n1,A1,k1,c1,rfl,hO⟩;have hr11:=hr.trans (hb11.mono hr.size);replace hO:=Za hO;refine hK.out _ _ (fun _=>hSv.out _ hr11) ?_;clear hK K
  try simp only [Act.put,putL_a,putL_z,putL_s]
  refine Ze (i:=2) rfl (by kernel_rfl) (fun K hK=>?_);go_simp;refine (Zmp nq n1 Aq A1 kq cq k1 c1 _ _ w11 (hQ.out.below hr11) hO.out).mono ?_;rintro e w12 ⟨hb12,np,P,k,q,code,rfl,hRes⟩;have hr12:=hr11.trans (hb12.mono hr11.size);have hP:=Za (hRes.small hqq.out);have hcode:=hRes.code0 hqq.out;subst hcode;clear hRes hqq hO;refine hK.out _ _ (fun _=>hSv.out _ hr12) ?_;clear hK K
  try simp only [Act.put,putL_a,putL_z,putL_s]
  refine Zrd 2 [3,4] rfl (by kernel_rfl) (hSv.out _ hr12) ?_
  iterate 2 (refine tk1 (v:=?_) rfl (Or.inl ⟨by kernel_rfl,?_⟩) ?_;rotate_left;(· intro W2 hSw;(try dsimp only at hSw);go_simp;try with_reducible rfl);try simp only [Act.put,putL_a,putL_z,putL_s,putG_a,putG_s,putG_z])
  refine tk0 ?_;refine Ze (i:=5) rfl (by kernel_rfl) (fun K hK=>?_);go_simp;refine (Zby np P k q w12).mono ?_;rintro e w13 ⟨rfl,hb13⟩;have hr13:=hr12.trans (hb13.mono hr12.size);replace hP:=Za (hP.out.below hb13);obtain ⟨q1,q2,q4⟩:=hqh.out;replace q1:=Zc hr13 q1;replace q2:=Zc hr13 q2;replace q4:=Zc hr13 q4;have hB13:=hBh.out.trans (hr13.mono hBh.out.size);obtain ⟨x0,x1,f0,f1⟩:=q4.two;refine hK.out _ _ (fun _=>hSv.out _ hr13) ?_;clear hK K
  try simp only [Act.put,putL_a,putL_z,putL_s]
  refine Zt (i:=6) rfl (by kernel_rfl) (by kernel_rfl) (fun K hK=>?_);go_simp;obtain ⟨W14,hW14,hB14,q4',kW,kB,s14⟩:=Zax np P k q hB13 (by omega) q4;rw [hW14];clear hW14 x0 x1 f0 f1;replace q1:=kB _ _ _ (by omega) q1;replace q2:=kB _ _ _ (by omega) q2;replace hP:=Za (kW _ _ _ _ _ hP.out);have s13:=hr13.size;clear kW kB;refine hK.out _ _ ?_;clear hK K
  try simp only [Act.put,putL_a,putL_z,putL_s]
  refine Zl (by kernel_rfl) ?_ _;refine OnlyNormal.normal ?_;clear hr hr11 hr12 hr13 hb11 hb12 hb13 hSv hxs hqh hBh q4 hB13;obtain ⟨c0,c1,-⟩:=q4'.two;obtain ⟨x0,x1,f0,f1⟩:=q1.two;have e0:=q2.cell 0;have e1:=q2.frozen 0;simp only [List.getElem?_toArray,List.getElem?_cons_zero] at e0;have hBh:=Za hB14;have hqh:=Za (And.intro q1 (And.intro q2 q4'));clear q1 q2 q4' hB14;go_wp2_with fail;obtain ⟨u1,u2,u4⟩:=hqh.out;obtain ⟨Wa,hWa,hBa,qa,kW,kB,sa⟩:=Zax np P k q hBh.out (by omega) u1;replace u2:=kB _ _ _ (by omega) u2;have HZ:=kW _ _ _ _ _ hP.out;rw [hWa];obtain ⟨Wb,hWb,hBb,qb,kW2,kB2,sb⟩:=Za3 0 hBa (by omega) u2;replace qa:=kB2 _ _ _ (by omega) qa;replace HZ:=kW2 _ _ _ _ _ HZ;rw [hWb];obtain ⟨y0,y1,-⟩:=qa.two;have y4:=qb.cell 0;simp only [List.getElem?_toArray,List.getElem?_cons_zero] at y4;refine leaves_cons (f:=128) (args:=#[.pointer (some ⟨w.heap.size + 1 + 1,0,none⟩)]) (by simp) (by simp [go_sem]) ?_;refine (Za9 _ _).mono ?_;rintro e u' w'' ⟨rfl,rfl,rfl⟩;refine ⟨.tuple #[.agg #[.bool np,.slice P k q],.int .i64 0],by simp [results,Tryz.results140,go_sem,y0,y1,y4],?_⟩;exact ⟨hBb,_,_,_,_,rfl,by rw [hz.out];exact HZ⟩
 case inr.inr =>
  have hz:=Zeb (x:=x) (by omega)
  have hc : Zbp (Int.fmod x.num x.den + Int.fmod x.num x.den) (x.den : Int) = -1:=by unfold Zbp;rw [if_pos hgt]
  rw [hc];clear hgt hc;replace hz:=Za hz;obtain ⟨c0,c1,-⟩:=q4.two;obtain ⟨x0,x1,f0,f1⟩:=q1.two;have e0:=q2.cell 0;have e1:=q2.frozen 0;simp only [List.getElem?_toArray,List.getElem?_cons_zero] at e0;have hBh:=Za hB8;have hqh:=Za (And.intro q1 (And.intro q2 q4));clear q1 q2 q4 hB8;go_wp2_with fail;obtain ⟨u1,u2,u4⟩:=hqh.out;obtain ⟨Wa,hWa,hBa,qa,kW,kB,sa⟩:=Zax nq Aq kq cq hBh.out (by omega) u1;replace u2:=kB _ _ _ (by omega) u2;have HZ:=kW _ _ _ _ _ hQ.out;rw [hWa];obtain ⟨Wb,hWb,hBb,qb,kW2,kB2,sb⟩:=Za3 0 hBa (by omega) u2;replace qa:=kB2 _ _ _ (by omega) qa;replace HZ:=kW2 _ _ _ _ _ HZ;rw [hWb];obtain ⟨y0,y1,-⟩:=qa.two;have y4:=qb.cell 0;simp only [List.getElem?_toArray,List.getElem?_cons_zero] at y4;refine leaves_cons (f:=128) (args:=#[.pointer (some ⟨w.heap.size + 1 + 1,0,none⟩)]) (by simp) (by simp [go_sem]) ?_;refine (Za9 _ _).mono ?_;rintro e u' w'' ⟨rfl,rfl,rfl⟩;refine ⟨.tuple #[.agg #[.bool nq,.slice Aq kq cq],.int .i64 0],by simp [results,Tryz.results140,go_sem,y0,y1,y4],?_⟩;exact ⟨hBb,_,_,_,_,rfl,by rw [hz.out];exact HZ⟩
 case inr.inl =>
  have hc : Zbp (Int.fmod x.num x.den + Int.fmod x.num x.den) (x.den : Int) = 0:=by unfold Zbp;rw [if_neg (by omega),if_neg (by omega)]
  rw [hc];replace heq:=Za heq;clear hc;have hk0:=hQ.out.lim.len;have hkm:=hQ.out.2.1;replace hk0:=Za hk0;obtain ⟨c0,c1,-⟩:=q4.two;replace hB8:=Za hB8;have hqy:=Za (And.intro q1 (And.intro q2 q4));clear q1 q2 q4
  by_cases hk : kq = 0
  case pos =>
   subst hk
   have hq0 : Int.fdiv x.num x.den = 0:=by
    have:=digits_eq_nil.1 (List.length_eq_zero_iff.1 hk0.out);omega
   have hz:=Zeb (x:=x) (by rw [hq0];have:=heq.out;omega);clear hq0 hk0;replace hz:=Za hz;go_wp2_with fail;refine (Zdm nq Aq 0 cq w8 (by omega) true (by decide)).mono ?_;rintro e w9 ⟨rfl,hb9⟩;obtain ⟨q1,q2,q4⟩:=hqy.out;replace q1:=Zc hb9 q1;replace q2:=Zc hb9 q2;replace q4:=Zc hb9 q4;replace hQ:=Za (hQ.out.below hb9);have hB9:=hB8.out.trans (hb9.mono hB8.out.size);have s9:=hb9.size;clear hqy hB8 c0 c1 hb9;obtain ⟨c0,c1,-⟩:=q4.two;obtain ⟨x0,x1,f0,f1⟩:=q1.two;have e0:=q2.cell 0;have e1:=q2.frozen 0;simp only [List.getElem?_toArray,List.getElem?_cons_zero] at e0;have hBh:=Za hB9;have hqh:=Za (And.intro q1 (And.intro q2 q4));clear q1 q2 q4 hB9;go_wp2_with fail;obtain ⟨u1,u2,u4⟩:=hqh.out;obtain ⟨Wa,hWa,hBa,qa,kW,kB,sa⟩:=Zax nq Aq 0 cq hBh.out (by omega) u1;replace u2:=kB _ _ _ (by omega) u2;have HZ:=kW _ _ _ _ _ hQ.out;rw [hWa];obtain ⟨Wb,hWb,hBb,qb,kW2,kB2,sb⟩:=Za3 0 hBa (by omega) u2;replace qa:=kB2 _ _ _ (by omega) qa;replace HZ:=kW2 _ _ _ _ _ HZ;rw [hWb];obtain ⟨y0,y1,-⟩:=qa.two;have y4:=qb.cell 0;simp only [List.getElem?_toArray,List.getElem?_cons_zero] at y4;refine leaves_cons (f:=128) (args:=#[.pointer (some ⟨w.heap.size + 1 + 1,0,none⟩)]) (by simp) (by simp [go_sem]) ?_;refine (Za9 _ _).mono ?_;rintro e u' w'' ⟨rfl,rfl,rfl⟩;refine ⟨.tuple #[.agg #[.bool nq,.slice Aq 0 cq],.int .i64 0],by simp [results,Tryz.results140,go_sem,y0,y1,y4],?_⟩;exact ⟨hBb,_,_,_,_,rfl,by rw [hz.out];exact HZ⟩
  case neg =>
   have hkb : ((kq : Int) == 0) = false:=by simp;omega
   obtain ⟨gq,oq,rfl,hcell⟩:=hQ.out.lim.at_ (k:=0) (by omega);go_wp2_with fail;refine (Zdm nq _ kq cq w8 (by omega) false hkb).mono ?_;rintro e w9 ⟨rfl,hb9⟩;obtain ⟨q1,q2,q4⟩:=hqy.out;replace q1:=Zc hb9 q1;replace q2:=Zc hb9 q2;replace q4:=Zc hb9 q4;replace hQ:=Za (hQ.out.below hb9);have hc9 : w9.cell? ⟨gq,oq,none⟩ = some (.int .u32 (((digits (Int.fdiv x.num x.den).natAbs)[0]?.getD 0 : Nat) : Int)):=Zb hb9 hcell;have hB9:=Za (hB8.out.trans (hb9.mono hB8.out.size));have s9:=hb9.size;clear hqy hB8 c0 c1 hb9 hcell;obtain ⟨c0,c1,-⟩:=q4.two
   have bk : (0 : Int) < (kq : Int):=by omega
   obtain ⟨u,hu⟩ : ∃ u,(digits (Int.fdiv x.num x.den).natAbs)[0]?.getD 0 = u:=⟨_,rfl⟩;have hou:=Zqo (u:=(Int.fdiv x.num x.den).natAbs)
   have hu32 : u < 4294967296:=by rw [<- hu];exact (Zc6 _).get _
   rw [hu] at hc9 hou;have hbit : bits .and .u32 (u : Int) 1 = ((u % 2 : Nat) : Int):=and_one hu32;replace hou:=Za hou;clear hu;have hqy:=Za (And.intro q1 (And.intro q2 q4));clear q1 q2 q4
   by_cases hodd : u % 2 = 1
   case pos =>
    have hz:=Zi9 (x:=x) (.inr ⟨heq.out,by have:=hou.out;omega⟩);rw [hodd] at hbit;replace hz:=Za hz;replace hodd:=Za hodd;obtain ⟨q1,q2,q4⟩:=hqy.out;clear hqy c0 c1;obtain ⟨c0,c1,-⟩:=q4.two;have hB9':=hB9.out;clear hB9;go_wp2_with fail;obtain ⟨c0,c1,-⟩:=q4.two;have hSv : Hid (∀ wx,Below w9.heap.size w9 wx -> wx.cell? ⟨w2.heap.size,0,none⟩ = some (.bool nq) /\ wx.cell? ⟨w2.heap.size,1,none⟩ = some (.slice (some ⟨gq,oq,none⟩) kq cq)):=Za (fun wx hbx=>⟨Zb hbx c0,Zb hbx c1⟩);have hr : Below w9.heap.size w9 w9.drew:=Zi (Below.refl _ _) 1;have hqh:=Za (And.intro q1 (And.intro q2 q4));have hBh:=Za hB9';clear q1 q2 q4 hB9' c0 c1;refine wp_heldS [6] hmx hSv hr (fun hxs=>?_);refine Zrd 1 [0] rfl (by kernel_rfl) (hSv.out _ hr) ?_
    (refine tk1 (v:=?_) rfl (Or.inl ⟨by kernel_rfl,?_⟩) ?_;rotate_left;(· intro W2 hSw;(try dsimp only at hSw);go_simp;try with_reducible rfl);try simp only [Act.put,putL_a,putL_z,putL_s,putG_a,putG_s,putG_z])
    refine tk0 ?_;refine Ze (i:=1) rfl (by kernel_rfl) (fun K hK=>?_);go_simp;refine (Zmv w9.drew).mono ?_;rintro e w11 ⟨hb11,n1,A1,k1,c1,rfl,hO⟩;have hr11:=hr.trans (hb11.mono hr.size);replace hO:=Za hO;refine hK.out _ _ (fun _=>hSv.out _ hr11) ?_;clear hK K
    try simp only [Act.put,putL_a,putL_z,putL_s]
    refine Ze (i:=2) rfl (by kernel_rfl) (fun K hK=>?_);go_simp;refine (Zmp nq n1 (some ⟨gq,oq,none⟩) A1 kq cq k1 c1 _ _ w11 (hQ.out.below hr11) hO.out).mono ?_;rintro e w12 ⟨hb12,np,P,k,q,code,rfl,hRes⟩;have hr12:=hr11.trans (hb12.mono hr11.size);have hP:=Za (hRes.small hqq.out);have hcode:=hRes.code0 hqq.out;subst hcode;clear hRes hqq hO;refine hK.out _ _ (fun _=>hSv.out _ hr12) ?_;clear hK K
    try simp only [Act.put,putL_a,putL_z,putL_s]
    refine Zrd 2 [3,4] rfl (by kernel_rfl) (hSv.out _ hr12) ?_
    iterate 2 (refine tk1 (v:=?_) rfl (Or.inl ⟨by kernel_rfl,?_⟩) ?_;rotate_left;(· intro W2 hSw;(try dsimp only at hSw);go_simp;try with_reducible rfl);try simp only [Act.put,putL_a,putL_z,putL_s,putG_a,putG_s,putG_z])
    refine tk0 ?_;refine Ze (i:=5) rfl (by kernel_rfl) (fun K hK=>?_);go_simp;refine (Zby np P k q w12).mono ?_;rintro e w13 ⟨rfl,hb13⟩;have hr13:=hr12.trans (hb13.mono hr12.size);replace hP:=Za (hP.out.below hb13);obtain ⟨q1,q2,q4⟩:=hqh.out;replace q1:=Zc hr13 q1;replace q2:=Zc hr13 q2;replace q4:=Zc hr13 q4;have hB13:=hBh.out.trans (hr13.mono hBh.out.size);obtain ⟨x0,x1,f0,f1⟩:=q4.two;refine hK.out _ _ (fun _=>hSv.out _ hr13) ?_;clear hK K
    try simp only [Act.put,putL_a,putL_z,putL_s]
    refine Zt (i:=6) rfl (by kernel_rfl) (by kernel_rfl) (fun K hK=>?_);go_simp;obtain ⟨W14,hW14,hB14,q4',kW,kB,s14⟩:=Zax np P k q hB13 (by omega) q4;rw [hW14];clear hW14 x0 x1 f0 f1;replace q1:=kB _ _ _ (by omega) q1;replace q2:=kB _ _ _ (by omega) q2;replace hP:=Za (kW _ _ _ _ _ hP.out);have s13:=hr13.size;clear kW kB;refine hK.out _ _ ?_;clear hK K
    try simp only [Act.put,putL_a,putL_z,putL_s]
    refine Zl (by kernel_rfl) ?_ _;refine OnlyNormal.normal ?_;clear hr hr11 hr12 hr13 hb11 hb12 hb13 hSv hxs hqh hBh q4 hB13;obtain ⟨c0,c1,-⟩:=q4'.two;obtain ⟨x0,x1,f0,f1⟩:=q1.two;have e0:=q2.cell 0;have e1:=q2.frozen 0;simp only [List.getElem?_toArray,List.getElem?_cons_zero] at e0;have hBh:=Za hB14;have hqh:=Za (And.intro q1 (And.intro q2 q4'));clear q1 q2 q4' hB14;go_wp2_with fail;obtain ⟨u1,u2,u4⟩:=hqh.out;obtain ⟨Wa,hWa,hBa,qa,kW,kB,sa⟩:=Zax np P k q hBh.out (by omega) u1;replace u2:=kB _ _ _ (by omega) u2;have HZ:=kW _ _ _ _ _ hP.out;rw [hWa];obtain ⟨Wb,hWb,hBb,qb,kW2,kB2,sb⟩:=Za3 0 hBa (by omega) u2;replace qa:=kB2 _ _ _ (by omega) qa;replace HZ:=kW2 _ _ _ _ _ HZ;rw [hWb];obtain ⟨y0,y1,-⟩:=qa.two;have y4:=qb.cell 0;simp only [List.getElem?_toArray,List.getElem?_cons_zero] at y4;refine leaves_cons (f:=128) (args:=#[.pointer (some ⟨w.heap.size + 1 + 1,0,none⟩)]) (by simp) (by simp [go_sem]) ?_;refine (Za9 _ _).mono ?_;rintro e u' w'' ⟨rfl,rfl,rfl⟩;refine ⟨.tuple #[.agg #[.bool np,.slice P k q],.int .i64 0],by simp [results,Tryz.results140,go_sem,y0,y1,y4],?_⟩;exact ⟨hBb,_,_,_,_,rfl,by rw [hz.out];exact HZ⟩
   case neg =>
    have hev : u % 2 = 0:=by omega
    have hz:=Zeb (x:=x) (by have h1:=hou.out;have h2:=heq.out;omega);rw [hev] at hbit;replace hz:=Za hz;replace hodd:=Za hodd;replace hev:=Za hev;obtain ⟨q1,q2,q4⟩:=hqy.out;have hB9':=hB9.out;clear hqy hB9 c0 c1;obtain ⟨c0,c1,-⟩:=q4.two;obtain ⟨x0,x1,f0,f1⟩:=q1.two;have e0:=q2.cell 0;have e1:=q2.frozen 0;simp only [List.getElem?_toArray,List.getElem?_cons_zero] at e0;have hBh:=Za hB9';have hqh:=Za (And.intro q1 (And.intro q2 q4));clear q1 q2 q4 hB9';go_wp2_with fail;obtain ⟨u1,u2,u4⟩:=hqh.out;obtain ⟨Wa,hWa,hBa,qa,kW,kB,sa⟩:=Zax nq (some ⟨gq,oq,none⟩) kq cq hBh.out (by omega) u1;replace u2:=kB _ _ _ (by omega) u2;have HZ:=kW _ _ _ _ _ hQ.out;rw [hWa];obtain ⟨Wb,hWb,hBb,qb,kW2,kB2,sb⟩:=Za3 0 hBa (by omega) u2;replace qa:=kB2 _ _ _ (by omega) qa;replace HZ:=kW2 _ _ _ _ _ HZ;rw [hWb];obtain ⟨y0,y1,-⟩:=qa.two;have y4:=qb.cell 0;simp only [List.getElem?_toArray,List.getElem?_cons_zero] at y4;refine leaves_cons (f:=128) (args:=#[.pointer (some ⟨w.heap.size + 1 + 1,0,none⟩)]) (by simp) (by simp [go_sem]) ?_;refine (Za9 _ _).mono ?_;rintro e u' w'' ⟨rfl,rfl,rfl⟩;refine ⟨.tuple #[.agg #[.bool nq,.slice (some ⟨gq,oq,none⟩) kq cq],.int .i64 0],by simp [results,Tryz.results140,go_sem,y0,y1,y4],?_⟩;exact ⟨hBb,_,_,_,_,rfl,by rw [hz.out];exact HZ⟩
def St.cells (s : St) : Array Value:=#[.int .i64 s.t,.int .i64 s.p0,.int .i64 s.p1,.int .i64 s.p2,.int .i64 s.v0,.int .i64 s.v1,.int .i64 s.v2]
def St.num (s : St) : Nat -> Int
 | 0=>s.p0
 | 1=>s.p1
 | 2=>s.p2
 | 3=>s.v0
 | 4=>s.v1
 | _=>s.v2
def mvS (s : St) (ns : Nat -> Int) (i : Nat) : St:=
 ⟨s.t,if 0 < i then wrap64 (s.p0 + ns 0) else s.p0,if 1 < i then wrap64 (s.p1 + ns 1) else s.p1,if 2 < i then wrap64 (s.p2 + ns 2) else s.p2,if 3 < i then wrap64 (s.v0 + ns 3) else s.v0,if 4 < i then wrap64 (s.v1 + ns 4) else s.v1,if 5 < i then wrap64 (s.v2 + ns 5) else s.v2⟩
theorem mvS_set (s : St) (ns : Nat -> Int) {i : Nat} (h : i < 6) : (mvS s ns i).cells.setIfInBounds (i + 1) (.int .i64 (wrap64 (s.num i + ns i))) = (mvS s ns (i + 1)).cells:=by
 rcases (show i = 0 \/ i = 1 \/ i = 2 \/ i = 3 \/ i = 4 \/ i = 5 by omega) with rfl | rfl | rfl | rfl | rfl | rfl <;> rfl
theorem mvS_get (s : St) (ns : Nat -> Int) {i : Nat} (h : i < 6) : (mvS s ns i).cells[i + 1]? = some (.int .i64 (s.num i)):=by
 rcases (show i = 0 \/ i = 1 \/ i = 2 \/ i = 3 \/ i = 4 \/ i = 5 by omega) with rfl | rfl | rfl | rfl | rfl | rfl <;> rfl
theorem St.noLimb (s : St) : NoLimb s.cells:=fun i x=>by
 unfold St.cells
 rcases i with _ | _ | _ | _ | _ | _ | _ | i <;> simp
theorem Zmf {t : TypeId} {B : Nat} {w0 w : World} {g : Nat} {s0 : St} (s : St) (hB : Below B w0 w) (hs : B <= g) (hb : Blk w g t s0.cells) :
    ∃ W,((((((w.setCell ⟨g,0,none⟩ (.int .i64 s.t)).setCell ⟨g,1,none⟩ (.int .i64 s.p0)).setCell ⟨g,2,none⟩ (.int .i64 s.p1)).setCell ⟨g,3,none⟩ (.int .i64 s.p2)).setCell ⟨g,4,none⟩ (.int .i64 s.v0)).setCell ⟨g,5,none⟩ (.int .i64 s.v1)).setCell ⟨g,6,none⟩ (.int .i64 s.v2) = W /\ Below B w0 W /\ Blk W g t s.cells:=by
 refine ⟨_,rfl,?_,?_⟩
 ·exact ((((((hB.setCell (p:=⟨g,0,none⟩) hs _).setCell (p:=⟨g,1,none⟩) hs _).setCell (p:=⟨g,2,none⟩) hs _).setCell (p:=⟨g,3,none⟩) hs _).setCell (p:=⟨g,4,none⟩) hs _).setCell (p:=⟨g,5,none⟩) hs _).setCell (p:=⟨g,6,none⟩) hs _
 ·have h0 : Blk w g t #[.int .i64 s0.t,.int .i64 s0.p0,.int .i64 s0.p1,.int .i64 s0.p2,.int .i64 s0.v0,.int .i64 s0.v1,.int .i64 s0.v2]:=hb
  have h1 : Blk _ g t #[.int .i64 s.t,.int .i64 s0.p0,.int .i64 s0.p1,.int .i64 s0.p2,.int .i64 s0.v0,.int .i64 s0.v1,.int .i64 s0.v2]:=h0.set_ 0 (.int .i64 s.t);have h2 : Blk _ g t #[.int .i64 s.t,.int .i64 s.p0,.int .i64 s0.p1,.int .i64 s0.p2,.int .i64 s0.v0,.int .i64 s0.v1,.int .i64 s0.v2]:=h1.set_ 1 (.int .i64 s.p0);have h3 : Blk _ g t #[.int .i64 s.t,.int .i64 s.p0,.int .i64 s.p1,.int .i64 s0.p2,.int .i64 s0.v0,.int .i64 s0.v1,.int .i64 s0.v2]:=h2.set_ 2 (.int .i64 s.p1);have h4 : Blk _ g t #[.int .i64 s.t,.int .i64 s.p0,.int .i64 s.p1,.int .i64 s.p2,.int .i64 s0.v0,.int .i64 s0.v1,.int .i64 s0.v2]:=h3.set_ 3 (.int .i64 s.p2);have h5 : Blk _ g t #[.int .i64 s.t,.int .i64 s.p0,.int .i64 s.p1,.int .i64 s.p2,.int .i64 s.v0,.int .i64 s0.v1,.int .i64 s0.v2]:=h4.set_ 4 (.int .i64 s.v0);have h6 : Blk _ g t #[.int .i64 s.t,.int .i64 s.p0,.int .i64 s.p1,.int .i64 s.p2,.int .i64 s.v0,.int .i64 s.v1,.int .i64 s0.v2]:=h5.set_ 5 (.int .i64 s.v1);have h7 : Blk _ g t #[.int .i64 s.t,.int .i64 s.p0,.int .i64 s.p1,.int .i64 s.p2,.int .i64 s.v0,.int .i64 s.v1,.int .i64 s.v2]:=h6.set_ 6 (.int .i64 s.v2);exact h7
theorem set_one {t : TypeId} {B : Nat} {w0 w : World} {g k : Nat} {cs : Array Value} (v : Value) (hB : Below B w0 w) (hs : B <= g) (hb : Blk w g t cs) (hl : NoLimb cs) :
    ∃ W,w.setCell ⟨g,k,none⟩ v = W /\ Below B w0 W /\ Blk W g t (cs.setIfInBounds k v) /\ Znx w W g:=
 ⟨_,rfl,hB.setCell (p:=⟨g,k,none⟩) hs _,hb.set_ k v,fun na A' n' c' z hW=>⟨hW.1,hW.2.1,hW.2.2.set_box hb hl _ _⟩,fun g' t' cs' hg h=>h.far hg _,by simp⟩
theorem Blk.frozen7 {t : TypeId} {w : World} {g : Nat} {s : St} (hb : Blk w g t s.cells) : w.frozen? ⟨g,0,none⟩ = false /\ w.frozen? ⟨g,1,none⟩ = false /\ w.frozen? ⟨g,2,none⟩ = false /\ w.frozen? ⟨g,3,none⟩ = false /\ w.frozen? ⟨g,4,none⟩ = false /\ w.frozen? ⟨g,5,none⟩ = false /\ w.frozen? ⟨g,6,none⟩ = false:=
 ⟨hb.frozen 0,hb.frozen 1,hb.frozen 2,hb.frozen 3,hb.frozen 4,hb.frozen 5,hb.frozen 6⟩
def Zcr (dir : List Rat) (d : Int) (i : Nat) : Int:=Zhw ((dir[i]?.getD 0) * (d : Rat))
def Zdb (z : Int) : Prop:=-1152921504606846976 <= z /\ z <= 1152921504606846976
def movB (s : St) (dir : List Rat) (d : Int) : Prop:=(∀ i,i < 6 -> Zdb (Zcr dir d i)) /\ stE (mvS s (Zcr dir d) 6) = 0
open Classical in
noncomputable def movE (s : St) (dir : List Rat) (d : Int) : Int:=if movB s dir d then 0 else 24
def St.zero : St:=⟨0,0,0,0,0,0,0⟩
open Classical in
noncomputable def movV (s : St) (dir : List Rat) (d : Int) : St:=if movB s dir d then mvS s (Zcr dir d) 6 else St.zero
theorem Zqg {s : St} {dir : List Rat} {d : Int} {i : Nat} (hi : i < 6) (h : ¬ Zdb (Zcr dir d i)) : movE s dir d = 24 /\ movV s dir d = St.zero:=by
 have hb : ¬ movB s dir d:=fun hb=>h (hb.1 i hi)
 exact ⟨if_neg hb,if_neg hb⟩
theorem Zkl {s : St} {dir : List Rat} {d : Int} (h : stE (mvS s (Zcr dir d) 6) ≠ 0) : movE s dir d = 24 /\ movV s dir d = St.zero:=by
 have hb : ¬ movB s dir d:=fun hb=>h hb.2
 exact ⟨if_neg hb,if_neg hb⟩
theorem Zn3 {s : St} {dir : List Rat} {d : Int} (h : ∀ i,i < 6 -> Zdb (Zcr dir d i)) (h2 : stE (mvS s (Zcr dir d) 6) = 0) : movE s dir d = 0 /\ movV s dir d = mvS s (Zcr dir d) 6:=
 ⟨if_pos ⟨h,h2⟩,if_pos ⟨h,h2⟩⟩
theorem Zoc (i g : Nat) (hi : i < 6) (w : World) :
    Calls Tryz.prog 139 #[.int .i64 i,.pointer (some ⟨g,0,none⟩)] w fun e w'=>e = .returned (.pointer (some ⟨g,i + 1,none⟩)) /\ w' = w:=by
 rcases (show i = 0 \/ i = 1 \/ i = 2 \/ i = 3 \/ i = 4 \/ i = 5 by omega) with rfl | rfl | rfl | rfl | rfl | rfl
 all_goals
  go_enter Tryz.func139,Tryz.ntmps139;go_wp2_with fail;go_ret;exact ⟨rfl,rfl⟩
end Go.Proofs.YtpehacgjclkhmaaGreat
