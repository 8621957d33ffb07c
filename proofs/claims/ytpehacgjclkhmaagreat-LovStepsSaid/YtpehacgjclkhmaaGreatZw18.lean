/- Package frac: Round; the reference's Round. States in -/
import Derived.Test.YtpehacgjclkhmaaGreatZw17
set_option maxRecDepth 100000
set_option maxHeartbeats 4000000
set_option linter.unusedSimpArgs false
set_option linter.unusedVariables false
namespace Go.Proofs.YtpehacgjclkhmaaGreat
open Go.RowKit
attribute [local go_sem] Zg
def Zc9 (x : Rat) : Int:=if (x.den : Int) < Int.fmod x.num x.den + Int.fmod x.num x.den \/ (x.den : Int) = Int.fmod x.num x.den + Int.fmod x.num x.den /\ Int.fdiv x.num x.den % 2 = 1 then Int.fdiv x.num x.den + 1 else Int.fdiv x.num x.den
def NumE (w : World) (z : Int) (e : Ending) (w' : World) : Prop:=
 Below w.heap.size w w' /\ ∃ neg A n c,e = .returned (.tuple #[.agg #[.bool neg,.slice A n c],.int .i64 0]) /\ Wd w' neg A n c z
theorem fmod_le {x : Rat} : 0 <= Int.fmod x.num x.den /\ Int.fmod x.num x.den < x.den:=by
 have h:=x.den_pos;rw [Int.fmod_eq_emod_of_nonneg _ (by omega)];exact ⟨Int.emod_nonneg _ (by omega),Int.emod_lt_of_pos _ (by omega)⟩
theorem Znn {x : Rat} {k : Nat} (h : x.num.natAbs < k) : (Int.fdiv x.num x.den).natAbs <= k:=by
 have h0:=x.den_pos;rw [Int.fdiv_eq_ediv_of_nonneg _ (by omega)]
 have h2 : x.num / (x.den : Int) <= k:=Int.ediv_le_of_le_mul (by omega) (by
  have : (k : Int) * 1 <= (k : Int) * (x.den : Int):=Int.mul_le_mul_of_nonneg_left (by omega) (by omega)
  omega)
 have h3 : -(k : Int) <= x.num / (x.den : Int):=Int.le_ediv_of_mul_le (by omega) (by
  have : (-(k : Int)) * (x.den : Int) <= -(k : Int) * 1:=Int.mul_le_mul_of_nonpos_left (by omega) (by omega)
  omega)
 omega
theorem Zjx {x : Rat} (h : (x.den : Int) < Int.fmod x.num x.den + Int.fmod x.num x.den \/ (x.den : Int) = Int.fmod x.num x.den + Int.fmod x.num x.den /\ Int.fdiv x.num x.den % 2 = 1) : Zc9 x = Int.fdiv x.num x.den + 1:=if_pos h
theorem Zei {x : Rat} (h : ¬ ((x.den : Int) < Int.fmod x.num x.den + Int.fmod x.num x.den \/ (x.den : Int) = Int.fmod x.num x.den + Int.fmod x.num x.den /\ Int.fdiv x.num x.den % 2 = 1)) : Zc9 x = Int.fdiv x.num x.den:=if_neg h
theorem Zrq {u : Nat} : (digits u)[0]?.getD 0 % 2 = u % 2:=by
 by_cases h0 : u = 0
 ·subst h0;rw [Zy];rfl
 ·rw [Zau h0]
  show u % 4294967296 % 2 = u % 2;omega
theorem and_one {u : Nat} (hu : u < 4294967296) : bits .and .u32 (u : Int) 1 = ((u % 2 : Nat) : Int):=by
 have h64 : ∀ x : Nat,x < 4294967296 -> (BitVec.ofInt 32 (x : Int)).toNat = x:=fun x hx=>by
  rw [BitVec.ofInt_natCast,BitVec.toNat_ofNat];exact Nat.mod_eq_of_lt hx
 show IntKind.u32.wrap ((BitVec.ofInt 32 (u : Int) &&& BitVec.ofInt 32 ((1 : Nat) : Int)).toNat : Int) = _;rw [BitVec.toNat_and,h64 u hu,h64 1 (by omega),Nat.and_one_is_mod];exact IntWalk.u32_in _ (by omega)
theorem Zo7 (na nb : Bool) (A B : Option Addr) (n c m d : Nat) (x : Rat) (w : World) (hx : Fr w na A n c nb B m d x) (hs : Sm x) :
    Calls Tryz.prog 140 #[.agg #[.bool na,.slice A n c,.bool nb,.slice B m d]] w (NumE w (Zc9 x)):=by
 obtain ⟨W0,hW0,hB0,⟨q0,q1,q2⟩,s0⟩:=Zb8 w 29 #[.bool na,.slice A n c,.bool nb,.slice B m d] 27 #[.bool false,.slice none 0 0] 30 #[.int .i64 0];have hX:=Zb (hx.below hB0)
 have hmx : Tryz.prog.follows .mixedOrders = true:=by kernel_rfl
 have hbig:=Zfu (a:=1000) (b:=4096) (by decide)
 have hbig2 : pw 1000 + pw 1000 + 2 < pw 4096:=by
  have h1:=Ze7 (a:=1001) (b:=4096) (by decide);have h2 : pw 1001 = 4294967296 * pw 1000:=Zaf 1000;have h3:=Zdo 1000;omega
 have hrr : Hid ((Int.fmod x.num x.den + Int.fmod x.num x.den).natAbs < pw 4096):=Zb (by have h1:=fmod_le (x:=x);have h2:=hs.2;omega);have hqq : Hid ((Int.fdiv x.num x.den + 1).natAbs < pw 4096):=Zb (by have h1:=Znn (x:=x) hs.1;omega);clear hx hs hbig hbig2;replace hW0:=Zb hW0;obtain ⟨a0,a1,a2,a3,-⟩:=q0.four;have hq:=Zb (And.intro q0 (And.intro q1 q2));clear q0 q1 q2
 go_enter_defers Tryz.func140,Tryz.ntmps140
 have hW0':=hW0.out;go_wp2_with fail;clear hW0 hW0';refine (Zb3 na nb A B n c m d x W0 hX.out).mono ?_;rintro e w1 ⟨rfl,hb1⟩;have hB1 : Below w.heap.size w w1:=hB0.trans (hb1.mono hB0.size);have s1 : W0.heap.size <= w1.heap.size:=hb1.size;replace hX:=Zb (hX.out.below hb1);obtain ⟨q0,q1,q2⟩:=hq.out;replace q0:=Zd hb1 q0;replace q1:=Zd hb1 q1;replace q2:=Zd hb1 q2;clear hq hb1 hB0 a0 a1 a2 a3;obtain ⟨a0,a1,a2,a3,-⟩:=q0.four;have hq:=Zb (And.intro q0 (And.intro q1 q2));clear q0 q1 q2;go_wp2_with fail;refine (Zcf w1).mono ?_;rintro e w1 ⟨rfl,rfl⟩;go_wp2_with fail;refine (Zdd na nb A B n c m d x.num x.den w1 hX.out.1 hX.out.2 (by have:=x.den_pos;omega)).mono ?_;rintro e w2 ⟨hb2,nq,Aq,kq,cq,nr,Ar,kr,cr,rfl,hQ,hR⟩;have hB2 : Below w.heap.size w w2:=hB1.trans (hb2.mono hB1.size);have s2 : w1.heap.size <= w2.heap.size:=hb2.size;replace hX:=Zb (hX.out.below hb2);obtain ⟨q0,q1,q2⟩:=hq.out;replace q0:=((Zd hb2 q0).alloc (.cells #[.bool nq,.slice Aq kq cq] 27)).alloc (.cells #[.bool nr,.slice Ar kr cr] 27);replace q1:=((Zd hb2 q1).alloc (.cells #[.bool nq,.slice Aq kq cq] 27)).alloc (.cells #[.bool nr,.slice Ar kr cr] 27);replace q2:=((Zd hb2 q2).alloc (.cells #[.bool nq,.slice Aq kq cq] 27)).alloc (.cells #[.bool nr,.slice Ar kr cr] 27);have q4 : Blk ((w2.alloc (.cells #[.bool nq,.slice Aq kq cq] 27)).alloc (.cells #[.bool nr,.slice Ar kr cr] 27)) w2.heap.size 27 #[.bool nq,.slice Aq kq cq]:=(Blk.new w2 _ _).alloc _
 have q5 : Blk ((w2.alloc (.cells #[.bool nq,.slice Aq kq cq] 27)).alloc (.cells #[.bool nr,.slice Ar kr cr] 27)) (w2.heap.size + 1) 27 #[.bool nr,.slice Ar kr cr]:=by
  have:=Blk.new (w2.alloc (.cells #[.bool nq,.slice Aq kq cq] 27)) 27 #[.bool nr,.slice Ar kr cr];simp only [World.size_alloc] at this;exact this
 have hB3 : Below w.heap.size w ((w2.alloc (.cells #[.bool nq,.slice Aq kq cq] 27)).alloc (.cells #[.bool nr,.slice Ar kr cr] 27)):=(hB2.alloc hB2.size _).alloc (by have:=hB2.size;simp;omega) _;have hX3:=(hX.out.alloc (.cells #[.bool nq,.slice Aq kq cq] 27)).alloc (.cells #[.bool nr,.slice Ar kr cr] 27);have hQ3:=(hQ.alloc (.cells #[.bool nq,.slice Aq kq cq] 27)).alloc (.cells #[.bool nr,.slice Ar kr cr] 27);have hR3:=(hR.alloc (.cells #[.bool nq,.slice Aq kq cq] 27)).alloc (.cells #[.bool nr,.slice Ar kr cr] 27);have e1:=q2.frozen 0;have e0:=q2.cell 0;simp only [List.getElem?_toArray,List.getElem?_cons_zero] at e0;have hs2:=hB2.size;clear hq hb2 hB1 a0 a1 a2 a3 hQ hR hX;have hX:=Zb hX3;have hQ:=Zb hQ3;have hR:=Zb hR3;have hq:=Zb (And.intro q0 (And.intro q1 (And.intro q2 (And.intro q4 q5))));clear q0 q1 q2 q4 q5 hX3 hQ3 hR3;replace hB3:=Zb hB3;go_wp2_with fail;obtain ⟨q0,q1,q2,q4,q5⟩:=hq.out;obtain ⟨W5,hW5,hB5,q2',kW,kB,s5⟩:=Zba 0 hB3.out (by omega) q2;replace q0:=kB _ _ _ (by omega) q0;replace q1:=kB _ _ _ (by omega) q1;replace q4:=kB _ _ _ (by omega) q4;replace q5:=kB _ _ _ (by omega) q5;replace hX : Hid (Fr W5 na A n c nb B m d x):=Zb ⟨kW _ _ _ _ _ hX.out.1,kW _ _ _ _ _ hX.out.2⟩;replace hQ:=Zb (kW _ _ _ _ _ hQ.out);replace hR:=Zb (kW _ _ _ _ _ hR.out);rw [hW5];clear hq hB3 q2 kW kB hW5 e0 e1;refine (Zcf W5).mono ?_;rintro e W5 ⟨rfl,rfl⟩;obtain ⟨r0,r1,-⟩:=q5.two;obtain ⟨-,-,r2,r3,-⟩:=q0.four;have hq:=Zb (And.intro q1 (And.intro q2' q4));clear q0 q1 q2' q4 q5
 replace hB5:=Zb hB5;go_wp2_with fail;have hSv : Hid (∀ wx,Below W5.heap.size W5 wx -> wx.cell? ⟨w2.heap.size + 1,0,none⟩ = some (.bool nr) /\ wx.cell? ⟨w2.heap.size + 1,1,none⟩ = some (.slice Ar kr cr) /\ wx.cell? ⟨w.heap.size,2,none⟩ = some (.bool nb) /\ wx.cell? ⟨w.heap.size,3,none⟩ = some (.slice B m d)):=Zb (fun wx hbx=>⟨Za hbx r0,Za hbx r1,Za hbx r2,Za hbx r3⟩);have hr : Below W5.heap.size W5 W5.drew:=Zh (Below.refl _ _) 1;refine wp_heldS [] hmx hSv hr (fun hxs=>?_);refine Zsi 4 [0,1,6,7] rfl (by kernel_rfl) (hSv.out _ hr) ?_
 iterate 4 (refine tk1 (v:=?_) rfl (Or.inl ⟨by kernel_rfl,?_⟩) ?_;rotate_left;(· intro W2 hSw;(try dsimp only at hSw);go_simp;try with_reducible rfl);try simp only [Act.put,putL_a,putL_z,putL_s,putG_a,putG_s,putG_z])
 refine tk0 ?_;refine Ze (i:=2) rfl (by kernel_rfl) (fun K hK=>?_);go_simp;refine (Znl nr nr Ar Ar kr cr kr cr _ _ W5.drew (hR.out.below hr) (hR.out.below hr)).mono ?_;rintro e w6 ⟨hb6,np,P,k,q,code,rfl,hRes⟩;have hr6:=hr.trans (hb6.mono hr.size);have hP:=Zb (hRes.small hrr.out);have hcode:=hRes.code0 hrr.out;subst hcode;clear hRes hrr;refine hK.out _ _ (fun _=>hSv.out _ hr6) ?_;clear hK K
 try simp only [Act.put,putL_a,putL_z,putL_s]
 refine Zsi 2 [3,4] rfl (by kernel_rfl) (hSv.out _ hr6) ?_
 iterate 2 (refine tk1 (v:=?_) rfl (Or.inl ⟨by kernel_rfl,?_⟩) ?_;rotate_left;(· intro W2 hSw;(try dsimp only at hSw);go_simp;try with_reducible rfl);try simp only [Act.put,putL_a,putL_z,putL_s,putG_a,putG_s,putG_z])
 refine tk0 ?_;refine Ze (i:=5) rfl (by kernel_rfl) (fun K hK=>?_);go_simp;refine (Zbt np P k q w6).mono ?_;rintro e w7 ⟨rfl,hb7⟩;have hr7:=hr6.trans (hb7.mono hr6.size);replace hP:=Zb (hP.out.below hb7);refine hK.out _ _ (fun _=>hSv.out _ hr7) ?_;clear hK K
 try simp only [Act.put,putL_a,putL_z,putL_s]
 refine Ze (i:=8) rfl (by kernel_rfl) (fun K hK=>?_);go_simp;refine (Zk3 np nb P B k q m d _ _ w7 hP.out (hX.out.2.below hr7)).mono ?_;rintro e w8 ⟨rfl,hb8⟩;have hr8:=hr7.trans (hb8.mono hr7.size);refine hK.out _ _ (fun _=>hSv.out _ hr8) ?_;clear hK K
 try simp only [Act.put,putL_a,putL_z,putL_s]
 refine Zsi 5 [9,10,11,12,13] rfl (by kernel_rfl) (hSv.out _ hr8) ?_
 iterate 5 (refine tk1 (v:=?_) rfl (Or.inl ⟨by kernel_rfl,?_⟩) ?_;rotate_left;(· intro W2 hSw;(try dsimp only at hSw);go_simp;try with_reducible rfl);try simp only [Act.put,putL_a,putL_z,putL_s,putG_a,putG_s,putG_z])
 refine tk0 ?_;refine Zj (by kernel_rfl) ?_ _;refine OnlyNormal.normal ?_;obtain ⟨q1,q2,q4⟩:=hq.out;replace q1:=Zd hr8 q1;replace q2:=Zd hr8 q2;replace q4:=Zd hr8 q4;replace hQ:=Zb (hQ.out.below hr8);have hB8:=hB5.out.trans (hr8.mono hB5.out.size);have s8:=hr8.size;clear hq hr hr6 hr7 hr8 hb6 hb7 hb8 hSv hxs hR hX hP hB5 r0 r1 r2 r3;replace hqq:=hqq
 rcases Int.lt_trichotomy (x.den : Int) (Int.fmod x.num x.den + Int.fmod x.num x.den) with hlt | heq | hgt
 case inl =>
  have hz:=Zjx (x:=x) (.inl hlt)
  have hc : Zbe (Int.fmod x.num x.den + Int.fmod x.num x.den) (x.den : Int) = 1:=by unfold Zbe;rw [if_neg (by omega),if_pos hlt]
  rw [hc];clear hlt hc;replace hz:=Zb hz;go_wp2_with fail;obtain ⟨c0,c1,-⟩:=q4.two;have hSv : Hid (∀ wx,Below w8.heap.size w8 wx -> wx.cell? ⟨w2.heap.size,0,none⟩ = some (.bool nq) /\ wx.cell? ⟨w2.heap.size,1,none⟩ = some (.slice Aq kq cq)):=Zb (fun wx hbx=>⟨Za hbx c0,Za hbx c1⟩);have hr : Below w8.heap.size w8 w8.drew:=Zh (Below.refl _ _) 1;have hqh:=Zb (And.intro q1 (And.intro q2 q4));have hBh:=Zb hB8;clear q1 q2 q4 hB8 c0 c1;refine wp_heldS [6] hmx hSv hr (fun hxs=>?_);refine Zsi 1 [0] rfl (by kernel_rfl) (hSv.out _ hr) ?_
  (refine tk1 (v:=?_) rfl (Or.inl ⟨by kernel_rfl,?_⟩) ?_;rotate_left;(· intro W2 hSw;(try dsimp only at hSw);go_simp;try with_reducible rfl);try simp only [Act.put,putL_a,putL_z,putL_s,putG_a,putG_s,putG_z])
  refine tk0 ?_;refine Ze (i:=1) rfl (by kernel_rfl) (fun K hK=>?_);go_simp;refine (Znq w8.drew).mono ?_;rintro e w11 ⟨hb11,n1,A1,k1,c1,rfl,hO⟩;have hr11:=hr.trans (hb11.mono hr.size);replace hO:=Zb hO;refine hK.out _ _ (fun _=>hSv.out _ hr11) ?_;clear hK K
  try simp only [Act.put,putL_a,putL_z,putL_s]
  refine Ze (i:=2) rfl (by kernel_rfl) (fun K hK=>?_);go_simp;refine (Znl nq n1 Aq A1 kq cq k1 c1 _ _ w11 (hQ.out.below hr11) hO.out).mono ?_;rintro e w12 ⟨hb12,np,P,k,q,code,rfl,hRes⟩;have hr12:=hr11.trans (hb12.mono hr11.size);have hP:=Zb (hRes.small hqq.out);have hcode:=hRes.code0 hqq.out;subst hcode;clear hRes hqq hO;refine hK.out _ _ (fun _=>hSv.out _ hr12) ?_;clear hK K
  try simp only [Act.put,putL_a,putL_z,putL_s]
  refine Zsi 2 [3,4] rfl (by kernel_rfl) (hSv.out _ hr12) ?_
  iterate 2 (refine tk1 (v:=?_) rfl (Or.inl ⟨by kernel_rfl,?_⟩) ?_;rotate_left;(· intro W2 hSw;(try dsimp only at hSw);go_simp;try with_reducible rfl);try simp only [Act.put,putL_a,putL_z,putL_s,putG_a,putG_s,putG_z])
  refine tk0 ?_;refine Ze (i:=5) rfl (by kernel_rfl) (fun K hK=>?_);go_simp;refine (Zbt np P k q w12).mono ?_;rintro e w13 ⟨rfl,hb13⟩;have hr13:=hr12.trans (hb13.mono hr12.size);replace hP:=Zb (hP.out.below hb13);obtain ⟨q1,q2,q4⟩:=hqh.out;replace q1:=Zd hr13 q1;replace q2:=Zd hr13 q2;replace q4:=Zd hr13 q4;have hB13:=hBh.out.trans (hr13.mono hBh.out.size);obtain ⟨x0,x1,f0,f1⟩:=q4.two;refine hK.out _ _ (fun _=>hSv.out _ hr13) ?_;clear hK K
  try simp only [Act.put,putL_a,putL_z,putL_s]
  refine Zt (i:=6) rfl (by kernel_rfl) (by kernel_rfl) (fun K hK=>?_);go_simp;obtain ⟨W14,hW14,hB14,q4',kW,kB,s14⟩:=Za8 np P k q hB13 (by omega) q4;rw [hW14];clear hW14 x0 x1 f0 f1;replace q1:=kB _ _ _ (by omega) q1;replace q2:=kB _ _ _ (by omega) q2;replace hP:=Zb (kW _ _ _ _ _ hP.out);have s13:=hr13.size;clear kW kB;refine hK.out _ _ ?_;clear hK K
  try simp only [Act.put,putL_a,putL_z,putL_s]
  refine Zj (by kernel_rfl) ?_ _;refine OnlyNormal.normal ?_;clear hr hr11 hr12 hr13 hb11 hb12 hb13 hSv hxs hqh hBh q4 hB13;obtain ⟨c0,c1,-⟩:=q4'.two;obtain ⟨x0,x1,f0,f1⟩:=q1.two;have e0:=q2.cell 0;have e1:=q2.frozen 0;simp only [List.getElem?_toArray,List.getElem?_cons_zero] at e0;have hBh:=Zb hB14;have hqh:=Zb (And.intro q1 (And.intro q2 q4'));clear q1 q2 q4' hB14;go_wp2_with fail;obtain ⟨u1,u2,u4⟩:=hqh.out;obtain ⟨Wa,hWa,hBa,qa,kW,kB,sa⟩:=Za8 np P k q hBh.out (by omega) u1;replace u2:=kB _ _ _ (by omega) u2;have HZ:=kW _ _ _ _ _ hP.out;rw [hWa];obtain ⟨Wb,hWb,hBb,qb,kW2,kB2,sb⟩:=Zba 0 hBa (by omega) u2;replace qa:=kB2 _ _ _ (by omega) qa;replace HZ:=kW2 _ _ _ _ _ HZ;rw [hWb];obtain ⟨y0,y1,-⟩:=qa.two;have y4:=qb.cell 0;simp only [List.getElem?_toArray,List.getElem?_cons_zero] at y4;refine leaves_cons (f:=128) (args:=#[.pointer (some ⟨w.heap.size + 1 + 1,0,none⟩)]) (by simp) (by simp [go_sem]) ?_;refine (Za9 _ _).mono ?_;rintro e u' w'' ⟨rfl,rfl,rfl⟩;refine ⟨.tuple #[.agg #[.bool np,.slice P k q],.int .i64 0],by simp [results,Tryz.results140,go_sem,y0,y1,y4],?_⟩;exact ⟨hBb,_,_,_,_,rfl,by rw [hz.out];exact HZ⟩
 case inr.inr =>
  have hz:=Zei (x:=x) (by omega)
  have hc : Zbe (Int.fmod x.num x.den + Int.fmod x.num x.den) (x.den : Int) = -1:=by unfold Zbe;rw [if_pos hgt]
  rw [hc];clear hgt hc;replace hz:=Zb hz;obtain ⟨c0,c1,-⟩:=q4.two;obtain ⟨x0,x1,f0,f1⟩:=q1.two;have e0:=q2.cell 0;have e1:=q2.frozen 0;simp only [List.getElem?_toArray,List.getElem?_cons_zero] at e0;have hBh:=Zb hB8;have hqh:=Zb (And.intro q1 (And.intro q2 q4));clear q1 q2 q4 hB8;go_wp2_with fail;obtain ⟨u1,u2,u4⟩:=hqh.out;obtain ⟨Wa,hWa,hBa,qa,kW,kB,sa⟩:=Za8 nq Aq kq cq hBh.out (by omega) u1;replace u2:=kB _ _ _ (by omega) u2;have HZ:=kW _ _ _ _ _ hQ.out;rw [hWa];obtain ⟨Wb,hWb,hBb,qb,kW2,kB2,sb⟩:=Zba 0 hBa (by omega) u2;replace qa:=kB2 _ _ _ (by omega) qa;replace HZ:=kW2 _ _ _ _ _ HZ;rw [hWb];obtain ⟨y0,y1,-⟩:=qa.two;have y4:=qb.cell 0;simp only [List.getElem?_toArray,List.getElem?_cons_zero] at y4;refine leaves_cons (f:=128) (args:=#[.pointer (some ⟨w.heap.size + 1 + 1,0,none⟩)]) (by simp) (by simp [go_sem]) ?_;refine (Za9 _ _).mono ?_;rintro e u' w'' ⟨rfl,rfl,rfl⟩;refine ⟨.tuple #[.agg #[.bool nq,.slice Aq kq cq],.int .i64 0],by simp [results,Tryz.results140,go_sem,y0,y1,y4],?_⟩;exact ⟨hBb,_,_,_,_,rfl,by rw [hz.out];exact HZ⟩
 case inr.inl =>
  have hc : Zbe (Int.fmod x.num x.den + Int.fmod x.num x.den) (x.den : Int) = 0:=by unfold Zbe;rw [if_neg (by omega),if_neg (by omega)]
  rw [hc];replace heq:=Zb heq;clear hc;have hk0:=hQ.out.lim.len;have hkm:=hQ.out.2.1;replace hk0:=Zb hk0;obtain ⟨c0,c1,-⟩:=q4.two;replace hB8:=Zb hB8;have hqy:=Zb (And.intro q1 (And.intro q2 q4));clear q1 q2 q4
  by_cases hk : kq = 0
  case pos =>
   subst hk
   have hq0 : Int.fdiv x.num x.den = 0:=by
    have:=digits_eq_nil.1 (List.length_eq_zero_iff.1 hk0.out);omega
   have hz:=Zei (x:=x) (by rw [hq0];have:=heq.out;omega);clear hq0 hk0;replace hz:=Zb hz;go_wp2_with fail;refine (Zdn nq Aq 0 cq w8 (by omega) true (by decide)).mono ?_;rintro e w9 ⟨rfl,hb9⟩;obtain ⟨q1,q2,q4⟩:=hqy.out;replace q1:=Zd hb9 q1;replace q2:=Zd hb9 q2;replace q4:=Zd hb9 q4;replace hQ:=Zb (hQ.out.below hb9);have hB9:=hB8.out.trans (hb9.mono hB8.out.size);have s9:=hb9.size;clear hqy hB8 c0 c1 hb9;obtain ⟨c0,c1,-⟩:=q4.two;obtain ⟨x0,x1,f0,f1⟩:=q1.two;have e0:=q2.cell 0;have e1:=q2.frozen 0;simp only [List.getElem?_toArray,List.getElem?_cons_zero] at e0;have hBh:=Zb hB9;have hqh:=Zb (And.intro q1 (And.intro q2 q4));clear q1 q2 q4 hB9;go_wp2_with fail;obtain ⟨u1,u2,u4⟩:=hqh.out;obtain ⟨Wa,hWa,hBa,qa,kW,kB,sa⟩:=Za8 nq Aq 0 cq hBh.out (by omega) u1;replace u2:=kB _ _ _ (by omega) u2;have HZ:=kW _ _ _ _ _ hQ.out;rw [hWa];obtain ⟨Wb,hWb,hBb,qb,kW2,kB2,sb⟩:=Zba 0 hBa (by omega) u2;replace qa:=kB2 _ _ _ (by omega) qa;replace HZ:=kW2 _ _ _ _ _ HZ;rw [hWb];obtain ⟨y0,y1,-⟩:=qa.two;have y4:=qb.cell 0;simp only [List.getElem?_toArray,List.getElem?_cons_zero] at y4;refine leaves_cons (f:=128) (args:=#[.pointer (some ⟨w.heap.size + 1 + 1,0,none⟩)]) (by simp) (by simp [go_sem]) ?_;refine (Za9 _ _).mono ?_;rintro e u' w'' ⟨rfl,rfl,rfl⟩;refine ⟨.tuple #[.agg #[.bool nq,.slice Aq 0 cq],.int .i64 0],by simp [results,Tryz.results140,go_sem,y0,y1,y4],?_⟩;exact ⟨hBb,_,_,_,_,rfl,by rw [hz.out];exact HZ⟩
  case neg =>
   have hkb : ((kq : Int) == 0) = false:=by simp;omega
   obtain ⟨gq,oq,rfl,hcell⟩:=hQ.out.lim.at_ (k:=0) (by omega);go_wp2_with fail;refine (Zdn nq _ kq cq w8 (by omega) false hkb).mono ?_;rintro e w9 ⟨rfl,hb9⟩;obtain ⟨q1,q2,q4⟩:=hqy.out;replace q1:=Zd hb9 q1;replace q2:=Zd hb9 q2;replace q4:=Zd hb9 q4;replace hQ:=Zb (hQ.out.below hb9);have hc9 : w9.cell? ⟨gq,oq,none⟩ = some (.int .u32 (((digits (Int.fdiv x.num x.den).natAbs)[0]?.getD 0 : Nat) : Int)):=Za hb9 hcell;have hB9:=Zb (hB8.out.trans (hb9.mono hB8.out.size));have s9:=hb9.size;clear hqy hB8 c0 c1 hb9 hcell;obtain ⟨c0,c1,-⟩:=q4.two
   have bk : (0 : Int) < (kq : Int):=by omega
   obtain ⟨u,hu⟩ : ∃ u,(digits (Int.fdiv x.num x.den).natAbs)[0]?.getD 0 = u:=⟨_,rfl⟩;have hou:=Zrq (u:=(Int.fdiv x.num x.den).natAbs)
   have hu32 : u < 4294967296:=by rw [<- hu];exact (Zep _).get _
   rw [hu] at hc9 hou;have hbit : bits .and .u32 (u : Int) 1 = ((u % 2 : Nat) : Int):=and_one hu32;replace hou:=Zb hou;clear hu;have hqy:=Zb (And.intro q1 (And.intro q2 q4));clear q1 q2 q4
   by_cases hodd : u % 2 = 1
   case pos =>
    have hz:=Zjx (x:=x) (.inr ⟨heq.out,by have:=hou.out;omega⟩);rw [hodd] at hbit;replace hz:=Zb hz;replace hodd:=Zb hodd;obtain ⟨q1,q2,q4⟩:=hqy.out;clear hqy c0 c1;obtain ⟨c0,c1,-⟩:=q4.two;have hB9':=hB9.out;clear hB9;go_wp2_with fail;obtain ⟨c0,c1,-⟩:=q4.two;have hSv : Hid (∀ wx,Below w9.heap.size w9 wx -> wx.cell? ⟨w2.heap.size,0,none⟩ = some (.bool nq) /\ wx.cell? ⟨w2.heap.size,1,none⟩ = some (.slice (some ⟨gq,oq,none⟩) kq cq)):=Zb (fun wx hbx=>⟨Za hbx c0,Za hbx c1⟩);have hr : Below w9.heap.size w9 w9.drew:=Zh (Below.refl _ _) 1;have hqh:=Zb (And.intro q1 (And.intro q2 q4));have hBh:=Zb hB9';clear q1 q2 q4 hB9' c0 c1;refine wp_heldS [6] hmx hSv hr (fun hxs=>?_);refine Zsi 1 [0] rfl (by kernel_rfl) (hSv.out _ hr) ?_
    (refine tk1 (v:=?_) rfl (Or.inl ⟨by kernel_rfl,?_⟩) ?_;rotate_left;(· intro W2 hSw;(try dsimp only at hSw);go_simp;try with_reducible rfl);try simp only [Act.put,putL_a,putL_z,putL_s,putG_a,putG_s,putG_z])
    refine tk0 ?_;refine Ze (i:=1) rfl (by kernel_rfl) (fun K hK=>?_);go_simp;refine (Znq w9.drew).mono ?_;rintro e w11 ⟨hb11,n1,A1,k1,c1,rfl,hO⟩;have hr11:=hr.trans (hb11.mono hr.size);replace hO:=Zb hO;refine hK.out _ _ (fun _=>hSv.out _ hr11) ?_;clear hK K
    try simp only [Act.put,putL_a,putL_z,putL_s]
    refine Ze (i:=2) rfl (by kernel_rfl) (fun K hK=>?_);go_simp;refine (Znl nq n1 (some ⟨gq,oq,none⟩) A1 kq cq k1 c1 _ _ w11 (hQ.out.below hr11) hO.out).mono ?_;rintro e w12 ⟨hb12,np,P,k,q,code,rfl,hRes⟩;have hr12:=hr11.trans (hb12.mono hr11.size);have hP:=Zb (hRes.small hqq.out);have hcode:=hRes.code0 hqq.out;subst hcode;clear hRes hqq hO;refine hK.out _ _ (fun _=>hSv.out _ hr12) ?_;clear hK K
    try simp only [Act.put,putL_a,putL_z,putL_s]
    refine Zsi 2 [3,4] rfl (by kernel_rfl) (hSv.out _ hr12) ?_
    iterate 2 (refine tk1 (v:=?_) rfl (Or.inl ⟨by kernel_rfl,?_⟩) ?_;rotate_left;(· intro W2 hSw;(try dsimp only at hSw);go_simp;try with_reducible rfl);try simp only [Act.put,putL_a,putL_z,putL_s,putG_a,putG_s,putG_z])
    refine tk0 ?_;refine Ze (i:=5) rfl (by kernel_rfl) (fun K hK=>?_);go_simp;refine (Zbt np P k q w12).mono ?_;rintro e w13 ⟨rfl,hb13⟩;have hr13:=hr12.trans (hb13.mono hr12.size);replace hP:=Zb (hP.out.below hb13);obtain ⟨q1,q2,q4⟩:=hqh.out;replace q1:=Zd hr13 q1;replace q2:=Zd hr13 q2;replace q4:=Zd hr13 q4;have hB13:=hBh.out.trans (hr13.mono hBh.out.size);obtain ⟨x0,x1,f0,f1⟩:=q4.two;refine hK.out _ _ (fun _=>hSv.out _ hr13) ?_;clear hK K
    try simp only [Act.put,putL_a,putL_z,putL_s]
    refine Zt (i:=6) rfl (by kernel_rfl) (by kernel_rfl) (fun K hK=>?_);go_simp;obtain ⟨W14,hW14,hB14,q4',kW,kB,s14⟩:=Za8 np P k q hB13 (by omega) q4;rw [hW14];clear hW14 x0 x1 f0 f1;replace q1:=kB _ _ _ (by omega) q1;replace q2:=kB _ _ _ (by omega) q2;replace hP:=Zb (kW _ _ _ _ _ hP.out);have s13:=hr13.size;clear kW kB;refine hK.out _ _ ?_;clear hK K
    try simp only [Act.put,putL_a,putL_z,putL_s]
    refine Zj (by kernel_rfl) ?_ _;refine OnlyNormal.normal ?_;clear hr hr11 hr12 hr13 hb11 hb12 hb13 hSv hxs hqh hBh q4 hB13;obtain ⟨c0,c1,-⟩:=q4'.two;obtain ⟨x0,x1,f0,f1⟩:=q1.two;have e0:=q2.cell 0;have e1:=q2.frozen 0;simp only [List.getElem?_toArray,List.getElem?_cons_zero] at e0;have hBh:=Zb hB14;have hqh:=Zb (And.intro q1 (And.intro q2 q4'));clear q1 q2 q4' hB14;go_wp2_with fail;obtain ⟨u1,u2,u4⟩:=hqh.out;obtain ⟨Wa,hWa,hBa,qa,kW,kB,sa⟩:=Za8 np P k q hBh.out (by omega) u1;replace u2:=kB _ _ _ (by omega) u2;have HZ:=kW _ _ _ _ _ hP.out;rw [hWa];obtain ⟨Wb,hWb,hBb,qb,kW2,kB2,sb⟩:=Zba 0 hBa (by omega) u2;replace qa:=kB2 _ _ _ (by omega) qa;replace HZ:=kW2 _ _ _ _ _ HZ;rw [hWb];obtain ⟨y0,y1,-⟩:=qa.two;have y4:=qb.cell 0;simp only [List.getElem?_toArray,List.getElem?_cons_zero] at y4;refine leaves_cons (f:=128) (args:=#[.pointer (some ⟨w.heap.size + 1 + 1,0,none⟩)]) (by simp) (by simp [go_sem]) ?_;refine (Za9 _ _).mono ?_;rintro e u' w'' ⟨rfl,rfl,rfl⟩;refine ⟨.tuple #[.agg #[.bool np,.slice P k q],.int .i64 0],by simp [results,Tryz.results140,go_sem,y0,y1,y4],?_⟩;exact ⟨hBb,_,_,_,_,rfl,by rw [hz.out];exact HZ⟩
   case neg =>
    have hev : u % 2 = 0:=by omega
    have hz:=Zei (x:=x) (by have h1:=hou.out;have h2:=heq.out;omega);rw [hev] at hbit;replace hz:=Zb hz;replace hodd:=Zb hodd;replace hev:=Zb hev;obtain ⟨q1,q2,q4⟩:=hqy.out;have hB9':=hB9.out;clear hqy hB9 c0 c1;obtain ⟨c0,c1,-⟩:=q4.two;obtain ⟨x0,x1,f0,f1⟩:=q1.two;have e0:=q2.cell 0;have e1:=q2.frozen 0;simp only [List.getElem?_toArray,List.getElem?_cons_zero] at e0;have hBh:=Zb hB9';have hqh:=Zb (And.intro q1 (And.intro q2 q4));clear q1 q2 q4 hB9';go_wp2_with fail;obtain ⟨u1,u2,u4⟩:=hqh.out;obtain ⟨Wa,hWa,hBa,qa,kW,kB,sa⟩:=Za8 nq (some ⟨gq,oq,none⟩) kq cq hBh.out (by omega) u1;replace u2:=kB _ _ _ (by omega) u2;have HZ:=kW _ _ _ _ _ hQ.out;rw [hWa];obtain ⟨Wb,hWb,hBb,qb,kW2,kB2,sb⟩:=Zba 0 hBa (by omega) u2;replace qa:=kB2 _ _ _ (by omega) qa;replace HZ:=kW2 _ _ _ _ _ HZ;rw [hWb];obtain ⟨y0,y1,-⟩:=qa.two;have y4:=qb.cell 0;simp only [List.getElem?_toArray,List.getElem?_cons_zero] at y4;refine leaves_cons (f:=128) (args:=#[.pointer (some ⟨w.heap.size + 1 + 1,0,none⟩)]) (by simp) (by simp [go_sem]) ?_;refine (Za9 _ _).mono ?_;rintro e u' w'' ⟨rfl,rfl,rfl⟩;refine ⟨.tuple #[.agg #[.bool nq,.slice (some ⟨gq,oq,none⟩) kq cq],.int .i64 0],by simp [results,Tryz.results140,go_sem,y0,y1,y4],?_⟩;exact ⟨hBb,_,_,_,_,rfl,by rw [hz.out];exact HZ⟩
def St.cells (s : St) : Array Value:=#[.int .i64 s.t,.int .i64 s.p0,.int .i64 s.p1,.int .i64 s.p2,.int .i64 s.v0,.int .i64 s.v1,.int .i64 s.v2]
def St.num (s : St) : Nat -> Int
 | 0=>s.p0
 | 1=>s.p1
 | 2=>s.p2
 | 3=>s.v0
 | 4=>s.v1
 | _=>s.v2
def mvS (s : St) (ns : Nat -> Int) (i : Nat) : St:=
 ⟨s.t,if 0 < i then wrap64 (s.p0 + ns 0) else s.p0,if 1 < i then wrap64 (s.p1 + ns 1) else s.p1,if 2 < i then wrap64 (s.p2 + ns 2) else s.p2,if 3 < i then wrap64 (s.v0 + ns 3) else s.v0,if 4 < i then wrap64 (s.v1 + ns 4) else s.v1,if 5 < i then wrap64 (s.v2 + ns 5) else s.v2⟩
theorem mvS_set (s : St) (ns : Nat -> Int) {i : Nat} (h : i < 6) : (mvS s ns i).cells.setIfInBounds (i + 1) (.int .i64 (wrap64 (s.num i + ns i))) = (mvS s ns (i + 1)).cells:=by
 rcases (show i = 0 \/ i = 1 \/ i = 2 \/ i = 3 \/ i = 4 \/ i = 5 by omega) with rfl | rfl | rfl | rfl | rfl | rfl <;> rfl
theorem mvS_get (s : St) (ns : Nat -> Int) {i : Nat} (h : i < 6) : (mvS s ns i).cells[i + 1]? = some (.int .i64 (s.num i)):=by
 rcases (show i = 0 \/ i = 1 \/ i = 2 \/ i = 3 \/ i = 4 \/ i = 5 by omega) with rfl | rfl | rfl | rfl | rfl | rfl <;> rfl
theorem St.noLimb (s : St) : NoLimb s.cells:=fun i x=>by
 unfold St.cells
 rcases i with _ | _ | _ | _ | _ | _ | _ | i <;> simp
theorem Znb {t : TypeId} {B : Nat} {w0 w : World} {g : Nat} {s0 : St} (s : St) (hB : Below B w0 w) (hs : B <= g) (hb : Blk w g t s0.cells) :
    ∃ W,((((((w.setCell ⟨g,0,none⟩ (.int .i64 s.t)).setCell ⟨g,1,none⟩ (.int .i64 s.p0)).setCell ⟨g,2,none⟩ (.int .i64 s.p1)).setCell ⟨g,3,none⟩ (.int .i64 s.p2)).setCell ⟨g,4,none⟩ (.int .i64 s.v0)).setCell ⟨g,5,none⟩ (.int .i64 s.v1)).setCell ⟨g,6,none⟩ (.int .i64 s.v2) = W /\ Below B w0 W /\ Blk W g t s.cells:=by
 refine ⟨_,rfl,?_,?_⟩
 ·exact ((((((hB.setCell (p:=⟨g,0,none⟩) hs _).setCell (p:=⟨g,1,none⟩) hs _).setCell (p:=⟨g,2,none⟩) hs _).setCell (p:=⟨g,3,none⟩) hs _).setCell (p:=⟨g,4,none⟩) hs _).setCell (p:=⟨g,5,none⟩) hs _).setCell (p:=⟨g,6,none⟩) hs _
 ·have h0 : Blk w g t #[.int .i64 s0.t,.int .i64 s0.p0,.int .i64 s0.p1,.int .i64 s0.p2,.int .i64 s0.v0,.int .i64 s0.v1,.int .i64 s0.v2]:=hb
  have h1 : Blk _ g t #[.int .i64 s.t,.int .i64 s0.p0,.int .i64 s0.p1,.int .i64 s0.p2,.int .i64 s0.v0,.int .i64 s0.v1,.int .i64 s0.v2]:=h0.set_ 0 (.int .i64 s.t);have h2 : Blk _ g t #[.int .i64 s.t,.int .i64 s.p0,.int .i64 s0.p1,.int .i64 s0.p2,.int .i64 s0.v0,.int .i64 s0.v1,.int .i64 s0.v2]:=h1.set_ 1 (.int .i64 s.p0);have h3 : Blk _ g t #[.int .i64 s.t,.int .i64 s.p0,.int .i64 s.p1,.int .i64 s0.p2,.int .i64 s0.v0,.int .i64 s0.v1,.int .i64 s0.v2]:=h2.set_ 2 (.int .i64 s.p1);have h4 : Blk _ g t #[.int .i64 s.t,.int .i64 s.p0,.int .i64 s.p1,.int .i64 s.p2,.int .i64 s0.v0,.int .i64 s0.v1,.int .i64 s0.v2]:=h3.set_ 3 (.int .i64 s.p2);have h5 : Blk _ g t #[.int .i64 s.t,.int .i64 s.p0,.int .i64 s.p1,.int .i64 s.p2,.int .i64 s.v0,.int .i64 s0.v1,.int .i64 s0.v2]:=h4.set_ 4 (.int .i64 s.v0);have h6 : Blk _ g t #[.int .i64 s.t,.int .i64 s.p0,.int .i64 s.p1,.int .i64 s.p2,.int .i64 s.v0,.int .i64 s.v1,.int .i64 s0.v2]:=h5.set_ 5 (.int .i64 s.v1);have h7 : Blk _ g t #[.int .i64 s.t,.int .i64 s.p0,.int .i64 s.p1,.int .i64 s.p2,.int .i64 s.v0,.int .i64 s.v1,.int .i64 s.v2]:=h6.set_ 6 (.int .i64 s.v2);exact h7
theorem set_one {t : TypeId} {B : Nat} {w0 w : World} {g k : Nat} {cs : Array Value} (v : Value) (hB : Below B w0 w) (hs : B <= g) (hb : Blk w g t cs) (hl : NoLimb cs) :
    ∃ W,w.setCell ⟨g,k,none⟩ v = W /\ Below B w0 W /\ Blk W g t (cs.setIfInBounds k v) /\ Zop w W g:=
 ⟨_,rfl,hB.setCell (p:=⟨g,k,none⟩) hs _,hb.set_ k v,fun na A' n' c' z hW=>⟨hW.1,hW.2.1,hW.2.2.set_box hb hl _ _⟩,fun g' t' cs' hg h=>h.far hg _,by simp⟩
theorem Blk.frozen7 {t : TypeId} {w : World} {g : Nat} {s : St} (hb : Blk w g t s.cells) : w.frozen? ⟨g,0,none⟩ = false /\ w.frozen? ⟨g,1,none⟩ = false /\ w.frozen? ⟨g,2,none⟩ = false /\ w.frozen? ⟨g,3,none⟩ = false /\ w.frozen? ⟨g,4,none⟩ = false /\ w.frozen? ⟨g,5,none⟩ = false /\ w.frozen? ⟨g,6,none⟩ = false:=
 ⟨hb.frozen 0,hb.frozen 1,hb.frozen 2,hb.frozen 3,hb.frozen 4,hb.frozen 5,hb.frozen 6⟩
def Zbk (dir : List Rat) (d : Int) (i : Nat) : Int:=Zc9 ((dir[i]?.getD 0) * (d : Rat))
def Zb5 (z : Int) : Prop:=-1152921504606846976 <= z /\ z <= 1152921504606846976
def movB (s : St) (dir : List Rat) (d : Int) : Prop:=(∀ i,i < 6 -> Zb5 (Zbk dir d i)) /\ stE (mvS s (Zbk dir d) 6) = 0
open Classical in
noncomputable def movE (s : St) (dir : List Rat) (d : Int) : Int:=if movB s dir d then 0 else 24
def St.zero : St:=⟨0,0,0,0,0,0,0⟩
open Classical in
noncomputable def movV (s : St) (dir : List Rat) (d : Int) : St:=if movB s dir d then mvS s (Zbk dir d) 6 else St.zero
theorem Zrh {s : St} {dir : List Rat} {d : Int} {i : Nat} (hi : i < 6) (h : ¬ Zb5 (Zbk dir d i)) : movE s dir d = 24 /\ movV s dir d = St.zero:=by
 have hb : ¬ movB s dir d:=fun hb=>h (hb.1 i hi)
 exact ⟨if_neg hb,if_neg hb⟩
theorem Zqt {s : St} {dir : List Rat} {d : Int} (h : stE (mvS s (Zbk dir d) 6) ≠ 0) : movE s dir d = 24 /\ movV s dir d = St.zero:=by
 have hb : ¬ movB s dir d:=fun hb=>h hb.2
 exact ⟨if_neg hb,if_neg hb⟩
theorem Zk4 {s : St} {dir : List Rat} {d : Int} (h : ∀ i,i < 6 -> Zb5 (Zbk dir d i)) (h2 : stE (mvS s (Zbk dir d) 6) = 0) : movE s dir d = 0 /\ movV s dir d = mvS s (Zbk dir d) 6:=
 ⟨if_pos ⟨h,h2⟩,if_pos ⟨h,h2⟩⟩
theorem Zo9 (i g : Nat) (hi : i < 6) (w : World) :
    Calls Tryz.prog 139 #[.int .i64 i,.pointer (some ⟨g,0,none⟩)] w fun e w'=>e = .returned (.pointer (some ⟨g,i + 1,none⟩)) /\ w' = w:=by
 rcases (show i = 0 \/ i = 1 \/ i = 2 \/ i = 3 \/ i = 4 \/ i = 5 by omega) with rfl | rfl | rfl | rfl | rfl | rfl
 all_goals
  go_enter Tryz.func139,Tryz.ntmps139;go_wp2_with fail;go_ret;exact ⟨rfl,rfl⟩
theorem Zjw (A : Option Addr) (n c s : Nat) (l : List Nat) (w : World) (h : Lim w A n c l) (hs : s < 32) (hn9 : n <= 1000000) :
    Calls Tryz.prog 156 #[.slice A n c,.int .u64 s] w (fun e w'=>∃ v o,e = .returned v /\ OwnL 154 w' w.heap.size v o /\ o.length = n + 1 /\ val o = 2 ^ s * val l /\ Below w.heap.size w w'):=by
 obtain ⟨i0,hi,hz0,hz1,hz2⟩:=info_parts Zbq;have hnc:=h.2.1;have hcm:=h.2.2.1;unfold maxLen at hcm;go_enter Tryz.func156,Tryz.ntmps156;go_wp2_with fail
 go_loopw [7,6,5] (fun iv cv ov wr=>∃ i cy : Nat,i <= n /\ iv = .int .i64 i /\ cv = .int .u64 cy /\ LeftP w s l i cy ov wr) (fun iv _ _ _=>n - (intOf iv).toNat)
 case atStart=>exact ⟨0,0,Nat.zero_le _,rfl,rfl,[],OwnL.nil _ _ _,rfl,Nat.pow_pos (by omega),by simp [val],Below.refl _ _⟩
 case round =>
  obtain ⟨i,cy,hin,rfl,rfl,o,hown,hol,hcy,hI,hB⟩:=hrel;replace hol:=Zb hol;replace hI:=Zb hI
  by_cases hi' : i < n
  ·obtain ⟨b,of,rfl,hcell⟩:=(h.below hB).at_ hi'
   have hx:=h.lt.get i;obtain ⟨p,hp⟩ : ∃ p,2 ^ s = p:=⟨_,rfl⟩
   have hpb : p <= 2147483648:=by rw [<- hp];exact Nat.pow_le_pow_right (by omega) (show s <= 31 by omega)
   have hxb : p * l[i]?.getD 0 <= 2147483648 * 4294967295:=Nat.mul_le_mul hpb (by omega)
   have hor : IntKind.u64.wrap ((cy : Int) + IntKind.u64.wrap (((l[i]?.getD 0 : Nat) : Int) * 2 ^ s)) = ((cy + p * l[i]?.getD 0 : Nat) : Int):=by
    have e1 : (((l[i]?.getD 0 : Nat) : Int) * 2 ^ s) = ((p * l[i]?.getD 0 : Nat) : Int):=by rw [<- hp];push_cast;rw [Int.mul_comm]
    rw [hp] at hcy;rw [e1,IntKind.wrap_u64,IntKind.wrap_u64];omega
   rw [hp] at hcy;replace hp:=Zb hp;have hs0 : Hid (val (l.take (i + 1)) = val (l.take i) + pw i * l[i]?.getD 0):=Zw l i;obtain ⟨x,hxe⟩ : ∃ x,l[i]?.getD 0 = x:=⟨_,rfl⟩;rw [hxe] at hcell hx hxb hor hs0;replace hxe:=Zb hxe;obtain ⟨t,ht⟩ : ∃ t,cy + p * x = t:=⟨_,rfl⟩
   have htb : t / 4294967296 < p:=by
    rw [Nat.div_lt_iff_lt_mul (by omega),<- ht]
    have : p * x + p <= p * 4294967296:=by rw [<- Nat.mul_succ];exact Nat.mul_le_mul_left _ (by omega)
    omega
   have htb2 : t < 18446744073709551616:=by omega
   rw [ht] at hor;replace ht:=Zb ht;go_wp2_with (go_loud (at_builtin;refine Zm _ rfl (.tmp 23) (.tmp 26) 25 rfl w.heap.size 154 i0 _ 1 4 Tryz.underlying25 hi hz0 hz1 hz2 rfl (by omega) _ i (o.map limb) rfl (by have:=hol.out;subst this;exact hown.1.alloc _) _ _ 1 1 _ rfl (Zaj _ _ _) (by simp [Value.oneCell']) (by simp only [maxLen];omega) (by omega) (by have:=hB.size;simp;omega) ?_;intro v1 w1 hown1 hg1 hat1));have hown2 : OwnL 154 w1 w.heap.size v1 (o ++ [t % 4294967296]):=OwnL.snoc (s:=t % 4294967296) hol.out.symm hown1 hown.2 (by omega) (Nat.mod_lt _ (by decide));have hB1:=(hB.alloc hB.size _).grown hg1 (by have:=hB.size;simp;omega) hown.row_ge
   go_roundw
   case rel =>
    refine ⟨i + 1,t / 4294967296,by omega,by go_num,by go_num,_,hown2,by rw [List.length_append,hol.out];rfl,by rw [hp.out];exact htb,?_,hB1⟩;rw [Zci,hol.out,hs0.out,hp.out,Nat.mul_add,Zaf];have h1:=hI.out;rw [hp.out] at h1
    have h2 : pw i * (t % 4294967296) + 4294967296 * pw i * (t / 4294967296) = pw i * t:=by
     rw [Nat.mul_comm 4294967296 (pw i),Nat.mul_assoc,<- Nat.mul_add,Nat.mod_add_div]
    have h3 : p * (pw i * x) = pw i * (p * x):=by rw [Nat.mul_left_comm]
    rw [h3,<- h1,Nat.add_assoc,h2,<- ht.out,Nat.mul_add];omega
   case measure=>simp [intOf];omega
  ·obtain rfl : i = n:=by omega
   have hlen:=Zb h.len;have hcy2 : cy < 4294967296:=Nat.lt_of_lt_of_le hcy (show 2 ^ s <= 4294967296 from Nat.le_trans (Nat.pow_le_pow_right (by decide) (show s <= 32 by omega)) (by decide))
   have hcm : ((cy : Int)) % 4294967296 = (cy : Int):=by omega
   clear h;go_wp2_with (go_loud (at_builtin;refine Zm _ rfl (.tmp 30) (.tmp 33) 25 rfl w.heap.size 154 i0 _ 1 4 Tryz.underlying25 hi hz0 hz1 hz2 rfl (by omega) _ i (o.map limb) rfl (by have:=hol.out;subst this;exact hown.1.alloc _) _ _ 1 1 _ rfl (Zaj _ _ _) (by simp [Value.oneCell']) (by simp only [maxLen];omega) (by omega) (by have:=hB.size;simp;omega) ?_;intro v1 w1 hown1 hg1 hat1));have hown2 : OwnL 154 w1 w.heap.size v1 (o ++ [cy]):=OwnL.snoc (s:=cy) hol.out.symm hown1 hown.2 (by omega) hcy2;have hB1:=(hB.alloc hB.size _).grown hg1 (by have:=hB.size;simp;omega) hown.row_ge;go_ret;refine ⟨v1,_,rfl,hown2,by rw [List.length_append,hol.out];rfl,?_,hB1⟩;rw [Zci,hol.out,hI.out,Zx (by rw [hlen.out];exact Nat.le_refl _)]
def RShortR (w : World) (g n D : Nat) (l : List Nat) (k r : Nat) (wr : World) : Prop:=
 ∃ o : List Nat,Blk wr g 154 (Zo o) /\ o.length = n /\ Lt32 o /\ r < D /\ val (o.drop k) * D + r = val (l.drop k) /\ Below w.heap.size w wr
theorem Znh (A : Option Addr) (n c d : Nat) (l : List Nat) (w : World) (hl : Lim w A n c l) (hd0 : 0 < d) (hd : d < 4294967296) (hn9 : n <= 1000000) :
    Calls Tryz.prog 157 #[.slice A n c,limb d] w (Zkn w (val l) d):=by
 obtain ⟨i0,hi,hz0,hz1,hz2⟩:=info_parts Zbq;have hmk:=Zdz (P:=Tryz.prog) 25 154 Tryz.underlying25 hi hz0 hz1 hz2 (n : Int) n rfl (by omega);have hnc:=hl.2.1;have hcm:=hl.2.2.1;unfold maxLen at hcm;have hlen:=Zb hl.len
 have hdz : ((d : Int) == 0) = false:=by simp;omega
 have hdz' : (d : Int) ≠ 0:=by omega
 go_enter Tryz.func157,Tryz.ntmps157;go_wp2_with fail
 go_loopw [8,7] (fun iv rv wr=>∃ k r : Nat,k <= n /\ iv = .int .i64 ((k : Int) - 1) /\ rv = .int .u64 r /\ RShortR w w.heap.size n d l k r wr) (fun iv _ _=>(intOf iv + 1).toNat)
 case atStart=>exact ⟨n,0,Nat.le_refl _,rfl,rfl,List.replicate n 0,Blk.new _ _ _,by simp,Lt32.replicate _,hd0,by rw [List.drop_of_length_le (by simp),List.drop_of_length_le (by rw [hlen.out];exact Nat.le_refl _)];simp [val],(Below.refl _ _).alloc (Nat.le_refl _) _⟩
 case round =>
  obtain ⟨k,r,hk,rfl,rfl,o,hblk,hol,hot,hr,hI,hB⟩:=hrel;replace hol:=Zb hol;replace hI:=Zb hI
  rcases k with _ | k
  ·have hI2:=hI.out
   rw [List.drop_zero,List.drop_zero] at hI2;obtain ⟨e1,e2⟩:=Zkl (U:=val l) (V:=d) (q:=val o) (R:=r) (by omega) hr;have hLo:=Lim.of_blk hblk hot (by rw [hol.out];unfold maxLen;omega);rw [hol.out] at hLo
   have hr32 : r < 4294967296:=by omega
   have hrm : ((r : Int)) % 4294967296 = (r : Int):=by omega
   replace e1:=Zb e1;replace e2:=Zb e2;clear hI2;go_wp2_with fail;refine (Zb9 _ _ _ _ _ hLo (by omega)).mono ?_;rintro e w2 ⟨A2,n2,c2,l2,rfl,hL2,rfl,hb2⟩
   have hLr : ∀ t,Lim (w2.alloc (.cells #[limb r] t)) (some ⟨w2.heap.size,0,none⟩) 1 1 [r]:=fun t=>by
    have:=Lim.of_blk (l:=[r]) (Blk.new w2 t (Zo [r])) (Lt32.cons hr32 Lt32.nil) (by simp [maxLen]);exact this
   replace hLr:=Zb hLr;go_wp2_with fail;refine (Zb9 _ _ _ _ _ (hLr.out _) (by omega)).mono ?_;rintro e w3 ⟨A3,n3,c3,l3,rfl,hL3,hl3,hb3⟩;have hb3' : Below w2.heap.size w2 w3:=((Below.refl w2.heap.size w2).alloc (Nat.le_refl _) _).trans (hb3.mono (by simp));replace hl3:=Zb hl3;go_wp2_with fail
   go_ret2
   refine ⟨_,_,_,_,_,_,rfl,by rw [<- e1.out];exact hL2.below hb3',?_,(hB.trans (hb2.mono hB.size)).trans (hb3'.mono (Nat.le_trans hB.size hb2.size))⟩;have:=hl3.out;rw [show val [r] = r by simp [val]] at this;rw [<- e2.out,<- this];exact hL3
  ·obtain ⟨b,of,rfl,hcell⟩:=(hl.below hB).at_ (k:=k) (by omega)
   have hx:=hl.lt.get k;have hcg:=hblk.cell k;rw [Z0 o k (by rw [hol.out];omega)] at hcg;have hfg:=hblk.frozen k
   have hrb : r * 4294967296 + l[k]?.getD 0 < 18446744073709551616:=by omega
   go_wp2_with fail;obtain ⟨x,hxe⟩ : ∃ x,l[k]?.getD 0 = x:=⟨_,rfl⟩;rw [hxe] at hx hrb ⊢
   have e1 : ((r : Int) * 4294967296 + (x : Int)) / (d : Int) % 4294967296 = (((r * 4294967296 + x) / d : Nat) : Int):=by
    have : (r * 4294967296 + x) / d < 4294967296:=by
     rw [Nat.div_lt_iff_lt_mul hd0];have:=Nat.mul_le_mul_left 4294967296 (show r + 1 <= d by omega);omega
    rw [show ((r : Int) * 4294967296 + (x : Int)) / (d : Int) = (((r * 4294967296 + x) / d : Nat) : Int) by simp]
    generalize (r * 4294967296 + x) / d = z at *
    omega
   have e2 : ((r : Int) * 4294967296 + (x : Int)) % (d : Int) = (((r * 4294967296 + x) % d : Nat) : Int):=by simp
   have hq : (r * 4294967296 + x) / d < 4294967296:=by
    rw [Nat.div_lt_iff_lt_mul hd0];have:=Nat.mul_le_mul_left 4294967296 (show r + 1 <= d by omega);omega
   have hr' : (r * 4294967296 + x) % d < d:=Nat.mod_lt _ hd0
   have he : (r * 4294967296 + x) / d * d + (r * 4294967296 + x) % d = r * 4294967296 + x:=by rw [Nat.mul_comm];exact Nat.div_add_mod _ _
   rw [e1,e2]
   generalize (r * 4294967296 + x) / d = q at *
   generalize (r * 4294967296 + x) % d = r' at *
   refine ⟨⟨k,r',by omega,rfl,rfl,o.set k q,by rw [<- Zao];exact hblk.set_ _ _,by rw [List.length_set];exact hol.out,hot.set _ hq,hr',?_,hB.setCell (p:=⟨w.heap.size,k,none⟩) (Nat.le_refl _) _⟩,by simp [intOf] <;> omega⟩;exact Zje (by rw [hol.out];omega) (by rw [hlen.out];omega) hI.out (by rw [hxe];exact he)
end Go.Proofs.YtpehacgjclkhmaaGreat
