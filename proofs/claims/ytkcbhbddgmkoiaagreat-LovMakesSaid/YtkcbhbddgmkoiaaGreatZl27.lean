/- The reference's Round. Polynomials: lists of whole -/
import Derived.Test.YtkcbhbddgmkoiaaGreatZl23
set_option maxRecDepth 100000
set_option maxHeartbeats 4000000
set_option linter.unusedSimpArgs false
set_option linter.unusedVariables false
namespace Go.Proofs.YtkcbhbddgmkoiaaGreat
open Go.RowKit
attribute [local go_sem] Zg
theorem Zpb (na nb : Bool) (A B : Option Addr) (n c m d : Nat) (x : Rat) (w : World) (hx : Fr w na A n c nb B m d x) (hs : Sm x) :
    Calls Tryz.prog 94 #[.agg #[.bool na,.slice A n c,.bool nb,.slice B m d]] w (NumE w (Zft x)):=by
 obtain ⟨W0,hW0,hB0,⟨q0,q1⟩,s0⟩:=Zec w 64 #[.bool na,.slice A n c,.bool nb,.slice B m d] 62 #[.bool false,.slice none 0 0];have hX:=Za (hx.below hB0)
 have hmx : Tryz.prog.follows .mixedOrders = true:=by kernel_rfl
 have hbig2 : pw 1000 + pw 1000 + 2 < pw 4096:=by
  have h1:=Zej (a:=1001) (b:=4096) (by decide);have h2 : pw 1001 = 4294967296 * pw 1000:=Zah 1000;have h3:=Zdi 1000;omega
 have hrr : Hid ((((x.den : Nat) : Int) - Int.fmod x.num x.den).natAbs < pw 4096):=Za (by have h1:=Zoe (x:=x);have h2:=hs.2;omega);have hqq : Hid ((Int.fdiv x.num x.den + 1).natAbs < pw 4096):=Za (by have h1:=Zh5 (x:=x) hs.1;omega);clear hx hs hbig2;replace hW0:=Za hW0;obtain ⟨a0,a1,a2,a3,-⟩:=q0.four;have hq:=Za (And.intro q0 q1);clear q0 q1;go_enter Tryz.func94,Tryz.ntmps94;have hW0':=hW0.out;go_wp2_with fail;clear hW0 hW0';refine (Zir na nb A B n c m d x W0 hX.out).mono ?_;rintro e w1 ⟨rfl,hb1⟩;have hB1 : Below w.heap.size w w1:=hB0.trans (hb1.mono hB0.size);have s1 : W0.heap.size <= w1.heap.size:=hb1.size;replace hX:=Za (hX.out.below hb1);obtain ⟨q0,q1⟩:=hq.out;replace q0:=Zc hb1 q0;replace q1:=Zc hb1 q1;clear hq hb1 hB0 a0 a1 a2 a3;obtain ⟨a0,a1,a2,a3,-⟩:=q0.four;have hq:=Za (And.intro q0 q1);clear q0 q1;go_wp2_with fail;refine (Zda na nb A B n c m d x.num x.den w1 hX.out.1 hX.out.2 (by have:=x.den_pos;omega)).mono ?_;rintro e w2 ⟨hb2,nq,Aq,kq,cq,nr,Ar,kr,cr,rfl,hQ,hR⟩;have hB2 : Below w.heap.size w w2:=hB1.trans (hb2.mono hB1.size);have s2 : w1.heap.size <= w2.heap.size:=hb2.size;replace hX:=Za (hX.out.below hb2);obtain ⟨q0,q1⟩:=hq.out;replace q0:=((Zc hb2 q0).alloc (.cells #[.bool nq,.slice Aq kq cq] 62)).alloc (.cells #[.bool nr,.slice Ar kr cr] 62);replace q1:=((Zc hb2 q1).alloc (.cells #[.bool nq,.slice Aq kq cq] 62)).alloc (.cells #[.bool nr,.slice Ar kr cr] 62)
 have q4 : Blk ((w2.alloc (.cells #[.bool nq,.slice Aq kq cq] 62)).alloc (.cells #[.bool nr,.slice Ar kr cr] 62)) w2.heap.size 62 #[.bool nq,.slice Aq kq cq]:=(Blk.new w2 _ _).alloc _
 have q5 : Blk ((w2.alloc (.cells #[.bool nq,.slice Aq kq cq] 62)).alloc (.cells #[.bool nr,.slice Ar kr cr] 62)) (w2.heap.size + 1) 62 #[.bool nr,.slice Ar kr cr]:=by
  have:=Blk.new (w2.alloc (.cells #[.bool nq,.slice Aq kq cq] 62)) 62 #[.bool nr,.slice Ar kr cr];simp only [World.size_alloc] at this;exact this
 have hB3 : Below w.heap.size w ((w2.alloc (.cells #[.bool nq,.slice Aq kq cq] 62)).alloc (.cells #[.bool nr,.slice Ar kr cr] 62)):=(hB2.alloc hB2.size _).alloc (by have:=hB2.size;simp;omega) _;have hX3:=(hX.out.alloc (.cells #[.bool nq,.slice Aq kq cq] 62)).alloc (.cells #[.bool nr,.slice Ar kr cr] 62);have hQ3:=(hQ.alloc (.cells #[.bool nq,.slice Aq kq cq] 62)).alloc (.cells #[.bool nr,.slice Ar kr cr] 62);have hR3:=(hR.alloc (.cells #[.bool nq,.slice Aq kq cq] 62)).alloc (.cells #[.bool nr,.slice Ar kr cr] 62);obtain ⟨V,hV⟩ : ∃ V,((w2.alloc (.cells #[.bool nq,.slice Aq kq cq] 62)).alloc (.cells #[.bool nr,.slice Ar kr cr] 62)) = V:=⟨_,rfl⟩
 have sV : V.heap.size = w2.heap.size + 1 + 1:=by rw [<- hV];simp
 rw [hV] at q0 q1 q4 q5 hB3 hX3 hQ3 hR3;have hs2:=hB2.size;clear hq hb2 hB1 a0 a1 a2 a3 hQ hR hX;have hX:=Za hX3;have hQ:=Za hQ3;have hR:=Za hR3;obtain ⟨-,-,a2,a3,-⟩:=q0.four;obtain ⟨b0,b1,-⟩:=q5.two;have hq:=Za (And.intro q0 (And.intro q1 (And.intro q4 q5)));clear q0 q1 q4 q5 hX3 hQ3 hR3;replace hB3:=Za hB3;have hV':=Za hV;go_wp2_with fail;refine (Zn9 nb nr B Ar m d kr cr x.den _ V hX.out.2 hR.out).mono ?_;rintro e w3 ⟨hb3,np,P,k,q,code,rfl,hRes⟩;have hP:=hRes.small hrr.out;have hcode:=hRes.code0 hrr.out;subst hcode;obtain ⟨q0,q1,q4,q5⟩:=hq.out;have s3:=hb3.size;replace q1:=(Zc hb3 q1).alloc (.cells #[.bool np,.slice P k q] 62);replace q4:=(Zc hb3 q4).alloc (.cells #[.bool np,.slice P k q] 62);replace q5:=(Zc hb3 q5).alloc (.cells #[.bool np,.slice P k q] 62);have q7 : Blk (w3.alloc (.cells #[.bool np,.slice P k q] 62)) w3.heap.size 62 #[.bool np,.slice P k q]:=Blk.new _ _ _;have hB4:=((hB3.out.trans (hb3.mono hB3.out.size)).alloc (by have:=hB3.out.size;omega) (.cells #[.bool np,.slice P k q] 62));have hP4:=hP.alloc (.cells #[.bool np,.slice P k q] 62);have hQ4:=(hQ.out.below hb3).alloc (.cells #[.bool np,.slice P k q] 62);have hR4:=(hR.out.below hb3).alloc (.cells #[.bool np,.slice P k q] 62);obtain ⟨V4,hV4⟩ : ∃ V,w3.alloc (.cells #[.bool np,.slice P k q] 62) = V:=⟨_,rfl⟩
 have s4 : V4.heap.size = w3.heap.size + 1:=by rw [<- hV4];simp
 rw [hV4] at q1 q4 q5 q7 hB4 hP4 hQ4 hR4;have hsw:=hB3.out.size;clear hq hB3 hX hQ hR hb3 hRes hP hV hV' a2 a3 b0 b1 q0 hrr;have hQ:=Za hQ4;obtain ⟨b0,b1,-⟩:=q5.two;obtain ⟨d0,d1,-⟩:=q7.two;have hq:=Za (And.intro q1 q4);clear q1 q4 q5 q7 hQ4;replace hB4:=Za hB4;go_wp2_with fail;refine (Zks nr np Ar P kr cr k q _ _ V4 hR4 hP4).mono ?_;rintro e w4 ⟨rfl,hb4⟩;replace hQ:=Za (hQ.out.below hb4);obtain ⟨q1,q4⟩:=hq.out;replace q1:=Zc hb4 q1;replace q4:=Zc hb4 q4;have s5:=hb4.size;have hB5:=Za (hB4.out.trans (hb4.mono hB4.out.size));clear hq hB4 hb4 hR4 hP4 hV4 b0 b1 d0 d1;obtain ⟨c0,c1,-⟩:=q4.two;have hq:=Za (And.intro q1 q4);clear q1 q4;obtain ⟨cc,hcc⟩ : ∃ cc,Zbc (Int.fmod x.num x.den) (((x.den : Nat) : Int) - Int.fmod x.num x.den) = cc:=⟨_,rfl⟩;rw [hcc]
 have hc1 : (x.den : Int) < Int.fmod x.num x.den + Int.fmod x.num x.den -> cc = 1:=fun h=>by rw [<- hcc];unfold Zbc;rw [if_neg (by omega),if_pos (by omega)]
 have hc2 : (x.den : Int) = Int.fmod x.num x.den + Int.fmod x.num x.den -> cc = 0:=fun h=>by rw [<- hcc];unfold Zbc;rw [if_neg (by omega),if_neg (by omega)]
 have hc3 : Int.fmod x.num x.den + Int.fmod x.num x.den < (x.den : Int) -> cc = -1:=fun h=>by rw [<- hcc];unfold Zbc;rw [if_pos (by omega)]
 clear hcc;replace hc1:=Za hc1;replace hc2:=Za hc2;replace hc3:=Za hc3;have hk0:=Za hQ.out.lim.len;have hkm:=hQ.out.2.1
 rcases Int.lt_trichotomy (x.den : Int) (Int.fmod x.num x.den + Int.fmod x.num x.den) with hlt | heq | hgt
 case inl =>
  have hz:=Za (Zfc (x:=x) (.inl hlt));have hc:=hc1.out hlt;subst hc;have hc:=hlt;clear hlt hc1 hc2 hc3
  by_cases hk : kq = 0
  case pos =>
   have bk : decide ((0 : Int) < (kq : Int)) = false:=decide_eq_false (by omega);have bkn : decide (0 < kq) = false:=decide_eq_false (by omega);replace hk:=Za hk;replace hc:=Za hc;go_wp2_with fail;have hSv : Hid (∀ wx,Below w4.heap.size w4 wx -> wx.cell? ⟨w2.heap.size,0,none⟩ = some (.bool nq) /\ wx.cell? ⟨w2.heap.size,1,none⟩ = some (.slice Aq kq cq)):=Za (fun wx hbx=>⟨Zb hbx c0,Zb hbx c1⟩);have hr : Below w4.heap.size w4 w4.drew:=Zi (Below.refl _ _) 1;clear c0 c1;refine wp_heldS [] hmx hSv hr (fun hxs=>?_);refine Zre 1 [0] rfl (by kernel_rfl) (hSv.out _ hr) ?_
   (refine tk1 (v:=?_) rfl (Or.inl ⟨by kernel_rfl,?_⟩) ?_;rotate_left;(· intro W2 hSw;(try dsimp only at hSw);go_simp;try with_reducible rfl);try simp only [Act.put,putL_a,putL_z,putL_s,putG_a,putG_s,putG_z])
   refine tk0 ?_;refine Ze (i:=1) rfl (by kernel_rfl) (fun K hK=>?_);go_simp;refine (Zce 1 w4.drew (by omega) (by omega)).mono ?_;rintro e w11 ⟨hb11,n1,A1,k1,c1,rfl,hO⟩;have hr11:=hr.trans (hb11.mono hr.size);replace hO:=Za hO;refine hK.out _ _ (fun _=>hSv.out _ hr11) ?_;clear hK K
   try simp only [Act.put,putL_a,putL_z,putL_s]
   refine Ze (i:=2) rfl (by kernel_rfl) (fun K hK=>?_);go_simp;refine (Zhh nq n1 Aq A1 kq cq k1 c1 _ _ w11 (hQ.out.below hr11) hO.out).mono ?_;rintro e w12 ⟨hb12,np2,P2,k2,q2,code2,rfl,hRes⟩;have hr12:=hr11.trans (hb12.mono hr11.size);have hP:=Za (hRes.small hqq.out);have hcode:=hRes.code0 hqq.out;subst hcode;clear hRes hqq hO;obtain ⟨q1,q4⟩:=hq.out;replace q1:=Zc hr12 q1;replace q4:=Zc hr12 q4;have hB12:=hB5.out.trans (hr12.mono hB5.out.size);obtain ⟨x0,x1,f0,f1⟩:=q1.two;refine hK.out _ _ (fun _=>hSv.out _ hr12) ?_;clear hK K
   try simp only [Act.put,putL_a,putL_z,putL_s]
   refine Zre 2 [3,4] rfl (by kernel_rfl) (hSv.out _ hr12) ?_
   iterate 2 (refine tk1 (v:=?_) rfl (Or.inl ⟨by kernel_rfl,?_⟩) ?_;rotate_left;(· intro W2 hSw;(try dsimp only at hSw);go_simp;try with_reducible rfl);try simp only [Act.put,putL_a,putL_z,putL_s,putG_a,putG_s,putG_z])
   refine tk0 ?_;refine Ze (i:=5) rfl (by kernel_rfl) (fun K hK=>?_);go_simp;obtain ⟨Wa,hWa,hBa,qa,kW,kB,sa⟩:=Zag np2 P2 k2 q2 hB12 (by omega) q1;rw [hWa];clear hWa x0 x1 f0 f1;have HZ:=kW _ _ _ _ _ hP.out;replace q4:=kB _ _ _ (by have:=hr12.size;omega) q4;obtain ⟨c0,c1,-⟩:=q4.two;refine hK.out _ _ (fun _=>⟨c0,c1⟩) ?_;clear hK K
   try simp only [Act.put,putL_a,putL_z,putL_s]
   refine Zre 1 [6] rfl (by kernel_rfl) ⟨c0,c1⟩ ?_
   (refine tk1 (v:=?_) rfl (Or.inl ⟨by kernel_rfl,?_⟩) ?_;rotate_left;(· intro W2 hSw;(try dsimp only at hSw);go_simp;try with_reducible rfl);try simp only [Act.put,putL_a,putL_z,putL_s,putG_a,putG_s,putG_z])
   refine tk0 ?_;refine Zk (by kernel_rfl) ?_ _;refine OnlyNormal.normal ?_;obtain ⟨y0,y1,-⟩:=qa.two;clear c0 c1;go_wp2_with fail;refine bodyPost_ret (v:=.tuple #[.agg #[.bool np2,.slice P2 k2 q2],.int .i64 0]) (by simp [results,Tryz.results94,go_sem,y0,y1]) rfl ?_;exact ⟨hBa,_,_,_,_,rfl,by rw [hz.out];exact HZ⟩
  case neg =>
   have bk : decide ((0 : Int) < (kq : Int)) = true:=decide_eq_true (by omega)
   have bk' : (0 : Int) < (kq : Int):=by omega
   have bkn : decide (0 < kq) = true:=decide_eq_true (by omega);obtain ⟨gq,oq,rfl,hcell⟩:=hQ.out.lim.at_ (k:=0) (by omega);have hc9 : w4.cell? ⟨gq,oq,none⟩ = some (.int .u32 (((digits (Int.fdiv x.num x.den).natAbs)[0]?.getD 0 : Nat) : Int)):=hcell;clear hcell;obtain ⟨u,hu⟩ : ∃ u,(digits (Int.fdiv x.num x.den).natAbs)[0]?.getD 0 = u:=⟨_,rfl⟩;have hou:=Zgi (u:=(Int.fdiv x.num x.den).natAbs)
   have hu32 : u < 4294967296:=by rw [<- hu];exact (Zcg _).get _
   rw [hu] at hc9 hou;replace hou:=Za hou;clear hu;replace hc:=Za hc;go_wp2_with fail;have hSv : Hid (∀ wx,Below w4.heap.size w4 wx -> wx.cell? ⟨w2.heap.size,0,none⟩ = some (.bool nq) /\ wx.cell? ⟨w2.heap.size,1,none⟩ = some (.slice (some ⟨gq,oq,none⟩) kq cq)):=Za (fun wx hbx=>⟨Zb hbx c0,Zb hbx c1⟩);have hr : Below w4.heap.size w4 w4.drew:=Zi (Below.refl _ _) 1;clear c0 c1;refine wp_heldS [] hmx hSv hr (fun hxs=>?_);refine Zre 1 [0] rfl (by kernel_rfl) (hSv.out _ hr) ?_
   (refine tk1 (v:=?_) rfl (Or.inl ⟨by kernel_rfl,?_⟩) ?_;rotate_left;(· intro W2 hSw;(try dsimp only at hSw);go_simp;try with_reducible rfl);try simp only [Act.put,putL_a,putL_z,putL_s,putG_a,putG_s,putG_z])
   refine tk0 ?_;refine Ze (i:=1) rfl (by kernel_rfl) (fun K hK=>?_);go_simp;refine (Zce 1 w4.drew (by omega) (by omega)).mono ?_;rintro e w11 ⟨hb11,n1,A1,k1,c1,rfl,hO⟩;have hr11:=hr.trans (hb11.mono hr.size);replace hO:=Za hO;refine hK.out _ _ (fun _=>hSv.out _ hr11) ?_;clear hK K
   try simp only [Act.put,putL_a,putL_z,putL_s]
   refine Ze (i:=2) rfl (by kernel_rfl) (fun K hK=>?_);go_simp;refine (Zhh nq n1 (some ⟨gq,oq,none⟩) A1 kq cq k1 c1 _ _ w11 (hQ.out.below hr11) hO.out).mono ?_;rintro e w12 ⟨hb12,np2,P2,k2,q2,code2,rfl,hRes⟩;have hr12:=hr11.trans (hb12.mono hr11.size);have hP:=Za (hRes.small hqq.out);have hcode:=hRes.code0 hqq.out;subst hcode;clear hRes hqq hO;obtain ⟨q1,q4⟩:=hq.out;replace q1:=Zc hr12 q1;replace q4:=Zc hr12 q4;have hB12:=hB5.out.trans (hr12.mono hB5.out.size);obtain ⟨x0,x1,f0,f1⟩:=q1.two;refine hK.out _ _ (fun _=>hSv.out _ hr12) ?_;clear hK K
   try simp only [Act.put,putL_a,putL_z,putL_s]
   refine Zre 2 [3,4] rfl (by kernel_rfl) (hSv.out _ hr12) ?_
   iterate 2 (refine tk1 (v:=?_) rfl (Or.inl ⟨by kernel_rfl,?_⟩) ?_;rotate_left;(· intro W2 hSw;(try dsimp only at hSw);go_simp;try with_reducible rfl);try simp only [Act.put,putL_a,putL_z,putL_s,putG_a,putG_s,putG_z])
   refine tk0 ?_;refine Ze (i:=5) rfl (by kernel_rfl) (fun K hK=>?_);go_simp;obtain ⟨Wa,hWa,hBa,qa,kW,kB,sa⟩:=Zag np2 P2 k2 q2 hB12 (by omega) q1;rw [hWa];clear hWa x0 x1 f0 f1;have HZ:=kW _ _ _ _ _ hP.out;replace q4:=kB _ _ _ (by have:=hr12.size;omega) q4;obtain ⟨c0,c1,-⟩:=q4.two;refine hK.out _ _ (fun _=>⟨c0,c1⟩) ?_;clear hK K
   try simp only [Act.put,putL_a,putL_z,putL_s]
   refine Zre 1 [6] rfl (by kernel_rfl) ⟨c0,c1⟩ ?_
   (refine tk1 (v:=?_) rfl (Or.inl ⟨by kernel_rfl,?_⟩) ?_;rotate_left;(· intro W2 hSw;(try dsimp only at hSw);go_simp;try with_reducible rfl);try simp only [Act.put,putL_a,putL_z,putL_s,putG_a,putG_s,putG_z])
   refine tk0 ?_;refine Zk (by kernel_rfl) ?_ _;refine OnlyNormal.normal ?_;obtain ⟨y0,y1,-⟩:=qa.two;clear c0 c1;go_wp2_with fail;refine bodyPost_ret (v:=.tuple #[.agg #[.bool np2,.slice P2 k2 q2],.int .i64 0]) (by simp [results,Tryz.results94,go_sem,y0,y1]) rfl ?_;exact ⟨hBa,_,_,_,_,rfl,by rw [hz.out];exact HZ⟩
 case inr.inr =>
  have hz:=Za (Zcf (x:=x) (by omega));have hc:=hc3.out hgt;subst hc;have hc:=hgt;clear hgt hc1 hc2 hc3
  by_cases hk : kq = 0
  case pos =>
   have bk : decide ((0 : Int) < (kq : Int)) = false:=decide_eq_false (by omega);have bkn : decide (0 < kq) = false:=decide_eq_false (by omega);replace hk:=Za hk;obtain ⟨q1,q4⟩:=hq.out;obtain ⟨x0,x1,f0,f1⟩:=q1.two;clear hq;replace q1:=Za q1;replace q4:=Za q4;replace hc:=Za hc;go_wp2_with fail;obtain ⟨Wa,hWa,hBa,qa,kW,kB,sa⟩:=Zag nq Aq kq cq hB5.out (by omega) q1.out;have HZ:=kW _ _ _ _ _ hQ.out;rw [hWa];obtain ⟨y0,y1,-⟩:=qa.two;refine bodyPost_ret (v:=.tuple #[.agg #[.bool nq,.slice Aq kq cq],.int .i64 0]) (by simp [results,Tryz.results94,go_sem,y0,y1]) rfl ?_;exact ⟨hBa,_,_,_,_,rfl,by rw [hz.out];exact HZ⟩
  case neg =>
   have bk : decide ((0 : Int) < (kq : Int)) = true:=decide_eq_true (by omega)
   have bk' : (0 : Int) < (kq : Int):=by omega
   have bkn : decide (0 < kq) = true:=decide_eq_true (by omega);obtain ⟨gq,oq,rfl,hcell⟩:=hQ.out.lim.at_ (k:=0) (by omega);have hc9 : w4.cell? ⟨gq,oq,none⟩ = some (.int .u32 (((digits (Int.fdiv x.num x.den).natAbs)[0]?.getD 0 : Nat) : Int)):=hcell;clear hcell;obtain ⟨u,hu⟩ : ∃ u,(digits (Int.fdiv x.num x.den).natAbs)[0]?.getD 0 = u:=⟨_,rfl⟩;have hou:=Zgi (u:=(Int.fdiv x.num x.den).natAbs)
   have hu32 : u < 4294967296:=by rw [<- hu];exact (Zcg _).get _
   rw [hu] at hc9 hou;replace hou:=Za hou;clear hu;obtain ⟨q1,q4⟩:=hq.out;obtain ⟨x0,x1,f0,f1⟩:=q1.two;clear hq;replace q1:=Za q1;replace q4:=Za q4;replace hc:=Za hc;go_wp2_with fail;obtain ⟨Wa,hWa,hBa,qa,kW,kB,sa⟩:=Zag nq (some ⟨gq,oq,none⟩) kq cq hB5.out (by omega) q1.out;have HZ:=kW _ _ _ _ _ hQ.out;rw [hWa];obtain ⟨y0,y1,-⟩:=qa.two;refine bodyPost_ret (v:=.tuple #[.agg #[.bool nq,.slice (some ⟨gq,oq,none⟩) kq cq],.int .i64 0]) (by simp [results,Tryz.results94,go_sem,y0,y1]) rfl ?_;exact ⟨hBa,_,_,_,_,rfl,by rw [hz.out];exact HZ⟩
 case inr.inl =>
  have hc:=hc2.out heq;subst hc;have hc:=heq;clear hc1 hc2 hc3
  by_cases hk : kq = 0
  case pos =>
   have bk : decide ((0 : Int) < (kq : Int)) = false:=decide_eq_false (by omega);have bkn : decide (0 < kq) = false:=decide_eq_false (by omega)
   have hq0 : Int.fdiv x.num x.den = 0:=by
    have:=digits_eq_nil.1 (List.length_eq_zero_iff.1 (hk0.out.trans hk));omega
   have hz:=Za (Zcf (x:=x) (by rw [hq0];omega));clear heq hq0;replace hk:=Za hk;obtain ⟨q1,q4⟩:=hq.out;obtain ⟨x0,x1,f0,f1⟩:=q1.two;clear hq;replace q1:=Za q1;replace q4:=Za q4;replace hc:=Za hc;go_wp2_with fail;obtain ⟨Wa,hWa,hBa,qa,kW,kB,sa⟩:=Zag nq Aq kq cq hB5.out (by omega) q1.out;have HZ:=kW _ _ _ _ _ hQ.out;rw [hWa];obtain ⟨y0,y1,-⟩:=qa.two;refine bodyPost_ret (v:=.tuple #[.agg #[.bool nq,.slice Aq kq cq],.int .i64 0]) (by simp [results,Tryz.results94,go_sem,y0,y1]) rfl ?_;exact ⟨hBa,_,_,_,_,rfl,by rw [hz.out];exact HZ⟩
  case neg =>
   have bk : decide ((0 : Int) < (kq : Int)) = true:=decide_eq_true (by omega)
   have bk' : (0 : Int) < (kq : Int):=by omega
   have bkn : decide (0 < kq) = true:=decide_eq_true (by omega);obtain ⟨gq,oq,rfl,hcell⟩:=hQ.out.lim.at_ (k:=0) (by omega);have hc9 : w4.cell? ⟨gq,oq,none⟩ = some (.int .u32 (((digits (Int.fdiv x.num x.den).natAbs)[0]?.getD 0 : Nat) : Int)):=hcell;clear hcell;obtain ⟨u,hu⟩ : ∃ u,(digits (Int.fdiv x.num x.den).natAbs)[0]?.getD 0 = u:=⟨_,rfl⟩;have hou:=Zgi (u:=(Int.fdiv x.num x.den).natAbs)
   have hu32 : u < 4294967296:=by rw [<- hu];exact (Zcg _).get _
   rw [hu] at hc9 hou;replace hou:=Za hou;clear hu
   by_cases hodd : u % 2 = 1
   case pos =>
    have ho1 : decide ((u : Int) % 2 = 1) = true:=decide_eq_true (by omega)
    have ho2 : ((u : Int) % 2 == 1) = true:=by simp;omega
    have hz:=Za (Zfc (x:=x) (.inr ⟨heq,by have:=hou.out;omega⟩));clear heq;replace hodd:=Za hodd;replace hc:=Za hc;go_wp2_with fail;have hSv : Hid (∀ wx,Below w4.heap.size w4 wx -> wx.cell? ⟨w2.heap.size,0,none⟩ = some (.bool nq) /\ wx.cell? ⟨w2.heap.size,1,none⟩ = some (.slice (some ⟨gq,oq,none⟩) kq cq)):=Za (fun wx hbx=>⟨Zb hbx c0,Zb hbx c1⟩);have hr : Below w4.heap.size w4 w4.drew:=Zi (Below.refl _ _) 1;clear c0 c1;refine wp_heldS [] hmx hSv hr (fun hxs=>?_);refine Zre 1 [0] rfl (by kernel_rfl) (hSv.out _ hr) ?_
    (refine tk1 (v:=?_) rfl (Or.inl ⟨by kernel_rfl,?_⟩) ?_;rotate_left;(· intro W2 hSw;(try dsimp only at hSw);go_simp;try with_reducible rfl);try simp only [Act.put,putL_a,putL_z,putL_s,putG_a,putG_s,putG_z])
    refine tk0 ?_;refine Ze (i:=1) rfl (by kernel_rfl) (fun K hK=>?_);go_simp;refine (Zce 1 w4.drew (by omega) (by omega)).mono ?_;rintro e w11 ⟨hb11,n1,A1,k1,c1,rfl,hO⟩;have hr11:=hr.trans (hb11.mono hr.size);replace hO:=Za hO;refine hK.out _ _ (fun _=>hSv.out _ hr11) ?_;clear hK K
    try simp only [Act.put,putL_a,putL_z,putL_s]
    refine Ze (i:=2) rfl (by kernel_rfl) (fun K hK=>?_);go_simp;refine (Zhh nq n1 (some ⟨gq,oq,none⟩) A1 kq cq k1 c1 _ _ w11 (hQ.out.below hr11) hO.out).mono ?_;rintro e w12 ⟨hb12,np2,P2,k2,q2,code2,rfl,hRes⟩;have hr12:=hr11.trans (hb12.mono hr11.size);have hP:=Za (hRes.small hqq.out);have hcode:=hRes.code0 hqq.out;subst hcode;clear hRes hqq hO;obtain ⟨q1,q4⟩:=hq.out;replace q1:=Zc hr12 q1;replace q4:=Zc hr12 q4;have hB12:=hB5.out.trans (hr12.mono hB5.out.size);obtain ⟨x0,x1,f0,f1⟩:=q1.two;refine hK.out _ _ (fun _=>hSv.out _ hr12) ?_;clear hK K
    try simp only [Act.put,putL_a,putL_z,putL_s]
    refine Zre 2 [3,4] rfl (by kernel_rfl) (hSv.out _ hr12) ?_
    iterate 2 (refine tk1 (v:=?_) rfl (Or.inl ⟨by kernel_rfl,?_⟩) ?_;rotate_left;(· intro W2 hSw;(try dsimp only at hSw);go_simp;try with_reducible rfl);try simp only [Act.put,putL_a,putL_z,putL_s,putG_a,putG_s,putG_z])
    refine tk0 ?_;refine Ze (i:=5) rfl (by kernel_rfl) (fun K hK=>?_);go_simp;obtain ⟨Wa,hWa,hBa,qa,kW,kB,sa⟩:=Zag np2 P2 k2 q2 hB12 (by omega) q1;rw [hWa];clear hWa x0 x1 f0 f1;have HZ:=kW _ _ _ _ _ hP.out;replace q4:=kB _ _ _ (by have:=hr12.size;omega) q4;obtain ⟨c0,c1,-⟩:=q4.two;refine hK.out _ _ (fun _=>⟨c0,c1⟩) ?_;clear hK K
    try simp only [Act.put,putL_a,putL_z,putL_s]
    refine Zre 1 [6] rfl (by kernel_rfl) ⟨c0,c1⟩ ?_
    (refine tk1 (v:=?_) rfl (Or.inl ⟨by kernel_rfl,?_⟩) ?_;rotate_left;(· intro W2 hSw;(try dsimp only at hSw);go_simp;try with_reducible rfl);try simp only [Act.put,putL_a,putL_z,putL_s,putG_a,putG_s,putG_z])
    refine tk0 ?_;refine Zk (by kernel_rfl) ?_ _;refine OnlyNormal.normal ?_;obtain ⟨y0,y1,-⟩:=qa.two;clear c0 c1;go_wp2_with fail;refine bodyPost_ret (v:=.tuple #[.agg #[.bool np2,.slice P2 k2 q2],.int .i64 0]) (by simp [results,Tryz.results94,go_sem,y0,y1]) rfl ?_;exact ⟨hBa,_,_,_,_,rfl,by rw [hz.out];exact HZ⟩
   case neg =>
    have ho1 : decide ((u : Int) % 2 = 1) = false:=decide_eq_false (by omega)
    have ho2 : ((u : Int) % 2 == 1) = false:=by simp;omega
    have hz:=Za (Zcf (x:=x) (by have:=hou.out;omega));clear heq;replace hodd:=Za hodd;obtain ⟨q1,q4⟩:=hq.out;obtain ⟨x0,x1,f0,f1⟩:=q1.two;clear hq;replace q1:=Za q1;replace q4:=Za q4;replace hc:=Za hc;go_wp2_with fail;obtain ⟨Wa,hWa,hBa,qa,kW,kB,sa⟩:=Zag nq (some ⟨gq,oq,none⟩) kq cq hB5.out (by omega) q1.out;have HZ:=kW _ _ _ _ _ hQ.out;rw [hWa];obtain ⟨y0,y1,-⟩:=qa.two;refine bodyPost_ret (v:=.tuple #[.agg #[.bool nq,.slice (some ⟨gq,oq,none⟩) kq cq],.int .i64 0]) (by simp [results,Tryz.results94,go_sem,y0,y1]) rfl ?_;exact ⟨hBa,_,_,_,_,rfl,by rw [hz.out];exact HZ⟩
section
variable {t : TypeId} {w w' : World} {g : Nat} {xs : List Int}
end
structure Kept (G : Nat -> Prop) (w w' : World) : Prop where
 os : w'.os = w.os
 tape : w'.tape = w.tape
 output : w'.output = w.output
 size : w.heap.size <= w'.heap.size
 block : ∀ k,k < w.heap.size -> ¬ G k -> w'.heap[k]? = w.heap[k]?
section
variable {G : Nat -> Prop} {w w' w'' : World}
theorem Kept.refl (G : Nat -> Prop) (w : World) : Kept G w w:=⟨rfl,rfl,rfl,Nat.le_refl _,fun _ _ _=>rfl⟩
theorem Kept.trans (h : Kept G w w') (k : Kept G w' w'') : Kept G w w'':=
 ⟨k.os.trans h.os,k.tape.trans h.tape,k.output.trans h.output,Nat.le_trans h.size k.size,fun i hi hg=>(k.block i (Nat.lt_of_lt_of_le hi h.size) hg).trans (h.block i hi hg)⟩
theorem Kept.of_below (h : Below w.heap.size w w') : Kept G w w':=⟨h.os,h.tape,h.output,h.size,fun k hk _=>h.block k hk⟩
theorem Kept.below (h : Kept G w w') (k : Below w'.heap.size w' w'') : Kept G w w'':=h.trans (Kept.of_below k)
theorem Kept.set_ (h : Kept G w w') {p : Addr} (hp : G p.block \/ w.heap.size <= p.block) (u : Value) : Kept G w (w'.setCell p u):=
 ⟨h.os,h.tape,h.output,by simp [World.setCell];exact h.size,fun k hk hg=>(Below.heap_setCell w' p u k (by rcases hp with hp | hp;exact fun e=>hg (e ▸ hp);omega)).trans (h.block k hk hg)⟩
theorem Kept.blk (h : Kept G w w') {g : Nat} {t : TypeId} {cs : Array Value} (hb : Blk w g t cs) (hg : ¬ G g) : Blk w' g t cs:=(h.block g hb.lt hg).trans hb
theorem Kept.to_below {B : Nat} (h : Kept G w w') (hG : ∀ k,G k -> B <= k) (hB : B <= w.heap.size) : Below B w w':=
 ⟨h.os,h.tape,h.output,h.size,fun k hk=>h.block k (Nat.lt_of_lt_of_le hk hB) (fun hg=>by have:=hG k hg;omega)⟩
theorem Kept.lim (h : Kept G w w') {A : Option Addr} {n c : Nat} {l : List Nat} (hl : Lim w A n c l) (hG : ∀ k,G k -> ∃ t cs,Blk w k t cs /\ NoLimb cs) : Lim w' A n c l:=
 ⟨hl.1,hl.2.1,hl.2.2.1,hl.2.2.2.1,fun hn=>by
  obtain ⟨b,o,e,hc⟩:=hl.2.2.2.2 hn;refine ⟨b,o,e,fun k hk=>?_⟩;have h0:=hc k hk;refine (World.cell?_of_block (w:=w) (h.block b (Zu h0) (fun hg=>?_))).trans h0;obtain ⟨t,cs,h1,h2⟩:=hG b hg;have h3:=h0;rw [h1.cell] at h3
  exact h2 _ _ h3⟩
theorem Kept.wd (h : Kept G w w') {neg : Bool} {A : Option Addr} {n c : Nat} {z : Int} (hl : Wd w neg A n c z) (hG : ∀ k,G k -> ∃ t cs,Blk w k t cs /\ NoLimb cs) : Wd w' neg A n c z:=⟨hl.1,hl.2.1,h.lim hl.2.2 hG⟩
end
section
variable {t : TypeId} {w : World} {g : Nat} {xs zs : List Int}
end
end Go.Proofs.YtkcbhbddgmkoiaaGreat
