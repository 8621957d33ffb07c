/- Raw fractions: package frac's Check. Rows and matrices of -/
import Derived.Test.YtigdclhagmnopaaGreatZp18
set_option maxRecDepth 100000
set_option maxHeartbeats 1000000
set_option linter.unusedSimpArgs false
set_option linter.unusedVariables false
namespace Go.Proofs.YtigdclhagmnopaaGreat
open Go.RowKit
attribute [local go_sem] Zh
def okF (na : Bool) (la : List Nat) (nb : Bool) (lb : List Nat) : Bool:=okW na la && okW nb lb && !nb && decide (0 < lb.length) && decide (Nat.gcd (val la) (val lb) = 1)
def qOf (na : Bool) (la lb : List Nat) : Rat:=Rat.divInt (sg na (val la)) (val lb : Nat)
theorem Zuq {w : World} {na nb : Bool} {A B : Option Addr} {n c m d : Nat} {la lb : List Nat} (ha : Lim w A n c la) (hb : Lim w B m d lb) (hk : okF na la nb lb = true) : Fr w na A n c nb B m d (qOf na la lb):=by
 simp only [okF,Bool.and_eq_true,Bool.not_eq_true',decide_eq_true_eq] at hk;obtain ⟨⟨⟨⟨k1,k2⟩,rfl⟩,k4⟩,k5⟩:=hk;have h2:=(Zjv hb.lt).1 k2;have e2 : (sg false (val lb)).natAbs = val lb:=Z3 _ _;rw [e2] at h2
 have hp : 0 < val lb:=by
  rw [h2.2.2] at k4;exact length_digits_pos.1 k4
 have hl : Low (sg na (val la)) (val lb : Nat):=⟨by omega,by rw [Z3,Int.natAbs_natCast];exact k5⟩;obtain ⟨r1,r2⟩:=rat_low hl;have w1:=Wd.of_ok ha k1;have w2:=Wd.of_ok hb k2;have e3 : sg false (val lb) = (val lb : Nat):=rfl;rw [e3] at w2;refine ⟨?_,?_⟩
 ·unfold qOf;rw [r1];exact w1
 ·unfold qOf;rw [r2];exact w2
theorem Zoj (na nb : Bool) (A B : Option Addr) (n c m d : Nat) (la lb : List Nat) (w : World) (ha : Lim w A n c la) (hb : Lim w B m d lb) (hbad : (okW na la && okW nb lb) = false) :
    Calls Tryz.prog 104 #[.agg #[.bool na,.slice A n c,.bool nb,.slice B m d]] w fun e w'=>e = .returned (.int .i64 8) /\ Below w.heap.size w w':=by
 have hmx : Tryz.prog.follows .mixedOrders = true:=by kernel_rfl
 obtain ⟨W0,hW0,hB0,q0,s0⟩:=Zbp w 45 #[.bool na,.slice A n c,.bool nb,.slice B m d];have hA:=Za (ha.below hB0);have hD:=Za (hb.below hB0);clear ha hb;obtain ⟨a0,a1,a2,a3,-⟩:=q0.four;replace q0:=Za q0;go_enter Tryz.func104,Tryz.ntmps104;go_wp2_with fail;refine (Gcd_bad na nb A B n c m d la lb W0 hA.out hD.out hbad).mono ?_;rintro e w1 ⟨rfl,hb1⟩;have hB1 : Below w.heap.size w w1:=hB0.trans (hb1.mono hB0.size);clear hW0 a0 a1 a2 a3 hb1;obtain ⟨W4,hW4,hB4,q4,kW,kB,s4⟩:=Zy 43 #[.bool false,.slice none 0 0] hB1 hB1.size;obtain ⟨g0,g1,f0,f1⟩:=q4.two;go_wp2_with fail;refine Zar [] (fun wx=>True) hmx trivial (fun _=>?_);refine Ze (i:=0) rfl (by kernel_rfl) (fun K hK=>?_);go_simp;refine hK.out _ _ (fun _=>trivial) ?_;clear hK K
 try simp only [Act.put,Zf0,Zfg,Zfv]
 refine Ze (i:=1) rfl (by kernel_rfl) (fun K hK=>?_);go_simp;refine hK.out _ _ (fun _=>trivial) ?_;clear hK K
 try simp only [Act.put,Zf0,Zfg,Zfv]
 refine Ze (i:=2) rfl (by kernel_rfl) (fun K hK=>?_);go_simp;refine hK.out _ _ (fun _=>trivial) ?_;clear hK K
 try simp only [Act.put,Zf0,Zfg,Zfv]
 refine Ze (i:=3) rfl (by kernel_rfl) (fun K hK=>?_);go_simp;refine hK.out _ _ (fun _=>trivial) ?_;clear hK K
 try simp only [Act.put,Zf0,Zfg,Zfv]
 refine Ze (i:=4) rfl (by kernel_rfl) (fun K hK=>?_);go_simp;refine hK.out _ _ (fun _=>trivial) ?_;clear hK K
 try simp only [Act.put,Zf0,Zfg,Zfv]
 refine Ze (i:=5) rfl (by kernel_rfl) (fun K hK=>?_);go_simp;refine hK.out _ _ (fun _=>trivial) ?_;clear hK K
 try simp only [Act.put,Zf0,Zfg,Zfv]
 refine Ze (i:=6) rfl (by kernel_rfl) (fun K hK=>?_);go_simp;refine hK.out _ _ (fun _=>trivial) ?_;clear hK K
 try simp only [Act.put,Zf0,Zfg,Zfv]
 refine Ze (i:=7) rfl (by kernel_rfl) (fun K hK=>?_);go_simp;refine hK.out _ _ (fun _=>trivial) ?_;clear hK K
 try simp only [Act.put,Zf0,Zfg,Zfv]
 refine Ze (i:=8) rfl (by kernel_rfl) (fun K hK=>?_);go_simp;refine hK.out _ _ (fun _=>trivial) ?_;clear hK K
 try simp only [Act.put,Zf0,Zfg,Zfv]
 refine Ze (i:=9) rfl (by kernel_rfl) (fun K hK=>?_);go_simp;refine hK.out _ _ (fun _=>trivial) ?_;clear hK K
 try simp only [Act.put,Zf0,Zfg,Zfv]
 refine Ze (i:=10) rfl (by kernel_rfl) (fun K hK=>?_);go_simp;refine hK.out _ _ (fun _=>trivial) ?_;clear hK K
 try simp only [Act.put,Zf0,Zfg,Zfv]
 refine Ze (i:=11) rfl (by kernel_rfl) (fun K hK=>?_);go_simp;refine hK.out _ _ (fun _=>trivial) ?_;clear hK K
 try simp only [Act.put,Zf0,Zfg,Zfv]
 refine Ze (i:=12) rfl (by kernel_rfl) (fun K hK=>?_);go_simp;refine hK.out _ _ (fun _=>trivial) ?_;clear hK K
 try simp only [Act.put,Zf0,Zfg,Zfv]
 refine Zd (i:=13) (v:=undef) rfl (by kernel_rfl) (by kernel_rfl) (by kernel_rfl) (by kernel_rfl) (by kernel_rfl) (Or.inr ⟨by rfl,rfl⟩) trivial ?_
 try simp only [Act.put,Zf0,Zfg,Zfv]
 refine Ze (i:=14) rfl (by kernel_rfl) (fun K hK=>?_);go_simp;refine hK.out _ _ (fun _=>trivial) ?_;clear hK K
 try simp only [Act.put,Zf0,Zfg,Zfv]
 refine Ze (i:=15) rfl (by kernel_rfl) (fun K hK=>?_);go_simp;refine hK.out _ _ (fun _=>trivial) ?_;clear hK K
 try simp only [Act.put,Zf0,Zfg,Zfv]
 refine Ze (i:=16) rfl (by kernel_rfl) (fun K hK=>?_);go_simp;refine hK.out _ _ (fun _=>trivial) ?_;clear hK K
 try simp only [Act.put,Zf0,Zfg,Zfv]
 refine Ze (i:=17) rfl (by kernel_rfl) (fun K hK=>?_);go_simp;refine hK.out _ _ (fun _=>trivial) ?_;clear hK K
 try simp only [Act.put,Zf0,Zfg,Zfv]
 refine Zk (by kernel_rfl) ?_ _;refine OnlyNormal.normal ?_;go_wp2_with fail;go_ret;exact ⟨rfl,Zf ((hB4.setCell (p:=⟨w1.heap.size,0,none⟩) hB1.size (.bool false)).setCell (p:=⟨w1.heap.size,1,none⟩) hB1.size (.slice none 0 0)) 1⟩
theorem Zob (na : Bool) (A B : Option Addr) (n c m d : Nat) (za zb : Int) (w : World) (ha : Wd w na A n c za) (hb : Wd w true B m d zb) :
    Calls Tryz.prog 104 #[.agg #[.bool na,.slice A n c,.bool true,.slice B m d]] w fun e w'=>e = .returned (.int .i64 8) /\ Below w.heap.size w w':=by
 have hmx : Tryz.prog.follows .mixedOrders = true:=by kernel_rfl
 have hgs : Nat.gcd za.natAbs zb.natAbs < pw 4096:=Zd8 ha.small hb.small;obtain ⟨W0,hW0,hB0,q0,s0⟩:=Zbp w 45 #[.bool na,.slice A n c,.bool true,.slice B m d];have hA:=Za (ha.below hB0);have hD:=Za (hb.below hB0);clear ha hb;obtain ⟨a0,a1,a2,a3,-⟩:=q0.four;go_enter Tryz.func104,Tryz.ntmps104;go_wp2_with fail;refine (Zi2 na true A B n c m d za zb W0 hA.out hD.out).mono ?_;rintro e w1 ⟨hb1,ng,Ag,kg,cg,code,rfl,hR⟩
 rcases hR with ⟨-,rfl,hgw⟩ | ⟨hbig,-⟩
 case inr=>exact absurd hbig (by omega)
 have hB1 : Below w.heap.size w w1:=hB0.trans (hb1.mono hB0.size);replace q0:=Zb hb1 q0;clear hW0 a0 a1 a2 a3 hb1;obtain ⟨W4,hW4,hB4,q4,kW,kB,s4⟩:=Zy 43 #[.bool ng,.slice Ag kg cg] hB1 hB1.size;replace q0:=kB _ _ _ q0;obtain ⟨g0,g1,f0,f1⟩:=q4.two;obtain ⟨a0,a1,a2,a3,-⟩:=q0.four;go_wp2_with fail;refine Zar [] (fun wx=>wx.cell? ⟨w.heap.size,2,none⟩ = some (.bool true)) hmx a2 (fun _=>?_);refine Ze (i:=0) rfl (by kernel_rfl) (fun K hK=>?_);go_simp;refine hK.out _ _ (fun _=>a2) ?_;clear hK K
 try simp only [Act.put,Zf0,Zfg,Zfv]
 refine Ze (i:=1) rfl (by kernel_rfl) (fun K hK=>?_);go_simp;refine hK.out _ _ (fun _=>a2) ?_;clear hK K
 try simp only [Act.put,Zf0,Zfg,Zfv]
 refine Ze (i:=2) rfl (by kernel_rfl) (fun K hK=>?_);go_simp;refine hK.out _ _ (fun _=>a2) ?_;clear hK K
 try simp only [Act.put,Zf0,Zfg,Zfv]
 refine Ze (i:=3) rfl (by kernel_rfl) (fun K hK=>?_);go_simp;refine hK.out _ _ (fun _=>a2) ?_;clear hK K
 try simp only [Act.put,Zf0,Zfg,Zfv]
 refine Ze (i:=4) rfl (by kernel_rfl) (fun K hK=>?_);go_simp;refine hK.out _ _ (fun _=>a2) ?_;clear hK K
 try simp only [Act.put,Zf0,Zfg,Zfv]
 refine Ze (i:=5) rfl (by kernel_rfl) (fun K hK=>?_);go_simp;refine hK.out _ _ (fun _=>a2) ?_;clear hK K
 try simp only [Act.put,Zf0,Zfg,Zfv]
 refine Ze (i:=6) rfl (by kernel_rfl) (fun K hK=>?_);go_simp;refine hK.out _ _ (fun _=>a2) ?_;clear hK K
 try simp only [Act.put,Zf0,Zfg,Zfv]
 refine Ze (i:=7) rfl (by kernel_rfl) (fun K hK=>?_);go_simp;refine hK.out _ _ (fun _=>a2) ?_;clear hK K
 try simp only [Act.put,Zf0,Zfg,Zfv]
 refine Ze (i:=8) rfl (by kernel_rfl) (fun K hK=>?_);go_simp;refine hK.out _ _ (fun _=>a2) ?_;clear hK K
 try simp only [Act.put,Zf0,Zfg,Zfv]
 refine Ze (i:=9) rfl (by kernel_rfl) (fun K hK=>?_);go_simp;refine hK.out _ _ (fun _=>a2) ?_;clear hK K
 try simp only [Act.put,Zf0,Zfg,Zfv]
 refine Ze (i:=10) rfl (by kernel_rfl) (fun K hK=>?_);go_simp;refine hK.out _ _ (fun _=>a2) ?_;clear hK K
 try simp only [Act.put,Zf0,Zfg,Zfv]
 refine Ze (i:=11) rfl (by kernel_rfl) (fun K hK=>?_);go_simp;refine hK.out _ _ (fun _=>a2) ?_;clear hK K
 try simp only [Act.put,Zf0,Zfg,Zfv]
 refine Ze (i:=12) rfl (by kernel_rfl) (fun K hK=>?_);go_simp;refine hK.out _ _ (fun _=>a2) ?_;clear hK K
 try simp only [Act.put,Zf0,Zfg,Zfv]
 refine Zd (i:=13) (v:=undef) rfl (by kernel_rfl) (by kernel_rfl) (by kernel_rfl) (by kernel_rfl) (by kernel_rfl) (Or.inr ⟨by rfl,rfl⟩) a2 ?_
 try simp only [Act.put,Zf0,Zfg,Zfv]
 refine Ze (i:=14) rfl (by kernel_rfl) (fun K hK=>?_);go_simp;refine hK.out _ _ (fun _=>a2) ?_;clear hK K
 try simp only [Act.put,Zf0,Zfg,Zfv]
 refine Ze (i:=15) rfl (by kernel_rfl) (fun K hK=>?_);go_simp;refine hK.out _ _ (fun _=>a2) ?_;clear hK K
 try simp only [Act.put,Zf0,Zfg,Zfv]
 refine Ze (i:=16) rfl (by kernel_rfl) (fun K hK=>?_);go_simp;refine hK.out _ _ (fun _=>a2) ?_;clear hK K
 try simp only [Act.put,Zf0,Zfg,Zfv]
 refine Ze (i:=17) rfl (by kernel_rfl) (fun K hK=>?_);go_simp;refine hK.out _ _ (fun _=>a2) ?_;clear hK K
 try simp only [Act.put,Zf0,Zfg,Zfv]
 refine Zk (by kernel_rfl) ?_ _;refine OnlyNormal.normal ?_;go_wp2_with fail;go_ret;exact ⟨rfl,Zf hB4 1⟩
theorem Zoa (na : Bool) (A B : Option Addr) (n c d : Nat) (za : Int) (w : World) (ha : Wd w na A n c za) (hb : Wd w false B 0 d 0) :
    Calls Tryz.prog 104 #[.agg #[.bool na,.slice A n c,.bool false,.slice B 0 d]] w fun e w'=>e = .returned (.int .i64 8) /\ Below w.heap.size w w':=by
 have hmx : Tryz.prog.follows .mixedOrders = true:=by kernel_rfl
 have hgs : Nat.gcd za.natAbs (Int.natAbs 0) < pw 4096:=Zd8 ha.small hb.small;obtain ⟨W0,hW0,hB0,q0,s0⟩:=Zbp w 45 #[.bool na,.slice A n c,.bool false,.slice B 0 d];have hA:=Za (ha.below hB0);have hD:=Za (hb.below hB0);clear ha hb;obtain ⟨a0,a1,a2,a3,-⟩:=q0.four;go_enter Tryz.func104,Tryz.ntmps104;go_wp2_with fail;refine (Zi2 na false A B n c 0 d za 0 W0 hA.out hD.out).mono ?_;rintro e w1 ⟨hb1,ng,Ag,kg,cg,code,rfl,hR⟩
 rcases hR with ⟨-,rfl,hgw⟩ | ⟨hbig,-⟩
 case inr=>exact absurd hbig (by omega)
 have hB1 : Below w.heap.size w w1:=hB0.trans (hb1.mono hB0.size);replace q0:=Zb hb1 q0;clear hW0 a0 a1 a2 a3 hb1;obtain ⟨W4,hW4,hB4,q4,kW,kB,s4⟩:=Zy 43 #[.bool ng,.slice Ag kg cg] hB1 hB1.size;replace q0:=kB _ _ _ q0;obtain ⟨g0,g1,f0,f1⟩:=q4.two;obtain ⟨a0,a1,a2,a3,-⟩:=q0.four;go_wp2_with fail;refine Zar [] (fun wx=>wx.cell? ⟨w.heap.size,2,none⟩ = some (.bool false) /\ wx.cell? ⟨w.heap.size,3,none⟩ = some (.slice B 0 d)) hmx ⟨a2,a3⟩ (fun _=>?_);refine Ze (i:=0) rfl (by kernel_rfl) (fun K hK=>?_);go_simp;refine hK.out _ _ (fun _=>⟨a2,a3⟩) ?_;clear hK K
 try simp only [Act.put,Zf0,Zfg,Zfv]
 refine Ze (i:=1) rfl (by kernel_rfl) (fun K hK=>?_);go_simp;refine hK.out _ _ (fun _=>⟨a2,a3⟩) ?_;clear hK K
 try simp only [Act.put,Zf0,Zfg,Zfv]
 refine Ze (i:=2) rfl (by kernel_rfl) (fun K hK=>?_);go_simp;refine hK.out _ _ (fun _=>⟨a2,a3⟩) ?_;clear hK K
 try simp only [Act.put,Zf0,Zfg,Zfv]
 refine Ze (i:=3) rfl (by kernel_rfl) (fun K hK=>?_);go_simp;refine hK.out _ _ (fun _=>⟨a2,a3⟩) ?_;clear hK K
 try simp only [Act.put,Zf0,Zfg,Zfv]
 refine Ze (i:=4) rfl (by kernel_rfl) (fun K hK=>?_);go_simp;refine hK.out _ _ (fun _=>⟨a2,a3⟩) ?_;clear hK K
 try simp only [Act.put,Zf0,Zfg,Zfv]
 refine Ze (i:=5) rfl (by kernel_rfl) (fun K hK=>?_);go_simp;refine hK.out _ _ (fun _=>⟨a2,a3⟩) ?_;clear hK K
 try simp only [Act.put,Zf0,Zfg,Zfv]
 refine Ze (i:=6) rfl (by kernel_rfl) (fun K hK=>?_);go_simp;refine hK.out _ _ (fun _=>⟨a2,a3⟩) ?_;clear hK K
 try simp only [Act.put,Zf0,Zfg,Zfv]
 refine Ze (i:=7) rfl (by kernel_rfl) (fun K hK=>?_);go_simp;refine hK.out _ _ (fun _=>⟨a2,a3⟩) ?_;clear hK K
 try simp only [Act.put,Zf0,Zfg,Zfv]
 refine Ze (i:=8) rfl (by kernel_rfl) (fun K hK=>?_);go_simp;refine hK.out _ _ (fun _=>⟨a2,a3⟩) ?_;clear hK K
 try simp only [Act.put,Zf0,Zfg,Zfv]
 refine Ze (i:=9) rfl (by kernel_rfl) (fun K hK=>?_);go_simp;refine hK.out _ _ (fun _=>⟨a2,a3⟩) ?_;clear hK K
 try simp only [Act.put,Zf0,Zfg,Zfv]
 refine Ze (i:=10) rfl (by kernel_rfl) (fun K hK=>?_);go_simp;refine (Zig _ _ _ _ _ (by omega) true rfl).mono ?_;rintro e w3 ⟨rfl,hb3⟩;have hb3':=Zs hb3;have k2:=Zc hb3' a2;have k3:=Zc hb3' a3;refine hK.out _ _ (fun _=>⟨k2,k3⟩) ?_;clear hK K
 try simp only [Act.put,Zf0,Zfg,Zfv]
 refine Ze (i:=11) rfl (by kernel_rfl) (fun K hK=>?_);go_simp;refine hK.out _ _ (fun _=>⟨k2,k3⟩) ?_;clear hK K
 try simp only [Act.put,Zf0,Zfg,Zfv]
 refine Ze (i:=12) rfl (by kernel_rfl) (fun K hK=>?_);go_simp;refine hK.out _ _ (fun _=>⟨k2,k3⟩) ?_;clear hK K
 try simp only [Act.put,Zf0,Zfg,Zfv]
 refine Zd (i:=13) (v:=undef) rfl (by kernel_rfl) (by kernel_rfl) (by kernel_rfl) (by kernel_rfl) (by kernel_rfl) (Or.inr ⟨by rfl,rfl⟩) ⟨k2,k3⟩ ?_
 try simp only [Act.put,Zf0,Zfg,Zfv]
 refine Ze (i:=14) rfl (by kernel_rfl) (fun K hK=>?_);go_simp;refine hK.out _ _ (fun _=>⟨k2,k3⟩) ?_;clear hK K
 try simp only [Act.put,Zf0,Zfg,Zfv]
 refine Ze (i:=15) rfl (by kernel_rfl) (fun K hK=>?_);go_simp;refine hK.out _ _ (fun _=>⟨k2,k3⟩) ?_;clear hK K
 try simp only [Act.put,Zf0,Zfg,Zfv]
 refine Ze (i:=16) rfl (by kernel_rfl) (fun K hK=>?_);go_simp;refine hK.out _ _ (fun _=>⟨k2,k3⟩) ?_;clear hK K
 try simp only [Act.put,Zf0,Zfg,Zfv]
 refine Ze (i:=17) rfl (by kernel_rfl) (fun K hK=>?_);go_simp;refine hK.out _ _ (fun _=>⟨k2,k3⟩) ?_;clear hK K
 try simp only [Act.put,Zf0,Zfg,Zfv]
 refine Zk (by kernel_rfl) ?_ _;refine OnlyNormal.normal ?_;go_wp2_with fail;go_ret;exact ⟨rfl,hB4.trans (hb3'.mono hB4.size)⟩
theorem Zpt (na nb : Bool) (A B : Option Addr) (n c m d : Nat) (la lb : List Nat) (w : World) (ha : Lim w A n c la) (hb : Lim w B m d lb) (x : Bool) (hx : okF na la nb lb = x) :
    Calls Tryz.prog 104 #[.agg #[.bool na,.slice A n c,.bool nb,.slice B m d]] w fun e w'=>e = .returned (.int .i64 (Ziu x)) /\ Below w.heap.size w w':=by
 cases x
 ·simp only [okF,Bool.and_eq_false_iff,Bool.not_eq_false',decide_eq_false_iff_not] at hx
  by_cases h1 : (okW na la && okW nb lb) = true
  ·have h1':=h1
   rw [Bool.and_eq_true] at h1;have hA:=Wd.of_ok ha h1.1;have hD:=Wd.of_ok hb h1.2
   cases nb
   ·by_cases hz : 0 < lb.length
    ·have e3 : sg false (val lb) = (val lb : Nat):=rfl
     rw [e3] at hD;have h2:=(Zjv hb.lt).1 h1.2;have e2 : (sg false (val lb)).natAbs = val lb:=Z3 _ _;rw [e2] at h2
     have hp : 0 < val lb:=by
      rw [h2.2.2] at hz;exact length_digits_pos.1 hz
     refine Zj4 na A B n c m d _ _ w hA hD (by omega) false ?_;rw [Z3,Int.natAbs_natCast]
     rcases hx with (((hx | hx) | hx) | hx) | hx
     ·rw [h1.1] at hx;cases hx
     ·rw [h1.2] at hx;cases hx
     ·cases hx
     ·omega
     ·simp;omega
    ·have hl0 : lb = []:=List.eq_nil_of_length_eq_zero (by omega)
     subst hl0;have hm : m = 0:=hb.len.symm;subst hm;exact Zoa na A B n c d _ w hA hD
   ·exact Zob na A B n c m d _ _ w hA hD
  ·exact Zoj na nb A B n c m d la lb w ha hb (by simpa using h1)
 ·exact Zdq na nb A B n c m d _ w (Zuq ha hb hx)
structure FX where
 na : Bool
 A : Option Addr
 n : Nat
 c : Nat
 la : List Nat
 nb : Bool
 B : Option Addr
 m : Nat
 d : Nat
 lb : List Nat
def FX.in_ (w : World) (e : FX) : Prop:=Lim w e.A e.n e.c e.la /\ Lim w e.B e.m e.d e.lb
def FX.ok (e : FX) : Bool:=okF e.na e.la e.nb e.lb
def FX.q (e : FX) : Rat:=qOf e.na e.la e.lb
def FX.few (e : FX) : Nat:=max e.n e.m
def At4 (w : World) (g o : Nat) (na : Bool) (A : Option Addr) (n c : Nat) (nb : Bool) (B : Option Addr) (m d : Nat) : Prop:=
 w.cell? ⟨g,o,none⟩ = some (.bool na) /\ w.cell? ⟨g,o + 1,none⟩ = some (.slice A n c) /\ w.cell? ⟨g,o + 2,none⟩ = some (.bool nb) /\ w.cell? ⟨g,o + 3,none⟩ = some (.slice B m d)
theorem At4.below {w w' : World} {g o : Nat} {na : Bool} {A : Option Addr} {n c : Nat} {nb : Bool} {B : Option Addr} {m d : Nat} (h : At4 w g o na A n c nb B m d) (hb : Below w.heap.size w w') : At4 w' g o na A n c nb B m d:=
 ⟨Zc hb h.1,Zc hb h.2.1,Zc hb h.2.2.1,Zc hb h.2.2.2⟩
def FXL (w : World) (A : Option Addr) (n c : Nat) (es : List FX) : Prop:=
 es.length = n /\ n <= c /\ c <= maxLen /\ (∀ e ∈ es,e.in_ w) /\ (0 < n -> ∃ g o,A = some ⟨g,o,none⟩ /\ ∀ (k : Nat) (e : FX),es[k]? = some e -> At4 w g (o + k * 4) e.na e.A e.n e.c e.nb e.B e.m e.d)
section
variable {w w' : World} {A : Option Addr} {n c : Nat} {es : List FX}
theorem FX.in_below {e : FX} (h : e.in_ w) (hb : Below w.heap.size w w') : e.in_ w':=⟨h.1.below hb,h.2.below hb⟩
theorem FXL.below (h : FXL w A n c es) (hb : Below w.heap.size w w') : FXL w' A n c es:=by
 obtain ⟨h1,h2,h3,h4,h5⟩:=h;refine ⟨h1,h2,h3,fun e he=>FX.in_below (h4 e he) hb,fun hn=>?_⟩;obtain ⟨g,o,e1,hc⟩:=h5 hn;exact ⟨g,o,e1,fun k e he=>(hc k e he).below hb⟩
theorem FXL.at_ (h : FXL w A n c es) {k : Nat} (hk : k < n) : ∃ g o e,A = some ⟨g,o,none⟩ /\ es[k]? = some e /\ At4 w g (o + k * 4) e.na e.A e.n e.c e.nb e.B e.m e.d /\ Lim w e.A e.n e.c e.la /\ Lim w e.B e.m e.d e.lb:=by
 obtain ⟨h1,-,-,h4,h5⟩:=h;obtain ⟨g,o,e1,hc⟩:=h5 (by omega);have he:=List.getElem?_eq_getElem (l:=es) (i:=k) (by omega);have hi:=h4 es[k] (List.getElem_mem _);exact ⟨g,o,es[k],e1,he,hc k _ he,hi.1,hi.2⟩
theorem FXL.fl (h : FXL w A n c es) (hk : ∀ e ∈ es,e.ok = true) : FL w A n c (es.map FX.q):=by
 obtain ⟨h1,h2,h3,h4,h5⟩:=h;refine ⟨es.map fun e=>⟨e.na,e.A,e.n,e.c,e.nb,e.B,e.m,e.d,e.q⟩,by simp [h1],h2,h3,fun e he=>?_,by rw [List.map_map];rfl,fun hn=>?_⟩
 ·obtain ⟨x,hx,rfl⟩:=List.mem_map.1 he
  exact Zuq (h4 x hx).1 (h4 x hx).2 (hk x hx)
 ·obtain ⟨g,o,e1,hc⟩:=h5 hn
  refine ⟨g,o,e1,fun k e he=>?_⟩;rw [List.getElem?_map] at he;obtain ⟨x,hx,rfl⟩:=Option.map_eq_some_iff.1 he;exact hc k x hx
end
structure RX where
 A : Option Addr
 n : Nat
 c : Nat
 es : List FX
def MXL (w : World) (A : Option Addr) (n c : Nat) (rs : List RX) : Prop:=
 rs.length = n /\ n <= c /\ c <= maxLen /\ (∀ r ∈ rs,FXL w r.A r.n r.c r.es) /\ (0 < n -> ∃ g o,A = some ⟨g,o,none⟩ /\ ∀ (k : Nat) (r : RX),rs[k]? = some r -> w.cell? ⟨g,o + k,none⟩ = some (.slice r.A r.n r.c))
def MFL (w : World) (A : Option Addr) (n c : Nat) (Q : List (List Rat)) : Prop:=
 Q.length = n /\ n <= c /\ c <= maxLen /\ (0 < n -> ∃ g o,A = some ⟨g,o,none⟩ /\ ∀ (k : Nat) (q : List Rat),Q[k]? = some q -> ∃ A' n' c',w.cell? ⟨g,o + k,none⟩ = some (.slice A' n' c') /\ FL w A' n' c' q)
section
variable {w w' : World} {A : Option Addr} {n c : Nat} {rs : List RX} {Q : List (List Rat)} {qs : List Rat}
theorem MXL.below (h : MXL w A n c rs) (hb : Below w.heap.size w w') : MXL w' A n c rs:=by
 obtain ⟨h1,h2,h3,h4,h5⟩:=h;refine ⟨h1,h2,h3,fun r hr=>(h4 r hr).below hb,fun hn=>?_⟩;obtain ⟨g,o,e1,hc⟩:=h5 hn;exact ⟨g,o,e1,fun k r hr=>Zc hb (hc k r hr)⟩
theorem MXL.at_ (h : MXL w A n c rs) {k : Nat} (hk : k < n) : ∃ g o r,A = some ⟨g,o,none⟩ /\ rs[k]? = some r /\ w.cell? ⟨g,o + k,none⟩ = some (.slice r.A r.n r.c) /\ FXL w r.A r.n r.c r.es:=by
 obtain ⟨h1,-,-,h4,h5⟩:=h;obtain ⟨g,o,e1,hc⟩:=h5 (by omega);have he:=List.getElem?_eq_getElem (l:=rs) (i:=k) (by omega);exact ⟨g,o,rs[k],e1,he,hc k _ he,h4 rs[k] (List.getElem_mem _)⟩
theorem MXL.mfl (h : MXL w A n c rs) (hk : ∀ r ∈ rs,∀ e ∈ r.es,e.ok = true) : MFL w A n c (rs.map fun r=>r.es.map FX.q):=by
 obtain ⟨h1,h2,h3,h4,h5⟩:=h;refine ⟨by simp [h1],h2,h3,fun hn=>?_⟩;obtain ⟨g,o,e1,hc⟩:=h5 hn;refine ⟨g,o,e1,fun k q hq=>?_⟩;rw [List.getElem?_map] at hq;obtain ⟨r,hr,rfl⟩:=Option.map_eq_some_iff.1 hq;exact ⟨r.A,r.n,r.c,hc k r hr,(h4 r (List.mem_of_getElem? hr)).fl (hk r (List.mem_of_getElem? hr))⟩
theorem MFL.below (h : MFL w A n c Q) (hb : Below w.heap.size w w') : MFL w' A n c Q:=by
 obtain ⟨h1,h2,h3,h5⟩:=h;refine ⟨h1,h2,h3,fun hn=>?_⟩;obtain ⟨g,o,e1,hc⟩:=h5 hn;refine ⟨g,o,e1,fun k q hq=>?_⟩;obtain ⟨A',n',c',h6,h7⟩:=hc k q hq;exact ⟨A',n',c',Zc hb h6,h7.below hb⟩
theorem MFL.at_ (h : MFL w A n c Q) {k : Nat} (hk : k < n) : ∃ g o A' n' c',A = some ⟨g,o,none⟩ /\ w.cell? ⟨g,o + k,none⟩ = some (.slice A' n' c') /\ FL w A' n' c' (Q[k]?.getD []):=by
 obtain ⟨h1,-,-,h5⟩:=h;obtain ⟨g,o,e1,hc⟩:=h5 (by omega);have he:=List.getElem?_eq_getElem (l:=Q) (i:=k) (by omega);obtain ⟨A',n',c',h6,h7⟩:=hc k _ he;rw [he];exact ⟨g,o,A',n',c',e1,h6,h7⟩
theorem FL.len (h : FL w A n c qs) : qs.length = n:=by obtain ⟨es,h1,-,-,-,h5,-⟩:=h;rw [<- h5,List.length_map,h1]
theorem FL.cap (h : FL w A n c qs) : n <= c /\ c <= maxLen:=by obtain ⟨es,h1,h2,h3,-⟩:=h;exact ⟨h2,h3⟩
theorem FL.at_ (h : FL w A n c qs) {k : Nat} (hk : k < n) : ∃ g o na A1 n1 c1 nb B m d,A = some ⟨g,o,none⟩ /\ At4 w g (o + k * 4) na A1 n1 c1 nb B m d /\ Fr w na A1 n1 c1 nb B m d (qs[k]?.getD 0):=by
 obtain ⟨es,h1,-,-,h4,rfl,h5⟩:=h;obtain ⟨g,o,e1,hc⟩:=h5 (by omega);have he:=List.getElem?_eq_getElem (l:=es) (i:=k) (by omega);refine ⟨g,o,es[k].na,es[k].A,es[k].n,es[k].c,es[k].nb,es[k].B,es[k].m,es[k].d,e1,hc k _ he,?_⟩;rw [List.getElem?_map,he];exact h4 es[k] (List.getElem_mem _)
theorem FL.take (h : FL w A n c qs) {k : Nat} (hk : k <= n) : FL w A k c (qs.take k):=by
 obtain ⟨es,h1,h2,h3,h4,rfl,h5⟩:=h;refine ⟨es.take k,by rw [List.length_take];omega,by omega,h3,fun e he=>h4 e (List.mem_of_mem_take he),by rw [List.map_take],fun hn=>?_⟩;obtain ⟨g,o,e1,hc⟩:=h5 (by omega);refine ⟨g,o,e1,fun j e he=>?_⟩;rw [List.getElem?_take] at he
 split at he
 ·exact hc j e he
 ·cases he
end
def cmpQ (a b : Rat) : Int:=if a < b then -1 else if b < a then 1 else 0
theorem Zui (a b : Rat) : Zht (a.num * b.den) (b.num * a.den) = cmpQ a b:=by
 unfold Zht cmpQ;simp only [Rat.lt_iff]
end Go.Proofs.YtigdclhagmnopaaGreat
