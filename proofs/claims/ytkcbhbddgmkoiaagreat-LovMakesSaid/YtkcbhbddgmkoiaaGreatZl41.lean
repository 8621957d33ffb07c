/- Reference of frac: Check, both, Cmp of raw fractions. -/
import Derived.Test.YtkcbhbddgmkoiaaGreatZl40
set_option maxRecDepth 100000
set_option maxHeartbeats 1000000
set_option linter.unusedSimpArgs false
set_option linter.unusedVariables false
namespace Go.Proofs.YtkcbhbddgmkoiaaGreat
open Go.RowKit
attribute [local go_sem] Zg
theorem Zk0 (na nb : Bool) (A B : Option Addr) (n c m d : Nat) (la lb : List Nat) (w : World) (ha : Lim w A n c la) (hb : Lim w B m d lb) (hbad : okW na la = false) :
    Calls Tryz.prog 27 #[.agg #[.bool na,.slice A n c,.bool nb,.slice B m d]] w fun e w'=>e = .returned (.int .i64 8) /\ Below w.heap.size w w':=by
 have hmx : Tryz.prog.follows .mixedOrders = true:=by kernel_rfl
 obtain ⟨W0,hW0,hB0,q0,s0⟩:=Zaq w 64 #[.bool na,.slice A n c,.bool nb,.slice B m d];have hA:=Za (ha.below hB0);clear ha hb;obtain ⟨a0,a1,a2,a3,-⟩:=q0.four;go_enter Tryz.func27,Tryz.ntmps27;go_wp2_with fail;refine (Zhj hA.out hbad).mono ?_;rintro e w1 ⟨rfl,hb1⟩;have hB1 : Below w.heap.size w w1:=hB0.trans (hb1.mono hB0.size);clear hW0 a0 a1 a2 a3;obtain ⟨a0,a1,a2,a3,-⟩:=(Zc hb1 q0).four;go_wp2_with fail;go_ret;exact ⟨rfl,hB1⟩
theorem Zkt (na nb : Bool) (A B : Option Addr) (n c m d : Nat) (la lb : List Nat) (w : World) (ha : Lim w A n c la) (hb : Lim w B m d lb) (hk : okW na la = true) (hbad : okW nb lb = false) :
    Calls Tryz.prog 27 #[.agg #[.bool na,.slice A n c,.bool nb,.slice B m d]] w fun e w'=>e = .returned (.int .i64 8) /\ Below w.heap.size w w':=by
 have hmx : Tryz.prog.follows .mixedOrders = true:=by kernel_rfl
 obtain ⟨W0,hW0,hB0,q0,s0⟩:=Zaq w 64 #[.bool na,.slice A n c,.bool nb,.slice B m d];have hA:=Za (ha.below hB0);have hD:=Za (hb.below hB0);clear ha hb;obtain ⟨a0,a1,a2,a3,-⟩:=q0.four;go_enter Tryz.func27,Tryz.ntmps27;go_wp2_with fail;refine (Za0 hA.out hk).mono ?_;rintro e w1 ⟨rfl,hb1⟩;have hB1 : Below w.heap.size w w1:=hB0.trans (hb1.mono hB0.size);replace q0:=Zc hb1 q0;replace hA:=Za (hA.out.below hb1);replace hD:=Za (hD.out.below hb1);clear hW0 a0 a1 a2 a3 hb1;obtain ⟨a0,a1,a2,a3,-⟩:=q0.four;go_wp2_with fail;refine (Zhj hD.out hbad).mono ?_;rintro e w2 ⟨rfl,hb2⟩;have hB2 : Below w.heap.size w w2:=hB1.trans (hb2.mono hB1.size);replace q0:=Zc hb2 q0;clear a0 a1 a2 a3 hb2;obtain ⟨a0,a1,a2,a3,-⟩:=q0.four;go_wp2_with fail;go_ret;exact ⟨rfl,hB2⟩
theorem Zkm (na : Bool) (A B : Option Addr) (n c m d : Nat) (la lb : List Nat) (w : World) (ha : Lim w A n c la) (hb : Lim w B m d lb) (hk : okW na la = true) (hk2 : okW true lb = true) :
    Calls Tryz.prog 27 #[.agg #[.bool na,.slice A n c,.bool true,.slice B m d]] w fun e w'=>e = .returned (.int .i64 8) /\ Below w.heap.size w w':=by
 have hmx : Tryz.prog.follows .mixedOrders = true:=by kernel_rfl
 obtain ⟨W0,hW0,hB0,q0,s0⟩:=Zaq w 64 #[.bool na,.slice A n c,.bool true,.slice B m d];have hA:=Za (ha.below hB0);have hD:=Za (hb.below hB0);clear ha hb;obtain ⟨a0,a1,a2,a3,-⟩:=q0.four;go_enter Tryz.func27,Tryz.ntmps27;go_wp2_with fail;refine (Za0 hA.out hk).mono ?_;rintro e w1 ⟨rfl,hb1⟩;have hB1 : Below w.heap.size w w1:=hB0.trans (hb1.mono hB0.size);replace q0:=Zc hb1 q0;replace hA:=Za (hA.out.below hb1);replace hD:=Za (hD.out.below hb1);clear hW0 a0 a1 a2 a3 hb1;obtain ⟨a0,a1,a2,a3,-⟩:=q0.four;go_wp2_with fail;refine (Za0 hD.out hk2).mono ?_;rintro e w2 ⟨rfl,hb2⟩;have hB2 : Below w.heap.size w w2:=hB1.trans (hb2.mono hB1.size);replace q0:=Zc hb2 q0;clear a0 a1 a2 a3 hb2;obtain ⟨a0,a1,a2,a3,-⟩:=q0.four;go_wp2_with fail;go_ret;exact ⟨rfl,hB2⟩
theorem Zkv (na : Bool) (A B : Option Addr) (n c d : Nat) (la : List Nat) (w : World) (ha : Lim w A n c la) (hb : Lim w B 0 d []) (hk : okW na la = true) :
    Calls Tryz.prog 27 #[.agg #[.bool na,.slice A n c,.bool false,.slice B 0 d]] w fun e w'=>e = .returned (.int .i64 8) /\ Below w.heap.size w w':=by
 have hmx : Tryz.prog.follows .mixedOrders = true:=by kernel_rfl
 obtain ⟨W0,hW0,hB0,q0,s0⟩:=Zaq w 64 #[.bool na,.slice A n c,.bool false,.slice B 0 d];have hA:=Za (ha.below hB0);have hD:=Za (hb.below hB0);clear ha hb;obtain ⟨a0,a1,a2,a3,-⟩:=q0.four;go_enter Tryz.func27,Tryz.ntmps27;go_wp2_with fail;refine (Za0 hA.out hk).mono ?_;rintro e w1 ⟨rfl,hb1⟩;have hB1 : Below w.heap.size w w1:=hB0.trans (hb1.mono hB0.size);replace q0:=Zc hb1 q0;replace hA:=Za (hA.out.below hb1);replace hD:=Za (hD.out.below hb1);clear hW0 a0 a1 a2 a3 hb1;obtain ⟨a0,a1,a2,a3,-⟩:=q0.four;go_wp2_with fail;refine (Za0 hD.out (by decide)).mono ?_;rintro e w2 ⟨rfl,hb2⟩;have hB2 : Below w.heap.size w w2:=hB1.trans (hb2.mono hB1.size);replace q0:=Zc hb2 q0;clear a0 a1 a2 a3 hb2;obtain ⟨a0,a1,a2,a3,-⟩:=q0.four;go_wp2_with fail;go_ret;exact ⟨rfl,hB2⟩
theorem Zk3 (na : Bool) (A B : Option Addr) (n c m d : Nat) (za zb : Int) (w : World) (h1 : Wd w na A n c za) (h2 : Wd w false B m d zb) (hp : 0 < zb) (hg : Nat.gcd za.natAbs zb.natAbs ≠ 1) :
    Calls Tryz.prog 27 #[.agg #[.bool na,.slice A n c,.bool false,.slice B m d]] w fun e w'=>e = .returned (.int .i64 8) /\ Below w.heap.size w w':=by
 have hmx : Tryz.prog.follows .mixedOrders = true:=by kernel_rfl
 have hm0 : 0 < m:=by rw [<- h2.lim.len];exact length_digits_pos.2 (by omega)
 have hm0' : ((m : Int) == 0) = false:=by simp;omega
 have hm:=h2.2.1;have hgs:=Zcb h1.small h2.small;obtain ⟨G,hG0⟩ : ∃ G,Nat.gcd za.natAbs zb.natAbs = G:=⟨_,rfl⟩;rw [hG0] at hg hgs;replace hg:=Za hg;obtain ⟨W0,hW0,hB0,q0,s0⟩:=Zaq w 64 #[.bool na,.slice A n c,.bool false,.slice B m d];have hA:=Za (And.intro (h1.below hB0) (h2.below hB0));clear h1 h2;obtain ⟨a0,a1,a2,a3,-⟩:=q0.four;replace q0:=Za q0;go_enter Tryz.func27,Tryz.ntmps27;go_wp2_with fail;refine (Za0 hA.out.1.lim hA.out.1.ok).mono ?_;rintro e w1 ⟨rfl,hb1⟩;have hB1 : Below w.heap.size w w1:=hB0.trans (hb1.mono hB0.size);replace hA:=Za (And.intro (hA.out.1.below hb1) (hA.out.2.below hb1));replace q0:=Za (Zc hb1 q0.out);clear a0 a1 a2 a3 hb1 hB0 hW0;obtain ⟨a0,a1,a2,a3,-⟩:=q0.out.four;go_wp2_with fail;refine (Za0 hA.out.2.lim hA.out.2.ok).mono ?_;rintro e w2 ⟨rfl,hb2⟩;have hB2 : Below w.heap.size w w2:=hB1.trans (hb2.mono hB1.size);replace hA:=Za (And.intro (hA.out.1.below hb2) (hA.out.2.below hb2));replace q0:=Za (Zc hb2 q0.out);clear a0 a1 a2 a3 hb2 hB1;obtain ⟨a0,a1,a2,a3,-⟩:=q0.out.four;go_wp2_with fail;refine (Zhe na false A B n c m d za zb w2 hA.out.1 hA.out.2).mono ?_;rw [hG0];rintro e w3 ⟨hb3,ng,Ag,kg,cg,code,rfl,hR⟩;have hG:=Za (hR.small (by rw [Int.natAbs_natCast];exact hgs));have hB3 : Below w.heap.size w w3:=hB2.trans (hb3.mono hB2.size);clear a0 a1 a2 a3 hb3 hB2 q0 hA hR;obtain ⟨W4,hW4,hB4,q4,kW,kB,s4⟩:=Z5 62 #[.bool ng,.slice Ag kg cg] hB3 hB3.size;replace hG:=Za (kW _ _ _ _ _ hG.out);clear kW kB;obtain ⟨g0,g1,-⟩:=q4.two;replace q4:=Za q4;go_wp2_with fail
 refine Z6 [] (fun W'=>W'.cell? ⟨w3.heap.size,0,none⟩ = some (.bool ng) /\ W'.cell? ⟨w3.heap.size,1,none⟩ = some (.slice Ag kg cg)) hmx ⟨g0,g1⟩ (fun _=>?_);refine Zre 1 [0] rfl (by kernel_rfl) ⟨g0,g1⟩ ?_
 (refine tk1 (v:=?_) rfl (Or.inl ⟨by kernel_rfl,?_⟩) ?_;rotate_left;(· intro W2 hSw;(try dsimp only at hSw);go_simp;try with_reducible rfl);try simp only [Act.put,putL_a,putL_z,putL_s,putG_a,putG_s,putG_z])
 refine tk0 ?_;refine Ze (i:=1) rfl (by kernel_rfl) (fun K hK=>?_);go_simp;refine (Zce 1 W4.drew (by omega) (by omega)).mono ?_;rintro e w5 ⟨hb5,n1,A1,k1,c1,rfl,hO⟩;replace hb5:=Zn hb5;have hB5 : Below w.heap.size w w5:=hB4.trans (hb5.mono (by show w.heap.size <= W4.heap.size;have:=hB3.size;omega));replace hG:=Za (hG.out.below hb5);replace q4:=Za (Zc hb5 q4.out);clear g0 g1;obtain ⟨g0,g1,-⟩:=q4.out.two;refine hK.out _ _ (fun _=>⟨g0,g1⟩) ?_;clear hK K
 try simp only [Act.put,putL_a,putL_z,putL_s]
 refine Ze (i:=2) rfl (by kernel_rfl) (fun K hK=>?_);go_simp;refine (Zc4 ng n1 Ag A1 kg cg k1 c1 _ _ w5 hG.out.lim hO.lim).mono ?_
 have hsm : Zdr ng n1 (digits (Int.natAbs ((G : Nat) : Int))) (digits (Int.natAbs 1)) = false:=by have h1:=hG.out.1;have h2:=hO.1;rw [h1,h2];unfold Zdr;have:=hg.out;simp [Zbs,Zbc];omega
 rw [hsm];rintro e w6 ⟨rfl,hb6⟩;have hB6 : Below w.heap.size w w6:=hB5.trans (hb6.mono hB5.size);replace q4:=Za (Zc hb6 q4.out);clear g0 g1;obtain ⟨g0,g1,-⟩:=q4.out.two;refine hK.out _ _ (fun _=>⟨g0,g1⟩) ?_;clear hK K
 try simp only [Act.put,putL_a,putL_z,putL_s]
 refine Zre 1 [3] rfl (by kernel_rfl) ⟨g0,g1⟩ ?_
 (refine tk1 (v:=?_) rfl (Or.inl ⟨by kernel_rfl,?_⟩) ?_;rotate_left;(· intro W2 hSw;(try dsimp only at hSw);go_simp;try with_reducible rfl);try simp only [Act.put,putL_a,putL_z,putL_s,putG_a,putG_s,putG_z])
 refine tk0 ?_;refine Zk (by kernel_rfl) ?_ _;refine OnlyNormal.normal ?_;go_wp2_with fail;go_ret;exact ⟨rfl,hB6⟩
theorem Zk5 (na nb : Bool) (A B : Option Addr) (n c m d : Nat) (la lb : List Nat) (w : World) (ha : Lim w A n c la) (hb : Lim w B m d lb) (x : Bool) (hx : okF na la nb lb = x) :
    Calls Tryz.prog 27 #[.agg #[.bool na,.slice A n c,.bool nb,.slice B m d]] w fun e w'=>e = .returned (.int .i64 (Zee x)) /\ Below w.heap.size w w':=by
 cases x
 ·simp only [okF,Bool.and_eq_false_iff,Bool.not_eq_false',decide_eq_false_iff_not] at hx
  by_cases h1 : okW na la = true
  case neg=>exact Zk0 na nb A B n c m d la lb w ha hb (by simpa using h1)
  by_cases h2 : okW nb lb = true
  case neg=>exact Zkt na nb A B n c m d la lb w ha hb h1 (by simpa using h2)
  have hA:=Wd.of_ok ha h1;have hD:=Wd.of_ok hb h2
  cases nb
  ·by_cases hz : 0 < lb.length
   ·have e3 : sg false (val lb) = (val lb : Nat):=rfl
    rw [e3] at hD;have h2':=(Zf0 hb.lt).1 h2;have e2 : (sg false (val lb)).natAbs = val lb:=Zv _ _;rw [e2] at h2'
    have hp : 0 < val lb:=by
     rw [h2'.2.2] at hz;exact length_digits_pos.1 hz
    refine Zk3 na A B n c m d _ _ w hA hD (by omega) ?_;rw [Zv,Int.natAbs_natCast]
    rcases hx with (((hx | hx) | hx) | hx) | hx
    ·rw [h1] at hx;cases hx
    ·rw [h2] at hx;cases hx
    ·cases hx
    ·omega
    ·exact hx
   ·have hl0 : lb = []:=List.eq_nil_of_length_eq_zero (by omega)
    subst hl0;have hm : m = 0:=hb.len.symm;subst hm;exact Zkv na A B n c d la w ha hb h1
  ·exact Zkm na A B n c m d la lb w ha hb h1 h2
 ·exact Zir na nb A B n c m d _ w (Zkk ha hb hx)
end Go.Proofs.YtkcbhbddgmkoiaaGreat
