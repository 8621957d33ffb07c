/- Reference of frac: Check, both, Cmp of raw fractions. Rows -/
import Derived.Test.YtaioanjcjijckaaGreatZl37
set_option maxRecDepth 100000
set_option maxHeartbeats 1000000
set_option linter.unusedSimpArgs false
set_option linter.unusedVariables false
namespace Go.Proofs.YtaioanjcjijckaaGreat
open Go.RowKit
attribute [local go_sem] Zg
theorem Zmb (na nb : Bool) (A B : Option Addr) (n c m d : Nat) (la lb : List Nat) (w : World) (ha : Lim w A n c la) (hb : Lim w B m d lb) (hbad : okW na la = false) :
    Calls Tryz.prog 37 #[.agg #[.bool na,.slice A n c,.bool nb,.slice B m d]] w fun e w'=>e = .returned (.int .i64 8) /\ Below w.heap.size w w':=by
 have hmx : Tryz.prog.follows .mixedOrders = true:=by kernel_rfl
 obtain ⟨W0,hW0,hB0,q0,s0⟩:=Zav w 29 #[.bool na,.slice A n c,.bool nb,.slice B m d];have hA:=Za (ha.below hB0);clear ha hb;obtain ⟨a0,a1,a2,a3,-⟩:=q0.four;go_enter Tryz.func37,Tryz.ntmps37;go_wp2_with fail;refine (Zib hA.out hbad).mono ?_;rintro e w1 ⟨rfl,hb1⟩;have hB1 : Below w.heap.size w w1:=hB0.trans (hb1.mono hB0.size);clear hW0 a0 a1 a2 a3;obtain ⟨a0,a1,a2,a3,-⟩:=(Zb hb1 q0).four;go_wp2_with fail;go_ret;exact ⟨rfl,hB1⟩
theorem Zl2 (na nb : Bool) (A B : Option Addr) (n c m d : Nat) (la lb : List Nat) (w : World) (ha : Lim w A n c la) (hb : Lim w B m d lb) (hk : okW na la = true) (hbad : okW nb lb = false) :
    Calls Tryz.prog 37 #[.agg #[.bool na,.slice A n c,.bool nb,.slice B m d]] w fun e w'=>e = .returned (.int .i64 8) /\ Below w.heap.size w w':=by
 have hmx : Tryz.prog.follows .mixedOrders = true:=by kernel_rfl
 obtain ⟨W0,hW0,hB0,q0,s0⟩:=Zav w 29 #[.bool na,.slice A n c,.bool nb,.slice B m d];have hA:=Za (ha.below hB0);have hD:=Za (hb.below hB0);clear ha hb;obtain ⟨a0,a1,a2,a3,-⟩:=q0.four;go_enter Tryz.func37,Tryz.ntmps37;go_wp2_with fail;refine (Zae hA.out hk).mono ?_;rintro e w1 ⟨rfl,hb1⟩;have hB1 : Below w.heap.size w w1:=hB0.trans (hb1.mono hB0.size);replace q0:=Zb hb1 q0;replace hA:=Za (hA.out.below hb1);replace hD:=Za (hD.out.below hb1);clear hW0 a0 a1 a2 a3 hb1;obtain ⟨a0,a1,a2,a3,-⟩:=q0.four;go_wp2_with fail;refine (Zib hD.out hbad).mono ?_;rintro e w2 ⟨rfl,hb2⟩;have hB2 : Below w.heap.size w w2:=hB1.trans (hb2.mono hB1.size);replace q0:=Zb hb2 q0;clear a0 a1 a2 a3 hb2;obtain ⟨a0,a1,a2,a3,-⟩:=q0.four;go_wp2_with fail;go_ret;exact ⟨rfl,hB2⟩
theorem Zlv (na : Bool) (A B : Option Addr) (n c m d : Nat) (la lb : List Nat) (w : World) (ha : Lim w A n c la) (hb : Lim w B m d lb) (hk : okW na la = true) (hk2 : okW true lb = true) :
    Calls Tryz.prog 37 #[.agg #[.bool na,.slice A n c,.bool true,.slice B m d]] w fun e w'=>e = .returned (.int .i64 8) /\ Below w.heap.size w w':=by
 have hmx : Tryz.prog.follows .mixedOrders = true:=by kernel_rfl
 obtain ⟨W0,hW0,hB0,q0,s0⟩:=Zav w 29 #[.bool na,.slice A n c,.bool true,.slice B m d];have hA:=Za (ha.below hB0);have hD:=Za (hb.below hB0);clear ha hb;obtain ⟨a0,a1,a2,a3,-⟩:=q0.four;go_enter Tryz.func37,Tryz.ntmps37;go_wp2_with fail;refine (Zae hA.out hk).mono ?_;rintro e w1 ⟨rfl,hb1⟩;have hB1 : Below w.heap.size w w1:=hB0.trans (hb1.mono hB0.size);replace q0:=Zb hb1 q0;replace hA:=Za (hA.out.below hb1);replace hD:=Za (hD.out.below hb1);clear hW0 a0 a1 a2 a3 hb1;obtain ⟨a0,a1,a2,a3,-⟩:=q0.four;go_wp2_with fail;refine (Zae hD.out hk2).mono ?_;rintro e w2 ⟨rfl,hb2⟩;have hB2 : Below w.heap.size w w2:=hB1.trans (hb2.mono hB1.size);replace q0:=Zb hb2 q0;clear a0 a1 a2 a3 hb2;obtain ⟨a0,a1,a2,a3,-⟩:=q0.four;go_wp2_with fail;go_ret;exact ⟨rfl,hB2⟩
theorem Zl5 (na : Bool) (A B : Option Addr) (n c d : Nat) (la : List Nat) (w : World) (ha : Lim w A n c la) (hb : Lim w B 0 d []) (hk : okW na la = true) :
    Calls Tryz.prog 37 #[.agg #[.bool na,.slice A n c,.bool false,.slice B 0 d]] w fun e w'=>e = .returned (.int .i64 8) /\ Below w.heap.size w w':=by
 have hmx : Tryz.prog.follows .mixedOrders = true:=by kernel_rfl
 obtain ⟨W0,hW0,hB0,q0,s0⟩:=Zav w 29 #[.bool na,.slice A n c,.bool false,.slice B 0 d];have hA:=Za (ha.below hB0);have hD:=Za (hb.below hB0);clear ha hb;obtain ⟨a0,a1,a2,a3,-⟩:=q0.four;go_enter Tryz.func37,Tryz.ntmps37;go_wp2_with fail;refine (Zae hA.out hk).mono ?_;rintro e w1 ⟨rfl,hb1⟩;have hB1 : Below w.heap.size w w1:=hB0.trans (hb1.mono hB0.size);replace q0:=Zb hb1 q0;replace hA:=Za (hA.out.below hb1);replace hD:=Za (hD.out.below hb1);clear hW0 a0 a1 a2 a3 hb1;obtain ⟨a0,a1,a2,a3,-⟩:=q0.four;go_wp2_with fail;refine (Zae hD.out (by decide)).mono ?_;rintro e w2 ⟨rfl,hb2⟩;have hB2 : Below w.heap.size w w2:=hB1.trans (hb2.mono hB1.size);replace q0:=Zb hb2 q0;clear a0 a1 a2 a3 hb2;obtain ⟨a0,a1,a2,a3,-⟩:=q0.four;go_wp2_with fail;go_ret;exact ⟨rfl,hB2⟩
theorem Zme (na : Bool) (A B : Option Addr) (n c m d : Nat) (za zb : Int) (w : World) (h1 : Wd w na A n c za) (h2 : Wd w false B m d zb) (hp : 0 < zb) (hg : Nat.gcd za.natAbs zb.natAbs ≠ 1) :
    Calls Tryz.prog 37 #[.agg #[.bool na,.slice A n c,.bool false,.slice B m d]] w fun e w'=>e = .returned (.int .i64 8) /\ Below w.heap.size w w':=by
 have hmx : Tryz.prog.follows .mixedOrders = true:=by kernel_rfl
 have hm0 : 0 < m:=by rw [<- h2.lim.len];exact length_digits_pos.2 (by omega)
 have hm0' : ((m : Int) == 0) = false:=by simp;omega
 have hm:=h2.2.1;have hgs:=Zcl h1.small h2.small;obtain ⟨G,hG0⟩ : ∃ G,Nat.gcd za.natAbs zb.natAbs = G:=⟨_,rfl⟩;rw [hG0] at hg hgs;replace hg:=Za hg;obtain ⟨W0,hW0,hB0,q0,s0⟩:=Zav w 29 #[.bool na,.slice A n c,.bool false,.slice B m d];have hA:=Za (And.intro (h1.below hB0) (h2.below hB0));clear h1 h2;obtain ⟨a0,a1,a2,a3,-⟩:=q0.four;replace q0:=Za q0;go_enter Tryz.func37,Tryz.ntmps37;go_wp2_with fail;refine (Zae hA.out.1.lim hA.out.1.ok).mono ?_;rintro e w1 ⟨rfl,hb1⟩;have hB1 : Below w.heap.size w w1:=hB0.trans (hb1.mono hB0.size);replace hA:=Za (And.intro (hA.out.1.below hb1) (hA.out.2.below hb1));replace q0:=Za (Zb hb1 q0.out);clear a0 a1 a2 a3 hb1 hB0 hW0;obtain ⟨a0,a1,a2,a3,-⟩:=q0.out.four;go_wp2_with fail;refine (Zae hA.out.2.lim hA.out.2.ok).mono ?_;rintro e w2 ⟨rfl,hb2⟩;have hB2 : Below w.heap.size w w2:=hB1.trans (hb2.mono hB1.size);replace hA:=Za (And.intro (hA.out.1.below hb2) (hA.out.2.below hb2));replace q0:=Za (Zb hb2 q0.out);clear a0 a1 a2 a3 hb2 hB1;obtain ⟨a0,a1,a2,a3,-⟩:=q0.out.four;go_wp2_with fail;refine (Zh4 na false A B n c m d za zb w2 hA.out.1 hA.out.2).mono ?_;rw [hG0];rintro e w3 ⟨hb3,ng,Ag,kg,cg,code,rfl,hR⟩;have hG:=Za (hR.small (by rw [Int.natAbs_natCast];exact hgs));have hB3 : Below w.heap.size w w3:=hB2.trans (hb3.mono hB2.size);clear a0 a1 a2 a3 hb3 hB2 q0 hA hR;obtain ⟨W4,hW4,hB4,q4,kW,kB,s4⟩:=Z5 27 #[.bool ng,.slice Ag kg cg] hB3 hB3.size;replace hG:=Za (kW _ _ _ _ _ hG.out);clear kW kB;obtain ⟨g0,g1,-⟩:=q4.two;replace q4:=Za q4;go_wp2_with fail
 refine Z0 [] (fun W'=>W'.cell? ⟨w3.heap.size,0,none⟩ = some (.bool ng) /\ W'.cell? ⟨w3.heap.size,1,none⟩ = some (.slice Ag kg cg)) hmx ⟨g0,g1⟩ (fun _=>?_);refine Zty 1 [0] rfl (by kernel_rfl) ⟨g0,g1⟩ ?_
 (refine tk1 (v:=?_) rfl (Or.inl ⟨by kernel_rfl,?_⟩) ?_;rotate_left;(· intro W2 hSw;(try dsimp only at hSw);go_simp;try with_reducible rfl);try simp only [Act.put,putL_a,putL_z,putL_s,putG_a,putG_s,putG_z])
 refine tk0 ?_;refine Ze (i:=1) rfl (by kernel_rfl) (fun K hK=>?_);go_simp;refine (Zbn 1 W4.drew (by omega) (by omega)).mono ?_;rintro e w5 ⟨hb5,n1,A1,k1,c1,rfl,hO⟩;replace hb5:=Zq hb5;have hB5 : Below w.heap.size w w5:=hB4.trans (hb5.mono (by show w.heap.size <= W4.heap.size;have:=hB3.size;omega));replace hG:=Za (hG.out.below hb5);replace q4:=Za (Zb hb5 q4.out);clear g0 g1;obtain ⟨g0,g1,-⟩:=q4.out.two;refine hK.out _ _ (fun _=>⟨g0,g1⟩) ?_;clear hK K
 try simp only [Act.put,putL_a,putL_z,putL_s]
 refine Ze (i:=2) rfl (by kernel_rfl) (fun K hK=>?_);go_simp;refine (Zdc ng n1 Ag A1 kg cg k1 c1 _ _ w5 hG.out.lim hO.lim).mono ?_
 have hsm : Zd2 ng n1 (digits (Int.natAbs ((G : Nat) : Int))) (digits (Int.natAbs 1)) = false:=by have h1:=hG.out.1;have h2:=hO.1;rw [h1,h2];unfold Zd2;have:=hg.out;simp [Zbc,Zaw];omega
 rw [hsm];rintro e w6 ⟨rfl,hb6⟩;have hB6 : Below w.heap.size w w6:=hB5.trans (hb6.mono hB5.size);replace q4:=Za (Zb hb6 q4.out);clear g0 g1;obtain ⟨g0,g1,-⟩:=q4.out.two;refine hK.out _ _ (fun _=>⟨g0,g1⟩) ?_;clear hK K
 try simp only [Act.put,putL_a,putL_z,putL_s]
 refine Zty 1 [3] rfl (by kernel_rfl) ⟨g0,g1⟩ ?_
 (refine tk1 (v:=?_) rfl (Or.inl ⟨by kernel_rfl,?_⟩) ?_;rotate_left;(· intro W2 hSw;(try dsimp only at hSw);go_simp;try with_reducible rfl);try simp only [Act.put,putL_a,putL_z,putL_s,putG_a,putG_s,putG_z])
 refine tk0 ?_;refine Zj (by kernel_rfl) ?_ _;refine OnlyNormal.normal ?_;go_wp2_with fail;go_ret;exact ⟨rfl,hB6⟩
theorem Zmi (na nb : Bool) (A B : Option Addr) (n c m d : Nat) (la lb : List Nat) (w : World) (ha : Lim w A n c la) (hb : Lim w B m d lb) (x : Bool) (hx : okF na la nb lb = x) :
    Calls Tryz.prog 37 #[.agg #[.bool na,.slice A n c,.bool nb,.slice B m d]] w fun e w'=>e = .returned (.int .i64 (Zet x)) /\ Below w.heap.size w w':=by
 cases x
 ·simp only [okF,Bool.and_eq_false_iff,Bool.not_eq_false',decide_eq_false_iff_not] at hx
  by_cases h1 : okW na la = true
  case neg=>exact Zmb na nb A B n c m d la lb w ha hb (by simpa using h1)
  by_cases h2 : okW nb lb = true
  case neg=>exact Zl2 na nb A B n c m d la lb w ha hb h1 (by simpa using h2)
  have hA:=Wd.of_ok ha h1;have hD:=Wd.of_ok hb h2
  cases nb
  ·by_cases hz : 0 < lb.length
   ·have e3 : sg false (val lb) = (val lb : Nat):=rfl
    rw [e3] at hD;have h2':=(Zgs hb.lt).1 h2;have e2 : (sg false (val lb)).natAbs = val lb:=Zw _ _;rw [e2] at h2'
    have hp : 0 < val lb:=by
     rw [h2'.2.2] at hz;exact length_digits_pos.1 hz
    refine Zme na A B n c m d _ _ w hA hD (by omega) ?_;rw [Zw,Int.natAbs_natCast]
    rcases hx with (((hx | hx) | hx) | hx) | hx
    ·rw [h1] at hx;cases hx
    ·rw [h2] at hx;cases hx
    ·cases hx
    ·omega
    ·exact hx
   ·have hl0 : lb = []:=List.eq_nil_of_length_eq_zero (by omega)
    subst hl0;have hm : m = 0:=hb.len.symm;subst hm;exact Zl5 na A B n c d la w ha hb h1
  ·exact Zlv na A B n c m d la lb w ha hb h1 h2
 ·exact Zgn na nb A B n c m d _ w (Zlt ha hb hx)
theorem Zpx (na nb : Bool) (A B : Option Addr) (n c m d : Nat) (w : World) (hn : n <= maxLen) (hm : m <= maxLen) :
    Calls Tryz.prog 42 #[.agg #[.bool na,.slice A n c,.bool nb,.slice B m d]] w fun e w'=>e = .returned (.int .i64 (max n m : Nat)) /\ Below w.heap.size w w':=by
 unfold maxLen at hn hm;obtain ⟨W0,hW0,hB0,q0,s0⟩:=Zav w 29 #[.bool na,.slice A n c,.bool nb,.slice B m d];obtain ⟨a0,a1,a2,a3,-⟩:=q0.four
 have hx : max (n : Int) (m : Int) = ((max n m : Nat) : Int):=by omega
 go_enter Tryz.func42,Tryz.ntmps42;go_wp2_with fail;go_ret;exact ⟨rfl,(by first | exact hB0 | exact Zh hB0 _)⟩
end Go.Proofs.YtaioanjcjijckaaGreat
