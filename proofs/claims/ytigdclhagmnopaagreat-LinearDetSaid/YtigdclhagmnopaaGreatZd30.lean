/- The reference of frac: Neg; the reference of linear: det. -/
import Derived.Test.YtigdclhagmnopaaGreatZd29
set_option maxRecDepth 100000
set_option maxHeartbeats 2000000
set_option linter.unusedSimpArgs false
set_option linter.unusedVariables false
namespace Go.Proofs.YtigdclhagmnopaaGreat
open Go.RowKit
attribute [local go_sem] Zg
theorem Zoe (na nb : Bool) (A B : Option Addr) (n c m d : Nat) (a : Rat) (w : World) (ha : Fr w na A n c nb B m d a) :
    Calls Tryz.prog 38 #[.agg #[.bool na,.slice A n c,.bool nb,.slice B m d]] w (Zed w (-a)):=by
 obtain ⟨W0,hW0,hB0,⟨q0,q1⟩,s0⟩:=Zh7 w 45 #[.bool na,.slice A n c,.bool nb,.slice B m d] 45 #[.bool false,.slice none 0 0,.bool false,.slice none 0 0];have hA:=Za (ha.below hB0);have hsm : Hid ((-a.num).natAbs < pw 4096):=Za (by rw [Int.natAbs_neg];exact ha.1.small);clear ha;obtain ⟨a0,a1,a2,a3,-⟩:=q0.four;have hq:=Za (And.intro q0 q1);clear q0 q1;go_enter Tryz.func38,Tryz.ntmps38;go_wp2_with fail;refine (Zln na nb A B n c m d a W0 hA.out).mono ?_;rintro e w1 ⟨rfl,hb1⟩;have hB1:=hB0.trans (hb1.mono hB0.size);have s1:=hb1.size;replace hA:=Za (hA.out.below hb1);obtain ⟨q0,q1⟩:=hq.out;replace q0:=Zc hb1 q0;replace q1:=Zc hb1 q1;clear hW0 hb1 a0 a1 a2 a3 hq hB0;obtain ⟨a0,a1,a2,a3,-⟩:=q0.four;have hq:=Za (And.intro q0 q1);clear q0 q1;go_wp2_with fail;refine (Zr8 na A n c a.num w1 hA.out.1).mono ?_;rintro e w2 ⟨hb2,n2,A2,k2,c2,code,rfl,hR⟩;have hN:=hR.small hsm.out;have hcode:=hR.code0 hsm.out;subst hcode;have hB2:=hB1.trans (hb2.mono hB1.size);have s2:=hb2.size;replace hA:=Za (hA.out.below hb2);obtain ⟨q0,q1⟩:=hq.out;replace q0:=Zc hb2 q0;replace q1:=Zc hb2 q1;clear hb2 a0 a1 a2 a3 hq hB1 hR;obtain ⟨V,hV,hBV,qv,kW,kB,sV⟩:=Zs 43 #[.bool n2,.slice A2 k2 c2] hB2 hB2.size;replace q0:=kB _ _ _ q0;replace q1:=kB _ _ _ q1;replace hN:=Za (kW _ _ _ _ _ hN);have hD:=Za (kW _ _ _ _ _ hA.out.2);clear kW kB hA hB2;obtain ⟨a0,a1,a2,a3,-⟩:=q0.four;obtain ⟨v0,v1,v2,v3⟩:=qv.two;obtain ⟨r0,r1,r2,r3,r4,r5,r6,r7⟩:=q1.four;go_wp2_with fail
 obtain ⟨W7,hW7,hB7,q3,kW,-,s7⟩:=Z0 n2 A2 k2 c2 nb B m d hBV (by omega) q1;rw [hW7];obtain ⟨r0,r1,r2,r3,-⟩:=q3.four;refine bodyPost_ret (v:=.tuple #[.agg #[.bool n2,.slice A2 k2 c2,.bool nb,.slice B m d],.int .i64 0]) (by simp [results,Tryz.results38,go_sem,r0,r1,r2,r3]) rfl ?_;exact ⟨hB7,_,_,_,_,_,_,_,_,rfl,kW _ _ _ _ _ hN.out,kW _ _ _ _ _ hD.out⟩
theorem BdR.mono {C D C' D' m : Nat} {R : List (List Rat)} (h : BdR C D m R) (hC : C <= C') (hD : D <= D') : BdR C' D' m R:=⟨h.1,fun i j=>⟨Nat.lt_of_lt_of_le (h.2 i j).1 hC,Nat.lt_of_lt_of_le (h.2 i j).2 hD⟩⟩
theorem Zgv {C D C' D' m : Nat} (hC : C <= C') (hD : D <= D') : ∀ (f c r : Nat) (R : List (List Rat)),okR C D m f c r R -> okR C' D' m f c r R
 | 0,_,_,_,h=>BdR.mono h hC hD
 | f + 1,c,r,R,h=>⟨h.1.mono hC hD,h.2.imp id (fun ⟨h1,h2⟩=>⟨fun e=>Zgv hC hD f _ _ _ (h1 e),fun e=>Zgv hC hD f _ _ _ (h2 e)⟩)⟩
end Go.Proofs.YtigdclhagmnopaaGreat
