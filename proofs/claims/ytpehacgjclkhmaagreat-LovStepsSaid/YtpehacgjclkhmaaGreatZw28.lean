/- Reference of frac: Reduced, product with any denominator -/
import Derived.Test.YtpehacgjclkhmaaGreatZw26
set_option maxRecDepth 100000
set_option maxHeartbeats 1000000
set_option linter.unusedSimpArgs false
set_option linter.unusedVariables false
namespace Go.Proofs.YtpehacgjclkhmaaGreat
open Go.RowKit
attribute [local go_sem] Zg
theorem Zgx (a b : Rat) (h : b ≠ 0) : Rat.divInt (a.num * b.den) ((a.den : Int) * b.num) = a / b:=by
 rw [Rat.divInt_eq_div,Rat.intCast_mul,Rat.intCast_mul,Rat.intCast_natCast,Rat.intCast_natCast]
 have e0 : ∀ x : Rat,((x.num : Int) : Rat) = x * ((x.den : Nat) : Rat):=fun x=>by
  have h1 : ((x.num : Int) : Rat) / ((x.den : Nat) : Rat) = x:=by have:=Rat.num_divInt_den x;rw [Rat.divInt_eq_div,Rat.intCast_natCast] at this;exact this
  have h2 : ((x.den : Nat) : Rat) ≠ 0:=by intro h;have : x.den = 0:=by exact_mod_cast h
                                          have:=x.den_pos;omega
  rw [<- h1];grind
 have d : ∀ x : Rat,((x.den : Nat) : Rat) ≠ 0:=fun x h=>by
  have : x.den = 0:=by exact_mod_cast h
  have:=x.den_pos;omega
 rw [e0 a,e0 b];have da:=d a;have db:=d b
 grind
theorem Ziy (a b : Rat) (h : b ≠ 0) : ((a.den : Int) * b.num) ≠ 0:=by
 have h1:=a.den_pos
 have h2 : b.num ≠ 0:=fun e=>h (Rat.num_eq_zero.1 e)
 exact Int.mul_ne_zero (by omega) h2
theorem Zq4 (na nb na' nb' : Bool) (A B A' B' : Option Addr) (n c m d n' c' m' d' : Nat) (a b : Rat) (w : World) (ha : Fr w na A n c nb B m d a) (hb : Fr w na' A' n' c' nb' B' m' d' b) (sa : Sm a) (sb : Sm b) :
    Calls Tryz.prog 26 #[.agg #[.bool na,.slice A n c,.bool nb,.slice B m d],.agg #[.bool na',.slice A' n' c',.bool nb',.slice B' m' d']] w (Zee w (a + b)):=by
 obtain ⟨W0,hW0,hB0,⟨q0,q1,q2⟩,s0⟩:=Zb8 w 29 #[.bool na,.slice A n c,.bool nb,.slice B m d] 29 #[.bool na',.slice A' n' c',.bool nb',.slice B' m' d'] 29 #[.bool false,.slice none 0 0,.bool false,.slice none 0 0];have hA:=ha.below hB0;have hD:=hb.below hB0;clear ha hb;have hG:=Zna na nb na' nb' A B A' B' n c m d n' c' m' d' a b W0 hA hD sa sb;replace hG:=Zb hG;clear sa sb hA hD;obtain ⟨a0,a1,a2,a3,-⟩:=q0.four;obtain ⟨b0,b1,b2,b3,-⟩:=q1.four;replace q2:=Zb q2;clear q0 q1;go_enter Tryz.func26,Tryz.ntmps26;go_wp2_with fail;refine hG.out.mono ?_;clear hG;rintro e w2 ⟨hb2,nx,Ax,kx,cx,ny,Ay,ky,cy,rfl,hF⟩;have hB2 : Below w.heap.size w w2:=hB0.trans (hb2.mono hB0.size);have s2 : W0.heap.size <= w2.heap.size:=hb2.size;replace q2:=Zb (Zd hb2 q2.out);replace hF:=Zb hF;clear a0 a1 a2 a3 b0 b1 b2 b3 hb2;obtain ⟨c20,c21,c22,c23,f20,f21,f22,f23⟩:=q2.out.four;go_wp2_with fail;obtain ⟨W7,hW7,hB7,q3,kW,-,s7⟩:=Zag nx Ax kx cx ny Ay ky cy hB2 (by omega) q2.out;rw [hW7];obtain ⟨r0,r1,r2,r3,-⟩:=q3.four;refine bodyPost_ret (v:=.tuple #[.agg #[.bool nx,.slice Ax kx cx,.bool ny,.slice Ay ky cy],.int .i64 0]) (by simp [results,Tryz.results26,go_sem,r0,r1,r2,r3]) rfl ?_;exact ⟨hB7,_,_,_,_,_,_,_,_,rfl,kW _ _ _ _ _ hF.out.1,kW _ _ _ _ _ hF.out.2⟩
end Go.Proofs.YtpehacgjclkhmaaGreat
