/- math/bits.LeadingZeros32. -/
import Derived.Test.YthappeninglakaaZq08
import Derived.Test.YthappeninglakaaZq09
set_option linter.unusedSimpArgs false
set_option linter.unusedVariables false
namespace Go.Proofs.Ythappeninglakaa
open Go.RowKit
theorem Zr3 (x : Nat) (hx : x < 18446744073709551616) : x < 2 ^ Lib.bitLen x:=by
 induction x using Nat.strongRecOn with
 | _ x ih =>
  by_cases h0 : x = 0
  ·subst h0;exact Nat.pow_pos (by omega)
  ·rw [Lib.bitLen_half x h0 hx,Nat.add_comm,Nat.pow_succ]
   have:=ih (x / 2) (by omega) (by omega);omega
theorem Zs3 (x : Nat) (w : World) (h0 : 0 < x) (h1 : x < 4294967296) :
    Calls Try.prog 74 #[limb x] w fun e w'=>∃ s : Nat,e = .returned (.int .i64 (s : Int)) /\ s < 32 /\ x < 2 ^ (32 - s) /\ w' = w:=by
 have l : Lib.bitLen x <= 32:=Lib.bitLen_le x 32 (by omega) (by omega);have hs:=Zr3 x (by omega)
 have hl1 : 1 <= Lib.bitLen x:=by
  rcases Nat.eq_zero_or_pos (Lib.bitLen x) with h | h
  ·rw [h] at hs;simp at hs;omega
  ·exact h
 have hlt : x < 2 ^ (32 - (32 - Lib.bitLen x)):=by rw [show 32 - (32 - Lib.bitLen x) = Lib.bitLen x by omega];exact hs
 clear hs
 have e8 : (32 - (Lib.bitLen x : Int)) = ((32 - Lib.bitLen x : Nat) : Int):=by omega
 obtain ⟨b,hb⟩ : ∃ b,Lib.bitLen x = b:=⟨_,rfl⟩
 have HC : Hid (∀ W : World,Calls Try.prog 90 #[limb x] W fun e w'=>e = .returned (.int .i64 (b : Int)) /\ w' = W):=fun W=>by
  have:=Zqt (x : Int) W (by omega) (by omega);rw [show ((x : Int)).toNat = x from rfl,hb] at this;exact this
 rw [hb] at l hl1 hlt e8;clear hb;replace e8:=Zb e8;go_enter Try.func74,Try.ntmps74;go_wp2_with (go_at_call 90;refine (HC.out _).mono ?_;rintro e w' ⟨rfl,rfl⟩);go_ret;exact ⟨32 - b,Zfa e8.out,by omega,hlt,rfl⟩
end Go.Proofs.Ythappeninglakaa
