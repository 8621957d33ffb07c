/- math/bits.LeadingZeros32. -/
import Derived.Test.YtdkhcplnoomcbaaGreatDoorZb01
import Derived.Test.YtdkhcplnoomcbaaGreatDoorZb02
set_option linter.unusedSimpArgs false
set_option linter.unusedVariables false
namespace Go.Proofs.YtdkhcplnoomcbaaGreatDoor
open Go.RowKit
theorem Zty(x:Nat)(hx:x<18446744073709551616):x<2^Lib.bitLen x:=by
 induction x using Nat.strongRecOn with
 | _ x ih =>
  by_cases h0:x=0;subst h0;exact Nat.pow_pos Gk;rw[Lib.bitLen_half x h0 hx,Nat.add_comm,Nat.pow_succ];have:=ih (x/2) Gk Gk;omega
theorem Zwf(x:Nat)(w:World)(h0:0<x)(h1:x<4294967296) :
    Calls Tryz.prog 138 #[limb x] w λe w'=>∃ s:Nat,e=.returned (.int .i64 (s:Int))/\s<32/\x<2^(32-s)/\w'=w:=by
 have l:Lib.bitLen x<=32:=Lib.bitLen_le x 32 Gk Gk;have hs:=Zty x Gk
 have o:1<=Lib.bitLen x:=by
  rcases Nat.eq_zero_or_pos (Lib.bitLen x)with h|h;rw[h]at hs;simp at hs;omega;exact h
 have f:x<2^(32-(32-Lib.bitLen x)):=by rw[show 32-(32-Lib.bitLen x)=Lib.bitLen x by omega];exact hs
 clear hs;have e8:(32-(Lib.bitLen x:Int))=((32-Lib.bitLen x:Nat):Int):=Gk;obtain⟨b,hb⟩:=Gz (Lib.bitLen x)
 have HC:Hid (∀ W:World,Calls Tryz.prog 158 #[limb x] W λe w'=>e=.returned (.int .i64 (b:Int))/\w'=W):=λW=>by
  have:=Zt5 (x:Int) W Gk Gk;rw[show ((x:Int)).toNat=x from rfl,hb]at this;exact this
 rw[hb]at l o f e8;clear hb;replace e8:=Zb e8;go_in;go_wp2_with (go_at_call 158;refine(HC.out _).mono ?_;rintro e w' ⟨rfl,rfl⟩);go_ret;exact⟨32-b,Zih e8.out,by omega,f,rfl⟩
