/- Reference of frac: added. -/
import Derived.Test.YtkippclhbkjbmaaZn30
import Derived.Test.YtkippclhbkjbmaaZn31
set_option linter.unusedSimpArgs false
set_option linter.unusedVariables false

namespace Go.Proofs.Ytkippclhbkjbmaa
open Go.RowKit
attribute [local go_sem] add_lit

theorem Fr.keep {w W : World} {na : Bool} {A : Option Addr} {n c : Nat} {nb : Bool} {B : Option Addr} {m d : Nat} {r : Rat} (h : Fr w na A n c nb B m d r) (k : ∀ na A n c z, Wd w na A n c z → Wd W na A n c z) : Fr W na A n c nb B m d r := ⟨k _ _ _ _ _ h.1, k _ _ _ _ _ h.2⟩
theorem sm_add {x y z v : Int} (hx : x.natAbs < pw 1000) (hy : y.natAbs < pw 1000) (hz : z.natAbs < pw 1000) (hv : v.natAbs < pw 1000) : (x * y + z * v).natAbs < pw 4096 := by
  have h1 := sm_mul hx hy
  have h2 := sm_mul hz hv
  have h3 := pw2001
  omega
theorem rat_add (a b : Rat) : Rat.divInt (a.num * b.den + b.num * a.den) ((a.den : Int) * (b.den : Nat)) = a + b := by
  have ha : ((a.den : Nat) : Int) ≠ 0 := by have := a.den_pos; omega
  have hb : ((b.den : Nat) : Int) ≠ 0 := by have := b.den_pos; omega
  rw [← Rat.divInt_add_divInt _ _ ha hb, Rat.num_divInt_den, Rat.num_divInt_den]

end Go.Proofs.Ytkippclhbkjbmaa
