/- What a region with one call and one new variable for a -/
import Derived.Test.YtpehacgjclkhmaaGreatZy35
set_option linter.unusedSimpArgs false
set_option linter.unusedVariables false
namespace Go.Proofs.YtpehacgjclkhmaaGreat
open Go.RowKit
def Zdf (B0 : Nat) (q : Rat) (ca mv x0 x1 al as_ : Nat) (i : Nat) (v : Value) (w : World) : Prop:=
 if i = ca \/ i = mv then ∃ na A n c nb B m d,v = .tuple #[.agg #[.bool na,.slice A n c,.bool nb,.slice B m d],.int .i64 0] /\ Fr w na A n c nb B m d q
 else if i = x0 then ∃ na A n c nb B m d,v = .agg #[.bool na,.slice A n c,.bool nb,.slice B m d] /\ Fr w na A n c nb B m d q
 else if i = x1 \/ i = as_ then v = .int .i64 0
 else if i = al then ∃ g,v = .pointer (some ⟨g,0,none⟩) /\ B0 <= g /\ Blk w g 29 #[.bool false,.slice none 0 0,.bool false,.slice none 0 0]
 else True
theorem Zkt {B0 : Nat} {q : Rat} {ca mv x0 x1 al as_ i : Nat} {v : Value} {w w' : World} (hb : Below w.heap.size w w') (h : Zdf B0 q ca mv x0 x1 al as_ i v w) : Zdf B0 q ca mv x0 x1 al as_ i v w':=by
 unfold Zdf at h ⊢
 split at h
 ·rename_i h1;rw [if_pos h1]
  obtain ⟨na,A,n,c,nb,B,m,d,e,hf⟩:=h;exact ⟨na,A,n,c,nb,B,m,d,e,hf.below hb⟩
 ·rename_i h1;rw [if_neg h1]
  split at h
  ·rename_i h2;rw [if_pos h2]
   obtain ⟨na,A,n,c,nb,B,m,d,e,hf⟩:=h;exact ⟨na,A,n,c,nb,B,m,d,e,hf.below hb⟩
  ·rename_i h2;rw [if_neg h2]
   split at h
   ·rename_i h3;rw [if_pos h3];exact h
   ·rename_i h3;rw [if_neg h3]
    split at h
    ·rename_i h4;rw [if_pos h4]
     obtain ⟨g,e,h5,h6⟩:=h;exact ⟨g,e,h5,Zc hb h6⟩
    ·rename_i h4;rw [if_neg h4];trivial
theorem Fr.zero_iff {w : World} {na : Bool} {A : Option Addr} {n c : Nat} {nb : Bool} {B : Option Addr} {m d : Nat} {r : Rat} (h : Fr w na A n c nb B m d r) : n = 0 ↔ r = 0:=by
 have h1:=h.1.lim.len;have h2:=length_digits_pos (v:=r.num.natAbs)
 constructor
 ·intro hn
  have : r.num = 0:=by omega
  exact Rat.num_eq_zero.1 this
 ·rintro rfl
  have : (0 : Rat).num.natAbs = 0:=rfl;omega
end Go.Proofs.YtpehacgjclkhmaaGreat
