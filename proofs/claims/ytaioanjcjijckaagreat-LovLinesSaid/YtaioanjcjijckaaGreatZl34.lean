/- The reference of linear: clear. -/
import Derived.Deep.LoopGhost
import Derived.Test.YtaioanjcjijckaaGreatZl33
set_option linter.unusedSimpArgs false
set_option linter.unusedVariables false
namespace Go.Proofs.YtaioanjcjijckaaGreat
open Go.RowKit
attribute [local go_sem] Zg
theorem Zte (L : List RF) (i j : Nat) : Zk (L.map RF.q) i j = (Zbz L i)[j]?.getD 0:=by unfold Zk Zbz;rw [List.getElem?_map]
theorem Zg5 {α : Type} {L : List α} {i : Nat} (h : i < L.length) : ∃ r,L[i]? = some r:=⟨_,List.getElem?_eq_getElem h⟩
theorem Zgv {α β : Type} {f : α -> β} {L : List α} {i : Nat} {r s : α} (hr : L[i]? = some r) (h : f s = f r) : (L.set i s).map f = L.map f:=by
 rw [List.map_set]
 apply List.ext_getElem?
 intro j;rw [List.getElem?_set]
 split
 ·rename_i hij
  subst hij;have hi:=(List.getElem?_eq_some_iff.1 hr).1;rw [if_pos (by simpa using hi),List.getElem?_map,hr,h];rfl
 ·rfl
theorem Zsh {L : List RF} {i j : Nat} {r : RF} (hi : i < L.length) : Zbz (L.set i r) j = if j = i then r.q else Zbz L j:=by
 unfold Zbz;rw [List.getElem?_set]
 by_cases h : i = j
 ·subst h;rw [if_pos rfl,if_pos hi,if_pos rfl];rfl
 ·rw [if_neg h,if_neg (Ne.symm h)]
def ClrTo (L L2 : List RF) (r col i : Nat) : Prop:=∀ j,j < L.length -> Zbz L2 j = if j <= r \/ i <= j then Zbz L j else Zj0 (Zbz L r) (Zbz L j) col
theorem ClrTo.step {L L2 : List RF} {r col i : Nat} {x : RF} (h : ClrTo L L2 r col i) (hl : L2.length = L.length) (hi : i < L.length) (hri : r < i) (hx : x.q = Zj0 (Zbz L r) (Zbz L i) col) : ClrTo L (L2.set i x) r col (i + 1):=by
 intro j hj;rw [Zsh (by omega),h j hj]
 by_cases hji : j = i
 ·subst hji;rw [if_pos rfl,hx,if_neg (by omega)]
 ·rw [if_neg hji]
  by_cases h1 : j <= r \/ i <= j
  ·rw [if_pos h1,if_pos (by omega)]
  ·rw [if_neg h1,if_neg (by omega)]
theorem ClrTo.done {L L2 : List RF} {r col : Nat} (h : ClrTo L L2 r col L.length) (hl : L2.length = L.length) : L2.map RF.q = Zbp (L.map RF.q) r col:=by
 refine Zsu (by rw [Zem];simpa using hl) (fun i hi=>?_);rw [Zem,List.length_map] at hi;rw [h i hi,Zf7 (by simpa using hi),<- Zja,<- Zja]
 by_cases h1 : i <= r
 ·rw [if_pos (Or.inl h1),if_pos h1]
 ·rw [if_neg (by omega),if_neg h1]
end Go.Proofs.YtaioanjcjijckaaGreat
