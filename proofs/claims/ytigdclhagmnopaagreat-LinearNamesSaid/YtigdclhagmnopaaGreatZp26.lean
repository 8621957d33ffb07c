/- Centroids: sums over a list of pixels, moments about a -/
import Derived.Deep.LoopGhost
import Derived.Test.YtigdclhagmnopaaGreatZp24
import Derived.Test.YtigdclhagmnopaaGreatZp25
set_option linter.unusedSimpArgs false
set_option linter.unusedVariables false
namespace Go.Proofs.YtigdclhagmnopaaGreat
open Go.RowKit
theorem num_le (a b : Int) (h : b ≠ 0) : (Rat.divInt a b).num.natAbs <= a.natAbs:=by
 rw [Rat.num_divInt];rw [Int.natAbs_ediv_of_dvd]
 ·refine Nat.le_trans (Nat.div_le_self _ _) ?_
  rw [Int.natAbs_mul]
  rcases Int.lt_or_gt_of_ne h with g | g
  ·rw [Int.sign_eq_neg_one_of_neg g];simp
  ·rw [Int.sign_eq_one_of_pos g];simp
 ·exact Int.dvd_trans (Int.gcd_dvd_right _ _) (Int.dvd_mul_left _ _)
theorem den_le (a b : Int) (h : b ≠ 0) : (Rat.divInt a b).den <= b.natAbs:=by
 rw [Rat.den_divInt,if_neg h];exact Nat.div_le_self _ _
theorem Zd9 : 1 < pw 1:=by rw [Za9,Zds];decide
def SmN (i j : Nat) (r : Rat) : Prop:=r.num.natAbs < pw i /\ r.den < pw j
theorem SmN.sm {i j : Nat} {r : Rat} (h : SmN i j r) (hi : i <= 1000) (hj : j <= 1000) : Sm r:=⟨Nat.lt_of_lt_of_le h.1 (Zb9 hi),Nat.lt_of_lt_of_le h.2 (Zb9 hj)⟩
theorem SmN.mono {i j i' j' : Nat} {r : Rat} (h : SmN i j r) (hi : i <= i') (hj : j <= j') : SmN i' j' r:=⟨Nat.lt_of_lt_of_le h.1 (Zb9 hi),Nat.lt_of_lt_of_le h.2 (Zb9 hj)⟩
theorem SmN.int {i : Nat} {n : Int} (hn : n.natAbs < pw i) : SmN i 1 (n : Rat):=⟨by simpa using hn,by simp only [Rat.den_intCast];exact Zd9⟩
structure RF where
 g : Nat
 c : Nat
 q : List Rat
def RF.rs (r : RF) : RS:=⟨some ⟨r.g,0,none⟩,r.q.length,r.c⟩
def MatB (tS tF : TypeId) (w : World) (go : Nat) (L : List RF) : Prop:=
 (∃ zs,Blk w go tS (Z2 (L.map RF.rs ++ zs))) /\ (∀ r ∈ L,FOwn tF w r.g r.q /\ r.q.length <= r.c /\ r.c <= maxLen) /\ (go :: L.map RF.g).Nodup
section
variable {tS tF : TypeId} {w w' : World} {go : Nat} {L : List RF}
theorem MatB.below (h : MatB tS tF w go L) (hb : Below w.heap.size w w') : MatB tS tF w' go L:=by
 obtain ⟨⟨zs,h1⟩,h2,h3⟩:=h;exact ⟨⟨zs,Zb hb h1⟩,fun r hr=>⟨(h2 r hr).1.below hb,(h2 r hr).2⟩,h3⟩
theorem MatB.cell (h : MatB tS tF w go L) {i : Nat} {r : RF} (hr : L[i]? = some r) : w.cell? ⟨go,i,none⟩ = some (.slice (some ⟨r.g,0,none⟩) r.q.length r.c) /\ w.frozen? ⟨go,i,none⟩ = false:=by
 obtain ⟨⟨zs,h1⟩,-,-⟩:=h;refine ⟨?_,h1.frozen i⟩;rw [h1.cell];refine Zbi (e:=r.rs) ?_;have hi:=(List.getElem?_eq_some_iff.1 hr).1;rw [List.getElem?_append_left (by simpa using hi),List.getElem?_map,hr];rfl
theorem MatB.row (h : MatB tS tF w go L) {i : Nat} {r : RF} (hr : L[i]? = some r) : FOwn tF w r.g r.q /\ r.q.length <= r.c /\ r.c <= maxLen:=h.2.1 r (List.mem_of_getElem? hr)
theorem Zt6 {α : Type} {l : List α} {i j : Nat} {x y : α} (hx : l[i]? = some x) (hy : l[j]? = some y) : Zac l i j = (l.set i y).set j x:=by unfold Zac;rw [hx,hy]
theorem Zjb {α β : Type} (f : α -> β) (l : List α) (i j : Nat) : (Zac l i j).map f = Zac (l.map f) i j:=by
 unfold Zac;rw [List.getElem?_map,List.getElem?_map]
 cases l[i]? with
 | none=>rfl
 | some x=>cases l[j]? with
  | none=>rfl
  | some y=>simp [List.map_set]
theorem Zho {α : Type} (l : List α) (i j : Nat) : ∀ x,x ∈ Zac l i j -> x ∈ l:=by
 intro x hx;unfold Zac at hx
 split at hx
 ·rename_i a b ha hb
  rcases List.mem_or_eq_of_mem_set hx with hx | rfl
  ·rcases List.mem_or_eq_of_mem_set hx with hx | rfl
   ·exact hx
   ·exact List.mem_of_getElem? hb
  ·exact List.mem_of_getElem? ha
 ·exact hx
theorem Zpr {l : List Nat} (h : l.Nodup) {i j : Nat} (hi : i < l.length) (hj : j < l.length) : (Zac l i j).Nodup:=by
 unfold List.Nodup;rw [List.pairwise_iff_getElem];intro a b ha hb hab e;rw [Zdn] at ha hb
 have h1 : (Zac l i j)[a]? = (Zac l i j)[b]?:=by rw [List.getElem?_eq_getElem (by rw [Zdn];exact ha),List.getElem?_eq_getElem (by rw [Zdn];exact hb),e]
 rw [Zc6 hi hj,Zc6 hi hj] at h1;have ha' : swI i j a < l.length:=Zgq hi hj ha;have:=(List.getElem?_inj ha' h).1 h1
 have h2 : swI i j (swI i j a) = swI i j (swI i j b):=by rw [this]
 rw [Znx,Znx] at h2;omega
end
section
variable {a b : Rat} {i j k l : Nat}
theorem SmN.mulN (h : SmN i j a) (g : SmN k l b) : SmN (i + k) (j + l) (a * b):=by
 rw [<- Zrh a b];have hd : ((a.den : Int) * (b.den : Nat)) ≠ 0:=Int.ne_of_gt (Zeq a b);refine ⟨Nat.lt_of_le_of_lt (num_le _ _ hd) ?_,Nat.lt_of_le_of_lt (den_le _ _ hd) ?_⟩
 ·rw [Int.natAbs_mul];exact Zgv h.1 g.1
 ·rw [Int.natAbs_mul,Int.natAbs_natCast,Int.natAbs_natCast];exact Zgv h.2 g.2
end
attribute [local go_sem] Zh
theorem Zcz {α : Type} {L : List α} {i : Nat} (h : i < L.length) : ∃ r,L[i]? = some r:=⟨_,List.getElem?_eq_getElem h⟩
theorem Znu {α β : Type} {f : α -> β} {L : List α} {i : Nat} {r s : α} (hr : L[i]? = some r) (h : f s = f r) : (L.set i s).map f = L.map f:=by
 rw [List.map_set]
 apply List.ext_getElem?
 intro j;rw [List.getElem?_set]
 split
 ·rename_i hij
  subst hij;have hi:=(List.getElem?_eq_some_iff.1 hr).1;rw [if_pos (by simpa using hi),List.getElem?_map,hr,h];rfl
 ·rfl
end Go.Proofs.YtigdclhagmnopaaGreat
