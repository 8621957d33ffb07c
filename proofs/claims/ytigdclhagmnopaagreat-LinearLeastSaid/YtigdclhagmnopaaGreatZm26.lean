/- Centroids: sums over a list of pixels, moments about a -/
import Derived.Deep.LoopGhost
import Derived.Test.YtigdclhagmnopaaGreatZm24
import Derived.Test.YtigdclhagmnopaaGreatZm25
set_option maxRecDepth 100000
set_option maxHeartbeats 8000000
set_option linter.unusedSimpArgs false
set_option linter.unusedVariables false
namespace Go.Proofs.YtigdclhagmnopaaGreat
open Go.RowKit
theorem Zus (a b : Int) (h : b ≠ 0) : (Rat.divInt a b).num.natAbs <= a.natAbs := by
 rw [Rat.num_divInt]
 rw [Int.natAbs_ediv_of_dvd]
 ·refine Nat.le_trans (Nat.div_le_self _ _) ?_
  rw [Int.natAbs_mul]
  rcases Int.lt_or_gt_of_ne h with g | g
  ·rw [Int.sign_eq_neg_one_of_neg g]; simp
  ·rw [Int.sign_eq_one_of_pos g]; simp
 ·exact Int.dvd_trans (Int.gcd_dvd_right _ _) (Int.dvd_mul_left _ _)
theorem Zte (a b : Int) (h : b ≠ 0) : (Rat.divInt a b).den <= b.natAbs := by
 rw [Rat.den_divInt, if_neg h]
 exact Nat.div_le_self _ _
theorem Zd7 : 1 < pw 1 := by rw [Zbd, Zd3]; decide
def SmN (i j : Nat) (r : Rat) : Prop := r.num.natAbs < pw i /\ r.den < pw j
theorem SmN.sm {i j : Nat} {r : Rat} (h : SmN i j r) (hi : i <= 1000) (hj : j <= 1000) : Sm r := ⟨Nat.lt_of_lt_of_le h.1 (Zb8 hi), Nat.lt_of_lt_of_le h.2 (Zb8 hj)⟩
theorem SmN.mono {i j i' j' : Nat} {r : Rat} (h : SmN i j r) (hi : i <= i') (hj : j <= j') : SmN i' j' r := ⟨Nat.lt_of_lt_of_le h.1 (Zb8 hi), Nat.lt_of_lt_of_le h.2 (Zb8 hj)⟩
theorem SmN.int {i : Nat} {n : Int} (hn : n.natAbs < pw i) : SmN i 1 (n : Rat) := ⟨by simpa using hn, by simp only [Rat.den_intCast]; exact Zd7⟩
structure RF where
 g : Nat
 c : Nat
 q : List Rat
def RF.rs (r : RF) : RS := ⟨some ⟨r.g, 0, none⟩, r.q.length, r.c⟩
def MatB (tS tF : TypeId) (w : World) (go : Nat) (L : List RF) : Prop :=
 (∃ zs, Blk w go tS (Z2 (L.map RF.rs ++ zs))) /\ (∀ r ∈ L, FOwn tF w r.g r.q /\ r.q.length <= r.c /\ r.c <= maxLen) /\ (go :: L.map RF.g).Nodup
section
variable {tS tF : TypeId} {w w' : World} {go : Nat} {L : List RF}
theorem MatB.below (h : MatB tS tF w go L) (hb : Below w.heap.size w w') : MatB tS tF w' go L := by
 obtain ⟨⟨zs, h1⟩, h2, h3⟩ := h
 exact ⟨⟨zs, Zc hb h1⟩, fun r hr => ⟨(h2 r hr).1.below hb, (h2 r hr).2⟩, h3⟩
theorem MatB.cell (h : MatB tS tF w go L) {i : Nat} {r : RF} (hr : L[i]? = some r) : w.cell? ⟨go, i, none⟩ = some (.slice (some ⟨r.g, 0, none⟩) r.q.length r.c) /\ w.frozen? ⟨go, i, none⟩ = false := by
 obtain ⟨⟨zs, h1⟩, -, -⟩ := h
 refine ⟨?_, h1.frozen i⟩
 rw [h1.cell]
 refine Zcd (e := r.rs) ?_
 have hi := (List.getElem?_eq_some_iff.1 hr).1
 rw [List.getElem?_append_left (by simpa using hi), List.getElem?_map, hr]; rfl
theorem MatB.row (h : MatB tS tF w go L) {i : Nat} {r : RF} (hr : L[i]? = some r) : FOwn tF w r.g r.q /\ r.q.length <= r.c /\ r.c <= maxLen := h.2.1 r (List.mem_of_getElem? hr)
theorem MatB.ne (h : MatB tS tF w go L) {i : Nat} {r : RF} (hr : L[i]? = some r) : go ≠ r.g := fun e => by
 have := (List.nodup_cons.1 h.2.2).1
 exact this (List.mem_map.2 ⟨r, List.mem_of_getElem? hr, e.symm⟩)
theorem MatB.ne2 (h : MatB tS tF w go L) {i j : Nat} {r s : RF} (hr : L[i]? = some r) (hs : L[j]? = some s) (hij : i ≠ j) : r.g ≠ s.g := fun e => by
 have hn := (List.nodup_cons.1 h.2.2).2
 have h1 : (L.map RF.g)[i]? = some r.g := by rw [List.getElem?_map, hr]; rfl
 have h2 : (L.map RF.g)[j]? = some r.g := by rw [List.getElem?_map, hs, e]; rfl
 exact hij ((List.getElem?_inj (by have := (List.getElem?_eq_some_iff.1 h1).1; exact this) hn).1 (h1.trans h2.symm))
theorem MatB.boxes (h : MatB tS tF w go L) : ∀ k, (k = go \/ k ∈ L.map RF.g) -> ∃ t cs, Blk w k t cs /\ NoLimb cs := by
 intro k hk
 obtain ⟨⟨zs, h1⟩, h2, -⟩ := h
 rcases hk with rfl | hk
 ·exact ⟨tS, _, h1, Zay _⟩
 ·obtain ⟨r, hr, rfl⟩ := List.mem_map.1 hk
  exact (h2 r hr).1.box
theorem MatB.set_ (h : MatB tS tF w go L) {i : Nat} {r : RF} (hr : L[i]? = some r) {k : Nat} (hk : k < r.q.length) {na : Bool} {A : Option Addr} {n c : Nat} {nb : Bool} {B : Option Addr} {m d : Nat} {x : Rat} (hf : Fr w na A n c nb B m d x) :
    MatB tS tF (Zkn w r.g k na A n c nb B m d) go (L.set i ⟨r.g, r.c, r.q.set k x⟩) := by
 have hne := h.ne hr
 have hne2 := fun {j : Nat} {s : RF} (hs : L[j]? = some s) (hij : j ≠ i) => h.ne2 hs hr hij
 have hrow := h.row hr
 have hi := (List.getElem?_eq_some_iff.1 hr).1
 obtain ⟨⟨zs, h1⟩, h2, h3⟩ := h
 refine ⟨⟨zs, ?_⟩, fun s hs => ?_, ?_⟩
 ·have e : (L.set i ⟨r.g, r.c, r.q.set k x⟩).map RF.rs = L.map RF.rs := by
    rw [List.map_set]
    apply List.ext_getElem?
    intro j
    rw [List.getElem?_set]
    by_cases hij : i = j
    ·subst hij
     rw [if_pos rfl, if_pos (by simpa using hi), List.getElem?_map, hr]
     simp [RF.rs]
    ·rw [if_neg hij]
  rw [e]
  exact Zo5 h1 hne
 ·obtain ⟨j, hj, hjs⟩ := List.getElem_of_mem hs
  have hs2 : (L.set i ⟨r.g, r.c, r.q.set k x⟩)[j]? = some s := by rw [List.getElem?_eq_getElem hj, hjs]
  rw [List.getElem?_set] at hs2
  by_cases hij : i = j
  ·subst hij
   rw [if_pos rfl, if_pos hi] at hs2
   cases hs2
   exact ⟨hrow.1.set_ hk hf, by simpa using hrow.2.1, hrow.2.2⟩
  ·rw [if_neg hij] at hs2
   have := h2 s (List.mem_of_getElem? hs2)
   exact ⟨this.1.other (hne2 hs2 (Ne.symm hij)) hrow.1.box, this.2⟩
 ·have e : (L.set i ⟨r.g, r.c, r.q.set k x⟩).map RF.g = L.map RF.g := by
    rw [List.map_set]
    apply List.ext_getElem?
    intro j
    rw [List.getElem?_set]
    by_cases hij : i = j
    ·subst hij
     rw [if_pos rfl, if_pos (by simpa using hi), List.getElem?_map, hr]; rfl
    ·rw [if_neg hij]
  rw [e]; exact h3
theorem Zoh {α : Type} {l : List α} {i j : Nat} {x y : α} (hx : l[i]? = some x) (hy : l[j]? = some y) : Zv l i j = (l.set i y).set j x := by unfold Zv; rw [hx, hy]
theorem Zd6 {α β : Type} (f : α -> β) (l : List α) (i j : Nat) : (Zv l i j).map f = Zv (l.map f) i j := by
 unfold Zv
 rw [List.getElem?_map, List.getElem?_map]
 cases l[i]? with
 | none => rfl
 | some x => cases l[j]? with
  | none => rfl
  | some y => simp [List.map_set]
theorem Zcy {α : Type} (l : List α) (i j : Nat) : ∀ x, x ∈ Zv l i j -> x ∈ l := by
 intro x hx
 unfold Zv at hx
 split at hx
 ·rename_i a b ha hb
  rcases List.mem_or_eq_of_mem_set hx with hx | rfl
  ·rcases List.mem_or_eq_of_mem_set hx with hx | rfl
   ·exact hx
   ·exact List.mem_of_getElem? hb
  ·exact List.mem_of_getElem? ha
 ·exact hx
theorem Zi3 {l : List Nat} (h : l.Nodup) {i j : Nat} (hi : i < l.length) (hj : j < l.length) : (Zv l i j).Nodup := by
 unfold List.Nodup
 rw [List.pairwise_iff_getElem]
 intro a b ha hb hab e
 rw [Zc2] at ha hb
 have h1 : (Zv l i j)[a]? = (Zv l i j)[b]? := by rw [List.getElem?_eq_getElem (by rw [Zc2]; exact ha), List.getElem?_eq_getElem (by rw [Zc2]; exact hb), e]
 rw [Zc5 hi hj, Zc5 hi hj] at h1
 have ha' : swI i j a < l.length := Zgi hi hj ha
 have := (List.getElem?_inj ha' h).1 h1
 have h2 : swI i j (swI i j a) = swI i j (swI i j b) := by rw [this]
 rw [Zm1, Zm1] at h2
 omega
theorem MatB.swap (h : MatB tS tF w go L) {i j : Nat} {r s : RF} (hr : L[i]? = some r) (hs : L[j]? = some s) :
    MatB tS tF ((w.setCell ⟨go, i, none⟩ (.slice (some ⟨s.g, 0, none⟩) s.q.length s.c)).setCell ⟨go, j, none⟩ (.slice (some ⟨r.g, 0, none⟩) r.q.length r.c)) go (Zv L i j) := by
 have hi := (List.getElem?_eq_some_iff.1 hr).1
 have hj := (List.getElem?_eq_some_iff.1 hs).1
 have hne := fun {j : Nat} {s : RF} (hs : L[j]? = some s) => h.ne hs
 obtain ⟨⟨zs, h1⟩, h2, h3⟩ := h
 have hb1 := h1.set_ i (.slice (some ⟨s.g, 0, none⟩) s.q.length s.c)
 have hn1 : NoLimb ((Z2 (L.map RF.rs ++ zs)).setIfInBounds i (.slice (some ⟨s.g, 0, none⟩) s.q.length s.c)) := Zeg (Zay _) i (fun x => by simp)
 have hb2 := hb1.set_ j (.slice (some ⟨r.g, 0, none⟩) r.q.length r.c)
 have hk : ∀ (A : Option Addr) (n c : Nat) (l : List Nat), Lim w A n c l -> Lim ((w.setCell ⟨go, i, none⟩ (.slice (some ⟨s.g, 0, none⟩) s.q.length s.c)).setCell ⟨go, j, none⟩ (.slice (some ⟨r.g, 0, none⟩) r.q.length r.c)) A n c l :=
  fun A n c l hl => (hl.set_box h1 (Zay _) _ _).set_box hb1 hn1 _ _
 refine ⟨⟨zs, ?_⟩, fun x hx => ?_, ?_⟩
 ·have e : Z2 ((Zv L i j).map RF.rs ++ zs) = ((Z2 (L.map RF.rs ++ zs)).setIfInBounds i (.slice (some ⟨s.g, 0, none⟩) s.q.length s.c)).setIfInBounds j (.slice (some ⟨r.g, 0, none⟩) r.q.length r.c) := by
    have e1 := Zch (es := L.map RF.rs ++ zs) (i := i) s.rs
    have e2 := Zch (es := (L.map RF.rs ++ zs).set i s.rs) (i := j) r.rs
    simp only [RF.rs] at e1 e2
    rw [e1, e2, Zoh hr hs]
    congr 1
    rw [List.map_set, List.map_set, List.set_append_left _ _ (by simpa using hi), List.set_append_left _ _ (by simpa using hj)]
    rfl
  rw [e]
  exact hb2
 ·have hx2 := Zcy L i j x hx
  obtain ⟨es, fs, q1, q2, q3⟩ := (h2 x hx2).1
  obtain ⟨k, hk1, hk2⟩ := List.getElem_of_mem hx2
  have hgx : x.g ≠ go := Ne.symm (hne (j := k) (s := x) (by rw [List.getElem?_eq_getElem hk1, hk2]))
  exact ⟨⟨es, fs, (q1.far hgx _).far hgx _, fun e he => (q2 e he).of_keep hk, q3⟩, (h2 x hx2).2⟩
 ·rw [List.nodup_cons] at h3 ⊢
  rw [Zd6]
  refine ⟨fun hm => h3.1 (Zcy _ _ _ _ hm), Zi3 h3.2 (by simpa using hi) (by simpa using hj)⟩
theorem MatB.keptG {G : Nat -> Prop} (h : MatB tS tF w go L) (hk : Kept G w w') (hg : ¬ G go) (hgs : ∀ r ∈ L, ¬ G r.g) (hG : ∀ k, G k -> ∃ t cs, Blk w k t cs /\ NoLimb cs) : MatB tS tF w' go L := by
 obtain ⟨⟨zs, h1⟩, h2, h3⟩ := h
 refine ⟨⟨zs, hk.blk h1 hg⟩, fun r hr => ⟨?_, (h2 r hr).2⟩, h3⟩
 obtain ⟨es, fs, q1, q2, q3⟩ := (h2 r hr).1
 exact ⟨es, fs, hk.blk q1 (hgs r hr), fun e he => ⟨hk.wd (q2 e he).1 hG, hk.wd (q2 e he).2 hG⟩, q3⟩
end
def Zb5 (L : List RF) (i : Nat) : List Rat := (L[i]?.map RF.q).getD []
theorem Zfc {L : List RF} {i : Nat} {r : RF} (h : L[i]? = some r) : Zb5 L i = r.q := by unfold Zb5; rw [h]; rfl
theorem Zti {L : List RF} {R : List (List Rat)} (hl : L.length = R.length) (h : ∀ i, i < R.length -> Zb5 L i = R[i]?.getD []) : L.map RF.q = R := by
 apply List.ext_getElem?
 intro i
 rw [List.getElem?_map]
 by_cases hi : i < R.length
 ·have := h i hi
  unfold Zb5 at this
  rw [List.getElem?_eq_getElem (show i < L.length by omega), List.getElem?_eq_getElem hi] at this ⊢
  simp only [Option.map_some, Option.getD_some] at this ⊢
  rw [this]
 ·rw [List.getElem?_eq_none (by omega), List.getElem?_eq_none (by omega)]; rfl
theorem Zon (L : List RF) (i : Nat) : Zb5 L i = (L.map RF.q)[i]?.getD [] := by unfold Zb5; rw [List.getElem?_map]
theorem Zpl {R : List (List Rat)} {r col i : Nat} (hi : i < R.length) : (Zbl R r col)[i]?.getD [] = if i <= r then R[i]?.getD [] else Zls (R[r]?.getD []) (R[i]?.getD []) col := by
 unfold Zbl
 rw [List.getElem?_map, List.getElem?_range hi]; rfl
theorem Zs0 {p row : List Rat} {col : Nat} (h : row[col]?.getD 0 = 0) : Zls p row col = row := by
 unfold Zls
 apply List.ext_getElem?
 intro k
 rw [List.getElem?_map]
 by_cases hk : k < row.length
 ·rw [List.getElem?_range hk, h]
  have e : row[k]? = some (row[k]?.getD 0) := by rw [List.getElem?_eq_getElem hk]; rfl
  rw [e]
  simp only [Option.map_some, Option.getD_some]
  split
  ·rfl
  ·congr 1; grind
 ·rw [List.getElem?_eq_none (l := List.range _) (by simpa using hk), List.getElem?_eq_none (l := row) (i := k) (by omega)]; rfl
theorem rowR_eq {p row q : List Rat} {col : Nat} (hl : q.length = row.length) (h : ∀ t, q[t]?.getD 0 = if col <= t /\ t < row.length then row[t]?.getD 0 - row[col]?.getD 0 / p[col]?.getD 0 * p[t]?.getD 0 else row[t]?.getD 0) : q = Zls p row col := by
 apply List.ext_getElem?
 intro t
 unfold Zls
 rw [List.getElem?_map]
 have := h t
 by_cases ht : t < row.length
 ·rw [List.getElem?_range ht]
  rw [List.getElem?_eq_getElem (show t < q.length by omega)] at this ⊢
  simp only [Option.map_some, Option.getD_some] at this ⊢
  rw [this]
  by_cases hc : t < col
  ·rw [if_pos hc, if_neg (by omega)]
  ·rw [if_neg hc, if_pos (by omega)]
 ·rw [List.getElem?_eq_none (by omega), List.getElem?_eq_none (l := List.range _) (by simpa using ht)]; rfl
theorem Zug {row q : List Rat} {col k : Nat} {x : Rat} {f : Nat -> Rat} (hl : q.length = row.length) (hk : col <= k) (hkl : k < row.length) (hx : x = f k) (h : ∀ t, q[t]?.getD 0 = if col <= t /\ t < k then f t else row[t]?.getD 0) :
    ∀ t, (q.set k x)[t]?.getD 0 = if col <= t /\ t < k + 1 then f t else row[t]?.getD 0 := by
 intro t
 rw [List.getElem?_set]
 by_cases ht : k = t
 ·subst ht
  rw [if_pos rfl, if_pos (by omega), if_pos (by omega), hx]; rfl
 ·rw [if_neg ht, h t]
  by_cases h1 : col <= t /\ t < k
  ·rw [if_pos h1, if_pos (by omega)]
  ·rw [if_neg h1, if_neg (by omega)]
section
variable {a b : Rat} {i j k l : Nat}
theorem SmN.mulN (h : SmN i j a) (g : SmN k l b) : SmN (i + k) (j + l) (a * b) := by
 rw [<- Znl a b]
 have hd : ((a.den : Int) * (b.den : Nat)) ≠ 0 := Int.ne_of_gt (Zc3 a b)
 refine ⟨Nat.lt_of_le_of_lt (Zus _ _ hd) ?_, Nat.lt_of_le_of_lt (Zte _ _ hd) ?_⟩
 ·rw [Int.natAbs_mul]; exact Zd8 h.1 g.1
 ·rw [Int.natAbs_mul, Int.natAbs_natCast, Int.natAbs_natCast]; exact Zd8 h.2 g.2
theorem SmN.divN (h : SmN i j a) (g : SmN k l b) (h0 : b ≠ 0) : SmN (i + l) (j + k) (a / b) := by
 rw [<- Zf5 a b h0]
 have hd := Zhk a b h0
 refine ⟨Nat.lt_of_le_of_lt (Zus _ _ hd) ?_, Nat.lt_of_le_of_lt (Zte _ _ hd) ?_⟩
 ·rw [Int.natAbs_mul, Int.natAbs_natCast]; exact Zd8 h.1 g.2
 ·rw [Int.natAbs_mul, Int.natAbs_natCast]; exact Zd8 h.2 g.1
end
attribute [local go_sem] Zh
theorem Zfy (L : List RF) (i j : Nat) : Zo (L.map RF.q) i j = (Zb5 L i)[j]?.getD 0 := by unfold Zo Zb5; rw [List.getElem?_map]
theorem Zax {α : Type} {L : List α} {i : Nat} (h : i < L.length) : ∃ r, L[i]? = some r := ⟨_, List.getElem?_eq_getElem h⟩
theorem Zd4 {α β : Type} {f : α -> β} {L : List α} {i : Nat} {r s : α} (hr : L[i]? = some r) (h : f s = f r) : (L.set i s).map f = L.map f := by
 rw [List.map_set]
 apply List.ext_getElem?
 intro j
 rw [List.getElem?_set]
 split
 ·rename_i hij
  subst hij
  have hi := (List.getElem?_eq_some_iff.1 hr).1
  rw [if_pos (by simpa using hi), List.getElem?_map, hr, h]; rfl
 ·rfl
theorem Zuv {L : List RF} {i j : Nat} {r : RF} (hi : i < L.length) : Zb5 (L.set i r) j = if j = i then r.q else Zb5 L j := by
 unfold Zb5
 rw [List.getElem?_set]
 by_cases h : i = j
 ·subst h; rw [if_pos rfl, if_pos hi, if_pos rfl]; rfl
 ·rw [if_neg h, if_neg (Ne.symm h)]
def ClrTo (L L2 : List RF) (r col i : Nat) : Prop := ∀ j, j < L.length -> Zb5 L2 j = if j <= r \/ i <= j then Zb5 L j else Zls (Zb5 L r) (Zb5 L j) col
theorem ClrTo.step {L L2 : List RF} {r col i : Nat} {x : RF} (h : ClrTo L L2 r col i) (hl : L2.length = L.length) (hi : i < L.length) (hri : r < i) (hx : x.q = Zls (Zb5 L r) (Zb5 L i) col) : ClrTo L (L2.set i x) r col (i + 1) := by
 intro j hj
 rw [Zuv (by omega), h j hj]
 by_cases hji : j = i
 ·subst hji; rw [if_pos rfl, hx, if_neg (by omega)]
 ·rw [if_neg hji]
  by_cases h1 : j <= r \/ i <= j
  ·rw [if_pos h1, if_pos (by omega)]
  ·rw [if_neg h1, if_neg (by omega)]
theorem ClrTo.skip {L L2 : List RF} {r col i : Nat} (h : ClrTo L L2 r col i) (hri : r < i) (hx : (Zb5 L i)[col]?.getD 0 = 0) : ClrTo L L2 r col (i + 1) := by
 intro j hj
 rw [h j hj]
 by_cases hji : j = i
 ·subst hji; rw [if_pos (by omega), if_neg (by omega), Zs0 hx]
 ·by_cases h1 : j <= r \/ i <= j
  ·rw [if_pos h1, if_pos (by omega)]
  ·rw [if_neg h1, if_neg (by omega)]
theorem ClrTo.done {L L2 : List RF} {r col : Nat} (h : ClrTo L L2 r col L.length) (hl : L2.length = L.length) : L2.map RF.q = Zbl (L.map RF.q) r col := by
 refine Zti (by rw [Zfk]; simpa using hl) (fun i hi => ?_)
 rw [Zfk, List.length_map] at hi
 rw [h i hi, Zpl (by simpa using hi), <- Zon, <- Zon]
 by_cases h1 : i <= r
 ·rw [if_pos (Or.inl h1), if_pos h1]
 ·rw [if_neg (by omega), if_neg h1]
theorem Zs6 (go n cap : Nat) (L : List RF) (m r col : Nat) (w : World) (hM : MatB 40 45 w go L) (hn : L.length = n) (hn9 : n <= 1000) (hcap : n <= cap) (hcm : cap <= maxLen) (hm : ∀ x ∈ L, x.q.length = m) (hm9 : m <= 1000) (hr : r < n) (hc : col < m)
    (hp : Zo (L.map RF.q) r col ≠ 0) (hB : ∀ i j, SmN 200 200 (Zo (L.map RF.q) i j)) :
    Calls Tryz.prog 101 #[.slice (some ⟨go, 0, none⟩) n cap, .int .i64 r, .int .i64 col] w fun e w' => e = .returned (.tuple #[]) /\
     ∃ L2, L2.length = n /\ L2.map RF.g = L.map RF.g /\ L2.map RF.c = L.map RF.c /\ L2.map RF.q = Zbl (L.map RF.q) r col /\ MatB 40 45 w' go L2 /\ Kept (fun g => g ∈ L.map RF.g) w w' := by
 have hmx : Tryz.prog.follows .mixedOrders = true := by kernel_rfl
 unfold maxLen at hcm
 have hgo := Za (Zm (hM.cell (Zax (L := L) (i := 0) (by omega)).choose_spec).1)
 have hGX : Hid (∀ k, k ∈ L.map RF.g -> ∃ t cs, Blk w k t cs /\ NoLimb cs) := Za (fun k hk => hM.boxes k (.inr hk))
 obtain ⟨rr, hrr⟩ := Zax (L := L) (i := r) (by omega)
 have hnR : Hid (∀ i x, L[i]? = some x -> x.q = Zb5 L i) := Za (fun i x hx => (Zfc hx).symm)
 have hmQ : Hid (∀ i, i < n -> (Zb5 L i).length = m) := Za (fun i hi => by
  obtain ⟨x, hx⟩ := Zax (L := L) (i := i) (by omega)
  rw [Zfc hx]; exact hm x (List.mem_of_getElem? hx))
 have hBq : Hid (∀ i j, SmN 200 200 ((Zb5 L i)[j]?.getD 0)) := Za (fun i j => by rw [<- Zfy]; exact hB i j)
 have hpq : Hid ((Zb5 L r)[col]?.getD 0 ≠ 0) := Za (by rw [<- Zfy]; exact hp)
 have hgoL : Hid (go ∉ L.map RF.g) := Za (List.nodup_cons.1 hM.2.2).1
 have hr1 : IntKind.i64.wrap ((r : Int) + 1) = ((r + 1 : Nat) : Int) := by rw [IntKind.wrap_i64]; omega
 replace hn := Za hn
 clear hB hp hm
 go_enter Tryz.func101, Tryz.ntmps101
 go_wp2_with fail
 go_loopg [6] (n - (r + 1)) (fun k iv wr => ∃ (i : Nat) (L2 : List RF), i + k = n /\ iv = .int .i64 i /\ r + 1 <= i /\ MatB 40 45 wr go L2 /\ Hid (L2.length = n) /\ Hid (L2.map RF.g = L.map RF.g) /\ Hid (L2.map RF.c = L.map RF.c) /\ Hid (ClrTo L L2 r col i) /\ Kept (fun g => g ∈ L.map RF.g) w wr)
 case atStart => exact ⟨r + 1, L, by omega, by go_num, Nat.le_refl _, hM, hn, Za rfl, Za rfl, Za (fun j hj => by by_cases h1 : j <= r \/ r + 1 <= j; rw [if_pos h1]; exact absurd h1 (by omega)), Kept.refl _ _⟩
 case round =>
  clear hM
  obtain ⟨i, L2, hik, rfl, hri, hM, hl2, hg2, hc2, hcl, hK⟩ := hrel
  cases gk with
  | zero =>
   obtain rfl : i = n := by omega
   have t1 : decide ((i : Int) < (i : Int)) = false := by simp
   have hfin : Hid (L2.map RF.q = Zbl (L.map RF.q) r col) := Za (ClrTo.done (by rw [hn.out]; exact hcl.out) (by rw [hl2.out, hn.out]))
   replace hM := Za hM
   replace hK := Za hK
   go_wp2_with fail
   go_returns
   exact ⟨rfl, L2, hl2.out, hg2.out, hc2.out, hfin.out, hM.out, hK.out⟩
  | succ j =>
   obtain rfl : j = n - (i + 1) := by omega
   have hin : i < n := by omega
   have t1 : decide ((i : Int) < (n : Int)) = true := decide_eq_true (by omega)
   have bi : (i : Int) < (n : Int) := by omega
   have br : (r : Int) < (n : Int) := by omega
   obtain ⟨ri, hri2⟩ := Zax (L := L2) (i := i) (by rw [hl2.out]; exact hin)
   obtain ⟨r2, hr2⟩ := Zax (L := L2) (i := r) (by rw [hl2.out]; exact hr)
   have hqi : ri.q = Zb5 L i := by
    have := hcl.out i (by rw [hn.out]; exact hin)
    rw [Zfc hri2, if_pos (Or.inr (Nat.le_refl i))] at this; exact this
   have hqr : r2.q = Zb5 L r := by
    have := hcl.out r (by rw [hn.out]; exact hr)
    rw [Zfc hr2, if_pos (Or.inl (Nat.le_refl r))] at this; exact this
   have hli : ri.q.length = m := by rw [hqi]; exact hmQ.out i hin
   have hlr : r2.q.length = m := by rw [hqr]; exact hmQ.out r hr
   obtain ⟨ci, zi⟩ := hM.cell hri2
   obtain ⟨cr, zr⟩ := hM.cell hr2
   obtain ⟨fi, ki1, ki2⟩ := hM.row hri2
   obtain ⟨fr, kr1, kr2⟩ := hM.row hr2
   rw [hli] at ci ki1
   rw [hlr] at cr kr1
   unfold maxLen at ki2 kr2
   have hne := hM.ne2 hri2 hr2 (by omega)
   have bc : (col : Int) < (m : Int) := by omega
   obtain ⟨n1, A1, k1, c1, m1, B1, j1, d1, p0, p1, p2, p3, hf1⟩ := fi.at_ (i := col) (by rw [hli]; exact hc)
   have hk1 := hf1.1.2.1
   by_cases hz : k1 = 0
   case pos =>
    have t2 : ((k1 : Int) == 0) = true := by simp [hz]
    have t2' : decide (k1 = 0) = true := by simpa using hz
    have hq0 : (Zb5 L i)[col]?.getD 0 = 0 := by rw [<- hqi]; exact hf1.zero_iff.1 hz
    have hcl2 : Hid (ClrTo L L2 r col (i + 1)) := Za (hcl.out.skip (by omega) hq0)
    replace hM := Za hM
    replace hK := Za hK
    replace hz := Za hz
    clear hq0 hf1 fi fr cr zr zi p0 p2 p3 hqi hqr hli hlr hri2 hr2 hne
    go_wp2_with fail
    go_roundg (n - (i + 1))
    case measure => omega
    case rel => exact ⟨i + 1, L2, by omega, by go_num, by omega, hM.out, hl2, hg2, hc2, hcl2, hK.out⟩
   have t2 : ((k1 : Int) == 0) = false := by simp; omega
   have t2' : decide (k1 = 0) = false := by simpa using hz
   have hnz : (Zb5 L i)[col]?.getD 0 ≠ 0 := by rw [<- hqi]; exact fun e => hz (hf1.zero_iff.2 e)
   replace hz := Za hz
   obtain ⟨n2, A2, k2, c2, m2, B2, j2, d2, q0, q1, q2, q3, hf2⟩ := fr.at_ (i := col) (by rw [hlr]; exact hc)
   rw [hqi] at hf1
   rw [hqr] at hf2
   obtain ⟨by_, hby⟩ : ∃ q : Rat, (Zb5 L i)[col]?.getD 0 / (Zb5 L r)[col]?.getD 0 = q := ⟨_, rfl⟩
   have hbyS : Hid (SmN 400 400 by_) := Za (by rw [<- hby]; exact (hBq.out i col).divN (hBq.out r col) hpq.out)
   have sc1 := (hBq.out i col).sm (by decide) (by decide)
   have sc2 := (hBq.out r col).sm (by decide) (by decide)
   replace hby := Za hby
   replace hnz := Za hnz
   have hboxi := Za fi.box
   have fiH := Za fi
   have frH := Za fr
   clear fi fr
   replace hM := Za hM
   replace hK := Za hK
   go_wp2_with fail
   have hSv1 : Hid (∀ wx, Below wr.heap.size wr wx -> wx.cell? ⟨go, i, none⟩ = some (.slice (some ⟨ri.g, 0, none⟩) m ri.c) /\ wx.cell? ⟨go, r, none⟩ = some (.slice (some ⟨r2.g, 0, none⟩) m r2.c) /\ wx.cell? ⟨ri.g, col * 4, none⟩ = some (.bool n1) /\ wx.cell? ⟨ri.g, col * 4 + 1, none⟩ = some (.slice A1 k1 c1) /\ wx.cell? ⟨ri.g, col * 4 + 2, none⟩ = some (.bool m1) /\ wx.cell? ⟨ri.g, col * 4 + 3, none⟩ = some (.slice B1 j1 d1) /\ wx.cell? ⟨r2.g, col * 4, none⟩ = some (.bool n2) /\ wx.cell? ⟨r2.g, col * 4 + 1, none⟩ = some (.slice A2 k2 c2) /\ wx.cell? ⟨r2.g, col * 4 + 2, none⟩ = some (.bool m2) /\ wx.cell? ⟨r2.g, col * 4 + 3, none⟩ = some (.slice B2 j2 d2)) := Za (fun wx hbx => ⟨Zb hbx ci, Zb hbx cr, Zb hbx p0, Zb hbx p1, Zb hbx p2, Zb hbx p3, Zb hbx q0, Zb hbx q1, Zb hbx q2, Zb hbx q3⟩)
   have hr1 : Below wr.heap.size wr wr.drew := Ze (Below.refl _ _) 1
   refine wp_heldS [] hmx hSv1 hr1 (fun hxs1 => ?_)
   refine Zhz 14 [0, 1, 2, 3, 4, 5, 6, 7, 8, 9, 10, 11, 12, 13] rfl (by kernel_rfl) (hSv1.out _ hr1) ?_
   iterate 14 (refine tk1 (v := ?_) rfl (Or.inl ⟨by kernel_rfl, ?_⟩) ?_; rotate_left; (· intro W2 hSw; (try dsimp only at hSw); go_simp; try with_reducible rfl); try simp only [Act.put, Ze7, Ze8, Zfh, putG_a, putG_s, putG_z])
   refine tk0 ?_
   refine Zaw [(14, 46), (15, 31), (16, 47), (18, 7)] (fun i => match i with | 15 => [17] | _ => []) [(14, 46), (15, 31), (17, 48), (16, 47), (18, 7)] (Zp wr.heap.size ((Zb5 L i)[col]?.getD 0 / (Zb5 L r)[col]?.getD 0) 14 15 16 17 18 17) 2 (by kernel_rfl) (fun _ _ _ _ _ hb h => Zck hb h) (fun wx h => hSv1.out _ (hr1.trans (h.mono hr1.size))) ?hop1 ?hfin1
   case hop1 =>
    intro p hp
    simp only [List.mem_cons, List.not_mem_nil, or_false] at hp
    simp only [List.map_cons, List.map_nil, Zai, Act.put, Ze7, Ze8, Zfh]
    rcases hp with rfl | rfl | rfl | rfl
    ·intro ν wx hb hP
     have hbx := hr1.trans (hb.mono hr1.size)
     refine Zk (i := 14) rfl (fun K hK => ?_)
     go_simp
     refine (Znw n1 m1 n2 m2 A1 B1 A2 B2 k1 c1 j1 d1 k2 c2 j2 d2 _ _ wx (hf1.below hbx) (hf2.below hbx) sc1 sc2 hpq.out).mono ?_
     rintro e w5 ⟨hb5, na5, A5, k5, c5, nb5, B5, m5, d5, rfl, hf5⟩
     exact hK.out _ _ ⟨_, rfl, (by simp only [Zp]; exact ⟨_, _, _, _, _, _, _, _, rfl, hf5⟩), hb5, trivial⟩
    ·intro ν wx hb hP
     have h0 := hP (14, 46) (by simp) (by kernel_rfl)
     simp only [Zp] at h0
     obtain ⟨na5, A5, k5, c5, nb5, B5, m5, d5, hν, hf5⟩ := h0
     rw [hν]
     refine Zk (i := 15) rfl (fun K hK => ?_)
     go_simp
     refine hK.out _ _ ⟨_, rfl, (by simp only [Zp]; exact ⟨_, _, _, _, _, _, _, _, rfl, hf5⟩), Below.refl _ _, ?_⟩
     exact ⟨_, .int .i64 0, rfl, Or.inl ⟨by kernel_rfl, fun W2 _ => by go_simp⟩, by simp [Zp], trivial⟩
    ·intro ν wx hb hP
     have h0 := hP (15, 31) (by simp) (by kernel_rfl)
     simp only [Zp] at h0
     obtain ⟨na5, A5, k5, c5, nb5, B5, m5, d5, hν, hf5⟩ := h0
     rw [hν]
     refine Zk (i := 16) rfl (fun K hK => ?_)
     go_simp
     exact hK.out _ _ ⟨_, rfl, (by simp only [Zp]; exact ⟨_, _, _, _, _, _, _, _, rfl, hf5⟩), Below.refl _ _, trivial⟩
    ·intro ν wx hb hP
     refine Zk (i := 18) rfl (fun K hK => ?_)
     go_simp
     exact hK.out _ _ ⟨_, rfl, (by simp only [Zp]; exact ⟨_, rfl, hb.size, Blk.new _ _ _⟩), (Below.refl _ _).alloc (Nat.le_refl _) _, trivial⟩
   case hfin1 =>
    intro ν wx hb hP
    have h0 := hP (14, 46) (by simp)
    have h1 := hP (15, 31) (by simp)
    have h2 := hP (16, 47) (by simp)
    have h3 := hP (17, 48) (by simp)
    have h4 := hP (18, 7) (by simp)
    simp only [Zp] at h0 h1 h2 h4
    obtain ⟨a0, a1, a2, a3, a4, a5, a6, a7, h0, -⟩ := h0
    obtain ⟨b0', b1', b2', b3', b4', b5', b6', b7', h1, -⟩ := h1
    obtain ⟨bbn, bbA, bbk, bbc, bbm, bbB, bbj, bbd, h2, bbf⟩ := h2
    obtain ⟨gbb, h4, kv, qv⟩ := h4
    simp only [List.map_cons, List.map_nil, Zai, Act.put, Ze7, Ze8, Zfh]
    rw [h0, h1, h2, (show ν 48 = Value.int .i64 0 by simpa [Zp] using h3), h4]
    clear h0 h1 h2 h3 h4 hP ν
    have hbx := hr1.trans (hb.mono hr1.size)
    have qv4 := qv.four
    have kv2 : wr.heap.size <= gbb := kv
    refine (Zz bbn bbA bbk bbc bbm bbB bbj bbd hbx kv2 qv).elim (fun Zbb hq => ?_)
    have c0 := qv4.1
    have c1' := qv4.2.1
    have c2' := qv4.2.2.1
    have c3 := qv4.2.2.2.1
    have f0 := qv4.2.2.2.2.1
    have f1 := qv4.2.2.2.2.2.1
    have f2 := qv4.2.2.2.2.2.2.1
    have f3 := qv4.2.2.2.2.2.2.2
    have hZ := hq.1
    refine Zg (i := 19) rfl (by kernel_rfl) (fun K hK => ?_)
    go_simp
    (try rw [hZ])
    refine hK.out _ _ (fun _ => hSv1.out _ hq.2.1) ?_
    clear hK K
    try simp only [Act.put, Ze7, Ze8, Zfh]
    refine Zfo 1 [20] rfl (by kernel_rfl) (hSv1.out _ hq.2.1) ?_
    (refine tk1 (v := ?_) rfl (Or.inl ⟨by kernel_rfl, ?_⟩) ?_; rotate_left; (· intro W2 _; go_simp; try with_reducible rfl); try simp only [Act.put, Ze7, Ze8, Zfh, putG_a, putG_s, putG_z])
    refine tk0 ?_
    refine Zl (by kernel_rfl) ?_ _
    refine OnlyNormal.normal ?_
    have hbZbb := hq.2.1
    have bbb := Za hq.2.2.1
    replace bbf := Za (Fr.keep bbf hq.2.2.2.1)
    clear hq hZ c0 c1' c2' c3 f0 f1 f2 f3 qv4 qv kv hbx hb hr1 hSv1 hxs1
    rw [hby.out] at bbf
    have hM2 := hM.out.below hbZbb
    have hK2 : Kept (fun g => g ∈ L.map RF.g) w Zbb := hK.out.below hbZbb
    have hgb : Hid (gbb ∉ L.map RF.g) := Za (fun hmem => by
     obtain ⟨t, cs, hb, -⟩ := hGX.out gbb hmem
     have := hb.lt
     have := hK.out.size
     omega)
    have hGZ : Hid (∀ k, k ∈ L.map RF.g -> ∃ t cs, Blk Zbb k t cs /\ NoLimb cs) := Za (fun k hk => hM2.boxes k (.inr (by rw [hg2.out]; exact hk)))
    have hgi : Hid (ri.g ∈ L.map RF.g) := Za (by rw [<- hg2.out]; exact List.mem_map.2 ⟨ri, List.mem_of_getElem? hri2, rfl⟩)
    have hgr : Hid (r2.g ∈ L.map RF.g) := Za (by rw [<- hg2.out]; exact List.mem_map.2 ⟨r2, List.mem_of_getElem? hr2, rfl⟩)
    clear hK hM p0 p1 p2 p3 q0 q1 q2 q3 sc1 sc2 hf1 hf2 t1 t2 t2' ci cr zi zr hbZbb
    replace hK2 := Za hK2
    go_wp2_with fail
    go_loopg [9] (m - col) (fun k iv wr => ∃ (j : Nat) (q3 : List Rat), j + k = m /\ iv = .int .i64 j /\ col <= j /\ MatB 40 45 wr go (L2.set i ⟨ri.g, ri.c, q3⟩) /\ Hid (q3.length = m) /\ Hid (∀ t, q3[t]?.getD 0 = if col <= t /\ t < j then (Zb5 L i)[t]?.getD 0 - by_ * (Zb5 L r)[t]?.getD 0 else (Zb5 L i)[t]?.getD 0) /\ Kept (fun g => g ∈ L.map RF.g) Zbb wr)
    case atStart =>
     refine ⟨col, ri.q, by omega, rfl, Nat.le_refl _, ?_, Za hli, Za (fun t => by rw [if_neg (by omega), hqi]), Kept.refl _ _⟩
     have e : L2.set i ⟨ri.g, ri.c, ri.q⟩ = L2 := by
      apply List.ext_getElem?
      intro t
      rw [List.getElem?_set]
      split
      ·rename_i h; subst h; rw [if_pos (by rw [hl2.out]; exact hin), hri2]
      ·rfl
     rw [e]; exact hM2
    case round =>
     clear hM2
     obtain ⟨j, q3, hjk, rfl, hcj, hM3, hl3, hq3, hK3⟩ := hrel
     obtain ⟨c0, z0⟩ := hM3.cell (i := i) (r := ⟨ri.g, ri.c, q3⟩) (by rw [List.getElem?_set, if_pos rfl, if_pos (by rw [hl2.out]; exact hin)])
     simp only [hl3.out] at c0
     cases gk with
     | zero =>
      obtain rfl : j = m := by omega
      have t3 : decide ((j : Int) < (j : Int)) = false := by simp
      have hrel2 : Hid ((L2.set i ⟨ri.g, ri.c, q3⟩).length = n /\ (L2.set i ⟨ri.g, ri.c, q3⟩).map RF.g = L.map RF.g /\ (L2.set i ⟨ri.g, ri.c, q3⟩).map RF.c = L.map RF.c /\ ClrTo L (L2.set i ⟨ri.g, ri.c, q3⟩) r col (i + 1)) := Za (by
       refine ⟨by rw [List.length_set]; exact hl2.out, ?_, ?_, ?_⟩
       ·rw [Zd4 (s := ⟨ri.g, ri.c, q3⟩) hri2 rfl]; exact hg2.out
       ·rw [Zd4 (s := ⟨ri.g, ri.c, q3⟩) hri2 rfl]; exact hc2.out
       ·refine hcl.out.step (by rw [hl2.out, hn.out]) (by rw [hn.out]; exact hin) (by omega) ?_
        refine rowR_eq (by rw [hl3.out, hmQ.out i hin]) (fun t => ?_)
        rw [hq3.out t, hby.out, hmQ.out i hin])
      have hK6 : Hid (Kept (fun g => g ∈ L.map RF.g) w wr) := Za (hK2.out.trans hK3)
      replace hM3 := Za hM3
      clear hK3
      go_wp2_with fail
      go_roundg (n - (i + 1))
      case measure => omega
      case rel => exact ⟨i + 1, _, by omega, by go_num, by omega, hM3.out, Za hrel2.out.1, Za hrel2.out.2.1, Za hrel2.out.2.2.1, Za hrel2.out.2.2.2, hK6.out⟩
     | succ gk' =>
      obtain rfl : gk' = m - (j + 1) := by omega
      have hjm : j < m := by omega
      have t3 : decide ((j : Int) < (m : Int)) = true := decide_eq_true (by omega)
      have bj : (j : Int) < (m : Int) := by omega
      obtain ⟨c1', z1⟩ := hM3.cell (i := r) (r := r2) (by rw [List.getElem?_set, if_neg (by omega)]; exact hr2)
      rw [hlr] at c1'
      obtain ⟨f3, -, -⟩ := hM3.row (i := i) (r := ⟨ri.g, ri.c, q3⟩) (by rw [List.getElem?_set, if_pos rfl, if_pos (by rw [hl2.out]; exact hin)])
      obtain ⟨f4, -, -⟩ := hM3.row (i := r) (r := r2) (by rw [List.getElem?_set, if_neg (by omega)]; exact hr2)
      obtain ⟨n4, A4, k4, c4, m4, B4, j4, d4, q0, q1, q2, q3', hf4⟩ := f4.at_ (i := j) (by rw [hlr]; exact hjm)
      rw [hqr] at hf4
      have hbb := hK3.blk bbb.out hgb.out
      obtain ⟨x0, x1, x2, x3, -⟩ := hbb.four
      have hfb : Fr wr bbn bbA bbk bbc bbm bbB bbj bbd by_ := ⟨hK3.wd bbf.out.1 hGZ.out, hK3.wd bbf.out.2 hGZ.out⟩
      have sc1 := hbyS.out.sm (by decide) (by decide)
      have sc2 := (hBq.out r j).sm (by decide) (by decide)
      have hww : Hid (SmN 600 600 (by_ * (Zb5 L r)[j]?.getD 0)) := Za (hbyS.out.mulN (hBq.out r j))
      replace hM3 := Za hM3
      replace hK3 := Za hK3
      replace f3 := Za f3
      clear f4 hbb
      go_wp2_with fail
      have hSv2 : Hid (∀ wx, Below wr.heap.size wr wx -> wx.cell? ⟨gbb, 0, none⟩ = some (.bool bbn) /\ wx.cell? ⟨gbb, 1, none⟩ = some (.slice bbA bbk bbc) /\ wx.cell? ⟨gbb, 2, none⟩ = some (.bool bbm) /\ wx.cell? ⟨gbb, 3, none⟩ = some (.slice bbB bbj bbd) /\ wx.cell? ⟨go, r, none⟩ = some (.slice (some ⟨r2.g, 0, none⟩) m r2.c) /\ wx.cell? ⟨r2.g, j * 4, none⟩ = some (.bool n4) /\ wx.cell? ⟨r2.g, j * 4 + 1, none⟩ = some (.slice A4 k4 c4) /\ wx.cell? ⟨r2.g, j * 4 + 2, none⟩ = some (.bool m4) /\ wx.cell? ⟨r2.g, j * 4 + 3, none⟩ = some (.slice B4 j4 d4)) := Za (fun wx hbx => ⟨Zb hbx x0, Zb hbx x1, Zb hbx x2, Zb hbx x3, Zb hbx c1', Zb hbx q0, Zb hbx q1, Zb hbx q2, Zb hbx q3'⟩)
      have hr2 : Below wr.heap.size wr wr.drew := Ze (Below.refl _ _) 1
      refine wp_heldS [] hmx hSv2 hr2 (fun hxs2 => ?_)
      refine Zhz 8 [0, 1, 2, 3, 4, 5, 6, 7] rfl (by kernel_rfl) (hSv2.out _ hr2) ?_
      iterate 8 (refine tk1 (v := ?_) rfl (Or.inl ⟨by kernel_rfl, ?_⟩) ?_; rotate_left; (· intro W2 hSw; (try dsimp only at hSw); go_simp; try with_reducible rfl); try simp only [Act.put, Ze7, Ze8, Zfh, putG_a, putG_s, putG_z])
      refine tk0 ?_
      refine Zaw [(8, 68), (9, 59), (10, 69), (12, 10)] (fun i => match i with | 9 => [11] | _ => []) [(8, 68), (9, 59), (11, 70), (10, 69), (12, 10)] (Zp wr.heap.size (by_ * (Zb5 L r)[j]?.getD 0) 8 9 10 11 12 11) 2 (by kernel_rfl) (fun _ _ _ _ _ hb h => Zck hb h) (fun wx h => hSv2.out _ (hr2.trans (h.mono hr2.size))) ?hop2 ?hfin2
      case hop2 =>
       intro p hp
       simp only [List.mem_cons, List.not_mem_nil, or_false] at hp
       simp only [List.map_cons, List.map_nil, Zai, Act.put, Ze7, Ze8, Zfh]
       rcases hp with rfl | rfl | rfl | rfl
       ·intro ν wx hb hP
        have hbx := hr2.trans (hb.mono hr2.size)
        refine Zk (i := 8) rfl (fun K hK => ?_)
        go_simp
        refine (Ziu bbn bbm n4 m4 bbA bbB A4 B4 bbk bbc bbj bbd k4 c4 j4 d4 _ _ wx (hfb.below hbx) (hf4.below hbx) sc1 sc2).mono ?_
        rintro e w5 ⟨hb5, na5, A5, k5, c5, nb5, B5, m5, d5, rfl, hf5⟩
        exact hK.out _ _ ⟨_, rfl, (by simp only [Zp]; exact ⟨_, _, _, _, _, _, _, _, rfl, hf5⟩), hb5, trivial⟩
       ·intro ν wx hb hP
        have h0 := hP (8, 68) (by simp) (by kernel_rfl)
        simp only [Zp] at h0
        obtain ⟨na5, A5, k5, c5, nb5, B5, m5, d5, hν, hf5⟩ := h0
        rw [hν]
        refine Zk (i := 9) rfl (fun K hK => ?_)
        go_simp
        refine hK.out _ _ ⟨_, rfl, (by simp only [Zp]; exact ⟨_, _, _, _, _, _, _, _, rfl, hf5⟩), Below.refl _ _, ?_⟩
        exact ⟨_, .int .i64 0, rfl, Or.inl ⟨by kernel_rfl, fun W2 _ => by go_simp⟩, by simp [Zp], trivial⟩
       ·intro ν wx hb hP
        have h0 := hP (9, 59) (by simp) (by kernel_rfl)
        simp only [Zp] at h0
        obtain ⟨na5, A5, k5, c5, nb5, B5, m5, d5, hν, hf5⟩ := h0
        rw [hν]
        refine Zk (i := 10) rfl (fun K hK => ?_)
        go_simp
        exact hK.out _ _ ⟨_, rfl, (by simp only [Zp]; exact ⟨_, _, _, _, _, _, _, _, rfl, hf5⟩), Below.refl _ _, trivial⟩
       ·intro ν wx hb hP
        refine Zk (i := 12) rfl (fun K hK => ?_)
        go_simp
        exact hK.out _ _ ⟨_, rfl, (by simp only [Zp]; exact ⟨_, rfl, hb.size, Blk.new _ _ _⟩), (Below.refl _ _).alloc (Nat.le_refl _) _, trivial⟩
      case hfin2 =>
       intro ν wx hb hP
       have h0 := hP (8, 68) (by simp)
       have h1 := hP (9, 59) (by simp)
       have h2 := hP (10, 69) (by simp)
       have h3 := hP (11, 70) (by simp)
       have h4 := hP (12, 10) (by simp)
       simp only [Zp] at h0 h1 h2 h4
       obtain ⟨a0, a1, a2, a3, a4, a5, a6, a7, h0, -⟩ := h0
       obtain ⟨b0', b1', b2', b3', b4', b5', b6', b7', h1, -⟩ := h1
       obtain ⟨wwn, wwA, wwk, wwc, wwm, wwB, wwj, wwd, h2, wwf⟩ := h2
       obtain ⟨gww, h4, kv, qv⟩ := h4
       simp only [List.map_cons, List.map_nil, Zai, Act.put, Ze7, Ze8, Zfh]
       rw [h0, h1, h2, (show ν 70 = Value.int .i64 0 by simpa [Zp] using h3), h4]
       clear h0 h1 h2 h3 h4 hP ν
       have hbx := hr2.trans (hb.mono hr2.size)
       have qv4 := qv.four
       have kv2 : wr.heap.size <= gww := kv
       refine (Zz wwn wwA wwk wwc wwm wwB wwj wwd hbx kv2 qv).elim (fun Zww hq => ?_)
       have c0 := qv4.1
       have c1' := qv4.2.1
       have c2' := qv4.2.2.1
       have c3 := qv4.2.2.2.1
       have f0 := qv4.2.2.2.2.1
       have f1 := qv4.2.2.2.2.2.1
       have f2 := qv4.2.2.2.2.2.2.1
       have f3 := qv4.2.2.2.2.2.2.2
       have hZ := hq.1
       refine Zg (i := 13) rfl (by kernel_rfl) (fun K hK => ?_)
       go_simp
       (try rw [hZ])
       refine hK.out _ _ (fun _ => hSv2.out _ hq.2.1) ?_
       clear hK K
       try simp only [Act.put, Ze7, Ze8, Zfh]
       refine Zfo 1 [14] rfl (by kernel_rfl) (hSv2.out _ hq.2.1) ?_
       (refine tk1 (v := ?_) rfl (Or.inl ⟨by kernel_rfl, ?_⟩) ?_; rotate_left; (· intro W2 _; go_simp; try with_reducible rfl); try simp only [Act.put, Ze7, Ze8, Zfh, putG_a, putG_s, putG_z])
       refine tk0 ?_
       refine Zl (by kernel_rfl) ?_ _
       refine OnlyNormal.normal ?_
       have hbZww := hq.2.1
       have wwb := Za hq.2.2.1
       replace wwf := Za (Fr.keep wwf hq.2.2.2.1)
       clear hq hZ c0 c1' c2' c3 f0 f1 f2 f3 qv4 qv kv hbx hb hr2 hSv2 hxs2
       have hbx0 := hbZww
       have hM4 := hM3.out.below hbx0
       have hK4 := hK3.out.below hbx0
       have f5 := f3.out.below hbx0
       have hl3' := hl3.out
       obtain ⟨n5, A5, k5, c5, m5, B5, j5, d5, u0', u1', u2', u3', hf5⟩ := f5.at_ (i := j) (by rw [hl3']; exact hjm)
       have hf5c : q3[j]?.getD 0 = (Zb5 L i)[j]?.getD 0 := by
        have h1 := hq3.out j
        rw [if_neg (by omega)] at h1
        exact h1
       simp only [hf5c] at hf5
       have v0 := f5.frozen (j * 4)
       have v1 := f5.frozen (j * 4 + 1)
       have v2 := f5.frozen (j * 4 + 2)
       have v3 := f5.frozen (j * 4 + 3)
       have c0' := Zb hbx0 c0
       obtain ⟨y0, y1, y2, y3, -⟩ := wwb.out.four
       have sc3 := (hBq.out i j).sm (by decide) (by decide)
       have sc4 := hww.out.sm (by decide) (by decide)
       replace hM4 := Za hM4
       replace hK4 := Za hK4
       clear hf5c hl3' hbx0 q0 q1 q2 q3' x0 x1 x2 x3 hf4 hfb sc1 sc2 hM3 hK3 f3 f5 c0 c1' z0 z1
       go_wp2_with fail
       have hSv9 : Hid (∀ wx, Below Zww.heap.size Zww wx -> wx.cell? ⟨go, i, none⟩ = some (.slice (some ⟨ri.g, 0, none⟩) m ri.c) /\ wx.cell? ⟨ri.g, j * 4, none⟩ = some (.bool n5) /\ wx.cell? ⟨ri.g, j * 4 + 1, none⟩ = some (.slice A5 k5 c5) /\ wx.cell? ⟨ri.g, j * 4 + 2, none⟩ = some (.bool m5) /\ wx.cell? ⟨ri.g, j * 4 + 3, none⟩ = some (.slice B5 j5 d5) /\ wx.cell? ⟨gww, 0, none⟩ = some (.bool wwn) /\ wx.cell? ⟨gww, 1, none⟩ = some (.slice wwA wwk wwc) /\ wx.cell? ⟨gww, 2, none⟩ = some (.bool wwm) /\ wx.cell? ⟨gww, 3, none⟩ = some (.slice wwB wwj wwd)) := Za (fun wx hbx => ⟨Zb hbx c0', Zb hbx u0', Zb hbx u1', Zb hbx u2', Zb hbx u3', Zb hbx y0, Zb hbx y1, Zb hbx y2, Zb hbx y3⟩)
       have hr9 : Below Zww.heap.size Zww Zww.drew := Ze (Below.refl _ _) 1
       refine wp_heldS [18] hmx hSv9 hr9 (fun hxs9 => ?_)
       refine Zhz 13 [0, 1, 2, 3, 4, 5, 6, 7, 8, 9, 10, 11, 12] rfl (by kernel_rfl) (hSv9.out _ hr9) ?_
       iterate 13 (refine tk1 (v := ?_) rfl (Or.inl ⟨by kernel_rfl, ?_⟩) ?_; rotate_left; (· intro W2 hSw; (try dsimp only at hSw); go_simp; try with_reducible rfl); try simp only [Act.put, Ze7, Ze8, Zfh, putG_a, putG_s, putG_z])
       refine tk0 ?_
       refine Zg (i := 13) rfl (by kernel_rfl) (fun K hK => ?_)
       go_simp
       refine (Zil n5 m5 wwn wwm A5 B5 wwA wwB k5 c5 j5 d5 wwk wwc wwj wwd _ _ Zww.drew (hf5.below hr9) (wwf.out.below hr9) sc3 sc4).mono ?_
       rintro e w5 ⟨hb5, n6, A6, k6, c6, m6, B6, j6, d6, rfl, hf6⟩
       have hr10 := hr9.trans (hb5.mono hr9.size)
       refine hK.out _ _ (fun _ => hSv9.out _ hr10) ?_
       clear hK K
       try simp only [Act.put, Ze7, Ze8, Zfh]
       refine Zfo 4 [14, 15, 16, 17] rfl (by kernel_rfl) (hSv9.out _ hr10) ?_
       iterate 4 (refine tk1 (v := ?_) rfl (Or.inl ⟨by kernel_rfl, ?_⟩) ?_; rotate_left; (· intro W2 _; go_simp; try with_reducible rfl); try simp only [Act.put, Ze7, Ze8, Zfh, putG_a, putG_s, putG_z])
       refine tk0 ?_
       have hb5' : Below Zww.heap.size Zww w5 := Zq hb5
       have hM5 := hM4.out.below hb5'
       obtain ⟨Z9, hZ9⟩ : ∃ W, Zkn w5 ri.g j n6 A6 k6 c6 m6 B6 j6 d6 = W := ⟨_, rfl⟩
       have hZ9' := hZ9
       unfold Zkn at hZ9'
       have hK9 : Hid (Kept (fun g => g ∈ L.map RF.g) Zbb Z9) := Za (by rw [<- hZ9]; exact Zl3 (hK4.out.below hb5') (.inl hgi.out))
       have hM9 : Hid (MatB 40 45 Z9 go (L2.set i ⟨ri.g, ri.c, q3.set j ((Zb5 L i)[j]?.getD 0 - by_ * (Zb5 L r)[j]?.getD 0)⟩)) := Za (by
        have h1 := hM5.set_ (i := i) (r := ⟨ri.g, ri.c, q3⟩) (by rw [List.getElem?_set, if_pos rfl, if_pos (by rw [hl2.out]; exact hin)]) (k := j) (by rw [show RF.q ⟨ri.g, ri.c, q3⟩ = q3 from rfl, hl3.out]; exact hjm) hf6
        rw [List.set_set] at h1
        rw [<- hZ9]; exact h1)
       have f0 := Zj hb5' u0' v0
       have f1 := Zj hb5' u1' v1
       have f2 := Zj hb5' u2' v2
       have f3 := Zj hb5' u3' v3
       have g0 := Zb hb5' u0'
       have g1 := Zb hb5' u1'
       have g2 := Zb hb5' u2'
       have g3 := Zb hb5' u3'
       clear hM5 hZ9
       refine Zn (i := 18) rfl (by kernel_rfl) (by kernel_rfl) (fun K hK => ?_)
       go_simp
       (try rw [hZ9'])
       refine hK.out _ _ ?_
       clear hK K
       try simp only [Act.put, Ze7, Ze8, Zfh]
       refine Zl (by kernel_rfl) ?_ _
       refine OnlyNormal.normal ?_
       clear hZ9' f0 f1 f2 f3 g0 g1 g2 g3 hb5 hb5' hr9 hr10 hSv9 hxs9 u0' u1' u2' u3' y0 y1 y2 y3 v0 v1 v2 v3 hf6 hf5 hM4 hK4 c0'
       go_wp2_with fail
       go_roundg (m - (j + 1))
       case measure => omega
       case rel => exact ⟨j + 1, _, by omega, by go_num, by omega, hM9.out, Za (by rw [List.length_set]; exact hl3.out), Za (Zug (by rw [hl3.out, hmQ.out i hin]) hcj (by rw [hmQ.out i hin]; exact hjm) rfl hq3.out), hK9.out⟩
end Go.Proofs.YtigdclhagmnopaaGreat
