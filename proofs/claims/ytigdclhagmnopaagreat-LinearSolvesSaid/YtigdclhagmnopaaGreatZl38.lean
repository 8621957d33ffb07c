/- The reference of linear: Posdef of a good matrix. A matrix -/
import Derived.Test.YtigdclhagmnopaaGreatZl37
set_option linter.unusedSimpArgs false
set_option linter.unusedVariables false
namespace Go.Proofs.YtigdclhagmnopaaGreat
open Go.RowKit
attribute [local go_sem] Zi
theorem MXL.gat {w : World} {A : Option Addr} {n c : Nat} {rs : List RX} (h : MXL w A n c rs) (hE : Zdc rs = 0) {k : Nat} (hk : k < n) : ∃ g o r, A = some ⟨g, o, none⟩ /\ rs[k]? = some r /\ w.cell? ⟨g, o + k, none⟩ = some (.slice r.A r.n r.c) /\ FL w r.A r.n r.c ((qM rs)[k]?.getD []) /\ r.n = n0R rs := by
 obtain ⟨g, o, r, h1, h2, h3, h4⟩ := h.at_ hk
 have hm := (Zbg hE).2.2.2.2 r (List.mem_of_getElem? h2)
 refine ⟨g, o, r, h1, h2, h3, ?_, hm.1⟩
 unfold qM
 rw [List.getElem?_map, h2]
 exact h4.fl (fun e he => Zor hm.2 e he)
theorem Zc4 {rs : List RX} (h : sqE rs = 0) : Zdc rs = 0 /\ rs.length = n0R rs := by
 unfold sqE at h
 split at h
 ·rename_i h1
  split at h
  ·exact ⟨h1, by assumption⟩
  ·exact absurd h (by decide)
 ·rename_i h1; exact absurd h h1
structure RZ where
 g : Nat
 q : List Int
def RZ.rs (r : RZ) : RS := ⟨some ⟨r.g, 0, none⟩, r.q.length, r.q.length⟩
def MatZ (tS tF : TypeId) (w : World) (go : Nat) (L : List RZ) : Prop :=
 (∃ zs, Blk w go tS (Z1 (L.map RZ.rs ++ zs))) /\ (∀ r ∈ L, POwn tF w r.g r.q /\ r.q.length <= maxLen) /\ (go :: L.map RZ.g).Nodup
section
variable {tS tF : TypeId} {w w' : World} {go : Nat} {L : List RZ}
theorem MatZ.below (h : MatZ tS tF w go L) (hb : Below w.heap.size w w') : MatZ tS tF w' go L := by
 obtain ⟨⟨zs, h1⟩, h2, h3⟩ := h
 exact ⟨⟨zs, Zc hb h1⟩, fun r hr => ⟨(h2 r hr).1.below hb, (h2 r hr).2⟩, h3⟩
theorem MatZ.cell (h : MatZ tS tF w go L) {i : Nat} {r : RZ} (hr : L[i]? = some r) : w.cell? ⟨go, i, none⟩ = some (.slice (some ⟨r.g, 0, none⟩) r.q.length r.q.length) /\ w.frozen? ⟨go, i, none⟩ = false := by
 obtain ⟨⟨zs, h1⟩, -, -⟩ := h
 refine ⟨?_, h1.frozen i⟩
 rw [h1.cell]
 refine Zb2 (e := r.rs) ?_
 have hi := (List.getElem?_eq_some_iff.1 hr).1
 rw [List.getElem?_append_left (by simpa using hi), List.getElem?_map, hr]; rfl
theorem MatZ.row (h : MatZ tS tF w go L) {i : Nat} {r : RZ} (hr : L[i]? = some r) : POwn tF w r.g r.q /\ r.q.length <= maxLen := h.2.1 r (List.mem_of_getElem? hr)
theorem MatZ.ne (h : MatZ tS tF w go L) {i : Nat} {r : RZ} (hr : L[i]? = some r) : go ≠ r.g := fun e => by
 have := (List.nodup_cons.1 h.2.2).1
 exact this (List.mem_map.2 ⟨r, List.mem_of_getElem? hr, e.symm⟩)
theorem MatZ.ne2 (h : MatZ tS tF w go L) {i j : Nat} {r s : RZ} (hr : L[i]? = some r) (hs : L[j]? = some s) (hij : i ≠ j) : r.g ≠ s.g := fun e => by
 have hn := (List.nodup_cons.1 h.2.2).2
 have h1 : (L.map RZ.g)[i]? = some r.g := by rw [List.getElem?_map, hr]; rfl
 have h2 : (L.map RZ.g)[j]? = some r.g := by rw [List.getElem?_map, hs, e]; rfl
 exact hij ((List.getElem?_inj (by have := (List.getElem?_eq_some_iff.1 h1).1; exact this) hn).1 (h1.trans h2.symm))
theorem MatZ.boxes (h : MatZ tS tF w go L) : ∀ k, (k = go \/ k ∈ L.map RZ.g) -> ∃ t cs, Blk w k t cs /\ NoLimb cs := by
 intro k hk
 obtain ⟨⟨zs, h1⟩, h2, -⟩ := h
 rcases hk with rfl | hk
 ·exact ⟨tS, _, h1, Zap _⟩
 ·obtain ⟨r, hr, rfl⟩ := List.mem_map.1 hk
  exact (h2 r hr).1.box
theorem MatZ.set_ (h : MatZ tS tF w go L) {i : Nat} {r : RZ} (hr : L[i]? = some r) {k : Nat} (hk : k < r.q.length) {na : Bool} {A : Option Addr} {n c : Nat} {x : Int} (hf : Wd w na A n c x) :
    MatZ tS tF ((w.setCell ⟨r.g, k * 2, none⟩ (.bool na)).setCell ⟨r.g, k * 2 + 1, none⟩ (.slice A n c)) go (L.set i ⟨r.g, r.q.set k x⟩) := by
 have hne := h.ne hr
 have hne2 := fun {j : Nat} {s : RZ} (hs : L[j]? = some s) (hij : j ≠ i) => h.ne2 hs hr hij
 have hrow := h.row hr
 have hi := (List.getElem?_eq_some_iff.1 hr).1
 obtain ⟨⟨zs, h1⟩, h2, h3⟩ := h
 refine ⟨⟨zs, ?_⟩, fun s hs => ?_, ?_⟩
 ·have e : (L.set i ⟨r.g, r.q.set k x⟩).map RZ.rs = L.map RZ.rs := by
    rw [List.map_set]
    apply List.ext_getElem?
    intro j
    rw [List.getElem?_set]
    by_cases hij : i = j
    ·subst hij
     rw [if_pos rfl, if_pos (by simpa using hi), List.getElem?_map, hr]
     simp [RZ.rs]
    ·rw [if_neg hij]
  rw [e]
  exact (h1.far hne _).far hne _
 ·obtain ⟨j, hj, hjs⟩ := List.getElem_of_mem hs
  have hs2 : (L.set i ⟨r.g, r.q.set k x⟩)[j]? = some s := by rw [List.getElem?_eq_getElem hj, hjs]
  rw [List.getElem?_set] at hs2
  by_cases hij : i = j
  ·subst hij
   rw [if_pos rfl, if_pos hi] at hs2
   cases hs2
   exact ⟨hrow.1.set_ hk hf, by simpa using hrow.2⟩
  ·rw [if_neg hij] at hs2
   have := h2 s (List.mem_of_getElem? hs2)
   exact ⟨this.1.other hrow.1 (hne2 hs2 (Ne.symm hij)) _ _ _ _ _, this.2⟩
 ·have e : (L.set i ⟨r.g, r.q.set k x⟩).map RZ.g = L.map RZ.g := by
    rw [List.map_set]
    apply List.ext_getElem?
    intro j
    rw [List.getElem?_set]
    by_cases hij : i = j
    ·subst hij
     rw [if_pos rfl, if_pos (by simpa using hi), List.getElem?_map, hr]; rfl
    ·rw [if_neg hij]
  rw [e]; exact h3
theorem MatZ.swap (h : MatZ tS tF w go L) {i j : Nat} {r s : RZ} (hr : L[i]? = some r) (hs : L[j]? = some s) :
    MatZ tS tF ((w.setCell ⟨go, i, none⟩ (.slice (some ⟨s.g, 0, none⟩) s.q.length s.q.length)).setCell ⟨go, j, none⟩ (.slice (some ⟨r.g, 0, none⟩) r.q.length r.q.length)) go (Zy L i j) := by
 have hi := (List.getElem?_eq_some_iff.1 hr).1
 have hj := (List.getElem?_eq_some_iff.1 hs).1
 have hne := fun {j : Nat} {s : RZ} (hs : L[j]? = some s) => h.ne hs
 obtain ⟨⟨zs, h1⟩, h2, h3⟩ := h
 have hb1 := h1.set_ i (.slice (some ⟨s.g, 0, none⟩) s.q.length s.q.length)
 have hn1 : NoLimb ((Z1 (L.map RZ.rs ++ zs)).setIfInBounds i (.slice (some ⟨s.g, 0, none⟩) s.q.length s.q.length)) := Zec (Zap _) i (fun x => by simp)
 have hb2 := hb1.set_ j (.slice (some ⟨r.g, 0, none⟩) r.q.length r.q.length)
 have hk : ∀ (A : Option Addr) (n c : Nat) (l : List Nat), Lim w A n c l -> Lim ((w.setCell ⟨go, i, none⟩ (.slice (some ⟨s.g, 0, none⟩) s.q.length s.q.length)).setCell ⟨go, j, none⟩ (.slice (some ⟨r.g, 0, none⟩) r.q.length r.q.length)) A n c l :=
  fun A n c l hl => (hl.set_box h1 (Zap _) _ _).set_box hb1 hn1 _ _
 refine ⟨⟨zs, ?_⟩, fun x hx => ?_, ?_⟩
 ·have e : Z1 ((Zy L i j).map RZ.rs ++ zs) = ((Z1 (L.map RZ.rs ++ zs)).setIfInBounds i (.slice (some ⟨s.g, 0, none⟩) s.q.length s.q.length)).setIfInBounds j (.slice (some ⟨r.g, 0, none⟩) r.q.length r.q.length) := by
    have e1 := Zcp (es := L.map RZ.rs ++ zs) (i := i) s.rs
    have e2 := Zcp (es := (L.map RZ.rs ++ zs).set i s.rs) (i := j) r.rs
    simp only [RZ.rs] at e1 e2
    rw [e1, e2, Zns hr hs]
    congr 1
    rw [List.map_set, List.map_set, List.set_append_left _ _ (by simpa using hi), List.set_append_left _ _ (by simpa using hj)]
    rfl
  rw [e]
  exact hb2
 ·have hx2 := Zc0 L i j x hx
  obtain ⟨es, q1, q2, q3⟩ := (h2 x hx2).1
  obtain ⟨k, hk1, hk2⟩ := List.getElem_of_mem hx2
  have hgx : x.g ≠ go := Ne.symm (hne (j := k) (s := x) (by rw [List.getElem?_eq_getElem hk1, hk2]))
  exact ⟨⟨es, (q1.far hgx _).far hgx _, fun e he => ⟨hk _ _ _ _ (q2 e he).1, (q2 e he).2⟩, q3⟩, (h2 x hx2).2⟩
 ·rw [List.nodup_cons] at h3 ⊢
  rw [Zd2]
  refine ⟨fun hm => h3.1 (Zc0 _ _ _ _ hm), Zja h3.2 (by simpa using hi) (by simpa using hj)⟩
theorem MatZ.keptG {G : Nat -> Prop} (h : MatZ tS tF w go L) (hk : Kept G w w') (hg : ¬ G go) (hgs : ∀ r ∈ L, ¬ G r.g) (hG : ∀ k, G k -> ∃ t cs, Blk w k t cs /\ NoLimb cs) : MatZ tS tF w' go L := by
 obtain ⟨⟨zs, h1⟩, h2, h3⟩ := h
 refine ⟨⟨zs, hk.blk h1 hg⟩, fun r hr => ⟨?_, (h2 r hr).2⟩, h3⟩
 obtain ⟨es, q1, q2, q3⟩ := (h2 r hr).1
 exact ⟨es, hk.blk q1 (hgs r hr), fun e he => ⟨hk.lim (q2 e he).1 hG, (q2 e he).2⟩, q3⟩
end
def Zam (L : List RZ) (i : Nat) : List Int := (L[i]?.map RZ.q).getD []
theorem Zfy {L : List RZ} {i : Nat} {r : RZ} (h : L[i]? = some r) : Zam L i = r.q := by unfold Zam; rw [h]; rfl
theorem Zih (L : List RZ) (i j : Nat) : Zaa (L.map RZ.q) i j = (Zam L i)[j]?.getD 0 := by unfold Zaa Zam; rw [List.getElem?_map]
theorem Ziz (L : List RZ) (i : Nat) : Zam L i = (L.map RZ.q)[i]?.getD [] := by unfold Zam; rw [List.getElem?_map]
theorem Zq9 {L : List RZ} {i j : Nat} {r : RZ} (hi : i < L.length) : Zam (L.set i r) j = if j = i then r.q else Zam L j := by
 unfold Zam
 rw [List.getElem?_set]
 by_cases h : i = j
 ·subst h; rw [if_pos rfl, if_pos hi, if_pos rfl]; rfl
 ·rw [if_neg h, if_neg (Ne.symm h)]
theorem Ztl {L : List RZ} {R : List (List Int)} (hl : L.length = R.length) (h : ∀ i, i < R.length -> Zam L i = R[i]?.getD []) : L.map RZ.q = R := by
 apply List.ext_getElem?
 intro i
 rw [List.getElem?_map]
 by_cases hi : i < R.length
 ·have := h i hi
  unfold Zam at this
  rw [List.getElem?_eq_getElem (show i < L.length by omega), List.getElem?_eq_getElem hi] at this ⊢
  simp only [Option.map_some, Option.getD_some] at this ⊢
  rw [this]
 ·rw [List.getElem?_eq_none (by omega), List.getElem?_eq_none (by omega)]; rfl
theorem Zqf {R : List (List Int)} {r col i : Nat} {last : Int} (hi : i < R.length) : (Zcz R r col last)[i]?.getD [] = if i <= r then R[i]?.getD [] else Zoa (R[r]?.getD []) (R[i]?.getD []) col (Zaa R r col) last := by
 unfold Zcz
 rw [List.getElem?_map, List.getElem?_range hi]; rfl
theorem rowZ_eq {p row q : List Int} {col : Nat} {piv last : Int} (hl : q.length = row.length) (h : ∀ t, q[t]?.getD 0 = if t < row.length then Int.fdiv (row[t]?.getD 0 * piv - row[col]?.getD 0 * p[t]?.getD 0) last else row[t]?.getD 0) : q = Zoa p row col piv last := by
 apply List.ext_getElem?
 intro t
 unfold Zoa
 rw [List.getElem?_map]
 have := h t
 by_cases ht : t < row.length
 ·rw [List.getElem?_range ht]
  rw [List.getElem?_eq_getElem (show t < q.length by omega)] at this ⊢
  simp only [Option.map_some, Option.getD_some] at this ⊢
  rw [this, if_pos ht]
 ·rw [List.getElem?_eq_none (by omega), List.getElem?_eq_none (l := List.range _) (by simpa using ht)]; rfl
theorem Zsc {row q : List Int} {k : Nat} {x : Int} {f : Nat -> Int} (hl : q.length = row.length) (hkl : k < row.length) (hx : x = f k) (h : ∀ t, q[t]?.getD 0 = if t < k then f t else row[t]?.getD 0) :
    ∀ t, (q.set k x)[t]?.getD 0 = if t < k + 1 then f t else row[t]?.getD 0 := by
 intro t
 rw [List.getElem?_set]
 by_cases ht : k = t
 ·subst ht
  rw [if_pos rfl, if_pos (by omega), if_pos (by omega), hx]; rfl
 ·rw [if_neg ht, h t]
  by_cases h1 : t < k
  ·rw [if_pos h1, if_pos (by omega)]
  ·rw [if_neg h1, if_neg (by omega)]
end Go.Proofs.YtigdclhagmnopaaGreat
