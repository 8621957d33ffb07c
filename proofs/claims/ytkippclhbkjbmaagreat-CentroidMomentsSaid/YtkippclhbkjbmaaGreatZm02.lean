/- Package wide: subtract. Lists of whole numbers in memory, valid or not. Appends: onto a row of the call's own, from any slice; limbs and whole numbers. slices.Clone of limbs. math/bits.Div32. Division of limbs: what the loops of step, divide, right, short and digit keep. Plain. -/
import Derived.Maps.AppendAt
import Derived.Deep.AppendLies
import Derived.RegionTactic
import Derived.OwnWalk
import Derived.Test.YtkippclhbkjbmaaGreatZm01
set_option linter.unusedSimpArgs false
set_option linter.unusedVariables false

namespace Go.Proofs.YtkippclhbkjbmaaGreat
open Go.RowKit
attribute [local go_sem] add_lit

/-- Limbs that may be written: from place off of block g. -/
def MutL (w : World) (g off : Nat) (l : List Nat) : Prop := ∀ i, i < l.length → w.cell? ⟨g, off + i, none⟩ = some (limb (l[i]?.getD 0)) ∧ w.frozen? ⟨g, off + i, none⟩ = false
theorem MutL.set_ {w : World} {g off : Nat} {l : List Nat} (h : MutL w g off l) {i : Nat} (hi : i < l.length) (x : Nat) : MutL (w.setCell ⟨g, off + i, none⟩ (limb x)) g off (l.set i x) := fun j hj => by
  rw [List.length_set] at hj
  refine ⟨?_, by rw [World.frozen?_setCell]; exact (h j hj).2⟩
  by_cases hji : j = i
  · subst hji
    rw [getD_set_eq _ hi]
    exact World.cell?_setCell_same _ _ _ (h j hj).1
  · rw [getD_set_ne _ (fun e => hji e.symm), World.cell?_setCell_other _ _ _ _ (by intro e; injection e with e1 e2; omega)]
    exact (h j hj).1
theorem MutL.grown {w w' : World} {g g' off : Nat} {l : List Nat} (h : MutL w g off l) (hg : w.grownBy w' (some g')) (hne : g ≠ g') (hlt : g < w.heap.size) : MutL w' g off l := fun j hj =>
  ⟨(World.cell?_of_block (hg.block g hlt (fun e => hne (by injection e)))).trans (h j hj).1, (World.frozen?_of_block (hg.block g hlt (fun e => hne (by injection e)))).trans (h j hj).2⟩
theorem grownBy_set {w w' : World} {g o : Nat} {u : Value} (h : w.grownBy w' (some g)) : w.grownBy (w'.setCell ⟨g, o, none⟩ u) (some g) :=
  ⟨h.os, h.tape, h.output, by simpa using h.size, fun k hk hne => (Below.heap_setCell w' ⟨g, o, none⟩ u k (fun e => hne (by rw [e]))).trans (h.block k hk hne)⟩

/-- What 'subtract' has done behind i limbs. -/
def SubP (w : World) (g off n q : Nat) (u v : List Nat) (i cy b : Nat) (wr : World) : Prop :=
  ∃ l, MutL wr g off l ∧ l.length = n + 1 ∧ Lt32 l ∧ (∀ j, i ≤ j → l[j]?.getD 0 = u[j]?.getD 0) ∧ val (l.take i) + q * val (v.take i) = val (u.take i) + pw i * (cy + b) ∧ w.grownBy wr (some g)

theorem mulstep2 {c x y : Nat} (hc : c < 4294967296) (hx : x < 4294967296) (hy : y < 4294967296) :
    IntKind.u64.wrap ((c : Int) + IntKind.u64.wrap ((x : Int) * y)) = ((c + x * y : Nat) : Int) := by
  have h : x * y ≤ 4294967295 * 4294967295 := Nat.mul_le_mul (by omega) (by omega)
  have e : (x : Int) * y = ((x * y : Nat) : Int) := by simp
  rw [e]
  generalize x * y = t at *
  simp only [IntKind.wrap_u64]
  omega

set_option maxRecDepth 100000 in
set_option maxHeartbeats 1000000 in
theorem subtract_any (g off n c d q : Nat) (B : Option Addr) (u v : List Nat) (w : World) (hu : MutL w g off u) (hul : u.length = n + 1) (hut : Lt32 u) (hnc : n + 1 ≤ c) (hcm : c ≤ maxLen) (hn9 : n ≤ 1000000000)
    (hv : Lim w B n d v) (hB : ∀ b o, B = some ⟨b, o, none⟩ → b ≠ g) (hq : q < 4294967296) :
    Calls Tryz.prog 127 #[.slice (some ⟨g, off, none⟩) (n + 1) c, .slice B n d, .int .u32 q] w fun e w' => ∃ b l, b ≤ 1 ∧ e = .returned (.bool (decide (b = 0))) ∧ MutL w' g off l ∧ l.length = n + 1 ∧ Lt32 l ∧ val l + q * val v = val u + pw (n + 1) * b ∧ w.grownBy w' (some g) := by
  unfold maxLen at hcm
  have hnd := hv.2.1
  have hdm := hv.2.2.1
  unfold maxLen at hdm
  have hvl := hide hv.len
  replace hul := hide hul
  go_enter Tryz.func127, Tryz.ntmps127
  go_wp2
  go_loopw [14, 7, 8] (fun iv cv bv wr => ∃ i cy b : Nat, i ≤ n ∧ iv = .int .i64 i ∧ cy < 4294967296 ∧ cv = .int .u64 cy ∧ b ≤ 1 ∧ bv = limb b ∧ SubP w g off n q u v i cy b wr) (fun iv _ _ _ => n - (intOf iv).toNat)
  case atStart => exact ⟨0, 0, 0, Nat.zero_le _, rfl, by omega, rfl, Nat.zero_le _, rfl, u, hu, hul.out, hut, fun _ _ => rfl, by simp [val], World.grownBy.refl w _⟩
  case round =>
    obtain ⟨i, cy, b, hin, rfl, hcy, rfl, hb1, rfl, l, hl, hll, hlt, hsame, hI, hg⟩ := hrel
    replace hll := hide hll
    replace hsame := hide hsame
    replace hI := hide hI
    by_cases hi : i < n
    · obtain ⟨bb, ob, rfl, hcb⟩ := hv.at_ hi
      have hbg := hB bb ob rfl
      have hcb' := (World.cell?_of_block (a := ⟨bb, ob + i, none⟩) (hg.block bb (lt_of_cell hcb) (fun e => hbg (by injection e)))).trans hcb
      have hx := hv.lt.get i
      have hy := hut.get i
      obtain ⟨hcu, hfu⟩ := hl i (by rw [hll.out]; omega)
      rw [hsame.out i (Nat.le_refl _)] at hcu
      have hlen9 : i < l.length := by rw [hll.out]; omega
      go_wp2_with fail
      rw [mulstep2 hcy hq hx, cast_mod]
      have htb : cy + q * v[i]?.getD 0 < 18446744073709551616 := by
        have h : q * v[i]?.getD 0 ≤ 4294967295 * 4294967295 := Nat.mul_le_mul (by omega) (by omega)
        omega
      obtain ⟨t, ht⟩ : ∃ t, cy + q * v[i]?.getD 0 = t := ⟨_, rfl⟩
      rw [ht] at htb ⊢
      replace ht := hide ht
      refine (sub32_any _ (t % 4294967296) _ _ hy (Nat.mod_lt _ (by decide)) hb1).mono ?_
      rintro e w' ⟨dd, kk, rfl, hd, hk, he, rfl⟩
      replace he := hide he
      go_wp2_with fail
      go_roundw
      case rel =>
        rw [cast_div]
        refine ⟨i + 1, _, kk, by omega, by go_num, by omega, rfl, hk, rfl, l.set i dd, hl.set_ hlen9 dd, by rw [List.length_set]; exact hll.out, hlt.set i hd, fun j hj => ?_, ?_, grownBy_set hg⟩
        · rw [getD_set_ne _ (by omega)]; exact hsame.out j (by omega)
        · exact sub_step hlen9 hI.out (lo := t % 4294967296) (by rw [ht.out]; omega) (by have := he.out; omega)
      case measure => simp [intOf]; omega
    · obtain rfl : i = n := by omega
      have hy := hut.get i
      obtain ⟨hcu, hfu⟩ := hl i (by rw [hll.out]; omega)
      rw [hsame.out i (Nat.le_refl _)] at hcu
      have hlen9 : i < l.length := by rw [hll.out]; omega
      have hcc : ((cy : Int)) % 4294967296 = (cy : Int) := by omega
      go_wp2_with fail
      refine (sub32_any _ cy _ _ hy hcy hb1).mono ?_
      rintro e w' ⟨dd, kk, rfl, hd, hk, he, rfl⟩
      have hfin : Hid (val (l.set i dd) + q * val v = val u + pw (i + 1) * kk) := by
        have h1 := sub_step (v := v) (q := q) (lo := cy) (c := 0) hlen9 hI.out (by rw [getD_none (by rw [hvl.out]; exact Nat.le_refl _)]; omega) he
        rw [val_take_all (by rw [List.length_set, hll.out]; exact Nat.le_refl _), val_take_all (by rw [hvl.out]; omega), val_take_all (by rw [hul.out]; exact Nat.le_refl _), Nat.zero_add] at h1
        exact h1
      have hM := hl.set_ hlen9 dd
      have hL := hlt.set i hd
      have hG := grownBy_set (o := off + i) (u := limb dd) hg
      have hlen2 : Hid ((l.set i dd).length = i + 1) := by unfold Hid; rw [List.length_set]; exact hll.out
      replace he := hide he
      clear hl hlt
      rcases Nat.eq_zero_or_pos kk with rfl | h0
      · go_wp2_with fail
        go_returns
        exact ⟨0, _, by omega, rfl, hM, hlen2.out, hL, hfin.out, hG⟩
      · obtain rfl : kk = 1 := by omega
        go_wp2_with fail
        go_returns
        exact ⟨1, _, by omega, rfl, hM, hlen2.out, hL, hfin.out, hG⟩
end Go.Proofs.YtkippclhbkjbmaaGreat

namespace Go.Proofs.YtkippclhbkjbmaaGreat
open Go.RowKit

/-- An element of a []api.Wide: its sign, its slice, the limbs that the slice holds. -/
structure WE where
  neg : Bool
  A : Option Addr
  n : Nat
  c : Nat
  l : List Nat

def WE.num (e : WE) : Int := sg e.neg (val e.l)

/-- Are the sign and the limbs a valid number? -/
def okW (neg : Bool) (l : List Nat) : Bool := decide (l.length ≤ 4096) && decide (l.getLast? ≠ some 0) && !(l.isEmpty && neg)
def WE.ok (e : WE) : Bool := okW e.neg e.l

theorem okW_big {neg : Bool} {l : List Nat} (h : 4096 < l.length) : okW neg l = false := by unfold okW; simp; omega
theorem getLast_getD {l : List Nat} (h : 0 < l.length) : l.getLast? = some (l[l.length - 1]?.getD 0) := by
  rw [List.getLast?_eq_getElem?, List.getElem?_eq_getElem (by omega)]; rfl
theorem okW_last {neg : Bool} {l : List Nat} (h : 0 < l.length) (h' : l[l.length - 1]?.getD 0 = 0) : okW neg l = false := by
  unfold okW; rw [getLast_getD h, h']; simp
theorem okW_ok {neg : Bool} {l : List Nat} (h : 0 < l.length) (h1 : l.length ≤ 4096) (h' : l[l.length - 1]?.getD 0 ≠ 0) : okW neg l = true := by
  have hne : l.isEmpty = false := by cases l <;> simp_all
  unfold okW; rw [getLast_getD h]
  simp [h1, hne, h']
theorem okW_nil {neg : Bool} {l : List Nat} (h : l.length = 0) : okW neg l = !neg := by
  have : l = [] := List.eq_nil_of_length_eq_zero h
  subst this; simp [okW]

/-- A number that is valid stands in its one form. -/
theorem okW_iff {neg : Bool} {l : List Nat} (hl : Lt32 l) : okW neg l = true ↔ neg = decide (sg neg (val l) < 0) ∧ l.length ≤ 4096 ∧ l = digits (sg neg (val l)).natAbs := by
  rw [sg_natAbs, sg_neg]
  constructor
  · intro h
    unfold okW at h
    simp only [Bool.and_eq_true, decide_eq_true_eq, Bool.not_eq_true', Bool.and_eq_false_imp] at h
    obtain ⟨⟨h1, h2⟩, h3⟩ := h
    have h4 := eq_digits hl h2
    refine ⟨?_, h1, h4⟩
    cases neg with
    | false => rfl
    | true =>
      have : l ≠ [] := fun e => by subst e; simp at h3
      have : 0 < val l := by
        rw [← length_digits_pos, ← h4]
        exact List.length_pos_iff.2 this
      simp [this]
  · rintro ⟨h1, h2, h3⟩
    unfold okW
    simp only [Bool.and_eq_true, decide_eq_true_eq, Bool.not_eq_true', Bool.and_eq_false_imp]
    refine ⟨⟨h2, by rw [h3]; exact digits_getLast _⟩, fun h => ?_⟩
    have : l = [] := by simpa using h
    subst this
    rw [h1]; simp [val]

theorem Wd.ok {w : World} {neg : Bool} {A : Option Addr} {n c : Nat} {z : Int} (h : Wd w neg A n c z) : okW neg (digits z.natAbs) = true := by
  rw [okW_iff (lt32_digits _), h.sgEq]
  exact ⟨h.1, by rw [h.2.2.len]; exact h.2.1, rfl⟩
theorem Wd.of_ok {w : World} {neg : Bool} {A : Option Addr} {n c : Nat} {l : List Nat} (h : Lim w A n c l) (hk : okW neg l = true) : Wd w neg A n c (sg neg (val l)) := by
  obtain ⟨h1, h2, h3⟩ := (okW_iff h.lt).1 hk
  refine ⟨h1, by rw [← h.len]; exact h2, ?_⟩
  rw [← h3]; exact h

/-- The slice 'A, n of c' holds the numbers es. -/
def WL (w : World) (A : Option Addr) (n c : Nat) (es : List WE) : Prop :=
  es.length = n ∧ n ≤ c ∧ c ≤ maxLen ∧ (0 < n → ∃ b o, A = some ⟨b, o, none⟩ ∧ ∀ k e, es[k]? = some e → w.cell? ⟨b, o + k * 2, none⟩ = some (.bool e.neg) ∧ w.cell? ⟨b, o + k * 2 + 1, none⟩ = some (.slice e.A e.n e.c)) ∧
    ∀ e ∈ es, Lim w e.A e.n e.c e.l

section
variable {w w' : World} {A : Option Addr} {n c : Nat} {es : List WE}
theorem WL.len (h : WL w A n c es) : es.length = n := h.1
theorem WL.nil (w : World) (A : Option Addr) (c : Nat) (hc : c ≤ maxLen) : WL w A 0 c [] := ⟨rfl, Nat.zero_le _, hc, fun h => absurd h (by omega), fun e h => by cases h⟩
theorem WL.at_ (h : WL w A n c es) {k : Nat} (hk : k < n) : ∃ b o e, A = some ⟨b, o, none⟩ ∧ es[k]? = some e ∧ w.cell? ⟨b, o + k * 2, none⟩ = some (.bool e.neg) ∧ w.cell? ⟨b, o + k * 2 + 1, none⟩ = some (.slice e.A e.n e.c) ∧ Lim w e.A e.n e.c e.l := by
  obtain ⟨b, o, e, hc⟩ := h.2.2.2.1 (by omega)
  have hl : k < es.length := by rw [h.1]; exact hk
  have := hc k _ (List.getElem?_eq_getElem hl)
  exact ⟨b, o, es[k], e, List.getElem?_eq_getElem hl, this.1, this.2, h.2.2.2.2 _ (List.getElem_mem hl)⟩
theorem WL.keep (h : WL w A n c es) (hk : ∀ p : Addr, p.block < w.heap.size → w'.cell? p = w.cell? p) : WL w' A n c es :=
  ⟨h.1, h.2.1, h.2.2.1, fun hn => by
    obtain ⟨b, o, e, hc⟩ := h.2.2.2.1 hn
    exact ⟨b, o, e, fun k e' he => ⟨(hk _ (lt_of_cell (hc k e' he).1)).trans (hc k e' he).1, (hk _ (lt_of_cell (hc k e' he).2)).trans (hc k e' he).2⟩⟩,
    fun e he => (h.2.2.2.2 e he).keep hk⟩
theorem WL.below (h : WL w A n c es) (hb : Below w.heap.size w w') : WL w' A n c es := h.keep fun _ hp => hb.cell hp
theorem WL.alloc (h : WL w A n c es) (o : Obj) : WL (w.alloc o) A n c es := h.below ((Below.refl _ _).alloc (Nat.le_refl _) _)
theorem WL.take (h : WL w A n c es) {k : Nat} (hk : k ≤ n) : WL w A k c (es.take k) :=
  ⟨by rw [List.length_take, h.len]; omega, by have := h.2.1; omega, h.2.2.1, fun h0 => (by
    obtain ⟨b, o, e, hc⟩ := h.2.2.2.1 (by omega)
    refine ⟨b, o, e, fun j e' hj => hc j e' ?_⟩
    rw [List.getElem?_take] at hj
    split at hj
    · exact hj
    · cases hj), fun e he => h.2.2.2.2 e (List.mem_of_mem_take he)⟩
end

/-- One number, two numbers laid into a new slice. -/
theorem WL.one {w : World} {neg : Bool} {A : Option Addr} {n c : Nat} {l : List Nat} (h : Lim w A n c l) (t : TypeId) :
    WL (w.alloc (.cells #[.bool neg, .slice A n c] t)) (some ⟨w.heap.size, 0, none⟩) 1 1 [⟨neg, A, n, c, l⟩] :=
  ⟨rfl, by omega, by unfold maxLen; omega, fun _ => ⟨_, _, rfl, fun k e he => by
    cases k with
    | zero =>
      simp at he; subst he
      have hb := Blk.new w t #[.bool neg, .slice A n c]
      exact ⟨hb.cell 0, hb.cell 1⟩
    | succ k => simp at he⟩, fun e he => by simp at he; subst he; exact h.alloc _⟩
theorem WL.two {w : World} {neg neg' : Bool} {A A' : Option Addr} {n c n' c' : Nat} {l l' : List Nat} (h : Lim w A n c l) (h' : Lim w A' n' c' l') (t : TypeId) :
    WL (w.alloc (.cells #[.bool neg, .slice A n c, .bool neg', .slice A' n' c'] t)) (some ⟨w.heap.size, 0, none⟩) 2 2 [⟨neg, A, n, c, l⟩, ⟨neg', A', n', c', l'⟩] :=
  ⟨rfl, by omega, by unfold maxLen; omega, fun _ => ⟨_, _, rfl, fun k e he => by
    have hb := Blk.new w t #[.bool neg, .slice A n c, .bool neg', .slice A' n' c']
    match k with
    | 0 => simp at he; subst he; exact ⟨hb.cell 0, hb.cell 1⟩
    | 1 => simp at he; subst he; exact ⟨hb.cell 2, hb.cell 3⟩
    | k + 2 => simp at he⟩, fun e he => by
      simp at he
      rcases he with rfl | rfl
      · exact h.alloc _
      · exact h'.alloc _⟩

theorem keep_blk {W w1 : World} {g : Nat} {t : TypeId} {cs : Array Value} (hb : Below W.heap.size W w1) (h : Blk W g t cs) : Blk w1 g t cs := h.below hb h.lt

/-- No limb among a block's cells. -/
def NoLimb (cs : Array Value) : Prop := ∀ (i x : Nat), cs[i]? ≠ some (limb x)
theorem NoLimb.box (b : Bool) (A : Option Addr) (n c : Nat) : NoLimb #[.bool b, .slice A n c] := fun i x => by
  match i with
  | 0 => simp
  | 1 => simp
  | i + 2 => simp
theorem Lim.set_box {w : World} {A : Option Addr} {n c : Nat} {l : List Nat} (h : Lim w A n c l) {g : Nat} {t : TypeId} {cs : Array Value} (hb : Blk w g t cs) (hcs : NoLimb cs) (i : Nat) (u : Value) : Lim (w.setCell ⟨g, i, none⟩ u) A n c l :=
  ⟨h.1, h.2.1, h.2.2.1, h.2.2.2.1, fun hn => by
    obtain ⟨b, o, e, hc⟩ := h.2.2.2.2 hn
    refine ⟨b, o, e, fun k hk => (World.cell?_setCell_other w _ _ u ?_).trans (hc k hk)⟩
    intro he
    have hbg : b = g := by cases he; rfl
    have := hc k hk
    rw [hbg, hb.cell] at this
    exact hcs _ _ this⟩
theorem ResP.set_box {w : World} {z : Int} {neg : Bool} {A : Option Addr} {n c : Nat} {code : Int} (h : ResP w z neg A n c code) {g : Nat} {t : TypeId} {cs : Array Value} (hb : Blk w g t cs) (hcs : NoLimb cs) (i : Nat) (u : Value) : ResP (w.setCell ⟨g, i, none⟩ u) z neg A n c code := by
  rcases h with ⟨h1, h2, h3⟩ | h
  · exact .inl ⟨h1, h2, h3.1, h3.2.1, h3.2.2.set_box hb hcs i u⟩
  · exact .inr h
theorem ResP.below {w w' : World} {z : Int} {neg : Bool} {A : Option Addr} {n c : Nat} {code : Int} (h : ResP w z neg A n c code) (hb : Below w.heap.size w w') : ResP w' z neg A n c code := by
  rcases h with ⟨h1, h2, h3⟩ | h
  · exact .inl ⟨h1, h2, h3.below hb⟩
  · exact .inr h
/-- The result is stored into the result's box. -/
theorem ResW.box {w w3 : World} {z : Int} {neg : Bool} {A : Option Addr} {n c : Nat} {code : Int} {g : Nat} {t : TypeId} {b0 : Bool} {A0 : Option Addr} {n0 c0 : Nat} (hP : ResP w3 z neg A n c code) (hB : Below w.heap.size w w3) (hg : w.heap.size ≤ g) (hb : Blk w3 g t #[.bool b0, .slice A0 n0 c0]) :
    ResW w z (.returned (.tuple #[.agg #[.bool neg, .slice A n c], .int .i64 code])) ((w3.setCell ⟨g, 0, none⟩ (.bool neg)).setCell ⟨g, 1, none⟩ (.slice A n c)) := by
  have hb1 : Blk (w3.setCell ⟨g, 0, none⟩ (.bool neg)) g t #[.bool neg, .slice A0 n0 c0] := hb.set_ 0 (.bool neg)
  exact ⟨(hB.setCell (p := ⟨g, 0, none⟩) hg _).setCell (p := ⟨g, 1, none⟩) hg _, _, _, _, _, _, rfl, (hP.set_box hb (NoLimb.box _ _ _ _) _ _).set_box hb1 (NoLimb.box _ _ _ _) _ _⟩
end Go.Proofs.YtkippclhbkjbmaaGreat

namespace Go.Proofs.YtkippclhbkjbmaaGreat
open Go.RowKit

def Reads (w : World) (B size : Nat) (A : Option Addr) (n : Nat) (xs : List Value) : Prop :=
  xs.length = n * size ∧ (0 < n → ∃ ad, A = some ad ∧ ad.block < B ∧ ∀ j u, xs[j]? = some u → w.cell? (ad.add j) = some u)

section
variable {w w' : World} {B B' size n : Nat} {A : Option Addr} {xs : List Value}
theorem Reads.none_ : Reads w B size A 0 [] := ⟨by simp, fun h => absurd h (by omega)⟩
theorem Reads.at_ {k : Nat} (h : Reads w B 1 A n xs) (hk : k < n) : ∃ ad u, A = some ad ∧ ad.block < B ∧ xs[k]? = some u ∧ w.cell? (ad.add k) = some u := by
  obtain ⟨ad, e, hb, hc⟩ := h.2 (by omega)
  have hl : k < xs.length := by have := h.1; omega
  exact ⟨ad, xs[k], e, hb, List.getElem?_eq_getElem hl, hc k _ (List.getElem?_eq_getElem hl)⟩
theorem Reads.keep (h : Reads w B size A n xs) (hk : ∀ p : Addr, p.block < B → w'.cell? p = w.cell? p) : Reads w' B size A n xs :=
  ⟨h.1, fun hn => by
    obtain ⟨ad, e, hb, hc⟩ := h.2 hn
    exact ⟨ad, e, hb, fun j u hu => (hk _ (by rw [block_of_add]; exact hb)).trans (hc j u hu)⟩⟩
theorem Reads.more (h : Reads w B size A n xs) (hB : B ≤ B') : Reads w B' size A n xs :=
  ⟨h.1, fun hn => by
    obtain ⟨ad, e, hb, hc⟩ := h.2 hn
    exact ⟨ad, e, by omega, hc⟩⟩
theorem Reads.below (h : Reads w B size A n xs) (hb : Below B w w') : Reads w' B size A n xs := h.keep fun _ hp => hb.cell hp
theorem Reads.drew (h : Reads w B size A n xs) : Reads w.drew B size A n xs := h
theorem Reads.drewN (h : Reads w B size A n xs) (k : Nat) : Reads (w.drewN k) B size A n xs := h
theorem Reads.alloc (h : Reads w B size A n xs) (hB : B ≤ w.heap.size) (o : Obj) : Reads (w.alloc o) B size A n xs := h.keep fun p hp => World.cell?_alloc_lt w o p (by omega)
theorem Reads.setCell (h : Reads w B size A n xs) {p : Addr} (hB : B ≤ p.block) (u : Value) : Reads (w.setCell p u) B size A n xs :=
  h.keep fun q hq => World.cell?_setCell_other w p q u (fun e => by subst e; omega)
theorem Reads.grown (h : Reads w B size A n xs) {row : Option Nat} (hg : w.grownBy w' row) (hB : B ≤ w.heap.size) (hr : ∀ g, row = some g → B ≤ g) : Reads w' B size A n xs :=
  h.keep fun p hp => World.cell?_of_block (hg.block p.block (by omega) (fun e => by have := hr _ e.symm; omega))
theorem Reads.cut (h : Reads w B size A n xs) {k cap : Nat} (hk : k ≤ n) (hc : n ≤ cap) :
    Reads w B size (if cap = k then A else A.map (·.add (k * size))) (n - k) (xs.drop (k * size)) := by
  refine ⟨by rw [List.length_drop, h.1, Nat.sub_mul], fun hn => ?_⟩
  obtain ⟨ad, rfl, hb, hcell⟩ := h.2 (by omega)
  rw [if_neg (by omega)]
  refine ⟨ad.add (k * size), rfl, by rw [block_of_add]; exact hb, fun j u hu => ?_⟩
  rw [add_of_add]
  exact hcell _ u (by rw [← hu, List.getElem?_drop])
theorem Reads.of_own {base : Nat} {e : TypeId} {c : Nat} (h : w.ownsRow base e size (.slice A n c) n xs) : Reads w w.heap.size size A n xs := by
  refine ⟨h.1, fun hn => ?_⟩
  obtain ⟨g, cap, hv, _, hlt⟩ := h.form hn
  have hA : A = some ⟨g, 0, none⟩ := by injection hv
  subst hA
  exact ⟨_, rfl, hlt, h.cells (g := g) rfl⟩
end

section
variable {P : Program} (w : World)

theorem run_append_of_nil (base : Nat) (t ty e : TypeId) (i : TypeInfo) (size : Nat) (ht : P.underlying t = some (.slice e)) (hi : P.info? e = some i)
    (v : Value) (n : Nat) (xs : List Value) (hown : w.ownsRow base e size v n xs) (c : Nat) : (Builtin.append_ #[t, t] ty #[v, .slice none 0 c]).run P w = .ok v w := by
  rcases hown.2 with ⟨rfl, rfl⟩ | ⟨g, cap, cur, rfl, _, _, hnc, _⟩
  · simp [Builtin.append_, run_underlying ht, sizeOf, typeInfo, hi, Builtin.lenOf, Builtin.firstCells]
  · simp [Builtin.append_, run_underlying ht, sizeOf, typeInfo, hi, Builtin.lenOf, Builtin.firstCells, hnc, storeCells]

theorem run_append_any (base : Nat) (t ty e : TypeId) (i : TypeInfo) (z : Value) (size bytes : Nat) (ht : P.underlying t = some (.slice e)) (hi : P.info? e = some i) (hz : i.zero = some z)
    (hsize : i.size = size) (hby : i.bytes = bytes) (hzs : z.cells.size = size) (hsz : 0 < size)
    (v : Value) (n : Nat) (xs : List Value) (hown : w.ownsRow base e size v n xs)
    (B : Nat) (A : Option Addr) (m c : Nat) (news : List Value) (hr : Reads w B size A m news) (h1 : ∀ u ∈ news, u.oneCell' = true)
    (h63 : n + m ≤ maxLen) (hbytes : (n + m) * bytes ≤ 140737488355328) (hbase : base ≤ w.heap.size) :
    ∃ v' w', (Builtin.append_ #[t, t] ty #[v, .slice A m c]).run P w = .ok v' w' ∧ w'.ownsRow base e size v' (n + m) (xs ++ news) ∧ w.grownBy w' v.ownBlock ∧
      (v'.ownBlock = v.ownBlock ∨ v'.ownBlock = some w.heap.size) := by
  rcases A with _ | ad
  · have hm : m = 0 := by
      rcases Nat.eq_zero_or_pos m with h0 | h0
      · exact h0
      · obtain ⟨ad, h, _⟩ := hr.2 h0
        cases h
    subst hm
    have hn : news = [] := List.eq_nil_of_length_eq_zero (by simpa using hr.1)
    subst hn
    exact ⟨v, w, run_append_of_nil w base t ty e i size ht hi v n xs hown c, by simpa using hown, World.grownBy.refl w _, .inl rfl⟩
  · have hcells : ∀ j u, news[j]? = some u → w.cell? (ad.add j) = some u := by
      intro j u hu
      rcases Nat.eq_zero_or_pos m with h0 | h0
      · subst h0
        have hn : news = [] := List.eq_nil_of_length_eq_zero (by simpa using hr.1)
        subst hn
        simp at hu
      · obtain ⟨ad', h, _, hc⟩ := hr.2 h0
        injection h with h
        subst h
        exact hc j u hu
    obtain ⟨v', w', hrun, h2, h3, _, h5⟩ := run_append_own_at (P := P) w base t ty e i z size bytes ht hi hz hsize hby hzs hsz v n xs hown ad m c news hr.1 hcells h1 h63 hbytes hbase
    exact ⟨v', w', hrun, h2, h3, h5⟩

theorem wp_append_any {o : Oper} {a : Act} {K : Act → World → Prop} {Q : Exit → Act → World → Prop} (s x : Operand) (t : TypeId)
    (ho : o.op = .call { callee := .builtin .append, args := #[s, x], argTypes := #[t, t] })
    (base : Nat) (e : TypeId) (i : TypeInfo) (z : Value) (size bytes : Nat) (ht : P.underlying t = some (.slice e)) (hi : P.info? e = some i) (hz : i.zero = some z)
    (hsize : i.size = size) (hby : i.bytes = bytes) (hzs : z.cells.size = size) (hsz : 0 < size)
    (v : Value) (n : Nat) (xs : List Value) (hs : a.eval s = v) (hown : w.ownsRow base e size v n xs)
    (B : Nat) (A : Option Addr) (m c : Nat) (news : List Value) (hx : a.eval x = .slice A m c) (hr : Reads w B size A m news) (h1 : ∀ u ∈ news, u.oneCell' = true)
    (h63 : n + m ≤ maxLen) (hbytes : (n + m) * bytes ≤ 140737488355328) (hbase : base ≤ w.heap.size)
    (h : ∀ v' w', w'.ownsRow base e size v' (n + m) (xs ++ news) → w.grownBy w' v.ownBlock → (v'.ownBlock = v.ownBlock ∨ v'.ownBlock = some w.heap.size) → K (a.put o.dst v') w') : o.wp P a w K Q := by
  obtain ⟨v', w', hrun, h2, h3, h4⟩ := run_append_any (P := P) w base t o.type e i z size bytes ht hi hz hsize hby hzs hsz v n xs hown B A m c news hr h1 h63 hbytes hbase
  unfold Oper.wp execOp
  simp only [ho, resolve, invoke, builtin, Sem.run_bind, Sem.run_pure, Result.andThen_ok, List.map_toArray, List.map_cons, List.map_nil, hs, hx, hrun]
  exact h v' w' h2 h3 h4

theorem wpList_append_any {ops : Array Oper} {rest : List Oper} {o : Oper} {a : Act} {Q : Exit → Act → World → Prop} (hgd : o.guard = none) (s x : Operand) (t : TypeId)
    (ho : o.op = .call { callee := .builtin .append, args := #[s, x], argTypes := #[t, t] })
    (base : Nat) (e : TypeId) (i : TypeInfo) (z : Value) (size bytes : Nat) (ht : P.underlying t = some (.slice e)) (hi : P.info? e = some i) (hz : i.zero = some z)
    (hsize : i.size = size) (hby : i.bytes = bytes) (hzs : z.cells.size = size) (hsz : 0 < size)
    (v : Value) (n : Nat) (xs : List Value) (hs : a.eval s = v) (hown : w.ownsRow base e size v n xs)
    (B : Nat) (A : Option Addr) (m c : Nat) (news : List Value) (hx : a.eval x = .slice A m c) (hr : Reads w B size A m news) (h1 : ∀ u ∈ news, u.oneCell' = true)
    (h63 : n + m ≤ maxLen) (hbytes : (n + m) * bytes ≤ 140737488355328) (hbase : base ≤ w.heap.size)
    (h : ∀ v' w', w'.ownsRow base e size v' (n + m) (xs ++ news) → w.grownBy w' v.ownBlock → (v'.ownBlock = v.ownBlock ∨ v'.ownBlock = some w.heap.size) → wpList P ops Q rest (a.put o.dst v') w') : wpList P ops Q (o :: rest) a w :=
  wpList_plain hgd fun _ hK => wp_append_any w s x t ho base e i z size bytes ht hi hz hsize hby hzs hsz v n xs hs hown B A m c news hx hr h1 h63 hbytes hbase fun v' w' h2 h3 h4 => hK _ _ (h v' w' h2 h3 h4)

theorem step_append_any {ops : Array Oper} {o : Oper} {a : Act} {K : Act → World → Prop} {Q : Exit → Act → World → Prop} {E : Prop} (hgd : o.guard = none) (s x : Operand) (t : TypeId)
    (ho : o.op = .call { callee := .builtin .append, args := #[s, x], argTypes := #[t, t] })
    (base : Nat) (e : TypeId) (i : TypeInfo) (z : Value) (size bytes : Nat) (ht : P.underlying t = some (.slice e)) (hi : P.info? e = some i) (hz : i.zero = some z)
    (hsize : i.size = size) (hby : i.bytes = bytes) (hzs : z.cells.size = size) (hsz : 0 < size)
    (v : Value) (n : Nat) (xs : List Value) (hs : a.eval s = v) (hown : w.ownsRow base e size v n xs)
    (B : Nat) (A : Option Addr) (m c : Nat) (news : List Value) (hx : a.eval x = .slice A m c) (hr : Reads w B size A m news) (h1 : ∀ u ∈ news, u.oneCell' = true)
    (h63 : n + m ≤ maxLen) (hbytes : (n + m) * bytes ≤ 140737488355328) (hbase : base ≤ w.heap.size)
    (h : ∀ v' w', w'.ownsRow base e size v' (n + m) (xs ++ news) → w.grownBy w' v.ownBlock → (v'.ownBlock = v.ownBlock ∨ v'.ownBlock = some w.heap.size) → K (a.put o.dst v') w') :
    if Region.wanted o (yielded ops a.tmps) = true then Oper.wp P o a w K Q else E := by
  have hw : Region.wanted o (yielded ops a.tmps) = true := by simp [Region.wanted, hgd]
  rw [if_pos hw]
  exact wp_append_any w s x t ho base e i z size bytes ht hi hz hsize hby hzs hsz v n xs hs hown B A m c news hx hr h1 h63 hbytes hbase h
end

theorem Lim.reads {w : World} {A : Option Addr} {n c : Nat} {l : List Nat} (h : Lim w A n c l) : Reads w w.heap.size 1 A n (l.map limb) :=
  ⟨by simp [h.len], fun hn => by
    obtain ⟨b, o, e, hc⟩ := h.2.2.2.2 hn
    refine ⟨_, e, lt_of_cell (hc 0 hn), fun j u hu => ?_⟩
    rw [add_lit]
    have hj : j < n := by
      rcases Nat.lt_or_ge j n with h' | h'
      · exact h'
      · rw [List.getElem?_eq_none (by simp [h.len]; exact h')] at hu; cases hu
    rw [hc j hj]
    rw [List.getElem?_map, List.getElem?_eq_getElem (by rw [h.len]; exact hj)] at hu
    rw [List.getElem?_eq_getElem (by rw [h.len]; exact hj)]
    simpa using hu⟩

/-- The slice value v owns, from block base on, the limbs l. -/
def OwnL (t : TypeId) (w : World) (base : Nat) (v : Value) (l : List Nat) : Prop := w.ownsRow base t 1 v l.length (l.map limb) ∧ Lt32 l
theorem OwnL.nil (t : TypeId) (w : World) (base : Nat) : OwnL t w base (.slice none 0 0) [] := ⟨World.ownsRow_nil _ _ _ _, Lt32.nil⟩
theorem OwnL.lim {t : TypeId} {w : World} {base : Nat} {v : Value} {l : List Nat} (h : OwnL t w base v l) : ∃ A c, v = .slice A l.length c ∧ Lim w A l.length c l := by
  obtain ⟨h1, h2⟩ := h
  rcases h1.2 with ⟨hv, h0⟩ | ⟨g, cap, cur, hv, _, hh, hnc, hcm, hcs, ht⟩
  · have : l = [] := List.eq_nil_of_length_eq_zero h0
    subst this
    exact ⟨none, 0, hv, Lim.nil _ _ _ (Nat.zero_le _)⟩
  · refine ⟨_, cap, hv, rfl, hnc, hcm, h2, fun _ => ⟨g, 0, rfl, fun k hk => ?_⟩⟩
    rw [Nat.zero_add, cell_of_row w g k cur t (0, 0) hh]
    have h3 : (cur.toList.take (l.length * 1))[k]? = (l.map limb)[k]? := by rw [ht]
    rw [List.getElem?_take, if_pos (by omega), List.getElem?_map, List.getElem?_eq_getElem hk] at h3
    rw [List.getElem?_eq_getElem hk]
    simpa using h3
theorem OwnL.kept {t : TypeId} {w w' : World} {base : Nat} {v : Value} {l : List Nat} (h : OwnL t w base v l) (hb : Below w.heap.size w w') : OwnL t w' base v l := by
  refine ⟨⟨h.1.1, ?_⟩, h.2⟩
  rcases h.1.2 with h0 | ⟨g, cap, cur, hv, hg, hh, r⟩
  · exact .inl h0
  · exact .inr ⟨g, cap, cur, hv, hg, (hb.block g (Array.getElem?_eq_some_iff.1 hh).1).trans hh, r⟩
theorem OwnL.alloc {t : TypeId} {w : World} {base : Nat} {v : Value} {l : List Nat} (h : OwnL t w base v l) (o : Obj) : OwnL t (w.alloc o) base v l := h.kept ((Below.refl _ _).alloc (Nat.le_refl _) _)
theorem OwnL.append {t : TypeId} {w' : World} {base : Nat} {v' : Value} {l m : List Nat} {n k : Nat} (hn : n = l.length) (hk : k = m.length) (h : w'.ownsRow base t 1 v' (n + k) (l.map limb ++ m.map limb)) (hl : Lt32 l) (hm : Lt32 m) : OwnL t w' base v' (l ++ m) := by
  subst hn hk
  refine ⟨?_, hl.append hm⟩
  rw [List.length_append, List.map_append]; exact h
theorem OwnL.row_ge {t : TypeId} {w : World} {base : Nat} {v : Value} {l : List Nat} (h : OwnL t w base v l) : ∀ k, v.ownBlock = some k → base ≤ k := fun k hk => (h.1.lt k hk).1
theorem oneCell_limbs (l : List Nat) : ∀ u ∈ l.map limb, u.oneCell' = true := fun u hu => by
  obtain ⟨x, _, rfl⟩ := List.mem_map.1 hu; rfl

theorem own_empty (w : World) (t : TypeId) (size : Nat) : (w.alloc (.cells #[] t)).ownsRow w.heap.size t size (.slice (some ⟨w.heap.size, 0, none⟩) 0 0) 0 [] := by
  have := World.ownsRow_lit (base := w.heap.size) (e := t) (size := size) w #[] 0 (Nat.le_refl _) (Nat.zero_le _) (by simp)
  simpa using this
/-- What an append onto an empty slice of the call's own hands back. -/
theorem OutL.of_append {t : TypeId} {w w1 wb : World} {v1 : Value} {m : List Nat} {k : Nat} {P : List Nat → Prop} {row : Option Nat} (h : w1.ownsRow w.heap.size t 1 v1 (0 + k) ([] ++ m.map limb)) (hk : m.length = k) (hm : Lt32 m)
    (hB : Below w.heap.size w wb) (hg : wb.grownBy w1 row) (hr : ∀ j, row = some j → w.heap.size ≤ j) (hP : P m) : OutL w P (.returned v1) w1 := by
  have h2 : OwnL t w1 w.heap.size v1 ([] ++ m) := OwnL.append (l := []) rfl hk.symm h Lt32.nil hm
  rw [List.nil_append] at h2
  obtain ⟨A, c, rfl, hL⟩ := h2.lim
  exact ⟨A, _, c, m, rfl, hL, hP, hB.grown hg hB.size hr⟩

theorem below_dn {B : Nat} {a w : World} (h : Below B a w) (n : Nat) : Below B a (w.drewN n) := ⟨h.os, h.tape, h.output, h.size, h.block⟩

theorem reads_one (w : World) (x : Value) (t : TypeId) : Reads (w.alloc (.cells #[x] t)) (w.heap.size + 1) 1 (some ⟨w.heap.size, 0, none⟩) 1 [x] :=
  ⟨rfl, fun _ => ⟨_, rfl, Nat.lt_succ_self _, fun j u hu => by
    cases j with
    | zero =>
      simp at hu; subst hu
      exact (Blk.new w t #[x]).cell 0
    | succ j => simp at hu⟩⟩
theorem OwnL.snoc {t : TypeId} {w' : World} {base : Nat} {v' : Value} {l : List Nat} {n : Nat} {X : Int} {s : Nat} (hn : n = l.length) (h : w'.ownsRow base t 1 v' (n + 1) (l.map limb ++ [.int .u32 X])) (hl : Lt32 l) (hX : X = s) (hs : s < 4294967296) : OwnL t w' base v' (l ++ [s]) := by
  subst hX
  exact OwnL.append (m := [s]) hn rfl h hl (Lt32.cons hs Lt32.nil)
theorem val_snoc (l : List Nat) (x : Nat) : val (l ++ [x]) = val l + pw l.length * x := by rw [val_append]; simp [val]
theorem OutL.of_own {t : TypeId} {w w1 : World} {v1 : Value} {m : List Nat} {P : List Nat → Prop} (h : OwnL t w1 w.heap.size v1 m) (hB : Below w.heap.size w w1) (hP : P m) : OutL w P (.returned v1) w1 := by
  obtain ⟨A, c, rfl, hL⟩ := h.lim
  exact ⟨A, _, c, m, rfl, hL, hP, hB⟩
end Go.Proofs.YtkippclhbkjbmaaGreat

namespace Go.Proofs.YtkippclhbkjbmaaGreat
open Go.RowKit
attribute [local go_sem] add_lit

/-- A row of limbs of the call's own may be written. -/
theorem OwnL.mut {t : TypeId} {w : World} {base : Nat} {v : Value} {l : List Nat} (h : OwnL t w base v l) (hn : 0 < l.length) : ∃ g cap, v = .slice (some ⟨g, 0, none⟩) l.length cap ∧ base ≤ g ∧ g < w.heap.size ∧ l.length ≤ cap ∧ cap ≤ maxLen ∧ MutL w g 0 l := by
  rcases h.1.2 with ⟨hv, h0⟩ | ⟨g, cap, cur, hv, hg, hh, hnc, hcm, hcs, ht⟩
  · omega
  · refine ⟨g, cap, hv, hg, (Array.getElem?_eq_some_iff.1 hh).1, hnc, hcm, fun k hk => ⟨?_, ?_⟩⟩
    · rw [Nat.zero_add, cell_of_row w g k cur t (0, 0) hh]
      have h3 : (cur.toList.take (l.length * 1))[k]? = (l.map limb)[k]? := by rw [ht]
      rw [List.getElem?_take, if_pos (by omega), List.getElem?_map, List.getElem?_eq_getElem hk] at h3
      rw [List.getElem?_eq_getElem hk]
      simpa using h3
    · rw [Nat.zero_add]
      unfold World.frozen?
      rw [hh]
      simp

/-- What 'Clone' hands back. -/
def CloneP (w : World) (l : List Nat) (e : Ending) (w' : World) : Prop :=
  ∃ v, e = .returned v ∧ OwnL 124 w' w.heap.size v l ∧ Below w.heap.size w w'

set_option maxRecDepth 100000 in
set_option maxHeartbeats 1000000 in
theorem clone_any (a : Addr) (n c : Nat) (l : List Nat) (w : World) (h : Reads w w.heap.size 1 (some a) n (l.map limb)) (hl : l.length = n) (hlt : Lt32 l) (hn9 : n ≤ 1000000000) (hnc : n ≤ c) (hcm : c ≤ maxLen) :
    Calls Tryz.prog 106 #[.slice (some a) n c] w (CloneP w l) := by
  obtain ⟨i0, hi, hz0, hz1, hz2⟩ := info_parts info32
  unfold maxLen at hcm
  replace hl := hide hl
  have hcmp : ∀ W, (binOp BinOp.eql 28 (.slice (some a) n c) (.slice none 0 0)).run Tryz.prog W = .ok (.bool false) W := fun _ => by kernel_rfl
  go_enter Tryz.func106, Tryz.ntmps106
  go_wp2_with (go_loud (at_builtin; refine wpList_append_any _ rfl (.tmp 5) (.tmp 6) 28 rfl w.heap.size 124 i0 _ 1 4 Tryz.underlying28 hi hz0 hz1 hz2 rfl (by omega) (.slice (some ⟨w.heap.size, 0, none⟩) 0 0) 0 [] rfl (own_empty _ _ _) _ (some a) n c (l.map limb) rfl (by exact h.alloc (Nat.le_refl _) _) (oneCell_limbs _) (by simp only [maxLen]; omega) (by omega) (by simp) ?_; intro v1 w1 hown1 hg1 hat1))
  go_ret
  have h2 : OwnL 124 w1 w.heap.size v1 ([] ++ l) := OwnL.append (l := []) rfl hl.out.symm hown1 Lt32.nil hlt
  exact ⟨v1, rfl, h2, ((Below.refl _ _).alloc (Nat.le_refl _) _).grown hg1 (by simp) (fun j hj => by simp [Value.ownBlock] at hj; omega)⟩
set_option maxRecDepth 100000 in
set_option maxHeartbeats 400000 in
theorem clone_none (c : Nat) (w : World) : Calls Tryz.prog 106 #[.slice none 0 c] w (CloneP w []) := by
  have hcmp : ∀ W, (binOp BinOp.eql 28 (.slice none 0 c) (.slice none 0 0)).run Tryz.prog W = .ok (.bool true) W := fun _ => by kernel_rfl
  go_enter Tryz.func106, Tryz.ntmps106
  go_wp2
  go_ret
  exact ⟨_, rfl, OwnL.nil _ _ _, Below.refl _ _⟩
/-- A slice that holds limbs, cloned. -/
theorem clone_lim (A : Option Addr) (n c : Nat) (l : List Nat) (w : World) (h : Lim w A n c l) (hn9 : n ≤ 1000000000) :
    Calls Tryz.prog 106 #[.slice A n c] w (CloneP w l) := by
  rcases A with _ | a
  · have hn : n = 0 := by
      rcases Nat.eq_zero_or_pos n with h0 | h0
      · exact h0
      · obtain ⟨b, o, e, _⟩ := h.2.2.2.2 h0
        cases e
    subst hn
    obtain rfl : l = [] := List.eq_nil_of_length_eq_zero h.len
    exact clone_none c w
  · exact clone_any a n c l w h.reads h.len h.lt hn9 h.2.1 h.2.2.1
end Go.Proofs.YtkippclhbkjbmaaGreat

namespace Go.Proofs.YtkippclhbkjbmaaGreat
open Go.RowKit
attribute [local go_sem] add_lit

set_option maxRecDepth 100000 in
set_option maxHeartbeats 1000000 in
theorem div32_any (x y d : Nat) (w : World) (hx : x < d) (hy : y < 4294967296) (hd : d < 4294967296) :
    Calls Tryz.prog 125 #[limb x, limb y, limb d] w fun e w' => e = .returned (.tuple #[limb ((x * 4294967296 + y) / d), limb ((x * 4294967296 + y) % d)]) ∧ w' = w.drew := by
  have d1 : ((d : Int) == 0) = false := by simp; omega
  have d2 : decide ((d : Int) ≤ (x : Int)) = false := by simp; omega
  have d3 : (d : Int) ≠ 0 := by omega
  have d2' : decide (d ≤ x) = false := by simp; omega
  obtain ⟨t, ht⟩ : ∃ t, x * 4294967296 + y = t := ⟨_, rfl⟩
  have hor : bits .or .u64 ((x : Int) * 4294967296) (y : Int) = (t : Int) := by
    have h1 : ((x : Int) * 4294967296) = ((4294967296 * x : Nat) : Int) := by omega
    rw [h1, u64_or_nat _ _ (by omega) (by omega)]
    have h2 := Nat.two_pow_add_eq_or_of_lt (i := 32) (b := y) (by omega) x
    rw [show (2 : Nat) ^ 32 = 4294967296 by rfl] at h2
    rw [← h2]
    omega
  have hq : t / d < 4294967296 := by rw [Nat.div_lt_iff_lt_mul (by omega)]; have := Nat.mul_le_mul_left 4294967296 (show x + 1 ≤ d by omega); omega
  have hr : t % d < d := Nat.mod_lt _ (by omega)
  have htb : t < 18446744073709551616 := by omega
  rw [ht]
  replace ht := hide ht
  go_enter Tryz.func125, Tryz.ntmps125
  go_wp2_with fail
  go_region
  have e1 : IntKind.u64.wrap ((t : Int) / (d : Int)) % 4294967296 = ((t / d : Nat) : Int) := by
    rw [show (t : Int) / (d : Int) = ((t / d : Nat) : Int) from rfl]
    generalize t / d = z at *
    simp only [IntKind.wrap_u64]
    omega
  go_wp2_with fail
  go_ret2
  exact ⟨ret_pair32 e1 rfl, rfl⟩
end Go.Proofs.YtkippclhbkjbmaaGreat

namespace Go.Proofs.YtkippclhbkjbmaaGreat

theorem drop_val6 {l : List Nat} {k : Nat} (h : k < l.length) : val (l.drop k) = l[k]?.getD 0 + 4294967296 * val (l.drop (k + 1)) := by
  rw [List.drop_eq_getElem_cons h, val, List.getElem?_eq_getElem h]; rfl
theorem div_of {U V q R : Nat} (h : R + q * V = U) (hR : R < V) : q = U / V ∧ R = U % V := by
  subst h
  have hV : 0 < V := by omega
  constructor
  · rw [Nat.add_mul_div_right _ _ hV, Nat.div_eq_of_lt hR, Nat.zero_add]
  · rw [Nat.add_mul_mod_self_right, Nat.mod_eq_of_lt hR]
/-- A multiple that is not too great, of a guess that is not too small. -/
theorem guess_hit {U V q W : Nat} (hV : 0 < V) (h : W + q * V = U) (hq : U / V ≤ q) : q = U / V ∧ W = U % V := by
  have h1 : q ≤ U / V := by rw [Nat.le_div_iff_mul_le hV]; omega
  have h2 : q = U / V := by omega
  refine ⟨h2, ?_⟩
  have h3 := Nat.div_add_mod U V
  rw [← h2, Nat.mul_comm V q] at h3
  omega
/-- A multiple that is too great: the guess less 1 is not too small. -/
theorem guess_miss {U V q W M : Nat} (hV : 0 < V) (h : W + q * V = U + M) (hW : W < M) : U / V < q := by
  rw [Nat.div_lt_iff_lt_mul hV]; omega

/-- One step of a division from the highest limb down. -/
theorem down_step {out l : List Nat} {k D r q r' : Nat} (ho : k < out.length) (hl : k < l.length) (hI : val (out.drop (k + 1)) * D + r = val (l.drop (k + 1))) (he : q * D + r' = r * 4294967296 + l[k]?.getD 0) :
    val ((out.set k q).drop k) * D + r' = val (l.drop k) := by
  rw [drop_val6 (l := out.set k q) (by rw [List.length_set]; exact ho), getD_set_eq _ ho, List.drop_set_of_lt (by omega), drop_val6 hl, Nat.add_mul, ← hI, Nat.mul_add, Nat.mul_assoc]
  omega

/-- One step of moving to the right. -/
theorem shr_step {r : List Nat} {i s : Nat} (hs : s ≤ 32) (hi : i < r.length) (hlt : Lt32 r) :
    val (r.drop i) / 2 ^ s = (r[i]?.getD 0 + 4294967296 * r[i + 1]?.getD 0) / 2 ^ s % 4294967296 + 4294967296 * (val (r.drop (i + 1)) / 2 ^ s) := by
  have hp : 0 < 2 ^ s := Nat.pow_pos (by omega)
  have e1 : val (r.drop i) = r[i]?.getD 0 + 4294967296 * val (r.drop (i + 1)) := drop_val6 hi
  obtain ⟨t, e2⟩ : ∃ t, val (r.drop (i + 1)) = r[i + 1]?.getD 0 + 4294967296 * t := by
    rcases Nat.lt_or_ge (i + 1) r.length with h | h
    · exact ⟨_, drop_val6 h⟩
    · exact ⟨0, by rw [List.drop_of_length_le h, getD_none h]; rfl⟩
  have hx := hlt.get i
  have hq : (4294967296 : Nat) = 2 ^ s * 2 ^ (32 - s) := by rw [← Nat.pow_add, show s + (32 - s) = 32 by omega]
  have hb : 4294967296 * (val (r.drop (i + 1)) / 2 ^ s) = 4294967296 * (val (r.drop i) / 2 ^ s / 4294967296) := by
    congr 1
    rw [Nat.div_div_eq_div_mul, Nat.mul_comm (2 ^ s), ← Nat.div_div_eq_div_mul, e1]
    congr 1
    omega
  have ha : (r[i]?.getD 0 + 4294967296 * r[i + 1]?.getD 0) / 2 ^ s % 4294967296 = val (r.drop i) / 2 ^ s % 4294967296 := by
    rw [e1, e2]
    have : r[i]?.getD 0 + 4294967296 * (r[i + 1]?.getD 0 + 4294967296 * t) = (r[i]?.getD 0 + 4294967296 * r[i + 1]?.getD 0) + 2 ^ s * (2 ^ (32 - s) * t * 4294967296) := by
      have : 2 ^ s * (2 ^ (32 - s) * t * 4294967296) = (2 ^ s * 2 ^ (32 - s)) * t * 4294967296 := by grind
      rw [this, ← hq]; omega
    rw [this, Nat.add_mul_div_left _ _ hp, Nat.add_mul_mod_self_right]
  rw [ha, hb]
  omega

/-- A list of limbs with some of them exchanged. -/
def splice (u : List Nat) (k : Nat) (l : List Nat) : List Nat := u.take k ++ l ++ u.drop (k + l.length)
theorem splice_length {u l : List Nat} {k : Nat} (h : k + l.length ≤ u.length) : (splice u k l).length = u.length := by
  unfold splice; simp; omega
theorem splice_lt {u l : List Nat} {k : Nat} (hu : Lt32 u) (hl : Lt32 l) : Lt32 (splice u k l) := ((hu.take _).append hl).append (hu.drop _)
theorem splice_in {u l : List Nat} {k i : Nat} (h : k + l.length ≤ u.length) (hi : i < l.length) : (splice u k l)[k + i]?.getD 0 = l[i]?.getD 0 := by
  unfold splice
  rw [List.getElem?_append_left (by simp; omega), List.getElem?_append_right (by simp; omega), List.length_take, Nat.min_eq_left (by omega), show k + i - k = i by omega]
theorem splice_out {u l : List Nat} {k j : Nat} (h : k + l.length ≤ u.length) (hj : j < k ∨ k + l.length ≤ j) : (splice u k l)[j]?.getD 0 = u[j]?.getD 0 := by
  unfold splice
  rcases hj with hj | hj
  · rw [List.append_assoc, List.getElem?_append_left (by simp; omega), List.getElem?_take, if_pos hj]
  · rw [List.getElem?_append_right (by simp; omega), List.getElem?_drop]
    congr 2
    simp; omega

/-- What a division's loop keeps: places from j on are done. -/
def DivI (A V n : Nat) (u q : List Nat) (j : Nat) : Prop :=
  Lt32 u ∧ Lt32 q ∧ u.length = q.length + n ∧ j ≤ q.length ∧ val u + V * val q = A ∧ val (u.drop j) < V ∧ ∀ i, i < j → q[i]?.getD 0 = 0

theorem DivI.win {A V n : Nat} {u q : List Nat} {k : Nat} (h : DivI A V n u q (k + 1)) (hV : V ≤ pw n) : val ((u.drop k).take (n + 1)) = val (u.drop k) ∧ val (u.drop k) < 4294967296 * V := by
  obtain ⟨h1, h2, h3, h4, h5, h6, h7⟩ := h
  have e := drop_val6 (l := u) (k := k) (by omega)
  have hx := h1.get k
  have hlt : val (u.drop k) < 4294967296 * V := by omega
  refine ⟨?_, hlt⟩
  have e2 := val_take_drop (u.drop k) (n + 1) (by simp; omega)
  rcases Nat.eq_zero_or_pos (val ((u.drop k).drop (n + 1))) with h0 | h0
  · rw [h0] at e2; omega
  · have := Nat.mul_le_mul_left (pw (n + 1)) h0
    rw [pw_succ] at this e2
    have := Nat.mul_le_mul_left 4294967296 hV
    omega

theorem DivI.step {A V n : Nat} {u q l : List Nat} {k Q : Nat} (h : DivI A V n u q (k + 1)) (hV : V ≤ pw n) (hll : l.length = n + 1) (hl : Lt32 l) (hQ : Q < 4294967296)
    (hq : Q = val ((u.drop k).take (n + 1)) / V) (hr : val l = val ((u.drop k).take (n + 1)) % V) : DivI A V n (splice u k l) (q.set k Q) k := by
  obtain ⟨hw, hlt⟩ := h.win hV
  obtain ⟨h1, h2, h3, h4, h5, h6, h7⟩ := h
  have hV0 : 0 < V := by omega
  have hk : k + l.length ≤ u.length := by omega
  have ed : (splice u k l).drop k = l ++ u.drop (k + l.length) := by
    unfold splice
    rw [List.append_assoc, List.drop_append_of_le_length (by simp; omega), List.drop_of_length_le (by simp; omega), List.nil_append]
  have e0 : val (u.drop (k + l.length)) = 0 := by
    have e2 := val_take_drop (u.drop k) (n + 1) (by simp; omega)
    rw [hw, List.drop_drop, ← hll] at e2
    rcases Nat.eq_zero_or_pos (val (u.drop (k + l.length))) with h0 | h0
    · exact h0
    · have := Nat.mul_le_mul_left (pw l.length) h0
      have := pw_pos l.length
      omega
  have hvd : val ((splice u k l).drop k) = val l := by rw [ed, val_append, e0]; omega
  refine ⟨splice_lt h1 hl, h2.set k hQ, by rw [splice_length hk, List.length_set]; exact h3, by rw [List.length_set]; omega, ?_, by rw [hvd, hr]; exact Nat.mod_lt _ hV0, fun i hi => by rw [getD_set_ne _ (by omega)]; exact h7 i (by omega)⟩
  have e3 := val_take_drop (splice u k l) k (by rw [splice_length hk]; omega)
  have e4 := val_take_drop u k (by omega)
  have e5 : (splice u k l).take k = u.take k := by
    unfold splice
    rw [List.append_assoc, List.take_append_of_le_length (by simp; omega), List.take_of_length_le (by simp; omega)]
  have e6 := val_set (l := q) (k := k) (by omega) Q
  rw [h7 k (by omega), Nat.mul_zero, Nat.add_zero] at e6
  have e7 := Nat.div_add_mod (val ((u.drop k).take (n + 1))) V
  rw [← hq, ← hr, hw] at e7
  rw [e3, e5, hvd, e6, Nat.mul_add]
  rw [e4, ← e7, Nat.mul_add] at h5
  have : V * (pw k * Q) = pw k * (V * Q) := by grind
  omega

/-- The start of a division's loop. -/
theorem DivI.start {a b : List Nat} {u : List Nat} {s n : Nat} (hu : val u = 2 ^ s * val a) (hul : u.length = a.length + 1) (hult : Lt32 u) (hn : n ≤ a.length) (halt : Lt32 a) (hb : pw (n - 1) ≤ val b) (hn0 : 0 < n) :
    DivI (2 ^ s * val a) (2 ^ s * val b) n u (List.replicate (a.length + 1 - n) 0) (a.length + 1 - n) := by
  refine ⟨hult, Lt32.replicate _, by simp; omega, by simp, by rw [val_replicate, hu]; simp, ?_, fun i _ => getD_replicate _ _⟩
  have e1 := val_take_drop u (a.length + 1 - n) (by omega)
  have e2 := val_lt halt
  have e3 : pw a.length = pw (a.length + 1 - n) * pw (n - 1) := by rw [← pw_add]; congr 1; omega
  have hp : 0 < 2 ^ s := Nat.pow_pos (by omega)
  have e4 : 2 ^ s * val a < 2 ^ s * pw a.length := Nat.mul_lt_mul_of_pos_left e2 hp
  have e5 : 2 ^ s * pw (n - 1) ≤ 2 ^ s * val b := Nat.mul_le_mul_left _ hb
  have e6 : pw (a.length + 1 - n) * val (u.drop (a.length + 1 - n)) < pw (a.length + 1 - n) * (2 ^ s * pw (n - 1)) := by
    have : pw (a.length + 1 - n) * (2 ^ s * pw (n - 1)) = 2 ^ s * pw a.length := by rw [e3]; grind
    omega
  have := Nat.lt_of_mul_lt_mul_left e6
  omega
/-- The end of it. -/
theorem DivI.stop {a b : Nat} {u q : List Nat} {s n : Nat} (h : DivI (2 ^ s * a) (2 ^ s * b) n u q 0) : val q = a / b ∧ val u = 2 ^ s * (a % b) := by
  obtain ⟨h1, h2, h3, h4, h5, h6, h7⟩ := h
  rw [List.drop_zero] at h6
  have hp : 0 < 2 ^ s := Nat.pow_pos (by omega)
  obtain ⟨e1, e2⟩ := div_of (U := 2 ^ s * a) (V := 2 ^ s * b) (q := val q) (R := val u) (by rw [Nat.mul_comm (val q)]; exact h5) h6
  rw [Nat.mul_div_mul_left _ _ hp] at e1
  rw [Nat.mul_mod_mul_left] at e2
  exact ⟨e1, e2⟩

theorem pw_le_val {l : List Nat} (h : 0 < l.length) (h' : l[l.length - 1]?.getD 0 ≠ 0) : pw (l.length - 1) ≤ val l := by
  have e := val_take_drop l (l.length - 1) (by omega)
  rw [drop_val6 (by omega)] at e
  have : 1 ≤ l[l.length - 1]?.getD 0 + 4294967296 * val (l.drop (l.length - 1 + 1)) := by omega
  have := Nat.mul_le_mul_left (pw (l.length - 1)) this
  omega
theorem top_ne_of_digits {v : Nat} (h : 0 < (digits v).length) : (digits v)[(digits v).length - 1]?.getD 0 ≠ 0 := by
  intro h0
  have h1 := digits_getLast v
  rw [List.getLast?_eq_getElem?] at h1
  rw [List.getElem?_eq_getElem (by omega)] at h1 h0
  simp at h0
  rw [h0] at h1
  exact h1 rfl
/-- The highest limb against the whole. -/
theorem top_le {v : List Nat} {n : Nat} (hn : v.length = n) (h0 : 0 < n) : v[n - 1]?.getD 0 * pw (n - 1) ≤ val v := by
  have e := val_take_drop v (n - 1) (by omega)
  rw [drop_val6 (by omega)] at e
  rw [Nat.mul_add] at e
  rw [Nat.mul_comm]
  omega
/-- Two limbs from above. -/
theorem top2_lt {u : List Nat} {n : Nat} (hn : u.length = n + 1) (h0 : 0 < n) (hlt : Lt32 u) : val u < (u[n]?.getD 0 * 4294967296 + u[n - 1]?.getD 0 + 1) * pw (n - 1) := by
  have e := val_take_drop u (n - 1) (by omega)
  rw [drop_val6 (by omega), show n - 1 + 1 = n by omega, drop_val6 (by omega), List.drop_of_length_le (by omega)] at e
  have h1 := val_lt (hlt.take (n - 1))
  rw [List.length_take, Nat.min_eq_left (by omega)] at h1
  rw [e]
  simp only [val]
  have : (u[n]?.getD 0 * 4294967296 + u[n - 1]?.getD 0 + 1) * pw (n - 1) = pw (n - 1) * (u[n - 1]?.getD 0 + 4294967296 * (u[n]?.getD 0 + 4294967296 * 0)) + pw (n - 1) := by grind
  omega
/-- Three limbs from above, against two of the divisor. -/
theorem top2_le {v : List Nat} {n : Nat} (hn : v.length = n) (h0 : 1 < n) : (v[n - 1]?.getD 0 * 4294967296 + v[n - 2]?.getD 0) * pw (n - 2) ≤ val v := by
  have e := val_take_drop v (n - 2) (by omega)
  rw [drop_val6 (by omega), show n - 2 + 1 = n - 1 by omega, drop_val6 (by omega)] at e
  have : (v[n - 1]?.getD 0 * 4294967296 + v[n - 2]?.getD 0) * pw (n - 2) ≤ pw (n - 2) * (v[n - 2]?.getD 0 + 4294967296 * (v[n - 1]?.getD 0 + 4294967296 * val (v.drop (n - 1 + 1)))) := by
    rw [Nat.mul_comm]; exact Nat.mul_le_mul_left _ (by omega)
  omega
theorem top3_lt {u : List Nat} {n : Nat} (hn : u.length = n + 1) (h0 : 1 < n) (hlt : Lt32 u) : val u < ((u[n]?.getD 0 * 4294967296 + u[n - 1]?.getD 0) * 4294967296 + u[n - 2]?.getD 0 + 1) * pw (n - 2) := by
  have e := val_take_drop u (n - 2) (by omega)
  rw [drop_val6 (by omega), show n - 2 + 1 = n - 1 by omega, drop_val6 (by omega), show n - 1 + 1 = n by omega, drop_val6 (by omega), List.drop_of_length_le (by omega)] at e
  have h1 := val_lt (hlt.take (n - 2))
  rw [List.length_take, Nat.min_eq_left (by omega)] at h1
  rw [e]
  simp only [val]
  have : ((u[n]?.getD 0 * 4294967296 + u[n - 1]?.getD 0) * 4294967296 + u[n - 2]?.getD 0 + 1) * pw (n - 2) = pw (n - 2) * (u[n - 2]?.getD 0 + 4294967296 * (u[n - 1]?.getD 0 + 4294967296 * (u[n]?.getD 0 + 4294967296 * 0))) + pw (n - 2) := by grind
  omega
end Go.Proofs.YtkippclhbkjbmaaGreat
