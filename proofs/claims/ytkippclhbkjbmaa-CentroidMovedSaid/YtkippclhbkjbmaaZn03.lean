/- Package wide: down, an iterator over limbs from the highest one on; compare. A region that draws its order, inside a round of a range over a function: by the laws of such regions elsewhere. -/
import Derived.RangeFuncBox
import Derived.RangeFuncLeaves
import Derived.RangeFuncNested
import Derived.RangeFuncCalls
import Derived.Shelf.Abstract
import Derived.OwnWalkIn
import Derived.TacticsInMore
import Derived.LoopNIn
import Derived.LoopIn
import Derived.Deep.RegionHeld3
import Derived.TacticsIn
import Derived.Test.YtkippclhbkjbmaaZn01
set_option linter.unusedSimpArgs false
set_option linter.unusedVariables false

namespace Go.Proofs.Ytkippclhbkjbmaa
open Go.RowKit Go.Shelf
attribute [local go_sem] add_lit
attribute [local go_sem] Oper.semAt_some

/-- The places of a list of n, from the last one down; the first k of them. -/
def downTo (n : Nat) : Nat → List { i : Nat // i < n }
  | 0 => []
  | k + 1 => downTo n k ++ (if h : k < n then [⟨n - 1 - k, by omega⟩] else [])
theorem downTo_succ {n k : Nat} (h : k < n) : downTo n (k + 1) = downTo n k ++ [⟨n - 1 - k, by omega⟩] := by simp [downTo, h]
theorem downTo_length {n k : Nat} (h : k ≤ n) : (downTo n k).length = k := by
  induction k with
  | zero => rfl
  | succ k ih => rw [downTo_succ (by omega)]; simp [ih (by omega)]
theorem mem_downTo {n k : Nat} (h : k ≤ n) (i : { i : Nat // i < n }) : i ∈ downTo n k ↔ n - k ≤ i.1 := by
  induction k with
  | zero => simp [downTo]; omega
  | succ k ih =>
    have := i.2
    rw [downTo_succ (by omega), List.mem_append, ih (by omega), List.mem_singleton, Subtype.ext_iff]
    simp; omega

def encDown (l : List Nat) (n : Nat) (i : { i : Nat // i < n }) : Array Value := #[.int .i64 (i.1 : Int), limb (l[i.1]?.getD 0)]

theorem lim_kept {W W' : World} {row : Option Nat} {A : Option Addr} {n c : Nat} {l : List Nat} (h : Lim W A n c l) (hg : W.grownBy W' row) (hrow : ∀ r, row = some r → ∃ o : Obj, W.heap[r]? = some o ∧ o.isCells = false) : Lim W' A n c l :=
  ⟨h.1, h.2.1, h.2.2.1, h.2.2.2.1, fun hn => by
    obtain ⟨b, o, e, hc⟩ := h.2.2.2.2 hn
    exact ⟨b, o, e, fun k hk => cell_kept (hc k hk) hg hrow⟩⟩

/-- What a round over 'down' keeps: the iterator's box, and the limbs. -/
def KpD (Bs : Nat) (A : Option Addr) (n c : Nat) (l : List Nat) (W W' : World) : Prop :=
  (W.cell? ⟨Bs, 0, none⟩ = some (.slice A n c) → W'.cell? ⟨Bs, 0, none⟩ = some (.slice A n c)) ∧ (Lim W A n c l → Lim W' A n c l)
theorem KpD.refl (Bs : Nat) (A : Option Addr) (n c : Nat) (l : List Nat) (W : World) : KpD Bs A n c l W W := ⟨id, id⟩
theorem KpD.trans {Bs n c : Nat} {A : Option Addr} {l : List Nat} {W1 W2 W3 : World} (h : KpD Bs A n c l W1 W2) (k : KpD Bs A n c l W2 W3) : KpD Bs A n c l W1 W3 := ⟨fun x => k.1 (h.1 x), fun x => k.2 (h.2 x)⟩
theorem KpD.put {Bs n c : Nat} {A : Option Addr} {l : List Nat} (W : World) (lp : Nat) (o o' : Obj) (ho : W.heap[lp]? = some o) (hc : o.isCells = false) : KpD Bs A n c l W (W.putObj lp o') :=
  ⟨fun h => cell_kept h (grownBy_putObj' W lp o') (fun r e => by cases e; exact ⟨o, ho, hc⟩), fun h => lim_kept h (grownBy_putObj' W lp o') (fun r e => by cases e; exact ⟨o, ho, hc⟩)⟩
/-- A store into a block that is neither the box's nor the limbs'. -/
theorem KpD.set_ {Bs n c : Nat} {A : Option Addr} {l : List Nat} {w W : World} {g o : Nat} (hL : Lim w A n c l) (hg : w.heap.size ≤ g) (hB : g ≠ Bs) (u : Value) : KpD Bs A n c l W (W.setCell ⟨g, o, none⟩ u) :=
  ⟨fun h => (World.cell?_setCell_other W _ _ u (fun e => hB (by cases e; rfl))).trans h, fun h => ⟨h.1, h.2.1, h.2.2.1, h.2.2.2.1, fun hn => by
    obtain ⟨b, o', e, hc⟩ := h.2.2.2.2 hn
    obtain ⟨b1, o1, e1, hc1⟩ := hL.2.2.2.2 hn
    rw [e] at e1
    cases e1
    have hlt := lt_of_cell (hc1 0 hn)
    exact ⟨b, o', e, fun k hk => (World.cell?_setCell_other W _ _ u (fun e2 => by cases e2; simp at hlt; omega)).trans (hc k hk)⟩⟩⟩

set_option maxRecDepth 100000 in
set_option maxHeartbeats 2000000 in
theorem down1_in (d : Nat) (hd : 1 ≤ d) (lp Bs n c : Nat) (A : Option Addr) (l : List Nat) (J Jx : List { i : Nat // i < n } → World → Prop)
    (hY : ∀ pre x W, J pre W → pre.length < n → YieldAt Fence.wide (d - 1) Try.prog lp (encDown l n x) W fun e W' =>
      (e = .returned (.bool true) ∧ J (pre ++ [x]) W' ∧ KpD Bs A n c l W W') ∨ (e = .returned (.bool false) ∧ Jx (pre ++ [x]) W'))
    (W : World) (hBs : W.cell? ⟨Bs, 0, none⟩ = some (.slice A n c)) (hL : Lim W A n c l) (h0 : J [] W) :
    CallsIn Fence.wide d Try.prog 92 #[.func (.yield lp) #[] #[], .pointer (some ⟨Bs, 0, none⟩)] W fun e W' => (∃ v, e = .returned v) ∧
      ((∃ ys, ys = downTo n n ∧ J ys W') ∨ (∃ pre, (∃ k, k ≤ n ∧ pre = downTo n k) ∧ Jx pre W')) := by
  have hnc := hL.2.1
  have hcm := hL.2.2.1
  unfold maxLen at hcm
  refine callsIn_of_wp Try.func92 rfl trivial ?_ rfl
  simp only [Try.ntmps92, List.size_toArray, List.length_cons, List.length_nil, Nat.reduceAdd, Nat.reduceSub, Array.replicate_succ, Array.replicate_zero, List.push_toArray, List.append_toArray, List.nil_append, List.cons_append]
  gi_wp2
  gi_loopw [3] (fun i wr => ∃ k : Nat, k ≤ n ∧ i = .int .i64 ((n : Int) - 1 - k) ∧ J (downTo n k) wr ∧ Hid (wr.cell? ⟨Bs, 0, none⟩ = some (.slice A n c)) ∧ Lim wr A n c l)
    (fun i _ => (intOf i + 1).toNat)
  case atStart => exact ⟨0, Nat.zero_le _, by go_num, h0, hBs, hL⟩
  case round =>
    obtain ⟨k, hk, rfl, hJs, hbx', hLr⟩ := hrel
    have hbx := hbx'.out
    by_cases hlt : k < n
    · obtain ⟨b, o, rfl, hcx⟩ := hLr.at_ (k := n - 1 - k) (by omega)
      obtain ⟨fn, tmps, assign, body, hy, hR⟩ := hY _ ⟨n - 1 - k, by omega⟩ wr hJs (by rw [downTo_length hk]; exact hlt)
      dsimp only [encDown] at hy
      rw [show ((n - 1 - k : Nat) : Int) = (n : Int) - 1 - k by omega] at hy
      gi_wp2
      refine hR.mono ?_
      rintro e W3 (⟨rfl, hJ3, hk3⟩ | ⟨rfl, hJx3⟩)
      · have hbx3 := hide (hk3.1 hbx'.out)
        gi_wp2
        go_roundw
        case rel => exact ⟨k + 1, by omega, by go_num, by rw [downTo_succ hlt]; exact hJ3, hbx3, hk3.2 hLr⟩
        case measure => simp [intOf]; omega
      · gi_wp2
        refine bodyPost_ret (results_none rfl _ _ _) rfl ?_
        exact ⟨⟨_, rfl⟩, .inr ⟨_, ⟨k + 1, by omega, (downTo_succ hlt).symm⟩, hJx3⟩⟩
    · obtain rfl : k = n := by omega
      gi_wp2
      go_end0
      exact ⟨⟨_, rfl⟩, .inl ⟨_, rfl, hJs⟩⟩

theorem down_stops (d : Nat) (hd : 1 ≤ d) (Bs n c : Nat) (A : Option Addr) (l : List Nat) (w : World) (hc : w.cell? ⟨Bs, 0, none⟩ = some (.slice A n c)) (hL : Lim w A n c l) :
    SeqStopsK Fence.wide d Try.prog 92 #[.pointer (some ⟨Bs, 0, none⟩)] (encDown l n) (KpD Bs A n c l) (fun ys => ys = downTo n n) (fun pre => ∃ k, k ≤ n ∧ pre = downTo n k) n w := fun lp J Jx W hW _ _ hY h0 =>
  down1_in d hd lp Bs n c A l J Jx hY W ((hW.cell (lt_of_cell hc)).trans hc) (hL.below hW) h0

set_option maxHeartbeats 400000 in
theorem down_any (A : Option Addr) (n c : Nat) (w : World) :
    Calls Try.prog 81 #[.slice A n c] w fun e w' => e = .returned (.func (.func 92) #[] #[.pointer (some ⟨w.heap.size, 0, none⟩)]) ∧ w.alloc (.cells #[.slice A n c] 25) = w' := by
  go_enter Try.func81, Try.ntmps81
  go_wp2
  go_ret
  exact ⟨rfl, rfl⟩

/-- How lists of limbs compare: first by their lengths. -/
def cmpL (a b : List Nat) : Int := if a.length < b.length then -1 else if b.length < a.length then 1 else if val a < val b then -1 else if val b < val a then 1 else 0

theorem drop_val {l : List Nat} {k : Nat} (h : k < l.length) : val (l.drop k) = l[k]?.getD 0 + 4294967296 * val (l.drop (k + 1)) := by
  rw [List.drop_eq_getElem_cons h, val, List.getElem?_eq_getElem h]; rfl
/-- The first place from above at which two lists of one length part tells which is worth less. -/
theorem part_lt {a b : List Nat} {n k : Nat} (ha : a.length = n) (hb : b.length = n) (hla : Lt32 a) (hk : k < n) (he : ∀ j, k < j → j < n → a[j]?.getD 0 = b[j]?.getD 0) (hlt : a[k]?.getD 0 < b[k]?.getD 0) : val a < val b := by
  have h1 : ∀ m, k < n - m → m ≤ n → val (a.drop (n - m)) = val (b.drop (n - m)) := by
    intro m
    induction m with
    | zero => intro _ _; rw [Nat.sub_zero, List.drop_of_length_le (by omega), List.drop_of_length_le (by omega)]
    | succ m ih =>
      intro h h'
      rw [drop_val (l := a) (by omega), drop_val (l := b) (by omega), he _ h (by omega), show n - (m + 1) + 1 = n - m by omega, ih (by omega) (by omega)]
  have h2 : val (a.drop (k + 1)) = val (b.drop (k + 1)) := by
    rcases Nat.lt_or_ge (k + 1) n with h | h
    · have := h1 (n - (k + 1)) (by omega) (by omega)
      rwa [show n - (n - (k + 1)) = k + 1 by omega] at this
    · rw [List.drop_of_length_le (by omega), List.drop_of_length_le (by omega)]
  have h3 := val_take_drop a k (by omega)
  have h4 := val_take_drop b k (by omega)
  rw [drop_val (by omega)] at h3 h4
  have h5 := val_lt (hla.take k)
  rw [List.length_take, Nat.min_eq_left (by omega)] at h5
  rw [h3, h4, h2]
  generalize val (b.drop (k + 1)) = t
  have : pw k * (a[k]?.getD 0 + 4294967296 * t + 1) ≤ pw k * (b[k]?.getD 0 + 4294967296 * t) := Nat.mul_le_mul_left _ (by omega)
  rw [Nat.mul_add, Nat.mul_one] at this
  omega
theorem eq_all {a b : List Nat} {n : Nat} (ha : a.length = n) (hb : b.length = n) (he : ∀ j, j < n → a[j]?.getD 0 = b[j]?.getD 0) : a = b := by
  apply List.ext_getElem (by omega)
  intro i h1 h2
  have := he i (by omega)
  rwa [List.getElem?_eq_getElem h1, List.getElem?_eq_getElem h2] at this
theorem cmpL_self (a : List Nat) : cmpL a a = 0 := by simp [cmpL]

set_option maxRecDepth 100000 in
set_option maxHeartbeats 2000000 in
theorem compare_any (A B : Option Addr) (n c m d : Nat) (a b : List Nat) (w : World) (ha : Lim w A n c a) (hb : Lim w B m d b) :
    Calls Try.prog 70 #[.slice A n c, .slice B m d] w fun e w' => e = .returned (.int .i64 (cmpL a b)) ∧ Below w.heap.size w w' := by
  have hnc := ha.2.1
  have hmd := hb.2.1
  have hcm := ha.2.2.1
  have hdm := hb.2.2.1
  unfold maxLen at hcm hdm
  by_cases h1 : n < m
  · have hne : (((n : Nat) : Int) != m) = true := by simp; omega
    have hd : decide (n < m) = true := by simpa using h1
    have hr : cmpL a b = -1 := by unfold cmpL; rw [ha.len, hb.len, if_pos h1]
    rw [hr]
    go_enter Try.func70, Try.ntmps70
    go_wp2
    go_returns
    exact ⟨rfl, by go_grown⟩
  by_cases h2 : m < n
  · have hne : (((n : Nat) : Int) != m) = true := by simp; omega
    have hd : decide (n < m) = false := by simpa using h1
    have hr : cmpL a b = 1 := by unfold cmpL; rw [ha.len, hb.len, if_neg h1, if_pos h2]
    rw [hr]
    go_enter Try.func70, Try.ntmps70
    go_wp2
    go_returns
    exact ⟨rfl, by go_grown⟩
  obtain rfl : n = m := by omega
  have hne : (((n : Nat) : Int) != n) = false := by simp
  have h9 : 1 ≤ 9 := by omega
  refine (callsIn_wide (n := 9)).1 ?_
  refine callsIn_of_wp_marks Try.func70 rfl trivial ?_ rfl
  simp only [Try.ntmps70, List.size_toArray, List.length_cons, List.length_nil, Nat.reduceAdd, Nat.reduceSub, Array.replicate_succ, Array.replicate_zero, List.push_toArray, List.append_toArray, List.nil_append, List.cons_append]
  gi_wp2_with (refine ⟨trivial, ?_⟩; gi_at_call 81; refine (callsIn_wide.2 (down_any _ _ _ _)).mono ?_; rintro e w' ⟨rfl, rfl⟩)
  have bB := Boxed.new w 25 (.slice B n d)
  have bR := Boxed.new (w.alloc (.cells #[.slice B n d] 25)) 3 (.int .i64 0)
  have bN := Boxed.new ((w.alloc (.cells #[.slice B n d] 25)).alloc (.cells #[.int .i64 0] 3)) 25 (.slice A n c)
  simp only [World.size_alloc] at bR bN
  have hB0 : Below w.heap.size w (((w.alloc (.cells #[.slice B n d] 25)).alloc (.cells #[.int .i64 0] 3)).alloc (.cells #[.slice A n c] 25)) := by go_grown
  refine wpIn_rangeFunc_ownF rfl h9 (gf := 92) (lb := #[.pointer (some ⟨w.heap.size + 1 + 1, 0, none⟩)]) rfl trivial (enters_of Try.func92 (by kernel_rfl) rfl)
    (down_stops 8 (by omega) (w.heap.size + 1 + 1) n c A a _ bN.cell (ha.below hB0)) KpD.trans (fun W l o o' _ h hc _ => KpD.put W l o o' h hc) (Below.refl _ _) (fun _ => rfl)
    (fun pre W => ((∀ p ∈ pre, a[p.1]?.getD 0 = b[p.1]?.getD 0) ∧ W.cell? ⟨w.heap.size, 0, none⟩ = some (.slice B n d) ∧ W.cell? ⟨w.heap.size + 1, 0, none⟩ = some (.int .i64 0) ∧ W.frozen? ⟨w.heap.size + 1, 0, none⟩ = false) ∧ Below w.heap.size w W)
    (fun cc pre W => (cc = .ret ∧ ∃ ini last, pre = ini ++ [last] ∧ (∀ p ∈ ini, a[p.1]?.getD 0 = b[p.1]?.getD 0) ∧
      ((a[last.1]?.getD 0 < b[last.1]?.getD 0 ∧ W.cell? ⟨w.heap.size + 1, 0, none⟩ = some (.int .i64 (-1))) ∨ (b[last.1]?.getD 0 < a[last.1]?.getD 0 ∧ W.cell? ⟨w.heap.size + 1, 0, none⟩ = some (.int .i64 1)))) ∧ Below w.heap.size w W)
    (OwnFrom.and (Own.from (fun s X Y row hs hg hr => ⟨hs.1, cell_kept hs.2.1 hg hr, cell_kept hs.2.2.1 hg hr, (frozen_kept hs.2.2.1 hg hr).trans hs.2.2.2⟩) _) (ownFrom_below (Nat.le_refl _) (by simp; omega)))
    (fun cc => OwnFrom.and (Own.from (fun s X Y row hs hg hr => by
      obtain ⟨hc, ini, last, e1, e2, e3⟩ := hs
      refine ⟨hc, ini, last, e1, e2, ?_⟩
      rcases e3 with ⟨e3, e4⟩ | ⟨e3, e4⟩
      · exact .inl ⟨e3, cell_kept e4 hg hr⟩
      · exact .inr ⟨e3, cell_kept e4 hg hr⟩) _) (ownFrom_below (Nat.le_refl _) (by simp; omega)))
    ⟨⟨by simp, ((bB.alloc _).alloc _).cell, (bR.alloc _).cell, (bR.alloc _).frozen⟩, hB0⟩
    (fun x => { tmps := #[.slice A n c, .slice B n d, undef, .pointer (some ⟨w.heap.size, 0, none⟩), .pointer (some ⟨w.heap.size + 1, 0, none⟩), .int .i64 (x.1 : Int), limb (a[x.1]?.getD 0), .slice A n c,
      .int .i64 n, .slice B n d, .int .i64 n, .bool false, undef, undef, undef, undef, undef, .slice A n c, .func (.func 92) #[] #[.pointer (some ⟨w.heap.size + 1 + 1, 0, none⟩)], .int .i64 (x.1 : Int), limb (a[x.1]?.getD 0),
      undef, undef, undef, undef, undef, undef, undef, undef, undef, undef, undef, undef], defers := [] }) ?assign ?body ?done ?stop
  case assign =>
    intro l x W K hK
    dsimp only [encDown]
    gi_wp2
    exact hK
  case body =>
    rintro l pre x W ⟨⟨hp, hcB, hcr, hfr⟩, hB⟩ _
    obtain ⟨i, hi⟩ := x
    obtain ⟨bb, ob, rfl, hcx⟩ := (hb.below hB).at_ hi
    by_cases t1 : a[i]?.getD 0 < b[i]?.getD 0
    · have hd1 : decide (a[i]?.getD 0 < b[i]?.getD 0) = true := by simpa using t1
      gi_wp2
      exact ⟨KeepsOthers.setCell _ _ _, ⟨rfl, pre, ⟨i, hi⟩, rfl, hp, .inl ⟨t1, World.cell?_setCell_same' _ _ _ (by rw [hcr]; rfl)⟩⟩, hB.setCell (p := ⟨w.heap.size + 1, 0, none⟩) (by simp) _⟩
    · have hd1 : decide (a[i]?.getD 0 < b[i]?.getD 0) = false := by simpa using t1
      by_cases t2 : b[i]?.getD 0 < a[i]?.getD 0
      · have hd2 : decide (b[i]?.getD 0 < a[i]?.getD 0) = true := by simpa using t2
        gi_wp2
        exact ⟨KeepsOthers.setCell _ _ _, ⟨rfl, pre, ⟨i, hi⟩, rfl, hp, .inr ⟨t2, World.cell?_setCell_same' _ _ _ (by rw [hcr]; rfl)⟩⟩, hB.setCell (p := ⟨w.heap.size + 1, 0, none⟩) (by simp) _⟩
      · have hd2 : decide (b[i]?.getD 0 < a[i]?.getD 0) = false := by simpa using t2
        gi_wp2
        exact ⟨KeepsOthers.refl _, KpD.refl _ _ _ _ _ _, ⟨fun p hp' => (List.mem_append.1 hp').elim (hp p) (fun e => by simp at e; subst e; simp; omega), hcB, hcr, hfr⟩, hB⟩
  case done =>
    rintro D ys W hD rfl ⟨⟨hne, hcB, hcr, hfr⟩, hB⟩ hK
    have hab : a = b := eq_all ha.len hb.len (fun j hj => hne ⟨j, hj⟩ ((mem_downTo (Nat.le_refl _) _).2 (by simp)))
    gi_wp2
    have hK' := (KeepsOthers.setCell W ⟨w.heap.size + 1, 0, none⟩ (.int .i64 0)).same D _ hK rfl
    refine ⟨by simp, .inl ⟨_, _, rfl, run_takeDeferred hK', ?_⟩⟩
    have hc5 := cell_kept (World.cell?_setCell_same' W ⟨w.heap.size + 1, 0, none⟩ (.int .i64 0) (by rw [hcr]; rfl)) (grownBy_putObj' _ D (.deferred none)) (fun r e => by cases e; exact ⟨_, hK', rfl⟩)
    refine ⟨.int .i64 0, ?_, by rw [hab, cmpL_self], (hB.setCell (p := ⟨w.heap.size + 1, 0, none⟩) (by simp) _).trans (belowK_b (w := w) (Nat.le_refl _) _ D _ _ (by simp at hD; omega) hK' rfl rfl)⟩
    simp [results, Try.f70, go_sem, hc5]
  case stop =>
    rintro D cc pre W hD ⟨k, hk, rfl⟩ ⟨⟨rfl, ini, last, e1, e2, e3⟩, hB⟩ hK
    obtain ⟨k', rfl⟩ : ∃ k', k = k' + 1 := by
      cases k with
      | zero => simp [downTo] at e1
      | succ k' => exact ⟨k', rfl⟩
    rw [downTo_succ (by omega)] at e1
    obtain ⟨rfl, e5⟩ := List.append_inj' e1 rfl
    have e6 : last.1 = n - 1 - k' := by
      have := congrArg (List.map (fun z : { i : Nat // i < n } => z.1)) e5
      simpa using this.symm
    rw [e6] at e3
    have he : ∀ j, n - 1 - k' < j → j < n → a[j]?.getD 0 = b[j]?.getD 0 := fun j hj hj' => e2 ⟨j, hj'⟩ ((mem_downTo (by omega) _).2 (by simp; omega))
    obtain ⟨r, hcr, hr⟩ : ∃ r : Int, W.cell? ⟨w.heap.size + 1, 0, none⟩ = some (.int .i64 r) ∧ cmpL a b = r := by
      rcases e3 with ⟨e3, e4⟩ | ⟨e3, e4⟩
      · have := part_lt ha.len hb.len ha.lt (by omega) he e3
        exact ⟨_, e4, by unfold cmpL; rw [ha.len, hb.len]; simp [this]⟩
      · have := part_lt hb.len ha.len hb.lt (by omega) (fun j h h' => (he j h h').symm) e3
        exact ⟨_, e4, by unfold cmpL; rw [ha.len, hb.len]; simp [this]; omega⟩
    gi_wp2
    refine ⟨by simp, .inl ⟨_, _, rfl, run_takeDeferred hK, ?_⟩⟩
    have hc5 := cell_kept hcr (grownBy_putObj' _ D (.deferred none)) (fun r e => by cases e; exact ⟨_, hK, rfl⟩)
    refine ⟨.int .i64 r, ?_, by rw [hr], hB.trans (belowK_b (w := w) (Nat.le_refl _) W D _ _ (by simp at hD; omega) hK rfl rfl)⟩
    simp [results, Try.f70, go_sem, hc5]
end Go.Proofs.Ytkippclhbkjbmaa

namespace Go.Proofs.Ytkippclhbkjbmaa
open Go.RowKit

/-- Nothing but the way on. -/
def OnlyNormal (Q : Exit → Act → World → Prop) : Exit → Act → World → Prop
  | .normal, a, w => Q .normal a w
  | _, _, _ => False
theorem OnlyNormal.no_out {Q : Exit → Act → World → Prop} (h : LetsOut (OnlyNormal Q)) : False := by
  obtain ⟨a, w, h⟩ := h
  exact h

theorem OnlyNormal.normal {Q : Exit → Act → World → Prop} {a : Act} {w : World} (h : Q .normal a w) : OnlyNormal Q .normal a w := h

theorem wpOpsIn_round {l n : Nat} {P : Program} {ops : Array Oper} {Q : Exit → Act → World → Prop} (hnd : ∀ (i : Nat) (o : Oper), ops[i]? = some o → ∀ c, o.op ≠ .defer c) :
    ∀ (is : List Nat) (a : Act) (w : World), wpOps P ops (OnlyNormal Q) is a w → wpOpsIn (Fence.wide.inRound l) n P ops Q is a w
  | [], _, _, h => h
  | i :: rest, a, w, h => by
    simp only [wpOps] at h
    simp only [wpOpsIn]
    cases ho : ops[i]? with
    | none => simp only [ho] at h ⊢; exact wpOpsIn_round hnd rest a w h
    | some o =>
      simp only [ho] at h ⊢
      by_cases hw : Region.wanted o (yielded ops a.tmps) = true
      · simp only [hw, if_true] at h ⊢
        rcases h with h | ⟨_, h⟩
        · refine ⟨fun _ _ => trivial, ?_⟩
          rw [Oper.semAt_eq _ _ _ (hnd i o ho)]
          unfold Oper.wp at h
          generalize (execOp a.eval o).run P w = r at *
          cases r with
          | ok x w' =>
            cases x with
            | value v => exact wpOpsIn_round hnd rest _ _ h
            | skip => exact wpOpsIn_round hnd rest _ _ h
            | defer d => exact wpOpsIn_round hnd rest _ _ h
            | enter f args =>
              refine ⟨(fun h => by cases h), CallsIn.inRound l (callsIn_wide.2 (Calls.mono h fun e w'' he => ?_))⟩
              cases e with
              | returned v => exact wpOpsIn_round hnd rest _ _ he
              | panicked c => exact (he : False).elim
              | outgrown => exact (OnlyNormal.no_out he).elim
            | row row args =>
              refine ⟨(fun h => by cases h), fun c cs _ => ?_⟩
              obtain ⟨v, w'', hR, hs⟩ := h c cs
              exact ⟨v, w'', wpOpsIn_round hnd rest _ _ hR, stepsIn_wide.2 hs⟩
            | _ => exact (h : False).elim
          | halt x w' => cases x <;> exact (h : False).elim
        · exact (OnlyNormal.no_out h).elim
      · simp only [hw, if_false, Bool.false_eq_true] at h ⊢
        exact ⟨fun _ _ => trivial, wpOpsIn_round hnd rest _ _ h⟩

def noDefers (ops : Array Oper) : Bool := ops.all fun o => match o.op with | .defer _ => false | _ => true
theorem noDefers_spec {ops : Array Oper} (h : noDefers ops = true) : ∀ (i : Nat) (o : Oper), ops[i]? = some o → ∀ c, o.op ≠ .defer c := by
  intro i o ho c hc
  unfold noDefers at h
  rw [Array.all_eq_true] at h
  obtain ⟨hi, rfl⟩ := Array.getElem?_eq_some_iff.1 ho
  have := h i hi
  rw [hc] at this
  cases this

/-- Operations that write what the region has read come up behind all that read it: none of L has come up. -/
def noneOf (L : List Nat) (listed : Array Bool) : Bool := L.all fun k => !(listed.getD k true)

/-- Whatever order is picked from here on; S holds till one of L has come up. -/
def wpAnyL (P : Program) (md : Region.Mode) (ops : Array Oper) (Q : Exit → Act → World → Prop) (L : List Nat) (S : World → Prop) : Nat → Array Bool → Act → World → Prop
  | 0, listed, a, w => Region.ready md ops listed = [] ∧ Q .normal a w
  | fuel + 1, listed, a, w =>
    (Region.ready md ops listed = [] → Q .normal a w) ∧
    ∀ i ∈ Region.ready md ops listed, wpOp P ops Q i (fun a' w' => (noneOf L (listed.setIfInBounds i true) = true → S w') ∧ wpAnyL P md ops Q L S fuel (listed.setIfInBounds i true) a' w') a w

section
variable {P : Program} {ops : Array Oper} {Q : Exit → Act → World → Prop} {md : Region.Mode} {L : List Nat} {S : World → Prop}

theorem wpAny_of_L : ∀ (fuel : Nat) (listed : Array Bool) (a : Act) (w : World), wpAnyL P md ops Q L S fuel listed a w → wpAny P md ops Q fuel listed a w
  | 0, _, _, _, h => h
  | fuel + 1, _, _, _, h => ⟨h.1, fun i hi => wpOp_mono (fun a' w' h' => wpAny_of_L fuel _ a' w' h'.2) (h.2 i hi)⟩

theorem noneOf_set {listed : Array Bool} {j : Nat} (hj : j ∉ L) : noneOf L (listed.setIfInBounds j true) = noneOf L listed := by
  unfold noneOf
  rw [Bool.eq_iff_iff, List.all_eq_true, List.all_eq_true]
  have : ∀ k ∈ L, (listed.setIfInBounds j true).getD k true = listed.getD k true := fun k hk => Go.getD_set_ne true (fun e => hj (e ▸ hk))
  constructor
  · intro h k hk; rw [← this k hk]; exact h k hk
  · intro h k hk; rw [this k hk]; exact h k hk

/-- Each of L waits for operation i. -/
def waits (md : Region.Mode) (ops : Array Oper) (L : List Nat) (i : Nat) : Bool := L.all fun k => k != i && (match ops[k]? with | some o => o.after.any fun e => Region.binds md e && e.on == i | none => false)

theorem wpAnyL_first {i : Nat} {oi : Oper} {v : Value} (hi : ops[i]? = some oi) (hsel : ∀ (j : Nat) (o : Oper) cs b, ops[j]? = some o → o.op ≠ .select cs b)
    (hQ : ∀ c a w, Q (.panic c) (a.put oi.dst v) w → Q (.panic c) a w) (hL : waits md ops L i = true) :
    ∀ (fuel : Nat) (listed : Array Bool) (a : Act) (w : World),
      (∀ j oj, ops[j]? = some oj → j ≠ i → listed.getD j true = false → (∀ e ∈ oj.after, Region.binds md e = true → e.on ≠ i) → oi.apart ops oj = true) →
      i ∈ Region.ready md ops listed → YieldsIf P ops S oi v a → noneOf L listed = true → S w →
      wpAnyL P md ops Q L S fuel (listed.setIfInBounds i true) (a.put oi.dst v) w → wpAnyL P md ops Q L S (fuel + 1) listed a w := by
  have hiL : i ∉ L := fun h => by
    unfold waits at hL
    rw [List.all_eq_true] at hL
    have := hL i h
    simp at this
  intro fuel
  induction fuel with
  | zero =>
    intro listed a w _ hr hy hn hS H
    refine ⟨fun h => (by rw [h] at hr; cases hr), fun j hj => ?_⟩
    by_cases hji : j = i
    · subst hji; exact hy.wpOp hi hS ⟨fun _ => hS, H⟩
    · have := ready_mono hj hji
      rw [H.1] at this
      cases this
  | succ fuel ih =>
    intro listed a w hfree hr hy hn hS H
    refine ⟨fun h => (by rw [h] at hr; cases hr), fun j hj => ?_⟩
    by_cases hji : j = i
    · subst hji; exact hy.wpOp hi hS ⟨fun _ => hS, H⟩
    · have h1 := H.2 j (ready_mono hj hji)
      obtain ⟨hjun, oj, hoj, hall⟩ := mem_ready.1 hj
      have hnot : ∀ e ∈ oj.after, Region.binds md e = true → e.on ≠ i := fun e he hb heq => by
        have h1 := hall e he hb
        have h0 := (mem_ready.1 hr).1
        rw [heq] at h1
        rcases Nat.lt_or_ge i listed.size with h' | h'
        · simp [h'] at h0 h1; rw [h0] at h1; cases h1
        · simp [Array.getElem?_eq_none h'] at h1
      have hjL : j ∉ L := fun hjL => by
        unfold waits at hL
        rw [List.all_eq_true] at hL
        have h2 := hL j hjL
        rw [hoj] at h2
        simp only [Bool.and_eq_true, Array.any_eq_true'] at h2
        obtain ⟨_, e, he, h3, h4⟩ := h2
        exact hnot e he h3 (by simpa using h4)
      have h2 := wpOp_putIf hoj (hfree j oj hoj hji hjun hnot) (fun cs b => hsel i oi cs b hi) (fun cs b => hsel j oj cs b hoj) hQ hy h1
      have hfree' : ∀ k ok, ops[k]? = some ok → k ≠ i → (listed.setIfInBounds j true).getD k true = false →
          (∀ e ∈ ok.after, Region.binds md e = true → e.on ≠ i) → oi.apart ops ok = true := fun k ok hk hki hun hno => by
        refine hfree k ok hk hki ?_ hno
        by_cases hjk : j = k
        · subst hjk; exact hjun
        · rw [Go.getD_set_ne true hjk] at hun; exact hun
      have hn2 : noneOf L (listed.setIfInBounds j true) = true := by rw [noneOf_set hjL]; exact hn
      refine wpOp_mono (fun a' w' h3 => ⟨fun _ => h3.2.1 (by rw [noneOf_set hjL, noneOf_set hiL]; exact hn), ih (listed.setIfInBounds j true) a' w' hfree' (ready_mono hr (Ne.symm hji)) h3.1 hn2 (h3.2.1 (by rw [noneOf_set hjL, noneOf_set hiL]; exact hn)) ?_⟩) h2
      rw [Array.setIfInBounds_comm _ _ hji]
      exact h3.2.2

/-- Take number i first. -/
theorem wpAnyL_take {i : Nat} {oi : Oper} {v : Value} {fuel : Nat} {listed : Array Bool} {a : Act} {w : World} (hi : ops[i]? = some oi)
    (hs : Region.noSelect ops = true) (hf : Region.free md ops listed i = true) (hr : (Region.ready md ops listed).contains i = true) (hL : waits md ops L i = true) (hn : noneOf L listed = true)
    (hy : YieldsIf P ops S oi v a) (hS : S w)
    (h : wpAnyL P md ops (OnlyNormal Q) L S fuel (listed.setIfInBounds i true) (a.put oi.dst v) w) : wpAnyL P md ops (OnlyNormal Q) L S (fuel + 1) listed a w :=
  wpAnyL_first hi (Region.noSelect_spec hs) (fun _ _ _ h => (h : False).elim) hL fuel listed a w (Region.free_spec hi hf) (by simpa using hr) hy hn hS h

/-- The one operation that may come up. -/
theorem wpAnyL_one {i : Nat} {o : Oper} {fuel : Nat} {listed : Array Bool} {a : Act} {w : World} (ho : ops[i]? = some o) (hr : Region.ready md ops listed = [i])
    (h : ∀ K' : Act → World → Prop, Shut (∀ a w, (noneOf L (listed.setIfInBounds i true) = true → S w) → wpAnyL P md ops Q L S fuel (listed.setIfInBounds i true) a w → K' a w) → if Region.wanted o (yielded ops a.tmps) = true then Oper.wp P o a w K' Q else K' (a.put o.dst undef) w) :
    wpAnyL P md ops Q L S (fuel + 1) listed a w :=
  ⟨(fun h0 => by rw [h0] at hr; cases hr), fun j hj => by
    rw [hr, List.mem_singleton] at hj
    subst hj
    exact wpOp_step ho (fun K' hK => h K' (fun a w hS hW => hK a w ⟨hS, hW⟩))⟩

/-- The same for one of L. -/
theorem wpAnyL_late {i : Nat} {o : Oper} {fuel : Nat} {listed : Array Bool} {a : Act} {w : World} (ho : ops[i]? = some o) (hr : Region.ready md ops listed = [i]) (hn : noneOf L (listed.setIfInBounds i true) = false)
    (h : ∀ K' : Act → World → Prop, Shut (∀ a w, wpAnyL P md ops Q L S fuel (listed.setIfInBounds i true) a w → K' a w) → if Region.wanted o (yielded ops a.tmps) = true then Oper.wp P o a w K' Q else K' (a.put o.dst undef) w) :
    wpAnyL P md ops Q L S (fuel + 1) listed a w :=
  wpAnyL_one ho hr fun K hK => h K fun a w hW => hK a w (fun h => by rw [hn] at h; cases h) hW

theorem wpAnyL_done {listed : Array Bool} {a : Act} {w : World} (hr : Region.ready md ops listed = []) (h : Q .normal a w) : ∀ fuel, wpAnyL P md ops Q L S fuel listed a w
  | 0 => ⟨hr, h⟩
  | _ + 1 => ⟨fun _ => h, by rw [hr]; simp⟩
end

/-- The beginning of the walk. -/
theorem wpIn_round_held {l n : Nat} {P : Program} {id : Nat} {ops : Array Oper} {Q : Exit → Act → World → Prop} {a : Act} {w : World} (L : List Nat) (S : World → Prop) (hm : P.follows .mixedOrders = true) (hnd : noDefers ops = true)
    (hS : S w.drew) (h : S w.drew → wpAnyL P .any ops (OnlyNormal Q) L S ops.size (Array.replicate ops.size false) a w.drew) : (Code.region id ops true).wpIn (Fence.wide.inRound l) n P Q a w :=
  wpIn_region_draw fun t => wpOpsIn_round (noDefers_spec hnd) _ _ _ (by
    simp only [Region.schedule, hm, Bool.true_or, if_true]
    exact wpAny_sound ops.size t _ a _ (wpAny_of_L _ _ _ _ (h hS)))
end Go.Proofs.Ytkippclhbkjbmaa
