/- Package wide: down, an iterator over limbs from the highest one on; compare. -/
import Derived.RangeFuncBox
import Derived.RangeFuncLeaves
import Derived.RangeFuncNested
import Derived.RangeFuncCalls
import Derived.Shelf.Abstract
import Derived.OwnWalkIn
import Derived.TacticsInMore
import Derived.LoopNIn
import Derived.LoopIn
import Derived.Test.YtljocgdhdilglaaGreatZr01
set_option linter.unusedSimpArgs false
set_option linter.unusedVariables false

namespace Go.Proofs.YtljocgdhdilglaaGreat
open Go.RowKit Go.Shelf
attribute [local go_sem] add_lit
attribute [local go_sem] Oper.semAt_some

/-- The places of a list of n, from the last one down; the first k of them. -/
def downTo (n : Nat) : Nat → List { i : Nat // i < n }
  | 0 => []
  | k + 1 => downTo n k ++ (if h : k < n then [⟨n - 1 - k, by omega⟩] else [])
theorem downTo_succ {n k : Nat} (h : k < n) : downTo n (k + 1) = downTo n k ++ [⟨n - 1 - k, by omega⟩] := by simp [downTo, h]
theorem downTo_length {n k : Nat} (h : k ≤ n) : (downTo n k).length = k := by
  induction k with
  | zero => rfl
  | succ k ih => rw [downTo_succ (by omega)]; simp [ih (by omega)]
theorem mem_downTo {n k : Nat} (h : k ≤ n) (i : { i : Nat // i < n }) : i ∈ downTo n k ↔ n - k ≤ i.1 := by
  induction k with
  | zero => simp [downTo]; omega
  | succ k ih =>
    have := i.2
    rw [downTo_succ (by omega), List.mem_append, ih (by omega), List.mem_singleton, Subtype.ext_iff]
    simp; omega

def encDown (l : List Nat) (n : Nat) (i : { i : Nat // i < n }) : Array Value := #[.int .i64 (i.1 : Int), limb (l[i.1]?.getD 0)]

theorem lim_kept {W W' : World} {row : Option Nat} {A : Option Addr} {n c : Nat} {l : List Nat} (h : Lim W A n c l) (hg : W.grownBy W' row) (hrow : ∀ r, row = some r → ∃ o : Obj, W.heap[r]? = some o ∧ o.isCells = false) : Lim W' A n c l :=
  ⟨h.1, h.2.1, h.2.2.1, h.2.2.2.1, fun hn => by
    obtain ⟨b, o, e, hc⟩ := h.2.2.2.2 hn
    exact ⟨b, o, e, fun k hk => cell_kept (hc k hk) hg hrow⟩⟩

/-- What a round over 'down' keeps: the iterator's box, and the limbs. -/
def KpD (Bs : Nat) (A : Option Addr) (n c : Nat) (l : List Nat) (W W' : World) : Prop :=
  (W.cell? ⟨Bs, 0, none⟩ = some (.slice A n c) → W'.cell? ⟨Bs, 0, none⟩ = some (.slice A n c)) ∧ (Lim W A n c l → Lim W' A n c l)
theorem KpD.refl (Bs : Nat) (A : Option Addr) (n c : Nat) (l : List Nat) (W : World) : KpD Bs A n c l W W := ⟨id, id⟩
theorem KpD.trans {Bs n c : Nat} {A : Option Addr} {l : List Nat} {W1 W2 W3 : World} (h : KpD Bs A n c l W1 W2) (k : KpD Bs A n c l W2 W3) : KpD Bs A n c l W1 W3 := ⟨fun x => k.1 (h.1 x), fun x => k.2 (h.2 x)⟩
theorem KpD.put {Bs n c : Nat} {A : Option Addr} {l : List Nat} (W : World) (lp : Nat) (o o' : Obj) (ho : W.heap[lp]? = some o) (hc : o.isCells = false) : KpD Bs A n c l W (W.putObj lp o') :=
  ⟨fun h => cell_kept h (grownBy_putObj' W lp o') (fun r e => by cases e; exact ⟨o, ho, hc⟩), fun h => lim_kept h (grownBy_putObj' W lp o') (fun r e => by cases e; exact ⟨o, ho, hc⟩)⟩
/-- A store into a block that is neither the box's nor the limbs'. -/
theorem KpD.set_ {Bs n c : Nat} {A : Option Addr} {l : List Nat} {w W : World} {g o : Nat} (hL : Lim w A n c l) (hg : w.heap.size ≤ g) (hB : g ≠ Bs) (u : Value) : KpD Bs A n c l W (W.setCell ⟨g, o, none⟩ u) :=
  ⟨fun h => (World.cell?_setCell_other W _ _ u (fun e => hB (by cases e; rfl))).trans h, fun h => ⟨h.1, h.2.1, h.2.2.1, h.2.2.2.1, fun hn => by
    obtain ⟨b, o', e, hc⟩ := h.2.2.2.2 hn
    obtain ⟨b1, o1, e1, hc1⟩ := hL.2.2.2.2 hn
    rw [e] at e1
    cases e1
    have hlt := lt_of_cell (hc1 0 hn)
    exact ⟨b, o', e, fun k hk => (World.cell?_setCell_other W _ _ u (fun e2 => by cases e2; simp at hlt; omega)).trans (hc k hk)⟩⟩⟩

set_option maxRecDepth 100000 in
set_option maxHeartbeats 2000000 in
theorem down1_in (d : Nat) (hd : 1 ≤ d) (lp Bs n c : Nat) (A : Option Addr) (l : List Nat) (J Jx : List { i : Nat // i < n } → World → Prop)
    (hY : ∀ pre x W, J pre W → pre.length < n → YieldAt Fence.wide (d - 1) Tryz.prog lp (encDown l n x) W fun e W' =>
      (e = .returned (.bool true) ∧ J (pre ++ [x]) W' ∧ KpD Bs A n c l W W') ∨ (e = .returned (.bool false) ∧ Jx (pre ++ [x]) W'))
    (W : World) (hBs : W.cell? ⟨Bs, 0, none⟩ = some (.slice A n c)) (hL : Lim W A n c l) (h0 : J [] W) :
    CallsIn Fence.wide d Tryz.prog 125 #[.func (.yield lp) #[] #[], .pointer (some ⟨Bs, 0, none⟩)] W fun e W' => (∃ v, e = .returned v) ∧
      ((∃ ys, ys = downTo n n ∧ J ys W') ∨ (∃ pre, (∃ k, k ≤ n ∧ pre = downTo n k) ∧ Jx pre W')) := by
  have hnc := hL.2.1
  have hcm := hL.2.2.1
  unfold maxLen at hcm
  refine callsIn_of_wp Tryz.func125 rfl trivial ?_ rfl
  simp only [Tryz.ntmps125, List.size_toArray, List.length_cons, List.length_nil, Nat.reduceAdd, Nat.reduceSub, Array.replicate_succ, Array.replicate_zero, List.push_toArray, List.append_toArray, List.nil_append, List.cons_append]
  gi_wp2
  gi_loopw [3] (fun i wr => ∃ k : Nat, k ≤ n ∧ i = .int .i64 ((n : Int) - 1 - k) ∧ J (downTo n k) wr ∧ Hid (wr.cell? ⟨Bs, 0, none⟩ = some (.slice A n c)) ∧ Lim wr A n c l)
    (fun i _ => (intOf i + 1).toNat)
  case atStart => exact ⟨0, Nat.zero_le _, by go_num, h0, hBs, hL⟩
  case round =>
    obtain ⟨k, hk, rfl, hJs, hbx', hLr⟩ := hrel
    have hbx := hbx'.out
    by_cases hlt : k < n
    · obtain ⟨b, o, rfl, hcx⟩ := hLr.at_ (k := n - 1 - k) (by omega)
      obtain ⟨fn, tmps, assign, body, hy, hR⟩ := hY _ ⟨n - 1 - k, by omega⟩ wr hJs (by rw [downTo_length hk]; exact hlt)
      dsimp only [encDown] at hy
      rw [show ((n - 1 - k : Nat) : Int) = (n : Int) - 1 - k by omega] at hy
      gi_wp2
      refine hR.mono ?_
      rintro e W3 (⟨rfl, hJ3, hk3⟩ | ⟨rfl, hJx3⟩)
      · have hbx3 := hide (hk3.1 hbx'.out)
        gi_wp2
        go_roundw
        case rel => exact ⟨k + 1, by omega, by go_num, by rw [downTo_succ hlt]; exact hJ3, hbx3, hk3.2 hLr⟩
        case measure => simp [intOf]; omega
      · gi_wp2
        refine bodyPost_ret (results_none rfl _ _ _) rfl ?_
        exact ⟨⟨_, rfl⟩, .inr ⟨_, ⟨k + 1, by omega, (downTo_succ hlt).symm⟩, hJx3⟩⟩
    · obtain rfl : k = n := by omega
      gi_wp2
      go_end0
      exact ⟨⟨_, rfl⟩, .inl ⟨_, rfl, hJs⟩⟩

theorem down_stops (d : Nat) (hd : 1 ≤ d) (Bs n c : Nat) (A : Option Addr) (l : List Nat) (w : World) (hc : w.cell? ⟨Bs, 0, none⟩ = some (.slice A n c)) (hL : Lim w A n c l) :
    SeqStopsK Fence.wide d Tryz.prog 125 #[.pointer (some ⟨Bs, 0, none⟩)] (encDown l n) (KpD Bs A n c l) (fun ys => ys = downTo n n) (fun pre => ∃ k, k ≤ n ∧ pre = downTo n k) n w := fun lp J Jx W hW _ _ hY h0 =>
  down1_in d hd lp Bs n c A l J Jx hY W ((hW.cell (lt_of_cell hc)).trans hc) (hL.below hW) h0

set_option maxHeartbeats 400000 in
theorem down_any (A : Option Addr) (n c : Nat) (w : World) :
    Calls Tryz.prog 119 #[.slice A n c] w fun e w' => e = .returned (.func (.func 125) #[] #[.pointer (some ⟨w.heap.size, 0, none⟩)]) ∧ w.alloc (.cells #[.slice A n c] 23) = w' := by
  go_enter Tryz.func119, Tryz.ntmps119
  go_wp2
  go_ret
  exact ⟨rfl, rfl⟩

/-- How lists of limbs compare: first by their lengths. -/
def cmpL (a b : List Nat) : Int := if a.length < b.length then -1 else if b.length < a.length then 1 else if val a < val b then -1 else if val b < val a then 1 else 0

theorem drop_val {l : List Nat} {k : Nat} (h : k < l.length) : val (l.drop k) = l[k]?.getD 0 + 4294967296 * val (l.drop (k + 1)) := by
  rw [List.drop_eq_getElem_cons h, val, List.getElem?_eq_getElem h]; rfl
/-- The first place from above at which two lists of one length part tells which is worth less. -/
theorem part_lt {a b : List Nat} {n k : Nat} (ha : a.length = n) (hb : b.length = n) (hla : Lt32 a) (hk : k < n) (he : ∀ j, k < j → j < n → a[j]?.getD 0 = b[j]?.getD 0) (hlt : a[k]?.getD 0 < b[k]?.getD 0) : val a < val b := by
  have h1 : ∀ m, k < n - m → m ≤ n → val (a.drop (n - m)) = val (b.drop (n - m)) := by
    intro m
    induction m with
    | zero => intro _ _; rw [Nat.sub_zero, List.drop_of_length_le (by omega), List.drop_of_length_le (by omega)]
    | succ m ih =>
      intro h h'
      rw [drop_val (l := a) (by omega), drop_val (l := b) (by omega), he _ h (by omega), show n - (m + 1) + 1 = n - m by omega, ih (by omega) (by omega)]
  have h2 : val (a.drop (k + 1)) = val (b.drop (k + 1)) := by
    rcases Nat.lt_or_ge (k + 1) n with h | h
    · have := h1 (n - (k + 1)) (by omega) (by omega)
      rwa [show n - (n - (k + 1)) = k + 1 by omega] at this
    · rw [List.drop_of_length_le (by omega), List.drop_of_length_le (by omega)]
  have h3 := val_take_drop a k (by omega)
  have h4 := val_take_drop b k (by omega)
  rw [drop_val (by omega)] at h3 h4
  have h5 := val_lt (hla.take k)
  rw [List.length_take, Nat.min_eq_left (by omega)] at h5
  rw [h3, h4, h2]
  generalize val (b.drop (k + 1)) = t
  have : pw k * (a[k]?.getD 0 + 4294967296 * t + 1) ≤ pw k * (b[k]?.getD 0 + 4294967296 * t) := Nat.mul_le_mul_left _ (by omega)
  rw [Nat.mul_add, Nat.mul_one] at this
  omega
theorem eq_all {a b : List Nat} {n : Nat} (ha : a.length = n) (hb : b.length = n) (he : ∀ j, j < n → a[j]?.getD 0 = b[j]?.getD 0) : a = b := by
  apply List.ext_getElem (by omega)
  intro i h1 h2
  have := he i (by omega)
  rwa [List.getElem?_eq_getElem h1, List.getElem?_eq_getElem h2] at this
theorem cmpL_self (a : List Nat) : cmpL a a = 0 := by simp [cmpL]

set_option maxRecDepth 100000 in
set_option maxHeartbeats 2000000 in
theorem compare_any (A B : Option Addr) (n c m d : Nat) (a b : List Nat) (w : World) (ha : Lim w A n c a) (hb : Lim w B m d b) :
    Calls Tryz.prog 107 #[.slice A n c, .slice B m d] w fun e w' => e = .returned (.int .i64 (cmpL a b)) ∧ Below w.heap.size w w' := by
  have hnc := ha.2.1
  have hmd := hb.2.1
  have hcm := ha.2.2.1
  have hdm := hb.2.2.1
  unfold maxLen at hcm hdm
  by_cases h1 : n < m
  · have hne : (((n : Nat) : Int) != m) = true := by simp; omega
    have hd : decide (n < m) = true := by simpa using h1
    have hr : cmpL a b = -1 := by unfold cmpL; rw [ha.len, hb.len, if_pos h1]
    rw [hr]
    go_enter Tryz.func107, Tryz.ntmps107
    go_wp2
    go_returns
    exact ⟨rfl, by go_grown⟩
  by_cases h2 : m < n
  · have hne : (((n : Nat) : Int) != m) = true := by simp; omega
    have hd : decide (n < m) = false := by simpa using h1
    have hr : cmpL a b = 1 := by unfold cmpL; rw [ha.len, hb.len, if_neg h1, if_pos h2]
    rw [hr]
    go_enter Tryz.func107, Tryz.ntmps107
    go_wp2
    go_returns
    exact ⟨rfl, by go_grown⟩
  obtain rfl : n = m := by omega
  have hne : (((n : Nat) : Int) != n) = false := by simp
  have h9 : 1 ≤ 9 := by omega
  refine (callsIn_wide (n := 9)).1 ?_
  refine callsIn_of_wp_marks Tryz.func107 rfl trivial ?_ rfl
  simp only [Tryz.ntmps107, List.size_toArray, List.length_cons, List.length_nil, Nat.reduceAdd, Nat.reduceSub, Array.replicate_succ, Array.replicate_zero, List.push_toArray, List.append_toArray, List.nil_append, List.cons_append]
  gi_wp2_with (refine ⟨trivial, ?_⟩; gi_at_call 119; refine (callsIn_wide.2 (down_any _ _ _ _)).mono ?_; rintro e w' ⟨rfl, rfl⟩)
  have bB := Boxed.new w 23 (.slice B n d)
  have bR := Boxed.new (w.alloc (.cells #[.slice B n d] 23)) 3 (.int .i64 0)
  have bN := Boxed.new ((w.alloc (.cells #[.slice B n d] 23)).alloc (.cells #[.int .i64 0] 3)) 23 (.slice A n c)
  simp only [World.size_alloc] at bR bN
  have hB0 : Below w.heap.size w (((w.alloc (.cells #[.slice B n d] 23)).alloc (.cells #[.int .i64 0] 3)).alloc (.cells #[.slice A n c] 23)) := by go_grown
  refine wpIn_rangeFunc_ownF rfl h9 (gf := 125) (lb := #[.pointer (some ⟨w.heap.size + 1 + 1, 0, none⟩)]) rfl trivial (enters_of Tryz.func125 (by kernel_rfl) rfl)
    (down_stops 8 (by omega) (w.heap.size + 1 + 1) n c A a _ bN.cell (ha.below hB0)) KpD.trans (fun W l o o' _ h hc _ => KpD.put W l o o' h hc) (Below.refl _ _) (fun _ => rfl)
    (fun pre W => ((∀ p ∈ pre, a[p.1]?.getD 0 = b[p.1]?.getD 0) ∧ W.cell? ⟨w.heap.size, 0, none⟩ = some (.slice B n d) ∧ W.cell? ⟨w.heap.size + 1, 0, none⟩ = some (.int .i64 0) ∧ W.frozen? ⟨w.heap.size + 1, 0, none⟩ = false) ∧ Below w.heap.size w W)
    (fun cc pre W => (cc = .ret ∧ ∃ ini last, pre = ini ++ [last] ∧ (∀ p ∈ ini, a[p.1]?.getD 0 = b[p.1]?.getD 0) ∧
      ((a[last.1]?.getD 0 < b[last.1]?.getD 0 ∧ W.cell? ⟨w.heap.size + 1, 0, none⟩ = some (.int .i64 (-1))) ∨ (b[last.1]?.getD 0 < a[last.1]?.getD 0 ∧ W.cell? ⟨w.heap.size + 1, 0, none⟩ = some (.int .i64 1)))) ∧ Below w.heap.size w W)
    (OwnFrom.and (Own.from (fun s X Y row hs hg hr => ⟨hs.1, cell_kept hs.2.1 hg hr, cell_kept hs.2.2.1 hg hr, (frozen_kept hs.2.2.1 hg hr).trans hs.2.2.2⟩) _) (ownFrom_below (Nat.le_refl _) (by simp; omega)))
    (fun cc => OwnFrom.and (Own.from (fun s X Y row hs hg hr => by
      obtain ⟨hc, ini, last, e1, e2, e3⟩ := hs
      refine ⟨hc, ini, last, e1, e2, ?_⟩
      rcases e3 with ⟨e3, e4⟩ | ⟨e3, e4⟩
      · exact .inl ⟨e3, cell_kept e4 hg hr⟩
      · exact .inr ⟨e3, cell_kept e4 hg hr⟩) _) (ownFrom_below (Nat.le_refl _) (by simp; omega)))
    ⟨⟨by simp, ((bB.alloc _).alloc _).cell, (bR.alloc _).cell, (bR.alloc _).frozen⟩, hB0⟩
    (fun x => { tmps := #[.slice A n c, .slice B n d, undef, .pointer (some ⟨w.heap.size, 0, none⟩), .pointer (some ⟨w.heap.size + 1, 0, none⟩), .int .i64 (x.1 : Int), limb (a[x.1]?.getD 0), .slice A n c,
      .int .i64 n, .slice B n d, .int .i64 n, .bool false, undef, undef, undef, undef, undef, .slice A n c, .func (.func 125) #[] #[.pointer (some ⟨w.heap.size + 1 + 1, 0, none⟩)], .int .i64 (x.1 : Int), limb (a[x.1]?.getD 0),
      undef, undef, undef, undef, undef, undef, undef, undef, undef, undef, undef, undef], defers := [] }) ?assign ?body ?done ?stop
  case assign =>
    intro l x W K hK
    dsimp only [encDown]
    gi_wp2
    exact hK
  case body =>
    rintro l pre x W ⟨⟨hp, hcB, hcr, hfr⟩, hB⟩ _
    obtain ⟨i, hi⟩ := x
    obtain ⟨bb, ob, rfl, hcx⟩ := (hb.below hB).at_ hi
    by_cases t1 : a[i]?.getD 0 < b[i]?.getD 0
    · have hd1 : decide (a[i]?.getD 0 < b[i]?.getD 0) = true := by simpa using t1
      gi_wp2
      exact ⟨KeepsOthers.setCell _ _ _, ⟨rfl, pre, ⟨i, hi⟩, rfl, hp, .inl ⟨t1, World.cell?_setCell_same' _ _ _ (by rw [hcr]; rfl)⟩⟩, hB.setCell (p := ⟨w.heap.size + 1, 0, none⟩) (by simp) _⟩
    · have hd1 : decide (a[i]?.getD 0 < b[i]?.getD 0) = false := by simpa using t1
      by_cases t2 : b[i]?.getD 0 < a[i]?.getD 0
      · have hd2 : decide (b[i]?.getD 0 < a[i]?.getD 0) = true := by simpa using t2
        gi_wp2
        exact ⟨KeepsOthers.setCell _ _ _, ⟨rfl, pre, ⟨i, hi⟩, rfl, hp, .inr ⟨t2, World.cell?_setCell_same' _ _ _ (by rw [hcr]; rfl)⟩⟩, hB.setCell (p := ⟨w.heap.size + 1, 0, none⟩) (by simp) _⟩
      · have hd2 : decide (b[i]?.getD 0 < a[i]?.getD 0) = false := by simpa using t2
        gi_wp2
        exact ⟨KeepsOthers.refl _, KpD.refl _ _ _ _ _ _, ⟨fun p hp' => (List.mem_append.1 hp').elim (hp p) (fun e => by simp at e; subst e; simp; omega), hcB, hcr, hfr⟩, hB⟩
  case done =>
    rintro D ys W hD rfl ⟨⟨hne, hcB, hcr, hfr⟩, hB⟩ hK
    have hab : a = b := eq_all ha.len hb.len (fun j hj => hne ⟨j, hj⟩ ((mem_downTo (Nat.le_refl _) _).2 (by simp)))
    gi_wp2
    have hK' := (KeepsOthers.setCell W ⟨w.heap.size + 1, 0, none⟩ (.int .i64 0)).same D _ hK rfl
    refine ⟨by simp, .inl ⟨_, _, rfl, run_takeDeferred hK', ?_⟩⟩
    have hc5 := cell_kept (World.cell?_setCell_same' W ⟨w.heap.size + 1, 0, none⟩ (.int .i64 0) (by rw [hcr]; rfl)) (grownBy_putObj' _ D (.deferred none)) (fun r e => by cases e; exact ⟨_, hK', rfl⟩)
    refine ⟨.int .i64 0, ?_, by rw [hab, cmpL_self], (hB.setCell (p := ⟨w.heap.size + 1, 0, none⟩) (by simp) _).trans (belowK_b (w := w) (Nat.le_refl _) _ D _ _ (by simp at hD; omega) hK' rfl rfl)⟩
    simp [results, Tryz.f107, go_sem, hc5]
  case stop =>
    rintro D cc pre W hD ⟨k, hk, rfl⟩ ⟨⟨rfl, ini, last, e1, e2, e3⟩, hB⟩ hK
    obtain ⟨k', rfl⟩ : ∃ k', k = k' + 1 := by
      cases k with
      | zero => simp [downTo] at e1
      | succ k' => exact ⟨k', rfl⟩
    rw [downTo_succ (by omega)] at e1
    obtain ⟨rfl, e5⟩ := List.append_inj' e1 rfl
    have e6 : last.1 = n - 1 - k' := by
      have := congrArg (List.map (fun z : { i : Nat // i < n } => z.1)) e5
      simpa using this.symm
    rw [e6] at e3
    have he : ∀ j, n - 1 - k' < j → j < n → a[j]?.getD 0 = b[j]?.getD 0 := fun j hj hj' => e2 ⟨j, hj'⟩ ((mem_downTo (by omega) _).2 (by simp; omega))
    obtain ⟨r, hcr, hr⟩ : ∃ r : Int, W.cell? ⟨w.heap.size + 1, 0, none⟩ = some (.int .i64 r) ∧ cmpL a b = r := by
      rcases e3 with ⟨e3, e4⟩ | ⟨e3, e4⟩
      · have := part_lt ha.len hb.len ha.lt (by omega) he e3
        exact ⟨_, e4, by unfold cmpL; rw [ha.len, hb.len]; simp [this]⟩
      · have := part_lt hb.len ha.len hb.lt (by omega) (fun j h h' => (he j h h').symm) e3
        exact ⟨_, e4, by unfold cmpL; rw [ha.len, hb.len]; simp [this]; omega⟩
    gi_wp2
    refine ⟨by simp, .inl ⟨_, _, rfl, run_takeDeferred hK, ?_⟩⟩
    have hc5 := cell_kept hcr (grownBy_putObj' _ D (.deferred none)) (fun r e => by cases e; exact ⟨_, hK, rfl⟩)
    refine ⟨.int .i64 r, ?_, by rw [hr], hB.trans (belowK_b (w := w) (Nat.le_refl _) W D _ _ (by simp at hD; omega) hK rfl rfl)⟩
    simp [results, Tryz.f107, go_sem, hc5]
end Go.Proofs.YtljocgdhdilglaaGreat
