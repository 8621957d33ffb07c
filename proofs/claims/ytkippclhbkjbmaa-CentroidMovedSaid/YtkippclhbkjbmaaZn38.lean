/- Slices of int64 of the call's own; reference of calib: Twin. Centroids: keep, column, row of package centroid; place, sum of the reference. -/
import Derived.Test.YtkippclhbkjbmaaZn01
import Derived.Test.YtkippclhbkjbmaaZn33
import Derived.Test.YtkippclhbkjbmaaZn27
import Derived.Test.YtkippclhbkjbmaaZn20
import Derived.Test.YtkippclhbkjbmaaZn37
set_option linter.unusedSimpArgs false
set_option linter.unusedVariables false

namespace Go.Proofs.Ytkippclhbkjbmaa
open Go.RowKit
attribute [local go_sem] add_lit

abbrev intv (z : Int) : Value := .int .i64 z
theorem LimI.len {w : World} {A : Option Addr} {n c : Nat} {l : List Int} (h : LimI w A n c l) : l.length = n := h.1
theorem LimI.reads {w : World} {A : Option Addr} {n c : Nat} {l : List Int} (h : LimI w A n c l) : Reads w w.heap.size 1 A n (l.map intv) :=
  ⟨by simp [h.len], fun hn => by
    obtain ⟨b, o, e, hc⟩ := h.2.2.2.2 hn
    refine ⟨_, e, lt_of_cell (hc 0 hn), fun j u hu => ?_⟩
    rw [add_lit]
    have hj : j < n := by
      rcases Nat.lt_or_ge j n with h' | h'
      · exact h'
      · rw [List.getElem?_eq_none (by simp [h.len]; exact h')] at hu; cases hu
    rw [hc j hj]
    rw [List.getElem?_map, List.getElem?_eq_getElem (by rw [h.len]; exact hj)] at hu
    rw [List.getElem?_eq_getElem (by rw [h.len]; exact hj)]
    simpa using hu⟩
theorem LimI.nil (w : World) (A : Option Addr) (c : Nat) (hc : c ≤ maxLen) : LimI w A 0 c [] := ⟨rfl, Nat.zero_le _, hc, by simp, fun h => absurd h (by omega)⟩
/-- The slice value v owns, from block base on, the numbers l. -/
def OwnI (t : TypeId) (w : World) (base : Nat) (v : Value) (l : List Int) : Prop := w.ownsRow base t 1 v l.length (l.map intv) ∧ ∀ x ∈ l, I64 x
theorem OwnI.lim {t : TypeId} {w : World} {base : Nat} {v : Value} {l : List Int} (h : OwnI t w base v l) : ∃ A c, v = .slice A l.length c ∧ LimI w A l.length c l := by
  obtain ⟨h1, h2⟩ := h
  rcases h1.2 with ⟨hv, h0⟩ | ⟨g, cap, cur, hv, _, hh, hnc, hcm, hcs, ht⟩
  · have : l = [] := List.eq_nil_of_length_eq_zero h0
    subst this
    exact ⟨none, 0, hv, LimI.nil _ _ _ (Nat.zero_le _)⟩
  · refine ⟨_, cap, hv, rfl, hnc, hcm, h2, fun _ => ⟨g, 0, rfl, fun k hk => ?_⟩⟩
    rw [Nat.zero_add, cell_of_row w g k cur t (0, 0) hh]
    have h3 : (cur.toList.take (l.length * 1))[k]? = (l.map intv)[k]? := by rw [ht]
    rw [List.getElem?_take, if_pos (by omega), List.getElem?_map, List.getElem?_eq_getElem hk] at h3
    rw [List.getElem?_eq_getElem hk]
    simpa using h3
theorem OwnI.blk {t : TypeId} {w w' : World} {base : Nat} {v : Value} {l : List Int} (h : OwnI t w base v l) (hb : ∀ g, base ≤ g → v.ownBlock = some g → w'.heap[g]? = w.heap[g]?) : OwnI t w' base v l := by
  refine ⟨⟨h.1.1, ?_⟩, h.2⟩
  rcases h.1.2 with h0 | ⟨g, cap, cur, hv, hg, hh, r⟩
  · exact .inl h0
  · exact .inr ⟨g, cap, cur, hv, hg, (hb g hg (by rw [hv]; rfl)).trans hh, r⟩
theorem oneCell_ints (l : List Int) : ∀ u ∈ l.map intv, u.oneCell' = true := fun u hu => by
  obtain ⟨x, _, rfl⟩ := List.mem_map.1 hu; rfl
theorem OwnI.append {t : TypeId} {w' : World} {base : Nat} {v' : Value} {l m : List Int} {n k : Nat} (hn : n = l.length) (hk : k = m.length) (h : w'.ownsRow base t 1 v' (n + k) (l.map intv ++ m.map intv)) (hl : ∀ x ∈ l, I64 x) (hm : ∀ x ∈ m, I64 x) : OwnI t w' base v' (l ++ m) := by
  subst hn hk
  refine ⟨?_, fun x hx => (List.mem_append.1 hx).elim (hl x) (hm x)⟩
  rw [List.length_append, List.map_append]; exact h
/-- Numbers that may be written. -/
def MutI (w : World) (g : Nat) (l : List Int) : Prop := ∀ k, k < l.length → w.cell? ⟨g, k, none⟩ = some (.int .i64 (l[k]?.getD 0)) ∧ w.frozen? ⟨g, k, none⟩ = false
theorem OwnI.mut {t : TypeId} {w : World} {base : Nat} {v : Value} {l : List Int} (h : OwnI t w base v l) (hn : 0 < l.length) : ∃ g cap, v = .slice (some ⟨g, 0, none⟩) l.length cap ∧ base ≤ g ∧ g < w.heap.size ∧ l.length ≤ cap ∧ cap ≤ maxLen ∧ MutI w g l := by
  rcases h.1.2 with ⟨hv, h0⟩ | ⟨g, cap, cur, hv, hg, hh, hnc, hcm, hcs, ht⟩
  · omega
  · refine ⟨g, cap, hv, hg, (Array.getElem?_eq_some_iff.1 hh).1, hnc, hcm, fun k hk => ⟨?_, ?_⟩⟩
    · rw [cell_of_row w g k cur t (0, 0) hh]
      have h3 : (cur.toList.take (l.length * 1))[k]? = (l.map intv)[k]? := by rw [ht]
      rw [List.getElem?_take, if_pos (by omega), List.getElem?_map, List.getElem?_eq_getElem hk] at h3
      rw [List.getElem?_eq_getElem hk]
      simpa using h3
    · unfold World.frozen?
      rw [hh]
      simp
theorem info64 : (Try.prog.info? 2).map (fun i => (i.zero, i.size, i.bytes)) = some (some (.int .i64 0), 1, 8) := by kernel_rfl
/-- What 'Twin' hands back. -/
def TwinP (w : World) (W H : Int) (l : List Int) (e : Ending) (w' : World) : Prop :=
  ∃ v, e = .returned (.agg #[.int .i64 W, .int .i64 H, v]) ∧ OwnI 2 w' w.heap.size v l ∧ Below w.heap.size w w'


end Go.Proofs.Ytkippclhbkjbmaa

namespace Go.Proofs.Ytkippclhbkjbmaa
open Go.RowKit
attribute [local go_sem] add_lit

/-- A store of what is there already. -/
theorem set_same {w : World} {g : Nat} {t : TypeId} {v : Value} (h : Blk w g t #[v]) : w.setCell ⟨g, 0, none⟩ v = w := by
  unfold World.setCell
  have e : w.heap.modify g (fun
      | .cells c elem frozen => .cells (if (none : Option Nat).isSome then c else c.setIfInBounds 0 v) elem frozen
      | o => o) = w.heap := by
    apply Array.ext_getElem?
    intro i
    rw [Array.getElem?_modify]
    by_cases hi : g = i
    · subst hi
      unfold Blk at h
      simp [h]
    · simp [hi]
  exact congrArg (fun h => ({ w with heap := h } : World)) e

set_option maxRecDepth 100000 in
set_option maxHeartbeats 1000000 in
theorem keep_ok (gc : Nat) (t : TypeId) (na nb : Bool) (A B : Option Addr) (n c m d : Nat) (w : World) (hq : Blk w gc t #[.int .i64 0]) :
    Calls Try.prog 19 #[.pointer (some ⟨gc, 0, none⟩), .agg #[.bool na, .slice A n c, .bool nb, .slice B m d], .int .i64 0] w fun e w' => e = .returned (.agg #[.bool na, .slice A n c, .bool nb, .slice B m d]) ∧ Below w.heap.size w w' := by
  have hg : gc < w.heap.size := (Array.getElem?_eq_some_iff.1 hq).1
  obtain ⟨W0, hW0, hB, ⟨q0, q9⟩, s0⟩ := alloc2 w 29 #[.bool na, .slice A n c, .bool nb, .slice B m d] 29 #[.bool false, .slice none 0 0, .bool false, .slice none 0 0]
  replace hq := hq.below hB hg
  have c0 := hq.cell 0
  have f0 := hq.frozen 0
  simp at c0
  obtain ⟨a0, a1, a2, a3, -⟩ := q0.four
  obtain ⟨r0, r1, r2, r3, z0, z1, z2, z3⟩ := q9.four
  go_enter Try.func19, Try.ntmps19
  go_wp2_with fail
  try rw [set_same hq]
  try simp only [set_same hq]
  go_wp2_with fail
  obtain ⟨V, hV, hB2, q9', -⟩ := set_frac na A n c nb B m d hB (by omega) q9
  (try rw [hV])
  (try simp only [hV])
  obtain ⟨r0, r1, r2, r3, -⟩ := q9'.four
  refine bodyPost_ret (v := .agg #[.bool na, .slice A n c, .bool nb, .slice B m d]) (by simp [results, Try.results19, go_sem, r0, r1, r2, r3]) rfl ?_
  exact ⟨rfl, hB2⟩

set_option maxRecDepth 100000 in
set_option maxHeartbeats 1000000 in
theorem column_ok (W H : Int) (A : Option Addr) (n c : Nat) (B : Option Addr) (m d : Nat) (i : Int) (w : World) (h0 : 0 ≤ i) (hi : i ≤ 1000000000) (h1 : 1 ≤ W) (h2 : W ≤ 100) :
    Calls Try.prog 17 #[.agg #[.int .i64 W, .int .i64 H, .slice A n c, .slice B m d], .int .i64 i] w fun e w' => e = .returned (.int .i64 (colv W i)) ∧ Below w.heap.size w w' := by
  obtain ⟨W0, hW0, hB, q0, s0⟩ := alloc1 w 53 #[.int .i64 W, .int .i64 H, .slice A n c, .slice B m d]
  have c0 := q0.cell 0
  simp at c0
  have hz : (W == 0) = false := by simp; omega
  have hW : ¬ W = 0 := by omega
  go_enter Try.func17, Try.ntmps17
  go_wp2_with fail
  go_ret
  exact ⟨rfl, hB⟩

set_option maxRecDepth 100000 in
set_option maxHeartbeats 1000000 in
theorem row_ok (W H : Int) (A : Option Addr) (n c : Nat) (B : Option Addr) (m d : Nat) (i : Int) (w : World) (h0 : 0 ≤ i) (hi : i ≤ 1000000000) (h1 : 1 ≤ W) (h2 : W ≤ 100) :
    Calls Try.prog 18 #[.agg #[.int .i64 W, .int .i64 H, .slice A n c, .slice B m d], .int .i64 i] w fun e w' => e = .returned (.int .i64 (rowv W i)) ∧ Below w.heap.size w w' := by
  obtain ⟨W0, hW0, hB, q0, s0⟩ := alloc1 w 53 #[.int .i64 W, .int .i64 H, .slice A n c, .slice B m d]
  have c0 := q0.cell 0
  simp at c0
  have hz : (W == 0) = false := by simp; omega
  have hW : ¬ W = 0 := by omega
  have hq0 : 0 ≤ i / W := Int.ediv_nonneg h0 (by omega)
  have hq1 : i / W ≤ i := Int.ediv_le_self _ h0
  have hwr : wrap64 (i / W) = i / W := by unfold wrap64; omega
  go_enter Try.func18, Try.ntmps18
  go_wp2_with fail
  go_ret
  exact ⟨rfl, hB⟩

def plc (row : Bool) (W i : Int) : Int := if row then rowv W i else colv W i

/-- Pixels of a list lie in the field, and are small. -/
def Rng (ps l : List Int) (n m : Nat) : Prop := ∀ k, k < m → 0 ≤ l[k]?.getD 0 ∧ l[k]?.getD 0 < n ∧ -8589934592 ≤ pix ps (l[k]?.getD 0) ∧ pix ps (l[k]?.getD 0) ≤ 8589934592
theorem Rng.sum {ps l : List Int} {n m k : Nat} (h : Rng ps l n m) (hk : k ≤ m) : -(8589934592 * (k : Int)) ≤ sumK (pix ps) l k ∧ sumK (pix ps) l k ≤ 8589934592 * (k : Int) := by
  induction k with
  | zero => simp [sumK]
  | succ k ih =>
    have h1 := ih (by omega)
    have h2 := h k (by omega)
    simp only [sumK]
    omega

end Go.Proofs.Ytkippclhbkjbmaa
