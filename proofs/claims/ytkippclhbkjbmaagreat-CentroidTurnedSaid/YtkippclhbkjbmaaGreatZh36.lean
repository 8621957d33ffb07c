/- Slices of int64 of the call's own; reference of calib: Twin. Centroids: keep, column, row of package centroid; place, sum of the reference. -/
import Derived.Test.YtkippclhbkjbmaaGreatZh01
import Derived.Test.YtkippclhbkjbmaaGreatZh32
import Derived.Test.YtkippclhbkjbmaaGreatZh26
import Derived.Test.YtkippclhbkjbmaaGreatZh19
import Derived.Test.YtkippclhbkjbmaaGreatZh35
set_option linter.unusedSimpArgs false
set_option linter.unusedVariables false

namespace Go.Proofs.YtkippclhbkjbmaaGreat
open Go.RowKit
attribute [local go_sem] add_lit

abbrev intv (z : Int) : Value := .int .i64 z
theorem LimI.len {w : World} {A : Option Addr} {n c : Nat} {l : List Int} (h : LimI w A n c l) : l.length = n := h.1
theorem LimI.reads {w : World} {A : Option Addr} {n c : Nat} {l : List Int} (h : LimI w A n c l) : Reads w w.heap.size 1 A n (l.map intv) :=
  ⟨by simp [h.len], fun hn => by
    obtain ⟨b, o, e, hc⟩ := h.2.2.2.2 hn
    refine ⟨_, e, lt_of_cell (hc 0 hn), fun j u hu => ?_⟩
    rw [add_lit]
    have hj : j < n := by
      rcases Nat.lt_or_ge j n with h' | h'
      · exact h'
      · rw [List.getElem?_eq_none (by simp [h.len]; exact h')] at hu; cases hu
    rw [hc j hj]
    rw [List.getElem?_map, List.getElem?_eq_getElem (by rw [h.len]; exact hj)] at hu
    rw [List.getElem?_eq_getElem (by rw [h.len]; exact hj)]
    simpa using hu⟩
theorem LimI.nil (w : World) (A : Option Addr) (c : Nat) (hc : c ≤ maxLen) : LimI w A 0 c [] := ⟨rfl, Nat.zero_le _, hc, by simp, fun h => absurd h (by omega)⟩
/-- The slice value v owns, from block base on, the numbers l. -/
def OwnI (t : TypeId) (w : World) (base : Nat) (v : Value) (l : List Int) : Prop := w.ownsRow base t 1 v l.length (l.map intv) ∧ ∀ x ∈ l, I64 x
theorem OwnI.lim {t : TypeId} {w : World} {base : Nat} {v : Value} {l : List Int} (h : OwnI t w base v l) : ∃ A c, v = .slice A l.length c ∧ LimI w A l.length c l := by
  obtain ⟨h1, h2⟩ := h
  rcases h1.2 with ⟨hv, h0⟩ | ⟨g, cap, cur, hv, _, hh, hnc, hcm, hcs, ht⟩
  · have : l = [] := List.eq_nil_of_length_eq_zero h0
    subst this
    exact ⟨none, 0, hv, LimI.nil _ _ _ (Nat.zero_le _)⟩
  · refine ⟨_, cap, hv, rfl, hnc, hcm, h2, fun _ => ⟨g, 0, rfl, fun k hk => ?_⟩⟩
    rw [Nat.zero_add, cell_of_row w g k cur t (0, 0) hh]
    have h3 : (cur.toList.take (l.length * 1))[k]? = (l.map intv)[k]? := by rw [ht]
    rw [List.getElem?_take, if_pos (by omega), List.getElem?_map, List.getElem?_eq_getElem hk] at h3
    rw [List.getElem?_eq_getElem hk]
    simpa using h3
theorem OwnI.blk {t : TypeId} {w w' : World} {base : Nat} {v : Value} {l : List Int} (h : OwnI t w base v l) (hb : ∀ g, base ≤ g → v.ownBlock = some g → w'.heap[g]? = w.heap[g]?) : OwnI t w' base v l := by
  refine ⟨⟨h.1.1, ?_⟩, h.2⟩
  rcases h.1.2 with h0 | ⟨g, cap, cur, hv, hg, hh, r⟩
  · exact .inl h0
  · exact .inr ⟨g, cap, cur, hv, hg, (hb g hg (by rw [hv]; rfl)).trans hh, r⟩
theorem oneCell_ints (l : List Int) : ∀ u ∈ l.map intv, u.oneCell' = true := fun u hu => by
  obtain ⟨x, _, rfl⟩ := List.mem_map.1 hu; rfl
theorem OwnI.append {t : TypeId} {w' : World} {base : Nat} {v' : Value} {l m : List Int} {n k : Nat} (hn : n = l.length) (hk : k = m.length) (h : w'.ownsRow base t 1 v' (n + k) (l.map intv ++ m.map intv)) (hl : ∀ x ∈ l, I64 x) (hm : ∀ x ∈ m, I64 x) : OwnI t w' base v' (l ++ m) := by
  subst hn hk
  refine ⟨?_, fun x hx => (List.mem_append.1 hx).elim (hl x) (hm x)⟩
  rw [List.length_append, List.map_append]; exact h
/-- Numbers that may be written. -/
def MutI (w : World) (g : Nat) (l : List Int) : Prop := ∀ k, k < l.length → w.cell? ⟨g, k, none⟩ = some (.int .i64 (l[k]?.getD 0)) ∧ w.frozen? ⟨g, k, none⟩ = false
theorem OwnI.mut {t : TypeId} {w : World} {base : Nat} {v : Value} {l : List Int} (h : OwnI t w base v l) (hn : 0 < l.length) : ∃ g cap, v = .slice (some ⟨g, 0, none⟩) l.length cap ∧ base ≤ g ∧ g < w.heap.size ∧ l.length ≤ cap ∧ cap ≤ maxLen ∧ MutI w g l := by
  rcases h.1.2 with ⟨hv, h0⟩ | ⟨g, cap, cur, hv, hg, hh, hnc, hcm, hcs, ht⟩
  · omega
  · refine ⟨g, cap, hv, hg, (Array.getElem?_eq_some_iff.1 hh).1, hnc, hcm, fun k hk => ⟨?_, ?_⟩⟩
    · rw [cell_of_row w g k cur t (0, 0) hh]
      have h3 : (cur.toList.take (l.length * 1))[k]? = (l.map intv)[k]? := by rw [ht]
      rw [List.getElem?_take, if_pos (by omega), List.getElem?_map, List.getElem?_eq_getElem hk] at h3
      rw [List.getElem?_eq_getElem hk]
      simpa using h3
    · unfold World.frozen?
      rw [hh]
      simp
theorem info64 : (Tryz.prog.info? 2).map (fun i => (i.zero, i.size, i.bytes)) = some (some (.int .i64 0), 1, 8) := by kernel_rfl
/-- What 'Twin' hands back. -/
def TwinP (w : World) (W H : Int) (l : List Int) (e : Ending) (w' : World) : Prop :=
  ∃ v, e = .returned (.agg #[.int .i64 W, .int .i64 H, v]) ∧ OwnI 2 w' w.heap.size v l ∧ Below w.heap.size w w'


set_option maxRecDepth 100000 in
set_option maxHeartbeats 1000000 in
theorem twin_ok (W H : Int) (A : Option Addr) (n c : Nat) (l : List Int) (w : World) (h : LimI w A n c l) (h9 : n ≤ 1000000000) :
    Calls Tryz.prog 8 #[.agg #[.int .i64 W, .int .i64 H, .slice A n c]] w (TwinP w W H l) := by
  have hmx : Tryz.prog.follows .mixedOrders = true := by kernel_rfl
  obtain ⟨i0, hi, hz0, hz1, hz2⟩ := info_parts info64
  obtain ⟨W0, hW0, hB0, ⟨q0, q1⟩, s0⟩ := alloc2 w 24 #[.int .i64 W, .int .i64 H, .slice A n c] 24 #[.int .i64 0, .int .i64 0, .slice none 0 0]
  have c0 := q0.cell 0
  have c1 := q0.cell 1
  have c2 := q0.cell 2
  simp at c0 c1 c2
  have hlen := hide h.len
  have hI := h.2.2.2.1
  have hR := hide (h.below hB0).reads
  go_enter Tryz.func8, Tryz.ntmps8
  go_wp2_with fail
  refine wp_held [9] (fun W' => W'.cell? ⟨w.heap.size, 0, none⟩ = some (.int .i64 W) ∧ W'.cell? ⟨w.heap.size, 1, none⟩ = some (.int .i64 H) ∧ W'.cell? ⟨w.heap.size, 2, none⟩ = some (.slice A n c)) hmx ⟨c0, c1, c2⟩ (fun _ => ?_)
  refine wpAnyL_take (i := 0) (v := ?v1) rfl (by kernel_rfl) (by kernel_rfl) (by kernel_rfl) (by kernel_rfl) (by kernel_rfl) (Or.inl ⟨by rfl, ?hy1⟩) ⟨c0, c1, c2⟩ ?rest1
  case hy1 => (intro W2 hSw; (try dsimp only at hSw); go_simp; try with_reducible rfl)
  try simp only [Act.put, List.setIfInBounds_toArray, List.set_cons_zero, List.set_cons_succ]
  refine wpAnyL_take (i := 1) (v := ?v2) rfl (by kernel_rfl) (by kernel_rfl) (by kernel_rfl) (by kernel_rfl) (by kernel_rfl) (Or.inl ⟨by rfl, ?hy2⟩) ⟨c0, c1, c2⟩ ?rest2
  case hy2 => (intro W2 hSw; (try dsimp only at hSw); go_simp; try with_reducible rfl)
  try simp only [Act.put, List.setIfInBounds_toArray, List.set_cons_zero, List.set_cons_succ]
  refine wpAnyL_take (i := 2) (v := ?v3) rfl (by kernel_rfl) (by kernel_rfl) (by kernel_rfl) (by kernel_rfl) (by kernel_rfl) (Or.inl ⟨by rfl, ?hy3⟩) ⟨c0, c1, c2⟩ ?rest3
  case hy3 => (intro W2 hSw; (try dsimp only at hSw); go_simp; try with_reducible rfl)
  try simp only [Act.put, List.setIfInBounds_toArray, List.set_cons_zero, List.set_cons_succ]
  refine wpAnyL_take (i := 3) (v := ?v4) rfl (by kernel_rfl) (by kernel_rfl) (by kernel_rfl) (by kernel_rfl) (by kernel_rfl) (Or.inl ⟨by rfl, ?hy4⟩) ⟨c0, c1, c2⟩ ?rest4
  case hy4 => (intro W2 hSw; (try dsimp only at hSw); go_simp; try with_reducible rfl)
  try simp only [Act.put, List.setIfInBounds_toArray, List.set_cons_zero, List.set_cons_succ]
  refine wpAnyL_take (i := 5) (v := ?v5) rfl (by kernel_rfl) (by kernel_rfl) (by kernel_rfl) (by kernel_rfl) (by kernel_rfl) (Or.inl ⟨by rfl, ?hy5⟩) ⟨c0, c1, c2⟩ ?rest5
  case hy5 => (intro W2 hSw; (try dsimp only at hSw); go_simp; try with_reducible rfl)
  try simp only [Act.put, List.setIfInBounds_toArray, List.set_cons_zero, List.set_cons_succ]
  refine wpAnyL_take (i := 6) (v := ?v6) rfl (by kernel_rfl) (by kernel_rfl) (by kernel_rfl) (by kernel_rfl) (by kernel_rfl) (Or.inl ⟨by rfl, ?hy6⟩) ⟨c0, c1, c2⟩ ?rest6
  case hy6 => (intro W2 hSw; (try dsimp only at hSw); go_simp; try with_reducible rfl)
  try simp only [Act.put, List.setIfInBounds_toArray, List.set_cons_zero, List.set_cons_succ]
  refine wpAnyL_one (i := 4) rfl (by kernel_rfl) (fun K hK => ?_)
  go_simp
  obtain ⟨W1, hW1, hB1, q2, hk1, hk2, s1⟩ := new_obj 2 #[] hB0 (show w.heap.size ≤ W0.heap.size by omega)
  have hown : W1.ownsRow w.heap.size 2 1 (.slice (some ⟨w.heap.size + 1 + 1, 0, none⟩) 0 0) 0 [] := by
    have := World.ownsRow_lit (base := w.heap.size) (e := 2) (size := 1) W0 #[] 0 (show w.heap.size ≤ W0.heap.size by omega) (Nat.zero_le _) (by simp)
    rw [← hW1]; rw [s0] at this; simpa using this
  have hR1 : Reads W1 W0.heap.size 1 A n (l.map intv) := by rw [← hW1]; exact hR.out.alloc (Nat.le_refl _) _
  have q1' := hk2 _ _ _ q1
  have q0' := hk2 _ _ _ q0
  have c0 := q0'.cell 0
  have c1 := q0'.cell 1
  have c2 := q0'.cell 2
  simp at c0 c1 c2
  replace s1 : W1.heap.size = w.heap.size + 1 + 1 + 1 := by rw [s1]; omega
  rw [hW1]
  refine hK.out _ _ (fun _ => ⟨c0, c1, c2⟩) ?_
  clear hK K
  try simp only [Act.put, List.setIfInBounds_toArray, List.set_cons_zero, List.set_cons_succ]
  refine wpAnyL_one (i := 7) rfl (by kernel_rfl) (fun K hK => ?_)
  refine wp_append_any W1.drew (.tmp 7) (.tmp 9) 22 rfl w.heap.size 2 i0 _ 1 8 Tryz.underlying22 hi hz0 hz1 hz2 rfl (by omega) (.slice (some ⟨w.heap.size + 1 + 1, 0, none⟩) 0 0) 0 [] rfl hown _ A n c (l.map intv) rfl hR1 (oneCell_ints _) (by simp only [maxLen]; omega) (by omega) (show w.heap.size ≤ W1.heap.size by omega) ?_
  intro v1 w1 hown1 hg1 hat1
  have hB2 : Below w.heap.size w w1 := (below_dn hB1 1).grown hg1 (show w.heap.size ≤ W1.heap.size by omega) (fun j hj => by have e : w.heap.size + 1 + 1 = j := (by injection hj); omega)
  have hOI : OwnI 2 w1 w.heap.size v1 ([] ++ l) := OwnI.append (l := []) rfl hlen.out.symm hown1 (by simp) hI
  rw [List.nil_append] at hOI
  obtain ⟨A2, c2', rfl, hL2⟩ := hOI.lim
  have hkeep : ∀ g' t' cs', g' < w.heap.size + 1 + 1 → Blk W1 g' t' cs' → Blk w1 g' t' cs' := fun g' t' cs' hg h => (hg1.block g' (show g' < W1.heap.size by omega) (by intro e; have e : g' = w.heap.size + 1 + 1 := (by injection e); omega)).trans h
  have q0'' := hkeep _ _ _ (by omega) q0'
  have q1'' := hkeep _ _ _ (by omega) q1'
  clear q0 q1 q0' q1' c0 c1 c2
  have c0 := q0''.cell 0
  have c1 := q0''.cell 1
  have c2 := q0''.cell 2
  simp at c0 c1 c2
  have d0 := q1''.cell 0
  have d1 := q1''.cell 1
  have d2 := q1''.cell 2
  simp at d0 d1 d2
  have f0 := q1''.frozen 0
  have f1 := q1''.frozen 1
  have f2 := q1''.frozen 2
  refine hK.out _ _ (fun _ => ⟨c0, c1, c2⟩) ?_
  clear hK K
  try simp only [Act.put, List.setIfInBounds_toArray, List.set_cons_zero, List.set_cons_succ]
  refine wpAnyL_take (i := 8) (v := ?v7) rfl (by kernel_rfl) (by kernel_rfl) (by kernel_rfl) (by kernel_rfl) (by kernel_rfl) (Or.inl ⟨by rfl, ?hy7⟩) ⟨c0, c1, c2⟩ ?rest7
  case hy7 => (intro W2 hSw; (try dsimp only at hSw); go_simp; try with_reducible rfl)
  try simp only [Act.put, List.setIfInBounds_toArray, List.set_cons_zero, List.set_cons_succ]
  obtain ⟨w9, hw9, hb9, q9, hst⟩ := set_all [.int .i64 W, .int .i64 H, .slice A2 l.length c2'] [.int .i64 0, .int .i64 0, .slice none 0 0] rfl rfl rfl hB2 (by omega) q1''
  simp only [World.setCells, Nat.reduceAdd, Nat.zero_add] at hw9
  refine wpAnyL_late (i := 9) rfl (by kernel_rfl) (by kernel_rfl) (fun K hK => ?_)
  go_simp
  (try rw [hw9])
  refine hK.out _ _ ?_
  clear hK K
  try simp only [Act.put, List.setIfInBounds_toArray, List.set_cons_zero, List.set_cons_succ]
  refine wpAnyL_done (by kernel_rfl) ?_ _
  refine OnlyNormal.normal ?_
  have r0 := q9.cell 0
  have r1 := q9.cell 1
  have r2 := q9.cell 2
  simp at r0 r1 r2
  go_wp2_with fail
  refine bodyPost_ret (v := .agg #[.int .i64 W, .int .i64 H, .slice A2 l.length c2']) (by simp [results, Tryz.results8, go_sem, r0, r1, r2]) rfl ?_
  refine ⟨_, rfl, OwnI.blk hOI (fun g hg hh => ?_), hb9⟩
  have hne : g ≠ w.heap.size + 1 := by
    rcases hat1 with e | e
    · rw [hh] at e; have e2 : g = w.heap.size + 1 + 1 := (by injection e); omega
    · rw [hh] at e; have e2 : g = W1.heap.size := (by injection e); omega
  rw [← hw9]
  exact ((Below.heap_setCell _ ⟨w.heap.size + 1, 2, none⟩ _ g hne).trans (Below.heap_setCell _ ⟨w.heap.size + 1, 1, none⟩ _ g hne)).trans (Below.heap_setCell _ ⟨w.heap.size + 1, 0, none⟩ _ g hne)
end Go.Proofs.YtkippclhbkjbmaaGreat

namespace Go.Proofs.YtkippclhbkjbmaaGreat
open Go.RowKit
attribute [local go_sem] add_lit

/-- A store of what is there already. -/
theorem set_same {w : World} {g : Nat} {t : TypeId} {v : Value} (h : Blk w g t #[v]) : w.setCell ⟨g, 0, none⟩ v = w := by
  unfold World.setCell
  have e : w.heap.modify g (fun
      | .cells c elem frozen => .cells (if (none : Option Nat).isSome then c else c.setIfInBounds 0 v) elem frozen
      | o => o) = w.heap := by
    apply Array.ext_getElem?
    intro i
    rw [Array.getElem?_modify]
    by_cases hi : g = i
    · subst hi
      unfold Blk at h
      simp [h]
    · simp [hi]
  exact congrArg (fun h => ({ w with heap := h } : World)) e

set_option maxRecDepth 100000 in
set_option maxHeartbeats 1000000 in
theorem keep_ok (gc : Nat) (t : TypeId) (na nb : Bool) (A B : Option Addr) (n c m d : Nat) (w : World) (hq : Blk w gc t #[.int .i64 0]) :
    Calls Tryz.prog 28 #[.pointer (some ⟨gc, 0, none⟩), .agg #[.bool na, .slice A n c, .bool nb, .slice B m d], .int .i64 0] w fun e w' => e = .returned (.agg #[.bool na, .slice A n c, .bool nb, .slice B m d]) ∧ Below w.heap.size w w' := by
  have hg : gc < w.heap.size := (Array.getElem?_eq_some_iff.1 hq).1
  obtain ⟨W0, hW0, hB, ⟨q0, q9⟩, s0⟩ := alloc2 w 32 #[.bool na, .slice A n c, .bool nb, .slice B m d] 32 #[.bool false, .slice none 0 0, .bool false, .slice none 0 0]
  replace hq := hq.below hB hg
  have c0 := hq.cell 0
  have f0 := hq.frozen 0
  simp at c0
  obtain ⟨a0, a1, a2, a3, -⟩ := q0.four
  obtain ⟨r0, r1, r2, r3, z0, z1, z2, z3⟩ := q9.four
  go_enter Tryz.func28, Tryz.ntmps28
  go_wp2_with fail
  try rw [set_same hq]
  try simp only [set_same hq]
  go_wp2_with fail
  obtain ⟨V, hV, hB2, q9', -⟩ := set_frac na A n c nb B m d hB (by omega) q9
  (try rw [hV])
  (try simp only [hV])
  obtain ⟨r0, r1, r2, r3, -⟩ := q9'.four
  refine bodyPost_ret (v := .agg #[.bool na, .slice A n c, .bool nb, .slice B m d]) (by simp [results, Tryz.results28, go_sem, r0, r1, r2, r3]) rfl ?_
  exact ⟨rfl, hB2⟩

set_option maxRecDepth 100000 in
set_option maxHeartbeats 1000000 in
theorem column_ok (W H : Int) (A : Option Addr) (n c : Nat) (B : Option Addr) (m d : Nat) (i : Int) (w : World) (h0 : 0 ≤ i) (hi : i ≤ 1000000000) (h1 : 1 ≤ W) (h2 : W ≤ 100) :
    Calls Tryz.prog 26 #[.agg #[.int .i64 W, .int .i64 H, .slice A n c, .slice B m d], .int .i64 i] w fun e w' => e = .returned (.int .i64 (colv W i)) ∧ Below w.heap.size w w' := by
  obtain ⟨W0, hW0, hB, q0, s0⟩ := alloc1 w 64 #[.int .i64 W, .int .i64 H, .slice A n c, .slice B m d]
  have c0 := q0.cell 0
  simp at c0
  have hz : (W == 0) = false := by simp; omega
  have hW : ¬ W = 0 := by omega
  go_enter Tryz.func26, Tryz.ntmps26
  go_wp2_with fail
  go_ret
  exact ⟨rfl, hB⟩

set_option maxRecDepth 100000 in
set_option maxHeartbeats 1000000 in
theorem row_ok (W H : Int) (A : Option Addr) (n c : Nat) (B : Option Addr) (m d : Nat) (i : Int) (w : World) (h0 : 0 ≤ i) (hi : i ≤ 1000000000) (h1 : 1 ≤ W) (h2 : W ≤ 100) :
    Calls Tryz.prog 27 #[.agg #[.int .i64 W, .int .i64 H, .slice A n c, .slice B m d], .int .i64 i] w fun e w' => e = .returned (.int .i64 (rowv W i)) ∧ Below w.heap.size w w' := by
  obtain ⟨W0, hW0, hB, q0, s0⟩ := alloc1 w 64 #[.int .i64 W, .int .i64 H, .slice A n c, .slice B m d]
  have c0 := q0.cell 0
  simp at c0
  have hz : (W == 0) = false := by simp; omega
  have hW : ¬ W = 0 := by omega
  have hq0 : 0 ≤ i / W := Int.ediv_nonneg h0 (by omega)
  have hq1 : i / W ≤ i := Int.ediv_le_self _ h0
  have hwr : wrap64 (i / W) = i / W := by unfold wrap64; omega
  go_enter Tryz.func27, Tryz.ntmps27
  go_wp2_with fail
  go_ret
  exact ⟨rfl, hB⟩

def plc (row : Bool) (W i : Int) : Int := if row then rowv W i else colv W i

set_option maxRecDepth 100000 in
set_option maxHeartbeats 1000000 in
theorem place_ok (W H : Int) (A : Option Addr) (n c : Nat) (i : Int) (row : Bool) (w : World) (h0 : 0 ≤ i) (hi : i ≤ 1000000000) (h1 : 1 ≤ W) (h2 : W ≤ 100) :
    Calls Tryz.prog 43 #[.agg #[.int .i64 W, .int .i64 H, .slice A n c], .int .i64 i, .bool row] w fun e w' => e = .returned (.int .i64 (plc row W i)) ∧ Below w.heap.size w w' := by
  obtain ⟨W0, hW0, hB, q0, s0⟩ := alloc1 w 24 #[.int .i64 W, .int .i64 H, .slice A n c]
  have c0 := q0.cell 0
  simp at c0
  have hz : (W == 0) = false := by simp; omega
  have hW : ¬ W = 0 := by omega
  have hq0 : 0 ≤ i / W := Int.ediv_nonneg h0 (by omega)
  have hq1 : i / W ≤ i := Int.ediv_le_self _ h0
  have hwr : wrap64 (i / W) = i / W := by unfold wrap64; omega
  go_enter Tryz.func43, Tryz.ntmps43
  cases row
  · go_wp2_with fail
    go_ret
    exact ⟨rfl, hB⟩
  · go_wp2_with fail
    go_ret
    exact ⟨rfl, hB⟩

/-- Pixels of a list lie in the field, and are small. -/
def Rng (ps l : List Int) (n m : Nat) : Prop := ∀ k, k < m → 0 ≤ l[k]?.getD 0 ∧ l[k]?.getD 0 < n ∧ -8589934592 ≤ pix ps (l[k]?.getD 0) ∧ pix ps (l[k]?.getD 0) ≤ 8589934592
theorem Rng.sum {ps l : List Int} {n m k : Nat} (h : Rng ps l n m) (hk : k ≤ m) : -(8589934592 * (k : Int)) ≤ sumK (pix ps) l k ∧ sumK (pix ps) l k ≤ 8589934592 * (k : Int) := by
  induction k with
  | zero => simp [sumK]
  | succ k ih =>
    have h1 := ih (by omega)
    have h2 := h k (by omega)
    simp only [sumK]
    omega

set_option maxRecDepth 100000 in
set_option maxHeartbeats 2000000 in
theorem sum_ok (W H : Int) (A : Option Addr) (n c : Nat) (B : Option Addr) (m d : Nat) (ps l : List Int) (w : World) (hp : LimI w A n c ps) (hl : LimI w B m d l) (h9 : n ≤ 1000000000) (h8 : m ≤ 1000) (hr : Rng ps l n m) :
    Calls Tryz.prog 34 #[.agg #[.int .i64 W, .int .i64 H, .slice A n c], .slice B m d] w fun e w' => e = .returned (.int .i64 (sumK (pix ps) l m)) ∧ Below w.heap.size w w' := by
  obtain ⟨W0, hW0, hB, q0, s0⟩ := alloc1 w 24 #[.int .i64 W, .int .i64 H, .slice A n c]
  have c2 := q0.cell 2
  simp at c2
  replace hp := hide (hp.below hB)
  replace hl := hide (hl.below hB)
  go_enter Tryz.func34, Tryz.ntmps34
  go_wp2_with fail
  clear hW0
  go_loopw [5, 6] (fun s i wr => ∃ k : Nat, k ≤ m ∧ i = .int .i64 k ∧ s = .int .i64 (sumK (pix ps) l k) ∧ ∃ m0, wr = W0.drewN m0) (fun _ i _ => m - (intOf i).toNat)
  case atStart => exact ⟨0, by omega, rfl, rfl, 0, rfl⟩
  case round =>
    obtain ⟨k, h1, rfl, rfl, m0, rfl⟩ := hrel
    by_cases hk : k < m
    case neg =>
      obtain rfl : k = m := by omega
      have htk : decide ((k : Int) < (k : Int)) = false := by simp
      go_wp2_with fail
      go_ret
      exact ⟨rfl, by first | exact hB | exact below_dn hB _⟩
    have htk : decide ((k : Int) < (m : Int)) = true := by simp; omega
    obtain ⟨g, o, rfl, hc⟩ := hl.out.2.2.2.2 (by omega)
    have hck := hc k hk
    clear hc
    have hS : sumK (pix ps) l (k + 1) = sumK (pix ps) l k + pix ps (l[k]?.getD 0) := rfl
    have hb1 := hr.sum (k := k) (by omega)
    have hx4 := hr k hk
    obtain ⟨g', o', rfl, hc'⟩ := hp.out.2.2.2.2 (by omega)
    obtain ⟨j, hj⟩ : ∃ j : Nat, l[k]?.getD 0 = j := ⟨(l[k]?.getD 0).toNat, by omega⟩
    have hcj := hc' j (by omega)
    have hpj : pix ps (j : Int) = ps[j]?.getD 0 := by simp [pix]
    rw [hj] at hck hS hx4
    rw [← hpj] at hcj
    have hjn : j < n := by omega
    generalize pix ps (j : Int) = x at *
    have hadd : wrap64 (sumK (pix ps) l k + x) = sumK (pix ps) l (k + 1) := by rw [hS]; unfold wrap64; omega
    replace hS := hide hS
    replace hb1 := hide hb1
    replace hx4 := hide hx4
    replace hj := hide hj
    replace hr := hide hr
    clear hc' hpj
    go_wp2_with fail
    go_quiet (fail)
    go_wp2_with fail
    go_round
    case rel => exact ⟨k + 1, by omega, by go_num, by rw [hadd], _, (by first | rfl | exact World.drewN_drewN _ _ _)⟩
    case measure => simp [intOf]; omega
end Go.Proofs.YtkippclhbkjbmaaGreat
