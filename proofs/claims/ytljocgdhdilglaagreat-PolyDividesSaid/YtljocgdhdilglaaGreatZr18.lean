/- Appends onto a row of whole numbers of the call's own. Package poly: Mul, Deriv. The reference of layer 4: Check, both, at. -/
import Derived.Test.YtljocgdhdilglaaGreatZr14
import Derived.Test.YtljocgdhdilglaaGreatZr13
import Derived.Test.YtljocgdhdilglaaGreatZr17
import Derived.Test.YtljocgdhdilglaaGreatZr11
import Derived.Test.YtljocgdhdilglaaGreatZr12
import Derived.Test.YtljocgdhdilglaaGreatZr10
set_option linter.unusedSimpArgs false
set_option linter.unusedVariables false

namespace Go.Proofs.YtljocgdhdilglaaGreat
open Go.RowKit

theorem cellsL_append (es fs : List WE) : cellsL (es ++ fs) = cellsL es ++ cellsL fs := by
  induction es with
  | nil => rfl
  | cons e l ih => simp only [List.cons_append, cellsL, ih]
theorem cellsL_one (fs : List WE) : ∀ u ∈ cellsL fs, u.oneCell' = true := by
  induction fs with
  | nil => intro u h; simp [cellsL] at h
  | cons e l ih =>
    intro u h
    simp only [cellsL, List.mem_cons] at h
    rcases h with rfl | rfl | h
    · rfl
    · rfl
    · exact ih u h
theorem zeroCells_num (k : Nat) : (Builtin.zeroCells #[.bool false, .slice none 0 0] k).toList = cellsL (List.replicate k zeroWE) := by
  rw [cellsL_zero]
  unfold Builtin.zeroCells madeCells
  apply List.ext_getElem?
  intro i
  by_cases h : i < k * 2
  · simp [h]
  · simp [h]

/-- The slice value v owns, from block base on, the numbers es; behind them lie zeros. -/
def RowW (t : TypeId) (w : World) (base : Nat) (v : Value) (es : List WE) : Prop :=
  (v = .slice none 0 0 ∧ es = []) ∨ ∃ g sp, v = .slice (some ⟨g, 0, none⟩) es.length (es.length + sp) ∧ base ≤ g ∧ es.length + sp ≤ maxLen ∧ Blk w g t (cellsW (es ++ List.replicate sp zeroWE))

section
variable {t : TypeId} {w w' : World} {base : Nat} {v : Value} {es : List WE}
theorem RowW.own (h : RowW t w base v es) : w.ownsRow base t 2 v es.length (cellsL es) := by
  refine ⟨cellsL_length es, ?_⟩
  rcases h with ⟨h1, rfl⟩ | ⟨g, sp, h1, h2, h3, h4⟩
  · exact .inl ⟨h1, rfl⟩
  · refine .inr ⟨g, _, _, h1, h2, h4, Nat.le_add_right _ _, h3, ?_, ?_⟩
    · simp [cellsW, cellsL_length]
    · simp only [cellsW]
      rw [cellsL_append, ← cellsL_length es]
      exact List.take_left
theorem RowW.row_ge (h : RowW t w base v es) : ∀ k, v.ownBlock = some k → base ≤ k := fun k hk => (h.own.lt k hk).1
theorem RowW.kept (h : RowW t w base v es) (hb : Below w.heap.size w w') : RowW t w' base v es := by
  rcases h with h | ⟨g, sp, h1, h2, h3, h4⟩
  · exact .inl h
  · exact .inr ⟨g, sp, h1, h2, h3, keep_blk hb h4⟩
/-- Limbs stay as they are where the row grows. -/
theorem RowW.keep (h : RowW t w base v es) (hg : w.grownBy w' v.ownBlock) {A : Option Addr} {n c : Nat} {l : List Nat} (hL : Lim w A n c l) : Lim w' A n c l := by
  refine ⟨hL.1, hL.2.1, hL.2.2.1, hL.2.2.2.1, fun hn => ?_⟩
  obtain ⟨b, o, e, hc⟩ := hL.2.2.2.2 hn
  refine ⟨b, o, e, fun k hk => ?_⟩
  rw [← hc k hk]
  refine World.cell?_of_block (hg.block b (lt_of_cell (hc k hk)) (fun e' => ?_))
  rcases h with ⟨rfl, _⟩ | ⟨g, sp, rfl, _, _, h4⟩
  · cases e'
  · have hbg : b = g := by simpa [Value.ownBlock] using e'
    subst hbg
    have h1 := hc k hk
    rw [h4.cell] at h1
    exact cellsW_noLimb _ _ _ h1
end

section
variable {P : Program} (w : World)

/-- An append of numbers onto a row of the call's own. -/
theorem run_append_num (base : Nat) (t ty e : TypeId) (i : TypeInfo) (ht : P.underlying t = some (.slice e)) (hi : P.info? e = some i) (hz : i.zero = some (.agg #[.bool false, .slice none 0 0]))
    (hs : i.size = 2) (hby : i.bytes = 32) (v : Value) (es : List WE) (hown : RowW e w base v es)
    (B : Nat) (A : Option Addr) (m c : Nat) (fs : List WE) (hr : Reads w B 2 A m (cellsL fs)) (hm : fs.length = m) (h63 : es.length + m ≤ 1000) (hbase : base ≤ w.heap.size) :
    ∃ v' w', (Builtin.append_ #[t, t] ty #[v, .slice A m c]).run P w = .ok v' w' ∧ RowW e w' base v' (es ++ fs) ∧ w.grownBy w' v.ownBlock := by
  rcases Nat.eq_zero_or_pos m with h0 | h0
  · subst h0
    obtain rfl : fs = [] := List.eq_nil_of_length_eq_zero hm
    rw [List.append_nil]
    rcases A with _ | ad
    · exact ⟨v, w, run_append_of_nil w base t ty e i 2 ht hi v _ _ hown.own c, hown, World.grownBy.refl w _⟩
    · have hf := run_firstCells_some (P := P) w i.size 0 ad 0 c [] (by simp) (by simp)
      rcases hown with ⟨rfl, rfl⟩ | ⟨g, sp, rfl, h2, h3, h4⟩
      · refine ⟨.slice none 0 0, w, ?_, .inl ⟨rfl, rfl⟩, World.grownBy.refl w _⟩
        simp [Builtin.append_, run_underlying ht, sizeOf, typeInfo, hi, Builtin.lenOf, Builtin.firstCells, loadCells, loadCellsFrom]
      · refine ⟨_, w, ?_, .inr ⟨g, sp, rfl, h2, h3, h4⟩, World.grownBy.refl w _⟩
        simp [Builtin.append_, run_underlying ht, sizeOf, typeInfo, hi, Builtin.lenOf, Builtin.firstCells, loadCells, loadCellsFrom, storeCells]
  · obtain ⟨ad, rfl, _, hc⟩ := hr.2 h0
    have hl : (cellsL fs).length = m * i.size := by rw [cellsL_length, hm, hs]
    have hle : es.length * i.size = (cellsL es).length := by rw [cellsL_length, hs]
    rcases hown with ⟨rfl, rfl⟩ | ⟨g, sp, rfl, h2, h3, h4⟩
    · have hrun := run_append_nil (P := P) w t ty e i _ ht hi hz ad m c (cellsL fs) hl hc h0 (by omega) (by rw [hby]; omega)
      have hge := grownCap_ge w m 0 e
      have hcm := grownCap_le_maxLen w m 0 e (by unfold maxLen; simp only [List.length_nil] at h63; omega)
      refine ⟨_, _, hrun, .inr ⟨w.heap.size, grownCap w m 0 e - m, ?_, hbase, ?_, ?_⟩, ⟨rfl, rfl, rfl, by simp, fun k hk _ => Below.heap_alloc w.drew _ k hk⟩⟩
      · rw [List.nil_append, hm, Nat.add_sub_cancel' hge]
      · rw [List.nil_append, hm, Nat.add_sub_cancel' hge]; exact hcm
      · have := heap_alloc_new w.drew (.cells ((cellsL fs).toArray ++ Builtin.zeroCells (Value.agg #[.bool false, .slice none 0 0]).cells (grownCap w m 0 e - m)) e)
        unfold Blk
        refine this.trans ?_
        congr 1
        have hx : (cellsL fs).toArray ++ Builtin.zeroCells (Value.agg #[.bool false, .slice none 0 0]).cells (grownCap w m 0 e - m) = cellsW ([] ++ fs ++ List.replicate (grownCap w m 0 e - m) zeroWE) := by
          apply Array.toList_inj.1
          rw [Array.toList_append, show (Value.agg #[.bool false, .slice none 0 0]).cells = #[.bool false, .slice none 0 0] from rfl, zeroCells_num]
          simp [cellsW, cellsL_append]
        rw [hx]
    · by_cases hroom : m ≤ sp
      · have hrun := run_append_room (P := P) w t ty e i ht hi g es.length (es.length + sp) _ h4 ad m c (cellsL fs) hl hc (cellsL_one fs) (by omega) (by rw [hle, cellsL_length, cellsL_length]; simp [cellsW, cellsL_length]; omega)
        refine ⟨_, _, hrun, .inr ⟨g, sp - m, ?_, h2, ?_, ?_⟩, ⟨rfl, rfl, rfl, by simp [World.setRow], fun k _ hk => setRow_other w g k _ (fun e' => hk (by simp [Value.ownBlock, e']))⟩⟩
        · rw [List.length_append, hm, show es.length + m + (sp - m) = es.length + sp by omega]
        · rw [List.length_append, hm]; omega
        · refine (setRow_heap w g _ _ e _ h4).trans ?_
          congr 2
          unfold cellsW
          congr 1
          rw [hle]
          have hrep : List.replicate sp zeroWE = List.replicate m zeroWE ++ List.replicate (sp - m) zeroWE := by rw [List.replicate_append_replicate]; congr 1; omega
          have hlm : (cellsL fs).length = (cellsL (List.replicate m zeroWE)).length := by rw [cellsL_length, cellsL_length, hm, List.length_replicate]
          simp only [cellsL_append]
          rw [List.take_left, hlm, ← List.length_append, hrep, cellsL_append, ← List.append_assoc (cellsL es), List.drop_left, List.append_assoc]
      · have holds : ∀ j u, (cellsL es)[j]? = some u → w.cell? ((⟨g, 0, none⟩ : Addr).add j) = some u := fun j u hu => by
          rw [add_lit, Nat.zero_add, h4.cell]
          simp only [cellsW, List.getElem?_toArray, cellsL_append]
          rw [List.getElem?_append_left (by rw [List.getElem?_eq_some_iff] at hu; exact hu.1)]; exact hu
        have hrun := run_append_grow (P := P) w t ty e i _ ht hi hz ⟨g, 0, none⟩ es.length (es.length + sp) (cellsL es) hle.symm holds ad m c (cellsL fs) hl hc (by omega) (by omega) (growslice_fits (by omega) (by rw [hby]; omega))
        have hge := grownCap_ge w (es.length + m) (es.length + sp) e
        have hcm := grownCap_le_maxLen w (es.length + m) (es.length + sp) e (by unfold maxLen; omega)
        refine ⟨_, _, hrun, .inr ⟨w.heap.size, grownCap w (es.length + m) (es.length + sp) e - (es.length + m), ?_, hbase, ?_, ?_⟩, ⟨rfl, rfl, rfl, by simp, fun k hk _ => Below.heap_alloc w.drew _ k hk⟩⟩
        · rw [List.length_append, hm, Nat.add_sub_cancel' hge]
        · rw [List.length_append, hm, Nat.add_sub_cancel' hge]; exact hcm
        · have := heap_alloc_new w.drew (.cells ((cellsL es).toArray ++ (cellsL fs).toArray ++ Builtin.zeroCells (Value.agg #[.bool false, .slice none 0 0]).cells (grownCap w (es.length + m) (es.length + sp) e - (es.length + m))) e)
          unfold Blk
          refine this.trans ?_
          congr 1
          have hx : (cellsL es).toArray ++ (cellsL fs).toArray ++ Builtin.zeroCells (Value.agg #[.bool false, .slice none 0 0]).cells (grownCap w (es.length + m) (es.length + sp) e - (es.length + m)) = cellsW (es ++ fs ++ List.replicate (grownCap w (es.length + m) (es.length + sp) e - (es.length + m)) zeroWE) := by
            apply Array.toList_inj.1
            rw [Array.toList_append, Array.toList_append, show (Value.agg #[.bool false, .slice none 0 0]).cells = #[.bool false, .slice none 0 0] from rfl, zeroCells_num]
            simp [cellsW, cellsL_append]
          rw [hx]
end

/-- The slice value v owns, from block base on, valid numbers worth xs. -/
def OwnP (t : TypeId) (w : World) (base : Nat) (v : Value) (xs : List Int) : Prop := ∃ es, RowW t w base v es ∧ (∀ e ∈ es, Lim w e.A e.n e.c e.l ∧ e.ok = true) ∧ es.map WE.num = xs
section
variable {t : TypeId} {w w' : World} {base : Nat} {v : Value} {xs : List Int}
theorem OwnP.nil (t : TypeId) (w : World) (base : Nat) : OwnP t w base (.slice none 0 0) [] := ⟨[], .inl ⟨rfl, rfl⟩, fun e h => by simp at h, rfl⟩
theorem OwnP.kept (h : OwnP t w base v xs) (hb : Below w.heap.size w w') : OwnP t w' base v xs := by
  obtain ⟨es, h1, h2, h3⟩ := h
  exact ⟨es, h1.kept hb, fun e he => ⟨(h2 e he).1.below hb, (h2 e he).2⟩, h3⟩
theorem OwnP.alloc (h : OwnP t w base v xs) (o : Obj) : OwnP t (w.alloc o) base v xs := h.kept ((Below.refl _ _).alloc (Nat.le_refl _) _)
theorem OwnP.row_ge (h : OwnP t w base v xs) : ∀ k, v.ownBlock = some k → base ≤ k := by obtain ⟨es, h1, _⟩ := h; exact h1.row_ge
theorem OwnP.poly (h : OwnP t w base v xs) : ∃ A c, v = .slice A xs.length c ∧ PolyL w A xs.length c xs := by
  obtain ⟨es, h1, h2, rfl⟩ := h
  rcases h1 with ⟨rfl, rfl⟩ | ⟨g, sp, rfl, h4, h5, h6⟩
  · exact ⟨none, 0, rfl, [], ⟨rfl, Nat.le_refl _, Nat.zero_le _, fun h => absurd h (by simp), fun e h => by simp at h⟩, rfl, fun e h => by simp at h⟩
  · rw [List.length_map]
    refine ⟨_, es.length + sp, rfl, es, ⟨rfl, Nat.le_add_right _ _, h5, fun _ => ⟨g, 0, rfl, fun k e he => ?_⟩, fun e he => (h2 e he).1⟩, rfl, fun e he => (h2 e he).2⟩
    have hk : k < es.length := (List.getElem?_eq_some_iff.1 he).1
    have hc := cellsW_get (es := es ++ List.replicate sp zeroWE) (i := k) (e := e) (by rw [List.getElem?_append_left hk]; exact he)
    rw [Nat.zero_add, h6.cell, h6.cell]
    exact hc
theorem noLimb_box (b : Bool) (A : Option Addr) (n c : Nat) : NoLimb #[.bool b, .slice A n c] := fun i x => by
  match i with
  | 0 => simp
  | 1 => simp
  | i + 2 => simp
theorem Wd.of_keep {neg : Bool} {A : Option Addr} {n c : Nat} {z : Int} (hk : ∀ (A : Option Addr) (n c : Nat) (l : List Nat), Lim w A n c l → Lim w' A n c l) (h : Wd w neg A n c z) : Wd w' neg A n c z := ⟨h.1, h.2.1, hk _ _ _ _ h.2.2⟩
end
theorem OwnP.snoc {t : TypeId} {w : World} {base : Nat} {v : Value} {xs : List Int} {neg : Bool} {A : Option Addr} {n c : Nat} {z : Int} {W : World} (h : OwnP t w base v (xs ++ [⟨neg, A, n, c, digits z.natAbs⟩].map WE.num)) (hW : Wd W neg A n c z) : OwnP t w base v (xs ++ [z]) := by
  rw [List.map_cons, List.map_nil, show WE.num ⟨neg, A, n, c, digits z.natAbs⟩ = z from hW.sgEq] at h
  exact h

/-- A number in a variable of the call's own, behind its making. -/
theorem done_new (t : TypeId) {B : Nat} {w0 w : World} {neg : Bool} {A : Option Addr} {n c : Nat} {z : Int} (hB : Below B w0 w) (hs : B ≤ w.heap.size) (hW : Wd w neg A n c z) :
    ∃ W, w.alloc (.cells #[.bool neg, .slice A n c] t) = W ∧ Below B w0 W ∧ Hid (Blk W w.heap.size t #[.bool neg, .slice A n c]) ∧ Wd W neg A n c z :=
  ⟨_, rfl, hB.alloc hs _, Blk.new _ _ _, hW.alloc _⟩
/-- A number in a variable of the call's own, behind a store. -/
theorem done_set {t : TypeId} {B : Nat} {w0 w : World} {g : Nat} {b0 : Bool} {A0 : Option Addr} {n0 c0 : Nat} {neg : Bool} {A : Option Addr} {n c : Nat} {z : Int} (hB : Below B w0 w) (hs : B ≤ g) (hb : Blk w g t #[.bool b0, .slice A0 n0 c0]) (hW : Wd w neg A n c z) :
    ∃ W, (w.setCell ⟨g, 0, none⟩ (.bool neg)).setCell ⟨g, 1, none⟩ (.slice A n c) = W ∧ Below B w0 W ∧ Hid (Blk W g t #[.bool neg, .slice A n c]) ∧ Wd W neg A n c z := by
  have hb1 : Blk (w.setCell ⟨g, 0, none⟩ (.bool neg)) g t #[.bool neg, .slice A0 n0 c0] := hb.set_ 0 (.bool neg)
  have hb2 : Blk ((w.setCell ⟨g, 0, none⟩ (.bool neg)).setCell ⟨g, 1, none⟩ (.slice A n c)) g t #[.bool neg, .slice A n c] := hb1.set_ 1 (.slice A n c)
  refine ⟨_, rfl, (hB.setCell (p := ⟨g, 0, none⟩) hs _).setCell (p := ⟨g, 1, none⟩) hs _, hb2, hW.1, hW.2.1, ?_⟩
  exact (hW.2.2.set_box hb (noLimb_box _ _ _ _) _ _).set_box hb1 (noLimb_box _ _ _ _) _ _

/-- What an append of one number needs: it lies in a block of its own. -/
theorem reads_num (w : World) (neg : Bool) (A : Option Addr) (n c : Nat) (l : List Nat) (t : TypeId) : Reads (w.alloc (.cells #[.bool neg, .slice A n c] t)) (w.heap.size + 1) 2 (some ⟨w.heap.size, 0, none⟩) 1 (cellsL [⟨neg, A, n, c, l⟩]) :=
  ⟨rfl, fun _ => ⟨_, rfl, Nat.lt_succ_self _, fun j u hu => by
    rw [add_lit, Nat.zero_add, (Blk.new w t #[.bool neg, .slice A n c]).cell]
    simpa [cellsL] using hu⟩⟩
theorem reads_num2 (w : World) (o : Obj) (neg : Bool) (A : Option Addr) (n c : Nat) (l : List Nat) (t : TypeId) : Reads ((w.alloc o).alloc (.cells #[.bool neg, .slice A n c] t)) (w.heap.size + 2) 2 (some ⟨w.heap.size + 1, 0, none⟩) 1 (cellsL [⟨neg, A, n, c, l⟩]) := by
  have := reads_num (w.alloc o) neg A n c l t
  rwa [World.size_alloc] at this

section
variable {P : Program} (w : World)
theorem wp_append_num {o : Oper} {a : Act} {K : Act → World → Prop} {Q : Exit → Act → World → Prop} (s x : Operand) (t : TypeId)
    (ho : o.op = .call { callee := .builtin .append, args := #[s, x], argTypes := #[t, t] })
    (base : Nat) (e : TypeId) (i : TypeInfo) (ht : P.underlying t = some (.slice e)) (hi : P.info? e = some i) (hz : i.zero = some (.agg #[.bool false, .slice none 0 0])) (hsi : i.size = 2) (hby : i.bytes = 32)
    (v : Value) (xs : List Int) (hs : a.eval s = v) (hown : OwnP e w base v xs)
    (B : Nat) (A : Option Addr) (m c : Nat) (fs : List WE) (hx : a.eval x = .slice A m c) (hr : Reads w B 2 A m (cellsL fs)) (hm : fs.length = m) (hfs : ∀ e ∈ fs, Lim w e.A e.n e.c e.l ∧ e.ok = true)
    (h63 : xs.length + m ≤ 1000) (hbase : base ≤ w.heap.size)
    (h : ∀ v' w', OwnP e w' base v' (xs ++ fs.map WE.num) → w.grownBy w' v.ownBlock → (∀ (A : Option Addr) (n c : Nat) (l : List Nat), Lim w A n c l → Lim w' A n c l) → K (a.put o.dst v') w') : o.wp P a w K Q := by
  obtain ⟨es, h1, h2, rfl⟩ := hown
  rw [List.length_map] at h63
  obtain ⟨v', w', hrun, h3, h4⟩ := run_append_num (P := P) w base t o.type e i ht hi hz hsi hby v es h1 B A m c fs hr hm h63 hbase
  unfold Oper.wp execOp
  simp only [ho, resolve, invoke, builtin, Sem.run_bind, Sem.run_pure, Result.andThen_ok, List.map_toArray, List.map_cons, List.map_nil, hs, hx, hrun]
  have hk : ∀ (A : Option Addr) (n c : Nat) (l : List Nat), Lim w A n c l → Lim w' A n c l := fun _ _ _ _ hL => h1.keep h4 hL
  refine h v' w' ⟨es ++ fs, h3, fun e he => ?_, by rw [List.map_append]⟩ h4 hk
  rcases List.mem_append.1 he with he | he
  · exact ⟨hk _ _ _ _ (h2 e he).1, (h2 e he).2⟩
  · exact ⟨hk _ _ _ _ (hfs e he).1, (hfs e he).2⟩
theorem wpList_append_num {ops : Array Oper} {rest : List Oper} {o : Oper} {a : Act} {Q : Exit → Act → World → Prop} (hgd : o.guard = none) (s x : Operand) (t : TypeId)
    (ho : o.op = .call { callee := .builtin .append, args := #[s, x], argTypes := #[t, t] })
    (base : Nat) (e : TypeId) (i : TypeInfo) (ht : P.underlying t = some (.slice e)) (hi : P.info? e = some i) (hz : i.zero = some (.agg #[.bool false, .slice none 0 0])) (hsi : i.size = 2) (hby : i.bytes = 32)
    (v : Value) (xs : List Int) (hs : a.eval s = v) (hown : OwnP e w base v xs)
    (B : Nat) (A : Option Addr) (m c : Nat) (fs : List WE) (hx : a.eval x = .slice A m c) (hr : Reads w B 2 A m (cellsL fs)) (hm : fs.length = m) (hfs : ∀ e ∈ fs, Lim w e.A e.n e.c e.l ∧ e.ok = true)
    (h63 : xs.length + m ≤ 1000) (hbase : base ≤ w.heap.size)
    (h : ∀ v' w', OwnP e w' base v' (xs ++ fs.map WE.num) → w.grownBy w' v.ownBlock → (∀ (A : Option Addr) (n c : Nat) (l : List Nat), Lim w A n c l → Lim w' A n c l) → wpList P ops Q rest (a.put o.dst v') w') : wpList P ops Q (o :: rest) a w :=
  wpList_plain hgd fun _ hK => wp_append_num w s x t ho base e i ht hi hz hsi hby v xs hs hown B A m c fs hx hr hm hfs h63 hbase fun v' w' h2 h3 h4 => hK _ _ (h v' w' h2 h3 h4)
end
end Go.Proofs.YtljocgdhdilglaaGreat

namespace Go.Proofs.YtljocgdhdilglaaGreat
open Go.RowKit
attribute [local go_sem] add_lit

theorem derP_step (xs : List Int) {i : Nat} (h : 0 < i) : (List.range (i - 1)).map (fun j => xs[j + 1]?.getD 0 * ((j + 1 : Nat) : Int)) ++ [xs[i]?.getD 0 * (i : Int)] = (List.range (i + 1 - 1)).map (fun j => xs[j + 1]?.getD 0 * ((j + 1 : Nat) : Int)) := by
  obtain ⟨k, rfl⟩ : ∃ k, i = k + 1 := ⟨i - 1, by omega⟩
  rw [show k + 1 + 1 - 1 = k + 1 by omega, show k + 1 - 1 = k by omega, List.range_succ, List.map_append]
  rfl

set_option maxRecDepth 100000 in
set_option maxHeartbeats 1000000 in
theorem pMul_ok (A B : Option Addr) (n c m d : Nat) (ps qs : List WE) (w : World) (hp : WL w A n c ps) (hq : WL w B m d qs) (kp : pOk ps = true) (kq : pOk qs = true) :
    Calls Tryz.prog 18 #[.slice A n c, .slice B m d] w (ResPoly w (mulP (ps.map WE.num) (qs.map WE.num))) := by
  have i0 : ∀ W, (Instr.index 71 (.agg #[.slice A n c, .slice B m d]) (.int .i64 0)).run Tryz.prog W = .ok (.slice A n c) W := fun _ => by kernel_rfl
  have i1 : ∀ W, (Instr.index 71 (.agg #[.slice A n c, .slice B m d]) (.int .i64 1)).run Tryz.prog W = .ok (.slice B m d) W := fun _ => by kernel_rfl
  have hT := fun W hp hq => hide (ptimes_any A B n c m d ps qs W hp hq kp kq)
  replace kp : Hid (errOf (pOk ps) = 0) := by unfold Hid; rw [kp]; rfl
  replace kq : Hid (errOf (pOk qs) = 0) := by unfold Hid; rw [kq]; rfl
  go_enter Tryz.func18, Tryz.ntmps18
  go_wp2_with fail
  refine wp_loop_rounds 3 ?_
  rw [rounds_succ]
  go_wp2_with fail
  refine (pCheck_any _ _ _ _ _ hp).mono ?_
  rintro e w1 ⟨he1, hb1⟩
  rw [kp.out] at he1
  subst he1
  go_wp2_with fail
  rw [rounds_succ]
  go_wp2_with fail
  refine (pCheck_any _ _ _ _ _ (hq.below hb1)).mono ?_
  rintro e w2 ⟨he2, hb2⟩
  rw [kq.out] at he2
  subst he2
  have hB2 : Below w.heap.size w w2 := hb1.trans (hb2.mono hb1.size)
  go_wp2_with fail
  rw [rounds_succ]
  go_wp2_with fail
  refine (hT w2 (hp.below hB2) (hq.below hB2)).out.mono ?_
  rintro e w3 ⟨A3, n3, c3, rfl, hP3, hb3⟩
  have hB3 := hB2.trans (hb3.mono hB2.size)
  clear hT
  go_wp2_with fail
  refine (pmade_any _ _ _ _ _ hP3).mono ?_
  rintro e w4 ⟨hb4, A4, n4, c4, code4, rfl, hR4⟩
  rw [trimP_idem] at hR4
  replace hR4 := hide hR4
  go_wp2_with fail
  go_returns
  exact ⟨hB3.trans (hb4.mono hB3.size), A4, n4, c4, code4, rfl, hR4.out⟩

set_option maxRecDepth 100000 in
set_option maxHeartbeats 1000000 in
theorem pMul_bad (A B : Option Addr) (n c m d : Nat) (ps qs : List WE) (w : World) (hp : WL w A n c ps) (hq : WL w B m d qs) (hk : (pOk ps && pOk qs) = false) :
    Calls Tryz.prog 18 #[.slice A n c, .slice B m d] w (BadPoly w) := by
  have i0 : ∀ W, (Instr.index 71 (.agg #[.slice A n c, .slice B m d]) (.int .i64 0)).run Tryz.prog W = .ok (.slice A n c) W := fun _ => by kernel_rfl
  have i1 : ∀ W, (Instr.index 71 (.agg #[.slice A n c, .slice B m d]) (.int .i64 1)).run Tryz.prog W = .ok (.slice B m d) W := fun _ => by kernel_rfl
  by_cases kp : pOk ps = true
  · have kq : Hid (errOf (pOk qs) = 8) := by have : pOk qs = false := by simpa [kp] using hk
                                             unfold Hid; rw [this]; rfl
    replace kp : Hid (errOf (pOk ps) = 0) := by unfold Hid; rw [kp]; rfl
    clear hk
    go_enter Tryz.func18, Tryz.ntmps18
    go_wp2_with fail
    refine wp_loop_rounds 3 ?_
    rw [rounds_succ]
    go_wp2_with fail
    refine (pCheck_any _ _ _ _ _ hp).mono ?_
    rintro e w1 ⟨he1, hb1⟩
    rw [kp.out] at he1
    subst he1
    go_wp2_with fail
    rw [rounds_succ]
    go_wp2_with fail
    refine (pCheck_any _ _ _ _ _ (hq.below hb1)).mono ?_
    rintro e w2 ⟨he2, hb2⟩
    rw [kq.out] at he2
    subst he2
    go_wp2_with fail
    go_returns
    exact ⟨hb1.trans (hb2.mono hb1.size), none, rfl⟩
  · replace kp : Hid (errOf (pOk ps) = 8) := by have : pOk ps = false := by simpa using kp
                                                unfold Hid; rw [this]; rfl
    clear hk
    go_enter Tryz.func18, Tryz.ntmps18
    go_wp2_with fail
    refine wp_loop_rounds 3 ?_
    rw [rounds_succ]
    go_wp2_with fail
    refine (pCheck_any _ _ _ _ _ hp).mono ?_
    rintro e w1 ⟨he1, hb1⟩
    rw [kp.out] at he1
    subst he1
    go_wp2_with fail
    go_returns
    exact ⟨hb1, none, rfl⟩


set_option maxRecDepth 100000 in
set_option maxHeartbeats 4000000 in
theorem pderived_any (A : Option Addr) (n c : Nat) (ps : List WE) (w : World) (hp : WL w A n c ps) (kp : pOk ps = true) :
    Calls Tryz.prog 39 #[.slice A n c] w (OutP w (derP (ps.map WE.num))) := by
  obtain ⟨iw, hi, hz0, hz1, hz2⟩ := info_parts infoW
  have hnc := hp.2.1
  have hcm := hp.2.2.1
  unfold maxLen at hcm
  obtain ⟨hn9, hpk⟩ := pOk_parts kp
  have hpl := hide hp.len
  rw [hp.len] at hn9
  replace hpk := hide hpk
  clear kp
  obtain ⟨xs, hxs⟩ : ∃ xs, ps.map WE.num = xs := ⟨_, rfl⟩
  rw [hxs]
  have hxl : Hid (xs.length = n) := by unfold Hid; rw [← hxs, List.length_map]; exact hpl.out
  have hxb : Hid (∀ i : Nat, (xs[i]?.getD 0).natAbs < pw 40) := fun i => by
    rw [← hxs, List.getElem?_map]
    rcases Option.eq_none_or_eq_some ps[i]? with h | ⟨e, h⟩
    · rw [h]; exact pw_pos 40
    · rw [h]; exact WE.small (hp.2.2.2.2 e (List.mem_of_getElem? h)) (hpk.out e (List.mem_of_getElem? h)).1 (hpk.out e (List.mem_of_getElem? h)).2
  replace hxs := hide hxs
  go_enter Tryz.func39, Tryz.ntmps39
  go_wp2_with fail
  go_loopw [10, 3] (fun iv ov wr => ∃ i : Nat, i ≤ n ∧ iv = .int .i64 i ∧ OwnP 25 wr w.heap.size ov ((List.range (i - 1)).map (fun j => xs[j + 1]?.getD 0 * ((j + 1 : Nat) : Int))) ∧ Below w.heap.size w wr) (fun iv _ _ => n - (intOf iv).toNat)
  case atStart => exact ⟨0, Nat.zero_le _, rfl, OwnP.nil _ _ _, Below.refl _ _⟩
  case round =>
    obtain ⟨i, hik, rfl, hown, hBp⟩ := hrel
    have hsz := hBp.size
    by_cases hin : i < n
    · obtain ⟨b1, o1, e1, rfl, he1, hc1, hc1', hL1⟩ := (hp.below hBp).at_ hin
      have hw1 := WE.wd hL1 (hpk.out e1 (List.mem_of_getElem? he1)).1
      have hx1 := hp.num_at he1
      rw [hxs.out] at hx1
      have hlt1 := lt_of_cell hc1
      obtain ⟨neg1, A1, n1, c1, l1⟩ := e1
      dsimp only at hc1 hc1' hL1 hw1 hx1
      generalize WE.num ⟨neg1, A1, n1, c1, l1⟩ = x1 at *
      replace hx1 := hide hx1
      replace he1 := hide he1
      have hBA := Blk.new wr 25 #[.bool neg1, .slice A1 n1 c1]
      have hBo := hBp.alloc hBp.size (.cells #[.bool neg1, .slice A1 n1 c1] 25)
      have hownA := hown.alloc (.cells #[.bool neg1, .slice A1 n1 c1] 25)
      have hwA := hw1.alloc (.cells #[.bool neg1, .slice A1 n1 c1] 25)
      by_cases hi0 : 0 < i
      · have d1 : decide ((0 : Int) < (i : Int)) = true := by simp; omega
        replace hBA := hide hBA
        go_wp2_with fail
        have g0 := hBA.out.cell 0
        have g1 := hBA.out.cell 1
        obtain ⟨w4, hw4⟩ : ∃ w4, wr.alloc (.cells #[.bool neg1, .slice A1 n1 c1] 25) = w4 := ⟨_, rfl⟩
        have hz4 : wr.heap.size < w4.heap.size := by rw [← hw4]; simp
        rw [hw4] at hBo hownA hwA hBA g0 g1 ⊢
        clear hw4
        have g0' : w4.cell? ⟨wr.heap.size, 0, none⟩ = some (.bool neg1) := g0
        have g1' : w4.cell? ⟨wr.heap.size, 1, none⟩ = some (.slice A1 n1 c1) := g1
        clear g0 g1 hown
        have hM : (x1 * (i : Int)).natAbs < pw 4096 := by
          have h1 := hxb.out i
          rw [hx1.out] at h1
          have h2 : ((i : Int)).natAbs < pw 40 := by have := pw_le (show 1 ≤ 40 by omega); rw [show pw 1 = 4294967296 by rfl] at this; omega
          exact pw_bound (i := 0) (by omega) (by rw [Nat.zero_add, Nat.one_mul]; exact natAbs_mul_lt h1 h2)
        have hw4 : Wd w4.drew neg1 A1 n1 c1 x1 := hwA
        have g2' : w4.drew.cell? ⟨wr.heap.size, 0, none⟩ = some (.bool neg1) := g0'
        have g3' : w4.drew.cell? ⟨wr.heap.size, 1, none⟩ = some (.slice A1 n1 c1) := g1'
        have hne := World.new_ne w4 _ g0'
        have hne' := World.new_ne w4 _ g1'
        go_region_held3 (fun w' => w'.cell? ⟨wr.heap.size, 0, none⟩ = some (.bool neg1) ∧ w'.cell? ⟨wr.heap.size, 1, none⟩ = some (.slice A1 n1 c1))
          (((try dsimp only); (repeat' apply And.intro); all_goals (first | go_keep | (simp [*, go_sem]; done))))
          (first
            | (go_at_call 71; refine (From_any _ w4.drew (by omega) (by omega)).mono ?_; rintro e w5 ⟨hb5, neg5, A5, n5, c5, rfl, hW5⟩; have k0 := keep_cell hb5 g2'; have k1 := keep_cell hb5 g3'; have hw5 := hw4.below hb5; have hB5 : Below w4.heap.size w4 w5 := below_drewL hb5; have hB5' := hB5.size)
            | (go_at_call 71; refine (From_any _ (w4.alloc (.cells #[.bool false, .slice none 0 0] 25)).drew (by omega) (by omega)).mono ?_; rintro e w5 ⟨hb5, neg5, A5, n5, c5, rfl, hW5⟩; have k0 := keep_cell hb5 ((World.cell?_alloc_lt w4 _ ⟨wr.heap.size, 0, none⟩ hz4).trans g0'); have k1 := keep_cell hb5 ((World.cell?_alloc_lt w4 _ ⟨wr.heap.size, 1, none⟩ hz4).trans g1'); have hw5 := Wd.below (w := (w4.alloc (.cells #[.bool false, .slice none 0 0] 25)).drew) (hwA.alloc _) hb5; have hB5 : Below w4.heap.size w4 w5 := ((Below.refl w4.heap.size w4).alloc (Nat.le_refl _) (.cells #[.bool false, .slice none 0 0] 25)).trans ((below_drewL hb5).mono (by simp)); have zb5 := keep_blk hb5 (Blk.new w4 25 #[.bool false, .slice none 0 0]))
            | (go_at_call 68; refine (Mul_ok _ _ _ _ _ _ _ _ x1 (i : Int) w5 (by exact hw5) (by exact hW5)).mono ?_; rintro e w6 ⟨hb6, neg6, A6, n6, c6, code6, rfl, hR6⟩; have hB6 : Below w4.heap.size w4 w6 := hB5.trans (hb6.mono hB5.size); have k2 := keep_cell hb6 k0; have k3 := keep_cell hb6 k1; have zb6 := keep_blk hb6 zb5; have z0 := zb6.cell 0; have z1 := zb6.cell 1; have z2 := zb6.frozen 0; have z3 := zb6.frozen 1)
            | (go_at_call 68; refine (Mul_ok _ _ _ _ _ _ _ _ x1 (i : Int) w5 (by exact hw5) (by exact hW5)).mono ?_; rintro e w6 ⟨hb6, neg6, A6, n6, c6, code6, rfl, hR6⟩; have hB6 : Below w4.heap.size w4 w6 := hB5.trans (hb6.mono hB5.size); have k2 := keep_cell hb6 k0; have k3 := keep_cell hb6 k1)
            | (go_at_call 68; refine (Mul_ok _ _ _ _ _ _ _ _ x1 (i : Int) (w5.alloc (.cells #[.bool false, .slice none 0 0] 25)) (by exact hw5.alloc _) (by exact hW5.alloc _)).mono ?_; rintro e w6 ⟨hb6, neg6, A6, n6, c6, code6, rfl, hR6⟩; have hB6 : Below w4.heap.size w4 w6 := (hB5.alloc hB5.size _).trans (hb6.mono (Nat.le_trans hB5.size (by simp))); have k2 := keep_cell hb6 ((World.cell?_alloc_lt w5 _ _ (lt_of_cell k0)).trans k0); have k3 := keep_cell hb6 ((World.cell?_alloc_lt w5 _ _ (lt_of_cell k1)).trans k1); have zb6 := keep_blk hb6 (Blk.new w5 25 #[.bool false, .slice none 0 0]); have z0 := zb6.cell 0; have z1 := zb6.cell 1; have z2 := zb6.frozen 0; have z3 := zb6.frozen 1))
        all_goals (
          have hW6 := hR6.small hM
          clear hR6
          first
            | (obtain ⟨W, hWe, hDB, hDK, hDW⟩ := done_new 25 hB6 hB6.size hW6; rw [hWe])
            | (obtain ⟨W, hWe, hDB, hDK, hDW⟩ := done_set hB6 (by first | exact Nat.le_refl _ | exact hB5.size) zb6 hW6; rw [hWe])
          clear hWe
          have hownW := hownA.kept hDB
          have hBW := hBo.trans (hDB.mono hBo.size)
          have y0 := hDK.out.cell 0
          have y1 := hDK.out.cell 1
          have y0' : W.cell? ⟨_, 0, none⟩ = some (.bool neg6) := y0
          have y1' : W.cell? ⟨_, 1, none⟩ = some (.slice A6 n6 c6) := y1
          clear y0 y1 hownA hBo hB6 hb6 k0 k1 k2 k3 hW5 hw5 hW6
          go_wp2_with (at_builtin; refine wpList_append_num _ rfl (.tmp 24) (.tmp 26) 22 rfl w.heap.size 25 iw Tryz.underlying22 hi hz0 hz1 hz2 _ _ rfl (by exact hownW.alloc _) _ _ 1 1 [⟨neg6, A6, n6, c6, digits (x1 * (i : Int)).natAbs⟩] rfl (reads_num _ _ _ _ _ _ _) rfl (List.forall_mem_singleton.2 ⟨hDW.2.2.alloc _, hDW.ok⟩) (by rw [List.length_map, List.length_range]; omega) (by have := hBW.size; simp; omega) ?_; intro v7 w7 hown7 hg7 hk7)
          have hB7 := (hBW.alloc hBW.size _).grown hg7 (by have := hBW.size; simp; omega) hownW.row_ge
          have hown8 := hown7.snoc hDW
          rw [← hx1.out, derP_step xs hi0] at hown8
          go_roundw
          case rel => exact ⟨i + 1, by omega, by go_num, hown8, hB7⟩
          case measure => simp [intOf]; omega)
      · obtain rfl : i = 0 := by omega
        simp only [Nat.zero_mul, Nat.add_zero] at hc1 hc1'
        go_wp2_with fail
        go_roundw
        case rel => exact ⟨1, by omega, by go_num, hownA, hBo⟩
        case measure => simp [intOf]; omega
    · obtain rfl : i = n := by omega
      have hO : (List.range (i - 1)).map (fun j => xs[j + 1]?.getD 0 * ((j + 1 : Nat) : Int)) = derP xs := by unfold derP; rw [hxl.out]
      rw [hO] at hown
      obtain ⟨A9, c9, rfl, hP9⟩ := hown.poly
      go_wp2_with fail
      go_returns
      exact ⟨_, _, _, rfl, hP9, hBp⟩

set_option maxRecDepth 100000 in
set_option maxHeartbeats 1000000 in
theorem pDeriv_ok (A : Option Addr) (n c : Nat) (ps : List WE) (w : World) (hp : WL w A n c ps) (kp : pOk ps = true) :
    Calls Tryz.prog 15 #[.slice A n c] w (ResPoly w (derP (ps.map WE.num))) := by
  have hT := fun W hp => hide (pderived_any A n c ps W hp kp)
  replace kp : Hid (errOf (pOk ps) = 0) := by unfold Hid; rw [kp]; rfl
  go_enter Tryz.func15, Tryz.ntmps15
  go_wp2_with fail
  refine (pCheck_any _ _ _ _ _ hp).mono ?_
  rintro e w1 ⟨he1, hb1⟩
  rw [kp.out] at he1
  subst he1
  go_wp2_with fail
  refine (hT w1 (hp.below hb1)).out.mono ?_
  rintro e w3 ⟨A3, n3, c3, rfl, hP3, hb3⟩
  have hB3 := hb1.trans (hb3.mono hb1.size)
  clear hT
  go_wp2_with fail
  refine (pmade_any _ _ _ _ _ hP3).mono ?_
  rintro e w4 ⟨hb4, A4, n4, c4, code4, rfl, hR4⟩
  replace hR4 := hide hR4
  go_wp2_with fail
  go_returns
  exact ⟨hB3.trans (hb4.mono hB3.size), A4, n4, c4, code4, rfl, hR4.out⟩

set_option maxHeartbeats 400000 in
theorem pDeriv_bad (A : Option Addr) (n c : Nat) (ps : List WE) (w : World) (hp : WL w A n c ps) (kp : pOk ps = false) :
    Calls Tryz.prog 15 #[.slice A n c] w (BadPoly w) := by
  replace kp : Hid (errOf (pOk ps) = 8) := by unfold Hid; rw [kp]; rfl
  go_enter Tryz.func15, Tryz.ntmps15
  go_wp2_with fail
  refine (pCheck_any _ _ _ _ _ hp).mono ?_
  rintro e w1 ⟨he1, hb1⟩
  rw [kp.out] at he1
  subst he1
  go_wp2_with fail
  go_returns
  exact ⟨hb1, none, rfl⟩
end Go.Proofs.YtljocgdhdilglaaGreat

namespace Go.Proofs.YtljocgdhdilglaaGreat
open Go.RowKit
attribute [local go_sem] add_lit

theorem any_bad_of {es : List WE} {i : Nat} {e : WE} (he : es[i]? = some e) (hb : e.bad = true) : es.any WE.bad = true := List.any_eq_true.2 ⟨e, List.mem_of_getElem? he, hb⟩
theorem any_bad_none {es : List WE} (h : ∀ (j : Nat) (e : WE), j < es.length → es[j]? = some e → e.bad = false) : es.any WE.bad = false := by
  rw [List.any_eq_false]
  intro e he
  obtain ⟨j, hj, rfl⟩ := List.getElem_of_mem he
  rw [h j _ hj (List.getElem?_eq_getElem hj)]; simp
theorem pOk_empty {es : List WE} {e : WE} (h3 : es[es.length - 1]? = some e) (he : e.l.isEmpty = true) : pOk es = false := by
  unfold pOk; rw [List.getLast?_eq_getElem?, h3]; simp [he]

set_option maxRecDepth 100000 in
set_option maxHeartbeats 2000000 in
theorem sCheck_any (A : Option Addr) (n c : Nat) (es : List WE) (w : World) (h : WL w A n c es) :
    Calls Tryz.prog 13 #[.slice A n c] w fun e w' => e = .returned (.int .i64 (errOf (pOk es))) ∧ Below w.heap.size w w' := by
  have hnc := h.2.1
  have hcm := h.2.2.1
  unfold maxLen at hcm
  have hl := hide h.len
  by_cases h9 : 9 < n
  · rw [pOk_long (by rw [hl.out]; exact h9)]
    have d9 : decide ((9 : Int) < (n : Int)) = true := by simp; omega
    go_enter Tryz.func13, Tryz.ntmps13
    go_wp2
    go_ret
    exact ⟨rfl, Below.refl _ _⟩
  · have d9 : decide ((9 : Int) < (n : Int)) = false := by simp; omega
    by_cases h0 : 0 < n
    · have d0 : decide ((0 : Int) < (n : Int)) = true := by simp; omega
      obtain ⟨b, o, e, rfl, he, hc1, hc2, hL⟩ := h.at_ (k := n - 1) (by omega)
      obtain ⟨neg, A1, n1, c1, l1⟩ := e
      dsimp only at hc1 hc2 hL
      have hl1 := hide hL.len
      have h1m := Nat.le_trans hL.2.1 hL.2.2.1
      unfold maxLen at h1m
      have he' : es[es.length - 1]? = some ⟨neg, A1, n1, c1, l1⟩ := by rw [hl.out]; exact he
      clear he
      by_cases hn1 : n1 = 0
      · have hz : l1.isEmpty = true := by have := hl1.out; cases l1 <;> simp_all
        rw [pOk_empty he' hz]
        have dz : ((n1 : Int) == 0) = true := by simp; exact hn1
        clear he' hz
        replace hn1 := hide hn1
        go_enter Tryz.func13, Tryz.ntmps13
        go_wp2
        go_ret
        exact ⟨rfl, Below.refl _ _⟩
      · have hz : l1.isEmpty = false := by have := hl1.out; cases l1 <;> simp_all
        have dz : ((n1 : Int) == 0) = false := by simp; exact hn1
        have hOK : Hid (es.any WE.bad = false → pOk es = true) := fun hb => by rw [pOk_last (by rw [hl.out]; omega) hb he', hz]; rfl
        have hlt := lt_of_cell hc2
        clear he' hz
        replace hn1 := hide hn1
        obtain ⟨v, hv⟩ : ∃ v, errOf (pOk es) = v := ⟨_, rfl⟩
        rw [hv]
        replace hv := hide hv
        go_enter Tryz.func13, Tryz.ntmps13
        go_wp2
        clear dz hc1 hc2 hL
        go_loopw [3] (fun iv wr => ∃ i : Nat, i ≤ n ∧ iv = .int .i64 i ∧ Hid (∀ (j : Nat) (e : WE), j < i → es[j]? = some e → e.bad = false) ∧ Below w.heap.size w wr) (fun iv _ => n - (intOf iv).toNat)
        case atStart => exact ⟨0, Nat.zero_le _, rfl, fun j e hj => by omega, Below.refl _ _⟩
        case round =>
          obtain ⟨i, hik, rfl, hok, hB⟩ := hrel
          by_cases hin : i < n
          · obtain ⟨b2, o2, e2, hbb, he2, hc1, hc2, hL2⟩ := (h.below hB).at_ hin
            obtain ⟨rfl, rfl⟩ : b2 = b ∧ o2 = o := by injection hbb with hbb; injection hbb with h1 h2; exact ⟨h1.symm, h2.symm⟩
            obtain ⟨neg2, A2, n2, c2, l2⟩ := e2
            dsimp only at hc1 hc2 hL2
            have hl2 := hide hL2.len
            have h2m := Nat.le_trans hL2.2.1 hL2.2.2.1
            unfold maxLen at h2m
            replace he2 := hide he2
            by_cases hk : okW neg2 l2 = true
            · have HK := hide (show errOf (okW neg2 l2) = 0 by rw [hk]; rfl)
              by_cases h40 : 40 < n2
              · have d40 : decide ((40 : Int) < (n2 : Int)) = true := by simp; omega
                have hv8 : Hid ((8 : Int) = v) := by unfold Hid; rw [← hv.out, pOk_bad (any_bad_of he2.out (by unfold WE.bad; rw [hl2.out]; simp; omega))]; rfl
                go_wp2_with (go_at_call 35; refine (rCheck_any _ _ _ _ _ _ hL2).mono ?_; rintro e w1 ⟨he1, hb1⟩; rw [HK.out] at he1; subst he1; have k2 := keep_cell hb1 hc2)
                go_ret
                exact ⟨ret_int hv8.out, hB.trans (hb1.mono hB.size)⟩
              · have d40 : decide ((40 : Int) < (n2 : Int)) = false := by simp; omega
                have hgood : (⟨neg2, A2, n2, c2, l2⟩ : WE).bad = false := by unfold WE.bad WE.ok; rw [hl2.out, hk]; simp; omega
                replace hgood := hide hgood
                replace hk := hide hk
                go_wp2_with (go_at_call 35; refine (rCheck_any _ _ _ _ _ _ hL2).mono ?_; rintro e w1 ⟨he1, hb1⟩; rw [HK.out] at he1; subst he1; have k2 := keep_cell hb1 hc2)
                go_roundw
                case rel => exact ⟨i + 1, by omega, by go_num, fun j e hj hje => by
                    rcases Nat.lt_or_ge j i with h' | h'
                    · exact hok.out j e h' hje
                    · obtain rfl : j = i := by omega
                      rw [he2.out] at hje; injection hje with hje; rw [← hje]; exact hgood.out, hB.trans (hb1.mono hB.size)⟩
                case measure => simp [intOf]; omega
            · have hk' : okW neg2 l2 = false := by simpa using hk
              have HK := hide (show errOf (okW neg2 l2) = 8 by rw [hk']; rfl)
              have hv8 : Hid ((8 : Int) = v) := by unfold Hid; rw [← hv.out, pOk_bad (any_bad_of he2.out (by unfold WE.bad WE.ok; rw [hk']; simp))]; rfl
              clear hk hk'
              go_wp2_with (go_at_call 35; refine (rCheck_any _ _ _ _ _ _ hL2).mono ?_; rintro e w1 ⟨he1, hb1⟩; rw [HK.out] at he1; subst he1)
              go_ret
              exact ⟨ret_int hv8.out, hB.trans (hb1.mono hB.size)⟩
          · obtain rfl : i = n := by omega
            have hv0 : Hid ((0 : Int) = v) := by unfold Hid; rw [← hv.out, hOK.out (any_bad_none fun j e hj => hok.out j e (by rw [← hl.out]; exact hj))]; rfl
            go_wp2
            go_ret
            exact ⟨ret_int hv0.out, hB⟩
    · obtain rfl : n = 0 := by omega
      rw [pOk_nil hl.out]
      go_enter Tryz.func13, Tryz.ntmps13
      go_wp2
      refine wp_loop_rounds 1 ?_
      rw [rounds_succ]
      go_wp2
      go_ret
      exact ⟨rfl, Below.refl _ _⟩

end Go.Proofs.YtljocgdhdilglaaGreat
