/- Appends onto a row of whole numbers of the call's own. -/
import Derived.Test.YtljocgdhdilglaaPM
import Derived.Test.YtljocgdhdilglaaF1
namespace Go.Proofs.Ytljocgdhdilglaa
open Go.RowKit

theorem cellsL_append (es fs : List WE) : cellsL (es ++ fs) = cellsL es ++ cellsL fs := by
  induction es with
  | nil => rfl
  | cons e l ih => simp only [List.cons_append, cellsL, ih]
theorem cellsL_one (fs : List WE) : ∀ u ∈ cellsL fs, u.oneCell' = true := by
  induction fs with
  | nil => intro u h; simp [cellsL] at h
  | cons e l ih =>
    intro u h
    simp only [cellsL, List.mem_cons] at h
    rcases h with rfl | rfl | h
    · rfl
    · rfl
    · exact ih u h
theorem zeroCells_num (k : Nat) : (Builtin.zeroCells #[.bool false, .slice none 0 0] k).toList = cellsL (List.replicate k zeroWE) := by
  rw [cellsL_zero]
  unfold Builtin.zeroCells madeCells
  apply List.ext_getElem?
  intro i
  by_cases h : i < k * 2
  · simp [h]
  · simp [h]

/-- The slice value v owns, from block base on, the numbers es; behind them lie zeros. -/
def RowW (t : TypeId) (w : World) (base : Nat) (v : Value) (es : List WE) : Prop :=
  (v = .slice none 0 0 ∧ es = []) ∨ ∃ g sp, v = .slice (some ⟨g, 0, none⟩) es.length (es.length + sp) ∧ base ≤ g ∧ es.length + sp ≤ maxLen ∧ Blk w g t (cellsW (es ++ List.replicate sp zeroWE))

section
variable {t : TypeId} {w w' : World} {base : Nat} {v : Value} {es : List WE}
theorem RowW.own (h : RowW t w base v es) : w.ownsRow base t 2 v es.length (cellsL es) := by
  refine ⟨cellsL_length es, ?_⟩
  rcases h with ⟨h1, rfl⟩ | ⟨g, sp, h1, h2, h3, h4⟩
  · exact .inl ⟨h1, rfl⟩
  · refine .inr ⟨g, _, _, h1, h2, h4, Nat.le_add_right _ _, h3, ?_, ?_⟩
    · simp [cellsW, cellsL_length]
    · simp only [cellsW]
      rw [cellsL_append, ← cellsL_length es]
      exact List.take_left
theorem RowW.row_ge (h : RowW t w base v es) : ∀ k, v.ownBlock = some k → base ≤ k := fun k hk => (h.own.lt k hk).1
theorem RowW.kept (h : RowW t w base v es) (hb : Below w.heap.size w w') : RowW t w' base v es := by
  rcases h with h | ⟨g, sp, h1, h2, h3, h4⟩
  · exact .inl h
  · exact .inr ⟨g, sp, h1, h2, h3, keep_blk hb h4⟩
/-- Limbs stay as they are where the row grows. -/
theorem RowW.keep (h : RowW t w base v es) (hg : w.grownBy w' v.ownBlock) {A : Option Addr} {n c : Nat} {l : List Nat} (hL : Lim w A n c l) : Lim w' A n c l := by
  refine ⟨hL.1, hL.2.1, hL.2.2.1, hL.2.2.2.1, fun hn => ?_⟩
  obtain ⟨b, o, e, hc⟩ := hL.2.2.2.2 hn
  refine ⟨b, o, e, fun k hk => ?_⟩
  rw [← hc k hk]
  refine World.cell?_of_block (hg.block b (lt_of_cell (hc k hk)) (fun e' => ?_))
  rcases h with ⟨rfl, _⟩ | ⟨g, sp, rfl, _, _, h4⟩
  · cases e'
  · have hbg : b = g := by simpa [Value.ownBlock] using e'
    subst hbg
    have h1 := hc k hk
    rw [h4.cell] at h1
    exact cellsW_noLimb _ _ _ h1
end

section
variable {P : Program} (w : World)

/-- An append of numbers onto a row of the call's own. -/
theorem run_append_num (base : Nat) (t ty e : TypeId) (i : TypeInfo) (ht : P.underlying t = some (.slice e)) (hi : P.info? e = some i) (hz : i.zero = some (.agg #[.bool false, .slice none 0 0]))
    (hs : i.size = 2) (hby : i.bytes = 32) (v : Value) (es : List WE) (hown : RowW e w base v es)
    (B : Nat) (A : Option Addr) (m c : Nat) (fs : List WE) (hr : Reads w B 2 A m (cellsL fs)) (hm : fs.length = m) (h63 : es.length + m ≤ 1000) (hbase : base ≤ w.heap.size) :
    ∃ v' w', (Builtin.append_ #[t, t] ty #[v, .slice A m c]).run P w = .ok v' w' ∧ RowW e w' base v' (es ++ fs) ∧ w.grownBy w' v.ownBlock := by
  rcases Nat.eq_zero_or_pos m with h0 | h0
  · subst h0
    obtain rfl : fs = [] := List.eq_nil_of_length_eq_zero hm
    rw [List.append_nil]
    rcases A with _ | ad
    · exact ⟨v, w, run_append_of_nil w base t ty e i 2 ht hi v _ _ hown.own c, hown, World.grownBy.refl w _⟩
    · have hf := run_firstCells_some (P := P) w i.size 0 ad 0 c [] (by simp) (by simp)
      rcases hown with ⟨rfl, rfl⟩ | ⟨g, sp, rfl, h2, h3, h4⟩
      · refine ⟨.slice none 0 0, w, ?_, .inl ⟨rfl, rfl⟩, World.grownBy.refl w _⟩
        simp [Builtin.append_, run_underlying ht, sizeOf, typeInfo, hi, Builtin.lenOf, Builtin.firstCells, loadCells, loadCellsFrom]
      · refine ⟨_, w, ?_, .inr ⟨g, sp, rfl, h2, h3, h4⟩, World.grownBy.refl w _⟩
        simp [Builtin.append_, run_underlying ht, sizeOf, typeInfo, hi, Builtin.lenOf, Builtin.firstCells, loadCells, loadCellsFrom, storeCells]
  · obtain ⟨ad, rfl, _, hc⟩ := hr.2 h0
    have hl : (cellsL fs).length = m * i.size := by rw [cellsL_length, hm, hs]
    have hle : es.length * i.size = (cellsL es).length := by rw [cellsL_length, hs]
    rcases hown with ⟨rfl, rfl⟩ | ⟨g, sp, rfl, h2, h3, h4⟩
    · have hrun := run_append_nil (P := P) w t ty e i _ ht hi hz ad m c (cellsL fs) hl hc h0 (by omega) (by rw [hby]; omega)
      have hge := grownCap_ge w m 0 e
      have hcm := grownCap_le_maxLen w m 0 e (by unfold maxLen; simp only [List.length_nil] at h63; omega)
      refine ⟨_, _, hrun, .inr ⟨w.heap.size, grownCap w m 0 e - m, ?_, hbase, ?_, ?_⟩, ⟨rfl, rfl, rfl, by simp, fun k hk _ => Below.heap_alloc w.drew _ k hk⟩⟩
      · rw [List.nil_append, hm, Nat.add_sub_cancel' hge]
      · rw [List.nil_append, hm, Nat.add_sub_cancel' hge]; exact hcm
      · have := heap_alloc_new w.drew (.cells ((cellsL fs).toArray ++ Builtin.zeroCells (Value.agg #[.bool false, .slice none 0 0]).cells (grownCap w m 0 e - m)) e)
        unfold Blk
        refine this.trans ?_
        congr 1
        have hx : (cellsL fs).toArray ++ Builtin.zeroCells (Value.agg #[.bool false, .slice none 0 0]).cells (grownCap w m 0 e - m) = cellsW ([] ++ fs ++ List.replicate (grownCap w m 0 e - m) zeroWE) := by
          apply Array.toList_inj.1
          rw [Array.toList_append, show (Value.agg #[.bool false, .slice none 0 0]).cells = #[.bool false, .slice none 0 0] from rfl, zeroCells_num]
          simp [cellsW, cellsL_append]
        rw [hx]
    · by_cases hroom : m ≤ sp
      · have hrun := run_append_room (P := P) w t ty e i ht hi g es.length (es.length + sp) _ h4 ad m c (cellsL fs) hl hc (cellsL_one fs) (by omega) (by rw [hle, cellsL_length, cellsL_length]; simp [cellsW, cellsL_length]; omega)
        refine ⟨_, _, hrun, .inr ⟨g, sp - m, ?_, h2, ?_, ?_⟩, ⟨rfl, rfl, rfl, by simp [World.setRow], fun k _ hk => setRow_other w g k _ (fun e' => hk (by simp [Value.ownBlock, e']))⟩⟩
        · rw [List.length_append, hm, show es.length + m + (sp - m) = es.length + sp by omega]
        · rw [List.length_append, hm]; omega
        · refine (setRow_heap w g _ _ e _ h4).trans ?_
          congr 2
          unfold cellsW
          congr 1
          rw [hle]
          have hrep : List.replicate sp zeroWE = List.replicate m zeroWE ++ List.replicate (sp - m) zeroWE := by rw [List.replicate_append_replicate]; congr 1; omega
          have hlm : (cellsL fs).length = (cellsL (List.replicate m zeroWE)).length := by rw [cellsL_length, cellsL_length, hm, List.length_replicate]
          simp only [cellsL_append]
          rw [List.take_left, hlm, ← List.length_append, hrep, cellsL_append, ← List.append_assoc (cellsL es), List.drop_left, List.append_assoc]
      · have holds : ∀ j u, (cellsL es)[j]? = some u → w.cell? ((⟨g, 0, none⟩ : Addr).add j) = some u := fun j u hu => by
          rw [add_lit, Nat.zero_add, h4.cell]
          simp only [cellsW, List.getElem?_toArray, cellsL_append]
          rw [List.getElem?_append_left (by rw [List.getElem?_eq_some_iff] at hu; exact hu.1)]; exact hu
        have hrun := run_append_grow (P := P) w t ty e i _ ht hi hz ⟨g, 0, none⟩ es.length (es.length + sp) (cellsL es) hle.symm holds ad m c (cellsL fs) hl hc (by omega) (by omega) (growslice_fits (by omega) (by rw [hby]; omega))
        have hge := grownCap_ge w (es.length + m) (es.length + sp) e
        have hcm := grownCap_le_maxLen w (es.length + m) (es.length + sp) e (by unfold maxLen; omega)
        refine ⟨_, _, hrun, .inr ⟨w.heap.size, grownCap w (es.length + m) (es.length + sp) e - (es.length + m), ?_, hbase, ?_, ?_⟩, ⟨rfl, rfl, rfl, by simp, fun k hk _ => Below.heap_alloc w.drew _ k hk⟩⟩
        · rw [List.length_append, hm, Nat.add_sub_cancel' hge]
        · rw [List.length_append, hm, Nat.add_sub_cancel' hge]; exact hcm
        · have := heap_alloc_new w.drew (.cells ((cellsL es).toArray ++ (cellsL fs).toArray ++ Builtin.zeroCells (Value.agg #[.bool false, .slice none 0 0]).cells (grownCap w (es.length + m) (es.length + sp) e - (es.length + m))) e)
          unfold Blk
          refine this.trans ?_
          congr 1
          have hx : (cellsL es).toArray ++ (cellsL fs).toArray ++ Builtin.zeroCells (Value.agg #[.bool false, .slice none 0 0]).cells (grownCap w (es.length + m) (es.length + sp) e - (es.length + m)) = cellsW (es ++ fs ++ List.replicate (grownCap w (es.length + m) (es.length + sp) e - (es.length + m)) zeroWE) := by
            apply Array.toList_inj.1
            rw [Array.toList_append, Array.toList_append, show (Value.agg #[.bool false, .slice none 0 0]).cells = #[.bool false, .slice none 0 0] from rfl, zeroCells_num]
            simp [cellsW, cellsL_append]
          rw [hx]
end

/-- The slice value v owns, from block base on, valid numbers worth xs. -/
def OwnP (t : TypeId) (w : World) (base : Nat) (v : Value) (xs : List Int) : Prop := ∃ es, RowW t w base v es ∧ (∀ e ∈ es, Lim w e.A e.n e.c e.l ∧ e.ok = true) ∧ es.map WE.num = xs
section
variable {t : TypeId} {w w' : World} {base : Nat} {v : Value} {xs : List Int}
theorem OwnP.nil (t : TypeId) (w : World) (base : Nat) : OwnP t w base (.slice none 0 0) [] := ⟨[], .inl ⟨rfl, rfl⟩, fun e h => by simp at h, rfl⟩
theorem OwnP.kept (h : OwnP t w base v xs) (hb : Below w.heap.size w w') : OwnP t w' base v xs := by
  obtain ⟨es, h1, h2, h3⟩ := h
  exact ⟨es, h1.kept hb, fun e he => ⟨(h2 e he).1.below hb, (h2 e he).2⟩, h3⟩
theorem OwnP.alloc (h : OwnP t w base v xs) (o : Obj) : OwnP t (w.alloc o) base v xs := h.kept ((Below.refl _ _).alloc (Nat.le_refl _) _)
theorem OwnP.row_ge (h : OwnP t w base v xs) : ∀ k, v.ownBlock = some k → base ≤ k := by obtain ⟨es, h1, _⟩ := h; exact h1.row_ge
theorem OwnP.poly (h : OwnP t w base v xs) : ∃ A c, v = .slice A xs.length c ∧ PolyL w A xs.length c xs := by
  obtain ⟨es, h1, h2, rfl⟩ := h
  rcases h1 with ⟨rfl, rfl⟩ | ⟨g, sp, rfl, h4, h5, h6⟩
  · exact ⟨none, 0, rfl, [], ⟨rfl, Nat.le_refl _, Nat.zero_le _, fun h => absurd h (by simp), fun e h => by simp at h⟩, rfl, fun e h => by simp at h⟩
  · rw [List.length_map]
    refine ⟨_, es.length + sp, rfl, es, ⟨rfl, Nat.le_add_right _ _, h5, fun _ => ⟨g, 0, rfl, fun k e he => ?_⟩, fun e he => (h2 e he).1⟩, rfl, fun e he => (h2 e he).2⟩
    have hk : k < es.length := (List.getElem?_eq_some_iff.1 he).1
    have hc := cellsW_get (es := es ++ List.replicate sp zeroWE) (i := k) (e := e) (by rw [List.getElem?_append_left hk]; exact he)
    rw [Nat.zero_add, h6.cell, h6.cell]
    exact hc
theorem noLimb_box (b : Bool) (A : Option Addr) (n c : Nat) : NoLimb #[.bool b, .slice A n c] := fun i x => by
  match i with
  | 0 => simp
  | 1 => simp
  | i + 2 => simp
theorem Wd.of_keep {neg : Bool} {A : Option Addr} {n c : Nat} {z : Int} (hk : ∀ (A : Option Addr) (n c : Nat) (l : List Nat), Lim w A n c l → Lim w' A n c l) (h : Wd w neg A n c z) : Wd w' neg A n c z := ⟨h.1, h.2.1, hk _ _ _ _ h.2.2⟩
end
theorem OwnP.snoc {t : TypeId} {w : World} {base : Nat} {v : Value} {xs : List Int} {neg : Bool} {A : Option Addr} {n c : Nat} {z : Int} {W : World} (h : OwnP t w base v (xs ++ [⟨neg, A, n, c, digits z.natAbs⟩].map WE.num)) (hW : Wd W neg A n c z) : OwnP t w base v (xs ++ [z]) := by
  rw [List.map_cons, List.map_nil, show WE.num ⟨neg, A, n, c, digits z.natAbs⟩ = z from hW.sgEq] at h
  exact h

/-- A number in a variable of the call's own, behind its making. -/
theorem done_new (t : TypeId) {B : Nat} {w0 w : World} {neg : Bool} {A : Option Addr} {n c : Nat} {z : Int} (hB : Below B w0 w) (hs : B ≤ w.heap.size) (hW : Wd w neg A n c z) :
    ∃ W, w.alloc (.cells #[.bool neg, .slice A n c] t) = W ∧ Below B w0 W ∧ Hid (Blk W w.heap.size t #[.bool neg, .slice A n c]) ∧ Wd W neg A n c z :=
  ⟨_, rfl, hB.alloc hs _, Blk.new _ _ _, hW.alloc _⟩
/-- A number in a variable of the call's own, behind a store. -/
theorem done_set {t : TypeId} {B : Nat} {w0 w : World} {g : Nat} {b0 : Bool} {A0 : Option Addr} {n0 c0 : Nat} {neg : Bool} {A : Option Addr} {n c : Nat} {z : Int} (hB : Below B w0 w) (hs : B ≤ g) (hb : Blk w g t #[.bool b0, .slice A0 n0 c0]) (hW : Wd w neg A n c z) :
    ∃ W, (w.setCell ⟨g, 0, none⟩ (.bool neg)).setCell ⟨g, 1, none⟩ (.slice A n c) = W ∧ Below B w0 W ∧ Hid (Blk W g t #[.bool neg, .slice A n c]) ∧ Wd W neg A n c z := by
  have hb1 : Blk (w.setCell ⟨g, 0, none⟩ (.bool neg)) g t #[.bool neg, .slice A0 n0 c0] := hb.set_ 0 (.bool neg)
  have hb2 : Blk ((w.setCell ⟨g, 0, none⟩ (.bool neg)).setCell ⟨g, 1, none⟩ (.slice A n c)) g t #[.bool neg, .slice A n c] := hb1.set_ 1 (.slice A n c)
  refine ⟨_, rfl, (hB.setCell (p := ⟨g, 0, none⟩) hs _).setCell (p := ⟨g, 1, none⟩) hs _, hb2, hW.1, hW.2.1, ?_⟩
  exact (hW.2.2.set_box hb (noLimb_box _ _ _ _) _ _).set_box hb1 (noLimb_box _ _ _ _) _ _

/-- What an append of one number needs: it lies in a block of its own. -/
theorem reads_num (w : World) (neg : Bool) (A : Option Addr) (n c : Nat) (l : List Nat) (t : TypeId) : Reads (w.alloc (.cells #[.bool neg, .slice A n c] t)) (w.heap.size + 1) 2 (some ⟨w.heap.size, 0, none⟩) 1 (cellsL [⟨neg, A, n, c, l⟩]) :=
  ⟨rfl, fun _ => ⟨_, rfl, Nat.lt_succ_self _, fun j u hu => by
    rw [add_lit, Nat.zero_add, (Blk.new w t #[.bool neg, .slice A n c]).cell]
    simpa [cellsL] using hu⟩⟩
theorem reads_num2 (w : World) (o : Obj) (neg : Bool) (A : Option Addr) (n c : Nat) (l : List Nat) (t : TypeId) : Reads ((w.alloc o).alloc (.cells #[.bool neg, .slice A n c] t)) (w.heap.size + 2) 2 (some ⟨w.heap.size + 1, 0, none⟩) 1 (cellsL [⟨neg, A, n, c, l⟩]) := by
  have := reads_num (w.alloc o) neg A n c l t
  rwa [World.size_alloc] at this

section
variable {P : Program} (w : World)
theorem wp_append_num {o : Oper} {a : Act} {K : Act → World → Prop} {Q : Exit → Act → World → Prop} (s x : Operand) (t : TypeId)
    (ho : o.op = .call { callee := .builtin .append, args := #[s, x], argTypes := #[t, t] })
    (base : Nat) (e : TypeId) (i : TypeInfo) (ht : P.underlying t = some (.slice e)) (hi : P.info? e = some i) (hz : i.zero = some (.agg #[.bool false, .slice none 0 0])) (hsi : i.size = 2) (hby : i.bytes = 32)
    (v : Value) (xs : List Int) (hs : a.eval s = v) (hown : OwnP e w base v xs)
    (B : Nat) (A : Option Addr) (m c : Nat) (fs : List WE) (hx : a.eval x = .slice A m c) (hr : Reads w B 2 A m (cellsL fs)) (hm : fs.length = m) (hfs : ∀ e ∈ fs, Lim w e.A e.n e.c e.l ∧ e.ok = true)
    (h63 : xs.length + m ≤ 1000) (hbase : base ≤ w.heap.size)
    (h : ∀ v' w', OwnP e w' base v' (xs ++ fs.map WE.num) → w.grownBy w' v.ownBlock → (∀ (A : Option Addr) (n c : Nat) (l : List Nat), Lim w A n c l → Lim w' A n c l) → K (a.put o.dst v') w') : o.wp P a w K Q := by
  obtain ⟨es, h1, h2, rfl⟩ := hown
  rw [List.length_map] at h63
  obtain ⟨v', w', hrun, h3, h4⟩ := run_append_num (P := P) w base t o.type e i ht hi hz hsi hby v es h1 B A m c fs hr hm h63 hbase
  unfold Oper.wp execOp
  simp only [ho, resolve, invoke, builtin, Sem.run_bind, Sem.run_pure, Result.andThen_ok, List.map_toArray, List.map_cons, List.map_nil, hs, hx, hrun]
  have hk : ∀ (A : Option Addr) (n c : Nat) (l : List Nat), Lim w A n c l → Lim w' A n c l := fun _ _ _ _ hL => h1.keep h4 hL
  refine h v' w' ⟨es ++ fs, h3, fun e he => ?_, by rw [List.map_append]⟩ h4 hk
  rcases List.mem_append.1 he with he | he
  · exact ⟨hk _ _ _ _ (h2 e he).1, (h2 e he).2⟩
  · exact ⟨hk _ _ _ _ (hfs e he).1, (hfs e he).2⟩
theorem wpList_append_num {ops : Array Oper} {rest : List Oper} {o : Oper} {a : Act} {Q : Exit → Act → World → Prop} (hgd : o.guard = none) (s x : Operand) (t : TypeId)
    (ho : o.op = .call { callee := .builtin .append, args := #[s, x], argTypes := #[t, t] })
    (base : Nat) (e : TypeId) (i : TypeInfo) (ht : P.underlying t = some (.slice e)) (hi : P.info? e = some i) (hz : i.zero = some (.agg #[.bool false, .slice none 0 0])) (hsi : i.size = 2) (hby : i.bytes = 32)
    (v : Value) (xs : List Int) (hs : a.eval s = v) (hown : OwnP e w base v xs)
    (B : Nat) (A : Option Addr) (m c : Nat) (fs : List WE) (hx : a.eval x = .slice A m c) (hr : Reads w B 2 A m (cellsL fs)) (hm : fs.length = m) (hfs : ∀ e ∈ fs, Lim w e.A e.n e.c e.l ∧ e.ok = true)
    (h63 : xs.length + m ≤ 1000) (hbase : base ≤ w.heap.size)
    (h : ∀ v' w', OwnP e w' base v' (xs ++ fs.map WE.num) → w.grownBy w' v.ownBlock → (∀ (A : Option Addr) (n c : Nat) (l : List Nat), Lim w A n c l → Lim w' A n c l) → wpList P ops Q rest (a.put o.dst v') w') : wpList P ops Q (o :: rest) a w :=
  wpList_plain hgd fun _ hK => wp_append_num w s x t ho base e i ht hi hz hsi hby v xs hs hown B A m c fs hx hr hm hfs h63 hbase fun v' w' h2 h3 h4 => hK _ _ (h v' w' h2 h3 h4)
end
end Go.Proofs.Ytljocgdhdilglaa
