/- Rows of fractions of the call's own. Centroids: sums over a list of pixels, moments about a centre; sizes of fractions (plain). calib.Check. Centroids: valid fields and lists, codes (plain). -/
import Derived.Maps.AppendAt
import Derived.Test.YtkippclhbkjbmaaZn01
import Derived.Test.YtkippclhbkjbmaaZn20
import Derived.Test.YtkippclhbkjbmaaZn32
import Derived.Test.YtkippclhbkjbmaaZn30
import Derived.Test.YtkippclhbkjbmaaZn19
import Derived.Test.YtkippclhbkjbmaaZn18
import Derived.Test.YtkippclhbkjbmaaZn27
set_option linter.unusedSimpArgs false
set_option linter.unusedVariables false

namespace Go.Proofs.Ytkippclhbkjbmaa
open Go.RowKit

/-- A fraction in memory. -/
structure FE where
  na : Bool
  A : Option Addr
  n : Nat
  c : Nat
  nb : Bool
  B : Option Addr
  m : Nat
  d : Nat
  q : Rat
def FE.in_ (w : World) (e : FE) : Prop := Fr w e.na e.A e.n e.c e.nb e.B e.m e.d e.q
def cellsF : List FE → List Value
  | [] => []
  | e :: l => .bool e.na :: .slice e.A e.n e.c :: .bool e.nb :: .slice e.B e.m e.d :: cellsF l
def cellsFA (es : List FE) : Array Value := (cellsF es).toArray
theorem cellsF_length (es : List FE) : (cellsF es).length = es.length * 4 := by
  induction es with
  | nil => rfl
  | cons e l ih => simp only [cellsF, List.length_cons, ih]; omega
theorem cellsF_get {es : List FE} {i : Nat} {e : FE} (h : es[i]? = some e) : (cellsF es)[i * 4]? = some (.bool e.na) ∧ (cellsF es)[i * 4 + 1]? = some (.slice e.A e.n e.c) ∧ (cellsF es)[i * 4 + 2]? = some (.bool e.nb) ∧ (cellsF es)[i * 4 + 3]? = some (.slice e.B e.m e.d) := by
  induction es generalizing i with
  | nil => simp at h
  | cons x l ih =>
    cases i with
    | zero => simp at h; subst h; simp [cellsF]
    | succ i =>
      have := ih (by simpa using h)
      rw [show (i + 1) * 4 = i * 4 + 4 by omega]
      simpa [cellsF] using this
theorem cellsF_noLimb (es : List FE) : ∀ (i x : Nat), (cellsF es)[i]? ≠ some (limb x) := by
  induction es with
  | nil => intro i x; simp [cellsF]
  | cons e l ih =>
    intro i x
    match i with
    | 0 => simp [cellsF]
    | 1 => simp [cellsF]
    | 2 => simp [cellsF]
    | 3 => simp [cellsF]
    | i + 4 => simpa [cellsF] using ih i x
theorem cellsFA_get {es : List FE} {i : Nat} {e : FE} (h : es[i]? = some e) : (cellsFA es)[i * 4]? = some (.bool e.na) ∧ (cellsFA es)[i * 4 + 1]? = some (.slice e.A e.n e.c) ∧ (cellsFA es)[i * 4 + 2]? = some (.bool e.nb) ∧ (cellsFA es)[i * 4 + 3]? = some (.slice e.B e.m e.d) := by
  simpa [cellsFA] using cellsF_get h
theorem cellsFA_noLimb (es : List FE) : NoLimb (cellsFA es) := fun i x => by simpa [cellsFA] using cellsF_noLimb es i x
def zeroFE : FE := ⟨false, none, 0, 0, false, none, 0, 0, 0⟩
theorem cellsF_append (es fs : List FE) : cellsF (es ++ fs) = cellsF es ++ cellsF fs := by
  induction es with
  | nil => rfl
  | cons e l ih => simp only [List.cons_append, cellsF, ih]
theorem cellsF_one (fs : List FE) : ∀ u ∈ cellsF fs, u.oneCell' = true := by
  induction fs with
  | nil => intro u h; simp [cellsF] at h
  | cons e l ih =>
    intro u h
    simp only [cellsF, List.mem_cons] at h
    rcases h with rfl | rfl | rfl | rfl | h
    · rfl
    · rfl
    · rfl
    · rfl
    · exact ih u h
theorem zeroCells_frac (k : Nat) : (Builtin.zeroCells #[.bool false, .slice none 0 0, .bool false, .slice none 0 0] k).toList = cellsF (List.replicate k zeroFE) := by
  unfold Builtin.zeroCells
  apply List.ext_getElem?
  intro i
  by_cases h : i < k * 4
  · have he : (List.replicate k zeroFE)[i / 4]? = some zeroFE := by rw [List.getElem?_replicate, if_pos (by omega)]
    have hc := cellsF_get he
    have h4 : i % 4 = 0 ∨ i % 4 = 1 ∨ i % 4 = 2 ∨ i % 4 = 3 := by omega
    rcases h4 with h2 | h2 | h2 | h2
    · rw [show i / 4 * 4 = i by omega] at hc; rw [hc.1]; simp [h, h2, zeroFE]
    · rw [show i / 4 * 4 + 1 = i by omega] at hc; rw [hc.2.1]; simp [h, h2, zeroFE]
    · rw [show i / 4 * 4 + 2 = i by omega] at hc; rw [hc.2.2.1]; simp [h, h2, zeroFE]
    · rw [show i / 4 * 4 + 3 = i by omega] at hc; rw [hc.2.2.2]; simp [h, h2, zeroFE]
  · rw [List.getElem?_eq_none (by simp; omega), List.getElem?_eq_none (by rw [cellsF_length]; simp; omega)]

/-- The slice value v owns, from block base on, the numbers es; behind them lie zeros. -/
def RowF (t : TypeId) (w : World) (base : Nat) (v : Value) (es : List FE) : Prop :=
  (v = .slice none 0 0 ∧ es = []) ∨ ∃ g sp, v = .slice (some ⟨g, 0, none⟩) es.length (es.length + sp) ∧ base ≤ g ∧ es.length + sp ≤ maxLen ∧ Blk w g t (cellsFA (es ++ List.replicate sp zeroFE))

section
variable {t : TypeId} {w w' : World} {base : Nat} {v : Value} {es : List FE}
theorem RowF.own (h : RowF t w base v es) : w.ownsRow base t 4 v es.length (cellsF es) := by
  refine ⟨cellsF_length es, ?_⟩
  rcases h with ⟨h1, rfl⟩ | ⟨g, sp, h1, h2, h3, h4⟩
  · exact .inl ⟨h1, rfl⟩
  · refine .inr ⟨g, _, _, h1, h2, h4, Nat.le_add_right _ _, h3, ?_, ?_⟩
    · simp [cellsFA, cellsF_length]
    · simp only [cellsFA]
      rw [cellsF_append, ← cellsF_length es]
      exact List.take_left
theorem RowF.row_ge (h : RowF t w base v es) : ∀ k, v.ownBlock = some k → base ≤ k := fun k hk => (h.own.lt k hk).1
theorem RowF.kept (h : RowF t w base v es) (hb : Below w.heap.size w w') : RowF t w' base v es := by
  rcases h with h | ⟨g, sp, h1, h2, h3, h4⟩
  · exact .inl h
  · exact .inr ⟨g, sp, h1, h2, h3, keep_blk hb h4⟩
/-- Limbs stay as they are where the row grows. -/
theorem RowF.keep (h : RowF t w base v es) (hg : w.grownBy w' v.ownBlock) {A : Option Addr} {n c : Nat} {l : List Nat} (hL : Lim w A n c l) : Lim w' A n c l := by
  refine ⟨hL.1, hL.2.1, hL.2.2.1, hL.2.2.2.1, fun hn => ?_⟩
  obtain ⟨b, o, e, hc⟩ := hL.2.2.2.2 hn
  refine ⟨b, o, e, fun k hk => ?_⟩
  rw [← hc k hk]
  refine World.cell?_of_block (hg.block b (lt_of_cell (hc k hk)) (fun e' => ?_))
  rcases h with ⟨rfl, _⟩ | ⟨g, sp, rfl, _, _, h4⟩
  · cases e'
  · have hbg : b = g := by simpa [Value.ownBlock] using e'
    subst hbg
    have h1 := hc k hk
    rw [h4.cell] at h1
    exact cellsFA_noLimb _ _ _ h1
end

section
variable {P : Program} (w : World)

/-- An append of numbers onto a row of the call's own. -/
theorem run_append_frac (base : Nat) (t ty e : TypeId) (i : TypeInfo) (ht : P.underlying t = some (.slice e)) (hi : P.info? e = some i) (hz : i.zero = some (.agg #[.bool false, .slice none 0 0, .bool false, .slice none 0 0]))
    (hs : i.size = 4) (hby : i.bytes = 64) (v : Value) (es : List FE) (hown : RowF e w base v es)
    (B : Nat) (A : Option Addr) (m c : Nat) (fs : List FE) (hr : Reads w B 4 A m (cellsF fs)) (hm : fs.length = m) (h63 : es.length + m ≤ 1000) (hbase : base ≤ w.heap.size) :
    ∃ v' w', (Builtin.append_ #[t, t] ty #[v, .slice A m c]).run P w = .ok v' w' ∧ RowF e w' base v' (es ++ fs) ∧ w.grownBy w' v.ownBlock := by
  rcases Nat.eq_zero_or_pos m with h0 | h0
  · subst h0
    obtain rfl : fs = [] := List.eq_nil_of_length_eq_zero hm
    rw [List.append_nil]
    rcases A with _ | ad
    · exact ⟨v, w, run_append_of_nil w base t ty e i 4 ht hi v _ _ hown.own c, hown, World.grownBy.refl w _⟩
    · have hf := run_firstCells_some (P := P) w i.size 0 ad 0 c [] (by simp) (by simp)
      rcases hown with ⟨rfl, rfl⟩ | ⟨g, sp, rfl, h2, h3, h4⟩
      · refine ⟨.slice none 0 0, w, ?_, .inl ⟨rfl, rfl⟩, World.grownBy.refl w _⟩
        simp [Builtin.append_, run_underlying ht, sizeOf, typeInfo, hi, Builtin.lenOf, Builtin.firstCells, loadCells, loadCellsFrom]
      · refine ⟨_, w, ?_, .inr ⟨g, sp, rfl, h2, h3, h4⟩, World.grownBy.refl w _⟩
        simp [Builtin.append_, run_underlying ht, sizeOf, typeInfo, hi, Builtin.lenOf, Builtin.firstCells, loadCells, loadCellsFrom, storeCells]
  · obtain ⟨ad, rfl, _, hc⟩ := hr.2 h0
    have hl : (cellsF fs).length = m * i.size := by rw [cellsF_length, hm, hs]
    have hle : es.length * i.size = (cellsF es).length := by rw [cellsF_length, hs]
    rcases hown with ⟨rfl, rfl⟩ | ⟨g, sp, rfl, h2, h3, h4⟩
    · have hrun := run_append_nil (P := P) w t ty e i _ ht hi hz ad m c (cellsF fs) hl hc h0 (by omega) (by rw [hby]; omega)
      have hge := grownCap_ge w m 0 e
      have hcm := grownCap_le_maxLen w m 0 e (by unfold maxLen; simp only [List.length_nil] at h63; omega)
      refine ⟨_, _, hrun, .inr ⟨w.heap.size, grownCap w m 0 e - m, ?_, hbase, ?_, ?_⟩, ⟨rfl, rfl, rfl, by simp, fun k hk _ => Below.heap_alloc w.drew _ k hk⟩⟩
      · rw [List.nil_append, hm, Nat.add_sub_cancel' hge]
      · rw [List.nil_append, hm, Nat.add_sub_cancel' hge]; exact hcm
      · have := heap_alloc_new w.drew (.cells ((cellsF fs).toArray ++ Builtin.zeroCells (Value.agg #[.bool false, .slice none 0 0, .bool false, .slice none 0 0]).cells (grownCap w m 0 e - m)) e)
        unfold Blk
        refine this.trans ?_
        congr 1
        have hx : (cellsF fs).toArray ++ Builtin.zeroCells (Value.agg #[.bool false, .slice none 0 0, .bool false, .slice none 0 0]).cells (grownCap w m 0 e - m) = cellsFA ([] ++ fs ++ List.replicate (grownCap w m 0 e - m) zeroFE) := by
          apply Array.toList_inj.1
          rw [Array.toList_append, show (Value.agg #[.bool false, .slice none 0 0, .bool false, .slice none 0 0]).cells = #[.bool false, .slice none 0 0, .bool false, .slice none 0 0] from rfl, zeroCells_frac]
          simp [cellsFA, cellsF_append]
        rw [hx]
    · by_cases hroom : m ≤ sp
      · have hrun := run_append_room (P := P) w t ty e i ht hi g es.length (es.length + sp) _ h4 ad m c (cellsF fs) hl hc (cellsF_one fs) (by omega) (by rw [hle, cellsF_length, cellsF_length]; simp [cellsFA, cellsF_length]; omega)
        refine ⟨_, _, hrun, .inr ⟨g, sp - m, ?_, h2, ?_, ?_⟩, ⟨rfl, rfl, rfl, by simp [World.setRow], fun k _ hk => setRow_other w g k _ (fun e' => hk (by simp [Value.ownBlock, e']))⟩⟩
        · rw [List.length_append, hm, show es.length + m + (sp - m) = es.length + sp by omega]
        · rw [List.length_append, hm]; omega
        · refine (setRow_heap w g _ _ e _ h4).trans ?_
          congr 2
          unfold cellsFA
          congr 1
          rw [hle]
          have hrep : List.replicate sp zeroFE = List.replicate m zeroFE ++ List.replicate (sp - m) zeroFE := by rw [List.replicate_append_replicate]; congr 1; omega
          have hlm : (cellsF fs).length = (cellsF (List.replicate m zeroFE)).length := by rw [cellsF_length, cellsF_length, hm, List.length_replicate]
          simp only [cellsF_append]
          rw [List.take_left, hlm, ← List.length_append, hrep, cellsF_append, ← List.append_assoc (cellsF es), List.drop_left, List.append_assoc]
      · have holds : ∀ j u, (cellsF es)[j]? = some u → w.cell? ((⟨g, 0, none⟩ : Addr).add j) = some u := fun j u hu => by
          rw [add_lit, Nat.zero_add, h4.cell]
          simp only [cellsFA, List.getElem?_toArray, cellsF_append]
          rw [List.getElem?_append_left (by rw [List.getElem?_eq_some_iff] at hu; exact hu.1)]; exact hu
        have hrun := run_append_grow (P := P) w t ty e i _ ht hi hz ⟨g, 0, none⟩ es.length (es.length + sp) (cellsF es) hle.symm holds ad m c (cellsF fs) hl hc (by omega) (by omega) (growslice_fits (by omega) (by rw [hby]; omega))
        have hge := grownCap_ge w (es.length + m) (es.length + sp) e
        have hcm := grownCap_le_maxLen w (es.length + m) (es.length + sp) e (by unfold maxLen; omega)
        refine ⟨_, _, hrun, .inr ⟨w.heap.size, grownCap w (es.length + m) (es.length + sp) e - (es.length + m), ?_, hbase, ?_, ?_⟩, ⟨rfl, rfl, rfl, by simp, fun k hk _ => Below.heap_alloc w.drew _ k hk⟩⟩
        · rw [List.length_append, hm, Nat.add_sub_cancel' hge]
        · rw [List.length_append, hm, Nat.add_sub_cancel' hge]; exact hcm
        · have := heap_alloc_new w.drew (.cells ((cellsF es).toArray ++ (cellsF fs).toArray ++ Builtin.zeroCells (Value.agg #[.bool false, .slice none 0 0, .bool false, .slice none 0 0]).cells (grownCap w (es.length + m) (es.length + sp) e - (es.length + m))) e)
          unfold Blk
          refine this.trans ?_
          congr 1
          have hx : (cellsF es).toArray ++ (cellsF fs).toArray ++ Builtin.zeroCells (Value.agg #[.bool false, .slice none 0 0, .bool false, .slice none 0 0]).cells (grownCap w (es.length + m) (es.length + sp) e - (es.length + m)) = cellsFA (es ++ fs ++ List.replicate (grownCap w (es.length + m) (es.length + sp) e - (es.length + m)) zeroFE) := by
            apply Array.toList_inj.1
            rw [Array.toList_append, Array.toList_append, show (Value.agg #[.bool false, .slice none 0 0, .bool false, .slice none 0 0]).cells = #[.bool false, .slice none 0 0, .bool false, .slice none 0 0] from rfl, zeroCells_frac]
            simp [cellsFA, cellsF_append]
          rw [hx]
end


/-- The slice value v owns, from block base on, the fractions qs. -/
def OwnF (t : TypeId) (w : World) (base : Nat) (v : Value) (qs : List Rat) : Prop := ∃ es, RowF t w base v es ∧ (∀ e ∈ es, e.in_ w) ∧ es.map FE.q = qs
theorem Fr.of_keep {w w' : World} {na : Bool} {A : Option Addr} {n c : Nat} {nb : Bool} {B : Option Addr} {m d : Nat} {r : Rat} (h : Fr w na A n c nb B m d r) (hk : ∀ (A : Option Addr) (n c : Nat) (l : List Nat), Lim w A n c l → Lim w' A n c l) : Fr w' na A n c nb B m d r := ⟨⟨h.1.1, h.1.2.1, hk _ _ _ _ h.1.2.2⟩, ⟨h.2.1, h.2.2.1, hk _ _ _ _ h.2.2.2⟩⟩
section
variable {t : TypeId} {w w' : World} {base : Nat} {v : Value} {qs : List Rat}
theorem OwnF.nil (t : TypeId) (w : World) (base : Nat) : OwnF t w base (.slice none 0 0) [] := ⟨[], .inl ⟨rfl, rfl⟩, fun e h => by simp at h, rfl⟩
theorem OwnF.kept (h : OwnF t w base v qs) (hb : Below w.heap.size w w') : OwnF t w' base v qs := by
  obtain ⟨es, h1, h2, h3⟩ := h
  exact ⟨es, h1.kept hb, fun e he => (h2 e he).below hb, h3⟩
theorem OwnF.row_ge (h : OwnF t w base v qs) : ∀ k, v.ownBlock = some k → base ≤ k := by obtain ⟨es, h1, _⟩ := h; exact h1.row_ge
/-- A row of fractions in memory. -/
def FL (w : World) (A : Option Addr) (n c : Nat) (qs : List Rat) : Prop :=
  ∃ es : List FE, es.length = n ∧ n ≤ c ∧ c ≤ maxLen ∧ (∀ e ∈ es, e.in_ w) ∧ es.map FE.q = qs ∧ (0 < n → ∃ g o, A = some ⟨g, o, none⟩ ∧ ∀ (k : Nat) (e : FE), es[k]? = some e → w.cell? ⟨g, o + k * 4, none⟩ = some (.bool e.na) ∧ w.cell? ⟨g, o + (k * 4 + 1), none⟩ = some (.slice e.A e.n e.c) ∧ w.cell? ⟨g, o + (k * 4 + 2), none⟩ = some (.bool e.nb) ∧ w.cell? ⟨g, o + (k * 4 + 3), none⟩ = some (.slice e.B e.m e.d))
theorem OwnF.fl (h : OwnF t w base v qs) : ∃ A c, v = .slice A qs.length c ∧ FL w A qs.length c qs := by
  obtain ⟨es, h1, h2, rfl⟩ := h
  rcases h1 with ⟨rfl, rfl⟩ | ⟨g, sp, rfl, h4, h5, h6⟩
  · exact ⟨none, 0, rfl, [], rfl, Nat.le_refl _, Nat.zero_le _, fun e h => by simp at h, rfl, fun h => absurd h (by simp)⟩
  · rw [List.length_map]
    refine ⟨_, es.length + sp, rfl, es, rfl, Nat.le_add_right _ _, h5, h2, rfl, fun _ => ⟨g, 0, rfl, fun k e he => ?_⟩⟩
    have hk : k < es.length := (List.getElem?_eq_some_iff.1 he).1
    have hc := cellsFA_get (es := es ++ List.replicate sp zeroFE) (i := k) (e := e) (by rw [List.getElem?_append_left hk]; exact he)
    simp only [Nat.zero_add, h6.cell]
    exact hc
theorem FL.below {A : Option Addr} {n c : Nat} (h : FL w A n c qs) (hb : Below w.heap.size w w') : FL w' A n c qs := by
  obtain ⟨es, h1, h2, h3, h4, h5, h6⟩ := h
  refine ⟨es, h1, h2, h3, fun e he => (h4 e he).below hb, h5, fun hn => ?_⟩
  obtain ⟨g, o, e1, hc⟩ := h6 hn
  refine ⟨g, o, e1, fun k e he => ?_⟩
  obtain ⟨a, b, c', d⟩ := hc k e he
  exact ⟨(hb.cell (lt_of_cell a)).trans a, (hb.cell (lt_of_cell b)).trans b, (hb.cell (lt_of_cell c')).trans c', (hb.cell (lt_of_cell d)).trans d⟩
end
theorem reads_frac {w : World} {g : Nat} {t : TypeId} {na : Bool} {A : Option Addr} {n c : Nat} {nb : Bool} {B : Option Addr} {m d : Nat} (q : Rat) (h : Blk w g t #[.bool na, .slice A n c, .bool nb, .slice B m d]) : Reads w (g + 1) 4 (some ⟨g, 0, none⟩) 1 (cellsF [⟨na, A, n, c, nb, B, m, d, q⟩]) :=
  ⟨rfl, fun _ => ⟨_, rfl, Nat.lt_succ_self _, fun j u hu => by
    rw [add_lit, Nat.zero_add, h.cell]
    simpa [cellsF] using hu⟩⟩

section
variable {P : Program} (w : World)
theorem wp_append_frac {o : Oper} {a : Act} {K : Act → World → Prop} {Q : Exit → Act → World → Prop} (s x : Operand) (t : TypeId)
    (ho : o.op = .call { callee := .builtin .append, args := #[s, x], argTypes := #[t, t] })
    (base : Nat) (e : TypeId) (i : TypeInfo) (ht : P.underlying t = some (.slice e)) (hi : P.info? e = some i) (hz : i.zero = some (.agg #[.bool false, .slice none 0 0, .bool false, .slice none 0 0])) (hsi : i.size = 4) (hby : i.bytes = 64)
    (v : Value) (qs : List Rat) (hs : a.eval s = v) (hown : OwnF e w base v qs)
    (B : Nat) (A : Option Addr) (m c : Nat) (fs : List FE) (hx : a.eval x = .slice A m c) (hr : Reads w B 4 A m (cellsF fs)) (hm : fs.length = m) (hfs : ∀ e ∈ fs, e.in_ w)
    (h63 : qs.length + m ≤ 1000) (hbase : base ≤ w.heap.size)
    (h : ∀ v' w', OwnF e w' base v' (qs ++ fs.map FE.q) → w.grownBy w' v.ownBlock → (∀ (A : Option Addr) (n c : Nat) (l : List Nat), Lim w A n c l → Lim w' A n c l) → K (a.put o.dst v') w') : o.wp P a w K Q := by
  obtain ⟨es, h1, h2, rfl⟩ := hown
  rw [List.length_map] at h63
  obtain ⟨v', w', hrun, h3, h4⟩ := run_append_frac (P := P) w base t o.type e i ht hi hz hsi hby v es h1 B A m c fs hr hm h63 hbase
  unfold Oper.wp execOp
  simp only [ho, resolve, invoke, builtin, Sem.run_bind, Sem.run_pure, Result.andThen_ok, List.map_toArray, List.map_cons, List.map_nil, hs, hx, hrun]
  have hk : ∀ (A : Option Addr) (n c : Nat) (l : List Nat), Lim w A n c l → Lim w' A n c l := fun _ _ _ _ hL => h1.keep h4 hL
  refine h v' w' ⟨es ++ fs, h3, fun e he => ?_, by rw [List.map_append]⟩ h4 hk
  rcases List.mem_append.1 he with he | he
  · exact (h2 e he).of_keep hk
  · exact (hfs e he).of_keep hk
theorem wpList_append_frac {ops : Array Oper} {rest : List Oper} {o : Oper} {a : Act} {Q : Exit → Act → World → Prop} (hgd : o.guard = none) (s x : Operand) (t : TypeId)
    (ho : o.op = .call { callee := .builtin .append, args := #[s, x], argTypes := #[t, t] })
    (base : Nat) (e : TypeId) (i : TypeInfo) (ht : P.underlying t = some (.slice e)) (hi : P.info? e = some i) (hz : i.zero = some (.agg #[.bool false, .slice none 0 0, .bool false, .slice none 0 0])) (hsi : i.size = 4) (hby : i.bytes = 64)
    (v : Value) (qs : List Rat) (hs : a.eval s = v) (hown : OwnF e w base v qs)
    (B : Nat) (A : Option Addr) (m c : Nat) (fs : List FE) (hx : a.eval x = .slice A m c) (hr : Reads w B 4 A m (cellsF fs)) (hm : fs.length = m) (hfs : ∀ e ∈ fs, e.in_ w)
    (h63 : qs.length + m ≤ 1000) (hbase : base ≤ w.heap.size)
    (h : ∀ v' w', OwnF e w' base v' (qs ++ fs.map FE.q) → w.grownBy w' v.ownBlock → (∀ (A : Option Addr) (n c : Nat) (l : List Nat), Lim w A n c l → Lim w' A n c l) → wpList P ops Q rest (a.put o.dst v') w') : wpList P ops Q (o :: rest) a w :=
  wpList_plain hgd fun _ hK => wp_append_frac w s x t ho base e i ht hi hz hsi hby v qs hs hown B A m c fs hx hr hm hfs h63 hbase fun v' w' h2 h3 h4 => hK _ _ (h v' w' h2 h3 h4)
end
end Go.Proofs.Ytkippclhbkjbmaa

namespace Go.Proofs.Ytkippclhbkjbmaa
open Go.RowKit

/-- The sum of g over the first k of l. -/
def sumK (g : Int → Int) (l : List Int) : Nat → Int
  | 0 => 0
  | k + 1 => sumK g l k + g (l[k]?.getD 0)

/-- The sum of products of distances from a centre. -/
def secK (u v p : Int → Int) (X Y : Rat) (l : List Int) : Nat → Rat
  | 0 => 0
  | k + 1 => secK u v p X Y l k + ((u (l[k]?.getD 0) : Rat) - X) * ((v (l[k]?.getD 0) : Rat) - Y) * (p (l[k]?.getD 0) : Rat)

theorem secK_eq (u v p : Int → Int) (X Y : Rat) (l : List Int) (k : Nat) :
    secK u v p X Y l k = (sumK (fun i => u i * v i * p i) l k : Int) - X * (sumK (fun i => v i * p i) l k : Int) - Y * (sumK (fun i => u i * p i) l k : Int) + X * Y * (sumK p l k : Int) := by
  induction k with
  | zero => simp [secK, sumK]; grind
  | succ k ih =>
    simp only [secK, sumK, ih, Rat.intCast_add, Rat.intCast_mul]
    grind

theorem sec_div (u v p : Int → Int) (l : List Int) (n : Nat) (s : Int) (hs : 0 < s) (hp : sumK p l n = s) :
    secK u v p (Rat.divInt (sumK (fun i => u i * p i) l n) s) (Rat.divInt (sumK (fun i => v i * p i) l n) s) l n / (s : Rat) = Rat.divInt (sumK (fun i => u i * v i * p i) l n) s - Rat.divInt (sumK (fun i => u i * p i) l n) s * Rat.divInt (sumK (fun i => v i * p i) l n) s := by
  have h0 : (s : Rat) ≠ 0 := by
    intro h; have : s = 0 := by exact_mod_cast h
    omega
  rw [secK_eq, hp]
  simp only [Rat.divInt_eq_div]
  grind

theorem num_le (a b : Int) (h : b ≠ 0) : (Rat.divInt a b).num.natAbs ≤ a.natAbs := by
  rw [Rat.num_divInt]
  rw [Int.natAbs_ediv_of_dvd]
  · refine Nat.le_trans (Nat.div_le_self _ _) ?_
    rw [Int.natAbs_mul]
    rcases Int.lt_or_gt_of_ne h with g | g
    · rw [Int.sign_eq_neg_one_of_neg g]; simp
    · rw [Int.sign_eq_one_of_pos g]; simp
  · exact Int.dvd_trans (Int.gcd_dvd_right _ _) (Int.dvd_mul_left _ _)
theorem den_le (a b : Int) (h : b ≠ 0) : (Rat.divInt a b).den ≤ b.natAbs := by
  rw [Rat.den_divInt, if_neg h]
  exact Nat.div_le_self _ _

theorem pw_gt_one : 1 < pw 1 := by rw [pw_succ, pw_zero]; decide
/-- Fractions of few limbs. -/
def SmN (i j : Nat) (r : Rat) : Prop := r.num.natAbs < pw i ∧ r.den < pw j
theorem SmN.sm {i j : Nat} {r : Rat} (h : SmN i j r) (hi : i ≤ 1000) (hj : j ≤ 1000) : Sm r := ⟨Nat.lt_of_lt_of_le h.1 (pw_le hi), Nat.lt_of_lt_of_le h.2 (pw_le hj)⟩
theorem SmN.mono {i j i' j' : Nat} {r : Rat} (h : SmN i j r) (hi : i ≤ i') (hj : j ≤ j') : SmN i' j' r := ⟨Nat.lt_of_lt_of_le h.1 (pw_le hi), Nat.lt_of_lt_of_le h.2 (pw_le hj)⟩
theorem SmN.div {i j : Nat} {n s : Int} (h0 : 0 < s) (hn : n.natAbs < pw i) (hs : s.natAbs < pw j) : SmN i j (Rat.divInt n s) :=
  ⟨Nat.lt_of_le_of_lt (num_le n s (by omega)) hn, Nat.lt_of_le_of_lt (den_le n s (by omega)) hs⟩
theorem SmN.int {i : Nat} {n : Int} (hn : n.natAbs < pw i) : SmN i 1 (n : Rat) := ⟨by simpa using hn, by simp only [Rat.den_intCast]; exact pw_gt_one⟩
theorem SmN.mul {i j i' j' : Nat} {a b : Rat} (ha : SmN i j a) (hb : SmN i' j' b) : SmN (i + i') (j + j') (a * b) := by
  rw [← rat_mul]
  refine SmN.div (den_mul_pos a b) ?_ ?_
  · rw [Int.natAbs_mul]; exact mul_lt_pw ha.1 hb.1
  · rw [Int.natAbs_mul]; exact mul_lt_pw (by simpa using ha.2) (by simpa using hb.2)
theorem add_lt_pw {x y z v : Int} {i j i' j' : Nat} (hx : x.natAbs < pw i) (hy : y.natAbs < pw j) (hz : z.natAbs < pw i') (hv : v.natAbs < pw j') : (x * y).natAbs + (z * v).natAbs < pw (max (i + j) (i' + j') + 1) := by
  have h1 : (x * y).natAbs < pw (max (i + j) (i' + j')) := by
    rw [Int.natAbs_mul]; exact Nat.lt_of_lt_of_le (mul_lt_pw hx hy) (pw_le (by omega))
  have h2 : (z * v).natAbs < pw (max (i + j) (i' + j')) := by
    rw [Int.natAbs_mul]; exact Nat.lt_of_lt_of_le (mul_lt_pw hz hv) (pw_le (by omega))
  have h3 := pw_two (max (i + j) (i' + j'))
  omega
theorem SmN.dn {i j : Nat} {r : Rat} (h : SmN i j r) : ((r.den : Nat) : Int).natAbs < pw j := by simpa using h.2
theorem SmN.sub {i j i' j' : Nat} {a b : Rat} (ha : SmN i j a) (hb : SmN i' j' b) : SmN (max (i + j') (i' + j) + 1) (j + j') (a - b) := by
  rw [← rat_sub]
  refine SmN.div (den_mul_pos a b) ?_ ?_
  · have := add_lt_pw ha.1 hb.dn hb.1 ha.dn; omega
  · rw [Int.natAbs_mul]; exact mul_lt_pw ha.dn hb.dn
theorem SmN.add {i j i' j' : Nat} {a b : Rat} (ha : SmN i j a) (hb : SmN i' j' b) : SmN (max (i + j') (i' + j) + 1) (j + j') (a + b) := by
  rw [← rat_add]
  refine SmN.div (den_mul_pos a b) ?_ ?_
  · have := add_lt_pw ha.1 hb.dn hb.1 ha.dn; omega
  · rw [Int.natAbs_mul]; exact mul_lt_pw ha.dn hb.dn

theorem sumK_le {g : Int → Int} {B : Nat} (l : List Int) (k : Nat) (h : ∀ j, j < k → (g (l[j]?.getD 0)).natAbs ≤ B) : (sumK g l k).natAbs ≤ k * B := by
  induction k with
  | zero => simp [sumK]
  | succ k ih =>
    have h1 := ih (fun j hj => h j (by omega))
    have h2 := h k (by omega)
    simp only [sumK]
    rw [Nat.add_mul]
    omega

/-- The numbers of a moment about a centre stay small. -/
theorem secK_small {u v p : Int → Int} {X Y : Rat} (l : List Int) (k : Nat) (hX : SmN 2 2 X) (hY : SmN 2 2 Y) (hu : ∀ j, j < k → (u (l[j]?.getD 0)).natAbs < pw 1) (hv : ∀ j, j < k → (v (l[j]?.getD 0)).natAbs < pw 1) (hp : ∀ j, j < k → (p (l[j]?.getD 0)).natAbs < pw 2) : SmN (14 * k + 1) (14 * k + 1) (secK u v p X Y l k) := by
  induction k with
  | zero => exact ⟨by simp [secK]; exact pw_pos 1, by simp [secK]; exact pw_gt_one⟩
  | succ k ih =>
    have h1 := ih (fun j hj => hu j (by omega)) (fun j hj => hv j (by omega)) (fun j hj => hp j (by omega))
    have a1 := (SmN.int (hu k (by omega))).sub hX
    have a2 := (SmN.int (hv k (by omega))).sub hY
    have a3 := (a1.mul a2).mul (SmN.int (hp k (by omega)))
    simp only [secK]
    exact (h1.add a3).mono (by omega) (by omega)
end Go.Proofs.Ytkippclhbkjbmaa

namespace Go.Proofs.Ytkippclhbkjbmaa
open Go.RowKit
attribute [local go_sem] add_lit

/-- Is the size of a field valid? -/
def sizeOk (W H : Int) (n : Nat) : Bool := decide (1 ≤ W) && (decide (W ≤ 100) && (decide (1 ≤ H) && (decide (H ≤ 100) && decide ((n : Int) = W * H))))

set_option maxRecDepth 100000 in
set_option maxHeartbeats 1000000 in
theorem cCheck_bad (W H : Int) (A : Option Addr) (n c : Nat) (l : List Int) (w : World) (h : LimI w A n c l) (h9 : n ≤ 1000000000) (iW : I64 W) (iH : I64 H) (hs : sizeOk W H n = false) :
    Calls Try.prog 35 #[.agg #[.int .i64 W, .int .i64 H, .slice A n c]] w fun e w' => e = .returned (.int .i64 8) ∧ Below w.heap.size w w' := by
  obtain ⟨W0, hW0, hB0, q0, s0⟩ := alloc1 w 24 #[.int .i64 W, .int .i64 H, .slice A n c]
  have c0 := q0.cell 0
  have c1 := q0.cell 1
  have c2 := q0.cell 2
  simp at c0 c1 c2
  clear h
  have hwr : 1 ≤ W → W ≤ 100 → 1 ≤ H → H ≤ 100 → (n : Int) = wrap64 (W * H) → False := fun a1 a2 a3 a4 a5 => by
    have b1 : 0 ≤ W * H := Int.mul_nonneg (by omega) (by omega)
    have b2 : W * H ≤ 100 * 100 := Int.mul_le_mul a2 a4 (by omega) (by omega)
    rw [show wrap64 (W * H) = W * H by unfold wrap64; omega] at a5
    simp [sizeOk, a1, a2, a3, a4, a5] at hs
  replace hwr := hide hwr
  go_enter Try.func35, Try.ntmps35
  go_wp2_with fail
  all_goals first
    | exact (hwr.out ‹_› ‹_› ‹_› ‹_› ‹_›).elim
    | (go_ret; exact ⟨rfl, hB0⟩)

set_option maxRecDepth 100000 in
set_option maxHeartbeats 1000000 in
theorem cCheck_sized (W H : Int) (A : Option Addr) (n c : Nat) (l : List Int) (w : World) (h : LimI w A n c l) (h9 : n ≤ 1000000000) (hs : sizeOk W H n = true) (b : Bool) (hb : (decide (maxI l n ≤ 4294967296) && decide (-4294967296 ≤ minI l n)) = b) :
    Calls Try.prog 35 #[.agg #[.int .i64 W, .int .i64 H, .slice A n c]] w fun e w' => e = .returned (.int .i64 (errOf b)) ∧ Below w.heap.size w w' := by
  obtain ⟨W0, hW0, hB0, q0, s0⟩ := alloc1 w 24 #[.int .i64 W, .int .i64 H, .slice A n c]
  have c0 := q0.cell 0
  have c1 := q0.cell 1
  have c2 := q0.cell 2
  simp at c0 c1 c2
  replace h := h.below hB0
  obtain ⟨a1, a2, a3, a4, a5⟩ : 1 ≤ W ∧ W ≤ 100 ∧ 1 ≤ H ∧ H ≤ 100 ∧ (n : Int) = W * H := by simpa [sizeOk] using hs
  have b1 : 1 * 1 ≤ W * H := Int.mul_le_mul a1 a3 (by omega) (by omega)
  have b2 : W * H ≤ 100 * 100 := Int.mul_le_mul a2 a4 (by omega) (by omega)
  have t1 : decide (1 ≤ W) = true := by simpa using a1
  have t2 : decide (W ≤ 100) = true := by simpa using a2
  have t3 : decide (1 ≤ H) = true := by simpa using a3
  have t4 : decide (H ≤ 100) = true := by simpa using a4
  have t5 : ((n : Int) == wrap64 (W * H)) = true := by rw [show wrap64 (W * H) = W * H by unfold wrap64; omega, a5]; simp
  have hn : 0 < n := by omega
  have hM := hide (sMax_ok A n c l W0 h hn h9)
  have hm := hide (sMin_ok A n c l W0 h hn h9)
  generalize maxI l n = M at *
  generalize minI l n = m at *
  clear h a5 b1 b2 hs
  go_enter Try.func35, Try.ntmps35
  go_wp2_with fail
  refine hM.out.mono ?_
  rintro e w1 ⟨rfl, rfl⟩
  by_cases g1 : 4294967296 < M
  · have u1 : decide (4294967296 < M) = true := by simpa using g1
    have hb0 : b = false := by rw [← hb]; simp; omega
    subst hb0
    go_wp2_with fail
    go_ret
    exact ⟨rfl, hB0⟩
  · have u1 : decide (4294967296 < M) = false := by simpa using g1
    go_wp2_with fail
    refine hm.out.mono ?_
    rintro e w2 ⟨rfl, rfl⟩
    by_cases g2 : m < -4294967296
    · have u2 : decide (m < -4294967296) = true := by simpa using g2
      have hb0 : b = false := by rw [← hb]; simp; omega
      subst hb0
      go_wp2_with fail
      go_ret
      exact ⟨rfl, hB0⟩
    · have u2 : decide (m < -4294967296) = false := by simpa using g2
      have hb0 : b = true := by rw [← hb]; simp; omega
      subst hb0
      go_wp2_with fail
      go_ret
      exact ⟨rfl, hB0⟩
end Go.Proofs.Ytkippclhbkjbmaa

namespace Go.Proofs.Ytkippclhbkjbmaa
open Go.RowKit

def badAt (l : List Int) (n k : Nat) : Bool := decide (l[k]?.getD 0 < 0) || (decide ((n : Int) ≤ l[k]?.getD 0) || (decide (0 < k) && decide (l[k]?.getD 0 ≤ l[k - 1]?.getD 0)))
def listedTo (l : List Int) (n : Nat) : Nat → Bool
  | 0 => true
  | k + 1 => listedTo l n k && !badAt l n k
def listed (l : List Int) (n : Nat) : Bool := decide (0 < l.length) && listedTo l n l.length

theorem listedTo_bad {l : List Int} {n m k : Nat} (h : k < m) (hb : badAt l n k = true) : listedTo l n m = false := by
  induction m with
  | zero => omega
  | succ m ih =>
    simp only [listedTo]
    by_cases e : k = m
    · subst e; simp [hb]
    · simp [ih (by omega)]
theorem listedTo_good {l : List Int} {n m k : Nat} (h : listedTo l n m = true) (hk : k < m) : badAt l n k = false := by
  induction m with
  | zero => omega
  | succ m ih =>
    simp only [listedTo, Bool.and_eq_true] at h
    by_cases e : k = m
    · subst e; simpa using h.2
    · exact ih h.1 (by omega)
theorem badAt_false {l : List Int} {n k : Nat} (h : badAt l n k = false) : 0 ≤ l[k]?.getD 0 ∧ l[k]?.getD 0 < n ∧ (0 < k → l[k - 1]?.getD 0 < l[k]?.getD 0) := by
  simp only [badAt, Bool.or_eq_false_iff, Bool.and_eq_false_iff, decide_eq_false_iff_not] at h
  obtain ⟨h1, h2, h3⟩ := h
  refine ⟨by omega, by omega, fun hk => ?_⟩
  rcases h3 with h3 | h3 <;> omega
theorem badAt_true {l : List Int} {n k : Nat} : badAt l n k = true ↔ (l[k]?.getD 0 < 0 ∨ (n : Int) ≤ l[k]?.getD 0 ∨ (0 < k ∧ l[k]?.getD 0 ≤ l[k - 1]?.getD 0)) := by
  simp only [badAt, Bool.or_eq_true, Bool.and_eq_true, decide_eq_true_eq]
theorem listed_in {l : List Int} {n k : Nat} (h : listed l n = true) (hk : k < l.length) : 0 ≤ l[k]?.getD 0 ∧ l[k]?.getD 0 < n := by
  simp only [listed, Bool.and_eq_true] at h
  have := badAt_false (listedTo_good h.2 hk)
  exact ⟨this.1, this.2.1⟩
theorem listed_pos {l : List Int} {n : Nat} (h : listed l n = true) : 0 < l.length := by
  simp only [listed, Bool.and_eq_true, decide_eq_true_eq] at h
  exact h.1

/-- A pixel. -/
def pix (ps : List Int) (i : Int) : Int := ps[i.toNat]?.getD 0
def inPix (x : Int) : Bool := decide (-4294967296 ≤ x) && decide (x ≤ 4294967296)
def okPix (ps : List Int) : Nat → Bool
  | 0 => true
  | k + 1 => okPix ps k && inPix (ps[k]?.getD 0)
theorem okPix_bad {ps : List Int} {m k : Nat} (h : k < m) (hb : inPix (ps[k]?.getD 0) = false) : okPix ps m = false := by
  induction m with
  | zero => omega
  | succ m ih =>
    simp only [okPix]
    by_cases e : k = m
    · subst e; simp [hb]
    · simp [ih (by omega)]
theorem okPix_good {ps : List Int} {m k : Nat} (h : okPix ps m = true) (hk : k < m) : -4294967296 ≤ ps[k]?.getD 0 ∧ ps[k]?.getD 0 ≤ 4294967296 := by
  induction m with
  | zero => omega
  | succ m ih =>
    simp only [okPix, Bool.and_eq_true] at h
    by_cases e : k = m
    · subst e; simpa [inPix] using h.2
    · exact ih h.1 (by omega)
theorem okPix_max (ps : List Int) (n : Nat) (h : 0 < n) : (decide (maxI ps n ≤ 4294967296) && decide (-4294967296 ≤ minI ps n)) = okPix ps n := by
  have key : ∀ m, (decide (maxI ps (m + 1) ≤ 4294967296) && decide (-4294967296 ≤ minI ps (m + 1))) = okPix ps (m + 1) := by
    intro m
    induction m with
    | zero => simp [maxI, minI, okPix, inPix, Bool.and_comm]
    | succ m ih =>
      rw [show okPix ps (m + 1 + 1) = (okPix ps (m + 1) && inPix (ps[m + 1]?.getD 0)) from rfl, ← ih, Bool.eq_iff_iff, show maxI ps (m + 1 + 1) = max (maxI ps (m + 1)) (ps[m + 1]?.getD 0) from rfl, show minI ps (m + 1 + 1) = min (minI ps (m + 1)) (ps[m + 1]?.getD 0) from rfl]
      simp only [inPix, Bool.and_eq_true, decide_eq_true_eq]
      omega
  obtain ⟨m, rfl⟩ : ∃ m, n = m + 1 := ⟨n - 1, by omega⟩
  exact key m

def fieldOk (W H : Int) (n : Nat) (ps : List Int) : Bool := sizeOk W H n && okPix ps n
/-- The error of a field and a list. -/
def startE (W H : Int) (n : Nat) (ps l : List Int) : Int := if fieldOk W H n ps then (if listed l n then 0 else 2) else 8
theorem startE_zero {W H : Int} {n : Nat} {ps l : List Int} (h : startE W H n ps l = 0) : fieldOk W H n ps = true ∧ listed l n = true := by
  unfold startE at h
  by_cases h1 : fieldOk W H n ps = true
  · rw [if_pos h1] at h
    by_cases h2 : listed l n = true
    · exact ⟨h1, h2⟩
    · rw [if_neg h2] at h; omega
  · rw [if_neg h1] at h; omega
theorem fieldOk_size {W H : Int} {n : Nat} {ps : List Int} (h : fieldOk W H n ps = true) : 1 ≤ W ∧ W ≤ 100 ∧ 1 ≤ H ∧ H ≤ 100 ∧ (n : Int) = W * H := by
  simp only [fieldOk, Bool.and_eq_true] at h
  simpa [sizeOk] using h.1
theorem fieldOk_pix {W H : Int} {n : Nat} {ps : List Int} (h : fieldOk W H n ps = true) {i : Int} (h0 : 0 ≤ i) (h1 : i < n) : -4294967296 ≤ pix ps i ∧ pix ps i ≤ 4294967296 := by
  simp only [fieldOk, Bool.and_eq_true] at h
  exact okPix_good h.2 (by omega)
end Go.Proofs.Ytkippclhbkjbmaa
