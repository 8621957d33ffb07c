/- Rows of fractions of the call's own. Rows of fractions in a block of the call's own, whose elements may be written. The reference of polynomials: fractions; Over of fractions. Division with fractions as the reference reckons it: what is left (plain). A drawn region, whatever its order: each operation of a set is walked once. What it yields meets a predicate that stays while memory grows. A drawn region, whatever its order: as XAll, and behind an operation those that read no memory and wait for it are taken at once. The reference's division of polynomials with fractions, where nothing is left. -/
import Derived.Maps.AppendAt
import Derived.Test.YtljocgdhdilglaaGreatZr01
import Derived.Test.YtljocgdhdilglaaGreatZr46
import Derived.Test.YtljocgdhdilglaaGreatZr35
import Derived.Test.YtljocgdhdilglaaGreatZr51
import Derived.Test.YtljocgdhdilglaaGreatZr36
import Derived.Test.YtljocgdhdilglaaGreatZf01
import Derived.Test.YtljocgdhdilglaaGreatZr47
import Derived.Test.YtljocgdhdilglaaGreatZr48
set_option linter.unusedSimpArgs false
set_option linter.unusedVariables false

namespace Go.Proofs.YtljocgdhdilglaaGreat
open Go.RowKit

/-- A fraction in memory. -/
structure FE where
  na : Bool
  A : Option Addr
  n : Nat
  c : Nat
  nb : Bool
  B : Option Addr
  m : Nat
  d : Nat
  q : Rat
def FE.in_ (w : World) (e : FE) : Prop := Fr w e.na e.A e.n e.c e.nb e.B e.m e.d e.q
def cellsF : List FE → List Value
  | [] => []
  | e :: l => .bool e.na :: .slice e.A e.n e.c :: .bool e.nb :: .slice e.B e.m e.d :: cellsF l
def cellsFA (es : List FE) : Array Value := (cellsF es).toArray
theorem cellsF_length (es : List FE) : (cellsF es).length = es.length * 4 := by
  induction es with
  | nil => rfl
  | cons e l ih => simp only [cellsF, List.length_cons, ih]; omega
theorem cellsF_get {es : List FE} {i : Nat} {e : FE} (h : es[i]? = some e) : (cellsF es)[i * 4]? = some (.bool e.na) ∧ (cellsF es)[i * 4 + 1]? = some (.slice e.A e.n e.c) ∧ (cellsF es)[i * 4 + 2]? = some (.bool e.nb) ∧ (cellsF es)[i * 4 + 3]? = some (.slice e.B e.m e.d) := by
  induction es generalizing i with
  | nil => simp at h
  | cons x l ih =>
    cases i with
    | zero => simp at h; subst h; simp [cellsF]
    | succ i =>
      have := ih (by simpa using h)
      rw [show (i + 1) * 4 = i * 4 + 4 by omega]
      simpa [cellsF] using this
theorem cellsF_noLimb (es : List FE) : ∀ (i x : Nat), (cellsF es)[i]? ≠ some (limb x) := by
  induction es with
  | nil => intro i x; simp [cellsF]
  | cons e l ih =>
    intro i x
    match i with
    | 0 => simp [cellsF]
    | 1 => simp [cellsF]
    | 2 => simp [cellsF]
    | 3 => simp [cellsF]
    | i + 4 => simpa [cellsF] using ih i x
theorem cellsFA_get {es : List FE} {i : Nat} {e : FE} (h : es[i]? = some e) : (cellsFA es)[i * 4]? = some (.bool e.na) ∧ (cellsFA es)[i * 4 + 1]? = some (.slice e.A e.n e.c) ∧ (cellsFA es)[i * 4 + 2]? = some (.bool e.nb) ∧ (cellsFA es)[i * 4 + 3]? = some (.slice e.B e.m e.d) := by
  simpa [cellsFA] using cellsF_get h
theorem cellsFA_noLimb (es : List FE) : NoLimb (cellsFA es) := fun i x => by simpa [cellsFA] using cellsF_noLimb es i x
def zeroFE : FE := ⟨false, none, 0, 0, false, none, 0, 0, 0⟩
theorem cellsF_append (es fs : List FE) : cellsF (es ++ fs) = cellsF es ++ cellsF fs := by
  induction es with
  | nil => rfl
  | cons e l ih => simp only [List.cons_append, cellsF, ih]
theorem cellsF_one (fs : List FE) : ∀ u ∈ cellsF fs, u.oneCell' = true := by
  induction fs with
  | nil => intro u h; simp [cellsF] at h
  | cons e l ih =>
    intro u h
    simp only [cellsF, List.mem_cons] at h
    rcases h with rfl | rfl | rfl | rfl | h
    · rfl
    · rfl
    · rfl
    · rfl
    · exact ih u h
theorem zeroCells_frac (k : Nat) : (Builtin.zeroCells #[.bool false, .slice none 0 0, .bool false, .slice none 0 0] k).toList = cellsF (List.replicate k zeroFE) := by
  unfold Builtin.zeroCells
  apply List.ext_getElem?
  intro i
  by_cases h : i < k * 4
  · have he : (List.replicate k zeroFE)[i / 4]? = some zeroFE := by rw [List.getElem?_replicate, if_pos (by omega)]
    have hc := cellsF_get he
    have h4 : i % 4 = 0 ∨ i % 4 = 1 ∨ i % 4 = 2 ∨ i % 4 = 3 := by omega
    rcases h4 with h2 | h2 | h2 | h2
    · rw [show i / 4 * 4 = i by omega] at hc; rw [hc.1]; simp [h, h2, zeroFE]
    · rw [show i / 4 * 4 + 1 = i by omega] at hc; rw [hc.2.1]; simp [h, h2, zeroFE]
    · rw [show i / 4 * 4 + 2 = i by omega] at hc; rw [hc.2.2.1]; simp [h, h2, zeroFE]
    · rw [show i / 4 * 4 + 3 = i by omega] at hc; rw [hc.2.2.2]; simp [h, h2, zeroFE]
  · rw [List.getElem?_eq_none (by simp; omega), List.getElem?_eq_none (by rw [cellsF_length]; simp; omega)]

/-- The slice value v owns, from block base on, the numbers es; behind them lie zeros. -/
def RowF (t : TypeId) (w : World) (base : Nat) (v : Value) (es : List FE) : Prop :=
  (v = .slice none 0 0 ∧ es = []) ∨ ∃ g sp, v = .slice (some ⟨g, 0, none⟩) es.length (es.length + sp) ∧ base ≤ g ∧ es.length + sp ≤ maxLen ∧ Blk w g t (cellsFA (es ++ List.replicate sp zeroFE))

section
variable {t : TypeId} {w w' : World} {base : Nat} {v : Value} {es : List FE}
theorem RowF.own (h : RowF t w base v es) : w.ownsRow base t 4 v es.length (cellsF es) := by
  refine ⟨cellsF_length es, ?_⟩
  rcases h with ⟨h1, rfl⟩ | ⟨g, sp, h1, h2, h3, h4⟩
  · exact .inl ⟨h1, rfl⟩
  · refine .inr ⟨g, _, _, h1, h2, h4, Nat.le_add_right _ _, h3, ?_, ?_⟩
    · simp [cellsFA, cellsF_length]
    · simp only [cellsFA]
      rw [cellsF_append, ← cellsF_length es]
      exact List.take_left
theorem RowF.row_ge (h : RowF t w base v es) : ∀ k, v.ownBlock = some k → base ≤ k := fun k hk => (h.own.lt k hk).1
theorem RowF.kept (h : RowF t w base v es) (hb : Below w.heap.size w w') : RowF t w' base v es := by
  rcases h with h | ⟨g, sp, h1, h2, h3, h4⟩
  · exact .inl h
  · exact .inr ⟨g, sp, h1, h2, h3, keep_blk hb h4⟩
/-- Limbs stay as they are where the row grows. -/
theorem RowF.keep (h : RowF t w base v es) (hg : w.grownBy w' v.ownBlock) {A : Option Addr} {n c : Nat} {l : List Nat} (hL : Lim w A n c l) : Lim w' A n c l := by
  refine ⟨hL.1, hL.2.1, hL.2.2.1, hL.2.2.2.1, fun hn => ?_⟩
  obtain ⟨b, o, e, hc⟩ := hL.2.2.2.2 hn
  refine ⟨b, o, e, fun k hk => ?_⟩
  rw [← hc k hk]
  refine World.cell?_of_block (hg.block b (lt_of_cell (hc k hk)) (fun e' => ?_))
  rcases h with ⟨rfl, _⟩ | ⟨g, sp, rfl, _, _, h4⟩
  · cases e'
  · have hbg : b = g := by simpa [Value.ownBlock] using e'
    subst hbg
    have h1 := hc k hk
    rw [h4.cell] at h1
    exact cellsFA_noLimb _ _ _ h1
end

section
variable {P : Program} (w : World)

/-- An append of numbers onto a row of the call's own. -/
theorem run_append_frac (base : Nat) (t ty e : TypeId) (i : TypeInfo) (ht : P.underlying t = some (.slice e)) (hi : P.info? e = some i) (hz : i.zero = some (.agg #[.bool false, .slice none 0 0, .bool false, .slice none 0 0]))
    (hs : i.size = 4) (hby : i.bytes = 64) (v : Value) (es : List FE) (hown : RowF e w base v es)
    (B : Nat) (A : Option Addr) (m c : Nat) (fs : List FE) (hr : Reads w B 4 A m (cellsF fs)) (hm : fs.length = m) (h63 : es.length + m ≤ 1000) (hbase : base ≤ w.heap.size) :
    ∃ v' w', (Builtin.append_ #[t, t] ty #[v, .slice A m c]).run P w = .ok v' w' ∧ RowF e w' base v' (es ++ fs) ∧ w.grownBy w' v.ownBlock := by
  rcases Nat.eq_zero_or_pos m with h0 | h0
  · subst h0
    obtain rfl : fs = [] := List.eq_nil_of_length_eq_zero hm
    rw [List.append_nil]
    rcases A with _ | ad
    · exact ⟨v, w, run_append_of_nil w base t ty e i 4 ht hi v _ _ hown.own c, hown, World.grownBy.refl w _⟩
    · have hf := run_firstCells_some (P := P) w i.size 0 ad 0 c [] (by simp) (by simp)
      rcases hown with ⟨rfl, rfl⟩ | ⟨g, sp, rfl, h2, h3, h4⟩
      · refine ⟨.slice none 0 0, w, ?_, .inl ⟨rfl, rfl⟩, World.grownBy.refl w _⟩
        simp [Builtin.append_, run_underlying ht, sizeOf, typeInfo, hi, Builtin.lenOf, Builtin.firstCells, loadCells, loadCellsFrom]
      · refine ⟨_, w, ?_, .inr ⟨g, sp, rfl, h2, h3, h4⟩, World.grownBy.refl w _⟩
        simp [Builtin.append_, run_underlying ht, sizeOf, typeInfo, hi, Builtin.lenOf, Builtin.firstCells, loadCells, loadCellsFrom, storeCells]
  · obtain ⟨ad, rfl, _, hc⟩ := hr.2 h0
    have hl : (cellsF fs).length = m * i.size := by rw [cellsF_length, hm, hs]
    have hle : es.length * i.size = (cellsF es).length := by rw [cellsF_length, hs]
    rcases hown with ⟨rfl, rfl⟩ | ⟨g, sp, rfl, h2, h3, h4⟩
    · have hrun := run_append_nil (P := P) w t ty e i _ ht hi hz ad m c (cellsF fs) hl hc h0 (by omega) (by rw [hby]; omega)
      have hge := grownCap_ge w m 0 e
      have hcm := grownCap_le_maxLen w m 0 e (by unfold maxLen; simp only [List.length_nil] at h63; omega)
      refine ⟨_, _, hrun, .inr ⟨w.heap.size, grownCap w m 0 e - m, ?_, hbase, ?_, ?_⟩, ⟨rfl, rfl, rfl, by simp, fun k hk _ => Below.heap_alloc w.drew _ k hk⟩⟩
      · rw [List.nil_append, hm, Nat.add_sub_cancel' hge]
      · rw [List.nil_append, hm, Nat.add_sub_cancel' hge]; exact hcm
      · have := heap_alloc_new w.drew (.cells ((cellsF fs).toArray ++ Builtin.zeroCells (Value.agg #[.bool false, .slice none 0 0, .bool false, .slice none 0 0]).cells (grownCap w m 0 e - m)) e)
        unfold Blk
        refine this.trans ?_
        congr 1
        have hx : (cellsF fs).toArray ++ Builtin.zeroCells (Value.agg #[.bool false, .slice none 0 0, .bool false, .slice none 0 0]).cells (grownCap w m 0 e - m) = cellsFA ([] ++ fs ++ List.replicate (grownCap w m 0 e - m) zeroFE) := by
          apply Array.toList_inj.1
          rw [Array.toList_append, show (Value.agg #[.bool false, .slice none 0 0, .bool false, .slice none 0 0]).cells = #[.bool false, .slice none 0 0, .bool false, .slice none 0 0] from rfl, zeroCells_frac]
          simp [cellsFA, cellsF_append]
        rw [hx]
    · by_cases hroom : m ≤ sp
      · have hrun := run_append_room (P := P) w t ty e i ht hi g es.length (es.length + sp) _ h4 ad m c (cellsF fs) hl hc (cellsF_one fs) (by omega) (by rw [hle, cellsF_length, cellsF_length]; simp [cellsFA, cellsF_length]; omega)
        refine ⟨_, _, hrun, .inr ⟨g, sp - m, ?_, h2, ?_, ?_⟩, ⟨rfl, rfl, rfl, by simp [World.setRow], fun k _ hk => setRow_other w g k _ (fun e' => hk (by simp [Value.ownBlock, e']))⟩⟩
        · rw [List.length_append, hm, show es.length + m + (sp - m) = es.length + sp by omega]
        · rw [List.length_append, hm]; omega
        · refine (setRow_heap w g _ _ e _ h4).trans ?_
          congr 2
          unfold cellsFA
          congr 1
          rw [hle]
          have hrep : List.replicate sp zeroFE = List.replicate m zeroFE ++ List.replicate (sp - m) zeroFE := by rw [List.replicate_append_replicate]; congr 1; omega
          have hlm : (cellsF fs).length = (cellsF (List.replicate m zeroFE)).length := by rw [cellsF_length, cellsF_length, hm, List.length_replicate]
          simp only [cellsF_append]
          rw [List.take_left, hlm, ← List.length_append, hrep, cellsF_append, ← List.append_assoc (cellsF es), List.drop_left, List.append_assoc]
      · have holds : ∀ j u, (cellsF es)[j]? = some u → w.cell? ((⟨g, 0, none⟩ : Addr).add j) = some u := fun j u hu => by
          rw [add_lit, Nat.zero_add, h4.cell]
          simp only [cellsFA, List.getElem?_toArray, cellsF_append]
          rw [List.getElem?_append_left (by rw [List.getElem?_eq_some_iff] at hu; exact hu.1)]; exact hu
        have hrun := run_append_grow (P := P) w t ty e i _ ht hi hz ⟨g, 0, none⟩ es.length (es.length + sp) (cellsF es) hle.symm holds ad m c (cellsF fs) hl hc (by omega) (by omega) (growslice_fits (by omega) (by rw [hby]; omega))
        have hge := grownCap_ge w (es.length + m) (es.length + sp) e
        have hcm := grownCap_le_maxLen w (es.length + m) (es.length + sp) e (by unfold maxLen; omega)
        refine ⟨_, _, hrun, .inr ⟨w.heap.size, grownCap w (es.length + m) (es.length + sp) e - (es.length + m), ?_, hbase, ?_, ?_⟩, ⟨rfl, rfl, rfl, by simp, fun k hk _ => Below.heap_alloc w.drew _ k hk⟩⟩
        · rw [List.length_append, hm, Nat.add_sub_cancel' hge]
        · rw [List.length_append, hm, Nat.add_sub_cancel' hge]; exact hcm
        · have := heap_alloc_new w.drew (.cells ((cellsF es).toArray ++ (cellsF fs).toArray ++ Builtin.zeroCells (Value.agg #[.bool false, .slice none 0 0, .bool false, .slice none 0 0]).cells (grownCap w (es.length + m) (es.length + sp) e - (es.length + m))) e)
          unfold Blk
          refine this.trans ?_
          congr 1
          have hx : (cellsF es).toArray ++ (cellsF fs).toArray ++ Builtin.zeroCells (Value.agg #[.bool false, .slice none 0 0, .bool false, .slice none 0 0]).cells (grownCap w (es.length + m) (es.length + sp) e - (es.length + m)) = cellsFA (es ++ fs ++ List.replicate (grownCap w (es.length + m) (es.length + sp) e - (es.length + m)) zeroFE) := by
            apply Array.toList_inj.1
            rw [Array.toList_append, Array.toList_append, show (Value.agg #[.bool false, .slice none 0 0, .bool false, .slice none 0 0]).cells = #[.bool false, .slice none 0 0, .bool false, .slice none 0 0] from rfl, zeroCells_frac]
            simp [cellsFA, cellsF_append]
          rw [hx]
end


/-- The slice value v owns, from block base on, the fractions qs. -/
def OwnF (t : TypeId) (w : World) (base : Nat) (v : Value) (qs : List Rat) : Prop := ∃ es, RowF t w base v es ∧ (∀ e ∈ es, e.in_ w) ∧ es.map FE.q = qs
theorem Fr.of_keep {w w' : World} {na : Bool} {A : Option Addr} {n c : Nat} {nb : Bool} {B : Option Addr} {m d : Nat} {r : Rat} (h : Fr w na A n c nb B m d r) (hk : ∀ (A : Option Addr) (n c : Nat) (l : List Nat), Lim w A n c l → Lim w' A n c l) : Fr w' na A n c nb B m d r := ⟨⟨h.1.1, h.1.2.1, hk _ _ _ _ h.1.2.2⟩, ⟨h.2.1, h.2.2.1, hk _ _ _ _ h.2.2.2⟩⟩
section
variable {t : TypeId} {w w' : World} {base : Nat} {v : Value} {qs : List Rat}
theorem OwnF.nil (t : TypeId) (w : World) (base : Nat) : OwnF t w base (.slice none 0 0) [] := ⟨[], .inl ⟨rfl, rfl⟩, fun e h => by simp at h, rfl⟩
theorem OwnF.kept (h : OwnF t w base v qs) (hb : Below w.heap.size w w') : OwnF t w' base v qs := by
  obtain ⟨es, h1, h2, h3⟩ := h
  exact ⟨es, h1.kept hb, fun e he => (h2 e he).below hb, h3⟩
theorem OwnF.row_ge (h : OwnF t w base v qs) : ∀ k, v.ownBlock = some k → base ≤ k := by obtain ⟨es, h1, _⟩ := h; exact h1.row_ge
/-- A row of fractions in memory. -/
def FL (w : World) (A : Option Addr) (n c : Nat) (qs : List Rat) : Prop :=
  ∃ es : List FE, es.length = n ∧ n ≤ c ∧ c ≤ maxLen ∧ (∀ e ∈ es, e.in_ w) ∧ es.map FE.q = qs ∧ (0 < n → ∃ g o, A = some ⟨g, o, none⟩ ∧ ∀ (k : Nat) (e : FE), es[k]? = some e → w.cell? ⟨g, o + k * 4, none⟩ = some (.bool e.na) ∧ w.cell? ⟨g, o + (k * 4 + 1), none⟩ = some (.slice e.A e.n e.c) ∧ w.cell? ⟨g, o + (k * 4 + 2), none⟩ = some (.bool e.nb) ∧ w.cell? ⟨g, o + (k * 4 + 3), none⟩ = some (.slice e.B e.m e.d))
theorem OwnF.fl (h : OwnF t w base v qs) : ∃ A c, v = .slice A qs.length c ∧ FL w A qs.length c qs := by
  obtain ⟨es, h1, h2, rfl⟩ := h
  rcases h1 with ⟨rfl, rfl⟩ | ⟨g, sp, rfl, h4, h5, h6⟩
  · exact ⟨none, 0, rfl, [], rfl, Nat.le_refl _, Nat.zero_le _, fun e h => by simp at h, rfl, fun h => absurd h (by simp)⟩
  · rw [List.length_map]
    refine ⟨_, es.length + sp, rfl, es, rfl, Nat.le_add_right _ _, h5, h2, rfl, fun _ => ⟨g, 0, rfl, fun k e he => ?_⟩⟩
    have hk : k < es.length := (List.getElem?_eq_some_iff.1 he).1
    have hc := cellsFA_get (es := es ++ List.replicate sp zeroFE) (i := k) (e := e) (by rw [List.getElem?_append_left hk]; exact he)
    simp only [Nat.zero_add, h6.cell]
    exact hc
theorem FL.below {A : Option Addr} {n c : Nat} (h : FL w A n c qs) (hb : Below w.heap.size w w') : FL w' A n c qs := by
  obtain ⟨es, h1, h2, h3, h4, h5, h6⟩ := h
  refine ⟨es, h1, h2, h3, fun e he => (h4 e he).below hb, h5, fun hn => ?_⟩
  obtain ⟨g, o, e1, hc⟩ := h6 hn
  refine ⟨g, o, e1, fun k e he => ?_⟩
  obtain ⟨a, b, c', d⟩ := hc k e he
  exact ⟨(hb.cell (lt_of_cell a)).trans a, (hb.cell (lt_of_cell b)).trans b, (hb.cell (lt_of_cell c')).trans c', (hb.cell (lt_of_cell d)).trans d⟩
end
theorem reads_frac {w : World} {g : Nat} {t : TypeId} {na : Bool} {A : Option Addr} {n c : Nat} {nb : Bool} {B : Option Addr} {m d : Nat} (q : Rat) (h : Blk w g t #[.bool na, .slice A n c, .bool nb, .slice B m d]) : Reads w (g + 1) 4 (some ⟨g, 0, none⟩) 1 (cellsF [⟨na, A, n, c, nb, B, m, d, q⟩]) :=
  ⟨rfl, fun _ => ⟨_, rfl, Nat.lt_succ_self _, fun j u hu => by
    rw [add_lit, Nat.zero_add, h.cell]
    simpa [cellsF] using hu⟩⟩

section
variable {P : Program} (w : World)
theorem wp_append_frac {o : Oper} {a : Act} {K : Act → World → Prop} {Q : Exit → Act → World → Prop} (s x : Operand) (t : TypeId)
    (ho : o.op = .call { callee := .builtin .append, args := #[s, x], argTypes := #[t, t] })
    (base : Nat) (e : TypeId) (i : TypeInfo) (ht : P.underlying t = some (.slice e)) (hi : P.info? e = some i) (hz : i.zero = some (.agg #[.bool false, .slice none 0 0, .bool false, .slice none 0 0])) (hsi : i.size = 4) (hby : i.bytes = 64)
    (v : Value) (qs : List Rat) (hs : a.eval s = v) (hown : OwnF e w base v qs)
    (B : Nat) (A : Option Addr) (m c : Nat) (fs : List FE) (hx : a.eval x = .slice A m c) (hr : Reads w B 4 A m (cellsF fs)) (hm : fs.length = m) (hfs : ∀ e ∈ fs, e.in_ w)
    (h63 : qs.length + m ≤ 1000) (hbase : base ≤ w.heap.size)
    (h : ∀ v' w', OwnF e w' base v' (qs ++ fs.map FE.q) → w.grownBy w' v.ownBlock → (∀ (A : Option Addr) (n c : Nat) (l : List Nat), Lim w A n c l → Lim w' A n c l) → K (a.put o.dst v') w') : o.wp P a w K Q := by
  obtain ⟨es, h1, h2, rfl⟩ := hown
  rw [List.length_map] at h63
  obtain ⟨v', w', hrun, h3, h4⟩ := run_append_frac (P := P) w base t o.type e i ht hi hz hsi hby v es h1 B A m c fs hr hm h63 hbase
  unfold Oper.wp execOp
  simp only [ho, resolve, invoke, builtin, Sem.run_bind, Sem.run_pure, Result.andThen_ok, List.map_toArray, List.map_cons, List.map_nil, hs, hx, hrun]
  have hk : ∀ (A : Option Addr) (n c : Nat) (l : List Nat), Lim w A n c l → Lim w' A n c l := fun _ _ _ _ hL => h1.keep h4 hL
  refine h v' w' ⟨es ++ fs, h3, fun e he => ?_, by rw [List.map_append]⟩ h4 hk
  rcases List.mem_append.1 he with he | he
  · exact (h2 e he).of_keep hk
  · exact (hfs e he).of_keep hk
theorem wpList_append_frac {ops : Array Oper} {rest : List Oper} {o : Oper} {a : Act} {Q : Exit → Act → World → Prop} (hgd : o.guard = none) (s x : Operand) (t : TypeId)
    (ho : o.op = .call { callee := .builtin .append, args := #[s, x], argTypes := #[t, t] })
    (base : Nat) (e : TypeId) (i : TypeInfo) (ht : P.underlying t = some (.slice e)) (hi : P.info? e = some i) (hz : i.zero = some (.agg #[.bool false, .slice none 0 0, .bool false, .slice none 0 0])) (hsi : i.size = 4) (hby : i.bytes = 64)
    (v : Value) (qs : List Rat) (hs : a.eval s = v) (hown : OwnF e w base v qs)
    (B : Nat) (A : Option Addr) (m c : Nat) (fs : List FE) (hx : a.eval x = .slice A m c) (hr : Reads w B 4 A m (cellsF fs)) (hm : fs.length = m) (hfs : ∀ e ∈ fs, e.in_ w)
    (h63 : qs.length + m ≤ 1000) (hbase : base ≤ w.heap.size)
    (h : ∀ v' w', OwnF e w' base v' (qs ++ fs.map FE.q) → w.grownBy w' v.ownBlock → (∀ (A : Option Addr) (n c : Nat) (l : List Nat), Lim w A n c l → Lim w' A n c l) → wpList P ops Q rest (a.put o.dst v') w') : wpList P ops Q (o :: rest) a w :=
  wpList_plain hgd fun _ hK => wp_append_frac w s x t ho base e i ht hi hz hsi hby v qs hs hown B A m c fs hx hr hm hfs h63 hbase fun v' w' h2 h3 h4 => hK _ _ (h v' w' h2 h3 h4)
end
end Go.Proofs.YtljocgdhdilglaaGreat

namespace Go.Proofs.YtljocgdhdilglaaGreat
open Go.RowKit

theorem cellsF_set {es : List FE} {i : Nat} (e : FE) (h : i < es.length) : ((((cellsF es).set (i * 4) (.bool e.na)).set (i * 4 + 1) (.slice e.A e.n e.c)).set (i * 4 + 2) (.bool e.nb)).set (i * 4 + 3) (.slice e.B e.m e.d) = cellsF (es.set i e) := by
  induction es generalizing i with
  | nil => simp at h
  | cons a l ih =>
    cases i with
    | zero => rfl
    | succ i =>
      have := ih (i := i) (by simpa using h)
      rw [show (i + 1) * 4 = i * 4 + 1 + 1 + 1 + 1 by omega]
      simp only [cellsF, List.set_cons_succ, this]
theorem cellsFA_set {es : List FE} {i : Nat} (e : FE) (h : i < es.length) : ((((cellsFA es).setIfInBounds (i * 4) (.bool e.na)).setIfInBounds (i * 4 + 1) (.slice e.A e.n e.c)).setIfInBounds (i * 4 + 2) (.bool e.nb)).setIfInBounds (i * 4 + 3) (.slice e.B e.m e.d) = cellsFA (es.set i e) := by
  unfold cellsFA; rw [← cellsF_set e h]; simp
theorem noLimb_set {cs : Array Value} (h : NoLimb cs) (i : Nat) {v : Value} (hv : ∀ x, v ≠ limb x) : NoLimb (cs.setIfInBounds i v) := fun j x => by
  rw [Array.getElem?_setIfInBounds]
  split
  · split
    · simpa using hv x
    · simp
  · exact h j x
/-- The store of a fraction. -/
def setF (w : World) (g i : Nat) (na : Bool) (A : Option Addr) (n c : Nat) (nb : Bool) (B : Option Addr) (m d : Nat) : World :=
  (((w.setCell ⟨g, i * 4, none⟩ (.bool na)).setCell ⟨g, i * 4 + 1, none⟩ (.slice A n c)).setCell ⟨g, i * 4 + 2, none⟩ (.bool nb)).setCell ⟨g, i * 4 + 3, none⟩ (.slice B m d)
section
variable {w : World} {g i : Nat} {na : Bool} {A : Option Addr} {n c : Nat} {nb : Bool} {B : Option Addr} {m d : Nat}
theorem setF_lim {A' : Option Addr} {n' c' : Nat} {l : List Nat} {t : TypeId} {cs : Array Value} (h : Lim w A' n' c' l) (hb : Blk w g t cs) (hcs : NoLimb cs) : Lim (setF w g i na A n c nb B m d) A' n' c' l := by
  have h1 := hb.set_ (i * 4) (.bool na)
  have l1 := noLimb_set hcs (i * 4) (v := .bool na) (fun x => by simp)
  have h2 := h1.set_ (i * 4 + 1) (.slice A n c)
  have l2 := noLimb_set l1 (i * 4 + 1) (v := .slice A n c) (fun x => by simp)
  have h3 := h2.set_ (i * 4 + 2) (.bool nb)
  have l3 := noLimb_set l2 (i * 4 + 2) (v := .bool nb) (fun x => by simp)
  exact (((h.set_box hb hcs _ _).set_box h1 l1 _ _).set_box h2 l2 _ _).set_box h3 l3 _ _
theorem setF_fr {na' : Bool} {A' : Option Addr} {n' c' : Nat} {nb' : Bool} {B' : Option Addr} {m' d' : Nat} {r : Rat} {t : TypeId} {cs : Array Value} (h : Fr w na' A' n' c' nb' B' m' d' r) (hb : Blk w g t cs) (hcs : NoLimb cs) : Fr (setF w g i na A n c nb B m d) na' A' n' c' nb' B' m' d' r :=
  ⟨⟨h.1.1, h.1.2.1, setF_lim h.1.2.2 hb hcs⟩, ⟨h.2.1, h.2.2.1, setF_lim h.2.2.2 hb hcs⟩⟩
theorem setF_far {g' : Nat} {t : TypeId} {cs : Array Value} (h : Blk w g' t cs) (hg : g' ≠ g) : Blk (setF w g i na A n c nb B m d) g' t cs := (((h.far hg _).far hg _).far hg _).far hg _
theorem setF_kept {G : Nat → Prop} {w0 : World} (h : Kept G w0 w) (hg : G g ∨ w0.heap.size ≤ g) : Kept G w0 (setF w g i na A n c nb B m d) :=
  (((h.set_ (p := ⟨g, i * 4, none⟩) hg _).set_ (p := ⟨g, i * 4 + 1, none⟩) hg _).set_ (p := ⟨g, i * 4 + 2, none⟩) hg _).set_ (p := ⟨g, i * 4 + 3, none⟩) hg _
theorem setF_below {b : Nat} {w0 : World} (h : Below b w0 w) (hg : b ≤ g) : Below b w0 (setF w g i na A n c nb B m d) :=
  (((h.setCell (p := ⟨g, i * 4, none⟩) hg _).setCell (p := ⟨g, i * 4 + 1, none⟩) hg _).setCell (p := ⟨g, i * 4 + 2, none⟩) hg _).setCell (p := ⟨g, i * 4 + 3, none⟩) hg _
end
/-- A block of cells of at least n fractions, whatever they are. -/
def FRaw (t : TypeId) (w : World) (g n : Nat) : Prop := ∃ es : List FE, Blk w g t (cellsFA es) ∧ n ≤ es.length
/-- A block of the call's own begins with the fractions qs. -/
def FOwn (t : TypeId) (w : World) (g : Nat) (qs : List Rat) : Prop := ∃ es zs : List FE, Blk w g t (cellsFA (es ++ zs)) ∧ (∀ e ∈ es, e.in_ w) ∧ es.map FE.q = qs
section
variable {t : TypeId} {w w' : World} {g : Nat} {qs : List Rat}
theorem FRaw.below {n : Nat} (h : FRaw t w g n) (hb : Below w.heap.size w w') : FRaw t w' g n := by obtain ⟨es, h1, h2⟩ := h; exact ⟨es, keep_blk hb h1, h2⟩
theorem FRaw.lt {n : Nat} (h : FRaw t w g n) : g < w.heap.size := by obtain ⟨es, h1, h2⟩ := h; exact h1.lt
theorem FRaw.box {n : Nat} (h : FRaw t w g n) : ∃ t cs, Blk w g t cs ∧ NoLimb cs := by obtain ⟨es, h1, h2⟩ := h; exact ⟨t, _, h1, cellsFA_noLimb es⟩
theorem FRaw.set_ {n i : Nat} (h : FRaw t w g n) (hi : i < n) (na : Bool) (A : Option Addr) (k c : Nat) (nb : Bool) (B : Option Addr) (m d : Nat) : FRaw t (setF w g i na A k c nb B m d) g n := by
  obtain ⟨es, h1, hn⟩ := h
  have h2 := (((h1.set_ (i * 4) (.bool na)).set_ (i * 4 + 1) (.slice A k c)).set_ (i * 4 + 2) (.bool nb)).set_ (i * 4 + 3) (.slice B m d)
  have hs := cellsFA_set (es := es) (i := i) ⟨na, A, k, c, nb, B, m, d, 0⟩ (by omega)
  dsimp only at hs
  rw [hs] at h2
  exact ⟨_, h2, by rw [List.length_set]; exact hn⟩
theorem FRaw.cells {n i : Nat} (h : FRaw t w g n) (hi : i < n) : ∃ na A k c nb B m d, w.cell? ⟨g, i * 4, none⟩ = some (.bool na) ∧ w.cell? ⟨g, i * 4 + 1, none⟩ = some (.slice A k c) ∧ w.cell? ⟨g, i * 4 + 2, none⟩ = some (.bool nb) ∧ w.cell? ⟨g, i * 4 + 3, none⟩ = some (.slice B m d) := by
  obtain ⟨es, h1, hn⟩ := h
  have hc := cellsFA_get (List.getElem?_eq_getElem (show i < es.length by omega))
  exact ⟨_, _, _, _, _, _, _, _, by rw [h1.cell]; exact hc.1, by rw [h1.cell]; exact hc.2.1, by rw [h1.cell]; exact hc.2.2.1, by rw [h1.cell]; exact hc.2.2.2⟩
theorem FRaw.frozen {n : Nat} (h : FRaw t w g n) (i : Nat) : w.frozen? ⟨g, i, none⟩ = false := by obtain ⟨es, h1, -⟩ := h; exact h1.frozen i
theorem FRaw.other {n g' i : Nat} {na : Bool} {A : Option Addr} {k c : Nat} {nb : Bool} {B : Option Addr} {m d : Nat} (h : FRaw t w g n) (hne : g ≠ g') : FRaw t (setF w g' i na A k c nb B m d) g n := by
  obtain ⟨es, h1, h2⟩ := h
  exact ⟨es, setF_far h1 hne, h2⟩
theorem FOwn.raw (h : FOwn t w g qs) : FRaw t w g qs.length := by obtain ⟨es, zs, h1, h2, rfl⟩ := h; exact ⟨es ++ zs, h1, by simp⟩
theorem FOwn.below (h : FOwn t w g qs) (hb : Below w.heap.size w w') : FOwn t w' g qs := by
  obtain ⟨es, zs, h1, h2, h3⟩ := h
  exact ⟨es, zs, keep_blk hb h1, fun e he => (h2 e he).below hb, h3⟩
theorem FOwn.lt (h : FOwn t w g qs) : g < w.heap.size := h.raw.lt
theorem FOwn.box (h : FOwn t w g qs) : ∃ t cs, Blk w g t cs ∧ NoLimb cs := h.raw.box
theorem FOwn.frozen (h : FOwn t w g qs) (i : Nat) : w.frozen? ⟨g, i, none⟩ = false := h.raw.frozen i
theorem FOwn.take (h : FOwn t w g qs) (k : Nat) : FOwn t w g (qs.take k) := by
  obtain ⟨es, zs, h1, h2, rfl⟩ := h
  exact ⟨es.take k, es.drop k ++ zs, by rw [← List.append_assoc, List.take_append_drop]; exact h1, fun e he => h2 e (List.mem_of_mem_take he), by rw [List.map_take]⟩
theorem FOwn.at_ (h : FOwn t w g qs) {i : Nat} (hi : i < qs.length) : ∃ na A k c nb B m d, w.cell? ⟨g, i * 4, none⟩ = some (.bool na) ∧ w.cell? ⟨g, i * 4 + 1, none⟩ = some (.slice A k c) ∧ w.cell? ⟨g, i * 4 + 2, none⟩ = some (.bool nb) ∧ w.cell? ⟨g, i * 4 + 3, none⟩ = some (.slice B m d) ∧ Fr w na A k c nb B m d (qs[i]?.getD 0) := by
  obtain ⟨es, zs, h1, h2, rfl⟩ := h
  have hl : i < es.length := by simpa using hi
  have he := List.getElem?_eq_getElem hl
  have hc := cellsFA_get (es := es ++ zs) (i := i) (e := es[i]) (by rw [List.getElem?_append_left hl]; exact he)
  refine ⟨_, _, _, _, _, _, _, _, by rw [h1.cell]; exact hc.1, by rw [h1.cell]; exact hc.2.1, by rw [h1.cell]; exact hc.2.2.1, by rw [h1.cell]; exact hc.2.2.2, ?_⟩
  rw [List.getElem?_map, he]
  exact h2 _ (List.getElem_mem hl)
theorem FOwn.set_ (h : FOwn t w g qs) {i : Nat} (hi : i < qs.length) {na : Bool} {A : Option Addr} {k c : Nat} {nb : Bool} {B : Option Addr} {m d : Nat} {r : Rat} (hr : Fr w na A k c nb B m d r) : FOwn t (setF w g i na A k c nb B m d) g (qs.set i r) := by
  obtain ⟨es, zs, h1, h2, rfl⟩ := h
  have hl : i < es.length := by simpa using hi
  have h3 := (((h1.set_ (i * 4) (.bool na)).set_ (i * 4 + 1) (.slice A k c)).set_ (i * 4 + 2) (.bool nb)).set_ (i * 4 + 3) (.slice B m d)
  have hs := cellsFA_set (es := es ++ zs) (i := i) ⟨na, A, k, c, nb, B, m, d, r⟩ (by rw [List.length_append]; omega)
  dsimp only at hs
  rw [hs, List.set_append_left _ _ hl] at h3
  refine ⟨_, zs, h3, fun e he => ?_, by rw [List.map_set]⟩
  rcases List.mem_or_eq_of_mem_set he with he | rfl
  · exact setF_fr (h2 e he) h1 (cellsFA_noLimb _)
  · exact setF_fr hr h1 (cellsFA_noLimb _)
theorem FOwn.other {g' i : Nat} {na : Bool} {A : Option Addr} {k c : Nat} {nb : Bool} {B : Option Addr} {m d : Nat} (h : FOwn t w g qs) (hne : g ≠ g') (hb : ∃ t cs, Blk w g' t cs ∧ NoLimb cs) : FOwn t (setF w g' i na A k c nb B m d) g qs := by
  obtain ⟨es, zs, h1, h2, h3⟩ := h
  obtain ⟨t', cs, hb, hcs⟩ := hb
  exact ⟨es, zs, setF_far h1 hne, fun e he => setF_fr (h2 e he) hb hcs, h3⟩
theorem FOwn.fl (h : FOwn t w g qs) {c : Nat} (hc : qs.length ≤ c) (hm : c ≤ maxLen) : FL w (some ⟨g, 0, none⟩) qs.length c qs := by
  obtain ⟨es, zs, h1, h2, rfl⟩ := h
  rw [List.length_map] at hc ⊢
  refine ⟨es, rfl, hc, hm, h2, rfl, fun _ => ⟨g, 0, rfl, fun k e he => ?_⟩⟩
  have hk : k < es.length := (List.getElem?_eq_some_iff.1 he).1
  have hc := cellsFA_get (es := es ++ zs) (i := k) (e := e) (by rw [List.getElem?_append_left hk]; exact he)
  simp only [Nat.zero_add, h1.cell]
  exact hc
theorem OwnF.fown {base : Nat} {v : Value} (h : OwnF t w base v qs) : (v = .slice none 0 0 ∧ qs = []) ∨ ∃ g c, v = .slice (some ⟨g, 0, none⟩) qs.length c ∧ base ≤ g ∧ qs.length ≤ c ∧ c ≤ maxLen ∧ FOwn t w g qs := by
  obtain ⟨es, h1, h2, rfl⟩ := h
  rcases h1 with ⟨rfl, rfl⟩ | ⟨g, sp, rfl, h4, h5, h6⟩
  · exact .inl ⟨rfl, rfl⟩
  · exact .inr ⟨g, _, by rw [List.length_map], h4, by rw [List.length_map]; omega, h5, es, List.replicate sp zeroFE, h6, h2, rfl⟩
end
end Go.Proofs.YtljocgdhdilglaaGreat

namespace Go.Proofs.YtljocgdhdilglaaGreat
open Go.RowKit
attribute [local go_sem] add_lit

theorem infoFr : (Tryz.prog.info? 27).map (fun i => (i.zero, i.size, i.bytes)) = some (some (.agg #[.bool false, .slice none 0 0, .bool false, .slice none 0 0]), 4, 64) := by kernel_rfl
set_option maxRecDepth 100000 in
set_option maxHeartbeats 1000000 in
theorem rfOver_pos (na nb na' nb' : Bool) (A B A' B' : Option Addr) (n c m d n' c' m' d' : Nat) (a b : Rat) (w : World) (ha : Fr w na A n c nb B m d a) (hb : Fr w na' A' n' c' nb' B' m' d' b) (sa : Sm a) (sb : Sm b) (hp : 0 < b.num) :
    Calls Tryz.prog 46 #[.agg #[.bool na, .slice A n c, .bool nb, .slice B m d], .agg #[.bool na', .slice A' n' c', .bool nb', .slice B' m' d']] w (FracE w (a / b)) := by
  obtain ⟨W0, hW0, hB0, ⟨q0, q1, q2⟩, s0⟩ := alloc3 w 27 #[.bool na, .slice A n c, .bool nb, .slice B m d] 27 #[.bool na', .slice A' n' c', .bool nb', .slice B' m' d'] 27 #[.bool false, .slice none 0 0, .bool false, .slice none 0 0]
  replace ha := hide (ha.below hB0)
  replace hb := hide (hb.below hB0)
  have hH := rproduct_ok na nb' nb na' A B' B A' n c m' d' m d n' c' a.num b.den a.den b.num W0 ha.out.1 hb.out.2 ha.out.2 hb.out.1 (sm_mul' sa.1 sb.dn) (sm_mul' sa.dn sb.1) (Int.mul_pos (by have := a.den_pos; omega) hp)
  rw [rat_div hp] at hH
  replace hH := hide hH
  obtain ⟨a0, a1, a2, a3, -⟩ := q0.four
  obtain ⟨b0, b1, b2, b3, -⟩ := q1.four
  go_enter Tryz.func46, Tryz.ntmps46
  go_wp2_with fail
  refine (hH.out).mono ?_
  rintro e w1 ⟨hb1, nx, Ax, kx, cx, ny, Ay, ky, cy, rfl, hF⟩
  have hB1 := hB0.trans (hb1.mono hB0.size)
  replace q2 := hide (keep_blk hb1 q2)
  replace hF := hide hF
  clear a0 a1 a2 a3 b0 b1 b2 b3 hW0
  obtain ⟨c20, c21, c22, c23, f20, f21, f22, f23⟩ := q2.out.four
  obtain ⟨W7, hW7, hB7, q3, kW, -, s7⟩ := set_frac nx Ax kx cx ny Ay ky cy hB1 (by omega) q2.out
  obtain ⟨r0, r1, r2, r3, -⟩ := q3.four
  go_wp2_with fail
  refine bodyPost_ret (v := .tuple #[.agg #[.bool nx, .slice Ax kx cx, .bool ny, .slice Ay ky cy], .int .i64 0]) (by simp [results, Tryz.results46, go_sem, r0, r1, r2, r3]) rfl ?_
  exact ⟨hB7, _, _, _, _, _, _, _, _, rfl, kW _ _ _ _ _ hF.out.1, kW _ _ _ _ _ hF.out.2⟩

theorem fr_int {w : World} {na : Bool} {A : Option Addr} {n c : Nat} {nb : Bool} {B : Option Addr} {m d : Nat} {z : Int} (h1 : Wd w na A n c z) (h2 : Wd w nb B m d 1) : Fr w na A n c nb B m d (z : Rat) := by
  refine ⟨?_, ?_⟩
  · rw [Rat.num_intCast]; exact h1
  · rw [Rat.den_intCast]; exact h2
set_option maxRecDepth 100000 in
set_option maxHeartbeats 1000000 in
theorem fractions_ok (A : Option Addr) (n c : Nat) (xs : List Int) (w : World) (h : PolyL w A n c xs) (hn : n ≤ 900) :
    Calls Tryz.prog 45 #[.slice A n c] w fun e w' => Below w.heap.size w w' ∧ ∃ v, e = .returned v ∧ OwnF 27 w' w.heap.size v (rl xs) := by
  obtain ⟨iw, hi, hz0, hz1, hz2⟩ := info_parts infoFr
  have hmx : Tryz.prog.follows .mixedOrders = true := by kernel_rfl
  have hxl := hide h.len
  obtain ⟨hnc, hcm⟩ := h.cap
  unfold maxLen at hcm
  replace h := hide h
  go_enter Tryz.func45, Tryz.ntmps45
  go_wp2_with fail
  go_loopg [3, 4] n (fun k ov iv wr => ∃ i : Nat, i + k = n ∧ iv = .int .i64 i ∧ OwnF 27 wr w.heap.size ov ((rl xs).take i) ∧ Below w.heap.size w wr)
  case atStart => exact ⟨0, Nat.zero_add _, rfl, by rw [List.take_zero]; exact OwnF.nil _ _ _, Below.refl _ _⟩
  case round =>
    obtain ⟨i, hik, rfl, hown, hB⟩ := hrel
    by_cases hin : i < n
    case neg =>
      obtain rfl : n = i := by omega
      have htk : decide ((n : Int) < (n : Int)) = false := by simp
      rw [List.take_of_length_le (by simp [rl, hxl.out])] at hown
      go_wp2_with fail
      go_ret
      exact ⟨hB, _, rfl, hown⟩
    have htk : decide ((i : Int) < (n : Int)) = true := by simp; omega
    have hini : (i : Int) < (n : Int) := by omega
    have hsB := hB.size
    obtain ⟨b, o, neg, A1, n1, c1, rfl, p0w, p1w, hWw⟩ := h.out.at_ hin
    have p0 := keep_cell hB p0w
    have p1 := keep_cell hB p1w
    have hW := hWw.below hB
    clear hWw
    obtain ⟨x, hx⟩ : ∃ z, xs[i]?.getD 0 = z := ⟨_, rfl⟩
    rw [hx] at hW
    replace hx := hide hx
    replace hown := hide hown
    go_wp2_with fail
    have hSv : Hid (∀ wx, Below wr.heap.size wr wx → wx.cell? ⟨b, o + i * 2, none⟩ = some (.bool neg) ∧ wx.cell? ⟨b, o + i * 2 + 1, none⟩ = some (.slice A1 n1 c1)) := hide (fun wx hbx => ⟨keep_cell hbx p0, keep_cell hbx p1⟩)
    have hr0 : Below wr.heap.size wr wr.drew := below_dn (Below.refl _ _) 1
    refine wp_held [] (fun wx => wx.cell? ⟨b, o + i * 2, none⟩ = some (.bool neg) ∧ wx.cell? ⟨b, o + i * 2 + 1, none⟩ = some (.slice A1 n1 c1)) hmx (hSv.out _ hr0) (fun _ => ?_)
    refine wpAnyL_take (i := 0) (v := ?v1) rfl (by kernel_rfl) (by kernel_rfl) (by kernel_rfl) (by kernel_rfl) (by kernel_rfl) (Or.inl ⟨by rfl, ?hy1⟩) (hSv.out _ hr0) ?rest1
    case hy1 => (intro W2 hSw; (try dsimp only at hSw); go_simp; try with_reducible rfl)
    try simp only [Act.put, List.setIfInBounds_toArray, List.set_cons_zero, List.set_cons_succ]
    refine wpAnyL_take (i := 1) (v := ?v2) rfl (by kernel_rfl) (by kernel_rfl) (by kernel_rfl) (by kernel_rfl) (by kernel_rfl) (Or.inl ⟨by rfl, ?hy2⟩) (hSv.out _ hr0) ?rest2
    case hy2 => (intro W2 hSw; (try dsimp only at hSw); go_simp; try with_reducible rfl)
    try simp only [Act.put, List.setIfInBounds_toArray, List.set_cons_zero, List.set_cons_succ]
    refine wpAnyL_take (i := 2) (v := ?v3) rfl (by kernel_rfl) (by kernel_rfl) (by kernel_rfl) (by kernel_rfl) (by kernel_rfl) (Or.inl ⟨by rfl, ?hy3⟩) (hSv.out _ hr0) ?rest3
    case hy3 => (intro W2 hSw; (try dsimp only at hSw); go_simp; try with_reducible rfl)
    try simp only [Act.put, List.setIfInBounds_toArray, List.set_cons_zero, List.set_cons_succ]
    refine wpAnyL_take (i := 3) (v := ?v4) rfl (by kernel_rfl) (by kernel_rfl) (by kernel_rfl) (by kernel_rfl) (by kernel_rfl) (Or.inl ⟨by rfl, ?hy4⟩) (hSv.out _ hr0) ?rest4
    case hy4 => (intro W2 hSw; (try dsimp only at hSw); go_simp; try with_reducible rfl)
    try simp only [Act.put, List.setIfInBounds_toArray, List.set_cons_zero, List.set_cons_succ]
    refine wpAnyL_take (i := 4) (v := ?v5) rfl (by kernel_rfl) (by kernel_rfl) (by kernel_rfl) (by kernel_rfl) (by kernel_rfl) (Or.inl ⟨by rfl, ?hy5⟩) (hSv.out _ hr0) ?rest5
    case hy5 => (intro W2 hSw; (try dsimp only at hSw); go_simp; try with_reducible rfl)
    try simp only [Act.put, List.setIfInBounds_toArray, List.set_cons_zero, List.set_cons_succ]
    refine wpAnyL_one (i := 5) rfl (by kernel_rfl) (fun K hK => ?_)
    go_simp
    refine (rFrom_any 1 wr.drew (by omega) (by omega)).mono ?_
    rintro e w5 ⟨hb5, nb, B5, m5, d5, rfl, hW5⟩
    have hr1 := hr0.trans (hb5.mono hr0.size)
    refine hK.out _ _ (fun _ => hSv.out _ hr1) ?_
    clear hK K
    try simp only [Act.put, List.setIfInBounds_toArray, List.set_cons_zero, List.set_cons_succ]
    refine wpAnyL_pure (i := 6) (v := ?v6) rfl (by kernel_rfl) (by kernel_rfl) (by kernel_rfl) (by kernel_rfl) (Or.inl ⟨by rfl, ?hy6⟩) (fun _ => (hSv.out _ hr1)) ?rest6
    case hy6 => (intro W2 _; go_simp; try with_reducible rfl)
    try simp only [Act.put, List.setIfInBounds_toArray, List.set_cons_zero, List.set_cons_succ]
    refine (new_obj 27 #[.bool neg, .slice A1 n1 c1, .bool nb, .slice B5 m5 d5] (Below.refl w5.heap.size w5) (Nat.le_refl _)).elim (fun V hq => ?_)
    refine wpAnyL_one (i := 7) rfl (by kernel_rfl) (fun K hK => ?_)
    go_simp
    (try rw [hq.1])
    have hbV := hq.2.1
    have yV := hq.2.2.1
    clear hq
    have hr2 := hr1.trans (hbV.mono hr1.size)
    refine hK.out _ _ (fun _ => hSv.out _ hr2) ?_
    clear hK K
    try simp only [Act.put, List.setIfInBounds_toArray, List.set_cons_zero, List.set_cons_succ]
    have hfr : Fr V neg A1 n1 c1 nb B5 m5 d5 (x : Rat) := fr_int (hW.below hr2) (hW5.below hbV)
    refine wpAnyL_one (i := 8) rfl (by kernel_rfl) (fun K hK => ?_)
    rw [if_pos (by kernel_rfl)]
    refine wp_append_frac V (.tmp 11) (.tmp 18) 39 rfl w.heap.size 27 iw Tryz.underlying39 hi hz0 hz1 hz2 _ _ rfl (hown.out.kept hr2) _ _ 1 1 [⟨neg, A1, n1, c1, nb, B5, m5, d5, (x : Rat)⟩] rfl (reads_frac (x : Rat) yV) rfl (List.forall_mem_singleton.2 hfr) (by rw [List.length_take]; omega) (Nat.le_trans hsB hr2.size) (fun v9 w9 hown9 hg9 hk9 => ?_)
    have hB9 := (hB.trans (hr2.mono hsB)).grown hg9 (Nat.le_trans hsB hr2.size) ((hown.out.kept hr2).row_ge)
    refine hK.out _ _ (fun _ => ⟨keep_cell hB9 p0w, keep_cell hB9 p1w⟩) ?_
    clear hK K
    try simp only [Act.put, List.setIfInBounds_toArray, List.set_cons_zero, List.set_cons_succ]
    refine wpAnyL_pure (i := 9) (v := ?v51) rfl (by kernel_rfl) (by kernel_rfl) (by kernel_rfl) (by kernel_rfl) (Or.inl ⟨by rfl, ?hy51⟩) (fun _ => ⟨keep_cell hB9 p0w, keep_cell hB9 p1w⟩) ?rest51
    case hy51 => (intro W2 _; go_simp; try with_reducible rfl)
    try simp only [Act.put, List.setIfInBounds_toArray, List.set_cons_zero, List.set_cons_succ]
    refine wpAnyL_done (by kernel_rfl) ?_ _
    refine OnlyNormal.normal ?_
    have hown10 : OwnF 27 w9 w.heap.size v9 ((rl xs).take (i + 1)) := by
      have e : (rl xs).take (i + 1) = (rl xs).take i ++ [(x : Rat)] := by
        rw [List.take_add_one]
        congr 1
        unfold rl
        rw [List.getElem?_map]
        have hlt : i < xs.length := by rw [hxl.out]; exact hin
        have hx2 := hx.out
        rw [List.getElem?_eq_getElem hlt] at hx2 ⊢
        simp at hx2
        simp [hx2]
      rw [e]; exact hown9
    replace hown10 := hide hown10
    clear hk9 hg9 hown9 hfr yV hbV hb5 hr0 hr1 hr2 hSv hW5 p0 p1 hown hW
    go_wp2_with fail
    go_roundg (n - (i + 1))
    case measure => omega
    case rel => exact ⟨i + 1, by omega, by go_num, hown10.out, hB9⟩
end Go.Proofs.YtljocgdhdilglaaGreat

namespace Go.Proofs.YtljocgdhdilglaaGreat

def ovC (d r : List Rat) : Rat := co r (r.length - 1) / co d (d.length - 1)
def ovS (d r : List Rat) : List Rat := (List.range r.length).map fun i => co r i - (if r.length - d.length ≤ i then ovC d r * co d (i - (r.length - d.length)) else 0)
def ovR (d r : List Rat) : List Rat := (ovS d r).take (r.length - 1)
def ovK (d : List Rat) : Nat → List Rat → List Rat
  | 0, r => r
  | k + 1, r => ovK d k (ovR d r)
def okOv (d : List Rat) : Nat → List Rat → Prop
  | 0, _ => True
  | k + 1, r => (∀ t, Sm (co r t)) ∧ Sm (ovC d r) ∧ (∀ t, Sm (ovC d r * co d t)) ∧ okOv d k (ovR d r)
theorem ovS_length (d r : List Rat) : (ovS d r).length = r.length := by simp [ovS]
theorem ovR_length (d r : List Rat) : (ovR d r).length = r.length - 1 := by unfold ovR; rw [List.length_take, ovS_length]; omega
theorem co_ovS {d r : List Rat} (hd : 0 < d.length) (hl : d.length ≤ r.length) (i : Nat) : co (ovS d r) i = co r i - (if r.length - d.length ≤ i then ovC d r * co d (i - (r.length - d.length)) else 0) := by
  rcases Nat.lt_or_ge i r.length with h | h
  · show (ovS d r)[i]?.getD 0 = _
    simp [ovS, h]
  · rw [co_out (by rw [ovS_length]; exact h), co_out h, if_pos (by omega), co_out (l := d) (by omega)]
    grind
theorem ovS_top {d r : List Rat} (hd : 0 < d.length) (hl : d.length ≤ r.length) (hz : co d (d.length - 1) ≠ 0) : co (ovS d r) (r.length - 1) = 0 := by
  rw [co_ovS hd hl, if_pos (by omega), show r.length - 1 - (r.length - d.length) = d.length - 1 by omega]
  unfold ovC
  grind
theorem ev_ovR {d r : List Rat} (hd : 0 < d.length) (hl : d.length ≤ r.length) (hz : co d (d.length - 1) ≠ 0) (x : Rat) : ev (ovR d r) x = ev r x - ovC d r * (x ^ (r.length - d.length) * ev d x) := by
  have h1 : ev (ovS d r) x = ev (ovR d r) x := ev_take (n := r.length - 1) (by rw [ovS_length]; omega) (ovS_top hd hl hz) x
  rw [← h1]
  have h2 : ev (ovS d r) x = ev (addL r (smulL (-(ovC d r)) (shiftL (r.length - d.length) d))) x := by
    refine ev_of_co (fun i => ?_) x
    rw [co_ovS hd hl, co_addL, co_smulL, co_shiftL]
    split <;> grind
  rw [h2, ev_addL, ev_smulL, ev_shiftL]
  grind
theorem pow_pol (n : Nat) : Pol (fun x => x ^ n) := Pol.pow ⟨_, PF.id⟩ n
theorem ovK_eval {d : List Rat} (hd : 0 < d.length) (hz : co d (d.length - 1) ≠ 0) : ∀ (k : Nat) (r : List Rat), r.length + 1 = k + d.length → (ovK d k r).length + 1 = d.length ∧ ∃ K, Pol K ∧ ∀ x, ev r x = K x * ev d x + ev (ovK d k r) x := by
  intro k
  induction k with
  | zero => intro r hl; exact ⟨by show r.length + 1 = d.length; omega, fun _ => 0, Pol.const 0, fun x => by show ev r x = 0 * ev d x + ev r x; grind⟩
  | succ k ih =>
    intro r hl
    obtain ⟨h1, K, hK, h2⟩ := ih (ovR d r) (by rw [ovR_length]; omega)
    refine ⟨h1, fun x => K x + ovC d r * x ^ (r.length - d.length), hK.add ((pow_pol _).smul _), fun x => ?_⟩
    have h3 := h2 x
    rw [ev_ovR hd (by omega) hz] at h3
    show _ = _ + ev (ovK d k (ovR d r)) x
    grind
theorem zero_list {l : List Rat} (h : ∀ x, ev l x = 0) : l = List.replicate l.length 0 := by
  rw [List.eq_replicate_iff]
  exact ⟨rfl, co_zero _ l rfl 0 (fun n _ => h n)⟩
/-- Where the divisor divides, nothing is left. -/
theorem ovK_zero {p q : List Int} (hq : Top q) (hd : Dvd (evalQ q) (evalQ p)) {k : Nat} (hk : p.length + 1 = k + q.length) : ovK (rl q) k (rl p) = List.replicate (q.length - 1) 0 := by
  have hl : (rl q).length = q.length := by simp [rl]
  have hl2 : (rl p).length = p.length := by simp [rl]
  have hz : co (rl q) ((rl q).length - 1) ≠ 0 := by
    rw [hl, co_rl]
    intro h0
    exact hq.2 (by exact_mod_cast h0)
  obtain ⟨h1, K, hK, h2⟩ := ovK_eval (d := rl q) (by rw [hl]; exact hq.1) hz k (rl p) (by rw [hl, hl2]; exact hk)
  rw [hl] at h1
  have h3 : Dvd (evalQ q) (ev (ovK (rl q) k (rl p))) := by
    obtain ⟨u, hu, h4⟩ := hd
    refine ⟨fun x => u x - K x, hu.sub hK, fun x => ?_⟩
    have h5 := h2 x
    rw [ev_rl, ev_rl, h4] at h5
    grind
  have hz2 : ∀ x, ev (ovK (rl q) k (rl p)) x = 0 := by
    obtain ⟨m, hm, hmd⟩ := PF.deg (n := q.length - 1) (f := ev (ovK (rl q) k (rl p))) ⟨_, by omega, fun x => rfl⟩
    cases m with
    | zero => exact hmd.zero
    | succ m =>
      exfalso
      have := h3.deg_le hq.deg hmd (fun hz => by have := hmd.unique (deg_zero hz); omega)
      have := hq.1
      omega
  have := zero_list hz2
  rw [show (ovK (rl q) k (rl p)).length = q.length - 1 by omega] at this
  exact this

def SmV (i j : Nat) (r : List Rat) : Prop := ∀ t, SmN i j (co r t)
theorem SmN.div_int {i j m : Nat} {a : Rat} {z : Int} (ha : SmN i j a) (hz : 0 < z) (hm : z.natAbs < pw m) : SmN i (j + m) (a / (z : Rat)) := by
  have e : a / (z : Rat) = Rat.divInt a.num ((a.den : Int) * z) := by
    have h := rat_div (a := a) (b := (z : Rat)) (by simpa using hz)
    rw [← h]
    simp
  rw [e]
  refine SmN.div (Int.mul_pos (by have := a.den_pos; omega) hz) ha.1 ?_
  rw [Int.natAbs_mul, Int.natAbs_natCast]
  exact mul_lt_pw ha.2 hm
theorem SmV.step {i j m : Nat} {q : List Int} {r : List Rat} (hr : SmV i j r) (hq : Top q) (hp : 0 < cz q (q.length - 1)) (hb : Bnd m q) (hl : q.length ≤ r.length) :
    SmN i (j + m) (ovC (rl q) r) ∧ (∀ t, SmN (i + m) (j + m + 1) (ovC (rl q) r * co (rl q) t)) ∧ SmV (i + j + m + 2) (2 * j + m + 1) (ovR (rl q) r) := by
  have hll : (rl q).length = q.length := by simp [rl]
  have h1 : SmN i (j + m) (ovC (rl q) r) := by
    unfold ovC
    rw [hll, co_rl]
    exact (hr _).div_int hp (hb _)
  have h2 : ∀ t, SmN (i + m) (j + m + 1) (ovC (rl q) r * co (rl q) t) := fun t => by
    rw [co_rl]
    exact h1.mul (SmN.int (hb t))
  refine ⟨h1, h2, fun t => ?_⟩
  have h3 : ∀ t, SmN (i + j + m + 2) (2 * j + m + 1) (co (ovS (rl q) r) t) := fun t => by
    rw [co_ovS (by rw [hll]; exact hq.1) (by rw [hll]; exact hl)]
    split
    · exact ((hr t).sub (h2 _)).mono (by omega) (by omega)
    · rw [show co r t - 0 = co r t by grind]
      exact (hr t).mono (by omega) (by omega)
  unfold ovR
  rcases Nat.lt_or_ge t (r.length - 1) with h | h
  · have : co ((ovS (rl q) r).take (r.length - 1)) t = co (ovS (rl q) r) t := by
      unfold co; rw [List.getElem?_take, if_pos h]
    rw [this]; exact h3 t
  · rw [co_out (by rw [List.length_take]; omega)]
    exact ⟨by simp; exact pw_pos _, by simp; exact Nat.lt_of_lt_of_le pw_gt_one (pw_le (by omega))⟩
def ovB (m : Nat) : Nat → Nat → Nat → Bool
  | 0, _, _ => true
  | k + 1, i, j => decide (i + m ≤ 1000) && decide (j + m + 1 ≤ 1000) && ovB m k (i + j + m + 2) (2 * j + m + 1)
theorem okOv_bnd {m : Nat} {q : List Int} (hq : Top q) (hp : 0 < cz q (q.length - 1)) (hb : Bnd m q) : ∀ (k : Nat) (r : List Rat) (i j : Nat), r.length + 1 = k + q.length → SmV i j r → ovB m k i j = true → okOv (rl q) k r := by
  intro k
  induction k with
  | zero => intro r i j _ _ _; trivial
  | succ k ih =>
    intro r i j hl hr h
    simp only [ovB, Bool.and_eq_true, decide_eq_true_eq] at h
    obtain ⟨⟨h1, h2⟩, h3⟩ := h
    obtain ⟨k1, k2, k3⟩ := hr.step hq hp hb (by omega)
    have hq0 := hq.1
    refine ⟨fun t => (hr t).sm (by omega) (by omega), k1.sm (by omega) (by omega), fun t => (k2 t).sm h1 h2, ih _ _ _ (by rw [ovR_length]; omega) k3 h3⟩
theorem smV_rl {M : Nat} {p : List Int} (h : Bnd M p) : SmV M 1 (rl p) := fun t => by rw [co_rl]; exact SmN.int (h t)
theorem ovB_small (k : Nat) (h : k ≤ 5) : ovB 7 k 4 1 = true := by
  rcases (show k = 0 ∨ k = 1 ∨ k = 2 ∨ k = 3 ∨ k = 4 ∨ k = 5 by omega) with rfl | rfl | rfl | rfl | rfl | rfl <;> decide +kernel
end Go.Proofs.YtljocgdhdilglaaGreat

namespace Go.Proofs.YtljocgdhdilglaaGreat
open Go.RowKit

def predsOf (md : Region.Mode) (ops : Array Oper) (i : Nat) : List Nat := match ops[i]? with | some o => (o.after.toList.filter (fun e => Region.binds md e)).map (·.on) | none => []
def dstOf (ops : Array Oper) (i : Nat) : Nat := match ops[i]? with | some o => o.dst.getD 0 | none => 0
def markAll (R : List Nat) (l : Array Bool) : Array Bool := R.foldl (fun l i => l.setIfInBounds i true) l
/-- In this order each waits but for what is listed and for those before it. -/
def topoOk (md : Region.Mode) (ops : Array Oper) : List Nat → Array Bool → Bool
  | [], _ => true
  | r :: rs, l => !l.getD r true && (match ops[r]? with | some o => o.dst.isSome | none => false) && (predsOf md ops r).all (fun p => l.getD p false) && topoOk md ops rs (l.setIfInBounds r true)
def clo (md : Region.Mode) (ops : Array Oper) : List Nat → List Nat → List Nat
  | [], c => c
  | r :: rs, c => clo md ops rs (if c.contains r then predsOf md ops r ++ c else c)
/-- No operation that is neither listed nor of R comes up before all of R have. -/
def outOk (md : Region.Mode) (ops : Array Oper) (R : List Nat) (l : Array Bool) : Bool :=
  (List.range ops.size).all fun k => R.contains k || l.getD k true || (predsOf md ops k).any (fun p => !R.contains p && !l.getD p false) || (R.all fun r => (clo md ops R.reverse (predsOf md ops k)).contains r)
def nodupB : List Nat → Bool
  | [] => true
  | x :: l => !l.contains x && nodupB l
def allOkB (md : Region.Mode) (ops : Array Oper) (R : List Nat) (l : Array Bool) : Bool := topoOk md ops R l && outOk md ops R l && nodupB (R.map (dstOf ops)) && decide (l.size = ops.size)

/-- The slots of R hold what ν says. -/
def putsR : List Nat → Act → (Nat → Value) → Act
  | [], a, _ => a
  | d :: ds, a, ν => putsR ds (a.put (some d) (ν d)) ν
def upd (ν : Nat → Value) (d : Nat) (v : Value) : Nat → Value := fun k => if k = d then v else ν k

theorem put_comm {a : Act} {d e : Nat} {u v : Value} (h : d ≠ e) : (a.put (some d) u).put (some e) v = (a.put (some e) v).put (some d) u := by
  simp only [Act.put]
  rw [Array.setIfInBounds_comm _ _ h]
theorem putsR_put {ds : List Nat} {a : Act} {ν : Nat → Value} {d : Nat} {v : Value} (h : d ∉ ds) : putsR ds (a.put (some d) v) ν = (putsR ds a ν).put (some d) v := by
  induction ds generalizing a with
  | nil => rfl
  | cons e ds ih =>
    have h1 : d ≠ e := fun h' => h (h' ▸ List.mem_cons_self ..)
    show putsR ds ((a.put (some d) v).put (some e) (ν e)) ν = _
    rw [put_comm h1, ih (fun h' => h (List.mem_cons_of_mem _ h'))]
    rfl
theorem putsR_upd_out {ds : List Nat} {a : Act} {ν : Nat → Value} {d : Nat} {v : Value} (h : d ∉ ds) : putsR ds a (upd ν d v) = putsR ds a ν := by
  induction ds generalizing a with
  | nil => rfl
  | cons e ds ih =>
    have h1 : e ≠ d := fun h' => h (h' ▸ List.mem_cons_self ..)
    show putsR ds (a.put (some e) (upd ν d v e)) (upd ν d v) = putsR ds (a.put (some e) (ν e)) ν
    rw [ih (fun h' => h (List.mem_cons_of_mem _ h'))]
    simp only [upd, if_neg h1]
theorem put_put {a : Act} {d : Nat} {u v : Value} : (a.put (some d) u).put (some d) v = a.put (some d) v := by
  simp only [Act.put]
  rw [Array.setIfInBounds_setIfInBounds]
theorem nodupB_cons {x : Nat} {l : List Nat} (h : nodupB (x :: l) = true) : x ∉ l ∧ nodupB l = true := by
  simp only [nodupB, Bool.and_eq_true, Bool.not_eq_true'] at h
  exact ⟨fun hx => by rw [List.contains_iff_mem.2 hx] at h; exact absurd h.1 (by simp), h.2⟩
theorem putsR_upd {ds : List Nat} {a : Act} {ν : Nat → Value} {d : Nat} {v : Value} (h : d ∈ ds) (hn : nodupB ds = true) : (putsR ds a ν).put (some d) v = putsR ds a (upd ν d v) := by
  induction ds generalizing a with
  | nil => cases h
  | cons e ds ih =>
    obtain ⟨h1, h2⟩ := nodupB_cons hn
    show (putsR ds (a.put (some e) (ν e)) ν).put (some d) v = putsR ds (a.put (some e) (upd ν d v e)) (upd ν d v)
    by_cases hd : d = e
    · subst hd
      rw [← putsR_put h1, put_put, putsR_upd_out h1]
      simp only [upd, if_true]
    · rcases List.mem_cons.1 h with h' | h'
      · exact absurd h' hd
      · rw [ih h' h2]
        simp only [upd, if_neg (Ne.symm hd)]
theorem putsR_self {ds : List Nat} {a : Act} : putsR ds a (fun d => a.tmps.getD d undef) = a := by
  induction ds with
  | nil => rfl
  | cons d ds ih =>
    show putsR ds (a.put (some d) (a.tmps.getD d undef)) _ = a
    have : a.put (some d) (a.tmps.getD d undef) = a := by
      cases a with
      | mk t df =>
        simp only [Act.put]
        congr 1
        rcases Nat.lt_or_ge d t.size with h | h
        · exact put_self (by rw [Array.getD_eq_getD_getElem?, Array.getElem?_eq_getElem h]; rfl)
        · exact Array.setIfInBounds_eq_of_size_le h
    rw [this]
    exact ih

theorem markAll_getD (R : List Nat) (l : Array Bool) (k : Nat) : (markAll R l).getD k true = if k ∈ R then true else l.getD k true := by
  unfold markAll
  induction R generalizing l with
  | nil => simp
  | cons r R ih =>
    rw [List.foldl_cons, ih]
    by_cases h1 : k ∈ R
    · rw [if_pos h1, if_pos (List.mem_cons_of_mem _ h1)]
    · rw [if_neg h1]
      by_cases h2 : k = r
      · subst h2
        rw [if_pos (List.mem_cons_self ..)]
        rw [Array.getD_eq_getD_getElem?, Array.getElem?_setIfInBounds]
        split
        · split <;> rfl
        · rename_i h; exact absurd rfl h
      · rw [if_neg (fun h => by rcases List.mem_cons.1 h with h | h; exact h2 h; exact h1 h), Go.getD_set_ne true (Ne.symm h2)]
theorem markAll_size (R : List Nat) (l : Array Bool) : (markAll R l).size = l.size := by
  unfold markAll
  induction R generalizing l with
  | nil => rfl
  | cons r R ih => rw [List.foldl_cons, ih]; simp
theorem eq_of_getD {l m : Array Bool} (hs : l.size = m.size) (h : ∀ k, l.getD k true = m.getD k true) : l = m := by
  apply Array.ext hs
  intro i h1 h2
  have := h i
  rw [Array.getD_eq_getD_getElem?, Array.getD_eq_getD_getElem?, Array.getElem?_eq_getElem h1, Array.getElem?_eq_getElem h2] at this
  exact this

section
variable {P : Program} {ops : Array Oper} {Q : Exit → Act → World → Prop} {md : Region.Mode} {L : List Nat} {S : World → Prop}

theorem clo_true {l : Array Bool} {R : List Nat} (hd : ∀ r ∈ R, l.getD r false = true → ∀ p ∈ predsOf md ops r, l.getD p false = true) :
    ∀ (rs : List Nat) (c : List Nat), (∀ r ∈ rs, r ∈ R) → (∀ x ∈ c, l.getD x false = true) → ∀ x ∈ clo md ops rs c, l.getD x false = true
  | [], c, _, hc, x, hx => hc x hx
  | r :: rs, c, hr, hc, x, hx => by
    refine clo_true hd rs _ (fun y hy => hr y (List.mem_cons_of_mem _ hy)) (fun y hy => ?_) x hx
    split at hy
    · rename_i h1
      rcases List.mem_append.1 hy with h2 | h2
      · exact hd r (hr r (List.mem_cons_self ..)) (hc r (List.contains_iff_mem.1 h1)) y h2
      · exact hc y h2
    · exact hc y hy
theorem getD_tf {l : Array Bool} {k : Nat} (h : l.getD k false = true) : l.getD k true = true := by
  rw [Array.getD_eq_getD_getElem?] at h ⊢
  cases hk : l[k]? with
  | none => rfl
  | some b => rw [hk] at h; exact h
theorem getD_set_mono {l : Array Bool} {k j : Nat} (h : l.getD k false = true) : (l.setIfInBounds j true).getD k false = true := by
  by_cases hkj : j = k
  · subst hkj
    rw [Array.getD_eq_getD_getElem?, Array.getElem?_setIfInBounds_self]
    rw [Array.getD_eq_getD_getElem?] at h
    split
    · rfl
    · rename_i h1; rw [Array.getElem?_eq_none (by omega)] at h; cases h
  · rw [Go.getD_set_ne false hkj]; exact h
theorem topo_spec : ∀ (R : List Nat) (l0 : Array Bool), topoOk md ops R l0 = true → (∀ r ∈ R, l0.getD r true = false ∧ ∃ o d, ops[r]? = some o ∧ o.dst = some d) ∧
      ∀ l : Array Bool, l.size = l0.size → (∀ k, l0.getD k false = true → l.getD k false = true) → (∃ r ∈ R, l.getD r true = false) → ∃ r ∈ R, l.getD r true = false ∧ ∀ p ∈ predsOf md ops r, l.getD p false = true
  | [], _, _ => ⟨fun r hr => (by cases hr), fun l _ _ ⟨r, hr, _⟩ => (by cases hr)⟩
  | r :: R, l0, h => by
    simp only [topoOk, Bool.and_eq_true, Bool.not_eq_true', List.all_eq_true] at h
    obtain ⟨⟨⟨h1, h2⟩, h3⟩, h4⟩ := h
    obtain ⟨k1, k2⟩ := topo_spec R _ h4
    refine ⟨fun x hx => ?_, fun l hsz hl hu => ?_⟩
    · rcases List.mem_cons.1 hx with rfl | hx
      · refine ⟨h1, ?_⟩
        cases ho : ops[x]? with
        | none => rw [ho] at h2; cases h2
        | some o =>
          rw [ho] at h2
          obtain ⟨d, hd⟩ := Option.isSome_iff_exists.1 h2
          exact ⟨o, d, rfl, hd⟩
      · obtain ⟨m1, m2⟩ := k1 x hx
        refine ⟨?_, m2⟩
        by_cases hxr : r = x
        · subst hxr
          exact h1
        · rw [Go.getD_set_ne true hxr] at m1; exact m1
    · by_cases hr : l.getD r true = false
      · exact ⟨r, List.mem_cons_self .., hr, fun p hp => hl p (h3 p hp)⟩
      · have hr2 : l.getD r true = true := by simpa using hr
        have hrs : r < l0.size := by
          rcases Nat.lt_or_ge r l0.size with h' | h'
          · exact h'
          · rw [Array.getD_eq_getD_getElem?, Array.getElem?_eq_none h'] at h1; cases h1
        have hrl : r < l.size := by omega
        have hrf : l.getD r false = true := by
          rw [Array.getD_eq_getD_getElem?, Array.getElem?_eq_getElem hrl] at hr2 ⊢
          exact hr2
        obtain ⟨x, hx, hx2⟩ := k2 l (by simp; exact hsz) (fun k hk => by
          by_cases hkr : r = k
          · subst hkr; exact hrf
          · rw [Go.getD_set_ne false hkr] at hk; exact hl k hk) (by
          obtain ⟨y, hy, hy2⟩ := hu
          rcases List.mem_cons.1 hy with rfl | hy
          · exact absurd hy2 hr
          · exact ⟨y, hy, hy2⟩)
        exact ⟨x, List.mem_cons_of_mem _ hx, hx2⟩

theorem allOk_parts {R : List Nat} {l : Array Bool} (h : allOkB md ops R l = true) : topoOk md ops R l = true ∧ outOk md ops R l = true ∧ nodupB (R.map (dstOf ops)) = true ∧ l.size = ops.size := by
  simp only [allOkB, Bool.and_eq_true, decide_eq_true_eq] at h
  exact ⟨h.1.1.1, h.1.1.2, h.1.2, h.2⟩
theorem preds_of_ready {i : Nat} {l : Array Bool} (h : i ∈ Region.ready md ops l) : l.getD i true = false ∧ i < ops.size ∧ ∀ p ∈ predsOf md ops i, l.getD p false = true := by
  obtain ⟨h1, o, ho, h2⟩ := mem_ready.1 h
  refine ⟨h1, (Array.getElem?_eq_some_iff.1 ho).1, fun p hp => ?_⟩
  unfold predsOf at hp
  rw [ho] at hp
  obtain ⟨e, he, rfl⟩ := List.mem_map.1 hp
  rw [List.mem_filter] at he
  exact h2 e (by simpa using he.1) he.2
theorem ready_of_preds {i : Nat} {l : Array Bool} (h1 : l.getD i true = false) {o : Oper} (ho : ops[i]? = some o) (h : ∀ p ∈ predsOf md ops i, l.getD p false = true) : i ∈ Region.ready md ops l := by
  refine mem_ready.2 ⟨h1, o, ho, fun e he hb => h _ ?_⟩
  unfold predsOf
  rw [ho]
  exact List.mem_map.2 ⟨e, List.mem_filter.2 ⟨by simpa using he, hb⟩, rfl⟩

/-- How many of R have not come up. -/
def left (R : List Nat) (l : Array Bool) : Nat := (R.filter fun r => !l.getD r true).length
theorem left_zero {R : List Nat} {l : Array Bool} (h : left R l = 0) : ∀ r ∈ R, l.getD r true = true := fun r hr => by
  have h1 := List.eq_nil_of_length_eq_zero h
  rw [List.filter_eq_nil_iff] at h1
  simpa using h1 r hr
theorem nodupB_map {f : Nat → Nat} : ∀ {R : List Nat}, nodupB (R.map f) = true → nodupB R = true
  | [], _ => rfl
  | r :: R, h => by
    obtain ⟨h1, h2⟩ := nodupB_cons (x := f r) (l := R.map f) h
    simp only [nodupB, Bool.and_eq_true, Bool.not_eq_true']
    refine ⟨?_, nodupB_map h2⟩
    cases hc : R.contains r with
    | false => rfl
    | true => exact absurd (List.mem_map.2 ⟨r, List.contains_iff_mem.1 hc, rfl⟩) h1
theorem nodup_inj {f : Nat → Nat} : ∀ {R : List Nat}, nodupB (R.map f) = true → ∀ {r i : Nat}, r ∈ R → i ∈ R → r ≠ i → f r ≠ f i
  | [], _, _, _, h, _, _ => by cases h
  | x :: R, h, r, i, hr, hi, hne => by
    obtain ⟨h1, h2⟩ := nodupB_cons (x := f x) (l := R.map f) h
    rcases List.mem_cons.1 hr with hr' | hr'
    · rcases List.mem_cons.1 hi with hi' | hi'
      · exact absurd (hr'.trans hi'.symm) hne
      · exact fun e => h1 (List.mem_map.2 ⟨i, hi', by rw [← e, hr']⟩)
    · rcases List.mem_cons.1 hi with hi' | hi'
      · exact fun e => h1 (List.mem_map.2 ⟨r, hr', by rw [e, hi']⟩)
      · exact nodup_inj h2 hr' hi' hne
theorem left_same {R : List Nat} {l : Array Bool} {i : Nat} (hi : i ∉ R) : left R (l.setIfInBounds i true) = left R l := by
  unfold left
  congr 1
  apply List.filter_congr
  intro r hr
  rw [Go.getD_set_ne true (fun e : i = r => hi (e ▸ hr))]
theorem left_set {R : List Nat} {l : Array Bool} {i : Nat} (hn : nodupB R = true) (hi : i ∈ R) (h : l.getD i true = false) : left R (l.setIfInBounds i true) + 1 = left R l := by
  have hlt : i < l.size := by
    rcases Nat.lt_or_ge i l.size with h' | h'
    · exact h'
    · rw [Array.getD_eq_getD_getElem?, Array.getElem?_eq_none h'] at h; cases h
  have hset : (l.setIfInBounds i true).getD i true = true := by
    rw [Array.getD_eq_getD_getElem?, Array.getElem?_setIfInBounds_self, if_pos hlt]; rfl
  induction R with
  | nil => cases hi
  | cons r R ih =>
    obtain ⟨n1, n2⟩ := nodupB_cons hn
    by_cases hr : i = r
    · subst hr
      have := left_same (l := l) n1
      unfold left at this ⊢
      rw [List.filter_cons_of_neg (by simp [hset]), List.filter_cons_of_pos (by simp [h]), this]
      rfl
    · have hi2 : i ∈ R := by
        rcases List.mem_cons.1 hi with h' | h'
        · exact absurd h' hr
        · exact h'
      have := ih n2 hi2
      unfold left at this ⊢
      by_cases hb : l.getD r true = true
      · rw [List.filter_cons_of_neg (by rw [Go.getD_set_ne true hr]; simp [hb]), List.filter_cons_of_neg (by simp [hb])]; exact this
      · rw [List.filter_cons_of_pos (by rw [Go.getD_set_ne true hr]; simpa using hb), List.filter_cons_of_pos (by simpa using hb), List.length_cons, List.length_cons, this]

theorem all_aux (R : List Nat) (Φ : Nat → Value → World → Prop) {l0 : Array Bool} {a0 : Act} {w0 : World} (hok : allOkB md ops R l0 = true) (hst : ∀ i ∈ R, ∀ v w w', Below w.heap.size w w' → Φ i v w → Φ i v w')
    (hS : ∀ w', Below w0.heap.size w0 w' → S w') {F : Nat}
    (hop : ∀ i ∈ R, ∀ (ν : Nat → Value) (w : World), Below w0.heap.size w0 w → (∀ j ∈ R, j ∈ predsOf md ops i → Φ j (ν (dstOf ops j)) w) →
      wpOp P ops Q i (fun a' w' => ∃ v, a' = (putsR (R.map (dstOf ops)) a0 ν).put (some (dstOf ops i)) v ∧ Φ i v w' ∧ Below w.heap.size w w') (putsR (R.map (dstOf ops)) a0 ν) w)
    (hfin : ∀ (ν : Nat → Value) (w : World), Below w0.heap.size w0 w → (∀ i ∈ R, Φ i (ν (dstOf ops i)) w) → wpAnyL P md ops Q L S F (markAll R l0) (putsR (R.map (dstOf ops)) a0 ν) w) :
    ∀ (n : Nat) (l : Array Bool) (ν : Nat → Value) (w : World), n = left R l → l.size = l0.size → (∀ k, k ∉ R → l.getD k true = l0.getD k true) → (∀ k, l0.getD k false = true → l.getD k false = true) →
      (∀ r ∈ R, l.getD r false = true → ∀ p ∈ predsOf md ops r, l.getD p false = true) → Below w0.heap.size w0 w → (∀ r ∈ R, l.getD r true = true → Φ r (ν (dstOf ops r)) w) →
      wpAnyL P md ops Q L S (n + F) l (putsR (R.map (dstOf ops)) a0 ν) w := by
  obtain ⟨hto, hou, hnd, hsz0⟩ := allOk_parts hok
  obtain ⟨t1, t2⟩ := topo_spec R l0 hto
  intro n
  induction n using Nat.strongRecOn with
  | _ n ih =>
    intro l ν w hn hsz hK hM hD hb hΦ
    have hrs : ∀ r ∈ R, r < l.size := fun r hr => by
      obtain ⟨-, o, d, ho, -⟩ := t1 r hr
      have := (Array.getElem?_eq_some_iff.1 ho).1
      omega
    have htf : ∀ k, k < l.size → l.getD k true = true → l.getD k false = true := fun k hk h => by
      rw [Array.getD_eq_getD_getElem?, Array.getElem?_eq_getElem hk] at h ⊢
      exact h
    cases n with
    | zero =>
      have hl := left_zero hn.symm
      have : l = markAll R l0 := by
        refine eq_of_getD (by rw [markAll_size]; exact hsz) fun k => ?_
        rw [markAll_getD]
        by_cases hk : k ∈ R
        · rw [if_pos hk]; exact hl k hk
        · rw [if_neg hk]; exact hK k hk
      subst this
      rw [Nat.zero_add]
      exact hfin ν w hb fun i hi => hΦ i hi (hl i hi)
    | succ n =>
      have hex : ∃ r ∈ R, l.getD r true = false := by
        apply Classical.byContradiction
        intro hno
        have : left R l = 0 := by
          unfold left
          rw [List.length_eq_zero_iff, List.filter_eq_nil_iff]
          intro r hr h
          exact hno ⟨r, hr, by simpa using h⟩
        omega
      obtain ⟨r, hr, hr1, hr2⟩ := t2 l hsz hM hex
      obtain ⟨-, o, d, ho, -⟩ := t1 r hr
      have hready := ready_of_preds (md := md) hr1 ho hr2
      rw [Nat.add_right_comm]
      refine ⟨fun h0 => (by rw [h0] at hready; cases hready), fun i hi => ?_⟩
      obtain ⟨hi1, hi2, hi3⟩ := preds_of_ready hi
      have hiR : i ∈ R := by
        apply Classical.byContradiction
        intro hni
        unfold outOk at hou
        rw [List.all_eq_true] at hou
        have h1 := hou i (List.mem_range.2 hi2)
        simp only [Bool.or_eq_true, List.any_eq_true, List.all_eq_true, Bool.and_eq_true, Bool.not_eq_true'] at h1
        rcases h1 with ((h1 | h1) | ⟨p, hp, h2, h3⟩) | h1
        · exact hni (List.contains_iff_mem.1 h1)
        · rw [hK i hni, h1] at hi1; cases hi1
        · have hpR : p ∉ R := fun h => by rw [List.contains_iff_mem.2 h] at h2; cases h2
          have h4 := hi3 p hp
          have h5 := getD_tf h4
          rw [hK p hpR] at h5
          have hps : p < l.size := by
            rcases Nat.lt_or_ge p l.size with h' | h'
            · exact h'
            · rw [Array.getD_eq_getD_getElem?, Array.getElem?_eq_none h'] at h4; cases h4
          rw [Array.getD_eq_getD_getElem?, Array.getElem?_eq_getElem (by omega)] at h5 h3
          simp only [Option.getD_some] at h5 h3
          rw [h5] at h3; cases h3
        · have h2 := clo_true (md := md) (ops := ops) (l := l) (R := R) hD R.reverse (predsOf md ops i) (fun r hr => List.mem_reverse.1 hr) hi3
          obtain ⟨y, hy, hy2⟩ := hex
          have h3 := getD_tf (h2 y (List.contains_iff_mem.1 (h1 y hy)))
          rw [hy2] at h3; cases h3
      have hdn : dstOf ops i ∈ R.map (dstOf ops) := List.mem_map.2 ⟨i, hiR, rfl⟩
      have hset : (l.setIfInBounds i true).getD i false = true := by
        rw [Array.getD_eq_getD_getElem?, Array.getElem?_setIfInBounds_self, if_pos (hrs i hiR)]; rfl
      refine wpOp_mono (fun a' w' h => ?_) (hop i hiR ν w hb fun j hj hp => hΦ j hj (getD_tf (hi3 j hp)))
      obtain ⟨v, rfl, hv, hb2⟩ := h
      have hb3 := hb.trans (hb2.mono hb.size)
      refine ⟨fun _ => hS _ hb3, ?_⟩
      rw [putsR_upd hdn hnd]
      have hlt := left_set (nodupB_map hnd) hiR hi1
      have hgo := ih (left R (l.setIfInBounds i true)) (by omega) (l.setIfInBounds i true) (upd ν (dstOf ops i) v) w' rfl (by simp; exact hsz) (fun k hk => by
        rw [Go.getD_set_ne true (fun e : i = k => hk (e ▸ hiR))]; exact hK k hk) (fun k hk => getD_set_mono (hM k hk)) (fun r hr hrt p hp => by
        by_cases hri : r = i
        · subst hri; exact getD_set_mono (hi3 p hp)
        · rw [Go.getD_set_ne false (Ne.symm hri)] at hrt
          exact getD_set_mono (hD r hr hrt p hp)) hb3 (fun r hr hrt => by
        unfold upd
        by_cases hri : r = i
        · subst hri; rw [if_pos rfl]; exact hv
        · have hne : dstOf ops r ≠ dstOf ops i := nodup_inj hnd hr hiR hri
          rw [if_neg hne]
          rw [Go.getD_set_ne true (Ne.symm hri)] at hrt
          exact hst r hr _ _ _ hb2 (hΦ r hr hrt))
      have hone : left R (l.setIfInBounds i true) = n := by omega
      rw [hone] at hgo
      exact hgo

/-- The operations R come up in any order; each is walked once. -/
theorem wpAnyL_all (R : List Nat) (Φ : Nat → Value → World → Prop) (F : Nat) {l0 : Array Bool} {a0 : Act} {w0 : World} (hok : allOkB md ops R l0 = true) (hst : ∀ i ∈ R, ∀ v w w', Below w.heap.size w w' → Φ i v w → Φ i v w')
    (hS : ∀ w', Below w0.heap.size w0 w' → S w')
    (hop : ∀ i ∈ R, ∀ (ν : Nat → Value) (w : World), Below w0.heap.size w0 w → (∀ j ∈ R, j ∈ predsOf md ops i → Φ j (ν (dstOf ops j)) w) →
      wpOp P ops Q i (fun a' w' => ∃ v, a' = (putsR (R.map (dstOf ops)) a0 ν).put (some (dstOf ops i)) v ∧ Φ i v w' ∧ Below w.heap.size w w') (putsR (R.map (dstOf ops)) a0 ν) w)
    (hfin : ∀ (ν : Nat → Value) (w : World), Below w0.heap.size w0 w → (∀ i ∈ R, Φ i (ν (dstOf ops i)) w) → wpAnyL P md ops Q L S F (markAll R l0) (putsR (R.map (dstOf ops)) a0 ν) w) :
    wpAnyL P md ops Q L S (R.length + F) l0 a0 w0 := by
  obtain ⟨hto, hou, hnd, hsz0⟩ := allOk_parts hok
  obtain ⟨t1, t2⟩ := topo_spec R l0 hto
  have hun : ∀ r ∈ R, l0.getD r true = false := fun r hr => (t1 r hr).1
  have hlen : left R l0 = R.length := by
    unfold left
    rw [List.filter_eq_self.2 (fun r hr => by rw [hun r hr]; rfl)]
  have h := all_aux R Φ hok hst hS hop hfin R.length l0 (fun d => a0.tmps.getD d undef) w0 hlen.symm rfl (fun _ _ => rfl) (fun _ h => h)
    (fun r hr h => by have h1 := getD_tf h; rw [hun r hr] at h1; cases h1) (Below.refl _ _) (fun r hr h => by rw [hun r hr] at h; cases h)
  rw [putsR_self] at h
  exact h

theorem markAll_map (R : List (Nat × Nat)) (h : R.all (fun p => dstOf ops p.1 == p.2) = true) : (R.map (·.1)).map (dstOf ops) = R.map (·.2) := by
  rw [List.map_map]
  apply List.map_congr_left
  intro p hp
  rw [List.all_eq_true] at h
  simpa using h p hp
/-- The same with the slots named: R holds (operation, slot). -/
theorem wpAnyL_allP (R : List (Nat × Nat)) (Φ : Nat → Value → World → Prop) (F : Nat) {l0 : Array Bool} {a0 : Act} {w0 : World} (hok : (allOkB md ops (R.map (·.1)) l0 && R.all (fun p => dstOf ops p.1 == p.2)) = true)
    (hst : ∀ p ∈ R, ∀ v w w', Below w.heap.size w w' → Φ p.1 v w → Φ p.1 v w')
    (hS : ∀ w', Below w0.heap.size w0 w' → S w')
    (hop : ∀ p ∈ R, ∀ (ν : Nat → Value) (w : World), Below w0.heap.size w0 w → (∀ q ∈ R, (predsOf md ops p.1).contains q.1 = true → Φ q.1 (ν q.2) w) →
      wpOp P ops Q p.1 (fun a' w' => ∃ v, a' = (putsR (R.map (·.2)) a0 ν).put (some p.2) v ∧ Φ p.1 v w' ∧ Below w.heap.size w w') (putsR (R.map (·.2)) a0 ν) w)
    (hfin : ∀ (ν : Nat → Value) (w : World), Below w0.heap.size w0 w → (∀ p ∈ R, Φ p.1 (ν p.2) w) → wpAnyL P md ops Q L S F (markAll (R.map (·.1)) l0) (putsR (R.map (·.2)) a0 ν) w) :
    wpAnyL P md ops Q L S (R.length + F) l0 a0 w0 := by
  rw [Bool.and_eq_true] at hok
  have hD := markAll_map (ops := ops) R hok.2
  have hd : ∀ p ∈ R, dstOf ops p.1 = p.2 := fun p hp => by
    have := hok.2
    rw [List.all_eq_true] at this
    simpa using this p hp
  have h := wpAnyL_all (P := P) (ops := ops) (Q := Q) (md := md) (L := L) (S := S) (R.map (·.1)) Φ F hok.1 (fun i hi => by
    obtain ⟨p, hp, rfl⟩ := List.mem_map.1 hi
    exact hst p hp) hS (fun i hi ν w hb hP => by
    obtain ⟨p, hp, rfl⟩ := List.mem_map.1 hi
    have := hop p hp ν w hb (fun q hq hc => by
      have := hP q.1 (List.mem_map.2 ⟨q, hq, rfl⟩) (List.contains_iff_mem.1 hc)
      rw [hd q hq] at this
      exact this)
    rw [hD, hd p hp]
    exact this) (fun ν w hb hf => by
    rw [hD]
    exact hfin ν w hb (fun p hp => by
      have := hf p.1 (List.mem_map.2 ⟨p, hp, rfl⟩)
      rw [hd p hp] at this
      exact this))
  rw [List.length_map] at h
  exact h
end
end Go.Proofs.YtljocgdhdilglaaGreat

namespace Go.Proofs.YtljocgdhdilglaaGreat
open Go.RowKit

/-- All of R, each with its train. -/
def flatR (R : List Nat) (att : Nat → List Nat) : List Nat := R.flatMap fun i => i :: att i
def attOk (md : Region.Mode) (ops : Array Oper) (l : Array Bool) (i : Nat) : List Nat → List Nat → Bool
  | [], _ => true
  | u :: us, done => (match ops[u]? with | some o => o.dst.isSome | none => false) && (predsOf md ops u).contains i && !l.getD u true && (predsOf md ops u).all (fun p => p == i || done.contains p || l.getD p false || (predsOf md ops i).contains p) &&
      ((List.range ops.size).all fun j => j == u || (j == i || done.contains j || l.getD j false || (predsOf md ops i).contains j) || (predsOf md ops j).contains u || (match ops[u]?, ops[j]? with | some ou, some oj => ou.apart ops oj | _, _ => true)) && attOk md ops l i us (u :: done)
def topoU (md : Region.Mode) (ops : Array Oper) (att : Nat → List Nat) : List Nat → Array Bool → Bool
  | [], _ => true
  | r :: rs, l => !l.getD r true && (match ops[r]? with | some o => o.dst.isSome | none => false) && (predsOf md ops r).all (fun p => l.getD p false) && topoU md ops att rs (markAll (r :: att r) l)
def outOkU (md : Region.Mode) (ops : Array Oper) (R F : List Nat) (l : Array Bool) : Bool :=
  (List.range ops.size).all fun k => F.contains k || l.getD k true || (predsOf md ops k).any (fun p => !F.contains p && !l.getD p false) || (R.all fun r => (clo md ops F.reverse (predsOf md ops k)).contains r)
def allOkU (md : Region.Mode) (ops : Array Oper) (R : List Nat) (att : Nat → List Nat) (l : Array Bool) : Bool :=
  topoU md ops att R l && outOkU md ops R (flatR R att) l && nodupB ((flatR R att).map (dstOf ops)) && decide (l.size = ops.size) && R.all (fun i => attOk md ops l i (att i) []) && Region.noSelect ops

section
variable {P : Program} {ops : Array Oper} {Q : Exit → Act → World → Prop} {md : Region.Mode} {L : List Nat} {S : World → Prop}

/-- The train behind an operation yields what Φ says. -/
def Train (P : Program) (ops : Array Oper) (Φ : Nat → Value → World → Prop) (w : World) : List Nat → Act → Prop
  | [], _ => True
  | u :: us, a => ∃ o v, ops[u]? = some o ∧ YieldsIf P ops (fun _ => True) o v a ∧ Φ u v w ∧ Train P ops Φ w us (a.put o.dst v)

theorem getD_set_tf {l : Array Bool} {i : Nat} (h : i < l.size) : (l.setIfInBounds i true).getD i false = true := by
  rw [Array.getD_eq_getD_getElem?, Array.getElem?_setIfInBounds_self, if_pos h]; rfl
theorem markAll_mono {us : List Nat} {l : Array Bool} {k : Nat} (h : l.getD k false = true) : (markAll us l).getD k false = true := by
  induction us generalizing l with
  | nil => exact h
  | cons u us ih => exact ih (l := l.setIfInBounds u true) (getD_set_mono h)
theorem markAll_in {us : List Nat} {l : Array Bool} {k : Nat} (hk : k ∈ us) (h : k < l.size) : (markAll us l).getD k false = true := by
  induction us generalizing l with
  | nil => cases hk
  | cons u us ih =>
    rcases List.mem_cons.1 hk with rfl | hk
    · exact markAll_mono (us := us) (getD_set_tf h)
    · exact ih (l := l.setIfInBounds u true) hk (by simp; exact h)
/-- Taking the train at once. -/
theorem train_take {Φ : Nat → Value → World → Prop} {l0 : Array Bool} {i : Nat} {R : List Nat} {a0 : Act} {w : World} {F : Nat} (hns : Region.noSelect ops = true) (hnd : nodupB (R.map (dstOf ops)) = true) (hiR : i ∈ R) :
    ∀ (us done : List Nat) (l : Array Bool) (ν : Nat → Value), attOk md ops l0 i us done = true → (∀ u ∈ us, u ∈ R) → (∀ u ∈ us, u ∉ L) → (∀ u ∈ us, l.getD u true = false) → l.size = ops.size → nodupB us = true →
      (∀ p, l0.getD p false = true → l.getD p false = true) → l.getD i false = true → (∀ p ∈ predsOf md ops i, l.getD p false = true) → (∀ u ∈ done, l.getD u false = true) → S w →
      Train P ops Φ w us (putsR (R.map (dstOf ops)) a0 ν) →
      (∀ ν', (∀ k, (∀ u ∈ us, dstOf ops u ≠ k) → ν' k = ν k) → (∀ u ∈ us, Φ u (ν' (dstOf ops u)) w) → wpAnyL P md ops (OnlyNormal Q) L S F (markAll us l) (putsR (R.map (dstOf ops)) a0 ν') w) →
      wpAnyL P md ops (OnlyNormal Q) L S (us.length + F) l (putsR (R.map (dstOf ops)) a0 ν) w := by
  intro us
  induction us with
  | nil =>
    intro done l ν _ _ _ _ _ _ _ _ _ _ _ _ h
    rw [show ([] : List Nat).length + F = F by simp]
    exact h ν (fun _ _ => rfl) (fun u hu => by cases hu)
  | cons u us ih =>
    intro done l ν hat hR hL hun hsz hndu hl0 hi hp hdone hS htr h
    simp only [attOk, Bool.and_eq_true, List.all_eq_true] at hat
    obtain ⟨⟨⟨⟨⟨h1, h2⟩, h3⟩, h4⟩, h5⟩, h6⟩ := hat
    obtain ⟨o, v, ho, hy, hΦ, htr2⟩ := htr
    obtain ⟨n1, n2⟩ := nodupB_cons hndu
    have husz : u < ops.size := (Array.getElem?_eq_some_iff.1 ho).1
    have hu0 := hun u (List.mem_cons_self ..)
    have hready : u ∈ Region.ready md ops l := ready_of_preds hu0 ho (fun p hp2 => by
      have h7 := h4 p hp2
      simp only [Bool.or_eq_true, beq_iff_eq] at h7
      rcases h7 with ((h7 | h7) | h7) | h7
      · rw [h7]; exact hi
      · exact hdone p (List.contains_iff_mem.1 h7)
      · exact hl0 p h7
      · exact hp p (List.contains_iff_mem.1 h7))
    have hdst : o.dst = some (dstOf ops u) := by
      rw [ho] at h1
      obtain ⟨d, hd⟩ := Option.isSome_iff_exists.1 h1
      unfold dstOf
      rw [ho]
      simp only [hd, Option.getD_some]
    have hdn : dstOf ops u ∈ R.map (dstOf ops) := List.mem_map.2 ⟨u, hR u (List.mem_cons_self ..), rfl⟩
    rw [List.length_cons, Nat.add_right_comm]
    refine wpAnyL_pure1 ho (Region.noSelect_spec hns) (fun _ _ _ h => (h : False).elim) (by
      cases hc : L.contains u with
      | false => rfl
      | true => exact absurd (List.contains_iff_mem.1 hc) (hL u (List.mem_cons_self ..))) _ l _ w (fun j oj hoj hju hjl hnw => ?_) hready hy (fun _ => hS) ?_
    · have h7 := h5 j (List.mem_range.2 (Array.getElem?_eq_some_iff.1 hoj).1)
      simp only [Bool.or_eq_true, beq_iff_eq] at h7
      rcases h7 with ((h7 | h7) | h7) | h7
      · exact absurd h7 hju
      · exfalso
        have h8 : l.getD j false = true := by
          rcases h7 with ((h7 | h7) | h7) | h7
          · rw [h7]; exact hi
          · exact hdone j (List.contains_iff_mem.1 h7)
          · exact hl0 j h7
          · exact hp j (List.contains_iff_mem.1 h7)
        rw [getD_tf h8] at hjl
        cases hjl
      · exfalso
        have h8 := List.contains_iff_mem.1 h7
        unfold predsOf at h8
        rw [hoj] at h8
        obtain ⟨e, he, he2⟩ := List.mem_map.1 h8
        rw [List.mem_filter] at he
        exact hnw e (by simpa using he.1) he.2 he2
      · rw [ho, hoj] at h7; exact h7
    · rw [hdst, putsR_upd hdn hnd]
      refine ih (u :: done) (l.setIfInBounds u true) (upd ν (dstOf ops u) v) h6 (fun x hx => hR x (List.mem_cons_of_mem _ hx)) (fun x hx => hL x (List.mem_cons_of_mem _ hx)) (fun x hx => ?_) (by simp; exact hsz) n2 (fun p hp2 => getD_set_mono (hl0 p hp2)) (getD_set_mono hi) (fun p hp2 => getD_set_mono (hp p hp2)) (fun x hx => ?_) hS ?_ (fun ν' k1 k2 => ?_)
      · rw [Go.getD_set_ne true (fun e : u = x => n1 (e ▸ hx))]
        exact hun x (List.mem_cons_of_mem _ hx)
      · rcases List.mem_cons.1 hx with rfl | hx
        · exact getD_set_tf (by omega)
        · exact getD_set_mono (hdone x hx)
      · rw [hdst, putsR_upd hdn hnd] at htr2
        exact htr2
      · refine h ν' (fun k hk => ?_) (fun x hx => ?_)
        · rw [k1 k (fun x hx => hk x (List.mem_cons_of_mem _ hx))]
          simp only [upd, if_neg (Ne.symm (hk u (List.mem_cons_self ..)))]
        · rcases List.mem_cons.1 hx with rfl | hx
          · have h9 : ∀ y ∈ us, dstOf ops y ≠ dstOf ops x := fun y hy => nodup_inj hnd (hR y (List.mem_cons_of_mem _ hy)) (hR x (List.mem_cons_self ..)) (fun e => n1 (e ▸ hy))
            rw [k1 _ h9]
            simp only [upd, if_true]
            exact hΦ
          · exact k2 x hx
theorem markAll_or {us : List Nat} {l : Array Bool} {k : Nat} (h : (markAll us l).getD k false = true) : k ∈ us ∨ l.getD k false = true := by
  induction us generalizing l with
  | nil => exact .inr h
  | cons u us ih =>
    rcases ih (l := l.setIfInBounds u true) h with h1 | h1
    · exact .inl (List.mem_cons_of_mem _ h1)
    · by_cases hk : u = k
      · exact .inl (hk ▸ List.mem_cons_self ..)
      · rw [Go.getD_set_ne false hk] at h1; exact .inr h1
theorem markAll_undone {us : List Nat} {l : Array Bool} {k : Nat} (h : (markAll us l).getD k true = false) : l.getD k true = false := by
  rw [markAll_getD] at h
  split at h
  · cases h
  · exact h
theorem topoU_spec {att : Nat → List Nat} : ∀ (R : List Nat) (l0 : Array Bool), topoU md ops att R l0 = true → (∀ r ∈ R, l0.getD r true = false ∧ ∃ o d, ops[r]? = some o ∧ o.dst = some d) ∧
      ∀ l : Array Bool, l.size = l0.size → (∀ k, l0.getD k false = true → l.getD k false = true) → (∀ r ∈ R, l.getD r true = true → ∀ u ∈ att r, l.getD u false = true) → (∃ r ∈ R, l.getD r true = false) → ∃ r ∈ R, l.getD r true = false ∧ ∀ p ∈ predsOf md ops r, l.getD p false = true
  | [], _, _ => ⟨fun r hr => (by cases hr), fun l _ _ _ ⟨r, hr, _⟩ => (by cases hr)⟩
  | r :: R, l0, h => by
    simp only [topoU, Bool.and_eq_true, Bool.not_eq_true', List.all_eq_true] at h
    obtain ⟨⟨⟨h1, h2⟩, h3⟩, h4⟩ := h
    obtain ⟨k1, k2⟩ := topoU_spec R _ h4
    refine ⟨fun x hx => ?_, fun l hsz hl hat hu => ?_⟩
    · rcases List.mem_cons.1 hx with rfl | hx
      · refine ⟨h1, ?_⟩
        cases ho : ops[x]? with
        | none => rw [ho] at h2; cases h2
        | some o =>
          rw [ho] at h2
          obtain ⟨d, hd⟩ := Option.isSome_iff_exists.1 h2
          exact ⟨o, d, rfl, hd⟩
      · obtain ⟨m1, m2⟩ := k1 x hx
        exact ⟨markAll_undone m1, m2⟩
    · by_cases hr : l.getD r true = false
      · exact ⟨r, List.mem_cons_self .., hr, fun p hp => hl p (h3 p hp)⟩
      · have hr2 : l.getD r true = true := by simpa using hr
        have hrs : r < l0.size := by
          rcases Nat.lt_or_ge r l0.size with h' | h'
          · exact h'
          · rw [Array.getD_eq_getD_getElem?, Array.getElem?_eq_none h'] at h1; cases h1
        have hrl : r < l.size := by omega
        have hrf : l.getD r false = true := by
          rw [Array.getD_eq_getD_getElem?, Array.getElem?_eq_getElem hrl] at hr2 ⊢
          exact hr2
        obtain ⟨x, hx, hx2⟩ := k2 l (by rw [markAll_size]; exact hsz) (fun k hk => by
          rcases markAll_or hk with h5 | h5
          · rcases List.mem_cons.1 h5 with rfl | h5
            · exact hrf
            · exact hat r (List.mem_cons_self ..) hr2 k h5
          · exact hl k h5) (fun y hy => hat y (List.mem_cons_of_mem _ hy)) (by
          obtain ⟨y, hy, hy2⟩ := hu
          rcases List.mem_cons.1 hy with rfl | hy
          · exact absurd hy2 hr
          · exact ⟨y, hy, hy2⟩)
        exact ⟨x, List.mem_cons_of_mem _ hx, hx2⟩
theorem left_markAll {R : List Nat} (hn : nodupB R = true) : ∀ (us : List Nat) (l : Array Bool), nodupB us = true → (∀ u ∈ us, u ∈ R) → (∀ u ∈ us, l.getD u true = false) → left R (markAll us l) + us.length = left R l := by
  intro us
  induction us with
  | nil => intro l _ _ _; rfl
  | cons u us ih =>
    intro l h1 h2 h3
    obtain ⟨n1, n2⟩ := nodupB_cons h1
    have h4 := left_set hn (h2 u (List.mem_cons_self ..)) (h3 u (List.mem_cons_self ..))
    have h5 := ih (l.setIfInBounds u true) n2 (fun x hx => h2 x (List.mem_cons_of_mem _ hx)) (fun x hx => by
      rw [Go.getD_set_ne true (fun e : u = x => n1 (e ▸ hx))]
      exact h3 x (List.mem_cons_of_mem _ hx))
    show left R (markAll us (l.setIfInBounds u true)) + (us.length + 1) = _
    omega
theorem nodupB_append_right : ∀ {a b : List Nat}, nodupB (a ++ b) = true → nodupB b = true
  | [], _, h => h
  | _ :: a, _, h => nodupB_append_right (a := a) (nodupB_cons h).2
theorem nodupB_append_left : ∀ {a b : List Nat}, nodupB (a ++ b) = true → nodupB a = true
  | [], _, _ => rfl
  | x :: a, b, h => by
    obtain ⟨h1, h2⟩ := nodupB_cons (x := x) (l := a ++ b) h
    simp only [nodupB, Bool.and_eq_true, Bool.not_eq_true']
    refine ⟨?_, nodupB_append_left h2⟩
    cases hc : a.contains x with
    | false => rfl
    | true => exact absurd (List.mem_append_left _ (List.contains_iff_mem.1 hc)) h1
theorem nodupB_disj : ∀ {a b : List Nat}, nodupB (a ++ b) = true → ∀ x, x ∈ a → x ∉ b
  | [], _, _, x, hx => by cases hx
  | y :: a, b, h, x, hx => by
    obtain ⟨h1, h2⟩ := nodupB_cons (x := y) (l := a ++ b) h
    rcases List.mem_cons.1 hx with hx' | hx'
    · intro hb; exact h1 (List.mem_append_right _ (hx' ▸ hb))
    · exact nodupB_disj h2 x hx'
theorem flat_own {att : Nat → List Nat} : ∀ {R : List Nat}, nodupB (flatR R att) = true → ∀ r ∈ R, nodupB (r :: att r) = true ∧ ∀ r' ∈ R, r' ≠ r → ∀ x ∈ r :: att r, x ∉ r' :: att r'
  | [], _, r, hr => by cases hr
  | y :: R, h, r, hr => by
    have e : flatR (y :: R) att = (y :: att y) ++ flatR R att := rfl
    rw [e] at h
    have h1 := nodupB_append_left h
    have h2 := nodupB_append_right h
    have h3 := nodupB_disj h
    have hmem : ∀ z ∈ R, ∀ x ∈ z :: att z, x ∈ flatR R att := fun z hz x hx => List.mem_flatMap.2 ⟨z, hz, hx⟩
    by_cases hry : r = y
    · subst hry
      refine ⟨h1, fun r' hr' hne x hx hx2 => ?_⟩
      rcases List.mem_cons.1 hr' with h4 | h4
      · exact hne h4
      · exact h3 x hx (hmem r' h4 x hx2)
    · have hrR : r ∈ R := by
        rcases List.mem_cons.1 hr with h4 | h4
        · exact absurd h4 hry
        · exact h4
      obtain ⟨k1, k2⟩ := flat_own h2 r hrR
      refine ⟨k1, fun r' hr' hne x hx hx2 => ?_⟩
      by_cases hr'y : r' = y
      · subst hr'y
        exact h3 x hx2 (hmem r hrR x hx)
      · rcases List.mem_cons.1 hr' with h4 | h4
        · exact hr'y h4
        · exact k2 r' h4 hne x hx hx2
theorem allU_aux (R : List Nat) (att : Nat → List Nat) (D : List Nat) (hDR : ∀ i ∈ D, i ∈ R) (Φ : Nat → Value → World → Prop) {l0 : Array Bool} {a0 : Act} {w0 : World} (hok : allOkU md ops R att l0 = true) (hL : ∀ u ∈ flatR R att, u ∉ L)
    (hst : ∀ i ∈ flatR R att, ∀ v w w', Below w.heap.size w w' → Φ i v w → Φ i v w') (hS : ∀ w', Below w0.heap.size w0 w' → S w') {F : Nat}
    (hop : ∀ i ∈ R, ∀ (ν : Nat → Value) (w : World), Below w0.heap.size w0 w → (∀ j ∈ flatR R att, j ∈ predsOf md ops i → Φ j (ν (dstOf ops j)) w) →
      wpOp P ops (OnlyNormal Q) i (fun a' w' => ∃ v, a' = (putsR ((flatR R att).map (dstOf ops)) a0 ν).put (some (dstOf ops i)) v ∧ Φ i v w' ∧ Below w.heap.size w w' ∧ Train P ops Φ w' (att i) a' ∧ (i ∈ D → ∀ j ∈ D, ∀ u, Φ j u w → v ≠ u)) (putsR ((flatR R att).map (dstOf ops)) a0 ν) w)
    (hfin : ∀ (ν : Nat → Value) (w : World), Below w0.heap.size w0 w → (∀ i ∈ flatR R att, Φ i (ν (dstOf ops i)) w) → (∀ i ∈ D, ∀ j ∈ D, i ≠ j → ν (dstOf ops i) ≠ ν (dstOf ops j)) → wpAnyL P md ops (OnlyNormal Q) L S F (markAll (flatR R att) l0) (putsR ((flatR R att).map (dstOf ops)) a0 ν) w) :
    ∀ (n : Nat) (l : Array Bool) (ν : Nat → Value) (w : World), n = left (flatR R att) l → l.size = l0.size → (∀ k, k ∉ flatR R att → l.getD k true = l0.getD k true) → (∀ k, l0.getD k false = true → l.getD k false = true) →
      (∀ r ∈ flatR R att, l.getD r false = true → ∀ p ∈ predsOf md ops r, l.getD p false = true) →
      (∀ r ∈ R, ∀ u ∈ att r, (l.getD r true = true → l.getD u false = true) ∧ (l.getD r true = false → l.getD u true = false)) → Below w0.heap.size w0 w → (∀ r ∈ flatR R att, l.getD r true = true → Φ r (ν (dstOf ops r)) w) → (∀ i ∈ D, ∀ j ∈ D, i ≠ j → l.getD i true = true → l.getD j true = true → ν (dstOf ops i) ≠ ν (dstOf ops j)) →
      wpAnyL P md ops (OnlyNormal Q) L S (n + F) l (putsR ((flatR R att).map (dstOf ops)) a0 ν) w := by
  simp only [allOkU, Bool.and_eq_true, decide_eq_true_eq] at hok
  obtain ⟨⟨⟨⟨⟨hto, hou⟩, hnd⟩, hsz0⟩, hato⟩, hns⟩ := hok
  rw [List.all_eq_true] at hato
  obtain ⟨t1, t2⟩ := topoU_spec R l0 hto
  have hndf := nodupB_map hnd
  have hmemR : ∀ r ∈ R, r ∈ flatR R att := fun r hr => List.mem_flatMap.2 ⟨r, hr, List.mem_cons_self ..⟩
  have hmemU : ∀ r ∈ R, ∀ u ∈ att r, u ∈ flatR R att := fun r hr u hu => List.mem_flatMap.2 ⟨r, hr, List.mem_cons_of_mem _ hu⟩
  have hattp : ∀ r ∈ R, ∀ u ∈ att r, r ∈ predsOf md ops u ∧ (∃ o, ops[u]? = some o) := fun r hr => by
    have : ∀ (us done : List Nat), attOk md ops l0 r us done = true → ∀ u ∈ us, r ∈ predsOf md ops u ∧ (∃ o, ops[u]? = some o) := by
      intro us
      induction us with
      | nil => intro _ _ u hu; cases hu
      | cons x us ih =>
        intro done h u hu
        simp only [attOk, Bool.and_eq_true] at h
        rcases List.mem_cons.1 hu with rfl | hu
        · refine ⟨List.contains_iff_mem.1 h.1.1.1.1.2, ?_⟩
          cases ho : ops[u]? with
          | none => have := h.1.1.1.1.1; rw [ho] at this; cases this
          | some o => exact ⟨o, rfl⟩
        · exact ih _ h.2 u hu
    exact this (att r) [] (hato r hr)
  intro n
  induction n using Nat.strongRecOn with
  | _ n ih =>
    intro l ν w hn hsz hK hM hD hA hb hΦ hNE
    have hsize : ∀ r ∈ flatR R att, r < l.size := fun x hx => by
      obtain ⟨r, hr, hx2⟩ := List.mem_flatMap.1 hx
      rcases List.mem_cons.1 hx2 with rfl | hx2
      · obtain ⟨-, o, d, ho, -⟩ := t1 x hr
        have := (Array.getElem?_eq_some_iff.1 ho).1
        omega
      · obtain ⟨-, o, ho⟩ := hattp r hr x hx2
        have := (Array.getElem?_eq_some_iff.1 ho).1
        omega
    have htf : ∀ k, k < l.size → l.getD k true = true → l.getD k false = true := fun k hk h => by
      rw [Array.getD_eq_getD_getElem?, Array.getElem?_eq_getElem hk] at h ⊢
      exact h
    by_cases hex : ∃ r ∈ R, l.getD r true = false
    · obtain ⟨r, hr, hr1, hr2⟩ := t2 l hsz hM (fun r hr h u hu => (hA r hr u hu).1 h) hex
      obtain ⟨-, o, d, ho, -⟩ := t1 r hr
      have hready := ready_of_preds (md := md) hr1 ho hr2
      obtain ⟨m, rfl⟩ : ∃ m, n = m + 1 := by
        have := left_set hndf (hmemR r hr) hr1
        exact ⟨left (flatR R att) (l.setIfInBounds r true), by omega⟩
      rw [Nat.add_right_comm]
      refine ⟨fun h0 => (by rw [h0] at hready; cases hready), fun i hi => ?_⟩
      obtain ⟨hi1, hi2, hi3⟩ := preds_of_ready hi
      have hiF : i ∈ flatR R att := by
        apply Classical.byContradiction
        intro hni
        unfold outOkU at hou
        rw [List.all_eq_true] at hou
        have h1 := hou i (List.mem_range.2 hi2)
        simp only [Bool.or_eq_true, List.any_eq_true, List.all_eq_true, Bool.and_eq_true, Bool.not_eq_true'] at h1
        rcases h1 with ((h1 | h1) | ⟨p, hp, h2, h3⟩) | h1
        · exact hni (List.contains_iff_mem.1 h1)
        · rw [hK i hni, h1] at hi1; cases hi1
        · have hpR : p ∉ flatR R att := fun h => by rw [List.contains_iff_mem.2 h] at h2; cases h2
          have h4 := hi3 p hp
          have h5 := getD_tf h4
          rw [hK p hpR] at h5
          have hps : p < l.size := by
            rcases Nat.lt_or_ge p l.size with h' | h'
            · exact h'
            · rw [Array.getD_eq_getD_getElem?, Array.getElem?_eq_none h'] at h4; cases h4
          rw [Array.getD_eq_getD_getElem?, Array.getElem?_eq_getElem (by omega)] at h5 h3
          simp only [Option.getD_some] at h5 h3
          rw [h5] at h3; cases h3
        · have h2 := clo_true (md := md) (ops := ops) (l := l) (R := flatR R att) hD (flatR R att).reverse (predsOf md ops i) (fun r hr => List.mem_reverse.1 hr) hi3
          have h3 := getD_tf (h2 r (List.contains_iff_mem.1 (h1 r hr)))
          rw [hr1] at h3; cases h3
      have hiR : i ∈ R := by
        obtain ⟨r', hr', hx⟩ := List.mem_flatMap.1 hiF
        rcases List.mem_cons.1 hx with rfl | hx
        · exact hr'
        · exfalso
          have h1 := getD_tf (hi3 r' (hattp r' hr' i hx).1)
          have h2 := getD_tf ((hA r' hr' i hx).1 h1)
          rw [hi1] at h2; cases h2
      have hdn : dstOf ops i ∈ (flatR R att).map (dstOf ops) := List.mem_map.2 ⟨i, hiF, rfl⟩
      obtain ⟨own1, own2⟩ := flat_own hndf i hiR
      obtain ⟨ni, nus⟩ := nodupB_cons own1
      refine wpOp_mono (fun a' w' h => ?_) (hop i hiR ν w hb fun j hj hp => hΦ j hj (getD_tf (hi3 j hp)))
      obtain ⟨v, rfl, hv, hb2, htr, hne⟩ := h
      have hb3 := hb.trans (hb2.mono hb.size)
      refine ⟨fun _ => hS _ hb3, ?_⟩
      rw [putsR_upd hdn hnd] at htr ⊢
      have hset : (l.setIfInBounds i true).getD i false = true := getD_set_tf (hsize i hiF)
      have hund : ∀ u ∈ att i, (l.setIfInBounds i true).getD u true = false := fun u hu => by
        rw [Go.getD_set_ne true (fun e : i = u => ni (e ▸ hu))]
        exact (hA i hiR u hu).2 hi1
      have hlt := left_set hndf hiF hi1
      have hlm := left_markAll hndf (att i) (l.setIfInBounds i true) nus (hmemU i hiR) hund
      have hm : m = (att i).length + left (flatR R att) (markAll (att i) (l.setIfInBounds i true)) := by omega
      rw [hm, Nat.add_assoc]
      refine train_take (R := flatR R att) hns hnd hiF (att i) [] (l.setIfInBounds i true) _ (hato i hiR) (hmemU i hiR) (fun u hu => hL u (hmemU i hiR u hu)) hund (by simp; omega) nus (fun p hp => getD_set_mono (hM p hp)) hset (fun p hp => getD_set_mono (hi3 p hp)) (fun u hu => by cases hu) (hS _ hb3) htr (fun ν' k1 k2 => ?_)
      have hνi : ν' (dstOf ops i) = v := by
        rw [k1 _ (fun u hu => nodup_inj hnd (hmemU i hiR u hu) hiF (fun e => ni (e ▸ hu)))]
        simp only [upd, if_true]
      have hνo : ∀ x ∈ flatR R att, x ≠ i → x ∉ att i → ν' (dstOf ops x) = ν (dstOf ops x) := fun x hx h1 h2 => by
        rw [k1 _ (fun u hu => nodup_inj hnd (hmemU i hiR u hu) hx (fun e => h2 (e ▸ hu)))]
        simp only [upd, if_neg (nodup_inj hnd hx hiF h1)]
      refine ih _ (by omega) (markAll (att i) (l.setIfInBounds i true)) ν' w' rfl (by rw [markAll_size]; simp; exact hsz) (fun k hk => ?_) (fun k hk => markAll_mono (getD_set_mono (hM k hk))) (fun x hx hxt p hp => ?_) (fun r' hr' u hu => ?_) hb3 (fun x hx hxt => ?_) (fun a ha b hb' hab hat hbt => ?_)
      · rw [markAll_getD, if_neg (fun h => hk (hmemU i hiR k h)), Go.getD_set_ne true (fun e : i = k => hk (e ▸ hiF))]
        exact hK k hk
      · rcases markAll_or hxt with h1 | h1
        · -- an operation of the train
          have h2 : ∀ (us done : List Nat), attOk md ops l0 i us done = true → (∀ u ∈ done, (markAll (att i) (l.setIfInBounds i true)).getD u false = true) → (∀ u ∈ us, u ∈ att i) → ∀ u ∈ us, ∀ p ∈ predsOf md ops u, (markAll (att i) (l.setIfInBounds i true)).getD p false = true := by
            intro us
            induction us with
            | nil => intro _ _ _ _ u hu; cases hu
            | cons y us ihu =>
              intro done h hd hall u hu p hp
              simp only [attOk, Bool.and_eq_true, List.all_eq_true] at h
              rcases List.mem_cons.1 hu with rfl | hu
              · have h7 := h.1.1.2 p hp
                simp only [Bool.or_eq_true, beq_iff_eq] at h7
                rcases h7 with ((h7 | h7) | h7) | h7
                · rw [h7]; exact markAll_mono hset
                · exact hd p (List.contains_iff_mem.1 h7)
                · exact markAll_mono (getD_set_mono (hM p h7))
                · exact markAll_mono (getD_set_mono (hi3 p (List.contains_iff_mem.1 h7)))
              · refine ihu (y :: done) h.2 (fun z hz => ?_) (fun z hz => hall z (List.mem_cons_of_mem _ hz)) u hu p hp
                rcases List.mem_cons.1 hz with rfl | hz
                · exact markAll_in (hall z (List.mem_cons_self ..)) (by simp; exact hsize z (hmemU i hiR z (hall z (List.mem_cons_self ..))))
                · exact hd z hz
          exact h2 (att i) [] (hato i hiR) (fun u hu => by cases hu) (fun u hu => hu) x h1 p hp
        · by_cases hxi : i = x
          · subst hxi; exact markAll_mono (getD_set_mono (hi3 p hp))
          · rw [Go.getD_set_ne false hxi] at h1
            exact markAll_mono (getD_set_mono (hD x hx h1 p hp))
      · by_cases hri : r' = i
        · subst hri
          refine ⟨fun _ => markAll_in hu (by simp; exact hsize u (hmemU r' hr' u hu)), fun h => ?_⟩
          have h1 := markAll_undone h
          rw [getD_tf hset] at h1; cases h1
        · have hd1 := own2 r' hr' hri
          have hu1 : u ∉ att i := fun h => hd1 u (List.mem_cons_of_mem _ h) (List.mem_cons_of_mem _ hu)
          have hu2 : i ≠ u := fun h => hd1 i (List.mem_cons_self ..) (h ▸ List.mem_cons_of_mem _ hu)
          have hr1' : r' ∉ att i := fun h => hd1 r' (List.mem_cons_of_mem _ h) (List.mem_cons_self ..)
          refine ⟨fun h => ?_, fun h => ?_⟩
          · rw [markAll_getD, if_neg hr1', Go.getD_set_ne true (Ne.symm hri)] at h
            exact markAll_mono (getD_set_mono ((hA r' hr' u hu).1 h))
          · rw [markAll_getD, if_neg hr1', Go.getD_set_ne true (Ne.symm hri)] at h
            rw [markAll_getD, if_neg hu1, Go.getD_set_ne true hu2]
            exact (hA r' hr' u hu).2 h
      · by_cases hxi : x = i
        · subst hxi; rw [hνi]; exact hv
        · by_cases hxa : x ∈ att i
          · exact k2 x hxa
          · rw [hνo x hx hxi hxa]
            rw [markAll_getD, if_neg hxa, Go.getD_set_ne true (Ne.symm hxi)] at hxt
            exact hst x hx _ _ _ hb2 (hΦ x hx hxt)
      · have hDa : ∀ x ∈ D, x ∉ att i := fun x hx h => by
          by_cases hxi : x = i
          · exact ni (hxi ▸ h)
          · exact own2 x (hDR x hx) hxi x (List.mem_cons_of_mem _ h) (List.mem_cons_self ..)
        have hold : ∀ x ∈ D, x ≠ i → (markAll (att i) (l.setIfInBounds i true)).getD x true = true → ν' (dstOf ops x) = ν (dstOf ops x) ∧ l.getD x true = true := fun x hx hxi h => by
          rw [markAll_getD, if_neg (hDa x hx), Go.getD_set_ne true (Ne.symm hxi)] at h
          exact ⟨hνo x (hmemR x (hDR x hx)) hxi (hDa x hx), h⟩
        by_cases hai : a = i
        · have hbi : b ≠ i := fun h => hab (hai.trans h.symm)
          obtain ⟨e1, e2⟩ := hold b hb' hbi hbt
          rw [hai, hνi, e1]
          exact hne (hai ▸ ha) b hb' _ (hΦ b (hmemR b (hDR b hb')) e2)
        · obtain ⟨e1, e2⟩ := hold a ha hai hat
          by_cases hbi : b = i
          · rw [hbi, hνi, e1]
            exact fun h => hne (hbi ▸ hb') a ha _ (hΦ a (hmemR a (hDR a ha)) e2) h.symm
          · obtain ⟨e3, e4⟩ := hold b hb' hbi hbt
            rw [e1, e3]
            exact hNE a ha b hb' hab e2 e4
    · have hall : ∀ x ∈ flatR R att, l.getD x true = true := fun x hx => by
        obtain ⟨r, hr, hx2⟩ := List.mem_flatMap.1 hx
        have h1 : l.getD r true = true := by
          cases h : l.getD r true with
          | true => rfl
          | false => exact absurd ⟨r, hr, h⟩ hex
        rcases List.mem_cons.1 hx2 with rfl | hx2
        · exact h1
        · exact getD_tf ((hA r hr x hx2).1 h1)
      have h0 : left (flatR R att) l = 0 := by
        unfold left
        rw [List.length_eq_zero_iff, List.filter_eq_nil_iff]
        intro r hr
        rw [hall r hr]; simp
      have : l = markAll (flatR R att) l0 := by
        refine eq_of_getD (by rw [markAll_size]; exact hsz) fun k => ?_
        rw [markAll_getD]
        by_cases hk : k ∈ flatR R att
        · rw [if_pos hk]; exact hall k hk
        · rw [if_neg hk]; exact hK k hk
      subst this
      rw [hn, h0, Nat.zero_add]
      exact hfin ν w hb (fun i hi => hΦ i hi (hall i hi)) (fun i hi j hj hij => hNE i hi j hj hij (hall i (hmemR i (hDR i hi))) (hall j (hmemR j (hDR j hj))))
/-- The operations R (with their slots) come up in any order, each once; behind each its train is taken at once. FP: all of them, with their slots. -/
theorem wpAnyL_allN (DP : List (Nat × Nat)) (RP : List (Nat × Nat)) (att : Nat → List Nat) (FP : List (Nat × Nat)) (Φ : Nat → Value → World → Prop) (F : Nat) {l0 : Array Bool} {a0 : Act} {w0 : World}
    (hok : (allOkU md ops (RP.map (·.1)) att l0 && (flatR (RP.map (·.1)) att == FP.map (·.1)) && FP.all (fun p => dstOf ops p.1 == p.2) && RP.all (fun p => dstOf ops p.1 == p.2) && FP.all (fun p => !L.contains p.1) && DP.all (fun p => RP.contains p)) = true)
    (hst : ∀ p ∈ FP, ∀ v w w', Below w.heap.size w w' → Φ p.1 v w → Φ p.1 v w') (hS : ∀ w', Below w0.heap.size w0 w' → S w')
    (hop : ∀ p ∈ RP, ∀ (ν : Nat → Value) (w : World), Below w0.heap.size w0 w → (∀ q ∈ FP, (predsOf md ops p.1).contains q.1 = true → Φ q.1 (ν q.2) w) →
      wpOp P ops (OnlyNormal Q) p.1 (fun a' w' => ∃ v, a' = (putsR (FP.map (·.2)) a0 ν).put (some p.2) v ∧ Φ p.1 v w' ∧ Below w.heap.size w w' ∧ Train P ops Φ w' (att p.1) a' ∧ (p ∈ DP → ∀ q ∈ DP, ∀ u, Φ q.1 u w → v ≠ u)) (putsR (FP.map (·.2)) a0 ν) w)
    (hfin : ∀ (ν : Nat → Value) (w : World), Below w0.heap.size w0 w → (∀ p ∈ FP, Φ p.1 (ν p.2) w) → (∀ p ∈ DP, ∀ q ∈ DP, p ≠ q → ν p.2 ≠ ν q.2) → wpAnyL P md ops (OnlyNormal Q) L S F (markAll (FP.map (·.1)) l0) (putsR (FP.map (·.2)) a0 ν) w) :
    wpAnyL P md ops (OnlyNormal Q) L S (FP.length + F) l0 a0 w0 := by
  simp only [Bool.and_eq_true, beq_iff_eq] at hok
  obtain ⟨⟨⟨⟨⟨h1, h2⟩, h3⟩, h4⟩, h5⟩, h6⟩ := hok
  rw [List.all_eq_true] at h6
  have hD := markAll_map (ops := ops) FP h3
  rw [← h2] at hD
  rw [List.all_eq_true] at h3 h4 h5
  have hmem : ∀ i, i ∈ flatR (RP.map (·.1)) att → ∃ p ∈ FP, p.1 = i := fun i hi => by
    rw [h2] at hi
    exact List.mem_map.1 hi
  have hall := h1
  simp only [allOkU, Bool.and_eq_true, decide_eq_true_eq] at h1
  obtain ⟨⟨⟨⟨⟨hto, -⟩, hnd⟩, hsz0⟩, hato⟩, -⟩ := h1
  obtain ⟨t1, -⟩ := topoU_spec _ l0 hto
  have hund : ∀ i ∈ flatR (RP.map (·.1)) att, l0.getD i true = false := fun x hx => by
    obtain ⟨r, hr, hx2⟩ := List.mem_flatMap.1 hx
    rcases List.mem_cons.1 hx2 with rfl | hx2
    · exact (t1 x hr).1
    · rw [List.all_eq_true] at hato
      have : ∀ (us done : List Nat), attOk md ops l0 r us done = true → ∀ u ∈ us, l0.getD u true = false := by
        intro us
        induction us with
        | nil => intro _ _ u hu; cases hu
        | cons y us ih =>
          intro done h u hu
          simp only [attOk, Bool.and_eq_true, Bool.not_eq_true'] at h
          rcases List.mem_cons.1 hu with rfl | hu
          · exact h.1.1.1.2
          · exact ih _ h.2 u hu
      exact this _ _ (hato r hr) x hx2
  have hlen : left (flatR (RP.map (·.1)) att) l0 = FP.length := by
    unfold left
    rw [List.filter_eq_self.2 (fun r hr => by rw [hund r hr]; rfl), h2, List.length_map]
  have h := allU_aux (P := P) (ops := ops) (Q := Q) (md := md) (L := L) (S := S) (RP.map (·.1)) att (DP.map (·.1)) (fun i hi => by
    obtain ⟨p, hp, rfl⟩ := List.mem_map.1 hi
    exact List.mem_map.2 ⟨p, List.contains_iff_mem.1 (h6 p hp), rfl⟩) Φ (F := F) (a0 := a0) (w0 := w0) hall (fun u hu => by
    obtain ⟨p, hp, rfl⟩ := hmem u hu
    have := h5 p hp
    intro hc
    rw [List.contains_iff_mem.2 hc] at this
    cases this) (fun i hi => by
    obtain ⟨p, hp, rfl⟩ := hmem i hi
    exact hst p hp) hS (fun i hi ν w hb hP => by
    obtain ⟨p, hp, rfl⟩ := List.mem_map.1 hi
    have := hop p hp ν w hb (fun q hq hc => by
      have hq2 := hP q.1 (by rw [h2]; exact List.mem_map.2 ⟨q, hq, rfl⟩) (List.contains_iff_mem.1 hc)
      have e := h3 q hq
      simp only [beq_iff_eq] at e
      rw [e] at hq2
      exact hq2)
    have e := h4 p hp
    simp only [beq_iff_eq] at e
    rw [hD, e]
    refine wpOp_mono (fun a' w' h => ?_) this
    obtain ⟨v, k1, k2, k3, k4, k5⟩ := h
    refine ⟨v, k1, k2, k3, k4, fun hi j hj u hu => ?_⟩
    obtain ⟨p', hp', hpe⟩ := List.mem_map.1 hi
    obtain ⟨q', hq', rfl⟩ := List.mem_map.1 hj
    have e1 := h4 p' (List.contains_iff_mem.1 (h6 p' hp'))
    simp only [beq_iff_eq] at e1
    have : p' = p := Prod.ext hpe (by rw [← e1, ← e, hpe])
    exact k5 (this ▸ hp') q' hq' u hu) (fun ν w hb hf hne => by
    rw [hD, h2]
    exact hfin ν w hb (fun p hp => by
      have hq2 := hf p.1 (by rw [h2]; exact List.mem_map.2 ⟨p, hp, rfl⟩)
      have e := h3 p hp
      simp only [beq_iff_eq] at e
      rw [e] at hq2
      exact hq2) (fun p hp q hq hpq => by
      have e1 := h4 p (List.contains_iff_mem.1 (h6 p hp))
      have e2 := h4 q (List.contains_iff_mem.1 (h6 q hq))
      simp only [beq_iff_eq] at e1 e2
      have := hne p.1 (List.mem_map.2 ⟨p, hp, rfl⟩) q.1 (List.mem_map.2 ⟨q, hq, rfl⟩) (fun h => hpq (Prod.ext h (by rw [← e1, ← e2, h])))
      rw [e1, e2] at this
      exact this)) FP.length l0 (fun d => a0.tmps.getD d undef) w0 hlen.symm rfl (fun _ _ => rfl) (fun _ h => h)
    (fun r hr h => by have h1 := getD_tf h; rw [hund r hr] at h1; cases h1)
    (fun r hr u hu => ⟨fun h => (by rw [hund r (List.mem_flatMap.2 ⟨r, hr, List.mem_cons_self ..⟩)] at h; cases h), fun _ => hund u (List.mem_flatMap.2 ⟨r, hr, List.mem_cons_of_mem _ hu⟩)⟩)
    (Below.refl _ _) (fun r hr h => by rw [hund r hr] at h; cases h)
    (fun i hi j hj _ h _ => by
      obtain ⟨p, hp, rfl⟩ := List.mem_map.1 hi
      rw [hund p.1 (List.mem_flatMap.2 ⟨p.1, List.mem_map.2 ⟨p, List.contains_iff_mem.1 (h6 p hp), rfl⟩, List.mem_cons_self ..⟩)] at h
      cases h)
  rw [putsR_self] at h
  exact h

/-- The same where no values have to differ. -/
theorem wpAnyL_allU (RP : List (Nat × Nat)) (att : Nat → List Nat) (FP : List (Nat × Nat)) (Φ : Nat → Value → World → Prop) (F : Nat) {l0 : Array Bool} {a0 : Act} {w0 : World}
    (hok : (allOkU md ops (RP.map (·.1)) att l0 && (flatR (RP.map (·.1)) att == FP.map (·.1)) && FP.all (fun p => dstOf ops p.1 == p.2) && RP.all (fun p => dstOf ops p.1 == p.2) && FP.all (fun p => !L.contains p.1)) = true)
    (hst : ∀ p ∈ FP, ∀ v w w', Below w.heap.size w w' → Φ p.1 v w → Φ p.1 v w') (hS : ∀ w', Below w0.heap.size w0 w' → S w')
    (hop : ∀ p ∈ RP, ∀ (ν : Nat → Value) (w : World), Below w0.heap.size w0 w → (∀ q ∈ FP, (predsOf md ops p.1).contains q.1 = true → Φ q.1 (ν q.2) w) →
      wpOp P ops (OnlyNormal Q) p.1 (fun a' w' => ∃ v, a' = (putsR (FP.map (·.2)) a0 ν).put (some p.2) v ∧ Φ p.1 v w' ∧ Below w.heap.size w w' ∧ Train P ops Φ w' (att p.1) a') (putsR (FP.map (·.2)) a0 ν) w)
    (hfin : ∀ (ν : Nat → Value) (w : World), Below w0.heap.size w0 w → (∀ p ∈ FP, Φ p.1 (ν p.2) w) → wpAnyL P md ops (OnlyNormal Q) L S F (markAll (FP.map (·.1)) l0) (putsR (FP.map (·.2)) a0 ν) w) :
    wpAnyL P md ops (OnlyNormal Q) L S (FP.length + F) l0 a0 w0 :=
  wpAnyL_allN [] RP att FP Φ F (by rw [hok]; rfl) hst hS (fun p hp ν w hb hP => wpOp_mono (fun a' w' h => by
    obtain ⟨v, k1, k2, k3, k4⟩ := h
    exact ⟨v, k1, k2, k3, k4, fun h => by cases h⟩) (hop p hp ν w hb hP)) (fun ν w hb hf _ => hfin ν w hb hf)
end
end Go.Proofs.YtljocgdhdilglaaGreat

namespace Go.Proofs.YtljocgdhdilglaaGreat
open Go.RowKit
attribute [local go_sem] add_lit

theorem subz (x : Rat) : x = x - 0 := by grind
theorem cellsF_zero (n : Nat) : cellsF (List.replicate n zeroFE) = (madeCells #[.bool false, .slice none 0 0, .bool false, .slice none 0 0] (n * 4)).toList := by
  apply List.ext_getElem?
  intro i
  have hm : (madeCells #[.bool false, .slice none 0 0, .bool false, .slice none 0 0] (n * 4)).toList[i]? = if i < n * 4 then some ((#[Value.bool false, Value.slice none 0 0, Value.bool false, Value.slice none 0 0])[i % 4]!) else none := by
    unfold madeCells
    by_cases h : i < n * 4
    · simp [h]
    · simp [h]
  rw [hm]
  by_cases h : i < n * 4
  · rw [if_pos h]
    have he : (List.replicate n zeroFE)[i / 4]? = some zeroFE := by rw [List.getElem?_replicate, if_pos (by omega)]
    have hc := cellsF_get he
    have h4 : i % 4 = 0 ∨ i % 4 = 1 ∨ i % 4 = 2 ∨ i % 4 = 3 := by omega
    rcases h4 with h2 | h2 | h2 | h2
    · rw [show i / 4 * 4 = i by omega] at hc; rw [hc.1, h2]; rfl
    · rw [show i / 4 * 4 + 1 = i by omega] at hc; rw [hc.2.1, h2]; rfl
    · rw [show i / 4 * 4 + 2 = i by omega] at hc; rw [hc.2.2.1, h2]; rfl
    · rw [show i / 4 * 4 + 3 = i by omega] at hc; rw [hc.2.2.2, h2]; rfl
  · rw [if_neg h]
    exact List.getElem?_eq_none (by rw [cellsF_length]; simp; omega)
theorem makeF {P : Program} (t e : TypeId) {i : TypeInfo} (ht : P.underlying t = some (.slice e)) (hi : P.info? e = some i) (hz : i.zero = some (.agg #[.bool false, .slice none 0 0, .bool false, .slice none 0 0])) (hs : i.size = 4) (hb : i.bytes = 64)
    (x : Int) (n : Nat) (hx : x = n) (hn : n ≤ 1000000000000) (W : World) :
    (Instr.makeSlice t (.int .i64 x) (.int .i64 x)).run P W = .ok (.slice (some ⟨W.heap.size, 0, none⟩) n n) (W.alloc (.cells (cellsFA (List.replicate n zeroFE)) e)) := by
  subst hx
  have hr := run_make (P := P) W t e i _ ht hi hz .i64 .i64 n n (by omega) (by omega) (by rw [hb]; omega) (by omega)
  simp only [Int.toNat_natCast] at hr
  rw [hr]
  have : madeCells (Value.agg #[.bool false, .slice none 0 0, .bool false, .slice none 0 0]).cells (n * i.size) = cellsFA (List.replicate n zeroFE) := by
    rw [hs]
    apply Array.toList_inj.1
    unfold cellsFA
    rw [cellsF_zero]
    rfl
  rw [this]
theorem FRaw.new (t : TypeId) (w : World) (n : Nat) : FRaw t (w.alloc (.cells (cellsFA (List.replicate n zeroFE)) t)) w.heap.size n := ⟨_, Blk.new _ _ _, by simp⟩
theorem FOwn.keptG {t : TypeId} {w w' : World} {g : Nat} {qs : List Rat} {G : Nat → Prop} (h : FOwn t w g qs) (hk : Kept G w w') (hg : ¬ G g) (hG : ∀ k, G k → ∃ t cs, Blk w k t cs ∧ NoLimb cs) : FOwn t w' g qs := by
  obtain ⟨es, zs, h1, h2, h3⟩ := h
  exact ⟨es, zs, hk.blk h1 hg, fun e he => ⟨hk.wd (h2 e he).1 hG, hk.wd (h2 e he).2 hG⟩, h3⟩
theorem ov_step {r r2 d : List Rat} {cq : Rat} {j i ji : Nat} (hji : ji = j + i) (hl : ji < r2.length) (h : ∀ t, co r2 t = co r t - (if j ≤ t ∧ t < j + i then cq * co d (t - j) else 0)) :
    ∀ t, co (r2.set ji (co r ji - cq * co d i)) t = co r t - (if j ≤ t ∧ t < j + (i + 1) then cq * co d (t - j) else 0) := fun t => by
  by_cases ht : t = ji
  · subst ht
    show (r2.set t _)[t]?.getD 0 = _
    rw [List.getElem?_set_self hl, Option.getD_some, if_pos (by omega), show t - j = i by omega]
  · show (r2.set ji _)[t]?.getD 0 = _
    rw [List.getElem?_set_ne (fun h => ht h.symm)]
    have h1 := h t
    rw [show r2[t]?.getD 0 = co r2 t from rfl, h1]
    by_cases h2 : j ≤ t ∧ t < j + i
    · rw [if_pos h2, if_pos (by omega)]
    · rw [if_neg h2, if_neg (by omega)]
theorem ov_end {r r2 d : List Rat} {cq : Rat} {j m : Nat} (hm : 0 < m) (hr : r.length = j + m) (hd : d.length = m) (hl : r2.length = r.length) (hc : ovC d r = cq) (h : ∀ t, co r2 t = co r t - (if j ≤ t ∧ t < j + m then cq * co d (t - j) else 0)) : r2 = ovS d r := by
  apply List.ext_getElem?
  intro t
  rcases Nat.lt_or_ge t r.length with ht | ht
  · have h1 := h t
    have h2 := co_ovS (d := d) (r := r) (by omega) (by omega) t
    rw [hr, hd, hc, show j + m - m = j by omega] at h2
    have h3 : co r2 t = co (ovS d r) t := by
      rw [h1, h2]
      by_cases h4 : j ≤ t
      · rw [if_pos h4, if_pos (by omega)]
      · rw [if_neg h4, if_neg (by omega)]
    have h5 : r2[t]?.getD 0 = (ovS d r)[t]?.getD 0 := h3
    rw [List.getElem?_eq_getElem (by omega), List.getElem?_eq_getElem (by rw [ovS_length]; omega)] at h5 ⊢
    exact congrArg some h5
  · rw [List.getElem?_eq_none (by omega), List.getElem?_eq_none (by rw [ovS_length]; omega)]
/-- What a call and a new variable have yielded. -/
def callF (B0 : Nat) (q : Rat) (ca mv x0 x1 al as_ : Nat) (i : Nat) (v : Value) (w : World) : Prop :=
  if i = ca ∨ i = mv then ∃ na A n c nb B m d, v = .tuple #[.agg #[.bool na, .slice A n c, .bool nb, .slice B m d], .int .i64 0] ∧ Fr w na A n c nb B m d q
  else if i = x0 then ∃ na A n c nb B m d, v = .agg #[.bool na, .slice A n c, .bool nb, .slice B m d] ∧ Fr w na A n c nb B m d q
  else if i = x1 ∨ i = as_ then v = .int .i64 0
  else if i = al then ∃ g, v = .pointer (some ⟨g, 0, none⟩) ∧ B0 ≤ g ∧ Blk w g 27 #[.bool false, .slice none 0 0, .bool false, .slice none 0 0]
  else True
theorem callF_stays {B0 : Nat} {q : Rat} {ca mv x0 x1 al as_ i : Nat} {v : Value} {w w' : World} (hb : Below w.heap.size w w') (h : callF B0 q ca mv x0 x1 al as_ i v w) : callF B0 q ca mv x0 x1 al as_ i v w' := by
  unfold callF at h ⊢
  split at h
  · rename_i h1; rw [if_pos h1]
    obtain ⟨na, A, n, c, nb, B, m, d, e, hf⟩ := h
    exact ⟨na, A, n, c, nb, B, m, d, e, hf.below hb⟩
  · rename_i h1; rw [if_neg h1]
    split at h
    · rename_i h2; rw [if_pos h2]
      obtain ⟨na, A, n, c, nb, B, m, d, e, hf⟩ := h
      exact ⟨na, A, n, c, nb, B, m, d, e, hf.below hb⟩
    · rename_i h2; rw [if_neg h2]
      split at h
      · rename_i h3; rw [if_pos h3]; exact h
      · rename_i h3; rw [if_neg h3]
        split at h
        · rename_i h4; rw [if_pos h4]
          obtain ⟨g, e, h5, h6⟩ := h
          exact ⟨g, e, h5, keep_blk hb h6⟩
        · rename_i h4; rw [if_neg h4]; trivial
/-- The contract of Cleared, of zeros alone. -/
def ClearC : Prop := ∀ (A : Option Addr) (n c : Nat) (w : World), FL w A n c (List.replicate n 0) → n ≤ 100 →
  Calls Tryz.prog 47 #[.slice A n c] w fun e w' => Below w.heap.size w w' ∧ ∃ B d, e = .returned (.slice B 0 d)

set_option maxRecDepth 100000 in
set_option maxHeartbeats 8000000 in
theorem sOver_zero (hC : ClearC) (A B : Option Addr) (n c m d : Nat) (ps qs : List Int) (w : World) (hp : PolyL w A n c ps) (hq : PolyL w B m d qs) (tq : Top qs) (pos : 0 < cz qs (qs.length - 1)) (hmn : m ≤ n) (hn : n ≤ 100)
    (hok : okOv (rl qs) (n + 1 - m) (rl ps)) (hdq : ∀ t, Sm (co (rl qs) t)) (hz : ovK (rl qs) (n + 1 - m) (rl ps) = List.replicate (m - 1) 0) :
    Calls Tryz.prog 17 #[.slice A n c, .slice B m d] w fun e w' => Below w.heap.size w w' ∧ ∃ O no ko B' d', e = .returned (.tuple #[.slice O no ko, .slice B' 0 d']) := by
  obtain ⟨iw, hi, hz0, hz1, hz2⟩ := info_parts infoFr
  have hmx : Tryz.prog.follows .mixedOrders = true := by kernel_rfl
  have hpl := hide hp.len
  have hql := hide hq.len
  have hm0 : 0 < m := by rw [← hql.out]; exact tq.1
  have hrlp : Hid ((rl ps).length = n) := hide (by simp [rl]; exact hpl.out)
  have hrlq : Hid ((rl qs).length = m) := hide (by simp [rl]; exact hql.out)
  have htop : Hid (0 < (co (rl qs) (m - 1)).num) := hide (by rw [co_rl, Rat.num_intCast, ← hql.out]; exact pos)
  obtain ⟨k0, hk0⟩ : ∃ k, n + 1 - m = k := ⟨_, rfl⟩
  rw [hk0] at hok hz
  have hkI : (n : Int) - (m : Int) + 1 = (k0 : Int) := by omega
  have hkJ : (n : Int) - (m : Int) = (k0 : Int) - 1 := by omega
  replace hok := hide hok
  replace hdq := hide hdq
  replace hz := hide hz
  replace hp := hide hp
  replace hq := hide hq
  replace pos := hide pos
  replace tq := hide tq
  go_enter Tryz.func17, Tryz.ntmps17
  go_wp2_with fail
  refine (fractions_ok A n c ps w hp.out (by omega)).mono ?_
  rintro e w1 ⟨hb1, v1, rfl, hv1⟩
  rcases hv1.fown with ⟨-, hnil⟩ | ⟨gr, cr, rfl, hgr, hcr1, hcr2, hR⟩
  · exfalso
    have := hrlp.out
    rw [hnil] at this
    simp at this
    omega
  rw [hrlp.out] at hcr1 ⊢
  clear hv1
  go_wp2_with fail
  refine (fractions_ok B m d qs w1 (hq.out.below hb1) (by omega)).mono ?_
  rintro e w2 ⟨hb2, v2, rfl, hv2⟩
  rcases hv2.fown with ⟨-, hnil⟩ | ⟨gd, cd, rfl, hgd, hcd1, hcd2, hD⟩
  · exfalso
    have := hrlq.out
    rw [hnil] at this
    simp at this
    omega
  rw [hrlq.out] at hcd1 ⊢
  clear hv2
  have hrd : gr < gd := Nat.lt_of_lt_of_le hR.lt hgd
  replace hR := hR.below hb2
  have hB2 := hb1.trans (hb2.mono hb1.size)
  have hmk := makeF (P := Tryz.prog) 39 27 Tryz.underlying39 hi hz0 hz1 hz2 (k0 : Int) k0 rfl (by omega)
  have hw1 : IntKind.i64.wrap ((n : Int) - (m : Int)) = (k0 : Int) - 1 := by rw [hkJ, IntKind.wrap_i64]; omega
  have hw2 : IntKind.i64.wrap ((k0 : Int) - 1 + 1) = (k0 : Int) := by rw [IntKind.wrap_i64]; omega
  have hmx0 : (0 : Int) < (k0 : Int) := by omega
  have hmx1 : max 0 (k0 : Int) = (k0 : Int) := by omega
  obtain ⟨gO, hgO⟩ : ∃ g, w2.heap.size = g := ⟨_, rfl⟩
  obtain ⟨X, hX, hXB, -, -, -, sX⟩ := new_obj 27 (cellsFA (List.replicate k0 zeroFE)) (Below.refl w2.heap.size w2) (Nat.le_refl _)
  have hO : FRaw 27 X gO k0 := by rw [← hX, ← hgO]; exact FRaw.new _ _ _
  have hgRO : gr < gO := by rw [← hgO]; exact hR.lt
  have hgDO : gd < gO := by rw [← hgO]; exact hD.lt
  replace hR := hR.below hXB
  replace hD := hD.below hXB
  have hBX := hB2.trans (hXB.mono hB2.size)
  replace hkI := hide hkI
  replace hkJ := hide hkJ
  go_wp2_with fail
  have hGX : Hid (∀ k, (k = gr ∨ k = gO) → ∃ t cs, Blk X k t cs ∧ NoLimb cs) := hide (fun k hk => by
    rcases hk with rfl | rfl
    · exact hR.box
    · exact hO.box)
  replace hD := hide hD
  unfold maxLen at hcd2
  clear hX hmk hw1 hw2 hmx0 hmx1 hb1 hb2 hB2 hXB
  have hcr1' := hcr1
  go_loopg [6, 9] k0 (fun k rv nv wr => ∃ (r : List Rat) (nr cr : Nat) (nn : Int), rv = .slice (some ⟨gr, 0, none⟩) nr cr ∧ nv = .int .i64 nn ∧ Hid (nn = (k : Int) - 1) ∧ Hid (r.length = nr) ∧ Hid (nr + 1 = k + m) ∧ nr ≤ cr ∧ cr ≤ maxLen ∧ k ≤ k0 ∧ FOwn 27 wr gr r ∧ FRaw 27 wr gO k0 ∧ Hid (ovK (rl qs) k r = List.replicate (m - 1) 0) ∧ Hid (okOv (rl qs) k r) ∧ Kept (fun g => g = gr ∨ g = gO) X wr)
  case atStart => exact ⟨rl ps, n, cr, _, rfl, rfl, hide rfl, hrlp, hide (by omega), hcr1, hcr2, Nat.le_refl _, hR, hO, hz, hok, Kept.refl _ _⟩
  case round =>
    clear hR hO hz hok hcr1 hcr2 hcr1'
    obtain ⟨r, nr, cr, nn, rfl, rfl, hnn, hrl, hnrm, hnrc, hcrm, hkk, hR, hO, hz, hok, hK⟩ := hrel
    unfold maxLen at hcrm
    have hD1 := hide (hD.out.keptG hK (by omega) hGX.out)
    cases gk with
    | zero =>
      obtain rfl : nn = -1 := hnn.out
      have hfl := hR.fl (c := cr) (by rw [hrl.out]; exact hnrc) (by unfold maxLen; exact hcrm)
      have hzz := hz.out
      have hrz : r = List.replicate nr 0 := by
        have e : ovK (rl qs) 0 r = r := rfl
        rw [e] at hzz
        rw [hzz]
        congr 1
        have := hnrm.out
        omega
      rw [hrl.out, hrz] at hfl
      have hBr : Below w.heap.size w wr := hBX.trans (hK.to_below (B := w.heap.size) (fun k hk => by rcases hk with rfl | rfl <;> omega) hBX.size)
      have hnr100 : nr ≤ 100 := by have := hnrm.out; omega
      replace hrz := hide hrz
      clear hzz hR hO
      go_wp2_with fail
      refine (hC _ nr cr wr hfl hnr100).mono ?_
      rintro e w9 ⟨hb9, B9, d9, rfl⟩
      have hB9 := hBr.trans (hb9.mono hBr.size)
      go_wp2_with fail
      go_returns
      exact ⟨hB9, _, _, _, _, _, rfl⟩
    | succ j =>
      obtain rfl : nn = (j : Int) := by have := hnn.out; omega
      have hjk : j < k0 := by omega
      have hnrj : Hid (nr = j + m) := hide (by have := hnrm.out; omega)
      have tge : decide ((0 : Int) ≤ (j : Int)) = true := by simp
      obtain ⟨top, htopE⟩ : ∃ t : Nat, t = j + m - 1 := ⟨_, rfl⟩
      obtain ⟨l1, hl1E⟩ : ∃ t : Nat, t = m - 1 := ⟨_, rfl⟩
      have e1 : IntKind.i64.wrap ((j : Int) + (m : Int)) = (j : Int) + (m : Int) := IntWalk.i64_in _ (by omega)
      have e2 : IntKind.i64.wrap ((j : Int) + (m : Int) - 1) = (top : Int) := by rw [IntKind.wrap_i64]; omega
      have e3 : IntKind.i64.wrap ((m : Int) - 1) = (l1 : Int) := by rw [IntKind.wrap_i64]; omega
      have hnrj2 := hnrj.out
      have b1 : (top : Int) < (nr : Int) := by omega
      have b2 : (l1 : Int) < (m : Int) := by omega
      have b3 : top < nr := by omega
      have b4 : l1 < m := by omega
      have hok2 := hok.out
      obtain ⟨sR, sC, sW, hokj⟩ := hok2
      obtain ⟨n1, A1, k1, c1, m1, B1, j1, d1, p0, p1, p2, p3, hf1⟩ := hR.at_ (i := top) (by rw [hrl.out]; exact b3)
      obtain ⟨n2, A2, k2, c2, m2, B2, j2, d2, q0, q1, q2, q3, hf2⟩ := hD1.out.at_ (i := l1) (by rw [hrlq.out]; exact b4)
      have hf1c : r[top]?.getD 0 = co r top := rfl
      have hf2c : (rl qs)[l1]?.getD 0 = co (rl qs) l1 := rfl
      rw [hf1c] at hf1
      rw [hf2c] at hf2
      obtain ⟨cq, hcq⟩ : ∃ q : Rat, co r top / co (rl qs) l1 = q := ⟨_, rfl⟩
      have hcqC : Hid (ovC (rl qs) r = cq) := hide (by
        unfold ovC
        rw [hrl.out, hrlq.out, ← hcq, show nr - 1 = top by omega, show m - 1 = l1 by omega])
      have hpos2 : 0 < (co (rl qs) l1).num := by have := htop.out; rw [← hl1E] at this; exact this
      replace sR := hide sR
      replace sC := hide sC
      replace sW := hide sW
      replace hokj := hide hokj
      replace hcq := hide hcq
      replace hpos2 := hide hpos2
      replace htopE := hide htopE
      replace hl1E := hide hl1E
      clear hf1c hf2c hnrj2
      replace hR := hide hR
      replace hO := hide hO
      replace hK := hide hK
      go_wp2_with fail
      have sc1 : Sm (co r top) := sR.out top
      have sc2 : Sm (co (rl qs) l1) := hdq.out l1
      have hSv1 : Hid (∀ wx, Below wr.heap.size wr wx → wx.cell? ⟨gr, top * 4, none⟩ = some (.bool n1) ∧ wx.cell? ⟨gr, top * 4 + 1, none⟩ = some (.slice A1 k1 c1) ∧ wx.cell? ⟨gr, top * 4 + 2, none⟩ = some (.bool m1) ∧ wx.cell? ⟨gr, top * 4 + 3, none⟩ = some (.slice B1 j1 d1) ∧ wx.cell? ⟨gd, l1 * 4, none⟩ = some (.bool n2) ∧ wx.cell? ⟨gd, l1 * 4 + 1, none⟩ = some (.slice A2 k2 c2) ∧ wx.cell? ⟨gd, l1 * 4 + 2, none⟩ = some (.bool m2) ∧ wx.cell? ⟨gd, l1 * 4 + 3, none⟩ = some (.slice B2 j2 d2)) := hide (fun wx hbx => ⟨keep_cell hbx p0, keep_cell hbx p1, keep_cell hbx p2, keep_cell hbx p3, keep_cell hbx q0, keep_cell hbx q1, keep_cell hbx q2, keep_cell hbx q3⟩)
      have hr1 : Below wr.heap.size wr wr.drew := below_dn (Below.refl _ _) 1
      refine wp_held [] (fun wx => wx.cell? ⟨gr, top * 4, none⟩ = some (.bool n1) ∧ wx.cell? ⟨gr, top * 4 + 1, none⟩ = some (.slice A1 k1 c1) ∧ wx.cell? ⟨gr, top * 4 + 2, none⟩ = some (.bool m1) ∧ wx.cell? ⟨gr, top * 4 + 3, none⟩ = some (.slice B1 j1 d1) ∧ wx.cell? ⟨gd, l1 * 4, none⟩ = some (.bool n2) ∧ wx.cell? ⟨gd, l1 * 4 + 1, none⟩ = some (.slice A2 k2 c2) ∧ wx.cell? ⟨gd, l1 * 4 + 2, none⟩ = some (.bool m2) ∧ wx.cell? ⟨gd, l1 * 4 + 3, none⟩ = some (.slice B2 j2 d2)) hmx (hSv1.out _ hr1) (fun hxs1 => ?_)
      refine wpAnyL_take (i := 0) (v := ?v1) rfl (by kernel_rfl) (by kernel_rfl) (by kernel_rfl) (by kernel_rfl) (by kernel_rfl) (Or.inl ⟨by kernel_rfl, ?hy1⟩) (hSv1.out _ hr1) ?rest1
      case hy1 => (intro W2 hSw; (try dsimp only at hSw); go_simp; try with_reducible rfl)
      try simp only [Act.put, List.setIfInBounds_toArray, List.set_cons_zero, List.set_cons_succ, List.getElem_toArray, List.getElem_cons_succ, List.getElem_cons_zero]
      refine wpAnyL_take (i := 1) (v := ?v2) rfl (by kernel_rfl) (by kernel_rfl) (by kernel_rfl) (by kernel_rfl) (by kernel_rfl) (Or.inl ⟨by kernel_rfl, ?hy2⟩) (hSv1.out _ hr1) ?rest2
      case hy2 => (intro W2 hSw; (try dsimp only at hSw); go_simp; try with_reducible rfl)
      try simp only [Act.put, List.setIfInBounds_toArray, List.set_cons_zero, List.set_cons_succ, List.getElem_toArray, List.getElem_cons_succ, List.getElem_cons_zero]
      refine wpAnyL_take (i := 2) (v := ?v3) rfl (by kernel_rfl) (by kernel_rfl) (by kernel_rfl) (by kernel_rfl) (by kernel_rfl) (Or.inl ⟨by kernel_rfl, ?hy3⟩) (hSv1.out _ hr1) ?rest3
      case hy3 => (intro W2 hSw; (try dsimp only at hSw); go_simp; try with_reducible rfl)
      try simp only [Act.put, List.setIfInBounds_toArray, List.set_cons_zero, List.set_cons_succ, List.getElem_toArray, List.getElem_cons_succ, List.getElem_cons_zero]
      refine wpAnyL_take (i := 3) (v := ?v4) rfl (by kernel_rfl) (by kernel_rfl) (by kernel_rfl) (by kernel_rfl) (by kernel_rfl) (Or.inl ⟨by kernel_rfl, ?hy4⟩) (hSv1.out _ hr1) ?rest4
      case hy4 => (intro W2 hSw; (try dsimp only at hSw); go_simp; try with_reducible rfl)
      try simp only [Act.put, List.setIfInBounds_toArray, List.set_cons_zero, List.set_cons_succ, List.getElem_toArray, List.getElem_cons_succ, List.getElem_cons_zero]
      refine wpAnyL_take (i := 4) (v := ?v5) rfl (by kernel_rfl) (by kernel_rfl) (by kernel_rfl) (by kernel_rfl) (by kernel_rfl) (Or.inl ⟨by kernel_rfl, ?hy5⟩) (hSv1.out _ hr1) ?rest5
      case hy5 => (intro W2 hSw; (try dsimp only at hSw); go_simp; try with_reducible rfl)
      try simp only [Act.put, List.setIfInBounds_toArray, List.set_cons_zero, List.set_cons_succ, List.getElem_toArray, List.getElem_cons_succ, List.getElem_cons_zero]
      refine wpAnyL_take (i := 5) (v := ?v6) rfl (by kernel_rfl) (by kernel_rfl) (by kernel_rfl) (by kernel_rfl) (by kernel_rfl) (Or.inl ⟨by kernel_rfl, ?hy6⟩) (hSv1.out _ hr1) ?rest6
      case hy6 => (intro W2 hSw; (try dsimp only at hSw); go_simp; try with_reducible rfl)
      try simp only [Act.put, List.setIfInBounds_toArray, List.set_cons_zero, List.set_cons_succ, List.getElem_toArray, List.getElem_cons_succ, List.getElem_cons_zero]
      refine wpAnyL_take (i := 6) (v := ?v7) rfl (by kernel_rfl) (by kernel_rfl) (by kernel_rfl) (by kernel_rfl) (by kernel_rfl) (Or.inl ⟨by kernel_rfl, ?hy7⟩) (hSv1.out _ hr1) ?rest7
      case hy7 => (intro W2 hSw; (try dsimp only at hSw); go_simp; try with_reducible rfl)
      try simp only [Act.put, List.setIfInBounds_toArray, List.set_cons_zero, List.set_cons_succ, List.getElem_toArray, List.getElem_cons_succ, List.getElem_cons_zero]
      refine wpAnyL_take (i := 7) (v := ?v8) rfl (by kernel_rfl) (by kernel_rfl) (by kernel_rfl) (by kernel_rfl) (by kernel_rfl) (Or.inl ⟨by kernel_rfl, ?hy8⟩) (hSv1.out _ hr1) ?rest8
      case hy8 => (intro W2 hSw; (try dsimp only at hSw); go_simp; try with_reducible rfl)
      try simp only [Act.put, List.setIfInBounds_toArray, List.set_cons_zero, List.set_cons_succ, List.getElem_toArray, List.getElem_cons_succ, List.getElem_cons_zero]
      refine wpAnyL_take (i := 8) (v := ?v9) rfl (by kernel_rfl) (by kernel_rfl) (by kernel_rfl) (by kernel_rfl) (by kernel_rfl) (Or.inl ⟨by kernel_rfl, ?hy9⟩) (hSv1.out _ hr1) ?rest9
      case hy9 => (intro W2 hSw; (try dsimp only at hSw); go_simp; try with_reducible rfl)
      try simp only [Act.put, List.setIfInBounds_toArray, List.set_cons_zero, List.set_cons_succ, List.getElem_toArray, List.getElem_cons_succ, List.getElem_cons_zero]
      refine wpAnyL_take (i := 9) (v := ?v10) rfl (by kernel_rfl) (by kernel_rfl) (by kernel_rfl) (by kernel_rfl) (by kernel_rfl) (Or.inl ⟨by kernel_rfl, ?hy10⟩) (hSv1.out _ hr1) ?rest10
      case hy10 => (intro W2 hSw; (try dsimp only at hSw); go_simp; try with_reducible rfl)
      try simp only [Act.put, List.setIfInBounds_toArray, List.set_cons_zero, List.set_cons_succ, List.getElem_toArray, List.getElem_cons_succ, List.getElem_cons_zero]
      refine wpAnyL_take (i := 10) (v := ?v11) rfl (by kernel_rfl) (by kernel_rfl) (by kernel_rfl) (by kernel_rfl) (by kernel_rfl) (Or.inl ⟨by kernel_rfl, ?hy11⟩) (hSv1.out _ hr1) ?rest11
      case hy11 => (intro W2 hSw; (try dsimp only at hSw); go_simp; try with_reducible rfl)
      try simp only [Act.put, List.setIfInBounds_toArray, List.set_cons_zero, List.set_cons_succ, List.getElem_toArray, List.getElem_cons_succ, List.getElem_cons_zero]
      refine wpAnyL_take (i := 11) (v := ?v12) rfl (by kernel_rfl) (by kernel_rfl) (by kernel_rfl) (by kernel_rfl) (by kernel_rfl) (Or.inl ⟨by kernel_rfl, ?hy12⟩) (hSv1.out _ hr1) ?rest12
      case hy12 => (intro W2 hSw; (try dsimp only at hSw); go_simp; try with_reducible rfl)
      try simp only [Act.put, List.setIfInBounds_toArray, List.set_cons_zero, List.set_cons_succ, List.getElem_toArray, List.getElem_cons_succ, List.getElem_cons_zero]
      refine wpAnyL_take (i := 12) (v := ?v13) rfl (by kernel_rfl) (by kernel_rfl) (by kernel_rfl) (by kernel_rfl) (by kernel_rfl) (Or.inl ⟨by kernel_rfl, ?hy13⟩) (hSv1.out _ hr1) ?rest13
      case hy13 => (intro W2 hSw; (try dsimp only at hSw); go_simp; try with_reducible rfl)
      try simp only [Act.put, List.setIfInBounds_toArray, List.set_cons_zero, List.set_cons_succ, List.getElem_toArray, List.getElem_cons_succ, List.getElem_cons_zero]
      refine wpAnyL_take (i := 13) (v := ?v14) rfl (by kernel_rfl) (by kernel_rfl) (by kernel_rfl) (by kernel_rfl) (by kernel_rfl) (Or.inl ⟨by kernel_rfl, ?hy14⟩) (hSv1.out _ hr1) ?rest14
      case hy14 => (intro W2 hSw; (try dsimp only at hSw); go_simp; try with_reducible rfl)
      try simp only [Act.put, List.setIfInBounds_toArray, List.set_cons_zero, List.set_cons_succ, List.getElem_toArray, List.getElem_cons_succ, List.getElem_cons_zero]
      refine wpAnyL_allU [(14, 51), (15, 36), (16, 52), (18, 10)] (fun i => match i with | 15 => [17] | _ => []) [(14, 51), (15, 36), (17, 53), (16, 52), (18, 10)] (callF wr.heap.size (co r top / co (rl qs) l1) 14 15 16 17 18 17) 2 (by kernel_rfl) (fun _ _ _ _ _ hb h => callF_stays hb h) (fun wx h => hSv1.out _ (hr1.trans (h.mono hr1.size))) ?hop1 ?hfin1
      case hop1 =>
        intro p hp
        simp only [List.mem_cons, List.not_mem_nil, or_false] at hp
        simp only [List.map_cons, List.map_nil, putsR, Act.put, List.setIfInBounds_toArray, List.set_cons_zero, List.set_cons_succ]
        rcases hp with rfl | rfl | rfl | rfl
        · intro ν wx hb hP
          have hbx := hr1.trans (hb.mono hr1.size)
          refine wpOp_shut (i := 14) rfl (fun K hK => ?_)
          go_simp
          refine (rfOver_pos n1 m1 n2 m2 A1 B1 A2 B2 k1 c1 j1 d1 k2 c2 j2 d2 _ _ wx (hf1.below hbx) (hf2.below hbx) sc1 sc2 hpos2.out).mono ?_
          rintro e w5 ⟨hb5, na5, A5, k5, c5, nb5, B5, m5, d5, rfl, hf5⟩
          exact hK.out _ _ ⟨_, rfl, (by simp only [callF]; exact ⟨_, _, _, _, _, _, _, _, rfl, hf5⟩), hb5, trivial⟩
        · intro ν wx hb hP
          have h0 := hP (14, 51) (by simp) (by kernel_rfl)
          simp only [callF] at h0
          obtain ⟨na5, A5, k5, c5, nb5, B5, m5, d5, hν, hf5⟩ := h0
          rw [hν]
          refine wpOp_shut (i := 15) rfl (fun K hK => ?_)
          go_simp
          refine hK.out _ _ ⟨_, rfl, (by simp only [callF]; exact ⟨_, _, _, _, _, _, _, _, rfl, hf5⟩), Below.refl _ _, ?_⟩
          exact ⟨_, .int .i64 0, rfl, Or.inl ⟨by kernel_rfl, fun W2 _ => by go_simp⟩, by simp [callF], trivial⟩
        · intro ν wx hb hP
          have h0 := hP (15, 36) (by simp) (by kernel_rfl)
          simp only [callF] at h0
          obtain ⟨na5, A5, k5, c5, nb5, B5, m5, d5, hν, hf5⟩ := h0
          rw [hν]
          refine wpOp_shut (i := 16) rfl (fun K hK => ?_)
          go_simp
          exact hK.out _ _ ⟨_, rfl, (by simp only [callF]; exact ⟨_, _, _, _, _, _, _, _, rfl, hf5⟩), Below.refl _ _, trivial⟩
        · intro ν wx hb hP
          refine wpOp_shut (i := 18) rfl (fun K hK => ?_)
          go_simp
          exact hK.out _ _ ⟨_, rfl, (by simp only [callF]; exact ⟨_, rfl, hb.size, Blk.new _ _ _⟩), (Below.refl _ _).alloc (Nat.le_refl _) _, trivial⟩
      case hfin1 =>
        intro ν wx hb hP
        have h0 := hP (14, 51) (by simp)
        have h1 := hP (15, 36) (by simp)
        have h2 := hP (16, 52) (by simp)
        have h3 := hP (17, 53) (by simp)
        have h4 := hP (18, 10) (by simp)
        simp only [callF] at h0 h1 h2 h4
        obtain ⟨a0, a1, a2, a3, a4, a5, a6, a7, h0, -⟩ := h0
        obtain ⟨b0', b1', b2', b3', b4', b5', b6', b7', h1, -⟩ := h1
        obtain ⟨ccn, ccA, cck, ccc, ccm, ccB, ccj, ccd, h2, ccf⟩ := h2
        obtain ⟨gcc, h4, kv, qv⟩ := h4
        simp only [List.map_cons, List.map_nil, putsR, Act.put, List.setIfInBounds_toArray, List.set_cons_zero, List.set_cons_succ]
        rw [h0, h1, h2, (show ν 53 = Value.int .i64 0 by simpa [callF] using h3), h4]
        clear h0 h1 h2 h3 h4 hP ν
        have hbx := hr1.trans (hb.mono hr1.size)
        have qv4 := qv.four
        have kv2 : wr.heap.size ≤ gcc := kv
        refine (set_frac ccn ccA cck ccc ccm ccB ccj ccd hbx kv2 qv).elim (fun Zcc hq => ?_)
        have c0 := qv4.1
        have c1' := qv4.2.1
        have c2' := qv4.2.2.1
        have c3 := qv4.2.2.2.1
        have f0 := qv4.2.2.2.2.1
        have f1 := qv4.2.2.2.2.2.1
        have f2 := qv4.2.2.2.2.2.2.1
        have f3 := qv4.2.2.2.2.2.2.2
        have hZ := hq.1
        refine wpAnyL_one (i := 19) rfl (by kernel_rfl) (fun K hK => ?_)
        go_simp
        (try rw [hZ])
        refine hK.out _ _ (fun _ => hSv1.out _ hq.2.1) ?_
        clear hK K
        try simp only [Act.put, List.setIfInBounds_toArray, List.set_cons_zero, List.set_cons_succ]
        refine wpAnyL_pure (i := 20) (v := ?v15) rfl (by kernel_rfl) (by kernel_rfl) (by kernel_rfl) (by kernel_rfl) (Or.inl ⟨by kernel_rfl, ?hy15⟩) (fun _ => (hSv1.out _ hq.2.1)) ?rest15
        case hy15 => (intro W2 _; go_simp; try with_reducible rfl)
        try simp only [Act.put, List.setIfInBounds_toArray, List.set_cons_zero, List.set_cons_succ, List.getElem_toArray, List.getElem_cons_succ, List.getElem_cons_zero]
        refine wpAnyL_done (by kernel_rfl) ?_ _
        refine OnlyNormal.normal ?_
        have hbZcc := hq.2.1
        have ccb := hide hq.2.2.1
        replace ccf := hide (Fr.keep ccf hq.2.2.2.1)
        clear hq hZ c0 c1' c2' c3 f0 f1 f2 f3 qv4 qv kv hbx hb hr1 hSv1 hxs1
        rw [hcq.out] at ccf
        have hB7 := hbZcc
        have hO7 := hO.out.below hB7
        obtain ⟨nO, AO, kO, cO, mO, BO, jO, dO, o0, o1, o2, o3, -⟩ : ∃ na A k c nb B m d, Zcc.cell? ⟨gO, j * 4, none⟩ = some (.bool na) ∧ Zcc.cell? ⟨gO, j * 4 + 1, none⟩ = some (.slice A k c) ∧ Zcc.cell? ⟨gO, j * 4 + 2, none⟩ = some (.bool nb) ∧ Zcc.cell? ⟨gO, j * 4 + 3, none⟩ = some (.slice B m d) ∧ True := by
          obtain ⟨na, A, k, c, nb, B, m, d, h0, h1, h2, h3⟩ := hO7.cells (i := j) (by omega)
          exact ⟨na, A, k, c, nb, B, m, d, h0, h1, h2, h3, trivial⟩
        have z0 := hO7.frozen (j * 4)
        have z1 := hO7.frozen (j * 4 + 1)
        have z2 := hO7.frozen (j * 4 + 2)
        have z3 := hO7.frozen (j * 4 + 3)
        have hj1 : (j : Int) < (k0 : Int) := by omega
        obtain ⟨x0, x1, x2, x3, -⟩ := ccb.out.four
        obtain ⟨Z7, hZ7⟩ : ∃ W, setF Zcc gO j ccn ccA cck ccc ccm ccB ccj ccd = W := ⟨_, rfl⟩
        have hZ7' := hZ7
        unfold setF at hZ7'
        have hKc : Kept (fun g => g = gr ∨ g = gO) X Zcc := hK.out.below hB7
        have hgOX : gO < X.heap.size := by rw [sX, hgO]; omega
        have hK7 : Hid (Kept (fun g => g = gr ∨ g = gO) X Z7) := hide (by rw [← hZ7]; exact setF_kept hKc (.inl (.inr rfl)))
        have hO8 : Hid (FRaw 27 Z7 gO k0) := hide (by rw [← hZ7]; exact hO7.set_ (by omega) _ _ _ _ _ _ _ _)
        have hR8 : Hid (FOwn 27 Z7 gr r) := hide (by rw [← hZ7]; exact (hR.out.below hB7).other (by omega) hO7.box)
        have hgcO : gcc ≠ gO := by have h1 := hK.out.size; omega
        have ccb7 : Hid (Blk Z7 gcc 27 #[.bool ccn, .slice ccA cck ccc, .bool ccm, .slice ccB ccj ccd]) := hide (by rw [← hZ7]; exact setF_far ccb.out hgcO)
        have ccf7 : Hid (Fr Z7 ccn ccA cck ccc ccm ccB ccj ccd cq) := hide (by rw [← hZ7]; obtain ⟨t, cs, hb, hcs⟩ := hO7.box; exact setF_fr ccf.out hb hcs)
        have hgcr : gcc ≠ gr := by have h1 := hK.out.size; omega
        clear hO7 hKc hZ7 hR hO hK
        replace hB7 := hide hB7
        clear hbZcc
        go_wp2_with fail
        (try rw [hZ7'])
        clear hZ7' x0 x1 x2 x3 z0 z1 z2 z3 o0 o1 o2 o3 nO AO kO cO mO BO jO dO ccb ccf
        clear p0 p1 p2 p3 q0 q1 q2 q3 hf1 hf2 sc1 sc2
        have hG7 : Hid (∀ k, (k = gr ∨ k = gO) → ∃ t cs, Blk Z7 k t cs ∧ NoLimb cs) := hide (fun k hk => by
          rcases hk with rfl | rfl
          · exact hR8.out.box
          · exact hO8.out.box)
        go_loopg [12] m (fun k iv wr => ∃ (i : Nat) (r2 : List Rat), i + k = m ∧ iv = .int .i64 i ∧ Hid (r2.length = nr) ∧ Hid (∀ t, co r2 t = co r t - (if j ≤ t ∧ t < j + i then cq * co (rl qs) (t - j) else 0)) ∧ FOwn 27 wr gr r2 ∧ FRaw 27 wr gO k0 ∧ Kept (fun g => g = gr ∨ g = gO) Z7 wr)
        case atStart => exact ⟨0, r, by omega, rfl, hrl, hide (fun t => by rw [if_neg (by omega)]; exact subz _), hR8.out, hO8.out, Kept.refl _ _⟩
        case round =>
          clear hR8 hO8
          obtain ⟨i, r2, hik, rfl, hrl2, hco2, hR, hO, hK3⟩ := hrel
          have hK := hK7.out.trans hK3
          have hD3 := hD.out.keptG hK (by omega) hGX.out
          cases gk with
          | zero =>
            obtain rfl : i = m := by omega
            have tge2 : decide ((i : Int) < (i : Int)) = false := by simp
            have hr2e : r2 = ovS (rl qs) r := ov_end hm0 (by rw [hrl.out]; exact hnrj.out) hrlq.out (by rw [hrl2.out, hrl.out]) hcqC.out hco2.out
            have e5 : IntKind.i64.wrap ((j : Int) + (i : Int)) = (j : Int) + (i : Int) := IntWalk.i64_in _ (by omega)
            have e6 : IntKind.i64.wrap ((j : Int) - 1) = (j : Int) - 1 := IntWalk.i64_in _ (by omega)
            have hnrj2 := hnrj.out
            have b7 : top ≤ cr := by omega
            have b8 : (top : Int) ≤ (cr : Int) := by omega
            have hRt := hR.take top
            rw [hr2e, show (ovS (rl qs) r).take top = ovR (rl qs) r by unfold ovR; rw [hrl.out, show nr - 1 = top by have := htopE.out; omega]] at hRt
            have hlt : (ovR (rl qs) r).length = top := by rw [ovR_length, hrl.out]; have := htopE.out; omega
            have hrel2 : Hid (∃ (r' : List Rat) (nr' cr' : Nat) (nn' : Int), Value.slice (some ⟨gr, 0, none⟩) top cr = .slice (some ⟨gr, 0, none⟩) nr' cr' ∧ Value.int .i64 ((j : Int) - 1) = .int .i64 nn' ∧ Hid (nn' = (j : Int) - 1) ∧ Hid (r'.length = nr') ∧ Hid (nr' + 1 = j + i) ∧ nr' ≤ cr' ∧ cr' ≤ maxLen ∧ j ≤ k0 ∧ FOwn 27 wr gr r' ∧ FRaw 27 wr gO k0 ∧ Hid (ovK (rl qs) j r' = List.replicate (i - 1) 0) ∧ Hid (okOv (rl qs) j r') ∧ Kept (fun g => g = gr ∨ g = gO) X wr) := hide ⟨ovR (rl qs) r, top, cr, _, rfl, rfl, hide rfl, hide hlt, hide (by have := htopE.out; omega), b7, hcrm, by omega, hRt, hO, hide hz.out, hide hokj.out, hK⟩
            clear hRt hlt hr2e hR hO hK hK3 hD3 hnrj2
            go_wp2_with fail
            go_roundg j
            case measure => omega
            case rel => exact hrel2.out
          | succ gk' =>
            obtain rfl : gk' = m - (i + 1) := by omega
            have him : i < m := by omega
            have tlt : decide ((i : Int) < (m : Int)) = true := by simp; omega
            have bI : (i : Int) < (m : Int) := by omega
            obtain ⟨ji, hji⟩ : ∃ t : Nat, t = j + i := ⟨_, rfl⟩
            have e4 : IntKind.i64.wrap ((j : Int) + (i : Int)) = (ji : Int) := by rw [IntKind.wrap_i64]; omega
            have hnrj2 := hnrj.out
            have b5 : (ji : Int) < (nr : Int) := by omega
            have b6 : ji < nr := by omega
            obtain ⟨n3, A3, k3, cc3, m3, B3, j3, d3, q0, q1, q2, q3, hf2⟩ := hD3.at_ (i := i) (by rw [hrlq.out]; exact him)
            have hf2c : (rl qs)[i]?.getD 0 = co (rl qs) i := rfl
            rw [hf2c] at hf2
            obtain ⟨x0, x1, x2, x3, -⟩ := (hK3.blk ccb7.out (by rintro (h | h) <;> omega)).four
            have hfc : Fr wr ccn ccA cck ccc ccm ccB ccj ccd cq := ⟨hK3.wd ccf7.out.1 hG7.out, hK3.wd ccf7.out.2 hG7.out⟩
            replace hR := hide hR
            replace hO := hide hO
            replace hD3 := hide hD3
            replace hK := hide hK
            replace hK3 := hide hK3
            replace hji := hide hji
            clear hf2c hnrj2
            go_wp2_with fail
            have sc1 : Sm cq := by rw [← hcqC.out]; exact sC.out
            have sc2 : Sm (co (rl qs) i) := hdq.out i
            have hSv2 : Hid (∀ wx, Below wr.heap.size wr wx → wx.cell? ⟨gcc, 0, none⟩ = some (.bool ccn) ∧ wx.cell? ⟨gcc, 1, none⟩ = some (.slice ccA cck ccc) ∧ wx.cell? ⟨gcc, 2, none⟩ = some (.bool ccm) ∧ wx.cell? ⟨gcc, 3, none⟩ = some (.slice ccB ccj ccd) ∧ wx.cell? ⟨gd, i * 4, none⟩ = some (.bool n3) ∧ wx.cell? ⟨gd, i * 4 + 1, none⟩ = some (.slice A3 k3 cc3) ∧ wx.cell? ⟨gd, i * 4 + 2, none⟩ = some (.bool m3) ∧ wx.cell? ⟨gd, i * 4 + 3, none⟩ = some (.slice B3 j3 d3)) := hide (fun wx hbx => ⟨keep_cell hbx x0, keep_cell hbx x1, keep_cell hbx x2, keep_cell hbx x3, keep_cell hbx q0, keep_cell hbx q1, keep_cell hbx q2, keep_cell hbx q3⟩)
            have hr2 : Below wr.heap.size wr wr.drew := below_dn (Below.refl _ _) 1
            refine wp_held [] (fun wx => wx.cell? ⟨gcc, 0, none⟩ = some (.bool ccn) ∧ wx.cell? ⟨gcc, 1, none⟩ = some (.slice ccA cck ccc) ∧ wx.cell? ⟨gcc, 2, none⟩ = some (.bool ccm) ∧ wx.cell? ⟨gcc, 3, none⟩ = some (.slice ccB ccj ccd) ∧ wx.cell? ⟨gd, i * 4, none⟩ = some (.bool n3) ∧ wx.cell? ⟨gd, i * 4 + 1, none⟩ = some (.slice A3 k3 cc3) ∧ wx.cell? ⟨gd, i * 4 + 2, none⟩ = some (.bool m3) ∧ wx.cell? ⟨gd, i * 4 + 3, none⟩ = some (.slice B3 j3 d3)) hmx (hSv2.out _ hr2) (fun hxs2 => ?_)
            refine wpAnyL_take (i := 0) (v := ?v16) rfl (by kernel_rfl) (by kernel_rfl) (by kernel_rfl) (by kernel_rfl) (by kernel_rfl) (Or.inl ⟨by kernel_rfl, ?hy16⟩) (hSv2.out _ hr2) ?rest16
            case hy16 => (intro W2 hSw; (try dsimp only at hSw); go_simp; try with_reducible rfl)
            try simp only [Act.put, List.setIfInBounds_toArray, List.set_cons_zero, List.set_cons_succ, List.getElem_toArray, List.getElem_cons_succ, List.getElem_cons_zero]
            refine wpAnyL_take (i := 1) (v := ?v17) rfl (by kernel_rfl) (by kernel_rfl) (by kernel_rfl) (by kernel_rfl) (by kernel_rfl) (Or.inl ⟨by kernel_rfl, ?hy17⟩) (hSv2.out _ hr2) ?rest17
            case hy17 => (intro W2 hSw; (try dsimp only at hSw); go_simp; try with_reducible rfl)
            try simp only [Act.put, List.setIfInBounds_toArray, List.set_cons_zero, List.set_cons_succ, List.getElem_toArray, List.getElem_cons_succ, List.getElem_cons_zero]
            refine wpAnyL_take (i := 2) (v := ?v18) rfl (by kernel_rfl) (by kernel_rfl) (by kernel_rfl) (by kernel_rfl) (by kernel_rfl) (Or.inl ⟨by kernel_rfl, ?hy18⟩) (hSv2.out _ hr2) ?rest18
            case hy18 => (intro W2 hSw; (try dsimp only at hSw); go_simp; try with_reducible rfl)
            try simp only [Act.put, List.setIfInBounds_toArray, List.set_cons_zero, List.set_cons_succ, List.getElem_toArray, List.getElem_cons_succ, List.getElem_cons_zero]
            refine wpAnyL_take (i := 3) (v := ?v19) rfl (by kernel_rfl) (by kernel_rfl) (by kernel_rfl) (by kernel_rfl) (by kernel_rfl) (Or.inl ⟨by kernel_rfl, ?hy19⟩) (hSv2.out _ hr2) ?rest19
            case hy19 => (intro W2 hSw; (try dsimp only at hSw); go_simp; try with_reducible rfl)
            try simp only [Act.put, List.setIfInBounds_toArray, List.set_cons_zero, List.set_cons_succ, List.getElem_toArray, List.getElem_cons_succ, List.getElem_cons_zero]
            refine wpAnyL_take (i := 4) (v := ?v20) rfl (by kernel_rfl) (by kernel_rfl) (by kernel_rfl) (by kernel_rfl) (by kernel_rfl) (Or.inl ⟨by kernel_rfl, ?hy20⟩) (hSv2.out _ hr2) ?rest20
            case hy20 => (intro W2 hSw; (try dsimp only at hSw); go_simp; try with_reducible rfl)
            try simp only [Act.put, List.setIfInBounds_toArray, List.set_cons_zero, List.set_cons_succ, List.getElem_toArray, List.getElem_cons_succ, List.getElem_cons_zero]
            refine wpAnyL_allU [(5, 70), (6, 64), (7, 71), (9, 13)] (fun i => match i with | 6 => [8] | _ => []) [(5, 70), (6, 64), (8, 72), (7, 71), (9, 13)] (callF wr.heap.size (cq * co (rl qs) i) 5 6 7 8 9 8) 2 (by kernel_rfl) (fun _ _ _ _ _ hb h => callF_stays hb h) (fun wx h => hSv2.out _ (hr2.trans (h.mono hr2.size))) ?hop2 ?hfin2
            case hop2 =>
              intro p hp
              simp only [List.mem_cons, List.not_mem_nil, or_false] at hp
              simp only [List.map_cons, List.map_nil, putsR, Act.put, List.setIfInBounds_toArray, List.set_cons_zero, List.set_cons_succ]
              rcases hp with rfl | rfl | rfl | rfl
              · intro ν wx hb hP
                have hbx := hr2.trans (hb.mono hr2.size)
                refine wpOp_shut (i := 5) rfl (fun K hK => ?_)
                go_simp
                refine (rfTimes_ok ccn ccm n3 m3 ccA ccB A3 B3 cck ccc ccj ccd k3 cc3 j3 d3 _ _ wx (hfc.below hbx) (hf2.below hbx) sc1 sc2).mono ?_
                rintro e w5 ⟨hb5, na5, A5, k5, c5, nb5, B5, m5, d5, rfl, hf5⟩
                exact hK.out _ _ ⟨_, rfl, (by simp only [callF]; exact ⟨_, _, _, _, _, _, _, _, rfl, hf5⟩), hb5, trivial⟩
              · intro ν wx hb hP
                have h0 := hP (5, 70) (by simp) (by kernel_rfl)
                simp only [callF] at h0
                obtain ⟨na5, A5, k5, c5, nb5, B5, m5, d5, hν, hf5⟩ := h0
                rw [hν]
                refine wpOp_shut (i := 6) rfl (fun K hK => ?_)
                go_simp
                refine hK.out _ _ ⟨_, rfl, (by simp only [callF]; exact ⟨_, _, _, _, _, _, _, _, rfl, hf5⟩), Below.refl _ _, ?_⟩
                exact ⟨_, .int .i64 0, rfl, Or.inl ⟨by kernel_rfl, fun W2 _ => by go_simp⟩, by simp [callF], trivial⟩
              · intro ν wx hb hP
                have h0 := hP (6, 64) (by simp) (by kernel_rfl)
                simp only [callF] at h0
                obtain ⟨na5, A5, k5, c5, nb5, B5, m5, d5, hν, hf5⟩ := h0
                rw [hν]
                refine wpOp_shut (i := 7) rfl (fun K hK => ?_)
                go_simp
                exact hK.out _ _ ⟨_, rfl, (by simp only [callF]; exact ⟨_, _, _, _, _, _, _, _, rfl, hf5⟩), Below.refl _ _, trivial⟩
              · intro ν wx hb hP
                refine wpOp_shut (i := 9) rfl (fun K hK => ?_)
                go_simp
                exact hK.out _ _ ⟨_, rfl, (by simp only [callF]; exact ⟨_, rfl, hb.size, Blk.new _ _ _⟩), (Below.refl _ _).alloc (Nat.le_refl _) _, trivial⟩
            case hfin2 =>
              intro ν wx hb hP
              have h0 := hP (5, 70) (by simp)
              have h1 := hP (6, 64) (by simp)
              have h2 := hP (7, 71) (by simp)
              have h3 := hP (8, 72) (by simp)
              have h4 := hP (9, 13) (by simp)
              simp only [callF] at h0 h1 h2 h4
              obtain ⟨a0, a1, a2, a3, a4, a5, a6, a7, h0, -⟩ := h0
              obtain ⟨b0', b1', b2', b3', b4', b5', b6', b7', h1, -⟩ := h1
              obtain ⟨wwn, wwA, wwk, wwc, wwm, wwB, wwj, wwd, h2, wwf⟩ := h2
              obtain ⟨gww, h4, kv, qv⟩ := h4
              simp only [List.map_cons, List.map_nil, putsR, Act.put, List.setIfInBounds_toArray, List.set_cons_zero, List.set_cons_succ]
              rw [h0, h1, h2, (show ν 72 = Value.int .i64 0 by simpa [callF] using h3), h4]
              clear h0 h1 h2 h3 h4 hP ν
              have hbx := hr2.trans (hb.mono hr2.size)
              have qv4 := qv.four
              have kv2 : wr.heap.size ≤ gww := kv
              refine (set_frac wwn wwA wwk wwc wwm wwB wwj wwd hbx kv2 qv).elim (fun Zww hq => ?_)
              have c0 := qv4.1
              have c1' := qv4.2.1
              have c2' := qv4.2.2.1
              have c3 := qv4.2.2.2.1
              have f0 := qv4.2.2.2.2.1
              have f1 := qv4.2.2.2.2.2.1
              have f2 := qv4.2.2.2.2.2.2.1
              have f3 := qv4.2.2.2.2.2.2.2
              have hZ := hq.1
              refine wpAnyL_one (i := 10) rfl (by kernel_rfl) (fun K hK => ?_)
              go_simp
              (try rw [hZ])
              refine hK.out _ _ (fun _ => hSv2.out _ hq.2.1) ?_
              clear hK K
              try simp only [Act.put, List.setIfInBounds_toArray, List.set_cons_zero, List.set_cons_succ]
              refine wpAnyL_pure (i := 11) (v := ?v21) rfl (by kernel_rfl) (by kernel_rfl) (by kernel_rfl) (by kernel_rfl) (Or.inl ⟨by kernel_rfl, ?hy21⟩) (fun _ => (hSv2.out _ hq.2.1)) ?rest21
              case hy21 => (intro W2 _; go_simp; try with_reducible rfl)
              try simp only [Act.put, List.setIfInBounds_toArray, List.set_cons_zero, List.set_cons_succ, List.getElem_toArray, List.getElem_cons_succ, List.getElem_cons_zero]
              refine wpAnyL_done (by kernel_rfl) ?_ _
              refine OnlyNormal.normal ?_
              have hbZww := hq.2.1
              have wwb := hide hq.2.2.1
              replace wwf := hide (Fr.keep wwf hq.2.2.2.1)
              clear hq hZ c0 c1' c2' c3 f0 f1 f2 f3 qv4 qv kv hbx hb hr2 hSv2 hxs2
              have hbx0 := hbZww
              have hR2 := hR.out.below hbx0
              have hO2 := hO.out.below hbx0
              have hK2 := hK3.out.below hbx0
              have hrl2' := hrl2.out
              obtain ⟨n4, A4, k4, c4, m4, B4, j4, d4, u0', u1', u2', u3', hf4⟩ := hR2.at_ (i := ji) (by rw [hrl2']; exact b6)
              have hf4c : r2[ji]?.getD 0 = co r ji := by
                have h1 := hco2.out ji
                have h2 := hji.out
                rw [if_neg (by omega), ← subz] at h1
                exact h1
              rw [hf4c] at hf4
              have v0 := hR2.frozen (ji * 4)
              have v1 := hR2.frozen (ji * 4 + 1)
              have v2 := hR2.frozen (ji * 4 + 2)
              have v3 := hR2.frozen (ji * 4 + 3)
              obtain ⟨y0, y1, y2, y3, -⟩ := wwb.out.four
              have sc3 : Sm (co r ji) := sR.out ji
              have sc4 : Sm (cq * co (rl qs) i) := by rw [← hcqC.out]; exact sW.out i
              replace hR2 := hide hR2
              replace hO2 := hide hO2
              replace hK2 := hide hK2
              clear hf4c hrl2' hbx0 q0 q1 q2 q3 x0 x1 x2 x3 hf2 hfc sc1 sc2 hR hO hK hK3 hD3
              go_wp2_with fail
              have hSv9 : Hid (∀ wx, Below Zww.heap.size Zww wx → wx.cell? ⟨gr, ji * 4, none⟩ = some (.bool n4) ∧ wx.cell? ⟨gr, ji * 4 + 1, none⟩ = some (.slice A4 k4 c4) ∧ wx.cell? ⟨gr, ji * 4 + 2, none⟩ = some (.bool m4) ∧ wx.cell? ⟨gr, ji * 4 + 3, none⟩ = some (.slice B4 j4 d4) ∧ wx.cell? ⟨gww, 0, none⟩ = some (.bool wwn) ∧ wx.cell? ⟨gww, 1, none⟩ = some (.slice wwA wwk wwc) ∧ wx.cell? ⟨gww, 2, none⟩ = some (.bool wwm) ∧ wx.cell? ⟨gww, 3, none⟩ = some (.slice wwB wwj wwd)) := hide (fun wx hbx => ⟨keep_cell hbx u0', keep_cell hbx u1', keep_cell hbx u2', keep_cell hbx u3', keep_cell hbx y0, keep_cell hbx y1, keep_cell hbx y2, keep_cell hbx y3⟩)
              have hr9 : Below Zww.heap.size Zww Zww.drew := below_dn (Below.refl _ _) 1
              refine wp_held [16] (fun wx => wx.cell? ⟨gr, ji * 4, none⟩ = some (.bool n4) ∧ wx.cell? ⟨gr, ji * 4 + 1, none⟩ = some (.slice A4 k4 c4) ∧ wx.cell? ⟨gr, ji * 4 + 2, none⟩ = some (.bool m4) ∧ wx.cell? ⟨gr, ji * 4 + 3, none⟩ = some (.slice B4 j4 d4) ∧ wx.cell? ⟨gww, 0, none⟩ = some (.bool wwn) ∧ wx.cell? ⟨gww, 1, none⟩ = some (.slice wwA wwk wwc) ∧ wx.cell? ⟨gww, 2, none⟩ = some (.bool wwm) ∧ wx.cell? ⟨gww, 3, none⟩ = some (.slice wwB wwj wwd)) hmx (hSv9.out _ hr9) (fun hxs9 => ?_)
              refine wpAnyL_take (i := 0) (v := ?v22) rfl (by kernel_rfl) (by kernel_rfl) (by kernel_rfl) (by kernel_rfl) (by kernel_rfl) (Or.inl ⟨by kernel_rfl, ?hy22⟩) (hSv9.out _ hr9) ?rest22
              case hy22 => (intro W2 hSw; (try dsimp only at hSw); go_simp; try with_reducible rfl)
              try simp only [Act.put, List.setIfInBounds_toArray, List.set_cons_zero, List.set_cons_succ, List.getElem_toArray, List.getElem_cons_succ, List.getElem_cons_zero]
              refine wpAnyL_take (i := 1) (v := ?v23) rfl (by kernel_rfl) (by kernel_rfl) (by kernel_rfl) (by kernel_rfl) (by kernel_rfl) (Or.inl ⟨by kernel_rfl, ?hy23⟩) (hSv9.out _ hr9) ?rest23
              case hy23 => (intro W2 hSw; (try dsimp only at hSw); go_simp; try with_reducible rfl)
              try simp only [Act.put, List.setIfInBounds_toArray, List.set_cons_zero, List.set_cons_succ, List.getElem_toArray, List.getElem_cons_succ, List.getElem_cons_zero]
              refine wpAnyL_take (i := 2) (v := ?v24) rfl (by kernel_rfl) (by kernel_rfl) (by kernel_rfl) (by kernel_rfl) (by kernel_rfl) (Or.inl ⟨by kernel_rfl, ?hy24⟩) (hSv9.out _ hr9) ?rest24
              case hy24 => (intro W2 hSw; (try dsimp only at hSw); go_simp; try with_reducible rfl)
              try simp only [Act.put, List.setIfInBounds_toArray, List.set_cons_zero, List.set_cons_succ, List.getElem_toArray, List.getElem_cons_succ, List.getElem_cons_zero]
              refine wpAnyL_take (i := 3) (v := ?v25) rfl (by kernel_rfl) (by kernel_rfl) (by kernel_rfl) (by kernel_rfl) (by kernel_rfl) (Or.inl ⟨by kernel_rfl, ?hy25⟩) (hSv9.out _ hr9) ?rest25
              case hy25 => (intro W2 hSw; (try dsimp only at hSw); go_simp; try with_reducible rfl)
              try simp only [Act.put, List.setIfInBounds_toArray, List.set_cons_zero, List.set_cons_succ, List.getElem_toArray, List.getElem_cons_succ, List.getElem_cons_zero]
              refine wpAnyL_take (i := 4) (v := ?v26) rfl (by kernel_rfl) (by kernel_rfl) (by kernel_rfl) (by kernel_rfl) (by kernel_rfl) (Or.inl ⟨by kernel_rfl, ?hy26⟩) (hSv9.out _ hr9) ?rest26
              case hy26 => (intro W2 hSw; (try dsimp only at hSw); go_simp; try with_reducible rfl)
              try simp only [Act.put, List.setIfInBounds_toArray, List.set_cons_zero, List.set_cons_succ, List.getElem_toArray, List.getElem_cons_succ, List.getElem_cons_zero]
              refine wpAnyL_take (i := 5) (v := ?v27) rfl (by kernel_rfl) (by kernel_rfl) (by kernel_rfl) (by kernel_rfl) (by kernel_rfl) (Or.inl ⟨by kernel_rfl, ?hy27⟩) (hSv9.out _ hr9) ?rest27
              case hy27 => (intro W2 hSw; (try dsimp only at hSw); go_simp; try with_reducible rfl)
              try simp only [Act.put, List.setIfInBounds_toArray, List.set_cons_zero, List.set_cons_succ, List.getElem_toArray, List.getElem_cons_succ, List.getElem_cons_zero]
              refine wpAnyL_take (i := 6) (v := ?v28) rfl (by kernel_rfl) (by kernel_rfl) (by kernel_rfl) (by kernel_rfl) (by kernel_rfl) (Or.inl ⟨by kernel_rfl, ?hy28⟩) (hSv9.out _ hr9) ?rest28
              case hy28 => (intro W2 hSw; (try dsimp only at hSw); go_simp; try with_reducible rfl)
              try simp only [Act.put, List.setIfInBounds_toArray, List.set_cons_zero, List.set_cons_succ, List.getElem_toArray, List.getElem_cons_succ, List.getElem_cons_zero]
              refine wpAnyL_take (i := 7) (v := ?v29) rfl (by kernel_rfl) (by kernel_rfl) (by kernel_rfl) (by kernel_rfl) (by kernel_rfl) (Or.inl ⟨by kernel_rfl, ?hy29⟩) (hSv9.out _ hr9) ?rest29
              case hy29 => (intro W2 hSw; (try dsimp only at hSw); go_simp; try with_reducible rfl)
              try simp only [Act.put, List.setIfInBounds_toArray, List.set_cons_zero, List.set_cons_succ, List.getElem_toArray, List.getElem_cons_succ, List.getElem_cons_zero]
              refine wpAnyL_take (i := 8) (v := ?v30) rfl (by kernel_rfl) (by kernel_rfl) (by kernel_rfl) (by kernel_rfl) (by kernel_rfl) (Or.inl ⟨by kernel_rfl, ?hy30⟩) (hSv9.out _ hr9) ?rest30
              case hy30 => (intro W2 hSw; (try dsimp only at hSw); go_simp; try with_reducible rfl)
              try simp only [Act.put, List.setIfInBounds_toArray, List.set_cons_zero, List.set_cons_succ, List.getElem_toArray, List.getElem_cons_succ, List.getElem_cons_zero]
              refine wpAnyL_take (i := 9) (v := ?v31) rfl (by kernel_rfl) (by kernel_rfl) (by kernel_rfl) (by kernel_rfl) (by kernel_rfl) (Or.inl ⟨by kernel_rfl, ?hy31⟩) (hSv9.out _ hr9) ?rest31
              case hy31 => (intro W2 hSw; (try dsimp only at hSw); go_simp; try with_reducible rfl)
              try simp only [Act.put, List.setIfInBounds_toArray, List.set_cons_zero, List.set_cons_succ, List.getElem_toArray, List.getElem_cons_succ, List.getElem_cons_zero]
              refine wpAnyL_take (i := 10) (v := ?v32) rfl (by kernel_rfl) (by kernel_rfl) (by kernel_rfl) (by kernel_rfl) (by kernel_rfl) (Or.inl ⟨by kernel_rfl, ?hy32⟩) (hSv9.out _ hr9) ?rest32
              case hy32 => (intro W2 hSw; (try dsimp only at hSw); go_simp; try with_reducible rfl)
              try simp only [Act.put, List.setIfInBounds_toArray, List.set_cons_zero, List.set_cons_succ, List.getElem_toArray, List.getElem_cons_succ, List.getElem_cons_zero]
              refine wpAnyL_one (i := 11) rfl (by kernel_rfl) (fun K hK => ?_)
              go_simp
              refine (rfMinus_ok n4 m4 wwn wwm A4 B4 wwA wwB k4 c4 j4 d4 wwk wwc wwj wwd _ _ Zww.drew (hf4.below hr9) (wwf.out.below hr9) sc3 sc4).mono ?_
              rintro e w5 ⟨hb5, n5, A5, k5, c5, m5, B5, j5, d5, rfl, hf5⟩
              have hr10 := hr9.trans (hb5.mono hr9.size)
              refine hK.out _ _ (fun _ => hSv9.out _ hr10) ?_
              clear hK K
              try simp only [Act.put, List.setIfInBounds_toArray, List.set_cons_zero, List.set_cons_succ]
              refine wpAnyL_pure (i := 12) (v := ?v33) rfl (by kernel_rfl) (by kernel_rfl) (by kernel_rfl) (by kernel_rfl) (Or.inl ⟨by kernel_rfl, ?hy33⟩) (fun _ => (hSv9.out _ hr10)) ?rest33
              case hy33 => (intro W2 _; go_simp; try with_reducible rfl)
              try simp only [Act.put, List.setIfInBounds_toArray, List.set_cons_zero, List.set_cons_succ, List.getElem_toArray, List.getElem_cons_succ, List.getElem_cons_zero]
              refine wpAnyL_pure (i := 13) (v := ?v34) rfl (by kernel_rfl) (by kernel_rfl) (by kernel_rfl) (by kernel_rfl) (Or.inl ⟨by kernel_rfl, ?hy34⟩) (fun _ => (hSv9.out _ hr10)) ?rest34
              case hy34 => (intro W2 _; go_simp; try with_reducible rfl)
              try simp only [Act.put, List.setIfInBounds_toArray, List.set_cons_zero, List.set_cons_succ, List.getElem_toArray, List.getElem_cons_succ, List.getElem_cons_zero]
              refine wpAnyL_pure (i := 14) (v := ?v35) rfl (by kernel_rfl) (by kernel_rfl) (by kernel_rfl) (by kernel_rfl) (Or.inl ⟨by kernel_rfl, ?hy35⟩) (fun _ => (hSv9.out _ hr10)) ?rest35
              case hy35 => (intro W2 _; go_simp; try with_reducible rfl)
              try simp only [Act.put, List.setIfInBounds_toArray, List.set_cons_zero, List.set_cons_succ, List.getElem_toArray, List.getElem_cons_succ, List.getElem_cons_zero]
              refine wpAnyL_pure (i := 15) (v := ?v36) rfl (by kernel_rfl) (by kernel_rfl) (by kernel_rfl) (by kernel_rfl) (Or.inl ⟨by kernel_rfl, ?hy36⟩) (fun _ => (hSv9.out _ hr10)) ?rest36
              case hy36 => (intro W2 _; go_simp; try with_reducible rfl)
              try simp only [Act.put, List.setIfInBounds_toArray, List.set_cons_zero, List.set_cons_succ, List.getElem_toArray, List.getElem_cons_succ, List.getElem_cons_zero]
              have hb5' : Below Zww.heap.size Zww w5 := below_drewL hb5
              have hR5 := hR2.out.below hb5'
              have hO5 := hO2.out.below hb5'
              obtain ⟨Z9, hZ9⟩ : ∃ W, setF w5 gr ji n5 A5 k5 c5 m5 B5 j5 d5 = W := ⟨_, rfl⟩
              have hZ9' := hZ9
              unfold setF at hZ9'
              have hK9 : Hid (Kept (fun g => g = gr ∨ g = gO) Z7 Z9) := hide (by rw [← hZ9]; exact setF_kept (hK2.out.below hb5') (.inl (.inl rfl)))
              have hO9 : Hid (FRaw 27 Z9 gO k0) := hide (by rw [← hZ9]; exact hO5.other (by omega))
              have hR9 : Hid (FOwn 27 Z9 gr (r2.set ji (co r ji - cq * co (rl qs) i))) := hide (by rw [← hZ9]; exact hR5.set_ (by rw [hrl2.out]; exact b6) hf5)
              have f0 := keep_frozen hb5' u0' v0
              have f1 := keep_frozen hb5' u1' v1
              have f2 := keep_frozen hb5' u2' v2
              have f3 := keep_frozen hb5' u3' v3
              have g0 := keep_cell hb5' u0'
              have g1 := keep_cell hb5' u1'
              have g2 := keep_cell hb5' u2'
              have g3 := keep_cell hb5' u3'
              clear hR5 hO5 hZ9
              refine wpAnyL_late (i := 16) rfl (by kernel_rfl) (by kernel_rfl) (fun K hK => ?_)
              go_simp
              (try rw [hZ9'])
              refine hK.out _ _ ?_
              clear hK K
              try simp only [Act.put, List.setIfInBounds_toArray, List.set_cons_zero, List.set_cons_succ]
              refine wpAnyL_done (by kernel_rfl) ?_ _
              refine OnlyNormal.normal ?_
              clear hZ9' f0 f1 f2 f3 g0 g1 g2 g3 hb5 hb5' hr9 hr10 hSv9 hxs9 u0' u1' u2' u3' y0 y1 y2 y3 v0 v1 v2 v3 hf5 hf4 hR2 hO2 hK2
              go_wp2_with fail
              go_roundg (m - (i + 1))
              case measure => omega
              case rel => exact ⟨i + 1, _, by omega, by go_num, hide (by rw [List.length_set]; exact hrl2.out), hide (ov_step hji.out (by rw [hrl2.out]; exact b6) hco2.out), hR9.out, hO9.out, hK9.out⟩
end Go.Proofs.YtljocgdhdilglaaGreat
