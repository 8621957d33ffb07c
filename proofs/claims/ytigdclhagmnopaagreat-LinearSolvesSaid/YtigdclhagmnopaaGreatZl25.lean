/- The reference of linear: Great. Polynomials: lists of -/
import Derived.Deep.LoopGhost
import Derived.Test.YtigdclhagmnopaaGreatZl24
set_option linter.unusedSimpArgs false
set_option linter.unusedVariables false
namespace Go.Proofs.YtigdclhagmnopaaGreat
open Go.RowKit
attribute [local go_sem] Zi
def calmR (r : RX) : Prop := (r.n <= 5 \/ 12 < r.n) /\ ∀ e ∈ r.es, Zcy e.few = false
def calmM (rs : List RX) : Prop := (rs.length <= 5 \/ 12 < rs.length) /\ ∀ k r, k < 16 -> rs[k]? = some r -> calmR r
def PolyL (w : World) (A : Option Addr) (n c : Nat) (xs : List Int) : Prop := ∃ es, WL w A n c es /\ es.map WE.num = xs /\ ∀ e ∈ es, e.ok = true
theorem WE.wd {w : World} {e : WE} (h : Lim w e.A e.n e.c e.l) (hk : e.ok = true) : Wd w e.neg e.A e.n e.c e.num := Wd.of_ok h hk
def Zaf : List WE -> List Value
 | [] => []
 | e :: l => .bool e.neg :: .slice e.A e.n e.c :: Zaf l
def Zba (es : List WE) : Array Value := (Zaf es).toArray
theorem Zav (es : List WE) : (Zaf es).length = es.length * 2 := by
 induction es with
 | nil => rfl
 | cons e l ih => simp only [Zaf, List.length_cons, ih]; omega
theorem Zj9 {es : List WE} {i : Nat} {e : WE} (h : es[i]? = some e) : (Zaf es)[i * 2]? = some (.bool e.neg) /\ (Zaf es)[i * 2 + 1]? = some (.slice e.A e.n e.c) := by
 induction es generalizing i with
 | nil => simp at h
 | cons a l ih =>
  cases i with
  | zero => simp at h; subst h; exact ⟨rfl, rfl⟩
  | succ i =>
   have := ih (i := i) (by simpa using h)
   rw [show (i + 1) * 2 = i * 2 + 1 + 1 by omega]
   simpa [Zaf] using this
theorem Zpr {es : List WE} {i : Nat} (e : WE) (h : i < es.length) : ((Zaf es).set (i * 2) (.bool e.neg)).set (i * 2 + 1) (.slice e.A e.n e.c) = Zaf (es.set i e) := by
 induction es generalizing i with
 | nil => simp at h
 | cons a l ih =>
  cases i with
  | zero => rfl
  | succ i =>
   have := ih (i := i) (by simpa using h)
   rw [show (i + 1) * 2 = i * 2 + 1 + 1 by omega]
   simp only [Zaf, List.set_cons_succ, this]
theorem Zll (es : List WE) : ∀ (i x : Nat), (Zaf es)[i]? ≠ some (limb x) := by
 induction es with
 | nil => intro i x; simp [Zaf]
 | cons a l ih =>
  intro i x
  match i with
  | 0 => simp [Zaf]
  | 1 => simp [Zaf]
  | i + 2 => simpa [Zaf] using ih i x
theorem Zho {es : List WE} {i : Nat} {e : WE} (h : es[i]? = some e) : (Zba es)[i * 2]? = some (.bool e.neg) /\ (Zba es)[i * 2 + 1]? = some (.slice e.A e.n e.c) := by
 simpa [Zba] using Zj9 h
theorem Zpg {es : List WE} {i : Nat} (e : WE) (h : i < es.length) : ((Zba es).setIfInBounds (i * 2) (.bool e.neg)).setIfInBounds (i * 2 + 1) (.slice e.A e.n e.c) = Zba (es.set i e) := by
 unfold Zba; rw [<- Zpr e h]; simp
theorem Zcu (es : List WE) : NoLimb (Zba es) := fun i x => by simpa [Zba] using Zll es i x
theorem Zgj (es : List WE) (i : Nat) (b : Bool) : NoLimb ((Zba es).setIfInBounds i (.bool b)) := fun j x => by
 rw [Array.getElem?_setIfInBounds]
 split
 ·split <;> simp
 ·exact Zcu es j x
def POwn (t : TypeId) (w : World) (g : Nat) (xs : List Int) : Prop :=
 ∃ es : List WE, Blk w g t (Zba es) /\ (∀ e ∈ es, Lim w e.A e.n e.c e.l /\ e.ok = true) /\ es.map WE.num = xs
section
variable {t : TypeId} {w w' : World} {g : Nat} {xs : List Int}
theorem POwn.below (h : POwn t w g xs) (hb : Below w.heap.size w w') : POwn t w' g xs := by
 obtain ⟨es, h1, h2, h3⟩ := h
 exact ⟨es, Zc hb h1, fun e he => ⟨(h2 e he).1.below hb, (h2 e he).2⟩, h3⟩
theorem POwn.lt (h : POwn t w g xs) : g < w.heap.size := by obtain ⟨es, h1, _⟩ := h; exact h1.lt
theorem POwn.frozen (h : POwn t w g xs) (i : Nat) : w.frozen? ⟨g, i, none⟩ = false := by obtain ⟨es, h1, _⟩ := h; exact h1.frozen i
theorem POwn.at_ (h : POwn t w g xs) {i : Nat} (hi : i < xs.length) : ∃ neg A n c, w.cell? ⟨g, i * 2, none⟩ = some (.bool neg) /\ w.cell? ⟨g, i * 2 + 1, none⟩ = some (.slice A n c) /\ Wd w neg A n c (xs[i]?.getD 0) := by
 obtain ⟨es, h1, h2, rfl⟩ := h
 have hl : i < es.length := by simpa using hi
 have he := List.getElem?_eq_getElem hl
 have hc := Zho he
 have hm := h2 es[i] (List.getElem_mem hl)
 refine ⟨es[i].neg, es[i].A, es[i].n, es[i].c, by rw [h1.cell]; exact hc.1, by rw [h1.cell]; exact hc.2, ?_⟩
 rw [List.getElem?_map, he]
 exact WE.wd hm.1 hm.2
theorem POwn.set_ (h : POwn t w g xs) {i : Nat} (hi : i < xs.length) {neg : Bool} {A : Option Addr} {n c : Nat} {z : Int} (hz : Wd w neg A n c z) :
    POwn t ((w.setCell ⟨g, i * 2, none⟩ (.bool neg)).setCell ⟨g, i * 2 + 1, none⟩ (.slice A n c)) g (xs.set i z) := by
 obtain ⟨es, h1, h2, rfl⟩ := h
 have hl : i < es.length := by simpa using hi
 have hb1 : Blk (w.setCell ⟨g, i * 2, none⟩ (.bool neg)) g t ((Zba es).setIfInBounds (i * 2) (.bool neg)) := h1.set_ _ _
 have hb2 := hb1.set_ (i * 2 + 1) (.slice A n c)
 have hs := Zpg (es := es) (i := i) ⟨neg, A, n, c, digits z.natAbs⟩ hl
 dsimp only at hs
 rw [hs] at hb2
 have keep : ∀ (A' : Option Addr) (n' c' : Nat) (l : List Nat), Lim w A' n' c' l -> Lim ((w.setCell ⟨g, i * 2, none⟩ (.bool neg)).setCell ⟨g, i * 2 + 1, none⟩ (.slice A n c)) A' n' c' l := fun _ _ _ _ h => (h.set_box h1 (Zcu es) _ _).set_box hb1 (Zgj _ _ _) _ _
 refine ⟨_, hb2, fun e he => ?_, ?_⟩
 ·rcases List.mem_or_eq_of_mem_set he with he | rfl
  ·exact ⟨keep _ _ _ _ (h2 e he).1, (h2 e he).2⟩
  ·exact ⟨keep _ _ _ _ hz.2.2, hz.ok⟩
 ·rw [List.map_set]; congr 1; exact hz.sgEq
end
def Zb6 : WE := ⟨false, none, 0, 0, []⟩
theorem Zjd (n : Nat) : Zaf (List.replicate n Zb6) = (madeCells #[.bool false, .slice none 0 0] (n * 2)).toList := by
 apply List.ext_getElem?
 intro i
 have hm : (madeCells #[.bool false, .slice none 0 0] (n * 2)).toList[i]? = if i < n * 2 then some ((#[Value.bool false, Value.slice none 0 0])[i % 2]!) else none := by
  unfold madeCells
  by_cases h : i < n * 2
  ·simp [h]
  ·simp [h]
 rw [hm]
 by_cases h : i < n * 2
 ·rw [if_pos h]
  have he : (List.replicate n Zb6)[i / 2]? = some Zb6 := by rw [List.getElem?_replicate, if_pos (by omega)]
  have hc := Zj9 he
  rcases Nat.mod_two_eq_zero_or_one i with h2 | h2
  ·rw [show i / 2 * 2 = i by omega] at hc; rw [hc.1, h2]; rfl
  ·rw [show i / 2 * 2 + 1 = i by omega] at hc; rw [hc.2, h2]; rfl
 ·rw [if_neg h]
  exact List.getElem?_eq_none (by rw [Zav]; simp; omega)
theorem makeW {P : Program} (t e : TypeId) {i : TypeInfo} (ht : P.underlying t = some (.slice e)) (hi : P.info? e = some i) (hz : i.zero = some (.agg #[.bool false, .slice none 0 0])) (hs : i.size = 2) (hb : i.bytes = 32)
    (x : Int) (n : Nat) (hx : x = n) (hn : n <= 1000000000000) (W : World) :
    (Instr.makeSlice t (.int .i64 x) (.int .i64 x)).run P W = .ok (.slice (some ⟨W.heap.size, 0, none⟩) n n) (W.alloc (.cells (Zba (List.replicate n Zb6)) e)) := by
 subst hx
 have hr := run_make (P := P) W t e i _ ht hi hz .i64 .i64 n n (by omega) (by omega) (by rw [hb]; omega) (by omega)
 simp only [Int.toNat_natCast] at hr
 rw [hr]
 have : madeCells (Value.agg #[.bool false, .slice none 0 0]).cells (n * i.size) = Zba (List.replicate n Zb6) := by
  rw [hs]
  apply Array.toList_inj.1
  unfold Zba
  rw [Zjd]
  rfl
 rw [this]
theorem POwn.new (t : TypeId) (w : World) (n : Nat) : POwn t (w.alloc (.cells (Zba (List.replicate n Zb6)) t)) w.heap.size (List.replicate n 0) :=
 ⟨List.replicate n Zb6, Blk.new _ _ _, fun e he => by rw [(List.mem_replicate.1 he).2]; exact ⟨Lim.nil _ _ _ (Nat.zero_le _), rfl⟩, by simp [Zb6, WE.num, sg, val]⟩
theorem Zb8 (es fs : List WE) : Zaf (es ++ fs) = Zaf es ++ Zaf fs := by
 induction es with
 | nil => rfl
 | cons e l ih => simp only [List.cons_append, Zaf, ih]
theorem Zp8 (fs : List WE) : ∀ u ∈ Zaf fs, u.oneCell' = true := by
 induction fs with
 | nil => intro u h; simp [Zaf] at h
 | cons e l ih =>
  intro u h
  simp only [Zaf, List.mem_cons] at h
  rcases h with rfl | rfl | h
  ·rfl
  ·rfl
  ·exact ih u h
theorem Zha (k : Nat) : (Builtin.zeroCells #[.bool false, .slice none 0 0] k).toList = Zaf (List.replicate k Zb6) := by
 rw [Zjd]
 unfold Builtin.zeroCells madeCells
 apply List.ext_getElem?
 intro i
 by_cases h : i < k * 2
 ·simp [h]
 ·simp [h]
def RowW (t : TypeId) (w : World) (base : Nat) (v : Value) (es : List WE) : Prop :=
 (v = .slice none 0 0 /\ es = []) \/ ∃ g sp, v = .slice (some ⟨g, 0, none⟩) es.length (es.length + sp) /\ base <= g /\ es.length + sp <= maxLen /\ Blk w g t (Zba (es ++ List.replicate sp Zb6))
section
variable {t : TypeId} {w w' : World} {base : Nat} {v : Value} {es : List WE}
theorem RowW.own (h : RowW t w base v es) : w.ownsRow base t 2 v es.length (Zaf es) := by
 refine ⟨Zav es, ?_⟩
 rcases h with ⟨h1, rfl⟩ | ⟨g, sp, h1, h2, h3, h4⟩
 ·exact .inl ⟨h1, rfl⟩
 ·refine .inr ⟨g, _, _, h1, h2, h4, Nat.le_add_right _ _, h3, ?_, ?_⟩
  ·simp [Zba, Zav]
  ·simp only [Zba]
   rw [Zb8, <- Zav es]
   exact List.take_left
theorem RowW.row_ge (h : RowW t w base v es) : ∀ k, v.ownBlock = some k -> base <= k := fun k hk => (h.own.lt k hk).1
theorem RowW.kept (h : RowW t w base v es) (hb : Below w.heap.size w w') : RowW t w' base v es := by
 rcases h with h | ⟨g, sp, h1, h2, h3, h4⟩
 ·exact .inl h
 ·exact .inr ⟨g, sp, h1, h2, h3, Zc hb h4⟩
theorem RowW.keep (h : RowW t w base v es) (hg : w.grownBy w' v.ownBlock) {A : Option Addr} {n c : Nat} {l : List Nat} (hL : Lim w A n c l) : Lim w' A n c l := by
 refine ⟨hL.1, hL.2.1, hL.2.2.1, hL.2.2.2.1, fun hn => ?_⟩
 obtain ⟨b, o, e, hc⟩ := hL.2.2.2.2 hn
 refine ⟨b, o, e, fun k hk => ?_⟩
 rw [<- hc k hk]
 refine World.cell?_of_block (hg.block b (Zr (hc k hk)) (fun e' => ?_))
 rcases h with ⟨rfl, _⟩ | ⟨g, sp, rfl, _, _, h4⟩
 ·cases e'
 ·have hbg : b = g := by simpa [Value.ownBlock] using e'
  subst hbg
  have h1 := hc k hk
  rw [h4.cell] at h1
  exact Zcu _ _ _ h1
end
section
variable {P : Program} (w : World)
end
def OwnP (t : TypeId) (w : World) (base : Nat) (v : Value) (xs : List Int) : Prop := ∃ es, RowW t w base v es /\ (∀ e ∈ es, Lim w e.A e.n e.c e.l /\ e.ok = true) /\ es.map WE.num = xs
section
variable {t : TypeId} {w w' : World} {base : Nat} {v : Value} {xs : List Int}
theorem OwnP.nil (t : TypeId) (w : World) (base : Nat) : OwnP t w base (.slice none 0 0) [] := ⟨[], .inl ⟨rfl, rfl⟩, fun e h => by simp at h, rfl⟩
theorem OwnP.kept (h : OwnP t w base v xs) (hb : Below w.heap.size w w') : OwnP t w' base v xs := by
 obtain ⟨es, h1, h2, h3⟩ := h
 exact ⟨es, h1.kept hb, fun e he => ⟨(h2 e he).1.below hb, (h2 e he).2⟩, h3⟩
theorem OwnP.row_ge (h : OwnP t w base v xs) : ∀ k, v.ownBlock = some k -> base <= k := by obtain ⟨es, h1, _⟩ := h; exact h1.row_ge
theorem OwnP.poly (h : OwnP t w base v xs) : ∃ A c, v = .slice A xs.length c /\ PolyL w A xs.length c xs := by
 obtain ⟨es, h1, h2, rfl⟩ := h
 rcases h1 with ⟨rfl, rfl⟩ | ⟨g, sp, rfl, h4, h5, h6⟩
 ·exact ⟨none, 0, rfl, [], ⟨rfl, Nat.le_refl _, Nat.zero_le _, fun h => absurd h (by simp), fun e h => by simp at h⟩, rfl, fun e h => by simp at h⟩
 ·rw [List.length_map]
  refine ⟨_, es.length + sp, rfl, es, ⟨rfl, Nat.le_add_right _ _, h5, fun _ => ⟨g, 0, rfl, fun k e he => ?_⟩, fun e he => (h2 e he).1⟩, rfl, fun e he => (h2 e he).2⟩
  have hk : k < es.length := (List.getElem?_eq_some_iff.1 he).1
  have hc := Zho (es := es ++ List.replicate sp Zb6) (i := k) (e := e) (by rw [List.getElem?_append_left hk]; exact he)
  rw [Nat.zero_add, h6.cell, h6.cell]
  exact hc
theorem Zbl (b : Bool) (A : Option Addr) (n c : Nat) : NoLimb #[.bool b, .slice A n c] := fun i x => by
 match i with
 | 0 => simp
 | 1 => simp
 | i + 2 => simp
theorem Wd.of_keep {neg : Bool} {A : Option Addr} {n c : Nat} {z : Int} (hk : ∀ (A : Option Addr) (n c : Nat) (l : List Nat), Lim w A n c l -> Lim w' A n c l) (h : Wd w neg A n c z) : Wd w' neg A n c z := ⟨h.1, h.2.1, hk _ _ _ _ h.2.2⟩
end
theorem OwnP.snoc {t : TypeId} {w : World} {base : Nat} {v : Value} {xs : List Int} {neg : Bool} {A : Option Addr} {n c : Nat} {z : Int} {W : World} (h : OwnP t w base v (xs ++ [⟨neg, A, n, c, digits z.natAbs⟩].map WE.num)) (hW : Wd W neg A n c z) : OwnP t w base v (xs ++ [z]) := by
 rw [List.map_cons, List.map_nil, show WE.num ⟨neg, A, n, c, digits z.natAbs⟩ = z from hW.sgEq] at h
 exact h
section
variable {P : Program} (w : World)
end
structure RS where
 A : Option Addr
 n : Nat
 c : Nat
def RS.val (r : RS) : Value := .slice r.A r.n r.c
def Zaj : List RS -> List Value
 | [] => []
 | e :: l => .slice e.A e.n e.c :: Zaj l
def Z1 (es : List RS) : Array Value := (Zaj es).toArray
def Zau : RS := ⟨none, 0, 0⟩
theorem Za1 (es : List RS) : (Zaj es).length = es.length * 1 := by
 induction es with
 | nil => rfl
 | cons e l ih => simp only [Zaj, List.length_cons, ih]; omega
theorem Zbv (es : List RS) : Zaj es = es.map RS.val := by
 induction es with
 | nil => rfl
 | cons e l ih => simp only [Zaj, List.map_cons, ih]; rfl
theorem Zpp {es : List RS} {i : Nat} {e : RS} (h : es[i]? = some e) : (Zaj es)[i]? = some (.slice e.A e.n e.c) := by
 rw [Zbv, List.getElem?_map, h]; rfl
theorem Zb2 {es : List RS} {i : Nat} {e : RS} (h : es[i]? = some e) : (Z1 es)[i]? = some (.slice e.A e.n e.c) := by simpa [Z1] using Zpp h
theorem Zld (es : List RS) : ∀ (i x : Nat), (Zaj es)[i]? ≠ some (limb x) := by
 intro i x
 rw [Zbv, List.getElem?_map]
 cases es[i]? with
 | none => simp
 | some e => simp [RS.val]
theorem Zap (es : List RS) : NoLimb (Z1 es) := fun i x => by simpa [Z1] using Zld es i x
theorem Zca (es fs : List RS) : Zaj (es ++ fs) = Zaj es ++ Zaj fs := by simp only [Zbv, List.map_append]
theorem Zps (fs : List RS) : ∀ u ∈ Zaj fs, u.oneCell' = true := by
 intro u h
 rw [Zbv] at h
 obtain ⟨r, -, rfl⟩ := List.mem_map.1 h
 rfl
theorem Zcp {es : List RS} {i : Nat} (e : RS) : (Z1 es).setIfInBounds i (.slice e.A e.n e.c) = Z1 (es.set i e) := by
 unfold Z1
 rw [Zbv, Zbv, List.map_set]
 simp [RS.val]
theorem Zg7 (k : Nat) : (Builtin.zeroCells #[.slice none 0 0] k).toList = Zaj (List.replicate k Zau) := by
 rw [Zbv]
 unfold Builtin.zeroCells
 apply List.ext_getElem?
 intro i
 by_cases h : i < k
 ·simp [h, Zau, RS.val, List.getElem?_replicate, Nat.mod_one]
 ·simp [h, List.getElem?_replicate]
def RowS (t : TypeId) (w : World) (base : Nat) (v : Value) (es : List RS) : Prop :=
 (v = .slice none 0 0 /\ es = []) \/ ∃ g sp, v = .slice (some ⟨g, 0, none⟩) es.length (es.length + sp) /\ base <= g /\ es.length + sp <= maxLen /\ Blk w g t (Z1 (es ++ List.replicate sp Zau))
section
variable {t : TypeId} {w w' : World} {base : Nat} {v : Value} {es : List RS}
theorem RowS.own (h : RowS t w base v es) : w.ownsRow base t 1 v es.length (Zaj es) := by
 refine ⟨Za1 es, ?_⟩
 rcases h with ⟨h1, rfl⟩ | ⟨g, sp, h1, h2, h3, h4⟩
 ·exact .inl ⟨h1, rfl⟩
 ·refine .inr ⟨g, _, _, h1, h2, h4, Nat.le_add_right _ _, h3, ?_, ?_⟩
  ·simp [Z1, Za1]
  ·simp only [Z1]
   rw [Zca, <- Za1 es]
   exact List.take_left
theorem RowS.row_ge (h : RowS t w base v es) : ∀ k, v.ownBlock = some k -> base <= k := fun k hk => (h.own.lt k hk).1
theorem RowS.kept (h : RowS t w base v es) (hb : Below w.heap.size w w') : RowS t w' base v es := by
 rcases h with h | ⟨g, sp, h1, h2, h3, h4⟩
 ·exact .inl h
 ·exact .inr ⟨g, sp, h1, h2, h3, Zc hb h4⟩
theorem RowS.keep (h : RowS t w base v es) (hg : w.grownBy w' v.ownBlock) {A : Option Addr} {n c : Nat} {l : List Nat} (hL : Lim w A n c l) : Lim w' A n c l := by
 refine ⟨hL.1, hL.2.1, hL.2.2.1, hL.2.2.2.1, fun hn => ?_⟩
 obtain ⟨b, o, e, hc⟩ := hL.2.2.2.2 hn
 refine ⟨b, o, e, fun k hk => ?_⟩
 rw [<- hc k hk]
 refine World.cell?_of_block (hg.block b (Zr (hc k hk)) (fun e' => ?_))
 rcases h with ⟨rfl, _⟩ | ⟨g, sp, rfl, _, _, h4⟩
 ·cases e'
 ·have hbg : b = g := by simpa [Value.ownBlock] using e'
  subst hbg
  have h1 := hc k hk
  rw [h4.cell] at h1
  exact Zap _ _ _ h1
end
section
variable {P : Program} (w : World)
theorem Zju (base : Nat) (t ty e : TypeId) (i : TypeInfo) (ht : P.underlying t = some (.slice e)) (hi : P.info? e = some i) (hz : i.zero = some (.slice none 0 0))
    (hs : i.size = 1) (hby : i.bytes = 24) (v : Value) (es : List RS) (hown : RowS e w base v es)
    (B : Nat) (A : Option Addr) (m c : Nat) (fs : List RS) (hr : Reads w B 1 A m (Zaj fs)) (hm : fs.length = m) (h63 : es.length + m <= 1000) (hbase : base <= w.heap.size) :
    ∃ v' w', (Builtin.append_ #[t, t] ty #[v, .slice A m c]).run P w = .ok v' w' /\ RowS e w' base v' (es ++ fs) /\ w.grownBy w' v.ownBlock := by
 rcases Nat.eq_zero_or_pos m with h0 | h0
 ·subst h0
  obtain rfl : fs = [] := List.eq_nil_of_length_eq_zero hm
  rw [List.append_nil]
  rcases A with _ | ad
  ·exact ⟨v, w, Zbr w base t ty e i 1 ht hi v _ _ hown.own c, hown, World.grownBy.refl w _⟩
  ·have hf := run_firstCells_some (P := P) w i.size 0 ad 0 c [] (by simp) (by simp)
   rcases hown with ⟨rfl, rfl⟩ | ⟨g, sp, rfl, h2, h3, h4⟩
   ·refine ⟨.slice none 0 0, w, ?_, .inl ⟨rfl, rfl⟩, World.grownBy.refl w _⟩
    simp [Builtin.append_, run_underlying ht, sizeOf, typeInfo, hi, Builtin.lenOf, Builtin.firstCells, loadCells, loadCellsFrom]
   ·refine ⟨_, w, ?_, .inr ⟨g, sp, rfl, h2, h3, h4⟩, World.grownBy.refl w _⟩
    simp [Builtin.append_, run_underlying ht, sizeOf, typeInfo, hi, Builtin.lenOf, Builtin.firstCells, loadCells, loadCellsFrom, storeCells]
 ·obtain ⟨ad, rfl, _, hc⟩ := hr.2 h0
  have hl : (Zaj fs).length = m * i.size := by rw [Za1, hm, hs]
  have hle : es.length * i.size = (Zaj es).length := by rw [Za1, hs]
  rcases hown with ⟨rfl, rfl⟩ | ⟨g, sp, rfl, h2, h3, h4⟩
  ·have hrun := run_append_nil (P := P) w t ty e i _ ht hi hz ad m c (Zaj fs) hl hc h0 (by omega) (by rw [hby]; omega)
   have hge := grownCap_ge w m 0 e
   have hcm := grownCap_le_maxLen w m 0 e (by unfold maxLen; simp only [List.length_nil] at h63; omega)
   refine ⟨_, _, hrun, .inr ⟨w.heap.size, grownCap w m 0 e - m, ?_, hbase, ?_, ?_⟩, ⟨rfl, rfl, rfl, by simp, fun k hk _ => Below.heap_alloc w.drew _ k hk⟩⟩
   ·rw [List.nil_append, hm, Nat.add_sub_cancel' hge]
   ·rw [List.nil_append, hm, Nat.add_sub_cancel' hge]; exact hcm
   ·have := heap_alloc_new w.drew (.cells ((Zaj fs).toArray ++ Builtin.zeroCells (Value.slice none 0 0).cells (grownCap w m 0 e - m)) e)
    unfold Blk
    refine this.trans ?_
    congr 1
    have hx : (Zaj fs).toArray ++ Builtin.zeroCells (Value.slice none 0 0).cells (grownCap w m 0 e - m) = Z1 ([] ++ fs ++ List.replicate (grownCap w m 0 e - m) Zau) := by
     apply Array.toList_inj.1
     rw [Array.toList_append, show (Value.slice none 0 0).cells = #[.slice none 0 0] from rfl, Zg7]
     simp [Z1, Zca]
    rw [hx]
  ·by_cases hroom : m <= sp
   ·have hrun := run_append_room (P := P) w t ty e i ht hi g es.length (es.length + sp) _ h4 ad m c (Zaj fs) hl hc (Zps fs) (by omega) (by rw [hle, Za1, Za1]; simp [Z1, Za1]; omega)
    refine ⟨_, _, hrun, .inr ⟨g, sp - m, ?_, h2, ?_, ?_⟩, ⟨rfl, rfl, rfl, by simp [World.setRow], fun k _ hk => setRow_other w g k _ (fun e' => hk (by simp [Value.ownBlock, e']))⟩⟩
    ·rw [List.length_append, hm, show es.length + m + (sp - m) = es.length + sp by omega]
    ·rw [List.length_append, hm]; omega
    ·refine (setRow_heap w g _ _ e _ h4).trans ?_
     congr 2
     unfold Z1
     congr 1
     rw [hle]
     have hrep : List.replicate sp Zau = List.replicate m Zau ++ List.replicate (sp - m) Zau := by rw [List.replicate_append_replicate]; congr 1; omega
     have hlm : (Zaj fs).length = (Zaj (List.replicate m Zau)).length := by rw [Za1, Za1, hm, List.length_replicate]
     simp only [Zca]
     rw [List.take_left, hlm, <- List.length_append, hrep, Zca, <- List.append_assoc (Zaj es), List.drop_left, List.append_assoc]
   ·have holds : ∀ j u, (Zaj es)[j]? = some u -> w.cell? ((⟨g, 0, none⟩ : Addr).add j) = some u := fun j u hu => by
      rw [Zi, Nat.zero_add, h4.cell]
      simp only [Z1, List.getElem?_toArray, Zca]
      rw [List.getElem?_append_left (by rw [List.getElem?_eq_some_iff] at hu; exact hu.1)]; exact hu
    have hrun := run_append_grow (P := P) w t ty e i _ ht hi hz ⟨g, 0, none⟩ es.length (es.length + sp) (Zaj es) hle.symm holds ad m c (Zaj fs) hl hc (by omega) (by omega) (growslice_fits (by omega) (by rw [hby]; omega))
    have hge := grownCap_ge w (es.length + m) (es.length + sp) e
    have hcm := grownCap_le_maxLen w (es.length + m) (es.length + sp) e (by unfold maxLen; omega)
    refine ⟨_, _, hrun, .inr ⟨w.heap.size, grownCap w (es.length + m) (es.length + sp) e - (es.length + m), ?_, hbase, ?_, ?_⟩, ⟨rfl, rfl, rfl, by simp, fun k hk _ => Below.heap_alloc w.drew _ k hk⟩⟩
    ·rw [List.length_append, hm, Nat.add_sub_cancel' hge]
    ·rw [List.length_append, hm, Nat.add_sub_cancel' hge]; exact hcm
    ·have := heap_alloc_new w.drew (.cells ((Zaj es).toArray ++ (Zaj fs).toArray ++ Builtin.zeroCells (Value.slice none 0 0).cells (grownCap w (es.length + m) (es.length + sp) e - (es.length + m))) e)
     unfold Blk
     refine this.trans ?_
     congr 1
     have hx : (Zaj es).toArray ++ (Zaj fs).toArray ++ Builtin.zeroCells (Value.slice none 0 0).cells (grownCap w (es.length + m) (es.length + sp) e - (es.length + m)) = Z1 (es ++ fs ++ List.replicate (grownCap w (es.length + m) (es.length + sp) e - (es.length + m)) Zau) := by
      apply Array.toList_inj.1
      rw [Array.toList_append, Array.toList_append, show (Value.slice none 0 0).cells = #[.slice none 0 0] from rfl, Zg7]
      simp [Z1, Zca]
     rw [hx]
end
structure Kept (G : Nat -> Prop) (w w' : World) : Prop where
 os : w'.os = w.os
 tape : w'.tape = w.tape
 output : w'.output = w.output
 size : w.heap.size <= w'.heap.size
 block : ∀ k, k < w.heap.size -> ¬ G k -> w'.heap[k]? = w.heap[k]?
section
variable {G : Nat -> Prop} {w w' w'' : World}
theorem Kept.refl (G : Nat -> Prop) (w : World) : Kept G w w := ⟨rfl, rfl, rfl, Nat.le_refl _, fun _ _ _ => rfl⟩
theorem Kept.trans (h : Kept G w w') (k : Kept G w' w'') : Kept G w w'' :=
 ⟨k.os.trans h.os, k.tape.trans h.tape, k.output.trans h.output, Nat.le_trans h.size k.size, fun i hi hg => (k.block i (Nat.lt_of_lt_of_le hi h.size) hg).trans (h.block i hi hg)⟩
theorem Kept.of_below (h : Below w.heap.size w w') : Kept G w w' := ⟨h.os, h.tape, h.output, h.size, fun k hk _ => h.block k hk⟩
theorem Kept.below (h : Kept G w w') (k : Below w'.heap.size w' w'') : Kept G w w'' := h.trans (Kept.of_below k)
theorem Kept.drewN (h : Kept G w w') (n : Nat) : Kept G w (w'.drewN n) := ⟨h.os, h.tape, h.output, h.size, h.block⟩
theorem Kept.set_ (h : Kept G w w') {p : Addr} (hp : G p.block \/ w.heap.size <= p.block) (u : Value) : Kept G w (w'.setCell p u) :=
 ⟨h.os, h.tape, h.output, by simp [World.setCell]; exact h.size, fun k hk hg => (Below.heap_setCell w' p u k (by rcases hp with hp | hp; exact fun e => hg (e ▸ hp); omega)).trans (h.block k hk hg)⟩
theorem Kept.blk (h : Kept G w w') {g : Nat} {t : TypeId} {cs : Array Value} (hb : Blk w g t cs) (hg : ¬ G g) : Blk w' g t cs := (h.block g hb.lt hg).trans hb
theorem Kept.to_below {B : Nat} (h : Kept G w w') (hG : ∀ k, G k -> B <= k) (hB : B <= w.heap.size) : Below B w w' :=
 ⟨h.os, h.tape, h.output, h.size, fun k hk => h.block k (Nat.lt_of_lt_of_le hk hB) (fun hg => by have := hG k hg; omega)⟩
theorem Kept.mono {G' : Nat -> Prop} (h : Kept G w w') (hG : ∀ k, k < w.heap.size -> G k -> G' k) : Kept G' w w' := ⟨h.os, h.tape, h.output, h.size, fun k hk hg => h.block k hk (fun h => hg (hG k hk h))⟩
theorem Kept.lim (h : Kept G w w') {A : Option Addr} {n c : Nat} {l : List Nat} (hl : Lim w A n c l) (hG : ∀ k, G k -> ∃ t cs, Blk w k t cs /\ NoLimb cs) : Lim w' A n c l :=
 ⟨hl.1, hl.2.1, hl.2.2.1, hl.2.2.2.1, fun hn => by
  obtain ⟨b, o, e, hc⟩ := hl.2.2.2.2 hn
  refine ⟨b, o, e, fun k hk => ?_⟩
  have h0 := hc k hk
  refine (World.cell?_of_block (w := w) (h.block b (Zr h0) (fun hg => ?_))).trans h0
  obtain ⟨t, cs, h1, h2⟩ := hG b hg
  have h3 := h0
  rw [h1.cell] at h3
  exact h2 _ _ h3⟩
theorem Kept.wd (h : Kept G w w') {neg : Bool} {A : Option Addr} {n c : Nat} {z : Int} (hl : Wd w neg A n c z) (hG : ∀ k, G k -> ∃ t cs, Blk w k t cs /\ NoLimb cs) : Wd w' neg A n c z := ⟨hl.1, hl.2.1, h.lim hl.2.2 hG⟩
end
section
variable {t : TypeId} {w : World} {g : Nat} {xs zs : List Int}
theorem POwn.box (h : POwn t w g xs) : ∃ t cs, Blk w g t cs /\ NoLimb cs := by
 obtain ⟨es, h1, -, -⟩ := h
 exact ⟨t, _, h1, Zcu es⟩
theorem POwn.other {t' : TypeId} {g' : Nat} {ys : List Int} (h : POwn t w g xs) (h' : POwn t' w g' ys) (hne : g ≠ g') (i : Nat) (b : Bool) (A : Option Addr) (n c : Nat) :
    POwn t ((w.setCell ⟨g', i * 2, none⟩ (.bool b)).setCell ⟨g', i * 2 + 1, none⟩ (.slice A n c)) g xs := by
 obtain ⟨es, h1, h2, h3⟩ := h
 obtain ⟨fs, k1, -, -⟩ := h'
 refine ⟨es, (h1.far hne _).far hne _, fun e he => ⟨?_, (h2 e he).2⟩, h3⟩
 exact ((h2 e he).1.set_box k1 (Zcu fs) _ _).set_box (k1.set_ (i * 2) (.bool b)) (Zgj _ _ _) _ _
end
end Go.Proofs.YtigdclhagmnopaaGreat
