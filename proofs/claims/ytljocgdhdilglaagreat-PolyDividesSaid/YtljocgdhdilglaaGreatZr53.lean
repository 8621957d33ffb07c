/- Arguments opened: a slice of numbers, as the reading finds it, is a list of numbers in memory. Arguments opened: a fraction. -/
import Derived.ProofKit
import Derived.Deep.Slices
import Derived.Deep.Fields
import Derived.ChangeSame
import Derived.Test.YtljocgdhdilglaaGreatProg
import Derived.Test.YtljocgdhdilglaaGreatZr01
set_option linter.unusedSimpArgs false
set_option linter.unusedVariables false

namespace Go.Proofs.YtljocgdhdilglaaGreat
open Go.ChangeShapes Go.WideShapes Go.Deep Go.RowKit

section
variable {H : Type} {enc : TypeId × Value → H} {P : Program} {w : World} {base : Nat} {spare : Nat → Bool} {held : Bool}
theorem open_slice_fields {t e : TypeId} {fs : Array Field} {fuel : Nat} {cs : List Value} {x : DataW H × List MemPlace} (ht : P.underlying t = some (.slice e)) (he : P.underlying e = some (.struct fs))
    (hone : oneCellFields P fs = true) (hC : P.cellsOf e = fs.size) (h : DataW.trod enc P w base spare held fuel t cs = some x) :
    (cs = [.slice none 0 0] ∧ x = (.nil, [])) ∨
    ∃ (a : Addr) (len cap m : Nat) (D : Nat → DataW H) (Pl : Nat → List MemPlace), cs = [.slice (some a) len cap] ∧ base ≤ a.block ∧ len ≤ cap ∧ cap ≤ maxLen ∧ m = (if spare a.block then cap else len) ∧
      x = (.slice ((List.range len).map D) ((List.range (m - len)).map fun j => D (len + j)), MemPlace.row a (m * fs.size) ++ (List.range m).flatMap Pl) ∧
      ∀ i, i < m → ∃ (ys : List (DataW H × List MemPlace)) (n : Nat), D i = .agg (ys.map (·.1)) ∧ Pl i = ys.flatMap (·.2) ∧ ys.length = fs.size ∧
        ∀ (j : Nat) (f : Field), fs[j]? = some f → ∃ (v : Value) (y : DataW H × List MemPlace), w.cell? (a.add (i * fs.size + j)) = some v ∧ ys[j]? = some y ∧ DataW.trod enc P w base spare held n f.type [v] = some y := by
  rcases open_slice ht h with h0 | ⟨a, len, cap, m, n, D, Pl, hcs, hb, hl, hm, hmm, hx, hi⟩
  · exact .inl h0
  · refine .inr ⟨a, len, cap, m, D, Pl, hcs, hb, hl, hm, hmm, by rw [hC] at hx; exact hx, fun i him => ?_⟩
    obtain ⟨cs', hc, ht'⟩ := hi i him
    rw [hC] at hc
    obtain ⟨ys, n', hn', hy, hlen, hyl, hf⟩ := DataW.trod_struct he ht'
    obtain ⟨_, hcl, hat⟩ := World.cells?_some hc
    simp only [Prod.mk.injEq] at hy
    refine ⟨ys, n', hy.1, hy.2, hyl, fun j f hj => ?_⟩
    obtain ⟨ho, hk⟩ := hone_of hone j f hj
    have hjl : j < fs.size := (Array.getElem?_eq_some_iff.1 hj).1
    have hcell := hat j hjl
    have hv : cs'[j]? = some (cs'[j]'(by omega)) := List.getElem?_eq_getElem (by omega)
    have h1 := hf j f hj
    rw [ho, hk] at h1
    have hone' : (cs'.drop j).take 1 = [cs'[j]'(by omega)] := by
      rw [List.drop_eq_getElem_cons (by omega)]
      rfl
    rw [hone'] at h1
    have hys : ys[j]? = some (ys[j]'(by omega)) := List.getElem?_eq_getElem (by omega)
    refine ⟨_, _, ?_, hys, h1.trans hys⟩
    rw [← Go.Deep.add_add, hcell, hv]
end

section
variable {H : Type} {enc : TypeId × Value → H} {P : Program}
theorem post_of_below {f : Func} {s : ChangeSpec} {apart fresh handsOn again : Bool} {W W' : World} {args : Array Value} {v : Value} {ds gs : List (DataW H)} {before pa pv : List MemPlace}
    (hW : DataW.Whole enc P f.params.toList s.vars apart W args.toList ds gs before)
    (hres : ∀ (b : Nat) (sp : Nat → Bool) (hd : Bool), DataW.TrodAll enc P W' b sp hd f.resultTypes.toList (v.resultList f.resultTypes.size) (s.fn H (ds ++ gs)).results [])
    (hargs : ∀ sp : Nat → Bool, (∀ p ∈ before, sp p.block = true) → DataW.TrodAll enc P W' 0 sp true f.params.toList args.toList (s.fn H (ds ++ gs)).args pa)
    (hvars : ∀ sp : Nat → Bool, (∀ p ∈ before, sp p.block = true) → DataW.TrodVars enc P W' sp s.vars (s.fn H (ds ++ gs)).vars pv)
    (hps : before = pa ++ pv) (hb : Below W.heap.size W W')
    (hok : ∀ (j : Nat) (t : TypeId) (r : Value), f.resultTypes[j]? = some t → (v.resultList f.resultTypes.size)[j]? = some r → Value.okWide P W' .any 0 t r) :
    s.post enc P f apart fresh handsOn again W args v W' := by
  have hlt : ∀ p ∈ before, p.block < W.heap.size := fun p hp => hW.lt p hp
  have hold : ∀ p ∈ before, (fun b => decide (b < W.heap.size)) p.block = true := fun p hp => by simpa using hlt p hp
  refine ⟨ds, gs, before, [], pa, pv, hW, hres _ _ _, hargs _ hold, hvars _ hold, World.keptBut_mono (fun p hp => ⟨hp, ?_⟩) (hb.frame (· ∈ before)), fun _ => ?_⟩
  · rw [hps, List.mem_append] at hp
    exact Or.inr hp
  · obtain ⟨_, _, _, _, _, hz, hn⟩ := hW
    refine ⟨hok, _, _, ([] ++ pa) ++ pv, ⟨[] ++ pa, pv, trodAll_append (hargs _ (fun _ _ => rfl)) (hres _ _ _), hvars _ (fun _ _ => rfl), rfl, ?_, ?_⟩, ?_⟩
    · intro b off hp
      have hin : MemPlace.cell b off ∈ before := by rw [hps]; simpa using hp
      rw [hb.frozen (hlt _ hin)]
      exact hz b off hin
    · intro ha
      have := hn ha
      rw [hps] at this
      simpa using this
    · intro p hp _
      rw [hps]
      simpa using hp
end

theorem list_of {α : Type} (P : Nat → α → Prop) (n : Nat) (h : ∀ i, i < n → ∃ e, P i e) : ∃ es : List α, es.length = n ∧ ∀ (k : Nat) (e : α), es[k]? = some e → P k e := by
  induction n with
  | zero => exact ⟨[], rfl, fun k e h => by simp at h⟩
  | succ n ih =>
    obtain ⟨es, h1, h2⟩ := ih fun i hi => h i (by omega)
    obtain ⟨e, he⟩ := h n (by omega)
    refine ⟨es ++ [e], by simp [h1], fun k e' hk => ?_⟩
    rcases Nat.lt_or_ge k es.length with hlt | hge
    · rw [List.getElem?_append_left hlt] at hk; exact h2 k e' hk
    · rw [List.getElem?_append_right hge] at hk
      rcases Nat.eq_or_lt_of_le hge with h0 | h0
      · rw [show k - es.length = 0 by omega] at hk
        simp at hk
        subst hk
        rw [← h0, h1]; exact he
      · rw [List.getElem?_eq_none (by simp; omega)] at hk
        cases hk

theorem wf_u32 {z : Int} (h : (Lit.int .u32 z).wf = true) : 0 ≤ z ∧ z ≤ 4294967295 := by
  simp only [Lit.wf, Bool.and_eq_true, decide_eq_true_eq] at h
  exact h

theorem plain_cell {w : World} {a : Addr} {v : Value} (h : w.cell? a = some v) : a = ⟨a.block, a.off, none⟩ := by
  obtain ⟨b, o, s⟩ := a
  cases s with
  | none => rfl
  | some s =>
    exfalso
    unfold World.cell? at h
    simp at h
    split at h <;> simp at h

section
variable {H : Type} {enc : TypeId × Value → H} {w : World} {base : Nat} {spare : Nat → Bool} {held : Bool}

theorem open_mag {fuel : Nat} {cs : List Value} {x : DataW H × List MemPlace} (h : DataW.trod enc Tryz.prog w base spare held fuel 23 cs = some x) : ∃ (A : Option Addr) (n c : Nat) (l : List Nat), cs = [.slice A n c] ∧ Lim w A n c l := by
  rcases open_ints Tryz.underlying23 Tryz.underlying52 (by kernel_rfl) h with ⟨rfl, _⟩ | ⟨a, len, cap, zs, rfl, _, hl, hm, hz, _, hcell, hwf⟩
  · exact ⟨none, 0, 0, [], rfl, Lim.nil _ _ _ (Nat.zero_le _)⟩
  · have hlz : len ≤ zs.length := by rw [hz]; split <;> omega
    refine ⟨some a, len, cap, (zs.take len).map Int.toNat, rfl, by simp; omega, hl, hm, fun v hv => ?_, fun hn => ?_⟩
    · obtain ⟨z, hz1, rfl⟩ := List.mem_map.1 hv
      have := wf_u32 (hwf z (List.mem_of_mem_take hz1))
      omega
    · have h0 := hcell 0 (by omega)
      have hp := plain_cell h0
      obtain ⟨b, o, s⟩ : ∃ b o, a = ⟨b, o, none⟩ := by
        obtain ⟨b, o, s⟩ := a
        refine ⟨b, o, ?_⟩
        unfold Addr.add at hp
        split at hp <;> simp_all
      subst s
      refine ⟨b, o, rfl, fun k hk => ?_⟩
      have hc := hcell k (by omega)
      rw [add_lit] at hc
      rw [hc]
      have hkz : k < zs.length := by omega
      have hw := wf_u32 (hwf zs[k] (List.getElem_mem hkz))
      rw [List.getElem?_map, List.getElem?_take, if_pos hk, List.getElem?_eq_getElem hkz, List.getD_eq_getElem?_getD, List.getElem?_eq_getElem hkz]
      simp [limb]
      omega

set_option maxRecDepth 100000 in
/-- An argument that is a slice of numbers. -/
theorem open_wides {r : Reach} {b0 : Nat} {v : Value} {d : DataW H} {p : List MemPlace} (hv : Value.okWide Tryz.prog w r b0 22 v) (h : DataW.Trod enc Tryz.prog w base spare held 22 v d p) :
    ∃ (A : Option Addr) (n c : Nat) (es : List WE), v = .slice A n c ∧ WL w A n c es := by
  obtain ⟨A, n, c, rfl⟩ := okWide_slice Tryz.underlying22 hv
  obtain ⟨fuel, hf⟩ := h
  rcases open_slice_fields Tryz.underlying22 Tryz.underlying25 (by kernel_rfl) (by kernel_rfl) hf with ⟨hcs, _⟩ | ⟨a, len, cap, m, D, Pl, hcs, _, hl, hm, hmm, _, hi⟩
  · simp [Value.cells] at hcs
    obtain ⟨rfl, rfl, rfl⟩ := hcs
    exact ⟨none, 0, 0, [], rfl, WL.nil _ _ _ (Nat.zero_le _)⟩
  · simp [Value.cells] at hcs
    obtain ⟨rfl, rfl, rfl⟩ := hcs
    have hlm : n ≤ m := by rw [hmm]; split <;> omega
    obtain ⟨es, he1, he2⟩ := list_of (fun i (e : WE) => w.cell? (a.add (i * 2 + 0)) = some (.bool e.neg) ∧ w.cell? (a.add (i * 2 + 1)) = some (.slice e.A e.n e.c) ∧ Lim w e.A e.n e.c e.l) n (fun i hin => by
      obtain ⟨ys, n', _, _, _, hfl⟩ := hi i (by omega)
      obtain ⟨v0, y0, hc0, _, ht0⟩ := hfl 0 _ rfl
      obtain ⟨v1, y1, hc1, _, ht1⟩ := hfl 1 _ rfl
      obtain ⟨b, hb, _⟩ := DataW.trod_bool Tryz.underlying4 ht0
      obtain ⟨A1, n1, c1, l1, hA1, hL1⟩ := open_mag ht1
      have e0 : v0 = .bool b := by simpa using hb
      have e1 : v1 = .slice A1 n1 c1 := by simpa using hA1
      subst e0 e1
      exact ⟨⟨b, A1, n1, c1, l1⟩, hc0, hc1, hL1⟩)
    refine ⟨some a, n, c, es, rfl, he1, hl, hm, fun hn => ?_, fun e he => ?_⟩
    · obtain ⟨b, o, rfl⟩ : ∃ b o, a = ⟨b, o, none⟩ := by
        have h0 := he2 0 _ (List.getElem?_eq_getElem (by omega))
        have hp := plain_cell h0.1
        obtain ⟨b, o, s⟩ := a
        refine ⟨b, o, ?_⟩
        unfold Addr.add at hp
        split at hp <;> simp_all
      refine ⟨b, o, rfl, fun k e hk => ?_⟩
      have h0 := he2 k e hk
      rw [add_lit, add_lit] at h0
      exact ⟨h0.1, by rw [Nat.add_assoc]; exact h0.2.1⟩
    · obtain ⟨k, hk, rfl⟩ := List.getElem_of_mem he
      exact (he2 k _ (List.getElem?_eq_getElem hk)).2.2
end
end Go.Proofs.YtljocgdhdilglaaGreat

namespace Go.Proofs.YtljocgdhdilglaaGreat
open Go.ChangeShapes Go.WideShapes Go.Deep Go.RowKit

theorem wf_u32' {z : Int} (h : (Lit.int .u32 z).wf = true) : 0 ≤ z ∧ z ≤ 4294967295 := by
  simp only [Lit.wf, Bool.and_eq_true, decide_eq_true_eq] at h
  exact h

section
variable {H : Type} {enc : TypeId × Value → H} {w : World} {base : Nat} {spare : Nat → Bool} {held : Bool}

theorem open_mag' {fuel : Nat} {cs : List Value} {x : DataW H × List MemPlace} (h : DataW.trod enc Tryz.prog w base spare held fuel 23 cs = some x) : ∃ (A : Option Addr) (n c : Nat) (l : List Nat), cs = [.slice A n c] ∧ Lim w A n c l := by
  rcases open_ints Tryz.underlying23 Tryz.underlying52 (by kernel_rfl) h with ⟨rfl, _⟩ | ⟨a, len, cap, zs, rfl, _, hl, hm, hz, _, hcell, hwf⟩
  · exact ⟨none, 0, 0, [], rfl, Lim.nil _ _ _ (Nat.zero_le _)⟩
  · have hlz : len ≤ zs.length := by rw [hz]; split <;> omega
    refine ⟨some a, len, cap, (zs.take len).map Int.toNat, rfl, by simp; omega, hl, hm, fun v hv => ?_, fun hn => ?_⟩
    · obtain ⟨z, hz1, rfl⟩ := List.mem_map.1 hv
      have := wf_u32' (hwf z (List.mem_of_mem_take hz1))
      omega
    · have h0 := hcell 0 (by omega)
      have hp := plain_cell h0
      obtain ⟨b, o, s⟩ : ∃ b o, a = ⟨b, o, none⟩ := by
        obtain ⟨b, o, s⟩ := a
        refine ⟨b, o, ?_⟩
        unfold Addr.add at hp
        split at hp <;> simp_all
      subst s
      refine ⟨b, o, rfl, fun k hk => ?_⟩
      have hc := hcell k (by omega)
      rw [add_lit] at hc
      rw [hc]
      have hkz : k < zs.length := by omega
      have hw := wf_u32' (hwf zs[k] (List.getElem_mem hkz))
      rw [List.getElem?_map, List.getElem?_take, if_pos hk, List.getElem?_eq_getElem hkz, List.getD_eq_getElem?_getD, List.getElem?_eq_getElem hkz]
      simp [limb]
      omega

set_option maxRecDepth 100000 in
theorem open_wideL {fuel : Nat} {cs : List Value} {x : DataW H × List MemPlace} (h : DataW.trod enc Tryz.prog w base spare held fuel 25 cs = some x) : ∃ (na : Bool) (A : Option Addr) (n c : Nat) (l : List Nat), cs = [.bool na, .slice A n c] ∧ Lim w A n c l := by
  obtain ⟨xs, n', _, _, hl, hxl, hfl⟩ := DataW.trod_struct Tryz.underlying25 h
  have c2 : Tryz.prog.cellsOf 25 = 2 := by kernel_rfl
  have c0 : Tryz.prog.cellsOf 4 = 1 := by kernel_rfl
  have c1 : Tryz.prog.cellsOf 23 = 1 := by kernel_rfl
  rw [c2] at hl
  obtain ⟨x, y, rfl⟩ : ∃ x y, cs = [x, y] := by
    match cs, hl with
    | [x, y], _ => exact ⟨x, y, rfl⟩
  have f0 := hfl 0 _ rfl
  have f1 := hfl 1 _ rfl
  simp only [List.getElem_toArray, List.getElem_cons_zero, List.getElem_cons_succ] at f0 f1
  rw [c0] at f0
  rw [c1] at f1
  have g0 : xs[0]? = some (xs[0]'(by rw [hxl]; decide)) := List.getElem?_eq_getElem _
  have g1 : xs[1]? = some (xs[1]'(by rw [hxl]; decide)) := List.getElem?_eq_getElem _
  rw [g0] at f0
  rw [g1] at f1
  obtain ⟨b, e0, _⟩ := DataW.trod_bool Tryz.underlying4 f0
  obtain ⟨A, n, c, l, e1, hL⟩ := open_mag' f1
  simp at e0 e1
  subst e0 e1
  exact ⟨b, A, n, c, l, rfl, hL⟩

set_option maxRecDepth 100000 in
theorem open_fracL {fuel : Nat} {cs : List Value} {x : DataW H × List MemPlace} (h : DataW.trod enc Tryz.prog w base spare held fuel 27 cs = some x) :
    ∃ (na nb : Bool) (A B : Option Addr) (n c m d : Nat) (la lb : List Nat), cs = [.bool na, .slice A n c, .bool nb, .slice B m d] ∧ Lim w A n c la ∧ Lim w B m d lb := by
  obtain ⟨xs, n', _, _, hl, hxl, hfl⟩ := DataW.trod_struct Tryz.underlying27 h
  have c4 : Tryz.prog.cellsOf 27 = 4 := by kernel_rfl
  have c2 : Tryz.prog.cellsOf 25 = 2 := by kernel_rfl
  rw [c4] at hl
  obtain ⟨x, y, z, u, rfl⟩ : ∃ x y z u, cs = [x, y, z, u] := by
    match cs, hl with
    | [x, y, z, u], _ => exact ⟨x, y, z, u, rfl⟩
  have f0 := hfl 0 _ rfl
  have f1 := hfl 1 _ rfl
  simp only [List.getElem_toArray, List.getElem_cons_zero, List.getElem_cons_succ] at f0 f1
  rw [c2] at f0 f1
  have g0 : xs[0]? = some (xs[0]'(by rw [hxl]; decide)) := List.getElem?_eq_getElem _
  have g1 : xs[1]? = some (xs[1]'(by rw [hxl]; decide)) := List.getElem?_eq_getElem _
  rw [g0] at f0
  rw [g1] at f1
  obtain ⟨na, A, n, c, la, e0, h0⟩ := open_wideL f0
  obtain ⟨nb, B, m, d, lb, e1, h1⟩ := open_wideL f1
  simp at e0 e1
  obtain ⟨rfl, rfl⟩ := e0
  obtain ⟨rfl, rfl⟩ := e1
  exact ⟨na, nb, A, B, n, c, m, d, la, lb, rfl, h0, h1⟩

set_option maxRecDepth 100000 in
theorem open_frac {r : Reach} {b0 : Nat} {v : Value} {d : DataW H} {p : List MemPlace} (hv : Value.okWide Tryz.prog w r b0 27 v) (h : DataW.Trod enc Tryz.prog w base spare held 27 v d p) :
    ∃ (na nb : Bool) (A B : Option Addr) (n c m d : Nat) (la lb : List Nat), v = .agg #[.bool na, .slice A n c, .bool nb, .slice B m d] ∧ Lim w A n c la ∧ Lim w B m d lb := by
  obtain ⟨cs, rfl, hsz⟩ := okWide_struct Tryz.underlying27 hv
  obtain ⟨fuel, hf⟩ := h
  obtain ⟨na, nb, A, B, n, c, m, d, la, lb, e, h1, h2⟩ := open_fracL hf
  refine ⟨na, nb, A, B, n, c, m, d, la, lb, ?_, h1, h2⟩
  congr 1
  apply Array.toList_inj.1
  exact e
end
end Go.Proofs.YtljocgdhdilglaaGreat
