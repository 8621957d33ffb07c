/- Reference of centroid: ends. -/
import Derived.Deep.CutBlock
import Derived.Deep.DeepCutAuto
import Derived.Test.YtkippclhbkjbmaaGreatZh49
import Derived.Test.YtkippclhbkjbmaaGreatZh43
import Derived.Test.YtkippclhbkjbmaaGreatZh50
import Derived.Test.YtkippclhbkjbmaaGreatZh39
set_option linter.unusedSimpArgs false
set_option linter.unusedVariables false

namespace Go.Proofs.YtkippclhbkjbmaaGreat
open Go.RowKit
attribute [local go_sem] add_lit

theorem setCells_far : ∀ (vs : List Value) (w : World) (g o g' : Nat), g' ≠ g → (w.setCells g o vs).heap[g']? = w.heap[g']?
  | [], _, _, _, _, _ => rfl
  | v :: vs, w, g, o, g', h => by
    simp only [World.setCells]
    rw [setCells_far vs _ g (o + 1) g' h]
    exact Below.heap_setCell _ ⟨g, o, none⟩ _ g' h
theorem LimI.heap {w W : World} {g n c : Nat} {l : List Int} (h : LimI w (some ⟨g, 0, none⟩) n c l) (hb : W.heap[g]? = w.heap[g]?) : LimI W (some ⟨g, 0, none⟩) n c l := by
  obtain ⟨h1, h2, h3, h4, h5⟩ := h
  refine ⟨h1, h2, h3, h4, fun hn => ?_⟩
  obtain ⟨g1, o1, e, hc⟩ := h5 hn
  injection e with e
  injection e with e1 e2
  subst e1 e2
  exact ⟨g, 0, rfl, fun k hk => (World.cell?_of_block (a := ⟨g, 0 + k, none⟩) hb).trans (hc k hk)⟩
theorem LimI.lt {w : World} {g n c : Nat} {l : List Int} (h : LimI w (some ⟨g, 0, none⟩) n c l) (hn : 0 < n) : g < w.heap.size := by
  obtain ⟨h1, h2, h3, h4, h5⟩ := h
  obtain ⟨g1, o1, e, hc⟩ := h5 hn
  injection e with e
  injection e with e1 e2
  subst e1 e2
  exact lt_of_cell (hc 0 hn)

theorem loopQ_sm {cmp : Rat → Rat → Int} {q : Nat → Rat} (h : ∀ f, Sm (q f)) (k : Nat) : Sm (loopQ cmp q k) := by
  induction k with
  | zero => exact h 0
  | succ k ih =>
    unfold loopQ
    split
    · exact h _
    · exact ih

/-- The variables of the least and the greatest mean, before round f. -/
def EV (w : World) (g h f : Nat) (L M : Rat) : Prop :=
  (f = 0 ∧ Blk w g 32 #[.bool false, .slice none 0 0, .bool false, .slice none 0 0] ∧ Blk w h 32 #[.bool false, .slice none 0 0, .bool false, .slice none 0 0]) ∨ (0 < f ∧ FracV w g L ∧ FracV w h M)
theorem EV.lt {w : World} {g h f : Nat} {L M : Rat} (e : EV w g h f L M) : g < w.heap.size ∧ h < w.heap.size := by
  rcases e with ⟨-, a, b⟩ | ⟨-, a, b⟩
  · exact ⟨a.lt, b.lt⟩
  · exact ⟨a.lt, b.lt⟩
theorem EV.below {w w' : World} {g h f : Nat} {L M : Rat} (e : EV w g h f L M) (hb : Below w.heap.size w w') : EV w' g h f L M := by
  rcases e with ⟨e0, a, b⟩ | ⟨e0, a, b⟩
  · exact .inl ⟨e0, keep_blk hb a, keep_blk hb b⟩
  · exact .inr ⟨e0, a.below hb, b.below hb⟩
theorem EV.step {w w' : World} {g h f k : Nat} {L M : Rat} (e : EV w g h f L M) (hs : StepN w w' k) (h1 : g ≠ k) (h2 : h ≠ k) : EV w' g h f L M := by
  rcases e with ⟨e0, a, b⟩ | ⟨e0, a, b⟩
  · exact .inl ⟨e0, hs.2.1 _ _ _ h1 a, hs.2.1 _ _ _ h2 b⟩
  · exact .inr ⟨e0, a.keep hs.1 (fun _ => hs.2.1 _ _ _ h1), b.keep hs.1 (fun _ => hs.2.1 _ _ _ h2)⟩

set_option maxRecDepth 100000 in
set_option maxHeartbeats 8000000 in
theorem rends_ok (W H : Int) (A : Option Addr) (n c : Nat) (B : Option Addr) (m d : Nat) (ps l : List Int) (row : Bool) (off : Int) (w : World) (hp : LimI w A n c ps) (hl : LimI w B m d l) (hf : 1 ≤ W ∧ W ≤ 100 ∧ 1 ≤ H ∧ H ≤ 100 ∧ (n : Int) = W * H) (h8 : m ≤ 40) (hn0 : 0 < n) (hr : Rng ps l n m) (hpx : ∀ k, k < m → (pix ps (l[k]?.getD 0)).natAbs ≤ 4294967296) (hdis : ∀ i j, i < j → j < m → l[i]?.getD 0 < l[j]?.getD 0) (ho : off.natAbs ≤ 4294967296)
    (hD : ∀ f : Int, 0 < tden (plc row W) ps l f off m ∧ 0 < tden (plc row W) ps l f (-off) m) :
    Calls Tryz.prog 38 #[.agg #[.int .i64 W, .int .i64 H, .slice A n c], .slice B m d, .bool row, .int .i64 off] w fun e w' => Below w.heap.size w w' ∧ ∃ na1 A1 n1 c1 nb1 B1 m1 d1 na2 A2 n2 c2 nb2 B2 m2 d2, e = .returned (.tuple #[.agg #[.bool na1, .slice A1 n1 c1, .bool nb1, .slice B1 m1 d1], .agg #[.bool na2, .slice A2 n2 c2, .bool nb2, .slice B2 m2 d2]]) ∧ Fr w' na1 A1 n1 c1 nb1 B1 m1 d1 (leastQ (plc row W) ps l off) ∧ Fr w' na2 A2 n2 c2 nb2 B2 m2 d2 (mostQ (plc row W) ps l off) := by
  have hmx : Tryz.prog.follows .mixedOrders = true := by kernel_rfl
  have hpl : ps.length = n := hp.lenI
  have hlm : l.length = m := hl.lenI
  have hn9 : n ≤ 10000 := by
    have : W * H ≤ 100 * 100 := Int.mul_le_mul hf.2.1 hf.2.2.2.1 (by omega) (by omega)
    omega
  have hplc : ∀ k, k < m → (plc row W (l[k]?.getD 0)).natAbs ≤ 99 := fun k hk => by
    have h1 := hr k hk
    have := plc_bound (row := row) hf h1.1 h1.2.1
    omega
  have hneg : wrap64 (-off) = -off := wrapS (by omega)
  have hneg2 : IntKind.i64.wrap (-off) = -off := by rw [IntKind.wrap_i64]; omega
  have ho2 : (-off).natAbs ≤ 4294967296 := by omega
  obtain ⟨qd, hqd⟩ : ∃ qd : Nat → Rat, qd = fun f : Nat => tq (plc row W) ps l (f : Int) (-off) := ⟨_, rfl⟩
  obtain ⟨qu, hqu⟩ : ∃ qu : Nat → Rat, qu = fun f : Nat => tq (plc row W) ps l (f : Int) off := ⟨_, rfl⟩
  have hsd : ∀ f, Sm (qd f) := fun f => by rw [hqd]; exact tq_sm hlm hr hplc ho2 h8 (hD f).2
  have hsu : ∀ f, Sm (qu f) := fun f => by rw [hqu]; exact tq_sm hlm hr hplc ho h8 (hD f).1
  have hL : leastQ (plc row W) ps l off = loopQ cmpQ qd 100 := by rw [hqd]; exact leastQ_loop _ _ _ _
  have hM : mostQ (plc row W) ps l off = loopQ (fun a b => cmpQ b a) qu 100 := by rw [hqu]; exact mostQ_loop _ _ _ _
  have hsL : ∀ k, Sm (loopQ cmpQ qd k) := loopQ_sm hsd
  have hsM : ∀ k, Sm (loopQ (fun a b => cmpQ b a) qu k) := loopQ_sm hsu
  rw [hL, hM]
  -- the tilted fields
  have hT : ∀ (f o : Int), o.natAbs ≤ 4294967296 → 0 < tden (plc row W) ps l f o m → ∃ s : Int, sumK (pix (tlt row W ps l f o m)) l m = s ∧ 0 < s ∧ s ≤ 9223372036854775807 ∧ Rat.divInt (sumK (pl row W (tlt row W ps l f o m)) l m) s = tq (plc row W) ps l f o ∧ Rng (tlt row W ps l f o m) l n m := fun f o h1 h2 => by
    have hb := tden_rng (u := plc row W) (f := f) (k := m) hr h1 (Nat.le_refl _) h8
    refine ⟨_, sum_tlt hpl hr hdis (Nat.le_refl _), h2, by omega, ?_, rng_tlt hpl hr hpx h1 hdis⟩
    rw [pl_tlt hpl hr hdis (Nat.le_refl _)]
    unfold tq
    rw [hlm]
  have hTd : ∀ f : Nat, ∃ s : Int, sumK (pix (tlt row W ps l f (-off) m)) l m = s ∧ 0 < s ∧ s ≤ 9223372036854775807 ∧ Rat.divInt (sumK (pl row W (tlt row W ps l f (-off) m)) l m) s = qd f ∧ Rng (tlt row W ps l f (-off) m) l n m := fun f => by rw [hqd]; exact hT f (-off) ho2 (hD f).2
  have hTu : ∀ f : Nat, ∃ s : Int, sumK (pix (tlt row W ps l f off m)) l m = s ∧ 0 < s ∧ s ≤ 9223372036854775807 ∧ Rat.divInt (sumK (pl row W (tlt row W ps l f off m)) l m) s = qu f ∧ Rng (tlt row W ps l f off m) l n m := fun f => by rw [hqu]; exact hT f off ho (hD f).1
  clear hT hL hM
  replace hqd := hide hqd
  replace hqu := hide hqu
  replace hTd := hide hTd
  replace hTu := hide hTu
  replace hf := hide hf
  replace hr := hide hr
  replace hdis := hide hdis
  replace hplc := hide hplc
  replace hpx := hide hpx
  replace hD := hide hD
  replace hsL := hide hsL
  replace hsM := hide hsM
  replace hsd := hide hsd
  replace hsu := hide hsu
  replace hlm := hide hlm
  replace hpl := hide hpl
  obtain ⟨W0, hW0, hB, ⟨q4, q8, q9⟩, sz⟩ := alloc3 w 24 #[.int .i64 W, .int .i64 H, .slice A n c] 32 #[.bool false, .slice none 0 0, .bool false, .slice none 0 0] 32 #[.bool false, .slice none 0 0, .bool false, .slice none 0 0]
  obtain ⟨V1, hV1, hB1, q10, -, hk1, sz1⟩ := new_obj 32 #[.bool false, .slice none 0 0, .bool false, .slice none 0 0] (Below.refl W0.heap.size W0) (Nat.le_refl _)
  obtain ⟨V2, hV2, hbr, q11, -, hk2, sz2⟩ := new_obj 32 #[.bool false, .slice none 0 0, .bool false, .slice none 0 0] hB1 hB1.size
  replace q10 := hk2 _ _ _ q10
  clear hk1 hk2 hB1
  replace sz := hide sz
  replace sz1 := hide sz1
  replace sz2 := hide sz2
  replace hp := hide (hp.below hB)
  replace hl := hide (hl.below hB)
  go_enter Tryz.func38, Tryz.ntmps38
  go_wp2_with fail
  clear hW0 hV1 hV2
  have hSf : ∀ wx, Below W0.heap.size W0 wx → wx.cell? ⟨w.heap.size, 0, none⟩ = some (.int .i64 W) ∧ wx.cell? ⟨w.heap.size, 1, none⟩ = some (.int .i64 H) ∧ wx.cell? ⟨w.heap.size, 2, none⟩ = some (.slice A n c) := fun wx hbx => by
    have e0 := (keep_blk hbx q4).cell 0
    have e1 := (keep_blk hbx q4).cell 1
    have e2 := (keep_blk hbx q4).cell 2
    simp at e0 e1 e2
    exact ⟨e0, e1, e2⟩
  replace hSf := hide hSf
  have hE0 : EV V2 W0.heap.size V1.heap.size 0 (loopQ cmpQ qd (0 - 1)) (loopQ (fun a b => cmpQ b a) qu (0 - 1)) := .inl ⟨rfl, q10, q11⟩
  have hg10 : Hid (w.heap.size + 1 + 1 < W0.heap.size) := hide (by have := sz.out; omega)
  clear q10 q11 q4
  obtain ⟨g11, hg11⟩ : ∃ g, V1.heap.size = g := ⟨_, rfl⟩
  rw [hg11] at hE0 ⊢
  replace hg11 : Hid (g11 = W0.heap.size + 1) := hide (by have := sz1.out; omega)
  go_loopw [12] (fun iv wr => ∃ f : Nat, f ≤ 101 ∧ iv = .int .i64 f ∧ Below W0.heap.size W0 wr ∧ EV wr W0.heap.size g11 f (loopQ cmpQ qd (f - 1)) (loopQ (fun a b => cmpQ b a) qu (f - 1))) (fun iv _ => 101 - (intOf iv).toNat)
  case atStart => exact ⟨0, by omega, rfl, hbr, hE0⟩
  case round =>
    clear hbr hE0
    obtain ⟨f, hf1, rfl, hbr, hE⟩ := hrel
    by_cases hfk : f < 101
    case neg =>
      obtain rfl : f = 101 := by omega
      rcases hE with ⟨h, -⟩ | ⟨-, hL0, hM0⟩
      case inl => exact absurd h (by omega)
      have htk : decide (((101 : Nat) : Int) ≤ 100) = false := by decide
      have q8r := keep_blk hbr q8
      have q9r := keep_blk hbr q9
      have hBU := hB.trans (hbr.mono hB.size)
      have hE11 : W0.heap.size < g11 := by have := hg11.out; omega
      have hE10 := hg10.out
      obtain ⟨na1, A2, n2, c2, nb1, B2, m2, d2, q10u, hL⟩ := hL0
      obtain ⟨na3, A4, n4, c4, nb3, B4, m4, d4, q11u, hM⟩ := hM0
      replace hL := hide hL
      replace hM := hide hM
      obtain ⟨a0, a1, a2, a3, -⟩ := q10u.four
      obtain ⟨b0, b1, b2, b3, -⟩ := q11u.four
      obtain ⟨x0, x1, x2, x3, fx0, fx1, fx2, fx3⟩ := q8r.four
      go_wp2_with fail
      refine wp_held [] (fun wx => (wx.cell? ⟨W0.heap.size, 0, none⟩ = some (.bool na1) ∧ wx.cell? ⟨W0.heap.size, 1, none⟩ = some (.slice A2 n2 c2) ∧ wx.cell? ⟨W0.heap.size, 2, none⟩ = some (.bool nb1) ∧ wx.cell? ⟨W0.heap.size, 3, none⟩ = some (.slice B2 m2 d2)) ∧ wx.cell? ⟨g11, 0, none⟩ = some (.bool na3) ∧ wx.cell? ⟨g11, 1, none⟩ = some (.slice A4 n4 c4) ∧ wx.cell? ⟨g11, 2, none⟩ = some (.bool nb3) ∧ wx.cell? ⟨g11, 3, none⟩ = some (.slice B4 m4 d4)) hmx ⟨⟨a0, a1, a2, a3⟩, b0, b1, b2, b3⟩ (fun _ => ?_)
      refine wpAnyL_take (i := 0) (v := ?v22) rfl (by kernel_rfl) (by kernel_rfl) (by kernel_rfl) (by kernel_rfl) (by kernel_rfl) (Or.inl ⟨by rfl, ?hy22⟩) ⟨⟨a0, a1, a2, a3⟩, b0, b1, b2, b3⟩ ?rest22
      case hy22 => (intro W2 hSw; (try dsimp only at hSw); go_simp; try with_reducible rfl)
      try simp only [Act.put, List.setIfInBounds_toArray, List.set_cons_zero, List.set_cons_succ]
      refine wpAnyL_take (i := 1) (v := ?v23) rfl (by kernel_rfl) (by kernel_rfl) (by kernel_rfl) (by kernel_rfl) (by kernel_rfl) (Or.inl ⟨by rfl, ?hy23⟩) ⟨⟨a0, a1, a2, a3⟩, b0, b1, b2, b3⟩ ?rest23
      case hy23 => (intro W2 hSw; (try dsimp only at hSw); go_simp; try with_reducible rfl)
      try simp only [Act.put, List.setIfInBounds_toArray, List.set_cons_zero, List.set_cons_succ]
      obtain ⟨X, hX, hBX, q8x, hst⟩ := set_frac na1 A2 n2 c2 nb1 B2 m2 d2 hBU (by omega) q8r
      have q9x := hst.2.1 _ _ _ (by omega) q9r
      have q10x := hst.2.1 _ _ _ (by omega) q10u
      have q11x := hst.2.1 _ _ _ (by omega) q11u
      replace hL := hide (hL.out.keep hst.1)
      replace hM := hide (hM.out.keep hst.1)
      refine wpAnyL_one (i := 2) rfl (by kernel_rfl) (fun K hK => ?_)
      go_simp
      (try rw [hX])
      clear a0 a1 a2 a3 b0 b1 b2 b3 x0 x1 x2 x3 fx0 fx1 fx2 fx3 hX hst
      obtain ⟨a0, a1, a2, a3, -⟩ := q10x.four
      obtain ⟨b0, b1, b2, b3, -⟩ := q11x.four
      obtain ⟨x0, x1, x2, x3, fx0, fx1, fx2, fx3⟩ := q9x.four
      refine hK.out _ _ (fun _ => ⟨⟨a0, a1, a2, a3⟩, b0, b1, b2, b3⟩) ?_
      clear hK K
      try simp only [Act.put, List.setIfInBounds_toArray, List.set_cons_zero, List.set_cons_succ]
      obtain ⟨Y, hY, hBY, q9y, hst⟩ := set_frac na3 A4 n4 c4 nb3 B4 m4 d4 hBX (by omega) q9x
      have q8y := hst.2.1 _ _ _ (by omega) q8x
      have q10y := hst.2.1 _ _ _ (by omega) q10x
      have q11y := hst.2.1 _ _ _ (by omega) q11x
      replace hL := hL.out.keep hst.1
      replace hM := hM.out.keep hst.1
      refine wpAnyL_one (i := 3) rfl (by kernel_rfl) (fun K hK => ?_)
      go_simp
      (try rw [hY])
      clear a0 a1 a2 a3 b0 b1 b2 b3 x0 x1 x2 x3 fx0 fx1 fx2 fx3 hY hst
      obtain ⟨a0, a1, a2, a3, -⟩ := q10y.four
      obtain ⟨b0, b1, b2, b3, -⟩ := q11y.four
      refine hK.out _ _ (fun _ => ⟨⟨a0, a1, a2, a3⟩, b0, b1, b2, b3⟩) ?_
      clear hK K a0 a1 a2 a3 b0 b1 b2 b3
      try simp only [Act.put, List.setIfInBounds_toArray, List.set_cons_zero, List.set_cons_succ]
      refine wpAnyL_done (by kernel_rfl) ?_ _
      refine OnlyNormal.normal ?_
      try simp only [Act.put, List.setIfInBounds_toArray, List.set_cons_zero, List.set_cons_succ, List.getElem_toArray, List.getElem_cons_succ, List.getElem_cons_zero]
      go_simp
      go_wp2_with fail
      obtain ⟨a0, a1, a2, a3, -⟩ := q8y.four
      obtain ⟨b0, b1, b2, b3, -⟩ := q9y.four
      refine bodyPost_ret (v := .tuple #[.agg #[.bool na1, .slice A2 n2 c2, .bool nb1, .slice B2 m2 d2], .agg #[.bool na3, .slice A4 n4 c4, .bool nb3, .slice B4 m4 d4]]) (by simp [results, Tryz.results38, go_sem, a0, a1, a2, a3, b0, b1, b2, b3]) rfl ?_
      exact ⟨below_dn hBY 1, _, _, _, _, _, _, _, _, _, _, _, _, _, _, _, _, rfl, hL, hM⟩
    have htk : decide ((f : Int) ≤ 100) = true := by simp; omega
    have hEl := hE.lt
    replace hE := hide hE
    have hb8 : Below W0.heap.size W0 wr.drew := below_dn hbr 1
    go_upto_region 5 with fail
    go_cut [13, 14] from 19 to 77 (fun pv qv wx => ∃ g1 g2 ga ca gb cb : Nat, pv = .pointer (some ⟨g1, 0, none⟩) ∧ qv = .pointer (some ⟨g2, 0, none⟩) ∧ Below W0.heap.size W0 wx ∧ Blk wx g1 24 #[.int .i64 W, .int .i64 H, .slice (some ⟨ga, 0, none⟩) n ca] ∧ Blk wx g2 24 #[.int .i64 W, .int .i64 H, .slice (some ⟨gb, 0, none⟩) n cb] ∧ LimI wx (some ⟨ga, 0, none⟩) n ca (tlt row W ps l f off m) ∧ LimI wx (some ⟨gb, 0, none⟩) n cb (tlt row W ps l f (-off) m) ∧ EV wx W0.heap.size g11 f (loopQ cmpQ qd (f - 1)) (loopQ (fun a b => cmpQ b a) qu (f - 1)))
    case first =>
      refine wp_held [] (fun wx => wx.cell? ⟨w.heap.size, 0, none⟩ = some (.int .i64 W) ∧ wx.cell? ⟨w.heap.size, 1, none⟩ = some (.int .i64 H) ∧ wx.cell? ⟨w.heap.size, 2, none⟩ = some (.slice A n c)) hmx (hSf.out _ hb8) (fun _ => ?_)

      refine wpAnyL_take (i := 0) (v := ?v1) rfl (by kernel_rfl) (by kernel_rfl) (by kernel_rfl) (by kernel_rfl) (by kernel_rfl) (Or.inl ⟨by rfl, ?hy1⟩) (hSf.out _ hb8) ?rest1
      case hy1 => (intro W2 hSw; (try dsimp only at hSw); go_simp; try with_reducible rfl)
      try simp only [Act.put, List.setIfInBounds_toArray, List.set_cons_zero, List.set_cons_succ]
      refine wpAnyL_take (i := 1) (v := ?v2) rfl (by kernel_rfl) (by kernel_rfl) (by kernel_rfl) (by kernel_rfl) (by kernel_rfl) (Or.inl ⟨by rfl, ?hy2⟩) (hSf.out _ hb8) ?rest2
      case hy2 => (intro W2 hSw; (try dsimp only at hSw); go_simp; try with_reducible rfl)
      try simp only [Act.put, List.setIfInBounds_toArray, List.set_cons_zero, List.set_cons_succ]
      refine wpAnyL_take (i := 2) (v := ?v3) rfl (by kernel_rfl) (by kernel_rfl) (by kernel_rfl) (by kernel_rfl) (by kernel_rfl) (Or.inl ⟨by rfl, ?hy3⟩) (hSf.out _ hb8) ?rest3
      case hy3 => (intro W2 hSw; (try dsimp only at hSw); go_simp; try with_reducible rfl)
      try simp only [Act.put, List.setIfInBounds_toArray, List.set_cons_zero, List.set_cons_succ]
      refine wpAnyL_take (i := 3) (v := ?v4) rfl (by kernel_rfl) (by kernel_rfl) (by kernel_rfl) (by kernel_rfl) (by kernel_rfl) (Or.inl ⟨by rfl, ?hy4⟩) (hSf.out _ hb8) ?rest4
      case hy4 => (intro W2 hSw; (try dsimp only at hSw); go_simp; try with_reducible rfl)
      try simp only [Act.put, List.setIfInBounds_toArray, List.set_cons_zero, List.set_cons_succ]
      refine wpAnyL_take (i := 4) (v := ?v5) rfl (by kernel_rfl) (by kernel_rfl) (by kernel_rfl) (by kernel_rfl) (by kernel_rfl) (Or.inl ⟨by rfl, ?hy5⟩) (hSf.out _ hb8) ?rest5
      case hy5 => (intro W2 hSw; (try dsimp only at hSw); go_simp; try with_reducible rfl)
      try simp only [Act.put, List.setIfInBounds_toArray, List.set_cons_zero, List.set_cons_succ]
      refine wpAnyL_take (i := 6) (v := ?v6) rfl (by kernel_rfl) (by kernel_rfl) (by kernel_rfl) (by kernel_rfl) (by kernel_rfl) (Or.inl ⟨by rfl, ?hy6⟩) (hSf.out _ hb8) ?rest6
      case hy6 => (intro W2 hSw; (try dsimp only at hSw); go_simp; try with_reducible rfl)
      try simp only [Act.put, List.setIfInBounds_toArray, List.set_cons_zero, List.set_cons_succ]
      refine wpAnyL_take (i := 7) (v := ?v7) rfl (by kernel_rfl) (by kernel_rfl) (by kernel_rfl) (by kernel_rfl) (by kernel_rfl) (Or.inl ⟨by rfl, ?hy7⟩) (hSf.out _ hb8) ?rest7
      case hy7 => (intro W2 hSw; (try dsimp only at hSw); go_simp; try with_reducible rfl)
      try simp only [Act.put, List.setIfInBounds_toArray, List.set_cons_zero, List.set_cons_succ]
      refine wpAnyL_take (i := 8) (v := ?v8) rfl (by kernel_rfl) (by kernel_rfl) (by kernel_rfl) (by kernel_rfl) (by kernel_rfl) (Or.inl ⟨by rfl, ?hy8⟩) (hSf.out _ hb8) ?rest8
      case hy8 => (intro W2 hSw; (try dsimp only at hSw); go_simp; try with_reducible rfl)
      try simp only [Act.put, List.setIfInBounds_toArray, List.set_cons_zero, List.set_cons_succ]
      refine wpAnyL_take (i := 9) (v := ?v9) rfl (by kernel_rfl) (by kernel_rfl) (by kernel_rfl) (by kernel_rfl) (by kernel_rfl) (Or.inl ⟨by rfl, ?hy9⟩) (hSf.out _ hb8) ?rest9
      case hy9 => (intro W2 hSw; (try dsimp only at hSw); go_simp; try with_reducible rfl)
      try simp only [Act.put, List.setIfInBounds_toArray, List.set_cons_zero, List.set_cons_succ]
      refine wpAnyL_take (i := 10) (v := ?v10) rfl (by kernel_rfl) (by kernel_rfl) (by kernel_rfl) (by kernel_rfl) (by kernel_rfl) (Or.inl ⟨by rfl, ?hy10⟩) (hSf.out _ hb8) ?rest10
      case hy10 => (intro W2 hSw; (try dsimp only at hSw); go_simp; try with_reducible rfl)
      try simp only [Act.put, List.setIfInBounds_toArray, List.set_cons_zero, List.set_cons_succ]
      refine wpAnyL_take (i := 11) (v := ?v11) rfl (by kernel_rfl) (by kernel_rfl) (by kernel_rfl) (by kernel_rfl) (by kernel_rfl) (Or.inl ⟨by rfl, ?hy11⟩) (hSf.out _ hb8) ?rest11
      case hy11 => (intro W2 hSw; (try dsimp only at hSw); go_simp; try with_reducible rfl)
      try simp only [Act.put, List.setIfInBounds_toArray, List.set_cons_zero, List.set_cons_succ]
      refine wpAnyL_free2 13 14 13 14 2 24 24 #[.int .i64 0, .int .i64 0, .slice none 0 0] #[.int .i64 0, .int .i64 0, .slice none 0 0] [5, 12] (by decide) (by decide) (by kernel_rfl) (by simp) (by simp) (fun wx hbx => hSf.out _ (hb8.trans (hbx.mono hb8.size))) ?hA1 ?hA2 ?_
      case hA1 => (intro K a w h; refine wpOp_shut (i := 13) rfl (fun K2 hK2 => ?_); go_simp; exact hK2.out _ _ h)
      case hA2 => (intro K a w h; refine wpOp_shut (i := 14) rfl (fun K2 hK2 => ?_); go_simp; exact hK2.out _ _ h)
      refine chain_cons (fun u1 u2 wa hba => ?_)
      refine wpOp_shut (i := 5) rfl (fun K hK => ?_)
      try simp only [puts, cn, if_true, Act.put, List.setIfInBounds_toArray, List.set_cons_zero, List.set_cons_succ]
      go_simp
      have hba8 := hb8.trans (hba.mono hb8.size)
      refine (rtilted_ok W H A n c B m d ps l row f off wa (hp.out.below hba8) (hl.out.below hba8) hf.out h8 hn0 hr.out hdis.out ho).mono ?_
      rintro e wb ⟨⟨ga, ca, rfl, hga, hLa⟩, hbb⟩
      refine hK.out _ _ ⟨⟨rfl, rfl, hbb⟩, ?_⟩
      clear hK K
      try simp only [puts, cn, if_true, Act.put, List.setIfInBounds_toArray, List.set_cons_zero, List.set_cons_succ]
      have hbb8 := hba8.trans (hbb.mono hba8.size)
      replace hLa := hide hLa
      refine chain_cons (fun u3 u4 wc hbc => ?_)
      refine wpOp_shut (i := 12) rfl (fun K hK => ?_)
      try simp only [puts, cn, if_true, Act.put, List.setIfInBounds_toArray, List.set_cons_zero, List.set_cons_succ]
      go_simp
      (try rw [hneg2])
      (try rw [hneg])
      have hbc8 := hbb8.trans (hbc.mono hbb8.size)
      refine (rtilted_ok W H A n c B m d ps l row f (-off) wc (hp.out.below hbc8) (hl.out.below hbc8) hf.out h8 hn0 hr.out hdis.out ho2).mono ?_
      rintro e wd ⟨⟨gb, cb, rfl, hgb, hLb⟩, hbd⟩
      refine hK.out _ _ ⟨⟨rfl, rfl, hbd⟩, ?_⟩
      clear hK K
      try simp only [puts, cn, if_true, Act.put, List.setIfInBounds_toArray, List.set_cons_zero, List.set_cons_succ]
      have hbd8 := hbc8.trans (hbd.mono hbc8.size)
      replace hLb := hide hLb
      refine chain_nil (fun g1 g2 we hbe k1 k2 j1 j2 hne ia ib => ?_)
      have hbe8 := hbd8.trans (hbe.mono hbd8.size)
      have ia1 := ia _ (List.mem_cons_self ..)
      have ia2 := ia _ (List.mem_cons_of_mem _ (List.mem_cons_self ..))
      have ib1 := ib _ (List.mem_cons_self ..)
      have ib2 := ib _ (List.mem_cons_of_mem _ (List.mem_cons_self ..))
      have la := hLa.out.lt hn0
      have lb := hLb.out.lt hn0
      simp only at ia1 ia2 ib1 ib2
      have ze := hb8.size
      have n1 : ga ≠ g1 ∧ gb ≠ g1 ∧ ga ≠ g2 ∧ gb ≠ g2 := by omega
      have hbw : Below wr.heap.size wr we := ((((below_dn (Below.refl _ _) 1 : Below wr.heap.size wr wr.drew).trans (hba.mono (Nat.le_refl _))).trans (hbb.mono hba.size)).trans (hbc.mono (Nat.le_trans hba.size hbb.size))).trans ((hbd.mono (Nat.le_trans (Nat.le_trans hba.size hbb.size) hbc.size)).trans (hbe.mono (Nat.le_trans (Nat.le_trans (Nat.le_trans hba.size hbb.size) hbc.size) hbd.size)))
      have hE2 := hide (hE.out.below hbw)
      replace hLa := hide (hLa.out.below ((hbc.trans (hbd.mono hbc.size)).trans (hbe.mono (Nat.le_trans hbc.size hbd.size))))
      replace hLb := hide (hLb.out.below hbe)
      clear hbw hba8 hbb8 hbc8 hbd8 ia ib ia1 ia2 ib1 ib2 la lb hga hgb hba hbb hbc hbd hbe
      replace j1 : wr.heap.size ≤ g1 := j1
      replace j2 : wr.heap.size ≤ g2 := j2
      replace ze : W0.heap.size ≤ wr.heap.size := ze
      replace n1 := hide n1
      have y0 := k1.cell 0
      have y1 := k1.cell 1
      have y2 := k1.cell 2
      simp at y0 y1 y2
      have z0 := k1.frozen 0
      have z1 := k1.frozen 1
      have z2 := k1.frozen 2
      obtain ⟨V, hV, hBV, p1, hst⟩ := set_all [.int .i64 W, .int .i64 H, .slice (some ⟨ga, 0, none⟩) n ca] [.int .i64 0, .int .i64 0, .slice none 0 0] rfl rfl rfl hbe8 (by omega) k1
      have fa : V.heap[ga]? = we.heap[ga]? := by rw [← hV]; exact setCells_far _ _ _ _ _ n1.out.1
      have fb : V.heap[gb]? = we.heap[gb]? := by rw [← hV]; exact setCells_far _ _ _ _ _ n1.out.2.1
      simp only [World.setCells, Nat.reduceAdd, Nat.zero_add] at hV
      have p2 := hst.2.1 _ _ _ (Ne.symm hne) k2
      replace hE2 := hide (hE2.out.step hst (by have := hEl.1; omega) (by have := hEl.2; omega))
      replace hLa := hide (hLa.out.heap fa)
      replace hLb := hide (hLb.out.heap fb)
      try simp only [puts, cn, if_true, Act.put, List.setIfInBounds_toArray, List.set_cons_zero, List.set_cons_succ]
      refine wpAnyL_one (i := 15) rfl (by kernel_rfl) (fun K hK => ?_)
      go_simp
      (try rw [hV])
      refine hK.out _ _ (fun _ => hSf.out _ hBV) ?_
      clear hK K y0 y1 y2 z0 z1 z2 hV fa fb
      try simp only [puts, cn, if_true, Act.put, List.setIfInBounds_toArray, List.set_cons_zero, List.set_cons_succ]
      have y0 := p2.cell 0
      have y1 := p2.cell 1
      have y2 := p2.cell 2
      simp at y0 y1 y2
      have z0 := p2.frozen 0
      have z1 := p2.frozen 1
      have z2 := p2.frozen 2
      obtain ⟨U, hU, hBU, p3, hst2⟩ := set_all [.int .i64 W, .int .i64 H, .slice (some ⟨gb, 0, none⟩) n cb] [.int .i64 0, .int .i64 0, .slice none 0 0] rfl rfl rfl hBV (by omega) p2
      have fa : U.heap[ga]? = V.heap[ga]? := by rw [← hU]; exact setCells_far _ _ _ _ _ n1.out.2.2.1
      have fb : U.heap[gb]? = V.heap[gb]? := by rw [← hU]; exact setCells_far _ _ _ _ _ n1.out.2.2.2
      simp only [World.setCells, Nat.reduceAdd, Nat.zero_add] at hU
      have p4 := hst2.2.1 _ _ _ hne p1
      replace hE2 := hide (hE2.out.step hst2 (by have := hEl.1; omega) (by have := hEl.2; omega))
      replace hLa := hide (hLa.out.heap fa)
      replace hLb := hide (hLb.out.heap fb)
      refine wpAnyL_one (i := 16) rfl (by kernel_rfl) (fun K hK => ?_)
      go_simp
      (try rw [hU])
      refine hK.out _ _ (fun _ => hSf.out _ hBU) ?_
      clear hK K y0 y1 y2 z0 z1 z2 hU fa fb
      try simp only [puts, cn, if_true, Act.put, List.setIfInBounds_toArray, List.set_cons_zero, List.set_cons_succ]
      refine wpAnyL_done (by kernel_rfl) ?_ _
      refine OnlyNormal.normal ?_
      try simp only [puts, cn, if_true, Act.put, List.setIfInBounds_toArray, List.set_cons_zero, List.set_cons_succ]
      go_simp
      go_wp2_with fail
      go_meet
      exact ⟨_, _, _, _, _, _, rfl, rfl, hBU, p4, p3, hLa.out, hLb.out, hE2.out⟩
    case rest =>
      clear hbr hE hEl hb8
      obtain ⟨g1, g2, ga, ca, gb, cb, rfl, rfl, hbr, p1, p2, hLa, hLb, hE⟩ := hcut
      have hEl := hE.lt
      replace hE := hide hE
      replace hLa := hide hLa
      replace hLb := hide hLb
      obtain ⟨sd, ed, sd0, sd1, eqd, rd⟩ := hTd.out f
      obtain ⟨su, eu, su0, su1, equ, ru⟩ := hTu.out f
      generalize tlt row W ps l f off m = pu at *
      generalize tlt row W ps l f (-off) m = pd at *
      replace ed := hide ed
      replace eu := hide eu
      replace eqd := hide eqd
      replace equ := hide equ
      replace rd := hide rd
      replace ru := hide ru
      have hSx : ∀ wx, Below wc.heap.size wc wx → wx.cell? ⟨g1, 0, none⟩ = some (.int .i64 W) ∧ wx.cell? ⟨g1, 1, none⟩ = some (.int .i64 H) ∧ wx.cell? ⟨g1, 2, none⟩ = some (.slice (some ⟨ga, 0, none⟩) n ca) ∧ wx.cell? ⟨g2, 0, none⟩ = some (.int .i64 W) ∧ wx.cell? ⟨g2, 1, none⟩ = some (.int .i64 H) ∧ wx.cell? ⟨g2, 2, none⟩ = some (.slice (some ⟨gb, 0, none⟩) n cb) := fun wx hbx => by
        have e0 := (keep_blk hbx p1).cell 0
        have e1 := (keep_blk hbx p1).cell 1
        have e2 := (keep_blk hbx p1).cell 2
        have d0 := (keep_blk hbx p2).cell 0
        have d1 := (keep_blk hbx p2).cell 1
        have d2 := (keep_blk hbx p2).cell 2
        simp at e0 e1 e2 d0 d1 d2
        exact ⟨e0, e1, e2, d0, d1, d2⟩
      replace hSx := hide hSx
      clear p1 p2
      have hb8 : Below W0.heap.size W0 wc.drew := below_dn hbr 1
      have hb9 : Below wc.heap.size wc wc.drew := below_dn (Below.refl _ _) 1
      go_upto_region 6 with fail
      go_cut [15, 16] from 19 to 77 (fun pv qv wx => ∃ g3 g4 : Nat, pv = .pointer (some ⟨g3, 0, none⟩) ∧ qv = .pointer (some ⟨g4, 0, none⟩) ∧ Below W0.heap.size W0 wx ∧ (g3 ≠ W0.heap.size ∧ g4 ≠ W0.heap.size ∧ g3 ≠ g11 ∧ g4 ≠ g11) ∧ FracV wx g3 (qd f) ∧ FracV wx g4 (qu f) ∧ EV wx W0.heap.size g11 f (loopQ cmpQ qd (f - 1)) (loopQ (fun a b => cmpQ b a) qu (f - 1)))
      case first =>
        refine wp_held [] (fun wx => wx.cell? ⟨g1, 0, none⟩ = some (.int .i64 W) ∧ wx.cell? ⟨g1, 1, none⟩ = some (.int .i64 H) ∧ wx.cell? ⟨g1, 2, none⟩ = some (.slice (some ⟨ga, 0, none⟩) n ca) ∧ wx.cell? ⟨g2, 0, none⟩ = some (.int .i64 W) ∧ wx.cell? ⟨g2, 1, none⟩ = some (.int .i64 H) ∧ wx.cell? ⟨g2, 2, none⟩ = some (.slice (some ⟨gb, 0, none⟩) n cb)) hmx (hSx.out _ hb9) (fun _ => ?_)
        refine wpAnyL_take (i := 0) (v := ?v12) rfl (by kernel_rfl) (by kernel_rfl) (by kernel_rfl) (by kernel_rfl) (by kernel_rfl) (Or.inl ⟨by rfl, ?hy12⟩) (hSx.out _ hb9) ?rest12
        case hy12 => (intro W2 hSw; (try dsimp only at hSw); go_simp; try with_reducible rfl)
        try simp only [Act.put, List.setIfInBounds_toArray, List.set_cons_zero, List.set_cons_succ]
        refine wpAnyL_take (i := 1) (v := ?v13) rfl (by kernel_rfl) (by kernel_rfl) (by kernel_rfl) (by kernel_rfl) (by kernel_rfl) (Or.inl ⟨by rfl, ?hy13⟩) (hSx.out _ hb9) ?rest13
        case hy13 => (intro W2 hSw; (try dsimp only at hSw); go_simp; try with_reducible rfl)
        try simp only [Act.put, List.setIfInBounds_toArray, List.set_cons_zero, List.set_cons_succ]
        refine wpAnyL_take (i := 2) (v := ?v14) rfl (by kernel_rfl) (by kernel_rfl) (by kernel_rfl) (by kernel_rfl) (by kernel_rfl) (Or.inl ⟨by rfl, ?hy14⟩) (hSx.out _ hb9) ?rest14
        case hy14 => (intro W2 hSw; (try dsimp only at hSw); go_simp; try with_reducible rfl)
        try simp only [Act.put, List.setIfInBounds_toArray, List.set_cons_zero, List.set_cons_succ]
        refine wpAnyL_take (i := 3) (v := ?v15) rfl (by kernel_rfl) (by kernel_rfl) (by kernel_rfl) (by kernel_rfl) (by kernel_rfl) (Or.inl ⟨by rfl, ?hy15⟩) (hSx.out _ hb9) ?rest15
        case hy15 => (intro W2 hSw; (try dsimp only at hSw); go_simp; try with_reducible rfl)
        try simp only [Act.put, List.setIfInBounds_toArray, List.set_cons_zero, List.set_cons_succ]
        refine wpAnyL_take (i := 4) (v := ?v16) rfl (by kernel_rfl) (by kernel_rfl) (by kernel_rfl) (by kernel_rfl) (by kernel_rfl) (Or.inl ⟨by rfl, ?hy16⟩) (hSx.out _ hb9) ?rest16
        case hy16 => (intro W2 hSw; (try dsimp only at hSw); go_simp; try with_reducible rfl)
        try simp only [Act.put, List.setIfInBounds_toArray, List.set_cons_zero, List.set_cons_succ]
        refine wpAnyL_take (i := 7) (v := ?v17) rfl (by kernel_rfl) (by kernel_rfl) (by kernel_rfl) (by kernel_rfl) (by kernel_rfl) (Or.inl ⟨by rfl, ?hy17⟩) (hSx.out _ hb9) ?rest17
        case hy17 => (intro W2 hSw; (try dsimp only at hSw); go_simp; try with_reducible rfl)
        try simp only [Act.put, List.setIfInBounds_toArray, List.set_cons_zero, List.set_cons_succ]
        refine wpAnyL_take (i := 8) (v := ?v18) rfl (by kernel_rfl) (by kernel_rfl) (by kernel_rfl) (by kernel_rfl) (by kernel_rfl) (Or.inl ⟨by rfl, ?hy18⟩) (hSx.out _ hb9) ?rest18
        case hy18 => (intro W2 hSw; (try dsimp only at hSw); go_simp; try with_reducible rfl)
        try simp only [Act.put, List.setIfInBounds_toArray, List.set_cons_zero, List.set_cons_succ]
        refine wpAnyL_take (i := 9) (v := ?v19) rfl (by kernel_rfl) (by kernel_rfl) (by kernel_rfl) (by kernel_rfl) (by kernel_rfl) (Or.inl ⟨by rfl, ?hy19⟩) (hSx.out _ hb9) ?rest19
        case hy19 => (intro W2 hSw; (try dsimp only at hSw); go_simp; try with_reducible rfl)
        try simp only [Act.put, List.setIfInBounds_toArray, List.set_cons_zero, List.set_cons_succ]
        refine wpAnyL_take (i := 10) (v := ?v20) rfl (by kernel_rfl) (by kernel_rfl) (by kernel_rfl) (by kernel_rfl) (by kernel_rfl) (Or.inl ⟨by rfl, ?hy20⟩) (hSx.out _ hb9) ?rest20
        case hy20 => (intro W2 hSw; (try dsimp only at hSw); go_simp; try with_reducible rfl)
        try simp only [Act.put, List.setIfInBounds_toArray, List.set_cons_zero, List.set_cons_succ]
        refine wpAnyL_take (i := 11) (v := ?v21) rfl (by kernel_rfl) (by kernel_rfl) (by kernel_rfl) (by kernel_rfl) (by kernel_rfl) (Or.inl ⟨by rfl, ?hy21⟩) (hSx.out _ hb9) ?rest21
        case hy21 => (intro W2 hSw; (try dsimp only at hSw); go_simp; try with_reducible rfl)
        try simp only [Act.put, List.setIfInBounds_toArray, List.set_cons_zero, List.set_cons_succ]
        refine wpAnyL_free2 14 15 15 16 2 32 32 #[.bool false, .slice none 0 0, .bool false, .slice none 0 0] #[.bool false, .slice none 0 0, .bool false, .slice none 0 0] [5, 6, 12, 13] (by decide) (by decide) (by kernel_rfl) (by simp) (by simp) (fun wx hbx => hSx.out _ (hb9.trans (hbx.mono hb9.size))) ?hA1 ?hA2 ?_
        case hA1 => (intro K a w h; refine wpOp_shut (i := 14) rfl (fun K2 hK2 => ?_); go_simp; exact hK2.out _ _ h)
        case hA2 => (intro K a w h; refine wpOp_shut (i := 15) rfl (fun K2 hK2 => ?_); go_simp; exact hK2.out _ _ h)
        refine chain_cons (fun u1 v1 x1 hx1 => ?_)
        refine wpOp_shut (i := 5) rfl (fun K hK => ?_)
        try simp only [puts, cn, if_true, Act.put, List.setIfInBounds_toArray, List.set_cons_zero, List.set_cons_succ]
        go_simp
        have tx1 := hb9.trans (hx1.mono hb9.size)
        have h := sum_ok W H (some ⟨gb, 0, none⟩) n cb B m d pd l x1 (hLb.out.below tx1) (hl.out.below (hbr.trans (tx1.mono hbr.size))) (by omega) (by omega) rd.out
        rw [ed.out] at h
        refine h.mono ?_
        clear h
        rintro e y1 ⟨rfl, hy1⟩
        refine hK.out _ _ ⟨⟨rfl, rfl, hy1⟩, ?_⟩
        clear hK K
        try simp only [puts, cn, if_true, Act.put, List.setIfInBounds_toArray, List.set_cons_zero, List.set_cons_succ]
        have ty1 := tx1.trans (hy1.mono tx1.size)
        refine chain_cons (fun u2 v2 x2 hx2 => ?_)
        refine wpOp_shut (i := 6) rfl (fun K hK => ?_)
        try simp only [puts, cn, if_true, Act.put, List.setIfInBounds_toArray, List.set_cons_zero, List.set_cons_succ]
        go_simp
        have tx2 := ty1.trans (hx2.mono ty1.size)
        have h := mean_ok W H (some ⟨gb, 0, none⟩) n cb B m d pd l row sd x2 (hLb.out.below tx2) (hl.out.below (hbr.trans (tx2.mono hbr.size))) hf.out (by omega) rd.out sd0 sd1
        rw [eqd.out] at h
        refine h.mono ?_
        clear h
        rintro e y2 ⟨hy2, na1, A1, n1, c1, nb1, B1, m1, d1, rfl, hF1⟩
        refine hK.out _ _ ⟨⟨rfl, rfl, hy2⟩, ?_⟩
        clear hK K
        try simp only [puts, cn, if_true, Act.put, List.setIfInBounds_toArray, List.set_cons_zero, List.set_cons_succ]
        have ty2 := tx2.trans (hy2.mono tx2.size)
        replace hF1 := hide hF1
        refine chain_cons (fun u3 v3 x3 hx3 => ?_)
        refine wpOp_shut (i := 12) rfl (fun K hK => ?_)
        try simp only [puts, cn, if_true, Act.put, List.setIfInBounds_toArray, List.set_cons_zero, List.set_cons_succ]
        go_simp
        have tx3 := ty2.trans (hx3.mono ty2.size)
        have h := sum_ok W H (some ⟨ga, 0, none⟩) n ca B m d pu l x3 (hLa.out.below tx3) (hl.out.below (hbr.trans (tx3.mono hbr.size))) (by omega) (by omega) ru.out
        rw [eu.out] at h
        refine h.mono ?_
        clear h
        rintro e y3 ⟨rfl, hy3⟩
        refine hK.out _ _ ⟨⟨rfl, rfl, hy3⟩, ?_⟩
        clear hK K
        try simp only [puts, cn, if_true, Act.put, List.setIfInBounds_toArray, List.set_cons_zero, List.set_cons_succ]
        have ty3 := tx3.trans (hy3.mono tx3.size)
        replace hF1 := hide ((hF1.out.below hx3).below hy3)
        refine chain_cons (fun u4 v4 x4 hx4 => ?_)
        refine wpOp_shut (i := 13) rfl (fun K hK => ?_)
        try simp only [puts, cn, if_true, Act.put, List.setIfInBounds_toArray, List.set_cons_zero, List.set_cons_succ]
        go_simp
        have tx4 := ty3.trans (hx4.mono ty3.size)
        have h := mean_ok W H (some ⟨ga, 0, none⟩) n ca B m d pu l row su x4 (hLa.out.below tx4) (hl.out.below (hbr.trans (tx4.mono hbr.size))) hf.out (by omega) ru.out su0 su1
        rw [equ.out] at h
        refine h.mono ?_
        clear h
        rintro e y4 ⟨hy4, na2, A2, n2, c2, nb2, B2, m2, d2, rfl, hF2⟩
        refine hK.out _ _ ⟨⟨rfl, rfl, hy4⟩, ?_⟩
        clear hK K
        try simp only [puts, cn, if_true, Act.put, List.setIfInBounds_toArray, List.set_cons_zero, List.set_cons_succ]
        have ty4 := tx4.trans (hy4.mono tx4.size)
        replace hF1 := hide ((hF1.out.below hx4).below hy4)
        replace hF2 := hide hF2
        refine chain_nil (fun g3 g4 we hbe k1 k2 j1 j2 hne ia ib => ?_)
        have tz := ty4.trans (hbe.mono ty4.size)
        have hbe8 := hbr.trans (tz.mono hbr.size)
        replace hF1 := hide (hF1.out.below hbe)
        replace hF2 := hide (hF2.out.below hbe)
        have hE2 := hide (hE.out.below tz)
        replace j1 : wc.heap.size ≤ g3 := j1
        replace j2 : wc.heap.size ≤ g4 := j2
        have ze := hbr.size
        have hgne : g3 ≠ W0.heap.size ∧ g4 ≠ W0.heap.size ∧ g3 ≠ g11 ∧ g4 ≠ g11 := by have h1 := hEl.1; have h2 := hEl.2; omega
        clear ia ib tx1 tx2 tx3 tx4 ty1 ty2 ty3 ty4 hx1 hx2 hx3 hx4 hy1 hy2 hy3 hy4 hbe hLa hLb
        obtain ⟨y0, y1, y2, y3, z0, z1, z2, z3⟩ := k1.four
        obtain ⟨V, hV, hBV, p3, hst⟩ := set_frac na1 A1 n1 c1 nb1 B1 m1 d1 hbe8 (by omega) k1
        have tV : Below wc.heap.size wc V := by rw [← hV]; exact (((tz.setCell (p := ⟨g3, 0, none⟩) j1 _).setCell (p := ⟨g3, 1, none⟩) j1 _).setCell (p := ⟨g3, 2, none⟩) j1 _).setCell (p := ⟨g3, 3, none⟩) j1 _
        have p4 := hst.2.1 _ _ _ (Ne.symm hne) k2
        replace hE2 := hide (hE2.out.step hst hgne.1.symm hgne.2.2.1.symm)
        replace hF1 := hide (hF1.out.keep hst.1)
        replace hF2 := hide (hF2.out.keep hst.1)
        try simp only [puts, cn, if_true, Act.put, List.setIfInBounds_toArray, List.set_cons_zero, List.set_cons_succ]
        refine wpAnyL_one (i := 16) rfl (by kernel_rfl) (fun K hK => ?_)
        go_simp
        (try rw [hV])
        refine hK.out _ _ (fun _ => hSx.out _ tV) ?_
        clear hK K y0 y1 y2 y3 z0 z1 z2 z3 hV
        try simp only [puts, cn, if_true, Act.put, List.setIfInBounds_toArray, List.set_cons_zero, List.set_cons_succ]
        obtain ⟨y0, y1, y2, y3, z0, z1, z2, z3⟩ := p4.four
        obtain ⟨U, hU, hBU, p5, hst2⟩ := set_frac na2 A2 n2 c2 nb2 B2 m2 d2 hBV (by omega) p4
        have tU : Below wc.heap.size wc U := by rw [← hU]; exact (((tV.setCell (p := ⟨g4, 0, none⟩) j2 _).setCell (p := ⟨g4, 1, none⟩) j2 _).setCell (p := ⟨g4, 2, none⟩) j2 _).setCell (p := ⟨g4, 3, none⟩) j2 _
        have p6 := hst2.2.1 _ _ _ hne p3
        replace hE2 := hide (hE2.out.step hst2 hgne.2.1.symm hgne.2.2.2.symm)
        replace hF1 := hide (hF1.out.keep hst2.1)
        replace hF2 := hide (hF2.out.keep hst2.1)
        refine wpAnyL_one (i := 17) rfl (by kernel_rfl) (fun K hK => ?_)
        go_simp
        (try rw [hU])
        refine hK.out _ _ (fun _ => hSx.out _ tU) ?_
        clear hK K y0 y1 y2 y3 z0 z1 z2 z3 hU
        try simp only [puts, cn, if_true, Act.put, List.setIfInBounds_toArray, List.set_cons_zero, List.set_cons_succ]
        refine wpAnyL_done (by kernel_rfl) ?_ _
        refine OnlyNormal.normal ?_
        try simp only [puts, cn, if_true, Act.put, List.setIfInBounds_toArray, List.set_cons_zero, List.set_cons_succ]
        go_simp
        go_wp2_with fail
        go_meet
        exact ⟨_, _, rfl, rfl, hBU, hgne, ⟨_, _, _, _, _, _, _, _, p6, hF1.out⟩, ⟨_, _, _, _, _, _, _, _, p5, hF2.out⟩, hE2.out⟩
      case rest =>
        clear hbr hE hEl hb8 hb9 hSx hLa hLb ed eu eqd equ rd ru sd0 sd1 su0 su1
        obtain ⟨g3, g4, rfl, rfl, hbr, hgne, hA3, hA4, hE⟩ := hcut
        obtain ⟨na1, A1, n1, c1, nb1, B1, m1, d1, r3, hF1⟩ := hA3
        obtain ⟨na2, A2, n2, c2, nb2, B2, m2, d2, r4, hF2⟩ := hA4
        replace hF1 := hide hF1
        replace hF2 := hide hF2
        obtain ⟨x0, x1, x2, x3, -⟩ := r3.four
        have hsa := hsd.out f
        have hsb := hsu.out f
        have hE11 : W0.heap.size < g11 := by have := hg11.out; omega
        rcases f with _ | f
        · rcases hE with ⟨-, r10, r11⟩ | ⟨h, -⟩
          case inr => exact absurd h (by omega)
          obtain ⟨a0, a1, a2, a3, z0, z1, z2, z3⟩ := r10.four
          obtain ⟨V, hV, hBV, p10, hst⟩ := set_frac na1 A1 n1 c1 nb1 B1 m1 d1 hbr (Nat.le_refl _) r10
          have p11 := hst.2.1 _ _ _ (by omega) r11
          have r4v := hst.2.1 _ _ _ hgne.2.1 r4
          replace hF1 := hide (hF1.out.keep hst.1)
          replace hF2 := hide (hF2.out.keep hst.1)
          obtain ⟨b0, b1, b2, b3, k0, k1, k2, k3⟩ := p11.four
          obtain ⟨y0, y1, y2, y3, -⟩ := r4v.four
          obtain ⟨U, hU, hBU, q11, hst2⟩ := set_frac na2 A2 n2 c2 nb2 B2 m2 d2 hBV (by omega) p11
          have q10 := hst2.2.1 _ _ _ (by omega) p10
          replace hF1 := hide (hF1.out.keep hst2.1)
          replace hF2 := hide (hF2.out.keep hst2.1)
          (try simp only [Nat.zero_add, Nat.reduceAdd])
          go_wp2_with fail
          go_round
          case rel => exact ⟨1, by omega, by go_num, hBU, .inr ⟨by omega, ⟨_, _, _, _, _, _, _, _, q10, hF1.out⟩, ⟨_, _, _, _, _, _, _, _, q11, hF2.out⟩⟩⟩
          case measure => simp [intOf]
        · rcases hE with ⟨h, -⟩ | ⟨-, hL0, hM0⟩
          case inl => exact absurd h (by omega)
          rw [Nat.add_sub_cancel] at hL0 hM0
          have eL : loopQ cmpQ qd (f + 1) = if cmpQ (qd (f + 1)) (loopQ cmpQ qd f) < 0 then qd (f + 1) else loopQ cmpQ qd f := rfl
          have eM : loopQ (fun a b => cmpQ b a) qu (f + 1) = if cmpQ (loopQ (fun a b => cmpQ b a) qu f) (qu (f + 1)) < 0 then qu (f + 1) else loopQ (fun a b => cmpQ b a) qu f := rfl
          have eFl := cmpQ_flip (qu (f + 1)) (loopQ (fun a b => cmpQ b a) qu f)
          have sL := hsL.out f
          have sM := hsM.out f
          obtain ⟨L1, hL1⟩ : ∃ x, loopQ cmpQ qd (f + 1) = x := ⟨_, rfl⟩
          obtain ⟨M1, hM1⟩ : ∃ x, loopQ (fun a b => cmpQ b a) qu (f + 1) = x := ⟨_, rfl⟩
          rw [hL1] at eL
          rw [hM1] at eM
          generalize loopQ cmpQ qd f = L at *
          generalize loopQ (fun a b => cmpQ b a) qu f = M at *
          generalize qd (f + 1) = a at *
          generalize qu (f + 1) = b at *
          obtain ⟨x, hx⟩ : ∃ x, cmpQ a L = x := ⟨_, rfl⟩
          obtain ⟨y, hy⟩ : ∃ y, cmpQ b M = y := ⟨_, rfl⟩
          rw [hx] at eL
          rw [hy] at eFl
          replace eL := hide eL
          replace eM := hide eM
          replace eFl := hide eFl
          replace hL1 := hide hL1
          replace hM1 := hide hM1
          replace hx := hide hx
          replace hy := hide hy
          obtain ⟨na3, A3, n3, c3, nb3, B3, m3, d3, r10, hF3⟩ := hL0
          obtain ⟨na4, A4, n4, c4, nb4, B4, m4, d4, r11, hF4⟩ := hM0
          replace hF3 := hide hF3
          replace hF4 := hide hF4
          obtain ⟨a0, a1, a2, a3, -⟩ := r10.four
          have tp : decide ((0 : Int) < ((f + 1 : Nat) : Int)) = true := decide_eq_true (by omega)
          have tp2 : (((f + 1 : Nat) : Int) == 0) = false := by rw [beq_eq_false_iff_ne]; omega
          have tp3 : 0 < f + 1 := by omega
          generalize hff : (f + 1 : Nat) = ff at *
          replace hff := hide hff
          go_wp2_with fail
          refine (rfCmp_ok na1 nb1 na3 nb3 A1 B1 A3 B3 n1 c1 m1 d1 n3 c3 m3 d3 a L wc hF1.out hF3.out hsa sL).mono ?_
          rw [hx.out]
          rintro e w5 ⟨rfl, hb5⟩
          have hbr5 := hbr.trans (hb5.mono hbr.size)
          replace r3 := keep_blk hb5 r3
          replace r4 := keep_blk hb5 r4
          replace r10 := keep_blk hb5 r10
          replace r11 := keep_blk hb5 r11
          replace hF1 := hide (hF1.out.below hb5)
          replace hF2 := hide (hF2.out.below hb5)
          replace hF3 := hide (hF3.out.below hb5)
          replace hF4 := hide (hF4.out.below hb5)
          clear x0 x1 x2 x3 a0 a1 a2 a3
          obtain ⟨y0, y1, y2, y3, -⟩ := r4.four
          obtain ⟨b0, b1, b2, b3, -⟩ := r11.four
          go_wp2_with fail
          refine (rfCmp_ok na2 nb2 na4 nb4 A2 B2 A4 B4 n2 c2 m2 d2 n4 c4 m4 d4 b M w5 hF2.out hF4.out hsb sM).mono ?_
          rw [hy.out]
          rintro e w6 ⟨rfl, hb6⟩
          have hbr6 := hbr5.trans (hb6.mono hbr5.size)
          replace r3 := keep_blk hb6 r3
          replace r4 := keep_blk hb6 r4
          replace r10 := keep_blk hb6 r10
          replace r11 := keep_blk hb6 r11
          replace hF1 := hide (hF1.out.below hb6)
          replace hF2 := hide (hF2.out.below hb6)
          replace hF3 := hide (hF3.out.below hb6)
          replace hF4 := hide (hF4.out.below hb6)
          clear y0 y1 y2 y3 b0 b1 b2 b3 hb5 hb6 hbr hbr5
          obtain ⟨x0, x1, x2, x3, -⟩ := r3.four
          obtain ⟨y0, y1, y2, y3, -⟩ := r4.four
          obtain ⟨a0, a1, a2, a3, z0, z1, z2, z3⟩ := r10.four
          obtain ⟨b0, b1, b2, b3, k0, k1, k2, k3⟩ := r11.four
          have hfin : ∀ (U : World), Below W0.heap.size W0 U → FracV U W0.heap.size L1 → FracV U g11 M1 → ∃ f : Nat, f ≤ 101 ∧ Value.int .i64 (((ff + 1 : Nat)) : Int) = .int .i64 f ∧ Below W0.heap.size W0 U ∧ EV U W0.heap.size g11 f (loopQ cmpQ qd (f - 1)) (loopQ (fun a b => cmpQ b a) qu (f - 1)) := fun U u1 u2 u3 => ⟨ff + 1, by omega, rfl, u1, .inr ⟨by omega, by rw [Nat.add_sub_cancel, hL1.out]; exact u2, by rw [Nat.add_sub_cancel, hM1.out]; exact u3⟩⟩
          replace hfin := hide hfin
          by_cases cx : x < 0
          · by_cases cy : 0 < y
            · have tx : decide (x < 0) = true := by simpa using cx
              have eL2 := eL.out
              rw [if_pos cx] at eL2
              have ty : decide (0 < y) = true := by simpa using cy
              have eM2 := eM.out
              rw [if_pos (eFl.out.1 cy)] at eM2
              subst eL2
              subst eM2
              obtain ⟨V, hV, hBV, p10, hst⟩ := set_frac na1 A1 n1 c1 nb1 B1 m1 d1 hbr6 (Nat.le_refl _) r10
              have p11 := hst.2.1 _ _ _ (by omega) r11
              have r4v := hst.2.1 _ _ _ hgne.2.1 r4
              replace hF1 := hide (hF1.out.keep hst.1)
              replace hF2 := hide (hF2.out.keep hst.1)
              replace hF3 := hide (hF3.out.keep hst.1)
              replace hF4 := hide (hF4.out.keep hst.1)
              obtain ⟨b0v, b1v, b2v, b3v, k0v, k1v, k2v, k3v⟩ := p11.four
              obtain ⟨y0v, y1v, y2v, y3v, -⟩ := r4v.four
              obtain ⟨U, hU, hBU, q11, hst2⟩ := set_frac na2 A2 n2 c2 nb2 B2 m2 d2 hBV (by omega) p11
              have q10 := hst2.2.1 _ _ _ (by omega) p10
              replace hF1 := hide (hF1.out.keep hst2.1)
              replace hF2 := hide (hF2.out.keep hst2.1)
              replace hF3 := hide (hF3.out.keep hst2.1)
              replace hF4 := hide (hF4.out.keep hst2.1)
              go_wp2_with fail
              go_round
              case rel => (have hq := hfin.out U hBU ⟨_, _, _, _, _, _, _, _, q10, hF1.out⟩ ⟨_, _, _, _, _, _, _, _, q11, hF2.out⟩; simpa using hq)
              case measure => (have h1 := hff.out; simp [intOf]; omega)
            · have tx : decide (x < 0) = true := by simpa using cx
              have eL2 := eL.out
              rw [if_pos cx] at eL2
              have ty : decide (0 < y) = false := by simpa using cy
              have eM2 := eM.out
              rw [if_neg (fun h => cy (eFl.out.2 h))] at eM2
              subst eL2
              subst eM2
              obtain ⟨V, hV, hBV, p10, hst⟩ := set_frac na1 A1 n1 c1 nb1 B1 m1 d1 hbr6 (Nat.le_refl _) r10
              have p11 := hst.2.1 _ _ _ (by omega) r11
              have r4v := hst.2.1 _ _ _ hgne.2.1 r4
              replace hF1 := hide (hF1.out.keep hst.1)
              replace hF2 := hide (hF2.out.keep hst.1)
              replace hF3 := hide (hF3.out.keep hst.1)
              replace hF4 := hide (hF4.out.keep hst.1)
              obtain ⟨b0v, b1v, b2v, b3v, k0v, k1v, k2v, k3v⟩ := p11.four
              obtain ⟨y0v, y1v, y2v, y3v, -⟩ := r4v.four
              go_wp2_with fail
              go_round
              case rel => (have hq := hfin.out V hBV ⟨_, _, _, _, _, _, _, _, p10, hF1.out⟩ ⟨_, _, _, _, _, _, _, _, p11, hF4.out⟩; simpa using hq)
              case measure => (have h1 := hff.out; simp [intOf]; omega)
          · by_cases cy : 0 < y
            · have tx : decide (x < 0) = false := by simpa using cx
              have eL2 := eL.out
              rw [if_neg cx] at eL2
              have ty : decide (0 < y) = true := by simpa using cy
              have eM2 := eM.out
              rw [if_pos (eFl.out.1 cy)] at eM2
              subst eL2
              subst eM2
              obtain ⟨U, hU, hBU, q11, hst2⟩ := set_frac na2 A2 n2 c2 nb2 B2 m2 d2 hbr6 (by omega) r11
              have q10 := hst2.2.1 _ _ _ (by omega) r10
              replace hF1 := hide (hF1.out.keep hst2.1)
              replace hF2 := hide (hF2.out.keep hst2.1)
              replace hF3 := hide (hF3.out.keep hst2.1)
              replace hF4 := hide (hF4.out.keep hst2.1)
              go_wp2_with fail
              go_round
              case rel => (have hq := hfin.out U hBU ⟨_, _, _, _, _, _, _, _, q10, hF3.out⟩ ⟨_, _, _, _, _, _, _, _, q11, hF2.out⟩; simpa using hq)
              case measure => (have h1 := hff.out; simp [intOf]; omega)
            · have tx : decide (x < 0) = false := by simpa using cx
              have eL2 := eL.out
              rw [if_neg cx] at eL2
              have ty : decide (0 < y) = false := by simpa using cy
              have eM2 := eM.out
              rw [if_neg (fun h => cy (eFl.out.2 h))] at eM2
              subst eL2
              subst eM2
              go_wp2_with fail
              go_round
              case rel => (have hq := hfin.out w6 hbr6 ⟨_, _, _, _, _, _, _, _, r10, hF3.out⟩ ⟨_, _, _, _, _, _, _, _, r11, hF4.out⟩; simpa using hq)
              case measure => (have h1 := hff.out; simp [intOf]; omega)
end Go.Proofs.YtkippclhbkjbmaaGreat
