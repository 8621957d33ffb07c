/- Package centroid: Bound. -/
import Derived.Test.YtkippclhbkjbmaaZn44
import Derived.Test.YtkippclhbkjbmaaZn45
import Derived.Test.YtkippclhbkjbmaaZn20
set_option linter.unusedSimpArgs false
set_option linter.unusedVariables false

namespace Go.Proofs.Ytkippclhbkjbmaa
open Go.RowKit
attribute [local go_sem] add_lit

theorem tden_ge (u : Int → Int) (ps l : List Int) (f off : Int) (k : Nat) : sumK (pix ps) l k - (off.natAbs : Nat) * k ≤ tden u ps l f off k := by
  induction k with
  | zero => simp [tden, sumK]
  | succ k ih =>
    have e1 : sumK (pix ps) l (k + 1) = sumK (pix ps) l k + pix ps (l[k]?.getD 0) := rfl
    have e2 : tden u ps l f off (k + 1) = tden u ps l f off k + tv f off (u (l[k]?.getD 0)) (pix ps (l[k]?.getD 0)) := rfl
    have e3 : pix ps (l[k]?.getD 0) - (off.natAbs : Nat) ≤ tv f off (u (l[k]?.getD 0)) (pix ps (l[k]?.getD 0)) := by unfold tv; split <;> omega
    rw [e1, e2]
    have e4 : ((off.natAbs : Nat) : Int) * ((k + 1 : Nat) : Int) = (off.natAbs : Nat) * (k : Int) + (off.natAbs : Nat) := by rw [Int.natCast_add, Int.mul_add]; simp
    rw [e4]
    omega
theorem i64_pw2 {a : Int} (h : a.natAbs ≤ 9000000000000000000) : a.natAbs < pw 2 := by
  refine Nat.lt_of_le_of_lt h ?_
  rw [pw_succ, pw_succ, pw_zero]; decide
theorem tq_sm {u : Int → Int} {ps l : List Int} {f off : Int} {n m : Nat} (hlm : l.length = m) (hr : Rng ps l n m) (hu : ∀ j, j < m → (u (l[j]?.getD 0)).natAbs ≤ 99) (h1 : off.natAbs ≤ 4294967296) (hm : m ≤ 40) (hd : 0 < tden u ps l f off m) : Sm (tq u ps l f off) := by
  unfold tq
  rw [hlm]
  have a := tnum_rng (u := u) (f := f) (k := m) hr hu h1 (Nat.le_refl _) hm
  have b := tden_rng (u := u) (f := f) (k := m) hr h1 (Nat.le_refl _) hm
  exact (SmN.div hd (i64_pw2 (Nat.le_trans a (by omega))) (i64_pw2 (Nat.le_trans b (by omega)))).sm (by omega) (by omega)

/-- The error of 'Bound'. -/
def boundE (W H : Int) (n : Nat) (ps l : List Int) (off : Int) : Int := if startE W H n ps l = 0 then (if off < 0 ∨ 4294967296 < off then 2 else if psum ps l ≤ off * l.length then 18 else 0) else startE W H n ps l
/-- A box in memory. -/
def BoxF (w : World) (cs : Array Value) (a b c d : Int × Int) : Prop :=
  ∃ n0 A0 k0 c0 m0 B0 j0 d0 n1 A1 k1 c1 m1 B1 j1 d1 n2 A2 k2 c2 m2 B2 j2 d2 n3 A3 k3 c3 m3 B3 j3 d3,
    cs = #[.bool n0, .slice A0 k0 c0, .bool m0, .slice B0 j0 d0, .bool n1, .slice A1 k1 c1, .bool m1, .slice B1 j1 d1, .bool n2, .slice A2 k2 c2, .bool m2, .slice B2 j2 d2, .bool n3, .slice A3 k3 c3, .bool m3, .slice B3 j3 d3] ∧
    Fz w n0 A0 k0 c0 m0 B0 j0 d0 a ∧ Fz w n1 A1 k1 c1 m1 B1 j1 d1 b ∧ Fz w n2 A2 k2 c2 m2 B2 j2 d2 c ∧ Fz w n3 A3 k3 c3 m3 B3 j3 d3 d
def BoxP (w : World) (E : Int) (a b c d : Int × Int) (e : Ending) (w' : World) : Prop :=
  Below w.heap.size w w' ∧ ∃ cs, e = .returned (.tuple #[.agg cs, .int .i64 E]) ∧ BoxF w' cs a b c d
theorem BoxF.zero (w : World) : BoxF w #[.bool false, .slice none 0 0, .bool false, .slice none 0 0, .bool false, .slice none 0 0, .bool false, .slice none 0 0, .bool false, .slice none 0 0, .bool false, .slice none 0 0, .bool false, .slice none 0 0, .bool false, .slice none 0 0] (0, 0) (0, 0) (0, 0) (0, 0) :=
  have z : Fz w false none 0 0 false none 0 0 (0, 0) := ⟨Wd.zero w, Wd.zero w⟩
  ⟨_, _, _, _, _, _, _, _, _, _, _, _, _, _, _, _, _, _, _, _, _, _, _, _, _, _, _, _, _, _, _, _, rfl, z, z, z, z⟩
theorem und_box : ∃ d, Try.prog.underlying 38 = some d ∧ d.isRow = true := ⟨(Try.prog.underlying 38).getD (.struct #[]), by kernel_rfl, by kernel_rfl⟩
theorem info_box : (Try.prog.info? 38).map (·.size) = some 16 := by kernel_rfl


set_option maxRecDepth 100000 in
set_option maxHeartbeats 8000000 in
theorem bound_any (W H : Int) (A : Option Addr) (n c : Nat) (B : Option Addr) (m d : Nat) (ps l : List Int) (off : Int) (w : World) (hp : LimI w A n c ps) (hl : LimI w B m d l) (h9 : n ≤ 1000000000) (h8 : m ≤ 40) (iW : I64 W) (iH : I64 H) (E : Int) (hE : boundE W H n ps l off = E) :
    Calls Try.prog 8 #[.agg #[.int .i64 W, .int .i64 H, .slice A n c], .slice B m d, .int .i64 off] w fun e w' => (E ≠ 0 → BoxP w E (0, 0) (0, 0) (0, 0) (0, 0) e w') ∧ (E = 0 → BoxP w 0 (prQ (leastQ (colv W) ps l off)) (prQ (mostQ (colv W) ps l off)) (prQ (leastQ (rowv W) ps l off)) (prQ (mostQ (rowv W) ps l off)) e w') := by
  have hlm : l.length = m := hl.lenI
  obtain ⟨W0, hW0, hB, ⟨q0, qm⟩, sz⟩ := alloc2 w 24 #[.int .i64 W, .int .i64 H, .slice A n c] 38 #[.bool false, .slice none 0 0, .bool false, .slice none 0 0, .bool false, .slice none 0 0, .bool false, .slice none 0 0, .bool false, .slice none 0 0, .bool false, .slice none 0 0, .bool false, .slice none 0 0, .bool false, .slice none 0 0]
  have c0 := q0.cell 0
  have c1 := q0.cell 1
  have c2 := q0.cell 2
  simp at c0 c1 c2
  replace hp := hide (hp.below hB)
  replace hl := hide (hl.below hB)
  obtain ⟨E1, hE1⟩ : ∃ E1, startE W H n ps l = E1 := ⟨_, rfl⟩
  go_enter Try.func8, Try.ntmps8
  go_wp2_with fail
  refine (start_ok W H A n c B m d ps l W0 hp.out hl.out h9 (by omega) iW iH E1 hE1).mono ?_
  rintro e w1 ⟨⟨W', H', A', n', c', B', m', d', rfl, hsame⟩, hb1⟩
  clear hW0 c0 c1 c2
  replace hB := hB.trans (hb1.mono hB.size)
  replace q0 := keep_blk hb1 q0
  replace qm := keep_blk hb1 qm
  replace hp := hide (hp.out.below hb1)
  replace hl := hide (hl.out.below hb1)
  have hsz : W0.heap.size ≤ w1.heap.size := hb1.size
  obtain ⟨V1, hV1, hB1, q6, hk1, hk1', sV1⟩ := new_obj 53 #[.int .i64 0, .int .i64 0, .slice none 0 0, .slice none 0 0] (Below.refl w1.heap.size w1) (Nat.le_refl _)
  obtain ⟨V2, hV2, hB2, q6b, hst⟩ := set_src W' H' A' n' c' B' m' d' hB1 (Nat.le_refl _) q6
  obtain ⟨a0, a1, a2, a3, f0, f1, f2, f3⟩ := q6.four
  replace q0 := hst _ _ _ (by omega) (hk1' _ _ _ q0)
  replace qm := hst _ _ _ (by omega) (hk1' _ _ _ qm)
  replace hp := hide (hp.out.below hB2)
  replace hl := hide (hl.out.below hB2)
  replace hB := hB.trans (hB2.mono hB.size)
  by_cases hz : E1 = 0
  case neg =>
    have hEb : (E1 == 0) = false := by simpa using hz
    obtain rfl : E = E1 := by rw [← hE]; unfold boundE; rw [hE1, if_neg hz]
    clear hE hE1
    go_wp2_with ((refine wpList_store_mid rfl 38 _ _ rfl (w.heap.size + 1) 0 #[.bool false, .slice none 0 0, .bool false, .slice none 0 0, .bool false, .slice none 0 0, .bool false, .slice none 0 0, .bool false, .slice none 0 0, .bool false, .slice none 0 0, .bool false, .slice none 0 0, .bool false, .slice none 0 0] rfl rfl (qm.there (by simp)) info_box (by simp [Value.oneCell']) ?_; obtain ⟨V3, hV3, hB3, qm3, -⟩ := set_all [.bool false, .slice none 0 0, .bool false, .slice none 0 0, .bool false, .slice none 0 0, .bool false, .slice none 0 0, .bool false, .slice none 0 0, .bool false, .slice none 0 0, .bool false, .slice none 0 0, .bool false, .slice none 0 0] [.bool false, .slice none 0 0, .bool false, .slice none 0 0, .bool false, .slice none 0 0, .bool false, .slice none 0 0, .bool false, .slice none 0 0, .bool false, .slice none 0 0, .bool false, .slice none 0 0, .bool false, .slice none 0 0] rfl rfl rfl hB (by omega) qm; rw [hV3]))
    obtain ⟨d0, hd1, hd2⟩ := und_box
    refine bodyPost_ret (results_cell_tmp rfl _ _ (w.heap.size + 1) [.bool false, .slice none 0 0, .bool false, .slice none 0 0, .bool false, .slice none 0 0, .bool false, .slice none 0 0, .bool false, .slice none 0 0, .bool false, .slice none 0 0, .bool false, .slice none 0 0, .bool false, .slice none 0 0] d0 rfl (qm3.rangeAt [] (rest := []) rfl) hd1 hd2 info_box) rfl ?_
    exact ⟨fun _ => ⟨hB3, _, rfl, BoxF.zero _⟩, fun h => absurd h hz⟩
  subst hz
  obtain ⟨rfl, rfl, rfl, rfl, rfl, rfl, rfl, rfl⟩ := hsame rfl
  clear hsame
  obtain ⟨hfo, hli⟩ := startE_zero hE1
  have hf := fieldOk_size hfo
  have hr := rng_of hfo hli hlm
  have hps : psum ps l = sumK (pix ps) l m' := by unfold psum; rw [hlm]
  have hE3 : (if off < 0 ∨ 4294967296 < off then 2 else if sumK (pix ps) l m' ≤ off * (m' : Int) then 18 else 0) = E := by rw [← hE]; unfold boundE; rw [hE1, hps, hlm]; simp
  replace hE3 := hide hE3
  clear hE hE1 hfo hli hps
  replace hf := hide hf
  by_cases o1 : off < 0
  · have t1 : decide (off < 0) = true := by simpa using o1
    obtain rfl : E = 2 := by rw [← hE3.out, if_pos (Or.inl o1)]
    clear hE3
    go_wp2_with ((refine wpList_store_mid rfl 38 _ _ rfl (w.heap.size + 1) 0 #[.bool false, .slice none 0 0, .bool false, .slice none 0 0, .bool false, .slice none 0 0, .bool false, .slice none 0 0, .bool false, .slice none 0 0, .bool false, .slice none 0 0, .bool false, .slice none 0 0, .bool false, .slice none 0 0] rfl rfl (qm.there (by simp)) info_box (by simp [Value.oneCell']) ?_; obtain ⟨V3, hV3, hB3, qm3, -⟩ := set_all [.bool false, .slice none 0 0, .bool false, .slice none 0 0, .bool false, .slice none 0 0, .bool false, .slice none 0 0, .bool false, .slice none 0 0, .bool false, .slice none 0 0, .bool false, .slice none 0 0, .bool false, .slice none 0 0] [.bool false, .slice none 0 0, .bool false, .slice none 0 0, .bool false, .slice none 0 0, .bool false, .slice none 0 0, .bool false, .slice none 0 0, .bool false, .slice none 0 0, .bool false, .slice none 0 0, .bool false, .slice none 0 0] rfl rfl rfl hB (by omega) qm; rw [hV3]))
    obtain ⟨d0, hd1, hd2⟩ := und_box
    refine bodyPost_ret (results_cell_tmp rfl _ _ (w.heap.size + 1) [.bool false, .slice none 0 0, .bool false, .slice none 0 0, .bool false, .slice none 0 0, .bool false, .slice none 0 0, .bool false, .slice none 0 0, .bool false, .slice none 0 0, .bool false, .slice none 0 0, .bool false, .slice none 0 0] d0 rfl (qm3.rangeAt [] (rest := []) rfl) hd1 hd2 info_box) rfl ?_
    exact ⟨fun _ => ⟨hB3, _, rfl, BoxF.zero _⟩, fun h => absurd h (by decide)⟩
  have t1 : decide (off < 0) = false := by simpa using o1
  by_cases o2 : 4294967296 < off
  · have t2 : decide (4294967296 < off) = true := by simpa using o2
    obtain rfl : E = 2 := by rw [← hE3.out, if_pos (Or.inr o2)]
    clear hE3
    go_wp2_with ((refine wpList_store_mid rfl 38 _ _ rfl (w.heap.size + 1) 0 #[.bool false, .slice none 0 0, .bool false, .slice none 0 0, .bool false, .slice none 0 0, .bool false, .slice none 0 0, .bool false, .slice none 0 0, .bool false, .slice none 0 0, .bool false, .slice none 0 0, .bool false, .slice none 0 0] rfl rfl (qm.there (by simp)) info_box (by simp [Value.oneCell']) ?_; obtain ⟨V3, hV3, hB3, qm3, -⟩ := set_all [.bool false, .slice none 0 0, .bool false, .slice none 0 0, .bool false, .slice none 0 0, .bool false, .slice none 0 0, .bool false, .slice none 0 0, .bool false, .slice none 0 0, .bool false, .slice none 0 0, .bool false, .slice none 0 0] [.bool false, .slice none 0 0, .bool false, .slice none 0 0, .bool false, .slice none 0 0, .bool false, .slice none 0 0, .bool false, .slice none 0 0, .bool false, .slice none 0 0, .bool false, .slice none 0 0, .bool false, .slice none 0 0] rfl rfl rfl hB (by omega) qm; rw [hV3]))
    obtain ⟨d0, hd1, hd2⟩ := und_box
    refine bodyPost_ret (results_cell_tmp rfl _ _ (w.heap.size + 1) [.bool false, .slice none 0 0, .bool false, .slice none 0 0, .bool false, .slice none 0 0, .bool false, .slice none 0 0, .bool false, .slice none 0 0, .bool false, .slice none 0 0, .bool false, .slice none 0 0, .bool false, .slice none 0 0] d0 rfl (qm3.rangeAt [] (rest := []) rfl) hd1 hd2 info_box) rfl ?_
    exact ⟨fun _ => ⟨hB3, _, rfl, BoxF.zero _⟩, fun h => absurd h (by decide)⟩
  have t2 : decide (4294967296 < off) = false := by simpa using o2
  have hE4 : (if sumK (pix ps) l m' ≤ off * (m' : Int) then 18 else 0) = E := by
    have h := hE3.out
    rw [if_neg (show ¬ (off < 0 ∨ 4294967296 < off) by omega)] at h
    exact h
  replace hE4 := hide hE4
  clear hE3
  have hnz : n' ≤ 1000000000 := h9
  have hmo : (off * (m' : Int)).natAbs ≤ 4294967296 * 40 := by rw [Int.natAbs_mul]; exact Nat.mul_le_mul (by omega) (by omega)
  have hwm : wrap64 (off * (m' : Int)) = off * (m' : Int) := wrapS (by omega)
  replace hmo := hide hmo
  go_wp2_with fail
  clear a0 a1 a2 a3 f0 f1 f2 f3 hV1 hV2 q6 hst hk1 hk1' hB1 hB2 hb1
  have c2 := q0.cell 2
  simp at c2
  go_loop [10, 34] (fun sv i => ∃ k : Nat, k ≤ m' ∧ i = .int .i64 k ∧ sv = .int .i64 (sumK (pix ps) l k)) (fun _ i => m' - (intOf i).toNat)
  case atStart => exact ⟨0, by omega, rfl, rfl⟩
  case round =>
    obtain ⟨k, h1, rfl, rfl⟩ := hrel
    by_cases hk : k < m'
    · have htk : decide ((k : Int) < (m' : Int)) = true := by simp; omega
      obtain ⟨g, o, rfl, hc⟩ := hl.out.2.2.2.2 (by omega)
      have hck := hc k hk
      clear hc
      have hS : sumK (pix ps) l (k + 1) = sumK (pix ps) l k + pix ps (l[k]?.getD 0) := rfl
      have hb3 := hr.sum (k := k) (by omega)
      have hx4 := hr k hk
      obtain ⟨g', o', rfl, hc'⟩ := hp.out.2.2.2.2 (by omega)
      obtain ⟨j, hj⟩ : ∃ j : Nat, l[k]?.getD 0 = j := ⟨(l[k]?.getD 0).toNat, by omega⟩
      have hcj := hc' j (by omega)
      have hpj : pix ps (j : Int) = ps[j]?.getD 0 := by simp [pix]
      rw [hj] at hck hS hx4
      rw [← hpj] at hcj
      have hjn : j < n' := by omega
      generalize pix ps (j : Int) = x at *
      have hadd : wrap64 (sumK (pix ps) l k + x) = sumK (pix ps) l (k + 1) := by rw [hS]; exact wrapS (by omega)
      replace hS := hide hS
      replace hb3 := hide hb3
      replace hx4 := hide hx4
      replace hj := hide hj
      replace hr := hide hr
      clear hc' hpj
      go_wp2_with fail
      go_round
      case rel => exact ⟨k + 1, by omega, by go_num, by rw [hadd]⟩
      case measure => simp [intOf]; omega
    obtain rfl : k = m' := by omega
    have htk : decide ((k : Int) < (k : Int)) = false := by simp
    by_cases hs : sumK (pix ps) l k ≤ off * (k : Int)
    · have ts : decide (sumK (pix ps) l k ≤ off * (k : Int)) = true := by simpa using hs
      obtain rfl : E = 18 := by rw [← hE4.out, if_pos hs]
      clear hE4
      go_wp2_with ((refine wpList_store_mid rfl 38 _ _ rfl (w.heap.size + 1) 0 #[.bool false, .slice none 0 0, .bool false, .slice none 0 0, .bool false, .slice none 0 0, .bool false, .slice none 0 0, .bool false, .slice none 0 0, .bool false, .slice none 0 0, .bool false, .slice none 0 0, .bool false, .slice none 0 0] rfl rfl (qm.there (by simp)) info_box (by simp [Value.oneCell']) ?_; obtain ⟨V3, hV3, hB3, qm3, -⟩ := set_all [.bool false, .slice none 0 0, .bool false, .slice none 0 0, .bool false, .slice none 0 0, .bool false, .slice none 0 0, .bool false, .slice none 0 0, .bool false, .slice none 0 0, .bool false, .slice none 0 0, .bool false, .slice none 0 0] [.bool false, .slice none 0 0, .bool false, .slice none 0 0, .bool false, .slice none 0 0, .bool false, .slice none 0 0, .bool false, .slice none 0 0, .bool false, .slice none 0 0, .bool false, .slice none 0 0, .bool false, .slice none 0 0] rfl rfl rfl hB (by omega) qm; rw [hV3]))
      obtain ⟨d0, hd1, hd2⟩ := und_box
      refine bodyPost_ret (results_cell_tmp rfl _ _ (w.heap.size + 1) [.bool false, .slice none 0 0, .bool false, .slice none 0 0, .bool false, .slice none 0 0, .bool false, .slice none 0 0, .bool false, .slice none 0 0, .bool false, .slice none 0 0, .bool false, .slice none 0 0, .bool false, .slice none 0 0] d0 rfl (qm3.rangeAt [] (rest := []) rfl) hd1 hd2 info_box) rfl ?_
      first | exact ⟨fun _ => ⟨hB3, _, rfl, BoxF.zero _⟩, fun h => absurd h (by decide)⟩ | exact ⟨hB3, _, rfl, BoxF.zero _⟩
    have ts : decide (sumK (pix ps) l k ≤ off * (k : Int)) = false := by simpa using hs
    obtain rfl : E = 0 := by rw [← hE4.out, if_neg hs]
    clear hE4
    have hsc : ∀ i, i < k → 0 ≤ colv W' (l[i]?.getD 0) ∧ colv W' (l[i]?.getD 0) ≤ 99 := fun i hi => colv_bound hf.out (hr i hi).1 (hr i hi).2.1
    have hsr : ∀ i, i < k → 0 ≤ rowv W' (l[i]?.getD 0) ∧ rowv W' (l[i]?.getD 0) ≤ 99 := fun i hi => rowv_bound hf.out (hr i hi).1 (hr i hi).2.1
    have hD : ∀ (u : Int → Int) (f : Int), 0 < tden u ps l f off k ∧ 0 < tden u ps l f (-off) k := fun u f => by
      have e1 := tden_ge u ps l f off k
      have e2 := tden_ge u ps l f (-off) k
      have e3 : ((off.natAbs : Nat) : Int) = off := by omega
      have e4 : (((-off).natAbs : Nat) : Int) = off := by omega
      rw [e3] at e1
      rw [e4] at e2
      generalize off * (k : Int) = z at *
      omega
    have hq : ∀ (u : Int → Int), (∀ i, i < k → 0 ≤ u (l[i]?.getD 0) ∧ u (l[i]?.getD 0) ≤ 99) → ∀ f : Int, Sm (tq u ps l f off) ∧ Sm (tq u ps l f (-off)) := fun u hu f =>
      ⟨tq_sm hlm hr (fun i hi => by have := hu i hi; omega) (by omega) h8 (hD u f).1, tq_sm hlm hr (fun i hi => by have := hu i hi; omega) (by omega) h8 (hD u f).2⟩
    have h99 : n' ≤ 10000 := by
      have h5 := hf.out
      have : W' * H' ≤ 100 * 100 := Int.mul_le_mul h5.2.1 h5.2.2.2.1 (by omega) (by omega)
      omega
    replace hsc := hide hsc
    replace hsr := hide hsr
    replace hD := hide hD
    replace hq := hide hq
    replace hr := hide hr
    obtain ⟨V4, hV4, hB4, q13, -, hk4', sV4⟩ := new_obj 59 #[.int .i64 0] (Below.refl V2.heap.size V2) (Nat.le_refl _)
    obtain ⟨V5, hV5, hB5, q14, -, hk5', sV5⟩ := new_obj 38 #[.bool false, .slice none 0 0, .bool false, .slice none 0 0, .bool false, .slice none 0 0, .bool false, .slice none 0 0, .bool false, .slice none 0 0, .bool false, .slice none 0 0, .bool false, .slice none 0 0, .bool false, .slice none 0 0] (Below.refl V4.heap.size V4) (Nat.le_refl _)
    have hbw := hB4.trans (hB5.mono (by omega))
    replace q13 := hk5' _ _ _ q13
    rw [sV4] at q14
    have hlm := (Array.getElem?_eq_some_iff.1 qm).1
    obtain ⟨s0, s1, s2, s3, -⟩ := (keep_blk hbw q6b).four
    go_wp2_with fail
    refine (ends_ok V2.heap.size _ 17 #[.agg #[.int .i64 W', .int .i64 H', .slice A' n' c', .slice B' k d']] #[] (colv W') W' H' A' n' c' B' k d' ps l off V5 q13 (hp.out.below hbw) (hl.out.below hbw) h99 h8 hr.out hsc.out (by omega) (fun f _ => (hD.out (colv W') f).1) (fun f _ => (hD.out (colv W') f).2) (fun f _ => (hq.out (colv W') hsc.out f).1) (fun f _ => (hq.out (colv W') hsc.out f).2) (fun x W => by simp [go_sem]) (fun j W hj => by
      have hx := hr.out j hj
      simpa using column_ok W' H' A' n' c' B' k d' (l[j]?.getD 0) W (by omega) (by omega) hf.out.1 hf.out.2.1)).mono ?_
    rintro e x1 ⟨hbe, na1, A1, n1, c1, nb1, B1, m1, d1, na2, A2, n2, c2, nb2, B2, m2, d2, rfl, hF1, hF2⟩
    clear s0 s1 s2 s3 hV4 hV5 hB4 hB5 hk4' hk5' sV5
    replace hbw := hbw.trans (hbe.mono hbw.size)
    replace q13 := keep_blk hbe q13
    replace q14 := keep_blk hbe q14
    have y0 := q14.cell 0
    have y1 := q14.cell 1
    have y2 := q14.cell 2
    have y3 := q14.cell 3
    have y4 := q14.cell 4
    have y5 := q14.cell 5
    have y6 := q14.cell 6
    have y7 := q14.cell 7
    simp at y0 y1 y2 y3 y4 y5 y6 y7
    have z0 := q14.frozen 0
    have z1 := q14.frozen 1
    have z2 := q14.frozen 2
    have z3 := q14.frozen 3
    have z4 := q14.frozen 4
    have z5 := q14.frozen 5
    have z6 := q14.frozen 6
    have z7 := q14.frozen 7
    obtain ⟨U1, hU1, hbw2, q14u, hst⟩ := set_mid (t := 38) (B := V2.heap.size) (w0 := V2) (g := V2.heap.size + 1) [.bool false, .slice none 0 0, .bool false, .slice none 0 0, .bool false, .slice none 0 0, .bool false, .slice none 0 0] [.bool na1, .slice A1 n1 c1, .bool nb1, .slice B1 m1 d1, .bool na2, .slice A2 n2 c2, .bool nb2, .slice B2 m2 d2] [.bool false, .slice none 0 0, .bool false, .slice none 0 0, .bool false, .slice none 0 0, .bool false, .slice none 0 0] [] x1 0 rfl rfl rfl rfl hbw (by omega) q14
    simp only [World.setCells, Nat.reduceAdd, Nat.zero_add] at hU1
    replace q13 := hst.2.1 _ _ _ (by omega) q13
    replace hbw := hbw2
    replace q14 : Blk U1 (V2.heap.size + 1) 38 #[.bool na1, .slice A1 n1 c1, .bool nb1, .slice B1 m1 d1, .bool na2, .slice A2 n2 c2, .bool nb2, .slice B2 m2 d2, .bool false, .slice none 0 0, .bool false, .slice none 0 0, .bool false, .slice none 0 0, .bool false, .slice none 0 0] := q14u
    replace hF1 := hide (hF1.keep hst.1)
    replace hF2 := hide (hF2.keep hst.1)
    obtain ⟨s0, s1, s2, s3, -⟩ := (keep_blk hbw q6b).four
    go_wp2_with fail
    refine (ends_ok V2.heap.size _ 18 #[.agg #[.int .i64 W', .int .i64 H', .slice A' n' c', .slice B' k d']] #[] (rowv W') W' H' A' n' c' B' k d' ps l off U1 q13 (hp.out.below hbw) (hl.out.below hbw) h99 h8 hr.out hsr.out (by omega) (fun f _ => (hD.out (rowv W') f).1) (fun f _ => (hD.out (rowv W') f).2) (fun f _ => (hq.out (rowv W') hsr.out f).1) (fun f _ => (hq.out (rowv W') hsr.out f).2) (fun x W => by simp [go_sem]) (fun j W hj => by
      have hx := hr.out j hj
      simpa using row_ok W' H' A' n' c' B' k d' (l[j]?.getD 0) W (by omega) (by omega) hf.out.1 hf.out.2.1)).mono ?_
    rintro e x2 ⟨hbe, na3, A3, n3, c3, nb3, B3, m3, d3, na4, A4, n4, c4, nb4, B4, m4, d4, rfl, hF3, hF4⟩
    clear s0 s1 s2 s3 hU1 hst hbw2 q14u y0 y1 y2 y3 y4 y5 y6 y7 z0 z1 z2 z3 z4 z5 z6 z7
    replace hbw := hbw.trans (hbe.mono hbw.size)
    replace q13 := keep_blk hbe q13
    replace q14 := keep_blk hbe q14
    replace hF1 := hide (hF1.out.below hbe)
    replace hF2 := hide (hF2.out.below hbe)
    have y0 := q14.cell 8
    have y1 := q14.cell 9
    have y2 := q14.cell 10
    have y3 := q14.cell 11
    have y4 := q14.cell 12
    have y5 := q14.cell 13
    have y6 := q14.cell 14
    have y7 := q14.cell 15
    simp at y0 y1 y2 y3 y4 y5 y6 y7
    have z0 := q14.frozen 8
    have z1 := q14.frozen 9
    have z2 := q14.frozen 10
    have z3 := q14.frozen 11
    have z4 := q14.frozen 12
    have z5 := q14.frozen 13
    have z6 := q14.frozen 14
    have z7 := q14.frozen 15
    obtain ⟨U2, hU2, hbw2, q14u, hst⟩ := set_mid (t := 38) (B := V2.heap.size) (w0 := V2) (g := V2.heap.size + 1) [] [.bool na3, .slice A3 n3 c3, .bool nb3, .slice B3 m3 d3, .bool na4, .slice A4 n4 c4, .bool nb4, .slice B4 m4 d4] [.bool false, .slice none 0 0, .bool false, .slice none 0 0, .bool false, .slice none 0 0, .bool false, .slice none 0 0] [.bool na1, .slice A1 n1 c1, .bool nb1, .slice B1 m1 d1, .bool na2, .slice A2 n2 c2, .bool nb2, .slice B2 m2 d2] x2 8 rfl rfl rfl rfl hbw (by omega) q14
    simp only [World.setCells, Nat.reduceAdd, Nat.zero_add] at hU2
    replace q13 := hst.2.1 _ _ _ (by omega) q13
    replace hbw := hbw2
    replace q14 : Blk U2 (V2.heap.size + 1) 38 #[.bool na1, .slice A1 n1 c1, .bool nb1, .slice B1 m1 d1, .bool na2, .slice A2 n2 c2, .bool nb2, .slice B2 m2 d2, .bool na3, .slice A3 n3 c3, .bool nb3, .slice B3 m3 d3, .bool na4, .slice A4 n4 c4, .bool nb4, .slice B4 m4 d4] := q14u
    replace hF1 := hide (hF1.out.keep hst.1)
    replace hF2 := hide (hF2.out.keep hst.1)
    replace hF3 := hide (hF3.keep hst.1)
    replace hF4 := hide (hF4.keep hst.1)
    have ee := q13.cell 0
    simp at ee
    have qmz := keep_blk hbw qm
    have hBz := hB.trans (hbw.mono hB.size)
    obtain ⟨d0, hd1, hd2⟩ := und_box
    go_upto_region 18 with fail
    clear hU2 hbw2 q14u y0 y1 y2 y3 y4 y5 y6 y7 z0 z1 z2 z3 z4 z5 z6 z7
    go_upto_region 20 with fail
    go_wp2_with (first | (refine wpList_load_mid rfl 38 _ rfl (V2.heap.size + 1) 0 rfl [.bool na1, .slice A1 n1 c1, .bool nb1, .slice B1 m1 d1, .bool na2, .slice A2 n2 c2, .bool nb2, .slice B2 m2 d2, .bool na3, .slice A3 n3 c3, .bool nb3, .slice B3 m3 d3, .bool na4, .slice A4 n4 c4, .bool nb4, .slice B4 m4 d4] d0 (q14.rangeAt [] (rest := []) rfl) hd1 hd2 info_box ?_) | (refine wpList_store_mid rfl 38 _ _ rfl (w.heap.size + 1) 0 #[.bool na1, .slice A1 n1 c1, .bool nb1, .slice B1 m1 d1, .bool na2, .slice A2 n2 c2, .bool nb2, .slice B2 m2 d2, .bool na3, .slice A3 n3 c3, .bool nb3, .slice B3 m3 d3, .bool na4, .slice A4 n4 c4, .bool nb4, .slice B4 m4 d4] rfl rfl (qmz.there (by simp)) info_box (by simp [Value.oneCell']) ?_; obtain ⟨V9, hV9, hB9, qm9, hst9⟩ := set_all [.bool na1, .slice A1 n1 c1, .bool nb1, .slice B1 m1 d1, .bool na2, .slice A2 n2 c2, .bool nb2, .slice B2 m2 d2, .bool na3, .slice A3 n3 c3, .bool nb3, .slice B3 m3 d3, .bool na4, .slice A4 n4 c4, .bool nb4, .slice B4 m4 d4] [.bool false, .slice none 0 0, .bool false, .slice none 0 0, .bool false, .slice none 0 0, .bool false, .slice none 0 0, .bool false, .slice none 0 0, .bool false, .slice none 0 0, .bool false, .slice none 0 0, .bool false, .slice none 0 0] rfl rfl rfl hBz (by omega) qmz; rw [hV9]))
    refine bodyPost_ret (results_cell_tmp rfl _ _ (w.heap.size + 1) [.bool na1, .slice A1 n1 c1, .bool nb1, .slice B1 m1 d1, .bool na2, .slice A2 n2 c2, .bool nb2, .slice B2 m2 d2, .bool na3, .slice A3 n3 c3, .bool nb3, .slice B3 m3 d3, .bool na4, .slice A4 n4 c4, .bool nb4, .slice B4 m4 d4] d0 rfl (qm9.rangeAt [] (rest := []) rfl) hd1 hd2 info_box) rfl ?_
    have fin : BoxP w 0 (prQ (leastQ (colv W') ps l off)) (prQ (mostQ (colv W') ps l off)) (prQ (leastQ (rowv W') ps l off)) (prQ (mostQ (rowv W') ps l off)) (.returned (.tuple #[.agg #[.bool na1, .slice A1 n1 c1, .bool nb1, .slice B1 m1 d1, .bool na2, .slice A2 n2 c2, .bool nb2, .slice B2 m2 d2, .bool na3, .slice A3 n3 c3, .bool nb3, .slice B3 m3 d3, .bool na4, .slice A4 n4 c4, .bool nb4, .slice B4 m4 d4], .int .i64 0])) V9 := ⟨hB9, _, rfl, _, _, _, _, _, _, _, _, _, _, _, _, _, _, _, _, _, _, _, _, _, _, _, _, _, _, _, _, _, _, _, _, rfl, (hF1.out.keep hst9.1).fz, (hF2.out.keep hst9.1).fz, (hF3.out.keep hst9.1).fz, (hF4.out.keep hst9.1).fz⟩
    first | exact ⟨fun h => absurd rfl h, fun _ => fin⟩ | exact fin
end Go.Proofs.Ytkippclhbkjbmaa
