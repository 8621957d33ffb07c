/- The law's body: CentroidHolds returns true. -/
import Derived.Laws.Small
import Derived.Test.YtkippclhbkjbmaaGreatZh48
import Derived.Test.YtkippclhbkjbmaaGreatZh49
import Derived.Test.YtkippclhbkjbmaaGreatZh51
import Derived.Test.YtkippclhbkjbmaaGreatZh52
set_option linter.unusedSimpArgs false
set_option linter.unusedVariables false

namespace Go.Proofs.YtkippclhbkjbmaaGreat
open Go.RowKit
attribute [local go_sem] add_lit

set_option maxRecDepth 100000 in
set_option maxHeartbeats 1000000 in
theorem valid_any (W H : Int) (A : Option Addr) (n c : Nat) (B : Option Addr) (m d : Nat) (ps l : List Int) (w : World) (hp : LimI w A n c ps) (hl : LimI w B m d l) (iW : I64 W) (iH : I64 H) (b : Bool) (hb : (!(decide (100 < (n : Int)) || decide (40 < (m : Int))) && decide (startE W H n ps l = 0)) = b) :
    Calls Tryz.prog 20 #[.agg #[.int .i64 W, .int .i64 H, .slice A n c], .slice B m d] w fun e w' => e = .returned (.bool b) ∧ Below w.heap.size w w' := by
  obtain ⟨W0, hW0, hB, q0, s0⟩ := alloc1 w 24 #[.int .i64 W, .int .i64 H, .slice A n c]
  have c0 := q0.cell 0
  have c1 := q0.cell 1
  have c2 := q0.cell 2
  simp at c0 c1 c2
  replace hp := hide (hp.below hB)
  replace hl := hide (hl.below hB)
  obtain ⟨x, hx⟩ : ∃ x, (decide (100 < (n : Int)) || decide (40 < (m : Int))) = x := ⟨_, rfl⟩
  rw [hx] at hb
  go_enter Tryz.func20, Tryz.ntmps20
  go_wp2_with fail
  refine (greatL_ok W H A n c B m d W0 x hx).mono ?_
  rintro e w1 ⟨rfl, hbw⟩
  replace hB := hB.trans (hbw.mono hB.size)
  replace q0 := keep_blk hbw q0
  replace hp := hide (hp.out.below hbw)
  replace hl := hide (hl.out.below hbw)
  clear c0 c1 c2 hW0 hbw
  cases x
  case true =>
    obtain rfl : b = false := by rw [← hb]; rfl
    go_wp2_with fail
    go_ret
    exact ⟨rfl, hB⟩
  have c0 := q0.cell 0
  have c1 := q0.cell 1
  have c2 := q0.cell 2
  simp at c0 c1 c2
  simp at hx
  obtain ⟨E, hE⟩ : ∃ E, startE W H n ps l = E := ⟨_, rfl⟩
  rw [hE] at hb
  go_wp2_with fail
  refine (rStart_ok W H A n c B m d ps l w1 hp.out hl.out (by omega) (by omega) iW iH E hE).mono ?_
  rintro e w2 ⟨rfl, hbw⟩
  replace hB := hB.trans (hbw.mono hB.size)
  clear hE
  by_cases hz : E = 0
  · have tz : (E == 0) = true := by simpa using hz
    obtain rfl : b = true := by rw [← hb]; simpa using hz
    go_wp2_with fail
    go_ret
    exact ⟨rfl, hB⟩
  · have tz : (E == 0) = false := by simpa using hz
    obtain rfl : b = false := by rw [← hb]; simpa using hz
    go_wp2_with fail
    go_ret
    exact ⟨rfl, hB⟩

/-- What is added to a pixel. -/
def clampC (off y : Int) : Int := max (-off) (min off y)
theorem clampC_le {off : Int} (h : 0 ≤ off) (y : Int) : (clampC off y).natAbs ≤ off.natAbs := by
  unfold clampC
  omega

set_option maxRecDepth 100000 in
set_option maxHeartbeats 16000000 in
theorem law_holds (W H : Int) (A : Option Addr) (n c : Nat) (B : Option Addr) (m d : Nat) (ps l : List Int) (off : Int) (D : Option Addr) (nb db : Nat) (bs : List Int) (w : World) (hp : LimI w A n c ps) (hl : LimI w B m d l) (hy : LimI w D nb db bs) (iW : I64 W) (iH : I64 H) :
    Calls Tryz.prog 6 #[.agg #[.int .i64 W, .int .i64 H, .slice A n c], .slice B m d, .int .i64 off, .slice D nb db] w fun e w' => e = .returned (.bool true) ∧ Below w.heap.size w w' := by
  have hmx : Tryz.prog.follows .mixedOrders = true := by kernel_rfl
  have hnb9 : nb ≤ maxLen := Nat.le_trans hy.2.1 hy.2.2.1
  unfold maxLen at hnb9
  obtain ⟨W0, hW0, hB, q0, s0⟩ := alloc1 w 24 #[.int .i64 W, .int .i64 H, .slice A n c]
  have hlm : l.length = m := hl.lenI
  have hpl : ps.length = n := hp.lenI
  replace hp := hide hp
  replace hl := hide hl
  replace hy := hide hy
  go_enter Tryz.func6, Tryz.ntmps6
  go_wp2_with fail
  refine (alive_ok W0).mono ?_
  rintro e w1 ⟨rfl, hbw⟩
  replace hB := hB.trans (hbw.mono hB.size)
  replace q0 := keep_blk hbw q0
  clear hW0 hbw s0
  have c0 := q0.cell 0
  have c1 := q0.cell 1
  have c2 := q0.cell 2
  simp at c0 c1 c2
  obtain ⟨b, hb⟩ : ∃ b, (!(decide (100 < (n : Int)) || decide (40 < (m : Int))) && decide (startE W H n ps l = 0)) = b := ⟨_, rfl⟩
  go_wp2_with fail
  refine (valid_any W H A n c B m d ps l w1 (hp.out.below hB) (hl.out.below hB) iW iH b hb).mono ?_
  rintro e w2 ⟨rfl, hbw⟩
  replace hB := hB.trans (hbw.mono hB.size)
  replace q0 := keep_blk hbw q0
  clear hbw c0 c1 c2
  cases b
  case false =>
    go_wp2_with fail
    go_ret
    exact ⟨rfl, hB⟩
  simp at hb
  obtain ⟨⟨h9, h8⟩, hE⟩ := hb
  replace h9 : n ≤ 100 := by omega
  replace h8 : m ≤ 40 := by omega
  obtain ⟨hfo, hli⟩ := startE_zero hE
  have hf := fieldOk_size hfo
  have hr := rng_of hfo hli hlm
  have hdis : ∀ i j, i < j → j < m → l[i]?.getD 0 < l[j]?.getD 0 := fun i j hi hj => listed_incr hli i j hi (by omega)
  have hpx : ∀ k, k < m → (pix ps (l[k]?.getD 0)).natAbs ≤ 4294967296 := fun k hk => by
    have h := listed_in hli (k := k) (by omega)
    have h2 := fieldOk_pix hfo h.1 h.2
    omega
  have hm0 : 0 < m := by rw [← hlm]; exact listed_pos hli
  have hn0 : 0 < n := by
    have h := listed_in hli (k := 0) (by omega)
    omega
  have hps : psum ps l = sumK (pix ps) l m := by unfold psum; rw [hlm]
  replace hlm := hide hlm
  replace hpl := hide hpl
  replace hf := hide hf
  replace hr := hide hr
  replace hdis := hide hdis
  replace hpx := hide hpx
  replace hli := hide hli
  replace hfo := hide hfo
  by_cases o1 : off < 0
  · have t1 : decide (off < 0) = true := by simpa using o1
    go_wp2_with fail
    go_ret
    exact ⟨rfl, hB⟩
  have t1 : decide (off < 0) = false := by simpa using o1
  by_cases o2 : 1073741824 < off
  · have t2 : decide (1073741824 < off) = true := by simpa using o2
    go_wp2_with fail
    go_ret
    exact ⟨rfl, hB⟩
  have t2 : decide (1073741824 < off) = false := by simpa using o2
  by_cases o3 : 100 < nb
  · have t3 : decide (100 < (nb : Int)) = true := by simp; omega
    go_wp2_with fail
    go_ret
    exact ⟨rfl, hB⟩
  have t3 : decide (100 < (nb : Int)) = false := by simp; omega
  have c0 := q0.cell 0
  have c1 := q0.cell 1
  have c2 := q0.cell 2
  simp at c0 c1 c2
  obtain ⟨E, hEb⟩ : ∃ E, boundE W H n ps l off = E := ⟨_, rfl⟩
  have hEs : (if psum ps l ≤ off * (m : Int) then 18 else 0) = E := by
    rw [← hEb]; unfold boundE; rw [if_pos hE, if_neg (show ¬ (off < 0 ∨ 4294967296 < off) by omega), hlm.out]
  go_wp2_with fail
  refine (bound_any W H A n c B m d ps l off w2 (hp.out.below hB) (hl.out.below hB) (by omega) h8 iW iH E hEb).mono ?_
  rintro e w3 ⟨hbad, hgood⟩
  by_cases hs : psum ps l ≤ off * (m : Int)
  · obtain rfl : E = 18 := by rw [← hEs, if_pos hs]
    obtain ⟨hb3, csA, rfl, hFa⟩ := hbad (by decide)
    clear hgood hbad c0 c1 c2
    replace hB := hB.trans (hb3.mono hB.size)
    obtain ⟨qn0, qA0, qk0, qc0, qm0, qB0, qj0, qd0, qn1, qA1, qk1, qc1, qm1, qB1, qj1, qd1, qn2, qA2, qk2, qc2, qm2, qB2, qj2, qd2, qn3, qA3, qk3, qc3, qm3, qB3, qj3, qd3, rfl, -, -, -, -⟩ := hFa
    obtain ⟨V3, hV3, hB3, q6, -, -, -⟩ := new_obj 43 #[.bool false, .slice none 0 0, .bool false, .slice none 0 0, .bool false, .slice none 0 0, .bool false, .slice none 0 0, .bool false, .slice none 0 0, .bool false, .slice none 0 0, .bool false, .slice none 0 0, .bool false, .slice none 0 0] (Below.refl w3.heap.size w3) (Nat.le_refl _)
    obtain ⟨V4, hV4, hB4, -, -⟩ := set_all [.bool qn0, .slice qA0 qk0 qc0, .bool qm0, .slice qB0 qj0 qd0, .bool qn1, .slice qA1 qk1 qc1, .bool qm1, .slice qB1 qj1 qd1, .bool qn2, .slice qA2 qk2 qc2, .bool qm2, .slice qB2 qj2 qd2, .bool qn3, .slice qA3 qk3 qc3, .bool qm3, .slice qB3 qj3 qd3] [.bool false, .slice none 0 0, .bool false, .slice none 0 0, .bool false, .slice none 0 0, .bool false, .slice none 0 0, .bool false, .slice none 0 0, .bool false, .slice none 0 0, .bool false, .slice none 0 0, .bool false, .slice none 0 0] rfl rfl rfl hB3 (Nat.le_refl _) q6
    replace hB := hB.trans (hB4.mono hB.size)
    go_wp2_with (refine wpList_store_mid rfl 43 _ _ rfl w3.heap.size 0 #[.bool qn0, .slice qA0 qk0 qc0, .bool qm0, .slice qB0 qj0 qd0, .bool qn1, .slice qA1 qk1 qc1, .bool qm1, .slice qB1 qj1 qd1, .bool qn2, .slice qA2 qk2 qc2, .bool qm2, .slice qB2 qj2 qd2, .bool qn3, .slice qA3 qk3 qc3, .bool qm3, .slice qB3 qj3 qd3] rfl rfl (q6.there (by simp)) info_box (by simp [Value.oneCell']) ?_; rw [hV4])
    go_ret
    exact ⟨rfl, hB⟩
  obtain rfl : E = 0 := by rw [← hEs, if_neg hs]
  obtain ⟨hb3, csA, rfl, hFa⟩ := hgood rfl
  clear hgood hbad c0 c1 c2 hEs hEb
  replace hB := hB.trans (hb3.mono hB.size)
  replace q0 := keep_blk hb3 q0
  obtain ⟨LX, hLX⟩ : ∃ q, leastQ (colv W) ps l off = q := ⟨_, rfl⟩
  obtain ⟨MX, hMX⟩ : ∃ q, mostQ (colv W) ps l off = q := ⟨_, rfl⟩
  obtain ⟨LY, hLY⟩ : ∃ q, leastQ (rowv W) ps l off = q := ⟨_, rfl⟩
  obtain ⟨MY, hMY⟩ : ∃ q, mostQ (rowv W) ps l off = q := ⟨_, rfl⟩
  rw [hLX, hMX, hLY, hMY] at hFa
  replace hLX := hide hLX
  replace hMX := hide hMX
  replace hLY := hide hLY
  replace hMY := hide hMY
  have hsum : off * (m : Int) < sumK (pix ps) l m := by rw [← hps]; omega
  replace hsum := hide hsum
  replace hps := hide hps
  clear hs
  obtain ⟨qn0, qA0, qk0, qc0, qm0, qB0, qj0, qd0, qn1, qA1, qk1, qc1, qm1, qB1, qj1, qd1, qn2, qA2, qk2, qc2, qm2, qB2, qj2, qd2, qn3, qA3, qk3, qc3, qm3, qB3, qj3, qd3, rfl, g0, g1, g2, g3⟩ := hFa
  obtain ⟨V3, hV3, hB3, q6, hk3, -, -⟩ := new_obj 43 #[.bool false, .slice none 0 0, .bool false, .slice none 0 0, .bool false, .slice none 0 0, .bool false, .slice none 0 0, .bool false, .slice none 0 0, .bool false, .slice none 0 0, .bool false, .slice none 0 0, .bool false, .slice none 0 0] (Below.refl w3.heap.size w3) (Nat.le_refl _)
  obtain ⟨V4, hV4, hB4, qb, -⟩ := set_all [.bool qn0, .slice qA0 qk0 qc0, .bool qm0, .slice qB0 qj0 qd0, .bool qn1, .slice qA1 qk1 qc1, .bool qm1, .slice qB1 qj1 qd1, .bool qn2, .slice qA2 qk2 qc2, .bool qm2, .slice qB2 qj2 qd2, .bool qn3, .slice qA3 qk3 qc3, .bool qm3, .slice qB3 qj3 qd3] [.bool false, .slice none 0 0, .bool false, .slice none 0 0, .bool false, .slice none 0 0, .bool false, .slice none 0 0, .bool false, .slice none 0 0, .bool false, .slice none 0 0, .bool false, .slice none 0 0, .bool false, .slice none 0 0] rfl rfl rfl hB3 (Nat.le_refl _) q6
  replace hB := hB.trans (hB4.mono hB.size)
  replace q0 := keep_blk hB4 q0
  replace g0 : Hid (Fr V4 qn0 qA0 qk0 qc0 qm0 qB0 qj0 qd0 LX) := hide (g0.below hB4)
  replace g1 : Hid (Fr V4 qn1 qA1 qk1 qc1 qm1 qB1 qj1 qd1 MX) := hide (g1.below hB4)
  replace g2 : Hid (Fr V4 qn2 qA2 qk2 qc2 qm2 qB2 qj2 qd2 LY) := hide (g2.below hB4)
  replace g3 : Hid (Fr V4 qn3 qA3 qk3 qc3 qm3 qB3 qj3 qd3 MY) := hide (g3.below hB4)
  have c0 := q0.cell 0
  have c1 := q0.cell 1
  have c2 := q0.cell 2
  simp at c0 c1 c2
  go_wp2_with (refine wpList_store_mid rfl 43 _ _ rfl w3.heap.size 0 #[.bool qn0, .slice qA0 qk0 qc0, .bool qm0, .slice qB0 qj0 qd0, .bool qn1, .slice qA1 qk1 qc1, .bool qm1, .slice qB1 qj1 qd1, .bool qn2, .slice qA2 qk2 qc2, .bool qm2, .slice qB2 qj2 qd2, .bool qn3, .slice qA3 qk3 qc3, .bool qm3, .slice qB3 qj3 qd3] rfl rfl (q6.there (by simp)) info_box (by simp [Value.oneCell']) ?_; rw [hV4])
  refine (twin_ok W H A n c ps V4 (hp.out.below hB) (by omega)).mono ?_
  rintro e w4 ⟨v, rfl, hOI, hb4⟩
  obtain ⟨gt, ct, rfl, hgt, hgt2, hct, hct2, hM⟩ := hOI.mut (by rw [hpl.out]; exact hn0)
  rw [hpl.out] at hct
  clear hOI c0 c1 c2 hV3 hV4 hB3 hB4 q6 hk3
  have hgb : w3.heap.size < V4.heap.size := qb.lt
  generalize w3.heap.size = gb at *
  obtain ⟨V5, hV5, hB5, q12, -, -, sV5⟩ := new_obj 24 #[.int .i64 0, .int .i64 0, .slice none 0 0] hb4 hb4.size
  have y0 := q12.cell 0
  have y1 := q12.cell 1
  have y2 := q12.cell 2
  simp at y0 y1 y2
  have z0 := q12.frozen 0
  have z1 := q12.frozen 1
  have z2 := q12.frozen 2
  obtain ⟨V6, hV6, hbr, q12b, -⟩ := set_all [.int .i64 W, .int .i64 H, .slice (some ⟨gt, 0, none⟩) n ct] [.int .i64 0, .int .i64 0, .slice none 0 0] rfl rfl rfl hB5 hb4.size q12
  have fg : V6.heap[gt]? = V5.heap[gt]? := by rw [← hV6]; exact setCells_far _ _ _ _ _ (by omega)
  simp only [World.setCells, Nat.reduceAdd, Nat.zero_add] at hV6
  have hM6 : MutI V6 gt ps := (hM.below hgt2 (by rw [← hV5]; exact (Below.refl _ _).alloc (Nat.le_refl _) _)).blk fg
  rw [hpl.out]
  go_wp2_with fail
  clear hV5 hV6 y0 y1 y2 z0 z1 z2 q12 fg hB5 hM
  have hg12 : Hid (V4.heap.size ≤ w4.heap.size ∧ gt ≠ w4.heap.size) := hide ⟨hb4.size, by omega⟩
  clear hb4 sV5 hgt2
  generalize w4.heap.size = g12 at *
  obtain ⟨cc, hcc⟩ : ∃ cc : Nat → Int, cc = fun k => clampC off (bs[k]?.getD 0) := ⟨_, rfl⟩
  have hccb : ∀ k, (cc k).natAbs ≤ off.natAbs := fun k => by rw [hcc]; exact clampC_le (by omega) _
  replace hcc := hide hcc
  replace hccb := hide hccb
  go_loopw [13] (fun iv wr => ∃ k : Nat, k ≤ m ∧ k ≤ nb ∧ iv = .int .i64 k ∧ Below V4.heap.size V4 wr ∧ Blk wr g12 24 #[.int .i64 W, .int .i64 H, .slice (some ⟨gt, 0, none⟩) n ct] ∧ MutI wr gt (modl ps l cc k)) (fun iv _ => m - (intOf iv).toNat)
  case atStart => exact ⟨0, by omega, by omega, rfl, hbr, q12b, hM6⟩
  case round =>
    clear hbr q12b hM6
    obtain ⟨k, h1, h2, rfl, hbr, q12, hM⟩ := hrel
    have hBr := hB.trans (hbr.mono hB.size)
    by_cases hkk : k < m ∧ k < nb
    case neg =>
      have hlen : (modl ps l cc k).length = n := by rw [modl_length]; exact hpl.out
      have hII : ∀ x ∈ modl ps l cc k, I64 x := modl_I64 hp.out.2.2.2.1 hr.out hccb.out (by omega) h1
      have hgtr : gt < wr.heap.size := lt_of_cell (hM 0 (by rw [hlen]; exact hn0)).1
      have hML : ∀ wx, Below wr.heap.size wr wx → LimI wx (some ⟨gt, 0, none⟩) n ct (modl ps l cc k) := fun wx hbx => LimI.of_mut (hM.below hgtr hbx) hlen hct hct2 hII
      replace hML := hide hML
      have hpm : ∀ j, j < m → (pix (modl ps l cc k) (l[j]?.getD 0) - pix ps (l[j]?.getD 0)).natAbs ≤ off.natAbs := fun j hj => by
        rw [pix_modl hpl.out hr.out hdis.out hj h1]
        have := hccb.out j
        split <;> omega
      clear hM hII hlen hgtr
      generalize modl ps l cc k = ps' at *
      obtain ⟨x, hx⟩ : ∃ x, fieldOk W H n ps' = x := ⟨_, rfl⟩
      have hcase : m = k ∨ (k < m ∧ nb = k) := by omega
      clear hkk hccb hcc
      have c0 := q12.cell 0
      have c1 := q12.cell 1
      have c2 := q12.cell 2
      simp at c0 c1 c2
      have hk9 : k ≤ 100 := by omega
      clear h1 h2
      rcases hcase with rfl | ⟨hkm, rfl⟩
      · (try have tk0 : decide ((m : Int) < (m : Int)) = false := by simp)
        (try have tk1 : decide ((nb : Int) < (nb : Int)) = false := by simp)
        (try have tk2 : decide ((nb : Int) < (m : Int)) = true := by simp; omega)
        go_wp2_with fail
        refine (rCheck10_ok W H (some ⟨gt, 0, none⟩) n ct ps' wr (hML.out _ (Below.refl _ _)) (by omega) iW iH x hx).mono ?_
        rintro e w5 ⟨rfl, hb5⟩
        clear c0 c1 c2
        have hB5 := hBr.trans (hb5.mono hBr.size)
        replace q12 := keep_blk hb5 q12
        cases x
        case false =>
          simp only [errOf, Bool.false_eq_true, if_false]
          go_wp2_with fail
          go_ret
          exact ⟨rfl, hB5⟩
        simp only [errOf, if_true]
        have hE' : startE W H n ps' l = 0 := by unfold startE; rw [hx, hli.out]; rfl
        have hD : ∀ (u : Int → Int) (f : Int), 0 < tden u ps l f off m ∧ 0 < tden u ps l f (-off) m := fun u f => by
          have e1 := tden_ge u ps l f off m
          have e2 := tden_ge u ps l f (-off) m
          have e3 : ((off.natAbs : Nat) : Int) = off := by omega
          have e4 : (((-off).natAbs : Nat) : Int) = off := by omega
          rw [e3] at e1
          rw [e4] at e2
          have e5 := hsum.out
          generalize off * (m : Int) = z at *
          omega
        have hs' : 0 < psum ps' l := by
          have e1 := sum_near m hpm
          have e3 : ((off.natAbs : Nat) : Int) = off := by omega
          rw [e3] at e1
          have e5 := hsum.out
          unfold psum
          rw [hlm.out]
          generalize off * (m : Int) = z at *
          omega
        have huc : ∀ j, j < m → 0 ≤ colv W (l[j]?.getD 0) ∧ colv W (l[j]?.getD 0) ≤ 99 := fun j hj => colv_bound hf.out (hr.out j hj).1 (hr.out j hj).2.1
        have hur : ∀ j, j < m → 0 ≤ rowv W (l[j]?.getD 0) ∧ rowv W (l[j]?.getD 0) ≤ 99 := fun j hj => rowv_bound hf.out (hr.out j hj).1 (hr.out j hj).2.1
        have bX := mean_between hlm.out huc (by omega) hpm (hD (colv W)) hs'
        have bY := mean_between hlm.out hur (by omega) hpm (hD (rowv W)) hs'
        rw [hLX.out, hMX.out] at bX
        rw [hLY.out, hMY.out] at bY
        have hr' := rng_of hx hli.out hlm.out
        have sX : Sm (mean1 (colv W) ps' l) := mean1_sm hlm.out hr' (fun j hj => by have := huc j hj; omega) h8 hs'
        have sY : Sm (mean1 (rowv W) ps' l) := mean1_sm hlm.out hr' (fun j hj => by have := hur j hj; omega) h8 hs'
        have tqs : ∀ (u : Int → Int), (∀ j, j < m → 0 ≤ u (l[j]?.getD 0) ∧ u (l[j]?.getD 0) ≤ 99) → ∀ f : Int, Sm (tq u ps l f off) ∧ Sm (tq u ps l f (-off)) := fun u hu f =>
          ⟨tq_sm hlm.out hr.out (fun i hi => by have := hu i hi; omega) (by omega) h8 (hD u f).1, tq_sm hlm.out hr.out (fun i hi => by have := hu i hi; omega) (by omega) h8 (hD u f).2⟩
        have sLX : Sm LX := by rw [← hLX.out]; exact leastQ_sm (fun f => (tqs _ huc f).2)
        have sMX : Sm MX := by rw [← hMX.out]; exact mostQ_sm (fun f => (tqs _ huc f).1)
        have sLY : Sm LY := by rw [← hLY.out]; exact leastQ_sm (fun f => (tqs _ hur f).2)
        have sMY : Sm MY := by rw [← hMY.out]; exact mostQ_sm (fun f => (tqs _ hur f).1)
        have hwlt : ∀ j, j < m → colv W (l[j]?.getD 0) < (W.toNat : Int) := fun j hj => by
          have h0 := hf.out
          have := Int.emod_lt_of_pos (l[j]?.getD 0) (show 0 < W by omega)
          unfold colv; omega
        have hreach := least_reached (ps := ps) (off := off) hlm.out hwlt
        rw [hLX.out, hMX.out] at hreach
        replace hreach := hide hreach
        replace hD := hide hD
        replace bX := hide bX
        replace bY := hide bY
        clear tqs hur hwlt hr' hpm
        replace huc := hide huc
        have c0 := q12.cell 0
        have c1 := q12.cell 1
        have c2 := q12.cell 2
        simp at c0 c1 c2
        go_wp2_with fail
        refine ((moments_good W H (some ⟨gt, 0, none⟩) n ct B m d ps' l w5 (hML.out _ hb5) (hl.out.below hB5) h8 iW iH hE').mono fun e w' h => h.2 hs').mono ?_
        rintro e w6 ⟨hb6, csM, rfl, hFm⟩
        clear c0 c1 c2 hML hE' hx
        replace hbr := hbr.trans ((hb5.trans (hb6.mono hb5.size)).mono hbr.size)
        clear hb5 hb6 hBr hB5 q12
        obtain ⟨pn0, pA0, pk0, pc0, pm0, pB0, pj0, pd0, pn1, pA1, pk1, pc1, pm1, pB1, pj1, pd1, pn2, pA2, pk2, pc2, pm2, pB2, pj2, pd2, pn3, pA3, pk3, pc3, pm3, pB3, pj3, pd3, pn4, pA4, pk4, pc4, pm4, pB4, pj4, pd4, rfl, e0, e1, -, -, -⟩ := hFm
        replace e0 : Hid (Fr w6 pn0 pA0 pk0 pc0 pm0 pB0 pj0 pd0 (mean1 (colv W) ps' l)) := hide e0
        replace e1 : Hid (Fr w6 pn1 pA1 pk1 pc1 pm1 pB1 pj1 pd1 (mean1 (rowv W) ps' l)) := hide e1
        generalize (momOf W ps' l).s = sv
        replace hs' := hide hs'
        generalize mean1 (colv W) ps' l = X at *
        generalize mean1 (rowv W) ps' l = Y at *
        obtain ⟨V7, hV7, hB7, q14, -, -, sV7⟩ := new_obj 34 #[.int .i64 0, .bool false, .slice none 0 0, .bool false, .slice none 0 0, .bool false, .slice none 0 0, .bool false, .slice none 0 0, .bool false, .slice none 0 0, .bool false, .slice none 0 0, .bool false, .slice none 0 0, .bool false, .slice none 0 0, .bool false, .slice none 0 0, .bool false, .slice none 0 0] (Below.refl w6.heap.size w6) (Nat.le_refl _)
        obtain ⟨V8, hV8, hB8, qm, -⟩ := set_all [.int .i64 sv, .bool pn0, .slice pA0 pk0 pc0, .bool pm0, .slice pB0 pj0 pd0, .bool pn1, .slice pA1 pk1 pc1, .bool pm1, .slice pB1 pj1 pd1, .bool pn2, .slice pA2 pk2 pc2, .bool pm2, .slice pB2 pj2 pd2, .bool pn3, .slice pA3 pk3 pc3, .bool pm3, .slice pB3 pj3 pd3, .bool pn4, .slice pA4 pk4 pc4, .bool pm4, .slice pB4 pj4 pd4] [.int .i64 0, .bool false, .slice none 0 0, .bool false, .slice none 0 0, .bool false, .slice none 0 0, .bool false, .slice none 0 0, .bool false, .slice none 0 0, .bool false, .slice none 0 0, .bool false, .slice none 0 0, .bool false, .slice none 0 0, .bool false, .slice none 0 0, .bool false, .slice none 0 0] rfl rfl rfl hB7 (Nat.le_refl _) q14
        replace e0 := hide (e0.out.below hB8)
        replace e1 := hide (e1.out.below hB8)
        have hz := hbr.trans (hB8.mono hbr.size)
        have hBz := hB.trans (hz.mono hB.size)
        replace qb := keep_blk hz qb
        replace q0 := keep_blk hz q0
        replace g0 := hide (g0.out.below hz)
        replace g1 := hide (g1.out.below hz)
        replace g2 := hide (g2.out.below hz)
        replace g3 := hide (g3.out.below hz)
        clear hbr
        obtain ⟨dd, hd1, hd2⟩ := und_box
        have a1 := qm.cell 1
        have a2 := qm.cell 2
        have a3 := qm.cell 3
        have a4 := qm.cell 4
        have a5 := qm.cell 5
        have a6 := qm.cell 6
        have a7 := qm.cell 7
        have a8 := qm.cell 8
        simp at a1 a2 a3 a4 a5 a6 a7 a8
        go_wp2_with (first | (refine wpList_store_mid rfl 34 _ _ rfl w6.heap.size 0 #[.int .i64 sv, .bool pn0, .slice pA0 pk0 pc0, .bool pm0, .slice pB0 pj0 pd0, .bool pn1, .slice pA1 pk1 pc1, .bool pm1, .slice pB1 pj1 pd1, .bool pn2, .slice pA2 pk2 pc2, .bool pm2, .slice pB2 pj2 pd2, .bool pn3, .slice pA3 pk3 pc3, .bool pm3, .slice pB3 pj3 pd3, .bool pn4, .slice pA4 pk4 pc4, .bool pm4, .slice pB4 pj4 pd4] rfl rfl (q14.there (by simp)) info_mom (by simp [Value.oneCell']) ?_; rw [hV8]) | (refine wpList_load_mid rfl 43 _ rfl gb 0 rfl [.bool qn0, .slice qA0 qk0 qc0, .bool qm0, .slice qB0 qj0 qd0, .bool qn1, .slice qA1 qk1 qc1, .bool qm1, .slice qB1 qj1 qd1, .bool qn2, .slice qA2 qk2 qc2, .bool qm2, .slice qB2 qj2 qd2, .bool qn3, .slice qA3 qk3 qc3, .bool qm3, .slice qB3 qj3 qd3] dd (qb.rangeAt [] (rest := []) rfl) hd1 hd2 info_box ?_))
        refine (holds_ok qn0 qm0 qA0 qB0 qk0 qc0 qj0 qd0 qn1 qm1 qA1 qB1 qk1 qc1 qj1 qd1 qn2 qm2 qA2 qB2 qk2 qc2 qj2 qd2 qn3 qm3 qA3 qB3 qk3 qc3 qj3 qd3 pn0 pm0 pA0 pB0 pk0 pc0 pj0 pd0 pn1 pm1 pA1 pB1 pk1 pc1 pj1 pd1 LX MX LY MY X Y V8 g0.out sLX g1.out sMX g2.out sLY g3.out sMY e0.out sX e1.out sY true (by simp [accB, cmpQ_le, bX.out, bY.out])).mono ?_
        rintro e w7 ⟨rfl, hb7⟩
        clear hV7 hV8 hB7 hB8 q14 sV7 e0 e1 sX sY bX bY a1 a2 a3 a4 a5 a6 a7 a8 qm g2 g3 sLY sMY
        generalize w6.heap.size = g14 at *
        replace hBz := hBz.trans (hb7.mono hBz.size)
        replace qb := keep_blk hb7 qb
        replace q0 := keep_blk hb7 q0
        replace g0 := hide (g0.out.below hb7)
        replace g1 := hide (g1.out.below hb7)
        clear hb7 hz
        go_wp2_with fail
        obtain ⟨qd, hqd⟩ : ∃ qd : Nat → Rat, qd = fun f : Nat => tq (colv W) ps l (f : Int) (-off) := ⟨_, rfl⟩
        obtain ⟨qu, hqu⟩ : ∃ qu : Nat → Rat, qu = fun f : Nat => tq (colv W) ps l (f : Int) off := ⟨_, rfl⟩
        have hre : ((List.range (W.toNat + 1)).any fun i => decide (qd i = LX)) = true ∧ ((List.range (W.toNat + 1)).any fun i => decide (qu i = MX)) = true := by rw [hqd, hqu]; exact hreach.out
        replace hre := hide hre
        clear hreach
        obtain ⟨qa, hqa⟩ : ∃ qa : Nat → Bool, qa = fun i => decide (qd i = LX) := ⟨_, rfl⟩
        obtain ⟨qz, hqz⟩ : ∃ qz : Nat → Bool, qz = fun i => decide (qu i = MX) := ⟨_, rfl⟩
        replace hre : Hid ((List.range (W.toNat + 1)).any qa = true ∧ (List.range (W.toNat + 1)).any qz = true) := hide (by rw [hqa, hqz]; exact hre.out)
        replace hqd := hide hqd
        replace hqu := hide hqu
        replace hqa := hide hqa
        replace hqz := hide hqz
        have hW1 : 1 ≤ W := hf.out.1
        have hW2 : W ≤ 100 := hf.out.2.1

        go_loopw [18, 19, 20] (fun lv mv iv wx => ∃ f : Nat, f ≤ W.toNat + 1 ∧ iv = .int .i64 f ∧ lv = .bool ((List.range f).any qa) ∧ mv = .bool ((List.range f).any qz) ∧ Below w7.heap.size w7 wx) (fun _ _ iv _ => W.toNat + 1 - (intOf iv).toNat)
        case atStart => exact ⟨0, by omega, rfl, rfl, rfl, Below.refl _ _⟩
        case round =>
          obtain ⟨f, hf1, rfl, rfl, rfl, hbr2⟩ := hrel
          by_cases hfw : f ≤ W.toNat
          case neg =>
            have tk : ¬ ((f : Int) ≤ W) := by omega
            have tkd : decide ((f : Int) ≤ W) = false := by simpa using tk
            have e1 : (List.range f).any qa = true := by rw [show f = W.toNat + 1 by omega]; exact hre.out.1
            have e2 : (List.range f).any qz = true := by rw [show f = W.toNat + 1 by omega]; exact hre.out.2
            rw [e1, e2]
            clear e1 e2
            have c0 := (keep_blk hbr2 q0).cell 0
            simp at c0
            go_wp2_with fail
            go_ret
            exact ⟨rfl, hBz.trans (hbr2.mono hBz.size)⟩
          have tk : (f : Int) ≤ W := by omega
          have tkd : decide ((f : Int) ≤ W) = true := by simpa using tk
          have eA := any_succ qa f
          have eZ := any_succ qz f
          obtain ⟨la, hla⟩ : ∃ la, (List.range f).any qa = la := ⟨_, rfl⟩
          obtain ⟨lz, hlz⟩ : ∃ lz, (List.range f).any qz = lz := ⟨_, rfl⟩
          rw [hla] at eA
          rw [hlz] at eZ
          rw [hla, hlz]
          replace eA := hide eA
          replace eZ := hide eZ
          clear hla hlz
          have hSf : ∀ wx, Below w7.heap.size w7 wx → wx.cell? ⟨w.heap.size, 0, none⟩ = some (.int .i64 W) ∧ wx.cell? ⟨w.heap.size, 1, none⟩ = some (.int .i64 H) ∧ wx.cell? ⟨w.heap.size, 2, none⟩ = some (.slice A n c) := fun wx hbx => by
            have e0 := (keep_blk hbx q0).cell 0
            have e1 := (keep_blk hbx q0).cell 1
            have e2 := (keep_blk hbx q0).cell 2
            simp at e0 e1 e2
            exact ⟨e0, e1, e2⟩
          replace hSf := hide hSf
          have c0 := (hSf.out _ hbr2).1
          have hneg : wrap64 (-off) = -off := wrapS (by omega)
          have hneg2 : IntKind.i64.wrap (-off) = -off := by rw [IntKind.wrap_i64]; omega
          have ho1 : off.natAbs ≤ 4294967296 := by omega
          have ho2 : (-off).natAbs ≤ 4294967296 := by omega
          have hb8 : Below w7.heap.size w7 wr.drew := below_dn hbr2 1
          have hBl : ∀ wx, Below w7.heap.size w7 wx → Below w.heap.size w wx := fun wx hbx => hBz.trans (hbx.mono hBz.size)
          replace hBl := hide hBl
          go_upto_region 24 with fail
          clear c0
          go_cut [21, 22] from 124 to 185 (fun pv qv wx => ∃ h1 h2 ga ca gd cd : Nat, pv = .pointer (some ⟨h1, 0, none⟩) ∧ qv = .pointer (some ⟨h2, 0, none⟩) ∧ Below w7.heap.size w7 wx ∧ Blk wx h1 24 #[.int .i64 W, .int .i64 H, .slice (some ⟨ga, 0, none⟩) n ca] ∧ Blk wx h2 24 #[.int .i64 W, .int .i64 H, .slice (some ⟨gd, 0, none⟩) n cd] ∧ LimI wx (some ⟨ga, 0, none⟩) n ca (tlt false W ps l f off m) ∧ LimI wx (some ⟨gd, 0, none⟩) n cd (tlt false W ps l f (-off) m))
          case first =>
            refine wp_held [] (fun wx => wx.cell? ⟨w.heap.size, 0, none⟩ = some (.int .i64 W) ∧ wx.cell? ⟨w.heap.size, 1, none⟩ = some (.int .i64 H) ∧ wx.cell? ⟨w.heap.size, 2, none⟩ = some (.slice A n c)) hmx (hSf.out _ hb8) (fun _ => ?_)
            refine wpAnyL_take (i := 0) (v := ?v501) rfl (by kernel_rfl) (by kernel_rfl) (by kernel_rfl) (by kernel_rfl) (by kernel_rfl) (Or.inl ⟨by rfl, ?hy501⟩) (hSf.out _ hb8) ?rest501
            case hy501 => (intro W2 hSw; (try dsimp only at hSw); go_simp; try with_reducible rfl)
            try simp only [Act.put, List.setIfInBounds_toArray, List.set_cons_zero, List.set_cons_succ]
            refine wpAnyL_take (i := 1) (v := ?v502) rfl (by kernel_rfl) (by kernel_rfl) (by kernel_rfl) (by kernel_rfl) (by kernel_rfl) (Or.inl ⟨by rfl, ?hy502⟩) (hSf.out _ hb8) ?rest502
            case hy502 => (intro W2 hSw; (try dsimp only at hSw); go_simp; try with_reducible rfl)
            try simp only [Act.put, List.setIfInBounds_toArray, List.set_cons_zero, List.set_cons_succ]
            refine wpAnyL_take (i := 2) (v := ?v503) rfl (by kernel_rfl) (by kernel_rfl) (by kernel_rfl) (by kernel_rfl) (by kernel_rfl) (Or.inl ⟨by rfl, ?hy503⟩) (hSf.out _ hb8) ?rest503
            case hy503 => (intro W2 hSw; (try dsimp only at hSw); go_simp; try with_reducible rfl)
            try simp only [Act.put, List.setIfInBounds_toArray, List.set_cons_zero, List.set_cons_succ]
            refine wpAnyL_take (i := 3) (v := ?v504) rfl (by kernel_rfl) (by kernel_rfl) (by kernel_rfl) (by kernel_rfl) (by kernel_rfl) (Or.inl ⟨by rfl, ?hy504⟩) (hSf.out _ hb8) ?rest504
            case hy504 => (intro W2 hSw; (try dsimp only at hSw); go_simp; try with_reducible rfl)
            try simp only [Act.put, List.setIfInBounds_toArray, List.set_cons_zero, List.set_cons_succ]
            refine wpAnyL_take (i := 5) (v := ?v505) rfl (by kernel_rfl) (by kernel_rfl) (by kernel_rfl) (by kernel_rfl) (by kernel_rfl) (Or.inl ⟨by rfl, ?hy505⟩) (hSf.out _ hb8) ?rest505
            case hy505 => (intro W2 hSw; (try dsimp only at hSw); go_simp; try with_reducible rfl)
            try simp only [Act.put, List.setIfInBounds_toArray, List.set_cons_zero, List.set_cons_succ]
            refine wpAnyL_take (i := 6) (v := ?v506) rfl (by kernel_rfl) (by kernel_rfl) (by kernel_rfl) (by kernel_rfl) (by kernel_rfl) (Or.inl ⟨by rfl, ?hy506⟩) (hSf.out _ hb8) ?rest506
            case hy506 => (intro W2 hSw; (try dsimp only at hSw); go_simp; try with_reducible rfl)
            try simp only [Act.put, List.setIfInBounds_toArray, List.set_cons_zero, List.set_cons_succ]
            refine wpAnyL_take (i := 7) (v := ?v507) rfl (by kernel_rfl) (by kernel_rfl) (by kernel_rfl) (by kernel_rfl) (by kernel_rfl) (Or.inl ⟨by rfl, ?hy507⟩) (hSf.out _ hb8) ?rest507
            case hy507 => (intro W2 hSw; (try dsimp only at hSw); go_simp; try with_reducible rfl)
            try simp only [Act.put, List.setIfInBounds_toArray, List.set_cons_zero, List.set_cons_succ]
            refine wpAnyL_take (i := 8) (v := ?v508) rfl (by kernel_rfl) (by kernel_rfl) (by kernel_rfl) (by kernel_rfl) (by kernel_rfl) (Or.inl ⟨by rfl, ?hy508⟩) (hSf.out _ hb8) ?rest508
            case hy508 => (intro W2 hSw; (try dsimp only at hSw); go_simp; try with_reducible rfl)
            try simp only [Act.put, List.setIfInBounds_toArray, List.set_cons_zero, List.set_cons_succ]
            refine wpAnyL_take (i := 9) (v := ?v509) rfl (by kernel_rfl) (by kernel_rfl) (by kernel_rfl) (by kernel_rfl) (by kernel_rfl) (Or.inl ⟨by rfl, ?hy509⟩) (hSf.out _ hb8) ?rest509
            case hy509 => (intro W2 hSw; (try dsimp only at hSw); go_simp; try with_reducible rfl)
            try simp only [Act.put, List.setIfInBounds_toArray, List.set_cons_zero, List.set_cons_succ]
            refine wpAnyL_free2 11 12 21 22 2 24 24 #[.int .i64 0, .int .i64 0, .slice none 0 0] #[.int .i64 0, .int .i64 0, .slice none 0 0] [4, 10] (by decide) (by decide) (by kernel_rfl) (by simp) (by simp) (fun wx hbx => hSf.out _ (hb8.trans (hbx.mono hb8.size))) ?hA1 ?hA2 ?_
            case hA1 => (intro K a w h; refine wpOp_shut (i := 11) rfl (fun K2 hK2 => ?_); go_simp; exact hK2.out _ _ h)
            case hA2 => (intro K a w h; refine wpOp_shut (i := 12) rfl (fun K2 hK2 => ?_); go_simp; exact hK2.out _ _ h)
            refine chain_cons (fun u1 u2 wa hba => ?_)
            refine wpOp_shut (i := 4) rfl (fun K hK => ?_)
            try simp only [puts, cn, if_true, Act.put, List.setIfInBounds_toArray, List.set_cons_zero, List.set_cons_succ]
            go_simp
            have hba8 := hb8.trans (hba.mono hb8.size)
            refine (rtilted_ok W H A n c B m d ps l false f off wa (hp.out.below (hBl.out _ hba8)) (hl.out.below (hBl.out _ hba8)) hf.out h8 hn0 hr.out hdis.out ho1).mono ?_
            rintro e wb ⟨⟨ga, ca, rfl, hga, hLa⟩, hbb⟩
            refine hK.out _ _ ⟨⟨rfl, rfl, hbb⟩, ?_⟩
            clear hK K
            try simp only [puts, cn, if_true, Act.put, List.setIfInBounds_toArray, List.set_cons_zero, List.set_cons_succ]
            have hbb8 := hba8.trans (hbb.mono hba8.size)
            replace hLa := hide hLa
            refine chain_cons (fun u3 u4 wc hbc => ?_)
            refine wpOp_shut (i := 10) rfl (fun K hK => ?_)
            try simp only [puts, cn, if_true, Act.put, List.setIfInBounds_toArray, List.set_cons_zero, List.set_cons_succ]
            go_simp
            (try rw [hneg2])
            (try rw [hneg])
            have hbc8 := hbb8.trans (hbc.mono hbb8.size)
            refine (rtilted_ok W H A n c B m d ps l false f (-off) wc (hp.out.below (hBl.out _ hbc8)) (hl.out.below (hBl.out _ hbc8)) hf.out h8 hn0 hr.out hdis.out ho2).mono ?_
            rintro e wd ⟨⟨gd, cd, rfl, hgd, hLb⟩, hbd⟩
            refine hK.out _ _ ⟨⟨rfl, rfl, hbd⟩, ?_⟩
            clear hK K
            try simp only [puts, cn, if_true, Act.put, List.setIfInBounds_toArray, List.set_cons_zero, List.set_cons_succ]
            have hbd8 := hbc8.trans (hbd.mono hbc8.size)
            replace hLb := hide hLb
            refine chain_nil (fun h1 h2 we hbe k1 k2 j1 j2 hne ia ib => ?_)
            have hbe8 := hbd8.trans (hbe.mono hbd8.size)
            have ia1 := ia _ (List.mem_cons_self ..)
            have ia2 := ia _ (List.mem_cons_of_mem _ (List.mem_cons_self ..))
            have ib1 := ib _ (List.mem_cons_self ..)
            have ib2 := ib _ (List.mem_cons_of_mem _ (List.mem_cons_self ..))
            have xa := hLa.out.lt hn0
            have xb := hLb.out.lt hn0
            simp only at ia1 ia2 ib1 ib2
            have ze := hb8.size
            have n1 : ga ≠ h1 ∧ gd ≠ h1 ∧ ga ≠ h2 ∧ gd ≠ h2 := by omega
            replace hLa := hide (hLa.out.below ((hbc.trans (hbd.mono hbc.size)).trans (hbe.mono (Nat.le_trans hbc.size hbd.size))))
            replace hLb := hide (hLb.out.below hbe)
            clear hba8 hbb8 hbc8 hbd8 ia ib ia1 ia2 ib1 ib2 xa xb hga hgd hba hbb hbc hbd hbe
            replace j1 : wr.heap.size ≤ h1 := j1
            replace j2 : wr.heap.size ≤ h2 := j2
            replace ze : w7.heap.size ≤ wr.heap.size := ze
            replace n1 := hide n1
            have y0 := k1.cell 0
            have y1 := k1.cell 1
            have y2 := k1.cell 2
            simp at y0 y1 y2
            have z0 := k1.frozen 0
            have z1 := k1.frozen 1
            have z2 := k1.frozen 2
            obtain ⟨V, hV, hBV, p1, hst⟩ := set_all [.int .i64 W, .int .i64 H, .slice (some ⟨ga, 0, none⟩) n ca] [.int .i64 0, .int .i64 0, .slice none 0 0] rfl rfl rfl hbe8 (by omega) k1
            have fa : V.heap[ga]? = we.heap[ga]? := by rw [← hV]; exact setCells_far _ _ _ _ _ n1.out.1
            have fb : V.heap[gd]? = we.heap[gd]? := by rw [← hV]; exact setCells_far _ _ _ _ _ n1.out.2.1
            simp only [World.setCells, Nat.reduceAdd, Nat.zero_add] at hV
            have p2 := hst.2.1 _ _ _ (Ne.symm hne) k2
            replace hLa := hide (hLa.out.heap fa)
            replace hLb := hide (hLb.out.heap fb)
            try simp only [puts, cn, if_true, Act.put, List.setIfInBounds_toArray, List.set_cons_zero, List.set_cons_succ]
            refine wpAnyL_one (i := 13) rfl (by kernel_rfl) (fun K hK => ?_)
            go_simp
            (try rw [hV])
            refine hK.out _ _ (fun _ => hSf.out _ hBV) ?_
            clear hK K y0 y1 y2 z0 z1 z2 hV fa fb
            try simp only [puts, cn, if_true, Act.put, List.setIfInBounds_toArray, List.set_cons_zero, List.set_cons_succ]
            have y0 := p2.cell 0
            have y1 := p2.cell 1
            have y2 := p2.cell 2
            simp at y0 y1 y2
            have z0 := p2.frozen 0
            have z1 := p2.frozen 1
            have z2 := p2.frozen 2
            obtain ⟨Ux, hU, hBU, p3, hst2⟩ := set_all [.int .i64 W, .int .i64 H, .slice (some ⟨gd, 0, none⟩) n cd] [.int .i64 0, .int .i64 0, .slice none 0 0] rfl rfl rfl hBV (by omega) p2
            have fa : Ux.heap[ga]? = V.heap[ga]? := by rw [← hU]; exact setCells_far _ _ _ _ _ n1.out.2.2.1
            have fb : Ux.heap[gd]? = V.heap[gd]? := by rw [← hU]; exact setCells_far _ _ _ _ _ n1.out.2.2.2
            simp only [World.setCells, Nat.reduceAdd, Nat.zero_add] at hU
            have p4 := hst2.2.1 _ _ _ hne p1
            replace hLa := hide (hLa.out.heap fa)
            replace hLb := hide (hLb.out.heap fb)
            refine wpAnyL_one (i := 14) rfl (by kernel_rfl) (fun K hK => ?_)
            go_simp
            (try rw [hU])
            refine hK.out _ _ (fun _ => hSf.out _ hBU) ?_
            clear hK K y0 y1 y2 z0 z1 z2 hU fa fb
            try simp only [puts, cn, if_true, Act.put, List.setIfInBounds_toArray, List.set_cons_zero, List.set_cons_succ]
            refine wpAnyL_done (by kernel_rfl) ?_ _
            refine OnlyNormal.normal ?_
            try simp only [puts, cn, if_true, Act.put, List.setIfInBounds_toArray, List.set_cons_zero, List.set_cons_succ]
            go_simp
            go_wp2_with fail
            go_meet
            exact ⟨_, _, _, _, _, _, rfl, rfl, hBU, p4, p3, hLa.out, hLb.out⟩
          case rest =>
            clear hbr2 hb8
            obtain ⟨h1, h2, ga, ca, gd, cd, rfl, rfl, hbr2, p1, p2, hLa, hLb⟩ := hcut
            have huP : 0 < psum (tlt false W ps l f off m) l := by rw [psum_tlt hlm.out hpl.out hr.out hdis.out]; exact (hD.out (colv W) f).1
            have hdP : 0 < psum (tlt false W ps l f (-off) m) l := by rw [psum_tlt hlm.out hpl.out hr.out hdis.out]; exact (hD.out (colv W) f).2
            have huX : mean1 (colv W) (tlt false W ps l f off m) l = qu f := by rw [hqu.out]; exact mean1_tlt hlm.out hpl.out hr.out hdis.out
            have hdX : mean1 (colv W) (tlt false W ps l f (-off) m) l = qd f := by rw [hqd.out]; exact mean1_tlt hlm.out hpl.out hr.out hdis.out
            generalize tlt false W ps l f off m = tu at *
            generalize tlt false W ps l f (-off) m = td at *
            replace hLa := hide hLa
            replace hLb := hide hLb
            replace huP := hide huP
            replace hdP := hide hdP
            replace huX := hide huX
            replace hdX := hide hdX
            obtain ⟨x1, hx1⟩ : ∃ x, fieldOk W H n tu = x := ⟨_, rfl⟩
            obtain ⟨x2, hx2⟩ : ∃ x, fieldOk W H n td = x := ⟨_, rfl⟩
            have c0 := p1.cell 0
            have c1 := p1.cell 1
            have c2 := p1.cell 2
            simp at c0 c1 c2
            go_wp2_with fail
            refine (rCheck10_ok W H (some ⟨ga, 0, none⟩) n ca tu wc hLa.out (by omega) iW iH x1 hx1).mono ?_
            rintro e w8 ⟨rfl, hb⟩
            clear c0 c1 c2
            replace hbr2 := hbr2.trans (hb.mono hbr2.size)
            replace p1 := keep_blk hb p1
            replace p2 := keep_blk hb p2
            replace hLa := hide (hLa.out.below hb)
            replace hLb := hide (hLb.out.below hb)
            clear hb
            cases x1
            case false =>
              simp only [errOf, Bool.false_eq_true, if_false]
              go_wp2_with fail
              go_ret
              exact ⟨rfl, hBl.out _ hbr2⟩
            simp only [errOf, if_true]
            have c0 := p2.cell 0
            have c1 := p2.cell 1
            have c2 := p2.cell 2
            simp at c0 c1 c2
            go_wp2_with fail
            refine (rCheck10_ok W H (some ⟨gd, 0, none⟩) n cd td w8 hLb.out (by omega) iW iH x2 hx2).mono ?_
            rintro e w9 ⟨rfl, hb⟩
            clear c0 c1 c2
            replace hbr2 := hbr2.trans (hb.mono hbr2.size)
            replace p1 := keep_blk hb p1
            replace p2 := keep_blk hb p2
            replace hLa := hide (hLa.out.below hb)
            replace hLb := hide (hLb.out.below hb)
            clear hb
            cases x2
            case false =>
              simp only [errOf, Bool.false_eq_true, if_false]
              go_wp2_with fail
              go_ret
              exact ⟨rfl, hBl.out _ hbr2⟩
            simp only [errOf, if_true]
            have hEu : startE W H n tu l = 0 := by unfold startE; rw [hx1, hli.out]; rfl
            have hEd : startE W H n td l = 0 := by unfold startE; rw [hx2, hli.out]; rfl
            clear hx1 hx2
            have c0 := p1.cell 0
            have c1 := p1.cell 1
            have c2 := p1.cell 2
            simp at c0 c1 c2
            go_wp2_with fail
            refine ((moments_good W H (some ⟨ga, 0, none⟩) n ca B m d tu l w9 hLa.out (hl.out.below (hBl.out _ hbr2)) h8 iW iH hEu).mono fun e w' h => h.2 huP.out).mono ?_
            rintro e w10 ⟨hb, csM, rfl, hFm⟩
            clear c0 c1 c2 hLa hEu huP p1
            replace hbr2 := hbr2.trans (hb.mono hbr2.size)
            replace p2 := keep_blk hb p2
            replace hLb := hide (hLb.out.below hb)
            clear hb
            obtain ⟨un0, uA0, uk0, uc0, um0, uB0, uj0, ud0, un1, uA1, uk1, uc1, um1, uB1, uj1, ud1, un2, uA2, uk2, uc2, um2, uB2, uj2, ud2, un3, uA3, uk3, uc3, um3, uB3, uj3, ud3, un4, uA4, uk4, uc4, um4, uB4, uj4, ud4, rfl, e0, -, -, -, -⟩ := hFm
            replace e0 : Hid (Fr w10 un0 uA0 uk0 uc0 um0 uB0 uj0 ud0 (qu f)) := hide (by rw [← huX.out]; exact e0)
            generalize (momOf W tu l).s = su
            obtain ⟨V11, hV11, hB11, r11, -, -, sV11⟩ := new_obj 34 #[.int .i64 0, .bool false, .slice none 0 0, .bool false, .slice none 0 0, .bool false, .slice none 0 0, .bool false, .slice none 0 0, .bool false, .slice none 0 0, .bool false, .slice none 0 0, .bool false, .slice none 0 0, .bool false, .slice none 0 0, .bool false, .slice none 0 0, .bool false, .slice none 0 0] (Below.refl w10.heap.size w10) (Nat.le_refl _)
            obtain ⟨V12, hV12, hB12, ru, -⟩ := set_all [.int .i64 su, .bool un0, .slice uA0 uk0 uc0, .bool um0, .slice uB0 uj0 ud0, .bool un1, .slice uA1 uk1 uc1, .bool um1, .slice uB1 uj1 ud1, .bool un2, .slice uA2 uk2 uc2, .bool um2, .slice uB2 uj2 ud2, .bool un3, .slice uA3 uk3 uc3, .bool um3, .slice uB3 uj3 ud3, .bool un4, .slice uA4 uk4 uc4, .bool um4, .slice uB4 uj4 ud4] [.int .i64 0, .bool false, .slice none 0 0, .bool false, .slice none 0 0, .bool false, .slice none 0 0, .bool false, .slice none 0 0, .bool false, .slice none 0 0, .bool false, .slice none 0 0, .bool false, .slice none 0 0, .bool false, .slice none 0 0, .bool false, .slice none 0 0, .bool false, .slice none 0 0] rfl rfl rfl hB11 (Nat.le_refl _) r11
            replace hbr2 := hbr2.trans (hB12.mono hbr2.size)
            replace p2 := keep_blk hB12 p2
            replace hLb := hide (hLb.out.below hB12)
            replace e0 := hide (e0.out.below hB12)
            have c0 := p2.cell 0
            have c1 := p2.cell 1
            have c2 := p2.cell 2
            simp at c0 c1 c2
            go_wp2_with (refine wpList_store_mid rfl 34 _ _ rfl w10.heap.size 0 #[.int .i64 su, .bool un0, .slice uA0 uk0 uc0, .bool um0, .slice uB0 uj0 ud0, .bool un1, .slice uA1 uk1 uc1, .bool um1, .slice uB1 uj1 ud1, .bool un2, .slice uA2 uk2 uc2, .bool um2, .slice uB2 uj2 ud2, .bool un3, .slice uA3 uk3 uc3, .bool um3, .slice uB3 uj3 ud3, .bool un4, .slice uA4 uk4 uc4, .bool um4, .slice uB4 uj4 ud4] rfl rfl (r11.there (by simp)) info_mom (by simp [Value.oneCell']) ?_; rw [hV12])
            refine ((moments_good W H (some ⟨gd, 0, none⟩) n cd B m d td l V12 hLb.out (hl.out.below (hBl.out _ hbr2)) h8 iW iH hEd).mono fun e w' h => h.2 hdP.out).mono ?_
            rintro e w13 ⟨hb, csN, rfl, hFm⟩
            clear c0 c1 c2 hLb hEd hdP p2 hV11 hV12 hB11 hB12 r11 sV11
            generalize w10.heap.size = gu at *
            replace hbr2 := hbr2.trans (hb.mono hbr2.size)
            replace ru := keep_blk hb ru
            replace e0 := hide (e0.out.below hb)
            clear hb
            obtain ⟨vn0, vA0, vk0, vc0, vm0, vB0, vj0, vd0, vn1, vA1, vk1, vc1, vm1, vB1, vj1, vd1, vn2, vA2, vk2, vc2, vm2, vB2, vj2, vd2, vn3, vA3, vk3, vc3, vm3, vB3, vj3, vd3, vn4, vA4, vk4, vc4, vm4, vB4, vj4, vd4, rfl, e1, -, -, -, -⟩ := hFm
            replace e1 : Hid (Fr w13 vn0 vA0 vk0 vc0 vm0 vB0 vj0 vd0 (qd f)) := hide (by rw [← hdX.out]; exact e1)
            generalize (momOf W td l).s = sd
            obtain ⟨V14, hV14, hB14, r14, -, -, sV14⟩ := new_obj 34 #[.int .i64 0, .bool false, .slice none 0 0, .bool false, .slice none 0 0, .bool false, .slice none 0 0, .bool false, .slice none 0 0, .bool false, .slice none 0 0, .bool false, .slice none 0 0, .bool false, .slice none 0 0, .bool false, .slice none 0 0, .bool false, .slice none 0 0, .bool false, .slice none 0 0] (Below.refl w13.heap.size w13) (Nat.le_refl _)
            obtain ⟨V15, hV15, hB15, rd, -⟩ := set_all [.int .i64 sd, .bool vn0, .slice vA0 vk0 vc0, .bool vm0, .slice vB0 vj0 vd0, .bool vn1, .slice vA1 vk1 vc1, .bool vm1, .slice vB1 vj1 vd1, .bool vn2, .slice vA2 vk2 vc2, .bool vm2, .slice vB2 vj2 vd2, .bool vn3, .slice vA3 vk3 vc3, .bool vm3, .slice vB3 vj3 vd3, .bool vn4, .slice vA4 vk4 vc4, .bool vm4, .slice vB4 vj4 vd4] [.int .i64 0, .bool false, .slice none 0 0, .bool false, .slice none 0 0, .bool false, .slice none 0 0, .bool false, .slice none 0 0, .bool false, .slice none 0 0, .bool false, .slice none 0 0, .bool false, .slice none 0 0, .bool false, .slice none 0 0, .bool false, .slice none 0 0, .bool false, .slice none 0 0] rfl rfl rfl hB14 (Nat.le_refl _) r14
            replace hbr2 := hbr2.trans (hB15.mono hbr2.size)
            replace ru := keep_blk hB15 ru
            replace e0 := hide (e0.out.below hB15)
            replace e1 := hide (e1.out.below hB15)
            have hqa1 : decide (qd f = LX) = qa f := by rw [hqa.out]
            have hqz1 : decide (qu f = MX) = qz f := by rw [hqz.out]
            generalize qa f = sa at *
            generalize qz f = sz at *
            generalize qd f = Qd at *
            generalize qu f = Qu at *
            replace hqa1 := hide hqa1
            replace hqz1 := hide hqz1
            have qbx := keep_blk hbr2 qb
            have b0 := qbx.cell 0
            have b1 := qbx.cell 1
            have b2 := qbx.cell 2
            have b3 := qbx.cell 3
            have b4 := qbx.cell 4
            have b5 := qbx.cell 5
            have b6 := qbx.cell 6
            have b7 := qbx.cell 7
            simp at b0 b1 b2 b3 b4 b5 b6 b7
            have u1 := ru.cell 1
            have u2 := ru.cell 2
            have u3 := ru.cell 3
            have u4 := ru.cell 4
            have v1 := rd.cell 1
            have v2 := rd.cell 2
            have v3 := rd.cell 3
            have v4 := rd.cell 4
            simp at u1 v1 u2 v2 u3 v3 u4 v4
            cases la <;> cases lz
            case true.true =>
              go_wp2_with (refine wpList_store_mid rfl 34 _ _ rfl w13.heap.size 0 #[.int .i64 sd, .bool vn0, .slice vA0 vk0 vc0, .bool vm0, .slice vB0 vj0 vd0, .bool vn1, .slice vA1 vk1 vc1, .bool vm1, .slice vB1 vj1 vd1, .bool vn2, .slice vA2 vk2 vc2, .bool vm2, .slice vB2 vj2 vd2, .bool vn3, .slice vA3 vk3 vc3, .bool vm3, .slice vB3 vj3 vd3, .bool vn4, .slice vA4 vk4 vc4, .bool vm4, .slice vB4 vj4 vd4] rfl rfl (r14.there (by simp)) info_mom (by simp [Value.oneCell']) ?_; rw [hV15])
              go_round
              case rel => exact ⟨f + 1, by omega, by go_num, by simp [eA.out], by simp [eZ.out], hbr2⟩
              case measure => simp [intOf]; omega
            case true.false =>
              go_wp2_with (refine wpList_store_mid rfl 34 _ _ rfl w13.heap.size 0 #[.int .i64 sd, .bool vn0, .slice vA0 vk0 vc0, .bool vm0, .slice vB0 vj0 vd0, .bool vn1, .slice vA1 vk1 vc1, .bool vm1, .slice vB1 vj1 vd1, .bool vn2, .slice vA2 vk2 vc2, .bool vm2, .slice vB2 vj2 vd2, .bool vn3, .slice vA3 vk3 vc3, .bool vm3, .slice vB3 vj3 vd3, .bool vn4, .slice vA4 vk4 vc4, .bool vm4, .slice vB4 vj4 vd4] rfl rfl (r14.there (by simp)) info_mom (by simp [Value.oneCell']) ?_; rw [hV15])
              refine (rfSame_any un0 um0 qn1 qm1 uA0 uB0 qA1 qB1 uk0 uc0 uj0 ud0 qk1 qc1 qj1 qd1 Qu MX V15 e0.out (g1.out.below hbr2) sz hqz1.out).mono ?_
              rintro e w17 ⟨rfl, hb⟩
              replace hbr2 := hbr2.trans (hb.mono hbr2.size)
              go_wp2_with fail
              go_round
              case rel => exact ⟨f + 1, by omega, by go_num, by simp [eA.out], by simp [eZ.out], hbr2⟩
              case measure => simp [intOf]; omega
            case false.true =>
              go_wp2_with (refine wpList_store_mid rfl 34 _ _ rfl w13.heap.size 0 #[.int .i64 sd, .bool vn0, .slice vA0 vk0 vc0, .bool vm0, .slice vB0 vj0 vd0, .bool vn1, .slice vA1 vk1 vc1, .bool vm1, .slice vB1 vj1 vd1, .bool vn2, .slice vA2 vk2 vc2, .bool vm2, .slice vB2 vj2 vd2, .bool vn3, .slice vA3 vk3 vc3, .bool vm3, .slice vB3 vj3 vd3, .bool vn4, .slice vA4 vk4 vc4, .bool vm4, .slice vB4 vj4 vd4] rfl rfl (r14.there (by simp)) info_mom (by simp [Value.oneCell']) ?_; rw [hV15])
              refine (rfSame_any vn0 vm0 qn0 qm0 vA0 vB0 qA0 qB0 vk0 vc0 vj0 vd0 qk0 qc0 qj0 qd0 Qd LX V15 e1.out (g0.out.below hbr2) sa hqa1.out).mono ?_
              rintro e w16 ⟨rfl, hb⟩
              replace hbr2 := hbr2.trans (hb.mono hbr2.size)
              go_wp2_with fail
              go_round
              case rel => exact ⟨f + 1, by omega, by go_num, by simp [eA.out], by simp [eZ.out], hbr2⟩
              case measure => simp [intOf]; omega
            case false.false =>
              go_wp2_with (refine wpList_store_mid rfl 34 _ _ rfl w13.heap.size 0 #[.int .i64 sd, .bool vn0, .slice vA0 vk0 vc0, .bool vm0, .slice vB0 vj0 vd0, .bool vn1, .slice vA1 vk1 vc1, .bool vm1, .slice vB1 vj1 vd1, .bool vn2, .slice vA2 vk2 vc2, .bool vm2, .slice vB2 vj2 vd2, .bool vn3, .slice vA3 vk3 vc3, .bool vm3, .slice vB3 vj3 vd3, .bool vn4, .slice vA4 vk4 vc4, .bool vm4, .slice vB4 vj4 vd4] rfl rfl (r14.there (by simp)) info_mom (by simp [Value.oneCell']) ?_; rw [hV15])
              refine (rfSame_any vn0 vm0 qn0 qm0 vA0 vB0 qA0 qB0 vk0 vc0 vj0 vd0 qk0 qc0 qj0 qd0 Qd LX V15 e1.out (g0.out.below hbr2) sa hqa1.out).mono ?_
              rintro e w16 ⟨rfl, hb⟩
              clear b0 b1 b2 b3 b4 b5 b6 b7 u1 v1 u2 v2 u3 v3 u4 v4
              replace hbr2 := hbr2.trans (hb.mono hbr2.size)
              replace ru := keep_blk hb ru
              replace qbx := keep_blk hb qbx
              replace e0 := hide (e0.out.below hb)
              have b4 := qbx.cell 4
              have b5 := qbx.cell 5
              have b6 := qbx.cell 6
              have b7 := qbx.cell 7
              simp at b4 b5 b6 b7
              have u1 := ru.cell 1
              have u2 := ru.cell 2
              have u3 := ru.cell 3
              have u4 := ru.cell 4
              simp at u1 u2 u3 u4
              go_wp2_with fail
              refine (rfSame_any un0 um0 qn1 qm1 uA0 uB0 qA1 qB1 uk0 uc0 uj0 ud0 qk1 qc1 qj1 qd1 Qu MX w16 e0.out (g1.out.below hbr2) sz hqz1.out).mono ?_
              rintro e w17 ⟨rfl, hb2⟩
              replace hbr2 := hbr2.trans (hb2.mono hbr2.size)
              go_wp2_with fail
              go_round
              case rel => exact ⟨f + 1, by omega, by go_num, by simp [eA.out], by simp [eZ.out], hbr2⟩
              case measure => simp [intOf]; omega
      · (try have tk0 : decide ((m : Int) < (m : Int)) = false := by simp)
        (try have tk1 : decide ((nb : Int) < (nb : Int)) = false := by simp)
        (try have tk2 : decide ((nb : Int) < (m : Int)) = true := by simp; omega)
        go_wp2_with fail
        refine (rCheck10_ok W H (some ⟨gt, 0, none⟩) n ct ps' wr (hML.out _ (Below.refl _ _)) (by omega) iW iH x hx).mono ?_
        rintro e w5 ⟨rfl, hb5⟩
        clear c0 c1 c2
        have hB5 := hBr.trans (hb5.mono hBr.size)
        replace q12 := keep_blk hb5 q12
        cases x
        case false =>
          simp only [errOf, Bool.false_eq_true, if_false]
          go_wp2_with fail
          go_ret
          exact ⟨rfl, hB5⟩
        simp only [errOf, if_true]
        have hE' : startE W H n ps' l = 0 := by unfold startE; rw [hx, hli.out]; rfl
        have hD : ∀ (u : Int → Int) (f : Int), 0 < tden u ps l f off m ∧ 0 < tden u ps l f (-off) m := fun u f => by
          have e1 := tden_ge u ps l f off m
          have e2 := tden_ge u ps l f (-off) m
          have e3 : ((off.natAbs : Nat) : Int) = off := by omega
          have e4 : (((-off).natAbs : Nat) : Int) = off := by omega
          rw [e3] at e1
          rw [e4] at e2
          have e5 := hsum.out
          generalize off * (m : Int) = z at *
          omega
        have hs' : 0 < psum ps' l := by
          have e1 := sum_near m hpm
          have e3 : ((off.natAbs : Nat) : Int) = off := by omega
          rw [e3] at e1
          have e5 := hsum.out
          unfold psum
          rw [hlm.out]
          generalize off * (m : Int) = z at *
          omega
        have huc : ∀ j, j < m → 0 ≤ colv W (l[j]?.getD 0) ∧ colv W (l[j]?.getD 0) ≤ 99 := fun j hj => colv_bound hf.out (hr.out j hj).1 (hr.out j hj).2.1
        have hur : ∀ j, j < m → 0 ≤ rowv W (l[j]?.getD 0) ∧ rowv W (l[j]?.getD 0) ≤ 99 := fun j hj => rowv_bound hf.out (hr.out j hj).1 (hr.out j hj).2.1
        have bX := mean_between hlm.out huc (by omega) hpm (hD (colv W)) hs'
        have bY := mean_between hlm.out hur (by omega) hpm (hD (rowv W)) hs'
        rw [hLX.out, hMX.out] at bX
        rw [hLY.out, hMY.out] at bY
        have hr' := rng_of hx hli.out hlm.out
        have sX : Sm (mean1 (colv W) ps' l) := mean1_sm hlm.out hr' (fun j hj => by have := huc j hj; omega) h8 hs'
        have sY : Sm (mean1 (rowv W) ps' l) := mean1_sm hlm.out hr' (fun j hj => by have := hur j hj; omega) h8 hs'
        have tqs : ∀ (u : Int → Int), (∀ j, j < m → 0 ≤ u (l[j]?.getD 0) ∧ u (l[j]?.getD 0) ≤ 99) → ∀ f : Int, Sm (tq u ps l f off) ∧ Sm (tq u ps l f (-off)) := fun u hu f =>
          ⟨tq_sm hlm.out hr.out (fun i hi => by have := hu i hi; omega) (by omega) h8 (hD u f).1, tq_sm hlm.out hr.out (fun i hi => by have := hu i hi; omega) (by omega) h8 (hD u f).2⟩
        have sLX : Sm LX := by rw [← hLX.out]; exact leastQ_sm (fun f => (tqs _ huc f).2)
        have sMX : Sm MX := by rw [← hMX.out]; exact mostQ_sm (fun f => (tqs _ huc f).1)
        have sLY : Sm LY := by rw [← hLY.out]; exact leastQ_sm (fun f => (tqs _ hur f).2)
        have sMY : Sm MY := by rw [← hMY.out]; exact mostQ_sm (fun f => (tqs _ hur f).1)
        have hwlt : ∀ j, j < m → colv W (l[j]?.getD 0) < (W.toNat : Int) := fun j hj => by
          have h0 := hf.out
          have := Int.emod_lt_of_pos (l[j]?.getD 0) (show 0 < W by omega)
          unfold colv; omega
        have hreach := least_reached (ps := ps) (off := off) hlm.out hwlt
        rw [hLX.out, hMX.out] at hreach
        replace hreach := hide hreach
        replace hD := hide hD
        replace bX := hide bX
        replace bY := hide bY
        clear tqs hur hwlt hr' hpm
        replace huc := hide huc
        have c0 := q12.cell 0
        have c1 := q12.cell 1
        have c2 := q12.cell 2
        simp at c0 c1 c2
        go_wp2_with fail
        refine ((moments_good W H (some ⟨gt, 0, none⟩) n ct B m d ps' l w5 (hML.out _ hb5) (hl.out.below hB5) h8 iW iH hE').mono fun e w' h => h.2 hs').mono ?_
        rintro e w6 ⟨hb6, csM, rfl, hFm⟩
        clear c0 c1 c2 hML hE' hx
        replace hbr := hbr.trans ((hb5.trans (hb6.mono hb5.size)).mono hbr.size)
        clear hb5 hb6 hBr hB5 q12
        obtain ⟨pn0, pA0, pk0, pc0, pm0, pB0, pj0, pd0, pn1, pA1, pk1, pc1, pm1, pB1, pj1, pd1, pn2, pA2, pk2, pc2, pm2, pB2, pj2, pd2, pn3, pA3, pk3, pc3, pm3, pB3, pj3, pd3, pn4, pA4, pk4, pc4, pm4, pB4, pj4, pd4, rfl, e0, e1, -, -, -⟩ := hFm
        replace e0 : Hid (Fr w6 pn0 pA0 pk0 pc0 pm0 pB0 pj0 pd0 (mean1 (colv W) ps' l)) := hide e0
        replace e1 : Hid (Fr w6 pn1 pA1 pk1 pc1 pm1 pB1 pj1 pd1 (mean1 (rowv W) ps' l)) := hide e1
        generalize (momOf W ps' l).s = sv
        replace hs' := hide hs'
        generalize mean1 (colv W) ps' l = X at *
        generalize mean1 (rowv W) ps' l = Y at *
        obtain ⟨V7, hV7, hB7, q14, -, -, sV7⟩ := new_obj 34 #[.int .i64 0, .bool false, .slice none 0 0, .bool false, .slice none 0 0, .bool false, .slice none 0 0, .bool false, .slice none 0 0, .bool false, .slice none 0 0, .bool false, .slice none 0 0, .bool false, .slice none 0 0, .bool false, .slice none 0 0, .bool false, .slice none 0 0, .bool false, .slice none 0 0] (Below.refl w6.heap.size w6) (Nat.le_refl _)
        obtain ⟨V8, hV8, hB8, qm, -⟩ := set_all [.int .i64 sv, .bool pn0, .slice pA0 pk0 pc0, .bool pm0, .slice pB0 pj0 pd0, .bool pn1, .slice pA1 pk1 pc1, .bool pm1, .slice pB1 pj1 pd1, .bool pn2, .slice pA2 pk2 pc2, .bool pm2, .slice pB2 pj2 pd2, .bool pn3, .slice pA3 pk3 pc3, .bool pm3, .slice pB3 pj3 pd3, .bool pn4, .slice pA4 pk4 pc4, .bool pm4, .slice pB4 pj4 pd4] [.int .i64 0, .bool false, .slice none 0 0, .bool false, .slice none 0 0, .bool false, .slice none 0 0, .bool false, .slice none 0 0, .bool false, .slice none 0 0, .bool false, .slice none 0 0, .bool false, .slice none 0 0, .bool false, .slice none 0 0, .bool false, .slice none 0 0, .bool false, .slice none 0 0] rfl rfl rfl hB7 (Nat.le_refl _) q14
        replace e0 := hide (e0.out.below hB8)
        replace e1 := hide (e1.out.below hB8)
        have hz := hbr.trans (hB8.mono hbr.size)
        have hBz := hB.trans (hz.mono hB.size)
        replace qb := keep_blk hz qb
        replace q0 := keep_blk hz q0
        replace g0 := hide (g0.out.below hz)
        replace g1 := hide (g1.out.below hz)
        replace g2 := hide (g2.out.below hz)
        replace g3 := hide (g3.out.below hz)
        clear hbr
        obtain ⟨dd, hd1, hd2⟩ := und_box
        have a1 := qm.cell 1
        have a2 := qm.cell 2
        have a3 := qm.cell 3
        have a4 := qm.cell 4
        have a5 := qm.cell 5
        have a6 := qm.cell 6
        have a7 := qm.cell 7
        have a8 := qm.cell 8
        simp at a1 a2 a3 a4 a5 a6 a7 a8
        go_wp2_with (first | (refine wpList_store_mid rfl 34 _ _ rfl w6.heap.size 0 #[.int .i64 sv, .bool pn0, .slice pA0 pk0 pc0, .bool pm0, .slice pB0 pj0 pd0, .bool pn1, .slice pA1 pk1 pc1, .bool pm1, .slice pB1 pj1 pd1, .bool pn2, .slice pA2 pk2 pc2, .bool pm2, .slice pB2 pj2 pd2, .bool pn3, .slice pA3 pk3 pc3, .bool pm3, .slice pB3 pj3 pd3, .bool pn4, .slice pA4 pk4 pc4, .bool pm4, .slice pB4 pj4 pd4] rfl rfl (q14.there (by simp)) info_mom (by simp [Value.oneCell']) ?_; rw [hV8]) | (refine wpList_load_mid rfl 43 _ rfl gb 0 rfl [.bool qn0, .slice qA0 qk0 qc0, .bool qm0, .slice qB0 qj0 qd0, .bool qn1, .slice qA1 qk1 qc1, .bool qm1, .slice qB1 qj1 qd1, .bool qn2, .slice qA2 qk2 qc2, .bool qm2, .slice qB2 qj2 qd2, .bool qn3, .slice qA3 qk3 qc3, .bool qm3, .slice qB3 qj3 qd3] dd (qb.rangeAt [] (rest := []) rfl) hd1 hd2 info_box ?_))
        refine (holds_ok qn0 qm0 qA0 qB0 qk0 qc0 qj0 qd0 qn1 qm1 qA1 qB1 qk1 qc1 qj1 qd1 qn2 qm2 qA2 qB2 qk2 qc2 qj2 qd2 qn3 qm3 qA3 qB3 qk3 qc3 qj3 qd3 pn0 pm0 pA0 pB0 pk0 pc0 pj0 pd0 pn1 pm1 pA1 pB1 pk1 pc1 pj1 pd1 LX MX LY MY X Y V8 g0.out sLX g1.out sMX g2.out sLY g3.out sMY e0.out sX e1.out sY true (by simp [accB, cmpQ_le, bX.out, bY.out])).mono ?_
        rintro e w7 ⟨rfl, hb7⟩
        clear hV7 hV8 hB7 hB8 q14 sV7 e0 e1 sX sY bX bY a1 a2 a3 a4 a5 a6 a7 a8 qm g2 g3 sLY sMY
        generalize w6.heap.size = g14 at *
        replace hBz := hBz.trans (hb7.mono hBz.size)
        replace qb := keep_blk hb7 qb
        replace q0 := keep_blk hb7 q0
        replace g0 := hide (g0.out.below hb7)
        replace g1 := hide (g1.out.below hb7)
        clear hb7 hz
        go_wp2_with fail
        obtain ⟨qd, hqd⟩ : ∃ qd : Nat → Rat, qd = fun f : Nat => tq (colv W) ps l (f : Int) (-off) := ⟨_, rfl⟩
        obtain ⟨qu, hqu⟩ : ∃ qu : Nat → Rat, qu = fun f : Nat => tq (colv W) ps l (f : Int) off := ⟨_, rfl⟩
        have hre : ((List.range (W.toNat + 1)).any fun i => decide (qd i = LX)) = true ∧ ((List.range (W.toNat + 1)).any fun i => decide (qu i = MX)) = true := by rw [hqd, hqu]; exact hreach.out
        replace hre := hide hre
        clear hreach
        obtain ⟨qa, hqa⟩ : ∃ qa : Nat → Bool, qa = fun i => decide (qd i = LX) := ⟨_, rfl⟩
        obtain ⟨qz, hqz⟩ : ∃ qz : Nat → Bool, qz = fun i => decide (qu i = MX) := ⟨_, rfl⟩
        replace hre : Hid ((List.range (W.toNat + 1)).any qa = true ∧ (List.range (W.toNat + 1)).any qz = true) := hide (by rw [hqa, hqz]; exact hre.out)
        replace hqd := hide hqd
        replace hqu := hide hqu
        replace hqa := hide hqa
        replace hqz := hide hqz
        have hW1 : 1 ≤ W := hf.out.1
        have hW2 : W ≤ 100 := hf.out.2.1

        go_loopw [18, 19, 20] (fun lv mv iv wx => ∃ f : Nat, f ≤ W.toNat + 1 ∧ iv = .int .i64 f ∧ lv = .bool ((List.range f).any qa) ∧ mv = .bool ((List.range f).any qz) ∧ Below w7.heap.size w7 wx) (fun _ _ iv _ => W.toNat + 1 - (intOf iv).toNat)
        case atStart => exact ⟨0, by omega, rfl, rfl, rfl, Below.refl _ _⟩
        case round =>
          obtain ⟨f, hf1, rfl, rfl, rfl, hbr2⟩ := hrel
          by_cases hfw : f ≤ W.toNat
          case neg =>
            have tk : ¬ ((f : Int) ≤ W) := by omega
            have tkd : decide ((f : Int) ≤ W) = false := by simpa using tk
            have e1 : (List.range f).any qa = true := by rw [show f = W.toNat + 1 by omega]; exact hre.out.1
            have e2 : (List.range f).any qz = true := by rw [show f = W.toNat + 1 by omega]; exact hre.out.2
            rw [e1, e2]
            clear e1 e2
            have c0 := (keep_blk hbr2 q0).cell 0
            simp at c0
            go_wp2_with fail
            go_ret
            exact ⟨rfl, hBz.trans (hbr2.mono hBz.size)⟩
          have tk : (f : Int) ≤ W := by omega
          have tkd : decide ((f : Int) ≤ W) = true := by simpa using tk
          have eA := any_succ qa f
          have eZ := any_succ qz f
          obtain ⟨la, hla⟩ : ∃ la, (List.range f).any qa = la := ⟨_, rfl⟩
          obtain ⟨lz, hlz⟩ : ∃ lz, (List.range f).any qz = lz := ⟨_, rfl⟩
          rw [hla] at eA
          rw [hlz] at eZ
          rw [hla, hlz]
          replace eA := hide eA
          replace eZ := hide eZ
          clear hla hlz
          have hSf : ∀ wx, Below w7.heap.size w7 wx → wx.cell? ⟨w.heap.size, 0, none⟩ = some (.int .i64 W) ∧ wx.cell? ⟨w.heap.size, 1, none⟩ = some (.int .i64 H) ∧ wx.cell? ⟨w.heap.size, 2, none⟩ = some (.slice A n c) := fun wx hbx => by
            have e0 := (keep_blk hbx q0).cell 0
            have e1 := (keep_blk hbx q0).cell 1
            have e2 := (keep_blk hbx q0).cell 2
            simp at e0 e1 e2
            exact ⟨e0, e1, e2⟩
          replace hSf := hide hSf
          have c0 := (hSf.out _ hbr2).1
          have hneg : wrap64 (-off) = -off := wrapS (by omega)
          have hneg2 : IntKind.i64.wrap (-off) = -off := by rw [IntKind.wrap_i64]; omega
          have ho1 : off.natAbs ≤ 4294967296 := by omega
          have ho2 : (-off).natAbs ≤ 4294967296 := by omega
          have hb8 : Below w7.heap.size w7 wr.drew := below_dn hbr2 1
          have hBl : ∀ wx, Below w7.heap.size w7 wx → Below w.heap.size w wx := fun wx hbx => hBz.trans (hbx.mono hBz.size)
          replace hBl := hide hBl
          go_upto_region 24 with fail
          clear c0
          go_cut [21, 22] from 124 to 185 (fun pv qv wx => ∃ h1 h2 ga ca gd cd : Nat, pv = .pointer (some ⟨h1, 0, none⟩) ∧ qv = .pointer (some ⟨h2, 0, none⟩) ∧ Below w7.heap.size w7 wx ∧ Blk wx h1 24 #[.int .i64 W, .int .i64 H, .slice (some ⟨ga, 0, none⟩) n ca] ∧ Blk wx h2 24 #[.int .i64 W, .int .i64 H, .slice (some ⟨gd, 0, none⟩) n cd] ∧ LimI wx (some ⟨ga, 0, none⟩) n ca (tlt false W ps l f off m) ∧ LimI wx (some ⟨gd, 0, none⟩) n cd (tlt false W ps l f (-off) m))
          case first =>
            refine wp_held [] (fun wx => wx.cell? ⟨w.heap.size, 0, none⟩ = some (.int .i64 W) ∧ wx.cell? ⟨w.heap.size, 1, none⟩ = some (.int .i64 H) ∧ wx.cell? ⟨w.heap.size, 2, none⟩ = some (.slice A n c)) hmx (hSf.out _ hb8) (fun _ => ?_)
            refine wpAnyL_take (i := 0) (v := ?v1501) rfl (by kernel_rfl) (by kernel_rfl) (by kernel_rfl) (by kernel_rfl) (by kernel_rfl) (Or.inl ⟨by rfl, ?hy1501⟩) (hSf.out _ hb8) ?rest1501
            case hy1501 => (intro W2 hSw; (try dsimp only at hSw); go_simp; try with_reducible rfl)
            try simp only [Act.put, List.setIfInBounds_toArray, List.set_cons_zero, List.set_cons_succ]
            refine wpAnyL_take (i := 1) (v := ?v1502) rfl (by kernel_rfl) (by kernel_rfl) (by kernel_rfl) (by kernel_rfl) (by kernel_rfl) (Or.inl ⟨by rfl, ?hy1502⟩) (hSf.out _ hb8) ?rest1502
            case hy1502 => (intro W2 hSw; (try dsimp only at hSw); go_simp; try with_reducible rfl)
            try simp only [Act.put, List.setIfInBounds_toArray, List.set_cons_zero, List.set_cons_succ]
            refine wpAnyL_take (i := 2) (v := ?v1503) rfl (by kernel_rfl) (by kernel_rfl) (by kernel_rfl) (by kernel_rfl) (by kernel_rfl) (Or.inl ⟨by rfl, ?hy1503⟩) (hSf.out _ hb8) ?rest1503
            case hy1503 => (intro W2 hSw; (try dsimp only at hSw); go_simp; try with_reducible rfl)
            try simp only [Act.put, List.setIfInBounds_toArray, List.set_cons_zero, List.set_cons_succ]
            refine wpAnyL_take (i := 3) (v := ?v1504) rfl (by kernel_rfl) (by kernel_rfl) (by kernel_rfl) (by kernel_rfl) (by kernel_rfl) (Or.inl ⟨by rfl, ?hy1504⟩) (hSf.out _ hb8) ?rest1504
            case hy1504 => (intro W2 hSw; (try dsimp only at hSw); go_simp; try with_reducible rfl)
            try simp only [Act.put, List.setIfInBounds_toArray, List.set_cons_zero, List.set_cons_succ]
            refine wpAnyL_take (i := 5) (v := ?v1505) rfl (by kernel_rfl) (by kernel_rfl) (by kernel_rfl) (by kernel_rfl) (by kernel_rfl) (Or.inl ⟨by rfl, ?hy1505⟩) (hSf.out _ hb8) ?rest1505
            case hy1505 => (intro W2 hSw; (try dsimp only at hSw); go_simp; try with_reducible rfl)
            try simp only [Act.put, List.setIfInBounds_toArray, List.set_cons_zero, List.set_cons_succ]
            refine wpAnyL_take (i := 6) (v := ?v1506) rfl (by kernel_rfl) (by kernel_rfl) (by kernel_rfl) (by kernel_rfl) (by kernel_rfl) (Or.inl ⟨by rfl, ?hy1506⟩) (hSf.out _ hb8) ?rest1506
            case hy1506 => (intro W2 hSw; (try dsimp only at hSw); go_simp; try with_reducible rfl)
            try simp only [Act.put, List.setIfInBounds_toArray, List.set_cons_zero, List.set_cons_succ]
            refine wpAnyL_take (i := 7) (v := ?v1507) rfl (by kernel_rfl) (by kernel_rfl) (by kernel_rfl) (by kernel_rfl) (by kernel_rfl) (Or.inl ⟨by rfl, ?hy1507⟩) (hSf.out _ hb8) ?rest1507
            case hy1507 => (intro W2 hSw; (try dsimp only at hSw); go_simp; try with_reducible rfl)
            try simp only [Act.put, List.setIfInBounds_toArray, List.set_cons_zero, List.set_cons_succ]
            refine wpAnyL_take (i := 8) (v := ?v1508) rfl (by kernel_rfl) (by kernel_rfl) (by kernel_rfl) (by kernel_rfl) (by kernel_rfl) (Or.inl ⟨by rfl, ?hy1508⟩) (hSf.out _ hb8) ?rest1508
            case hy1508 => (intro W2 hSw; (try dsimp only at hSw); go_simp; try with_reducible rfl)
            try simp only [Act.put, List.setIfInBounds_toArray, List.set_cons_zero, List.set_cons_succ]
            refine wpAnyL_take (i := 9) (v := ?v1509) rfl (by kernel_rfl) (by kernel_rfl) (by kernel_rfl) (by kernel_rfl) (by kernel_rfl) (Or.inl ⟨by rfl, ?hy1509⟩) (hSf.out _ hb8) ?rest1509
            case hy1509 => (intro W2 hSw; (try dsimp only at hSw); go_simp; try with_reducible rfl)
            try simp only [Act.put, List.setIfInBounds_toArray, List.set_cons_zero, List.set_cons_succ]
            refine wpAnyL_free2 11 12 21 22 2 24 24 #[.int .i64 0, .int .i64 0, .slice none 0 0] #[.int .i64 0, .int .i64 0, .slice none 0 0] [4, 10] (by decide) (by decide) (by kernel_rfl) (by simp) (by simp) (fun wx hbx => hSf.out _ (hb8.trans (hbx.mono hb8.size))) ?hA1 ?hA2 ?_
            case hA1 => (intro K a w h; refine wpOp_shut (i := 11) rfl (fun K2 hK2 => ?_); go_simp; exact hK2.out _ _ h)
            case hA2 => (intro K a w h; refine wpOp_shut (i := 12) rfl (fun K2 hK2 => ?_); go_simp; exact hK2.out _ _ h)
            refine chain_cons (fun u1 u2 wa hba => ?_)
            refine wpOp_shut (i := 4) rfl (fun K hK => ?_)
            try simp only [puts, cn, if_true, Act.put, List.setIfInBounds_toArray, List.set_cons_zero, List.set_cons_succ]
            go_simp
            have hba8 := hb8.trans (hba.mono hb8.size)
            refine (rtilted_ok W H A n c B m d ps l false f off wa (hp.out.below (hBl.out _ hba8)) (hl.out.below (hBl.out _ hba8)) hf.out h8 hn0 hr.out hdis.out ho1).mono ?_
            rintro e wb ⟨⟨ga, ca, rfl, hga, hLa⟩, hbb⟩
            refine hK.out _ _ ⟨⟨rfl, rfl, hbb⟩, ?_⟩
            clear hK K
            try simp only [puts, cn, if_true, Act.put, List.setIfInBounds_toArray, List.set_cons_zero, List.set_cons_succ]
            have hbb8 := hba8.trans (hbb.mono hba8.size)
            replace hLa := hide hLa
            refine chain_cons (fun u3 u4 wc hbc => ?_)
            refine wpOp_shut (i := 10) rfl (fun K hK => ?_)
            try simp only [puts, cn, if_true, Act.put, List.setIfInBounds_toArray, List.set_cons_zero, List.set_cons_succ]
            go_simp
            (try rw [hneg2])
            (try rw [hneg])
            have hbc8 := hbb8.trans (hbc.mono hbb8.size)
            refine (rtilted_ok W H A n c B m d ps l false f (-off) wc (hp.out.below (hBl.out _ hbc8)) (hl.out.below (hBl.out _ hbc8)) hf.out h8 hn0 hr.out hdis.out ho2).mono ?_
            rintro e wd ⟨⟨gd, cd, rfl, hgd, hLb⟩, hbd⟩
            refine hK.out _ _ ⟨⟨rfl, rfl, hbd⟩, ?_⟩
            clear hK K
            try simp only [puts, cn, if_true, Act.put, List.setIfInBounds_toArray, List.set_cons_zero, List.set_cons_succ]
            have hbd8 := hbc8.trans (hbd.mono hbc8.size)
            replace hLb := hide hLb
            refine chain_nil (fun h1 h2 we hbe k1 k2 j1 j2 hne ia ib => ?_)
            have hbe8 := hbd8.trans (hbe.mono hbd8.size)
            have ia1 := ia _ (List.mem_cons_self ..)
            have ia2 := ia _ (List.mem_cons_of_mem _ (List.mem_cons_self ..))
            have ib1 := ib _ (List.mem_cons_self ..)
            have ib2 := ib _ (List.mem_cons_of_mem _ (List.mem_cons_self ..))
            have xa := hLa.out.lt hn0
            have xb := hLb.out.lt hn0
            simp only at ia1 ia2 ib1 ib2
            have ze := hb8.size
            have n1 : ga ≠ h1 ∧ gd ≠ h1 ∧ ga ≠ h2 ∧ gd ≠ h2 := by omega
            replace hLa := hide (hLa.out.below ((hbc.trans (hbd.mono hbc.size)).trans (hbe.mono (Nat.le_trans hbc.size hbd.size))))
            replace hLb := hide (hLb.out.below hbe)
            clear hba8 hbb8 hbc8 hbd8 ia ib ia1 ia2 ib1 ib2 xa xb hga hgd hba hbb hbc hbd hbe
            replace j1 : wr.heap.size ≤ h1 := j1
            replace j2 : wr.heap.size ≤ h2 := j2
            replace ze : w7.heap.size ≤ wr.heap.size := ze
            replace n1 := hide n1
            have y0 := k1.cell 0
            have y1 := k1.cell 1
            have y2 := k1.cell 2
            simp at y0 y1 y2
            have z0 := k1.frozen 0
            have z1 := k1.frozen 1
            have z2 := k1.frozen 2
            obtain ⟨V, hV, hBV, p1, hst⟩ := set_all [.int .i64 W, .int .i64 H, .slice (some ⟨ga, 0, none⟩) n ca] [.int .i64 0, .int .i64 0, .slice none 0 0] rfl rfl rfl hbe8 (by omega) k1
            have fa : V.heap[ga]? = we.heap[ga]? := by rw [← hV]; exact setCells_far _ _ _ _ _ n1.out.1
            have fb : V.heap[gd]? = we.heap[gd]? := by rw [← hV]; exact setCells_far _ _ _ _ _ n1.out.2.1
            simp only [World.setCells, Nat.reduceAdd, Nat.zero_add] at hV
            have p2 := hst.2.1 _ _ _ (Ne.symm hne) k2
            replace hLa := hide (hLa.out.heap fa)
            replace hLb := hide (hLb.out.heap fb)
            try simp only [puts, cn, if_true, Act.put, List.setIfInBounds_toArray, List.set_cons_zero, List.set_cons_succ]
            refine wpAnyL_one (i := 13) rfl (by kernel_rfl) (fun K hK => ?_)
            go_simp
            (try rw [hV])
            refine hK.out _ _ (fun _ => hSf.out _ hBV) ?_
            clear hK K y0 y1 y2 z0 z1 z2 hV fa fb
            try simp only [puts, cn, if_true, Act.put, List.setIfInBounds_toArray, List.set_cons_zero, List.set_cons_succ]
            have y0 := p2.cell 0
            have y1 := p2.cell 1
            have y2 := p2.cell 2
            simp at y0 y1 y2
            have z0 := p2.frozen 0
            have z1 := p2.frozen 1
            have z2 := p2.frozen 2
            obtain ⟨Ux, hU, hBU, p3, hst2⟩ := set_all [.int .i64 W, .int .i64 H, .slice (some ⟨gd, 0, none⟩) n cd] [.int .i64 0, .int .i64 0, .slice none 0 0] rfl rfl rfl hBV (by omega) p2
            have fa : Ux.heap[ga]? = V.heap[ga]? := by rw [← hU]; exact setCells_far _ _ _ _ _ n1.out.2.2.1
            have fb : Ux.heap[gd]? = V.heap[gd]? := by rw [← hU]; exact setCells_far _ _ _ _ _ n1.out.2.2.2
            simp only [World.setCells, Nat.reduceAdd, Nat.zero_add] at hU
            have p4 := hst2.2.1 _ _ _ hne p1
            replace hLa := hide (hLa.out.heap fa)
            replace hLb := hide (hLb.out.heap fb)
            refine wpAnyL_one (i := 14) rfl (by kernel_rfl) (fun K hK => ?_)
            go_simp
            (try rw [hU])
            refine hK.out _ _ (fun _ => hSf.out _ hBU) ?_
            clear hK K y0 y1 y2 z0 z1 z2 hU fa fb
            try simp only [puts, cn, if_true, Act.put, List.setIfInBounds_toArray, List.set_cons_zero, List.set_cons_succ]
            refine wpAnyL_done (by kernel_rfl) ?_ _
            refine OnlyNormal.normal ?_
            try simp only [puts, cn, if_true, Act.put, List.setIfInBounds_toArray, List.set_cons_zero, List.set_cons_succ]
            go_simp
            go_wp2_with fail
            go_meet
            exact ⟨_, _, _, _, _, _, rfl, rfl, hBU, p4, p3, hLa.out, hLb.out⟩
          case rest =>
            clear hbr2 hb8
            obtain ⟨h1, h2, ga, ca, gd, cd, rfl, rfl, hbr2, p1, p2, hLa, hLb⟩ := hcut
            have huP : 0 < psum (tlt false W ps l f off m) l := by rw [psum_tlt hlm.out hpl.out hr.out hdis.out]; exact (hD.out (colv W) f).1
            have hdP : 0 < psum (tlt false W ps l f (-off) m) l := by rw [psum_tlt hlm.out hpl.out hr.out hdis.out]; exact (hD.out (colv W) f).2
            have huX : mean1 (colv W) (tlt false W ps l f off m) l = qu f := by rw [hqu.out]; exact mean1_tlt hlm.out hpl.out hr.out hdis.out
            have hdX : mean1 (colv W) (tlt false W ps l f (-off) m) l = qd f := by rw [hqd.out]; exact mean1_tlt hlm.out hpl.out hr.out hdis.out
            generalize tlt false W ps l f off m = tu at *
            generalize tlt false W ps l f (-off) m = td at *
            replace hLa := hide hLa
            replace hLb := hide hLb
            replace huP := hide huP
            replace hdP := hide hdP
            replace huX := hide huX
            replace hdX := hide hdX
            obtain ⟨x1, hx1⟩ : ∃ x, fieldOk W H n tu = x := ⟨_, rfl⟩
            obtain ⟨x2, hx2⟩ : ∃ x, fieldOk W H n td = x := ⟨_, rfl⟩
            have c0 := p1.cell 0
            have c1 := p1.cell 1
            have c2 := p1.cell 2
            simp at c0 c1 c2
            go_wp2_with fail
            refine (rCheck10_ok W H (some ⟨ga, 0, none⟩) n ca tu wc hLa.out (by omega) iW iH x1 hx1).mono ?_
            rintro e w8 ⟨rfl, hb⟩
            clear c0 c1 c2
            replace hbr2 := hbr2.trans (hb.mono hbr2.size)
            replace p1 := keep_blk hb p1
            replace p2 := keep_blk hb p2
            replace hLa := hide (hLa.out.below hb)
            replace hLb := hide (hLb.out.below hb)
            clear hb
            cases x1
            case false =>
              simp only [errOf, Bool.false_eq_true, if_false]
              go_wp2_with fail
              go_ret
              exact ⟨rfl, hBl.out _ hbr2⟩
            simp only [errOf, if_true]
            have c0 := p2.cell 0
            have c1 := p2.cell 1
            have c2 := p2.cell 2
            simp at c0 c1 c2
            go_wp2_with fail
            refine (rCheck10_ok W H (some ⟨gd, 0, none⟩) n cd td w8 hLb.out (by omega) iW iH x2 hx2).mono ?_
            rintro e w9 ⟨rfl, hb⟩
            clear c0 c1 c2
            replace hbr2 := hbr2.trans (hb.mono hbr2.size)
            replace p1 := keep_blk hb p1
            replace p2 := keep_blk hb p2
            replace hLa := hide (hLa.out.below hb)
            replace hLb := hide (hLb.out.below hb)
            clear hb
            cases x2
            case false =>
              simp only [errOf, Bool.false_eq_true, if_false]
              go_wp2_with fail
              go_ret
              exact ⟨rfl, hBl.out _ hbr2⟩
            simp only [errOf, if_true]
            have hEu : startE W H n tu l = 0 := by unfold startE; rw [hx1, hli.out]; rfl
            have hEd : startE W H n td l = 0 := by unfold startE; rw [hx2, hli.out]; rfl
            clear hx1 hx2
            have c0 := p1.cell 0
            have c1 := p1.cell 1
            have c2 := p1.cell 2
            simp at c0 c1 c2
            go_wp2_with fail
            refine ((moments_good W H (some ⟨ga, 0, none⟩) n ca B m d tu l w9 hLa.out (hl.out.below (hBl.out _ hbr2)) h8 iW iH hEu).mono fun e w' h => h.2 huP.out).mono ?_
            rintro e w10 ⟨hb, csM, rfl, hFm⟩
            clear c0 c1 c2 hLa hEu huP p1
            replace hbr2 := hbr2.trans (hb.mono hbr2.size)
            replace p2 := keep_blk hb p2
            replace hLb := hide (hLb.out.below hb)
            clear hb
            obtain ⟨un0, uA0, uk0, uc0, um0, uB0, uj0, ud0, un1, uA1, uk1, uc1, um1, uB1, uj1, ud1, un2, uA2, uk2, uc2, um2, uB2, uj2, ud2, un3, uA3, uk3, uc3, um3, uB3, uj3, ud3, un4, uA4, uk4, uc4, um4, uB4, uj4, ud4, rfl, e0, -, -, -, -⟩ := hFm
            replace e0 : Hid (Fr w10 un0 uA0 uk0 uc0 um0 uB0 uj0 ud0 (qu f)) := hide (by rw [← huX.out]; exact e0)
            generalize (momOf W tu l).s = su
            obtain ⟨V11, hV11, hB11, r11, -, -, sV11⟩ := new_obj 34 #[.int .i64 0, .bool false, .slice none 0 0, .bool false, .slice none 0 0, .bool false, .slice none 0 0, .bool false, .slice none 0 0, .bool false, .slice none 0 0, .bool false, .slice none 0 0, .bool false, .slice none 0 0, .bool false, .slice none 0 0, .bool false, .slice none 0 0, .bool false, .slice none 0 0] (Below.refl w10.heap.size w10) (Nat.le_refl _)
            obtain ⟨V12, hV12, hB12, ru, -⟩ := set_all [.int .i64 su, .bool un0, .slice uA0 uk0 uc0, .bool um0, .slice uB0 uj0 ud0, .bool un1, .slice uA1 uk1 uc1, .bool um1, .slice uB1 uj1 ud1, .bool un2, .slice uA2 uk2 uc2, .bool um2, .slice uB2 uj2 ud2, .bool un3, .slice uA3 uk3 uc3, .bool um3, .slice uB3 uj3 ud3, .bool un4, .slice uA4 uk4 uc4, .bool um4, .slice uB4 uj4 ud4] [.int .i64 0, .bool false, .slice none 0 0, .bool false, .slice none 0 0, .bool false, .slice none 0 0, .bool false, .slice none 0 0, .bool false, .slice none 0 0, .bool false, .slice none 0 0, .bool false, .slice none 0 0, .bool false, .slice none 0 0, .bool false, .slice none 0 0, .bool false, .slice none 0 0] rfl rfl rfl hB11 (Nat.le_refl _) r11
            replace hbr2 := hbr2.trans (hB12.mono hbr2.size)
            replace p2 := keep_blk hB12 p2
            replace hLb := hide (hLb.out.below hB12)
            replace e0 := hide (e0.out.below hB12)
            have c0 := p2.cell 0
            have c1 := p2.cell 1
            have c2 := p2.cell 2
            simp at c0 c1 c2
            go_wp2_with (refine wpList_store_mid rfl 34 _ _ rfl w10.heap.size 0 #[.int .i64 su, .bool un0, .slice uA0 uk0 uc0, .bool um0, .slice uB0 uj0 ud0, .bool un1, .slice uA1 uk1 uc1, .bool um1, .slice uB1 uj1 ud1, .bool un2, .slice uA2 uk2 uc2, .bool um2, .slice uB2 uj2 ud2, .bool un3, .slice uA3 uk3 uc3, .bool um3, .slice uB3 uj3 ud3, .bool un4, .slice uA4 uk4 uc4, .bool um4, .slice uB4 uj4 ud4] rfl rfl (r11.there (by simp)) info_mom (by simp [Value.oneCell']) ?_; rw [hV12])
            refine ((moments_good W H (some ⟨gd, 0, none⟩) n cd B m d td l V12 hLb.out (hl.out.below (hBl.out _ hbr2)) h8 iW iH hEd).mono fun e w' h => h.2 hdP.out).mono ?_
            rintro e w13 ⟨hb, csN, rfl, hFm⟩
            clear c0 c1 c2 hLb hEd hdP p2 hV11 hV12 hB11 hB12 r11 sV11
            generalize w10.heap.size = gu at *
            replace hbr2 := hbr2.trans (hb.mono hbr2.size)
            replace ru := keep_blk hb ru
            replace e0 := hide (e0.out.below hb)
            clear hb
            obtain ⟨vn0, vA0, vk0, vc0, vm0, vB0, vj0, vd0, vn1, vA1, vk1, vc1, vm1, vB1, vj1, vd1, vn2, vA2, vk2, vc2, vm2, vB2, vj2, vd2, vn3, vA3, vk3, vc3, vm3, vB3, vj3, vd3, vn4, vA4, vk4, vc4, vm4, vB4, vj4, vd4, rfl, e1, -, -, -, -⟩ := hFm
            replace e1 : Hid (Fr w13 vn0 vA0 vk0 vc0 vm0 vB0 vj0 vd0 (qd f)) := hide (by rw [← hdX.out]; exact e1)
            generalize (momOf W td l).s = sd
            obtain ⟨V14, hV14, hB14, r14, -, -, sV14⟩ := new_obj 34 #[.int .i64 0, .bool false, .slice none 0 0, .bool false, .slice none 0 0, .bool false, .slice none 0 0, .bool false, .slice none 0 0, .bool false, .slice none 0 0, .bool false, .slice none 0 0, .bool false, .slice none 0 0, .bool false, .slice none 0 0, .bool false, .slice none 0 0, .bool false, .slice none 0 0] (Below.refl w13.heap.size w13) (Nat.le_refl _)
            obtain ⟨V15, hV15, hB15, rd, -⟩ := set_all [.int .i64 sd, .bool vn0, .slice vA0 vk0 vc0, .bool vm0, .slice vB0 vj0 vd0, .bool vn1, .slice vA1 vk1 vc1, .bool vm1, .slice vB1 vj1 vd1, .bool vn2, .slice vA2 vk2 vc2, .bool vm2, .slice vB2 vj2 vd2, .bool vn3, .slice vA3 vk3 vc3, .bool vm3, .slice vB3 vj3 vd3, .bool vn4, .slice vA4 vk4 vc4, .bool vm4, .slice vB4 vj4 vd4] [.int .i64 0, .bool false, .slice none 0 0, .bool false, .slice none 0 0, .bool false, .slice none 0 0, .bool false, .slice none 0 0, .bool false, .slice none 0 0, .bool false, .slice none 0 0, .bool false, .slice none 0 0, .bool false, .slice none 0 0, .bool false, .slice none 0 0, .bool false, .slice none 0 0] rfl rfl rfl hB14 (Nat.le_refl _) r14
            replace hbr2 := hbr2.trans (hB15.mono hbr2.size)
            replace ru := keep_blk hB15 ru
            replace e0 := hide (e0.out.below hB15)
            replace e1 := hide (e1.out.below hB15)
            have hqa1 : decide (qd f = LX) = qa f := by rw [hqa.out]
            have hqz1 : decide (qu f = MX) = qz f := by rw [hqz.out]
            generalize qa f = sa at *
            generalize qz f = sz at *
            generalize qd f = Qd at *
            generalize qu f = Qu at *
            replace hqa1 := hide hqa1
            replace hqz1 := hide hqz1
            have qbx := keep_blk hbr2 qb
            have b0 := qbx.cell 0
            have b1 := qbx.cell 1
            have b2 := qbx.cell 2
            have b3 := qbx.cell 3
            have b4 := qbx.cell 4
            have b5 := qbx.cell 5
            have b6 := qbx.cell 6
            have b7 := qbx.cell 7
            simp at b0 b1 b2 b3 b4 b5 b6 b7
            have u1 := ru.cell 1
            have u2 := ru.cell 2
            have u3 := ru.cell 3
            have u4 := ru.cell 4
            have v1 := rd.cell 1
            have v2 := rd.cell 2
            have v3 := rd.cell 3
            have v4 := rd.cell 4
            simp at u1 v1 u2 v2 u3 v3 u4 v4
            cases la <;> cases lz
            case true.true =>
              go_wp2_with (refine wpList_store_mid rfl 34 _ _ rfl w13.heap.size 0 #[.int .i64 sd, .bool vn0, .slice vA0 vk0 vc0, .bool vm0, .slice vB0 vj0 vd0, .bool vn1, .slice vA1 vk1 vc1, .bool vm1, .slice vB1 vj1 vd1, .bool vn2, .slice vA2 vk2 vc2, .bool vm2, .slice vB2 vj2 vd2, .bool vn3, .slice vA3 vk3 vc3, .bool vm3, .slice vB3 vj3 vd3, .bool vn4, .slice vA4 vk4 vc4, .bool vm4, .slice vB4 vj4 vd4] rfl rfl (r14.there (by simp)) info_mom (by simp [Value.oneCell']) ?_; rw [hV15])
              go_round
              case rel => exact ⟨f + 1, by omega, by go_num, by simp [eA.out], by simp [eZ.out], hbr2⟩
              case measure => simp [intOf]; omega
            case true.false =>
              go_wp2_with (refine wpList_store_mid rfl 34 _ _ rfl w13.heap.size 0 #[.int .i64 sd, .bool vn0, .slice vA0 vk0 vc0, .bool vm0, .slice vB0 vj0 vd0, .bool vn1, .slice vA1 vk1 vc1, .bool vm1, .slice vB1 vj1 vd1, .bool vn2, .slice vA2 vk2 vc2, .bool vm2, .slice vB2 vj2 vd2, .bool vn3, .slice vA3 vk3 vc3, .bool vm3, .slice vB3 vj3 vd3, .bool vn4, .slice vA4 vk4 vc4, .bool vm4, .slice vB4 vj4 vd4] rfl rfl (r14.there (by simp)) info_mom (by simp [Value.oneCell']) ?_; rw [hV15])
              refine (rfSame_any un0 um0 qn1 qm1 uA0 uB0 qA1 qB1 uk0 uc0 uj0 ud0 qk1 qc1 qj1 qd1 Qu MX V15 e0.out (g1.out.below hbr2) sz hqz1.out).mono ?_
              rintro e w17 ⟨rfl, hb⟩
              replace hbr2 := hbr2.trans (hb.mono hbr2.size)
              go_wp2_with fail
              go_round
              case rel => exact ⟨f + 1, by omega, by go_num, by simp [eA.out], by simp [eZ.out], hbr2⟩
              case measure => simp [intOf]; omega
            case false.true =>
              go_wp2_with (refine wpList_store_mid rfl 34 _ _ rfl w13.heap.size 0 #[.int .i64 sd, .bool vn0, .slice vA0 vk0 vc0, .bool vm0, .slice vB0 vj0 vd0, .bool vn1, .slice vA1 vk1 vc1, .bool vm1, .slice vB1 vj1 vd1, .bool vn2, .slice vA2 vk2 vc2, .bool vm2, .slice vB2 vj2 vd2, .bool vn3, .slice vA3 vk3 vc3, .bool vm3, .slice vB3 vj3 vd3, .bool vn4, .slice vA4 vk4 vc4, .bool vm4, .slice vB4 vj4 vd4] rfl rfl (r14.there (by simp)) info_mom (by simp [Value.oneCell']) ?_; rw [hV15])
              refine (rfSame_any vn0 vm0 qn0 qm0 vA0 vB0 qA0 qB0 vk0 vc0 vj0 vd0 qk0 qc0 qj0 qd0 Qd LX V15 e1.out (g0.out.below hbr2) sa hqa1.out).mono ?_
              rintro e w16 ⟨rfl, hb⟩
              replace hbr2 := hbr2.trans (hb.mono hbr2.size)
              go_wp2_with fail
              go_round
              case rel => exact ⟨f + 1, by omega, by go_num, by simp [eA.out], by simp [eZ.out], hbr2⟩
              case measure => simp [intOf]; omega
            case false.false =>
              go_wp2_with (refine wpList_store_mid rfl 34 _ _ rfl w13.heap.size 0 #[.int .i64 sd, .bool vn0, .slice vA0 vk0 vc0, .bool vm0, .slice vB0 vj0 vd0, .bool vn1, .slice vA1 vk1 vc1, .bool vm1, .slice vB1 vj1 vd1, .bool vn2, .slice vA2 vk2 vc2, .bool vm2, .slice vB2 vj2 vd2, .bool vn3, .slice vA3 vk3 vc3, .bool vm3, .slice vB3 vj3 vd3, .bool vn4, .slice vA4 vk4 vc4, .bool vm4, .slice vB4 vj4 vd4] rfl rfl (r14.there (by simp)) info_mom (by simp [Value.oneCell']) ?_; rw [hV15])
              refine (rfSame_any vn0 vm0 qn0 qm0 vA0 vB0 qA0 qB0 vk0 vc0 vj0 vd0 qk0 qc0 qj0 qd0 Qd LX V15 e1.out (g0.out.below hbr2) sa hqa1.out).mono ?_
              rintro e w16 ⟨rfl, hb⟩
              clear b0 b1 b2 b3 b4 b5 b6 b7 u1 v1 u2 v2 u3 v3 u4 v4
              replace hbr2 := hbr2.trans (hb.mono hbr2.size)
              replace ru := keep_blk hb ru
              replace qbx := keep_blk hb qbx
              replace e0 := hide (e0.out.below hb)
              have b4 := qbx.cell 4
              have b5 := qbx.cell 5
              have b6 := qbx.cell 6
              have b7 := qbx.cell 7
              simp at b4 b5 b6 b7
              have u1 := ru.cell 1
              have u2 := ru.cell 2
              have u3 := ru.cell 3
              have u4 := ru.cell 4
              simp at u1 u2 u3 u4
              go_wp2_with fail
              refine (rfSame_any un0 um0 qn1 qm1 uA0 uB0 qA1 qB1 uk0 uc0 uj0 ud0 qk1 qc1 qj1 qd1 Qu MX w16 e0.out (g1.out.below hbr2) sz hqz1.out).mono ?_
              rintro e w17 ⟨rfl, hb2⟩
              replace hbr2 := hbr2.trans (hb2.mono hbr2.size)
              go_wp2_with fail
              go_round
              case rel => exact ⟨f + 1, by omega, by go_num, by simp [eA.out], by simp [eZ.out], hbr2⟩
              case measure => simp [intOf]; omega
    obtain ⟨hk, hk2⟩ := hkk
    have htk : decide ((k : Int) < (m : Int)) = true := by simp; omega
    have htk2 : decide ((k : Int) < (nb : Int)) = true := by simp; omega
    obtain ⟨g, o, rfl, hc⟩ := hl.out.2.2.2.2 (by omega)
    have hck := (hBr.cell (lt_of_cell (hc k hk))).trans (hc k hk)
    obtain ⟨g', o', rfl, hc'⟩ := hy.out.2.2.2.2 (by omega)
    have hcy := (hBr.cell (lt_of_cell (hc' k hk2))).trans (hc' k hk2)
    clear hc hc'
    have hx4 := hr.out k hk
    have hpk := hpx.out k hk
    have hoth : (modl ps l cc k)[(l[k]?.getD 0).toNat]?.getD 0 = ps[(l[k]?.getD 0).toNat]?.getD 0 := modl_other (fun i hi => by have := hdis.out i k hi hk; have := hr.out i (by omega); omega)
    have hstep : modl ps l cc (k + 1) = (modl ps l cc k).set (l[k]?.getD 0).toNat (pix ps (l[k]?.getD 0) + cc k) := rfl
    obtain ⟨j, hj⟩ : ∃ j : Nat, l[k]?.getD 0 = j := ⟨(l[k]?.getD 0).toNat, by omega⟩
    rw [hj] at hck hx4 hoth hstep hpk
    simp only [Int.toNat_natCast] at hoth hstep
    have hjn : j < n := by omega
    have hpj : pix ps (j : Int) = ps[j]?.getD 0 := by simp [pix]
    have hMc := (hM j (by rw [modl_length, hpl.out]; exact hjn)).1
    rw [hoth, ← hpj] at hMc
    have hfz := (hM j (by rw [modl_length, hpl.out]; exact hjn)).2
    have hgtr : gt < wr.heap.size := lt_of_cell hMc
    have hcck : cc k = clampC off (bs[k]?.getD 0) := by rw [hcc.out]
    have hccl := hccb.out k
    generalize bs[k]?.getD 0 = y at *
    generalize pix ps (j : Int) = P at *
    have hc2 : cc k = max (-off) (min off y) := hcck
    rw [hc2] at hccl hstep
    have hneg : wrap64 (-off) = -off := wrapS (by omega)
    have hneg2 : IntKind.i64.wrap (-off) = -off := by rw [IntKind.wrap_i64]; omega
    have a1 : wrap64 (P + max (-off) (min off y)) = P + max (-off) (min off y) := wrapS (by omega)
    have p2 := q12.cell 2
    simp at p2
    replace hx4 := hide hx4
    replace hj := hide hj
    replace hoth := hide hoth
    replace hstep := hide hstep
    replace hpj := hide hpj
    replace hcck := hide hcck
    replace hc2 := hide hc2
    replace hM := hide hM
    go_wp2_with fail
    refine wp_held [19] (fun wx => wx.cell? ⟨g12, 2, none⟩ = some (.slice (some ⟨gt, 0, none⟩) n ct) ∧ wx.cell? ⟨g, o + k, none⟩ = some (.int .i64 j) ∧ wx.cell? ⟨g', o' + k, none⟩ = some (.int .i64 y) ∧ wx.cell? ⟨gt, j, none⟩ = some (.int .i64 P)) hmx ⟨p2, hck, hcy, hMc⟩ (fun _ => ?_)

    refine wpAnyL_take (i := 0) (v := ?v1) rfl (by kernel_rfl) (by kernel_rfl) (by kernel_rfl) (by kernel_rfl) (by kernel_rfl) (Or.inl ⟨by rfl, ?hy1⟩) ⟨p2, hck, hcy, hMc⟩ ?rest1
    case hy1 => (intro W2 hSw; (try dsimp only at hSw); go_simp; try with_reducible rfl)
    try simp only [Act.put, List.setIfInBounds_toArray, List.set_cons_zero, List.set_cons_succ]
    refine wpAnyL_take (i := 1) (v := ?v2) rfl (by kernel_rfl) (by kernel_rfl) (by kernel_rfl) (by kernel_rfl) (by kernel_rfl) (Or.inl ⟨by rfl, ?hy2⟩) ⟨p2, hck, hcy, hMc⟩ ?rest2
    case hy2 => (intro W2 hSw; (try dsimp only at hSw); go_simp; try with_reducible rfl)
    try simp only [Act.put, List.setIfInBounds_toArray, List.set_cons_zero, List.set_cons_succ]
    refine wpAnyL_take (i := 2) (v := ?v3) rfl (by kernel_rfl) (by kernel_rfl) (by kernel_rfl) (by kernel_rfl) (by kernel_rfl) (Or.inl ⟨by rfl, ?hy3⟩) ⟨p2, hck, hcy, hMc⟩ ?rest3
    case hy3 => (intro W2 hSw; (try dsimp only at hSw); go_simp; try with_reducible rfl)
    try simp only [Act.put, List.setIfInBounds_toArray, List.set_cons_zero, List.set_cons_succ]
    refine wpAnyL_take (i := 3) (v := ?v4) rfl (by kernel_rfl) (by kernel_rfl) (by kernel_rfl) (by kernel_rfl) (by kernel_rfl) (Or.inl ⟨by rfl, ?hy4⟩) ⟨p2, hck, hcy, hMc⟩ ?rest4
    case hy4 => (intro W2 hSw; (try dsimp only at hSw); go_simp; try with_reducible rfl)
    try simp only [Act.put, List.setIfInBounds_toArray, List.set_cons_zero, List.set_cons_succ]
    refine wpAnyL_take (i := 4) (v := ?v5) rfl (by kernel_rfl) (by kernel_rfl) (by kernel_rfl) (by kernel_rfl) (by kernel_rfl) (Or.inl ⟨by rfl, ?hy5⟩) ⟨p2, hck, hcy, hMc⟩ ?rest5
    case hy5 => (intro W2 hSw; (try dsimp only at hSw); go_simp; try with_reducible rfl)
    try simp only [Act.put, List.setIfInBounds_toArray, List.set_cons_zero, List.set_cons_succ]
    refine wpAnyL_take (i := 5) (v := ?v6) rfl (by kernel_rfl) (by kernel_rfl) (by kernel_rfl) (by kernel_rfl) (by kernel_rfl) (Or.inl ⟨by rfl, ?hy6⟩) ⟨p2, hck, hcy, hMc⟩ ?rest6
    case hy6 => (intro W2 hSw; (try dsimp only at hSw); go_simp; try with_reducible rfl)
    try simp only [Act.put, List.setIfInBounds_toArray, List.set_cons_zero, List.set_cons_succ]
    refine wpAnyL_take (i := 6) (v := ?v7) rfl (by kernel_rfl) (by kernel_rfl) (by kernel_rfl) (by kernel_rfl) (by kernel_rfl) (Or.inl ⟨by rfl, ?hy7⟩) ⟨p2, hck, hcy, hMc⟩ ?rest7
    case hy7 => (intro W2 hSw; (try dsimp only at hSw); go_simp; try with_reducible rfl)
    try simp only [Act.put, List.setIfInBounds_toArray, List.set_cons_zero, List.set_cons_succ]
    refine wpAnyL_take (i := 7) (v := ?v8) rfl (by kernel_rfl) (by kernel_rfl) (by kernel_rfl) (by kernel_rfl) (by kernel_rfl) (Or.inl ⟨by rfl, ?hy8⟩) ⟨p2, hck, hcy, hMc⟩ ?rest8
    case hy8 => (intro W2 hSw; (try dsimp only at hSw); go_simp; try with_reducible rfl)
    try simp only [Act.put, List.setIfInBounds_toArray, List.set_cons_zero, List.set_cons_succ]
    refine wpAnyL_take (i := 8) (v := ?v9) rfl (by kernel_rfl) (by kernel_rfl) (by kernel_rfl) (by kernel_rfl) (by kernel_rfl) (Or.inl ⟨by rfl, ?hy9⟩) ⟨p2, hck, hcy, hMc⟩ ?rest9
    case hy9 => (intro W2 hSw; (try dsimp only at hSw); go_simp; try with_reducible rfl)
    try simp only [Act.put, List.setIfInBounds_toArray, List.set_cons_zero, List.set_cons_succ]
    refine wpAnyL_take (i := 9) (v := ?v10) rfl (by kernel_rfl) (by kernel_rfl) (by kernel_rfl) (by kernel_rfl) (by kernel_rfl) (Or.inl ⟨by rfl, ?hy10⟩) ⟨p2, hck, hcy, hMc⟩ ?rest10
    case hy10 => (intro W2 hSw; (try dsimp only at hSw); go_simp; try with_reducible rfl)
    try simp only [Act.put, List.setIfInBounds_toArray, List.set_cons_zero, List.set_cons_succ]
    refine wpAnyL_take (i := 10) (v := ?v11) rfl (by kernel_rfl) (by kernel_rfl) (by kernel_rfl) (by kernel_rfl) (by kernel_rfl) (Or.inl ⟨by rfl, ?hy11⟩) ⟨p2, hck, hcy, hMc⟩ ?rest11
    case hy11 => (intro W2 hSw; (try dsimp only at hSw); go_simp; try with_reducible rfl)
    try simp only [Act.put, List.setIfInBounds_toArray, List.set_cons_zero, List.set_cons_succ]
    refine wpAnyL_take (i := 11) (v := ?v12) rfl (by kernel_rfl) (by kernel_rfl) (by kernel_rfl) (by kernel_rfl) (by kernel_rfl) (Or.inl ⟨by rfl, ?hy12⟩) ⟨p2, hck, hcy, hMc⟩ ?rest12
    case hy12 => (intro W2 hSw; (try dsimp only at hSw); go_simp; try with_reducible rfl)
    try simp only [Act.put, List.setIfInBounds_toArray, List.set_cons_zero, List.set_cons_succ]
    refine wpAnyL_take (i := 12) (v := ?v13) rfl (by kernel_rfl) (by kernel_rfl) (by kernel_rfl) (by kernel_rfl) (by kernel_rfl) (Or.inl ⟨by rfl, ?hy13⟩) ⟨p2, hck, hcy, hMc⟩ ?rest13
    case hy13 => (intro W2 hSw; (try dsimp only at hSw); go_simp; try with_reducible rfl)
    try simp only [Act.put, List.setIfInBounds_toArray, List.set_cons_zero, List.set_cons_succ]
    refine wpAnyL_take (i := 13) (v := ?v14) rfl (by kernel_rfl) (by kernel_rfl) (by kernel_rfl) (by kernel_rfl) (by kernel_rfl) (Or.inl ⟨by rfl, ?hy14⟩) ⟨p2, hck, hcy, hMc⟩ ?rest14
    case hy14 => (intro W2 hSw; (try dsimp only at hSw); go_simp; try with_reducible rfl)
    try simp only [Act.put, List.setIfInBounds_toArray, List.set_cons_zero, List.set_cons_succ]
    refine wpAnyL_take (i := 14) (v := ?v15) rfl (by kernel_rfl) (by kernel_rfl) (by kernel_rfl) (by kernel_rfl) (by kernel_rfl) (Or.inl ⟨by rfl, ?hy15⟩) ⟨p2, hck, hcy, hMc⟩ ?rest15
    case hy15 => (intro W2 hSw; (try dsimp only at hSw); go_simp; try with_reducible rfl)
    try simp only [Act.put, List.setIfInBounds_toArray, List.set_cons_zero, List.set_cons_succ]
    refine wpAnyL_one (i := 15) rfl (by kernel_rfl) (fun K hK => ?_)
    go_simp
    (try rw [hneg2])
    (try rw [hneg])
    refine hK.out _ _ (fun _ => ⟨p2, hck, hcy, hMc⟩) ?_
    clear hK K
    try simp only [puts, cn, if_true, Act.put, List.setIfInBounds_toArray, List.set_cons_zero, List.set_cons_succ]
    refine wpAnyL_one (i := 16) rfl (by kernel_rfl) (fun K hK => ?_)
    go_simp
    (try rw [hneg2])
    (try rw [hneg])
    refine hK.out _ _ (fun _ => ⟨p2, hck, hcy, hMc⟩) ?_
    clear hK K
    try simp only [puts, cn, if_true, Act.put, List.setIfInBounds_toArray, List.set_cons_zero, List.set_cons_succ]
    refine wpAnyL_take (i := 17) (v := ?v16) rfl (by kernel_rfl) (by kernel_rfl) (by kernel_rfl) (by kernel_rfl) (by kernel_rfl) (Or.inl ⟨by rfl, ?hy16⟩) ⟨p2, hck, hcy, hMc⟩ ?rest16
    case hy16 => (intro W2 hSw; (try dsimp only at hSw); go_simp; try with_reducible rfl)
    try simp only [Act.put, List.setIfInBounds_toArray, List.set_cons_zero, List.set_cons_succ]
    refine wpAnyL_take (i := 18) (v := ?v17) rfl (by kernel_rfl) (by kernel_rfl) (by kernel_rfl) (by kernel_rfl) (by kernel_rfl) (Or.inl ⟨by rfl, ?hy17⟩) ⟨p2, hck, hcy, hMc⟩ ?rest17
    case hy17 => (intro W2 hSw; (try dsimp only at hSw); go_simp; try with_reducible rfl)
    try simp only [Act.put, List.setIfInBounds_toArray, List.set_cons_zero, List.set_cons_succ]
    refine wpAnyL_late (i := 19) rfl (by kernel_rfl) (by kernel_rfl) (fun K hK => ?_)
    go_simp
    refine hK.out _ _ ?_
    clear hK K
    try simp only [puts, cn, if_true, Act.put, List.setIfInBounds_toArray, List.set_cons_zero, List.set_cons_succ]
    refine wpAnyL_done (by kernel_rfl) ?_ _
    refine OnlyNormal.normal ?_
    go_wp2_with fail
    go_round
    case rel => (try rw [a1]); exact ⟨k + 1, by omega, by omega, by go_num, below_dn (hbr.setCell (p := ⟨gt, j, none⟩) hgt (.int .i64 (P + max (-off) (min off y)))) 1, q12.far (fun e => hg12.out.2 e.symm) _, by show MutI _ gt (modl ps l cc (k + 1)); rw [hstep.out]; exact hM.out.set_ j (P + max (-off) (min off y))⟩
    case measure => simp [intOf]; omega
end Go.Proofs.YtkippclhbkjbmaaGreat
