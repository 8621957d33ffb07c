/- Package poly: times, Mul. -/
import Derived.Test.YtljocgdhdilglaaGreatZr12
import Derived.Test.YtljocgdhdilglaaGreatZr15
import Derived.Test.YtljocgdhdilglaaGreatZr16
set_option linter.unusedSimpArgs false
set_option linter.unusedVariables false

namespace Go.Proofs.YtljocgdhdilglaaGreat
open Go.RowKit
attribute [local go_sem] add_lit

/-- Limbs outside the block are kept by a store of an element. -/
theorem POwn.hold {t : TypeId} {w : World} {g : Nat} {xs : List Int} (h : POwn t w g xs) {i : Nat} (neg : Bool) (A : Option Addr) (n c : Nat) {neg' : Bool} {A' : Option Addr} {n' c' : Nat} {z : Int} (hz : Wd w neg' A' n' c' z) :
    Wd ((w.setCell ⟨g, i * 2, none⟩ (.bool neg)).setCell ⟨g, i * 2 + 1, none⟩ (.slice A n c)) neg' A' n' c' z := by
  obtain ⟨es, h1, -, -⟩ := h
  exact ⟨hz.1, hz.2.1, (hz.2.2.set_box h1 (cellsW_noLimb es) _ _).set_box (h1.set_ (i * 2) (.bool neg)) (cellsW_noLimb1 _ _ _) _ _⟩

theorem PolyL.shut {w : World} {A : Option Addr} {n c k : Nat} {xs : List Int} (h : PolyL w A n c xs) (hk : k ≤ n) : PolyL w A k k (xs.take k) := by
  obtain ⟨es, h1, h2, h3⟩ := h.take hk
  exact ⟨es, ⟨h1.1, Nat.le_refl _, Nat.le_trans h1.2.1 h1.2.2.1, h1.2.2.2⟩, h2, h3⟩

theorem pw_bound {i : Nat} {z : Int} (hi : i ≤ 20) (h : z.natAbs ≤ (i + 1) * (pw 40 * pw 40)) : z.natAbs < pw 4096 := by
  have h1 := pw_le (show 82 ≤ 4096 by omega)
  rw [show pw 82 = 4294967296 * (4294967296 * (pw 40 * pw 40)) by rw [pw_succ, pw_succ, show 80 = 40 + 40 by rfl, pw_add]] at h1
  have h2 : 0 < pw 40 * pw 40 := Nat.mul_pos (pw_pos _) (pw_pos _)
  have h3 : (i + 1) * (pw 40 * pw 40) ≤ 21 * (pw 40 * pw 40) := Nat.mul_le_mul_right _ (by omega)
  generalize pw 40 * pw 40 = M at *
  omega

/-- What 'times' hands back: a slice of valid numbers. -/
def OutP (w : World) (xs : List Int) (e : Ending) (w' : World) : Prop := ∃ A n c, e = .returned (.slice A n c) ∧ PolyL w' A n c xs ∧ Below w.heap.size w w'

set_option maxRecDepth 100000 in
set_option maxHeartbeats 4000000 in
theorem ptimes_any (A B : Option Addr) (n c m d : Nat) (ps qs : List WE) (w : World) (hp : WL w A n c ps) (hq : WL w B m d qs) (kp : pOk ps = true) (kq : pOk qs = true) :
    Calls Tryz.prog 48 #[.slice A n c, .slice B m d] w (OutP w (trimP (mulP (ps.map WE.num) (qs.map WE.num)))) := by
  obtain ⟨iw, hi, hz0, hz1, hz2⟩ := info_parts infoW
  have hnc := hp.2.1
  have hmd := hq.2.1
  have hcm := hp.2.2.1
  have hdm := hq.2.2.1
  unfold maxLen at hcm hdm
  obtain ⟨hn9, hpk⟩ := pOk_parts kp
  obtain ⟨hm9, hqk⟩ := pOk_parts kq
  have hpl := hide hp.len
  have hql := hide hq.len
  rw [hp.len] at hn9
  rw [hq.len] at hm9
  replace hpk := hide hpk
  replace hqk := hide hqk
  clear kp kq
  obtain ⟨xs, hxs⟩ : ∃ xs, ps.map WE.num = xs := ⟨_, rfl⟩
  obtain ⟨ys, hys⟩ : ∃ ys, qs.map WE.num = ys := ⟨_, rfl⟩
  rw [hxs, hys]
  have hxl : Hid (xs.length = n) := by unfold Hid; rw [← hxs, List.length_map]; exact hpl.out
  have hyl : Hid (ys.length = m) := by unfold Hid; rw [← hys, List.length_map]; exact hql.out
  have hxb : Hid (∀ i : Nat, (xs[i]?.getD 0).natAbs < pw 40) := fun i => by
    rw [← hxs, List.getElem?_map]
    rcases Option.eq_none_or_eq_some ps[i]? with h | ⟨e, h⟩
    · rw [h]; exact pw_pos 40
    · rw [h]; exact WE.small (hp.2.2.2.2 e (List.mem_of_getElem? h)) (hpk.out e (List.mem_of_getElem? h)).1 (hpk.out e (List.mem_of_getElem? h)).2
  have hyb : Hid (∀ i : Nat, (ys[i]?.getD 0).natAbs < pw 40) := fun i => by
    rw [← hys, List.getElem?_map]
    rcases Option.eq_none_or_eq_some qs[i]? with h | ⟨e, h⟩
    · rw [h]; exact pw_pos 40
    · rw [h]; exact WE.small (hq.2.2.2.2 e (List.mem_of_getElem? h)) (hqk.out e (List.mem_of_getElem? h)).1 (hqk.out e (List.mem_of_getElem? h)).2
  replace hxs := hide hxs
  replace hys := hide hys
  rcases Nat.lt_or_ge 1 (n + m) with h0 | h0
  · have hmx : (0 : Int) < (n : Int) + m - 1 := by omega
    obtain ⟨N, hN, hNX⟩ : ∃ N : Nat, N = n + m - 1 ∧ (n : Int) + m - 1 = (N : Int) := ⟨_, rfl, by omega⟩
    have hN20 : N ≤ 17 := by omega
    have hmk := makeW (P := Tryz.prog) 22 25 Tryz.underlying22 hi hz0 hz1 hz2 ((n : Int) + m - 1) N hNX (by omega)
    replace hNX := hide hNX
    replace hN := hide hN
    go_enter Tryz.func48, Tryz.ntmps48
    go_wp2_with fail
    go_loopw [22] (fun iv wr => ∃ i : Nat, i ≤ n ∧ iv = .int .i64 i ∧ ∃ o, POwn 25 wr w.heap.size o ∧ Hid (o.length = N) ∧ Hid (∀ j, j < N → o[j]?.getD 0 = stP xs ys i 0 j) ∧ Below w.heap.size w wr) (fun iv _ => n - (intOf iv).toNat)
    case atStart => exact ⟨0, Nat.zero_le _, rfl, List.replicate N 0, POwn.new _ _ _, by unfold Hid; simp, fun j hj => by rw [stP_start, List.getElem?_replicate, if_pos hj]; rfl, (Below.refl _ _).alloc (Nat.le_refl _) _⟩
    case round =>
      obtain ⟨i, hik, rfl, o, hown, hol, hod, hBp⟩ := hrel
      have hszo := hown.lt
      by_cases hin : i < n
      · obtain ⟨b1, o1, e1, rfl, he1, hc1, hc1', hL1⟩ := (hp.below hBp).at_ hin
        have hw1 := WE.wd hL1 (hpk.out e1 (List.mem_of_getElem? he1)).1
        have hx1 := hp.num_at he1
        rw [hxs.out] at hx1
        have hlt1 := lt_of_cell hc1
        obtain ⟨neg1, A1, n1, c1, l1⟩ := e1
        dsimp only at hc1 hc1' hL1 hw1 hx1
        generalize WE.num ⟨neg1, A1, n1, c1, l1⟩ = x1 at *
        replace hx1 := hide hx1
        replace he1 := hide he1
        have hBA := Blk.new wr 25 #[.bool neg1, .slice A1 n1 c1]
        have hBo := hBp.alloc hBp.size (.cells #[.bool neg1, .slice A1 n1 c1] 25)
        have hownA := hown.alloc (.cells #[.bool neg1, .slice A1 n1 c1] 25)
        have hwA := hw1.alloc (.cells #[.bool neg1, .slice A1 n1 c1] 25)
        obtain ⟨wo, rfl⟩ : ∃ wo : World, wo = wr := ⟨_, rfl⟩
        replace hBA := hide hBA
        go_wp2_with fail
        clear hc1 hc1' hlt1 hown
        go_loopw [29] (fun kv wr => ∃ k : Nat, k ≤ m ∧ kv = .int .i64 k ∧ ∃ o, POwn 25 wr w.heap.size o ∧ Hid (o.length = N) ∧ Hid (∀ j, j < N → o[j]?.getD 0 = stP xs ys i k j) ∧ Below w.heap.size w wr ∧ Hid (Blk wr wo.heap.size 25 #[.bool neg1, .slice A1 n1 c1]) ∧ Wd wr neg1 A1 n1 c1 x1) (fun kv _ => m - (intOf kv).toNat)
        case atStart => exact ⟨0, Nat.zero_le _, rfl, o, hownA, hol, hod, hBo, hBA, hwA⟩
        case round =>
          obtain ⟨k, hkm, rfl, o, hown, hol, hod, hBp, hBA, hw1⟩ := hrel
          have hsz := hown.lt
          by_cases hkm' : k < m
          · have hikN : i + k < N := by have := hN.out; omega
            have ha1 := hBA.out.cell 0
            have ha2 := hBA.out.cell 1
            have haz := hBA.out.lt
            simp at ha1 ha2
            obtain ⟨b2, o2, e2, rfl, he2, hc2, hc2', hL2⟩ := (hq.below hBp).at_ hkm'
            have hw2 := WE.wd hL2 (hqk.out e2 (List.mem_of_getElem? he2)).1
            have hx2 := hq.num_at he2
            rw [hys.out] at hx2
            have hlt2 := lt_of_cell hc2
            obtain ⟨neg2, A2, n2, c2, l2⟩ := e2
            dsimp only at hc2 hc2' hL2 hw2 hx2
            generalize WE.num ⟨neg2, A2, n2, c2, l2⟩ = x2 at *
            replace hx2 := hide hx2
            replace he2 := hide he2
            have hM12 : (x1 * x2).natAbs < pw 4096 := by
              have h1 := hxb.out i; have h2 := hyb.out k
              rw [hx1.out] at h1; rw [hx2.out] at h2
              exact pw_bound (i := 0) (by omega) (by rw [Nat.zero_add, Nat.one_mul]; exact natAbs_mul_lt h1 h2)
            go_wp2_with fail
            refine (Mul_ok _ _ _ _ _ _ _ _ x1 x2 _ (by exact hw1.alloc _) (by exact hw2.alloc _)).mono ?_
            rintro e w3 ⟨hb3, neg3, A3, n3, c3, code3, rfl, hR3⟩
            have hW3 := hR3.small hM12
            clear hR3
            have hown3 := ((hown.alloc (.cells #[.bool neg2, .slice A2 n2 c2] 25)).below hb3)
            have hBp3 : Below w.heap.size w w3 := (hBp.alloc hBp.size _).trans (hb3.mono (by have := hBp.size; simp; omega))
            have hBA3 := keep_blk hb3 (hBA.out.alloc _)
            have hw1_3 := (hw1.alloc _).below hb3
            go_wp2_with fail
            have hown4 := hown3.alloc (.cells #[.bool neg3, .slice A3 n3 c3] 25)
            have hW4 := hW3.alloc (.cells #[.bool neg3, .slice A3 n3 c3] 25)
            have hB4 := hBp3.alloc hBp3.size (.cells #[.bool neg3, .slice A3 n3 c3] 25)
            have hBA4 := hBA3.alloc (.cells #[.bool neg3, .slice A3 n3 c3] 25)
            have hw1_4 := hw1_3.alloc (.cells #[.bool neg3, .slice A3 n3 c3] 25)
            have hBT := Blk.new w3 25 #[.bool neg3, .slice A3 n3 c3]
            obtain ⟨negO, AO, nO, cO, g0, g1, hWO⟩ := hown4.at_ (i := i + k) (by rw [hol.out]; exact hikN)
            have g2 : (w3.alloc (.cells #[.bool neg3, .slice A3 n3 c3] 25)).cell? ⟨w3.heap.size, 0, none⟩ = some (.bool neg3) := hBT.cell 0
            have g3 : (w3.alloc (.cells #[.bool neg3, .slice A3 n3 c3] 25)).cell? ⟨w3.heap.size, 1, none⟩ = some (.slice A3 n3 c3) := hBT.cell 1
            have g4 := hown4.frozen ((i + k) * 2)
            have g5 := hown4.frozen ((i + k) * 2 + 1)
            have s1 : IntKind.i64.wrap ((i : Int) + (k : Int)) = (i : Int) + (k : Int) := IntWalk.i64_in _ (by omega)
            have s2 : 0 ≤ (i : Int) + (k : Int) := by omega
            have s3 : ((i : Int) + (k : Int)).toNat = i + k := by omega
            have s4 : (i : Int) + (k : Int) < (N : Int) := by omega
            have hMS : (o[i + k]?.getD 0 + x1 * x2).natAbs < pw 4096 := by
              rw [hod.out (i + k) hikN, ← hx1.out, ← hx2.out, ← stP_step]
              exact pw_bound (i := i) (by omega) (stP_le hxb.out hyb.out i (k + 1) (i + k))
            replace hown4 := hide hown4
            replace hBA4 := hide hBA4
            clear hBT hown3 hBA3 hown
            obtain ⟨w4, hw4⟩ : ∃ w4, w3.alloc (.cells #[.bool neg3, .slice A3 n3 c3] 25) = w4 := ⟨_, rfl⟩
            rw [hw4] at hown4 hW4 hB4 hBA4 hw1_4 g0 g1 g2 g3 g4 g5 hWO ⊢
            have hz4 : w3.heap.size < w4.heap.size := by rw [← hw4]; simp
            clear hw4
            go_region_with
              (first
                | (go_at_call 50; refine (Add_ok _ _ _ _ _ _ _ _ _ _ _ (by exact hWO) (by exact hW4)).mono ?_; rintro e w5 ⟨hb5, neg5, A5, n5, c5, code5, rfl, hR5⟩; have k0 := keep_cell hb5 g0; have k1 := keep_cell hb5 g1; have k4 := keep_frozen hb5 g0 g4; have k5 := keep_frozen hb5 g1 g5))
            all_goals (
              have hb5 : Below w4.heap.size w4 w5 := below_drewL hb5
              have hL1 : Wd w5 neg1 A1 n1 c1 x1 := hw1_4.below hb5
              have hown5 := hown4.out.below hb5
              have hil : i + k < o.length := by rw [hol.out]; exact hikN
              have hS5 := hR5.small hMS
              have hB5 : Below w.heap.size w w5 := hB4.trans (hb5.mono hB4.size)
              have hBA5 := keep_blk hb5 hBA4.out
              clear hR5
              have hown6 := hide (hown5.set_ hil hS5)
              have hL6 := hown5.hold (i := i + k) neg5 A5 n5 c5 hL1
              have hBA6 : Hid (Blk ((w5.setCell ⟨w.heap.size, (i + k) * 2, none⟩ (.bool neg5)).setCell ⟨w.heap.size, (i + k) * 2 + 1, none⟩ (.slice A5 n5 c5)) wo.heap.size 25 #[.bool neg1, .slice A1 n1 c1]) := hide ((hBA5.far (by exact Nat.ne_of_gt hszo) _).far (by exact Nat.ne_of_gt hszo) _)
              have hB6 := (hB5.setCell (p := ⟨w.heap.size, (i + k) * 2, none⟩) (Nat.le_refl _) (.bool neg5)).setCell (p := ⟨w.heap.size, (i + k) * 2 + 1, none⟩) (Nat.le_refl _) (.slice A5 n5 c5)
              have hod6 : Hid (∀ j, j < N → (o.set (i + k) (o[i + k]?.getD 0 + x1 * x2))[j]?.getD 0 = stP xs ys i (k + 1) j) := fun j hj => by
                by_cases hjk : j = i + k
                · subst hjk
                  rw [getI_set_eq _ hil, stP_step, hod.out _ hj, hx1.out, hx2.out]
                · rw [getI_set_ne _ (by omega), stP_other _ _ hjk]; exact hod.out j hj
              clear hown5 hBA5 hown4 hBA4 hW4 hWO
              go_wp2_with fail
              go_roundw
              case rel => exact ⟨k + 1, by omega, by go_num, _, hown6.out, by rw [List.length_set]; exact hol.out, hod6, hB6, hBA6, hL6⟩
              case measure => simp [intOf]; omega)
          · obtain rfl : k = m := by omega
            have hod' : Hid (∀ j, j < N → o[j]?.getD 0 = stP xs ys (i + 1) 0 j) := fun j hj => by rw [stP_row, hyl.out]; exact hod.out j hj
            go_wp2_with fail
            go_roundw
            case rel => exact ⟨i + 1, by omega, by go_num, o, hown, hol, hod', hBp⟩
            case measure => simp [intOf]; omega
      · obtain rfl : i = n := by omega
        have hJ : o = mulP xs ys := mulP_eq (by rw [hol.out, hN.out, hxl.out, hyl.out]) (fun j hj => by rw [hxl.out]; exact hod.out j (by rw [hN.out, ← hxl.out, ← hyl.out]; exact hj))
        have hP := hown.poly (by rw [hol.out]; unfold maxLen; omega)
        rw [hol.out, hJ] at hP
        replace hJ := hide hJ
        go_wp2_with fail
        refine (ptrim_any _ _ _ _ _ hP).mono ?_
        rintro e w4 ⟨rfl, hle, htk, hb4⟩
        have hP4 : PolyL w4 (some ⟨w.heap.size, 0, none⟩) (trimP (mulP xs ys)).length (trimP (mulP xs ys)).length (trimP (mulP xs ys)) := by
          have := (hP.below hb4).shut hle
          rw [← htk] at this; exact this
        replace htk := hide htk
        replace hP4 := hide hP4
        have hB4 := hBp.trans (hb4.mono hBp.size)
        go_wp2_with fail
        go_returns
        exact ⟨_, _, _, rfl, hP4.out, hB4⟩
  · have hmx : (n : Int) + m - 1 ≤ 0 := by omega
    obtain ⟨N, hN, hNX⟩ : ∃ N : Nat, N = n + m - 1 ∧ (0 : Int) = (N : Int) := ⟨_, rfl, by omega⟩
    have hN20 : N ≤ 17 := by omega
    have hmk := makeW (P := Tryz.prog) 22 25 Tryz.underlying22 hi hz0 hz1 hz2 ((0 : Int)) N hNX (by omega)
    replace hNX := hide hNX
    replace hN := hide hN
    go_enter Tryz.func48, Tryz.ntmps48
    go_wp2_with fail
    go_loopw [22] (fun iv wr => ∃ i : Nat, i ≤ n ∧ iv = .int .i64 i ∧ ∃ o, POwn 25 wr w.heap.size o ∧ Hid (o.length = N) ∧ Hid (∀ j, j < N → o[j]?.getD 0 = stP xs ys i 0 j) ∧ Below w.heap.size w wr) (fun iv _ => n - (intOf iv).toNat)
    case atStart => exact ⟨0, Nat.zero_le _, rfl, List.replicate N 0, POwn.new _ _ _, by unfold Hid; simp, fun j hj => by rw [stP_start, List.getElem?_replicate, if_pos hj]; rfl, (Below.refl _ _).alloc (Nat.le_refl _) _⟩
    case round =>
      obtain ⟨i, hik, rfl, o, hown, hol, hod, hBp⟩ := hrel
      have hszo := hown.lt
      by_cases hin : i < n
      · obtain ⟨b1, o1, e1, rfl, he1, hc1, hc1', hL1⟩ := (hp.below hBp).at_ hin
        have hw1 := WE.wd hL1 (hpk.out e1 (List.mem_of_getElem? he1)).1
        have hx1 := hp.num_at he1
        rw [hxs.out] at hx1
        have hlt1 := lt_of_cell hc1
        obtain ⟨neg1, A1, n1, c1, l1⟩ := e1
        dsimp only at hc1 hc1' hL1 hw1 hx1
        generalize WE.num ⟨neg1, A1, n1, c1, l1⟩ = x1 at *
        replace hx1 := hide hx1
        replace he1 := hide he1
        have hBA := Blk.new wr 25 #[.bool neg1, .slice A1 n1 c1]
        have hBo := hBp.alloc hBp.size (.cells #[.bool neg1, .slice A1 n1 c1] 25)
        have hownA := hown.alloc (.cells #[.bool neg1, .slice A1 n1 c1] 25)
        have hwA := hw1.alloc (.cells #[.bool neg1, .slice A1 n1 c1] 25)
        obtain ⟨wo, rfl⟩ : ∃ wo : World, wo = wr := ⟨_, rfl⟩
        replace hBA := hide hBA
        go_wp2_with fail
        clear hc1 hc1' hlt1 hown
        go_loopw [29] (fun kv wr => ∃ k : Nat, k ≤ m ∧ kv = .int .i64 k ∧ ∃ o, POwn 25 wr w.heap.size o ∧ Hid (o.length = N) ∧ Hid (∀ j, j < N → o[j]?.getD 0 = stP xs ys i k j) ∧ Below w.heap.size w wr ∧ Hid (Blk wr wo.heap.size 25 #[.bool neg1, .slice A1 n1 c1]) ∧ Wd wr neg1 A1 n1 c1 x1) (fun kv _ => m - (intOf kv).toNat)
        case atStart => exact ⟨0, Nat.zero_le _, rfl, o, hownA, hol, hod, hBo, hBA, hwA⟩
        case round =>
          obtain ⟨k, hkm, rfl, o, hown, hol, hod, hBp, hBA, hw1⟩ := hrel
          have hsz := hown.lt
          by_cases hkm' : k < m
          · omega
          · obtain rfl : k = m := by omega
            have hod' : Hid (∀ j, j < N → o[j]?.getD 0 = stP xs ys (i + 1) 0 j) := fun j hj => by rw [stP_row, hyl.out]; exact hod.out j hj
            go_wp2_with fail
            go_roundw
            case rel => exact ⟨i + 1, by omega, by go_num, o, hown, hol, hod', hBp⟩
            case measure => simp [intOf]; omega
      · obtain rfl : i = n := by omega
        have hJ : o = mulP xs ys := mulP_eq (by rw [hol.out, hN.out, hxl.out, hyl.out]) (fun j hj => by rw [hxl.out]; exact hod.out j (by rw [hN.out, ← hxl.out, ← hyl.out]; exact hj))
        have hP := hown.poly (by rw [hol.out]; unfold maxLen; omega)
        rw [hol.out, hJ] at hP
        replace hJ := hide hJ
        go_wp2_with fail
        refine (ptrim_any _ _ _ _ _ hP).mono ?_
        rintro e w4 ⟨rfl, hle, htk, hb4⟩
        have hP4 : PolyL w4 (some ⟨w.heap.size, 0, none⟩) (trimP (mulP xs ys)).length (trimP (mulP xs ys)).length (trimP (mulP xs ys)) := by
          have := (hP.below hb4).shut hle
          rw [← htk] at this; exact this
        replace htk := hide htk
        replace hP4 := hide hP4
        have hB4 := hBp.trans (hb4.mono hBp.size)
        go_wp2_with fail
        go_returns
        exact ⟨_, _, _, rfl, hP4.out, hB4⟩
end Go.Proofs.YtljocgdhdilglaaGreat
