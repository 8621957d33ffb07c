/- The reference's content and primitive part of the empty list. The reference's Cleared, of zeros alone. What PolyFree and PolyDivides call, in the form in which they use it. The law PolyFree as a call: it returns true. The law PolyFree holds: for every input it returns true, and each argument reads as before. -/
import Derived.Test.YtljocgdhdilglaaGreatRows
import Derived.Carry
import Derived.Test.YtljocgdhdilglaaGreatZf02
import Derived.Test.YtljocgdhdilglaaGreatZf01
import Derived.Test.YtljocgdhdilglaaGreatZr52
import Derived.Test.YtljocgdhdilglaaGreatZr53
set_option linter.unusedSimpArgs false
set_option linter.unusedVariables false

namespace Go.Proofs.YtljocgdhdilglaaGreat
open Go.RowKit
attribute [local go_sem] add_lit

set_option maxRecDepth 100000 in
set_option maxHeartbeats 1000000 in
theorem rcontent_nil (A : Option Addr) (c : Nat) (w : World) :
    Calls Tryz.prog 106 #[.slice A 0 c] w fun e w' => Below w.heap.size w w' ∧ ∃ na B m d, e = .returned (.agg #[.bool na, .slice B m d]) := by
  obtain ⟨X1, hX1, hB1, q1, k1, -, s1⟩ := new_obj 25 #[.bool false, .slice none 0 0] (Below.refl w.heap.size w) (Nat.le_refl _)
  obtain ⟨X2, hX2, hB2, q2, k2, far2, s2⟩ := new_obj 25 #[.bool false, .slice none 0 0] hB1 hB1.size
  rw [s1] at q2
  obtain ⟨X3, hX3, hB3, q3, k3⟩ := set_num false none 0 0 hB2 (by omega) q2
  obtain ⟨a0, a1, f0, f1⟩ := q2.two
  obtain ⟨b0, b1, f2, f3⟩ := q3.two
  have q1' := k3.2.1 _ _ _ (by omega) (far2 _ _ _ q1)
  obtain ⟨c0, c1, g0, g1⟩ := q1'.two
  obtain ⟨X4, hX4, hB4, q4, k4⟩ := set_num false none 0 0 hB3 (Nat.le_refl _) q1'
  obtain ⟨d0, d1, h0, h1⟩ := q4.two
  have t0 : decide ((0 : Int) < (0 : Int)) = false := rfl
  go_enter Tryz.func106, Tryz.ntmps106
  go_wp2_with fail
  go_loopg [4] 0 (fun k iv wr => iv = .int .i64 0 ∧ wr = X3)
  case atStart => exact ⟨rfl, rfl⟩
  case round =>
    obtain ⟨rfl, rfl⟩ := hrel
    go_wp2_with fail
    refine bodyPost_ret (v := .agg #[.bool false, .slice none 0 0]) (by simp [results, Tryz.results106, go_sem, d0, d1]) rfl ?_
    exact ⟨hB4, _, _, _, _, rfl⟩

set_option maxRecDepth 100000 in
set_option maxHeartbeats 1000000 in
theorem rPart_nil (A : Option Addr) (c : Nat) (w : World) :
    Calls Tryz.prog 78 #[.slice A 0 c] w fun e w' => Below w.heap.size w w' ∧ e = .returned (.slice none 0 0) := by
  have t0 : decide ((0 : Int) < (0 : Int)) = false := rfl
  go_enter Tryz.func78, Tryz.ntmps78
  go_wp2_with fail
  refine (rcontent_nil A c w).mono ?_
  rintro e w1 ⟨hb1, na, B, m, d, rfl⟩
  obtain ⟨X2, hX2, hB2, q2, k2, far2, s2⟩ := new_obj 25 #[.bool false, .slice none 0 0] hb1 hb1.size
  obtain ⟨X3, hX3, hB3, q3, k3⟩ := set_num na B m d hB2 hb1.size q2
  obtain ⟨a0, a1, f0, f1⟩ := q2.two
  go_wp2_with fail
  go_loopg [4, 5] 0 (fun k ov iv wr => ov = .slice none 0 0 ∧ iv = .int .i64 0 ∧ wr = X3)
  case atStart => exact ⟨rfl, rfl, rfl⟩
  case round =>
    obtain ⟨rfl, rfl, rfl⟩ := hrel
    go_wp2_with fail
    go_ret
    exact ⟨hB3, rfl⟩
end Go.Proofs.YtljocgdhdilglaaGreat

namespace Go.Proofs.YtljocgdhdilglaaGreat
open Go.RowKit
attribute [local go_sem] add_lit

theorem flz_at {w : World} {A : Option Addr} {n c : Nat} (h : FL w A n c (List.replicate n 0)) {k : Nat} (hk : k < n) : ∃ g o na A' n' c' nb B' m' d', A = some ⟨g, o, none⟩ ∧ w.cell? ⟨g, o + k * 4, none⟩ = some (.bool na) ∧ w.cell? ⟨g, o + k * 4 + 1, none⟩ = some (.slice A' n' c') ∧ w.cell? ⟨g, o + k * 4 + 2, none⟩ = some (.bool nb) ∧ w.cell? ⟨g, o + k * 4 + 3, none⟩ = some (.slice B' m' d') ∧ Wd w na A' n' c' 0 ∧ Wd w nb B' m' d' 1 := by
  obtain ⟨es, e1, e2, e3, e4, e5, e6⟩ := h
  obtain ⟨g, o, rfl, hc⟩ := e6 (by omega)
  obtain ⟨x, hx⟩ : ∃ x, es[k]? = some x := ⟨_, List.getElem?_eq_getElem (by omega)⟩
  obtain ⟨p0, p1, p2, p3⟩ := hc k x hx
  rw [← Nat.add_assoc] at p1 p2 p3
  have hxq : x.q = 0 := by
    have h1 : (es.map FE.q)[k]? = some x.q := by rw [List.getElem?_map, hx]; rfl
    rw [e5, List.getElem?_replicate, if_pos hk] at h1
    injection h1 with h1
    exact h1.symm
  have h1 := e4 x (List.mem_of_getElem? hx)
  unfold FE.in_ at h1
  rw [hxq] at h1
  exact ⟨g, o, _, _, _, _, _, _, _, _, rfl, p0, p1, p2, p3, h1.1, h1.2⟩
theorem flz_cap {w : World} {A : Option Addr} {n c : Nat} {qs : List Rat} (h : FL w A n c qs) : n ≤ c ∧ c ≤ maxLen := by obtain ⟨es, e1, e2, e3, -⟩ := h; exact ⟨e2, e3⟩
theorem gcd11 (na nb : Bool) (A B : Option Addr) (n c m d : Nat) (w : World) (ha : Wd w na A n c 1) (hb : Wd w nb B m d 1) :
    Calls Tryz.prog 36 #[.agg #[.bool na, .slice A n c], .agg #[.bool nb, .slice B m d]] w fun e w' => Below w.heap.size w w' ∧ ∃ neg A n c, e = .returned (.tuple #[.agg #[.bool neg, .slice A n c], .int .i64 0]) ∧ Wd w' neg A n c 1 :=
  (rGcd_ok na nb A B n c m d 1 1 w ha hb).mono fun e w' h => by
    obtain ⟨h1, neg, A, n, c, code, rfl, hR⟩ := h
    rw [show ((Nat.gcd (1 : Int).natAbs (1 : Int).natAbs : Nat) : Int) = 1 by decide] at hR
    obtain rfl := hR.code0 (small_i64 (by decide))
    exact ⟨h1, neg, A, n, c, rfl, hR.small (small_i64 (by decide))⟩
theorem trimP_zeros (n : Nat) : trimP (List.replicate n 0) = [] := by
  induction n with
  | zero => rfl
  | succ n ih => rw [List.replicate_succ]; simp only [trimP, ih]; rfl
theorem div11 (na nb : Bool) (A B : Option Addr) (n c m d : Nat) (w : World) (ha : Wd w na A n c 1) (hb : Wd w nb B m d 1) :
    Calls Tryz.prog 76 #[.agg #[.bool na, .slice A n c], .agg #[.bool nb, .slice B m d]] w fun e w' => Below w.heap.size w w' ∧ ∃ nq Aq kq cq nr Ar kr cr, e = .returned (.tuple #[.agg #[.bool nq, .slice Aq kq cq], .agg #[.bool nr, .slice Ar kr cr], .int .i64 0]) ∧ Wd w' nq Aq kq cq 1 ∧ Wd w' nr Ar kr cr 0 := by
  have h := rDivMod_ok na nb A B n c m d 1 1 w ha hb (by decide)
  unfold DivW at h
  rw [show Int.fdiv 1 1 = 1 by decide, show Int.fmod 1 1 = 0 by decide] at h
  exact h
theorem mul_lit (na nb : Bool) (A B : Option Addr) (n c m d : Nat) (x y z : Int) (hz : x * y = z) (hs : z.natAbs ≤ 9223372036854775808) (w : World) (ha : Wd w na A n c x) (hb : Wd w nb B m d y) :
    Calls Tryz.prog 77 #[.agg #[.bool na, .slice A n c], .agg #[.bool nb, .slice B m d]] w fun e w' => Below w.heap.size w w' ∧ ∃ neg A n c, e = .returned (.tuple #[.agg #[.bool neg, .slice A n c], .int .i64 0]) ∧ Wd w' neg A n c z :=
  (rMul_ok na nb A B n c m d x y w ha hb).mono fun e w' h => by
    obtain ⟨h1, neg, A, n, c, code, rfl, hR⟩ := h
    rw [hz] at hR
    obtain rfl := hR.code0 (small_i64 hs)
    exact ⟨h1, neg, A, n, c, rfl, hR.small (small_i64 hs)⟩
def T1 (z : Int) (v : Value) (w : World) : Prop := ∃ na A n c, v = .tuple #[.agg #[.bool na, .slice A n c], .int .i64 0] ∧ Wd w na A n c z
def T2 (z y : Int) (v : Value) (w : World) : Prop := ∃ na A n c nb B m d, v = .tuple #[.agg #[.bool na, .slice A n c], .agg #[.bool nb, .slice B m d], .int .i64 0] ∧ Wd w na A n c z ∧ Wd w nb B m d y
def N1 (z : Int) (v : Value) (w : World) : Prop := ∃ na A n c, v = .agg #[.bool na, .slice A n c] ∧ Wd w na A n c z
def NewW (B0 : Nat) (v : Value) (w : World) : Prop := ∃ g, v = .pointer (some ⟨g, 0, none⟩) ∧ B0 ≤ g ∧ Blk w g 25 #[.bool false, .slice none 0 0]
/-- What a call of one or two numbers and new variables have yielded. -/
def callW (B0 : Nat) (T : Value → World → Prop) (z y : Int) (ca mv x0 x1 er al al1 : Nat) (i : Nat) (v : Value) (w : World) : Prop :=
  if i = ca ∨ i = mv then T v w else if i = x0 then N1 z v w else if i = x1 then N1 y v w else if i = er then v = .int .i64 0 else if i = al ∨ i = al1 then NewW B0 v w else True
section
variable {v : Value} {w w' : World} {z y : Int} {B0 : Nat}
theorem T1.stays (hb : Below w.heap.size w w') (h : T1 z v w) : T1 z v w' := by obtain ⟨na, A, n, c, e, h1⟩ := h; exact ⟨na, A, n, c, e, h1.below hb⟩
theorem T2.stays (hb : Below w.heap.size w w') (h : T2 z y v w) : T2 z y v w' := by obtain ⟨na, A, n, c, nb, B, m, d, e, h1, h2⟩ := h; exact ⟨na, A, n, c, nb, B, m, d, e, h1.below hb, h2.below hb⟩
theorem N1.stays (hb : Below w.heap.size w w') (h : N1 z v w) : N1 z v w' := by obtain ⟨na, A, n, c, e, h1⟩ := h; exact ⟨na, A, n, c, e, h1.below hb⟩
theorem NewW.stays (hb : Below w.heap.size w w') (h : NewW B0 v w) : NewW B0 v w' := by obtain ⟨g, e, h1, h2⟩ := h; exact ⟨g, e, h1, keep_blk hb h2⟩
theorem NewW.ne (h : NewW B0 v w) : Value.pointer (some ⟨w.heap.size, 0, none⟩) ≠ v := by
  obtain ⟨g, rfl, -, h2⟩ := h
  intro h
  injection h with h
  injection h with h
  injection h with h
  have := h2.lt
  omega
theorem callW_stays {T : Value → World → Prop} (hT : ∀ v w w', Below w.heap.size w w' → T v w → T v w') {ca mv x0 x1 er al al1 i : Nat} (hb : Below w.heap.size w w') (h : callW B0 T z y ca mv x0 x1 er al al1 i v w) : callW B0 T z y ca mv x0 x1 er al al1 i v w' := by
  unfold callW at h ⊢
  split at h
  · rename_i h1; rw [if_pos h1]; exact hT _ _ _ hb h
  · rename_i h1; rw [if_neg h1]
    split at h
    · rename_i h2; rw [if_pos h2]; exact h.stays hb
    · rename_i h2; rw [if_neg h2]
      split at h
      · rename_i h3; rw [if_pos h3]; exact h.stays hb
      · rename_i h3; rw [if_neg h3]
        split at h
        · rename_i h4; rw [if_pos h4]; exact h
        · rename_i h4; rw [if_neg h4]
          split at h
          · rename_i h5; rw [if_pos h5]; exact h.stays hb
          · rename_i h5; rw [if_neg h5]; trivial
end

set_option maxRecDepth 100000 in
set_option maxHeartbeats 8000000 in
theorem clear_zero : ClearC := by
  intro A n c w h hn
  obtain ⟨iw, hi, hz0, hz1, hz2⟩ := info_parts infoW
  have hmx : Tryz.prog.follows .mixedOrders = true := by kernel_rfl
  obtain ⟨hnc, hcm⟩ := flz_cap h
  unfold maxLen at hcm
  replace h := hide h
  go_enter Tryz.func47, Tryz.ntmps47
  go_wp2_with fail
  refine (rFrom_any 1 w (by omega) (by omega)).mono ?_
  rintro e w1 ⟨hb1, nb1, B1, m1, d1, rfl, hW1⟩
  obtain ⟨X2, hX2, hB2, q2, k2, far2, s2⟩ := new_obj 25 #[.bool false, .slice none 0 0] hb1 hb1.size
  obtain ⟨X3, hX3, hB3, q3, k3⟩ := set_num nb1 B1 m1 d1 hB2 hb1.size q2
  obtain ⟨a0, a1, f0, f1⟩ := q2.two
  have hD := hide (k3.1 _ _ _ _ _ (k2 _ _ _ _ _ hW1))
  have hg1 : Hid (w.heap.size ≤ w1.heap.size) := hide hb1.size
  replace q3 := hide q3
  replace hB3 := hide hB3
  clear k2 far2 hB2 q2 hb1 hW1 k3
  go_wp2_with fail
  clear a0 a1 f0 f1 hX2 hX3
  obtain ⟨gD, hgD⟩ : ∃ g, w1.heap.size = g := ⟨_, rfl⟩
  rw [hgD] at q3 hg1 ⊢
  clear hgD
  go_loopg [4] n (fun k iv wr => ∃ (i : Nat) (nb : Bool) (B : Option Addr) (m d : Nat), i + k = n ∧ iv = .int .i64 i ∧ Blk wr gD 25 #[.bool nb, .slice B m d] ∧ Wd wr nb B m d 1 ∧ Below w.heap.size w wr)
  case atStart => exact ⟨0, nb1, B1, m1, d1, by omega, rfl, q3.out, hD.out, hB3.out⟩
  case round =>
    clear q3 hD hB3
    obtain ⟨i, nb, B, m, d, hik, rfl, qd, hWd, hB⟩ := hrel
    cases gk with
    | zero =>
      obtain rfl : i = n := by omega
      have tge : decide ((i : Int) < (i : Int)) = false := by simp
      replace qd := hide qd
      replace hWd := hide hWd
      replace hB := hide hB
      go_wp2_with fail
      go_loopg [10, 11] i (fun k ov jv wr => ∃ j : Nat, j + k = i ∧ jv = .int .i64 j ∧ OwnP 25 wr (gD + 1) ov (List.replicate j 0) ∧ Blk wr gD 25 #[.bool nb, .slice B m d] ∧ Wd wr nb B m d 1 ∧ Below w.heap.size w wr)
      case atStart => exact ⟨0, by omega, rfl, OwnP.nil _ _ _, qd.out, hWd.out, hB.out⟩
      case round =>
        clear qd hWd hB
        obtain ⟨j, hjk, rfl, hown, qd, hWd, hB⟩ := hrel
        cases gk with
        | zero =>
          obtain rfl : j = i := by omega
          have tge2 : decide ((j : Int) < (j : Int)) = false := by simp
          obtain ⟨A3, c3, rfl, hP3⟩ := hown.poly
          rw [List.length_replicate] at hP3 ⊢
          clear hown qd hWd
          go_wp2_with fail
          refine (strim_any _ _ _ _ _ hP3 (by omega)).mono ?_
          rintro e w4 ⟨A4, n4, c4, rfl, hP4, hb4⟩
          rw [trimP_zeros] at hP4
          obtain rfl : n4 = 0 := hP4.len.symm
          have hB4 := hB.trans (hb4.mono hB.size)
          have t00 : decide ((0 : Int) < (0 : Int)) = false := rfl
          have t01 : decide ((0 : Int) > (0 : Int)) = false := rfl
          go_wp2_with fail
          refine (rPart_nil A4 c4 w4).mono ?_
          rintro e w5 ⟨hb5, rfl⟩
          have hB5 := hB4.trans (hb5.mono hB4.size)
          go_wp2_with fail
          go_loopg [18] 0 (fun k jv wr => jv = .int .i64 0 ∧ wr = w5)
          case atStart => exact ⟨rfl, rfl⟩
          case round =>
            obtain ⟨rfl, rfl⟩ := hrel
            go_wp2_with fail
            go_ret
            exact ⟨hB5, _, _, rfl⟩
        | succ gk' =>
          obtain rfl : gk' = i - (j + 1) := by omega
          have hin : j < i := by omega
          have tlt : decide ((j : Int) < (i : Int)) = true := by simp; omega
          have bI : (j : Int) < (i : Int) := by omega
          obtain ⟨b, o, na, A1, n1, c1, nB, B2, m2, d2, rfl, p0, p1, p2, p3, hNum, hDen⟩ := flz_at h.out hin
          replace p0 := keep_cell hB p0
          replace p1 := keep_cell hB p1
          replace p2 := keep_cell hB p2
          replace p3 := keep_cell hB p3
          replace hDen := hDen.below hB
          replace hNum := hide (hNum.below hB)
          replace hown := hide hown
          obtain ⟨x0, x1, y0, y1⟩ := qd.two
          go_wp2_with fail
          have hSv1 : Hid (∀ wx, Below wr.heap.size wr wx → wx.cell? ⟨gD, 0, none⟩ = some (.bool nb) ∧ wx.cell? ⟨gD, 1, none⟩ = some (.slice B m d) ∧ wx.cell? ⟨b, o + j * 4 + 2, none⟩ = some (.bool nB) ∧ wx.cell? ⟨b, o + j * 4 + 3, none⟩ = some (.slice B2 m2 d2)) := hide (fun wx hbx => ⟨keep_cell hbx x0, keep_cell hbx x1, keep_cell hbx p2, keep_cell hbx p3⟩)
          have hr1 : Below wr.heap.size wr wr.drew := below_dn (Below.refl _ _) 1
          refine wp_held [] (fun wx => wx.cell? ⟨gD, 0, none⟩ = some (.bool nb) ∧ wx.cell? ⟨gD, 1, none⟩ = some (.slice B m d) ∧ wx.cell? ⟨b, o + j * 4 + 2, none⟩ = some (.bool nB) ∧ wx.cell? ⟨b, o + j * 4 + 3, none⟩ = some (.slice B2 m2 d2)) hmx (hSv1.out _ hr1) (fun hxs1 => ?_)
          refine wpAnyL_take (i := 0) (v := ?v1) rfl (by kernel_rfl) (by kernel_rfl) (by kernel_rfl) (by kernel_rfl) (by kernel_rfl) (Or.inl ⟨by kernel_rfl, ?hy1⟩) (hSv1.out _ hr1) ?rest1
          case hy1 => (intro W2 hSw; (try dsimp only at hSw); go_simp; try with_reducible rfl)
          try simp only [Act.put, List.setIfInBounds_toArray, List.set_cons_zero, List.set_cons_succ, List.getElem_toArray, List.getElem_cons_succ, List.getElem_cons_zero]
          refine wpAnyL_take (i := 1) (v := ?v2) rfl (by kernel_rfl) (by kernel_rfl) (by kernel_rfl) (by kernel_rfl) (by kernel_rfl) (Or.inl ⟨by kernel_rfl, ?hy2⟩) (hSv1.out _ hr1) ?rest2
          case hy2 => (intro W2 hSw; (try dsimp only at hSw); go_simp; try with_reducible rfl)
          try simp only [Act.put, List.setIfInBounds_toArray, List.set_cons_zero, List.set_cons_succ, List.getElem_toArray, List.getElem_cons_succ, List.getElem_cons_zero]
          refine wpAnyL_take (i := 2) (v := ?v3) rfl (by kernel_rfl) (by kernel_rfl) (by kernel_rfl) (by kernel_rfl) (by kernel_rfl) (Or.inl ⟨by kernel_rfl, ?hy3⟩) (hSv1.out _ hr1) ?rest3
          case hy3 => (intro W2 hSw; (try dsimp only at hSw); go_simp; try with_reducible rfl)
          try simp only [Act.put, List.setIfInBounds_toArray, List.set_cons_zero, List.set_cons_succ, List.getElem_toArray, List.getElem_cons_succ, List.getElem_cons_zero]
          refine wpAnyL_take (i := 3) (v := ?v4) rfl (by kernel_rfl) (by kernel_rfl) (by kernel_rfl) (by kernel_rfl) (by kernel_rfl) (Or.inl ⟨by kernel_rfl, ?hy4⟩) (hSv1.out _ hr1) ?rest4
          case hy4 => (intro W2 hSw; (try dsimp only at hSw); go_simp; try with_reducible rfl)
          try simp only [Act.put, List.setIfInBounds_toArray, List.set_cons_zero, List.set_cons_succ, List.getElem_toArray, List.getElem_cons_succ, List.getElem_cons_zero]
          refine wpAnyL_take (i := 4) (v := ?v5) rfl (by kernel_rfl) (by kernel_rfl) (by kernel_rfl) (by kernel_rfl) (by kernel_rfl) (Or.inl ⟨by kernel_rfl, ?hy5⟩) (hSv1.out _ hr1) ?rest5
          case hy5 => (intro W2 hSw; (try dsimp only at hSw); go_simp; try with_reducible rfl)
          try simp only [Act.put, List.setIfInBounds_toArray, List.set_cons_zero, List.set_cons_succ, List.getElem_toArray, List.getElem_cons_succ, List.getElem_cons_zero]
          refine wpAnyL_take (i := 5) (v := ?v6) rfl (by kernel_rfl) (by kernel_rfl) (by kernel_rfl) (by kernel_rfl) (by kernel_rfl) (Or.inl ⟨by kernel_rfl, ?hy6⟩) (hSv1.out _ hr1) ?rest6
          case hy6 => (intro W2 hSw; (try dsimp only at hSw); go_simp; try with_reducible rfl)
          try simp only [Act.put, List.setIfInBounds_toArray, List.set_cons_zero, List.set_cons_succ, List.getElem_toArray, List.getElem_cons_succ, List.getElem_cons_zero]
          refine wpAnyL_allN [(11, 12), (12, 13)] [(6, 66), (7, 59), (11, 12), (12, 13)] (fun i => match i with | 7 => [8, 9, 10] | _ => []) [(6, 66), (7, 59), (8, 67), (9, 68), (10, 69), (11, 12), (12, 13)] (callW wr.heap.size (T2 1 0) 1 0 6 7 8 9 10 11 12) 3 (by kernel_rfl) (fun _ _ _ _ _ hb h => callW_stays (fun _ _ _ => T2.stays) hb h) (fun wx h => hSv1.out _ (hr1.trans (h.mono hr1.size))) ?hop1 ?hfin1
          case hop1 =>
            intro p hp
            simp only [List.mem_cons, List.not_mem_nil, or_false] at hp
            simp only [List.map_cons, List.map_nil, putsR, Act.put, List.setIfInBounds_toArray, List.set_cons_zero, List.set_cons_succ]
            rcases hp with rfl | rfl | rfl | rfl
            · intro ν wx hb hP
              have hbx := hr1.trans (hb.mono hr1.size)
              refine wpOp_shut (i := 6) rfl (fun K hK => ?_)
              go_simp
              refine (div11 nb nB B B2 m d m2 d2 wx (hWd.below hbx) (hDen.below hbx)).mono ?_
              rintro e w5 ⟨hb5, na5, A5, k5, c5, nb5, B5, m5, d5, rfl, hf5, hg5⟩
              exact hK.out _ _ ⟨_, rfl, (by simp only [callW]; exact ⟨_, _, _, _, _, _, _, _, rfl, hf5, hg5⟩), hb5, trivial, fun h => by simp at h⟩
            · intro ν wx hb hP
              have h0 := hP (6, 66) (by simp) (by kernel_rfl)
              simp only [callW] at h0
              obtain ⟨na5, A5, k5, c5, nb5, B5, m5, d5, hν, hf5, hg5⟩ := h0
              rw [hν]
              refine wpOp_shut (i := 7) rfl (fun K hK => ?_)
              go_simp
              refine hK.out _ _ ⟨_, rfl, (by simp only [callW]; exact ⟨_, _, _, _, _, _, _, _, rfl, hf5, hg5⟩), Below.refl _ _, ?_, fun h => by simp at h⟩
              exact ⟨_, .agg #[.bool na5, .slice A5 k5 c5], rfl, Or.inl ⟨by kernel_rfl, fun W2 _ => by go_simp⟩, (by simp only [callW]; exact ⟨_, _, _, _, rfl, hf5⟩), ⟨_, .agg #[.bool nb5, .slice B5 m5 d5], rfl, Or.inl ⟨by kernel_rfl, fun W2 _ => by go_simp⟩, (by simp only [callW]; exact ⟨_, _, _, _, rfl, hg5⟩), ⟨_, .int .i64 0, rfl, Or.inl ⟨by kernel_rfl, fun W2 _ => by go_simp⟩, by simp [callW], trivial⟩⟩⟩
            · intro ν wx hb hP
              refine wpOp_shut (i := 11) rfl (fun K hK => ?_)
              go_simp
              exact hK.out _ _ ⟨_, rfl, (by simp only [callW]; exact ⟨_, rfl, hb.size, Blk.new _ _ _⟩), (Below.refl _ _).alloc (Nat.le_refl _) _, trivial, (fun _ q hq u hu => by
                simp only [List.mem_cons, List.not_mem_nil, or_false] at hq
                rcases hq with rfl | rfl <;> (simp only [callW] at hu; exact NewW.ne hu))⟩
            · intro ν wx hb hP
              refine wpOp_shut (i := 12) rfl (fun K hK => ?_)
              go_simp
              exact hK.out _ _ ⟨_, rfl, (by simp only [callW]; exact ⟨_, rfl, hb.size, Blk.new _ _ _⟩), (Below.refl _ _).alloc (Nat.le_refl _) _, trivial, (fun _ q hq u hu => by
                simp only [List.mem_cons, List.not_mem_nil, or_false] at hq
                rcases hq with rfl | rfl <;> (simp only [callW] at hu; exact NewW.ne hu))⟩
          case hfin1 =>
            intro ν wx hb hP hNE
            have h0 := hP (6, 66) (by simp)
            have h1 := hP (7, 59) (by simp)
            have h3 := hP (10, 69) (by simp)
            have hx0 := hP (8, 67) (by simp)
            have hx1 := hP (9, 68) (by simp)
            have ha0 := hP (11, 12) (by simp)
            have ha1 := hP (12, 13) (by simp)
            simp only [callW] at h0 h1 hx0 ha0 hx1 ha1
            obtain ⟨a0, a1, a2, a3, a4, a5, a6, a7, h0, -, -⟩ := h0
            obtain ⟨e0, e1, e2, e3, e4, e5, e6, e7, h1, -, -⟩ := h1
            obtain ⟨q0n, q0A, q0k, q0c, hx0, q0f⟩ := hx0
            obtain ⟨gq0, ha0, kv0, qv0⟩ := ha0
            obtain ⟨q1n, q1A, q1k, q1c, hx1, q1f⟩ := hx1
            obtain ⟨gq1, ha1, kv1, qv1⟩ := ha1
            have hgne : gq0 ≠ gq1 := fun h => by
              refine hNE (11, 12) (by simp) (12, 13) (by simp) (by simp) ?_
              rw [ha0, ha1, h]
            simp only [List.map_cons, List.map_nil, putsR, Act.put, List.setIfInBounds_toArray, List.set_cons_zero, List.set_cons_succ]
            rw [h0, h1, hx0, hx1, (show ν 69 = Value.int .i64 0 by simpa [callW] using h3), ha0, ha1]
            clear h0 h1 h3 hx0 ha0 hx1 ha1 hP ν hNE
            have hbx := hr1.trans (hb.mono hr1.size)
            obtain ⟨f00, f10, f20, f30⟩ := qv0.two
            obtain ⟨Zq0, hZ0, hbZq0, qZ0, kZ0⟩ := set_num q0n q0A q0k q0c hbx kv0 qv0
            replace qv1 := kZ0.2.1 _ _ _ hgne.symm qv1
            refine wpAnyL_one (i := 13) rfl (by kernel_rfl) (fun K hK => ?_)
            go_simp
            (try rw [hZ0])
            refine hK.out _ _ (fun _ => hSv1.out _ hbZq0) ?_
            clear hK K hZ0 f00 f10 f20 f30
            try simp only [Act.put, List.setIfInBounds_toArray, List.set_cons_zero, List.set_cons_succ]
            obtain ⟨f01, f11, f21, f31⟩ := qv1.two
            obtain ⟨Zq1, hZ1, hbZq1, qZ1, kZ1⟩ := set_num q1n q1A q1k q1c hbZq0 kv1 qv1
            refine wpAnyL_one (i := 14) rfl (by kernel_rfl) (fun K hK => ?_)
            go_simp
            (try rw [hZ1])
            refine hK.out _ _ (fun _ => hSv1.out _ hbZq1) ?_
            clear hK K hZ1 f01 f11 f21 f31
            try simp only [Act.put, List.setIfInBounds_toArray, List.set_cons_zero, List.set_cons_succ]
            refine wpAnyL_pure (i := 15) (v := ?v7) rfl (by kernel_rfl) (by kernel_rfl) (by kernel_rfl) (by kernel_rfl) (Or.inl ⟨by kernel_rfl, ?hy7⟩) (fun _ => (hSv1.out _ hbZq1)) ?rest7
            case hy7 => (intro W2 _; go_simp; try with_reducible rfl)
            try simp only [Act.put, List.setIfInBounds_toArray, List.set_cons_zero, List.set_cons_succ, List.getElem_toArray, List.getElem_cons_succ, List.getElem_cons_zero]
            refine wpAnyL_done (by kernel_rfl) ?_ _
            refine OnlyNormal.normal ?_
            have q0b := hide (kZ1.2.1 _ _ _ hgne qZ0)
            have q1b := hide qZ1
            replace q0f := hide (kZ1.1 _ _ _ _ _ (kZ0.1 _ _ _ _ _ q0f))
            clear kZ0 kZ1 qZ0 qZ1 kv0 kv1 hbx hb hr1 hSv1 hxs1 hbZq0
            replace qd := hide (keep_blk hbZq1 qd)
            replace hWd := hide (hWd.below hbZq1)
            replace hown := hide (hown.out.kept hbZq1)
            replace hNum := hNum.out.below hbZq1
            replace p0 := keep_cell hbZq1 p0
            replace p1 := keep_cell hbZq1 p1
            obtain ⟨u0, u1, -, -⟩ := q0b.out.two
            replace hB := hB.trans (hbZq1.mono hB.size)
            clear x0 x1 y0 y1 p2 p3 hDen hbZq1 q1b q1f
            go_wp2_with fail
            have hSv2 : Hid (∀ wx, Below Zq1.heap.size Zq1 wx → wx.cell? ⟨gq0, 0, none⟩ = some (.bool q0n) ∧ wx.cell? ⟨gq0, 1, none⟩ = some (.slice q0A q0k q0c) ∧ wx.cell? ⟨b, o + j * 4, none⟩ = some (.bool na) ∧ wx.cell? ⟨b, o + j * 4 + 1, none⟩ = some (.slice A1 n1 c1)) := hide (fun wx hbx => ⟨keep_cell hbx u0, keep_cell hbx u1, keep_cell hbx p0, keep_cell hbx p1⟩)
            have hr2 : Below Zq1.heap.size Zq1 Zq1.drew := below_dn (Below.refl _ _) 1
            refine wp_held [] (fun wx => wx.cell? ⟨gq0, 0, none⟩ = some (.bool q0n) ∧ wx.cell? ⟨gq0, 1, none⟩ = some (.slice q0A q0k q0c) ∧ wx.cell? ⟨b, o + j * 4, none⟩ = some (.bool na) ∧ wx.cell? ⟨b, o + j * 4 + 1, none⟩ = some (.slice A1 n1 c1)) hmx (hSv2.out _ hr2) (fun hxs2 => ?_)
            refine wpAnyL_take (i := 0) (v := ?v8) rfl (by kernel_rfl) (by kernel_rfl) (by kernel_rfl) (by kernel_rfl) (by kernel_rfl) (Or.inl ⟨by kernel_rfl, ?hy8⟩) (hSv2.out _ hr2) ?rest8
            case hy8 => (intro W2 hSw; (try dsimp only at hSw); go_simp; try with_reducible rfl)
            try simp only [Act.put, List.setIfInBounds_toArray, List.set_cons_zero, List.set_cons_succ, List.getElem_toArray, List.getElem_cons_succ, List.getElem_cons_zero]
            refine wpAnyL_take (i := 1) (v := ?v9) rfl (by kernel_rfl) (by kernel_rfl) (by kernel_rfl) (by kernel_rfl) (by kernel_rfl) (Or.inl ⟨by kernel_rfl, ?hy9⟩) (hSv2.out _ hr2) ?rest9
            case hy9 => (intro W2 hSw; (try dsimp only at hSw); go_simp; try with_reducible rfl)
            try simp only [Act.put, List.setIfInBounds_toArray, List.set_cons_zero, List.set_cons_succ, List.getElem_toArray, List.getElem_cons_succ, List.getElem_cons_zero]
            refine wpAnyL_take (i := 2) (v := ?v10) rfl (by kernel_rfl) (by kernel_rfl) (by kernel_rfl) (by kernel_rfl) (by kernel_rfl) (Or.inl ⟨by kernel_rfl, ?hy10⟩) (hSv2.out _ hr2) ?rest10
            case hy10 => (intro W2 hSw; (try dsimp only at hSw); go_simp; try with_reducible rfl)
            try simp only [Act.put, List.setIfInBounds_toArray, List.set_cons_zero, List.set_cons_succ, List.getElem_toArray, List.getElem_cons_succ, List.getElem_cons_zero]
            refine wpAnyL_take (i := 3) (v := ?v11) rfl (by kernel_rfl) (by kernel_rfl) (by kernel_rfl) (by kernel_rfl) (by kernel_rfl) (Or.inl ⟨by kernel_rfl, ?hy11⟩) (hSv2.out _ hr2) ?rest11
            case hy11 => (intro W2 hSw; (try dsimp only at hSw); go_simp; try with_reducible rfl)
            try simp only [Act.put, List.setIfInBounds_toArray, List.set_cons_zero, List.set_cons_succ, List.getElem_toArray, List.getElem_cons_succ, List.getElem_cons_zero]
            refine wpAnyL_take (i := 4) (v := ?v12) rfl (by kernel_rfl) (by kernel_rfl) (by kernel_rfl) (by kernel_rfl) (by kernel_rfl) (Or.inl ⟨by kernel_rfl, ?hy12⟩) (hSv2.out _ hr2) ?rest12
            case hy12 => (intro W2 hSw; (try dsimp only at hSw); go_simp; try with_reducible rfl)
            try simp only [Act.put, List.setIfInBounds_toArray, List.set_cons_zero, List.set_cons_succ, List.getElem_toArray, List.getElem_cons_succ, List.getElem_cons_zero]
            refine wpAnyL_take (i := 5) (v := ?v13) rfl (by kernel_rfl) (by kernel_rfl) (by kernel_rfl) (by kernel_rfl) (by kernel_rfl) (Or.inl ⟨by kernel_rfl, ?hy13⟩) (hSv2.out _ hr2) ?rest13
            case hy13 => (intro W2 hSw; (try dsimp only at hSw); go_simp; try with_reducible rfl)
            try simp only [Act.put, List.setIfInBounds_toArray, List.set_cons_zero, List.set_cons_succ, List.getElem_toArray, List.getElem_cons_succ, List.getElem_cons_zero]
            refine wpAnyL_allN ([] : List (Nat × Nat)) [(6, 77), (7, 70), (10, 15)] (fun i => match i with | 7 => [8, 9] | _ => []) [(6, 77), (7, 70), (8, 78), (9, 79), (10, 15)] (callW Zq1.heap.size (T1 0) 0 0 6 7 8 1000 9 10 1001) 2 (by kernel_rfl) (fun _ _ _ _ _ hb h => callW_stays (fun _ _ _ => T1.stays) hb h) (fun wx h => hSv2.out _ (hr2.trans (h.mono hr2.size))) ?hop2 ?hfin2
            case hop2 =>
              intro p hp
              simp only [List.mem_cons, List.not_mem_nil, or_false] at hp
              simp only [List.map_cons, List.map_nil, putsR, Act.put, List.setIfInBounds_toArray, List.set_cons_zero, List.set_cons_succ]
              rcases hp with rfl | rfl | rfl
              · intro ν wx hb hP
                have hbx := hr2.trans (hb.mono hr2.size)
                refine wpOp_shut (i := 6) rfl (fun K hK => ?_)
                go_simp
                refine (mul_lit q0n na q0A A1 q0k q0c n1 c1 1 0 0 rfl (by decide) wx (q0f.below hbx) (hNum.below hbx)).mono ?_
                rintro e w5 ⟨hb5, na5, A5, k5, c5, rfl, hf5⟩
                exact hK.out _ _ ⟨_, rfl, (by simp only [callW]; exact ⟨_, _, _, _, rfl, hf5⟩), hb5, trivial, fun h => by simp at h⟩
              · intro ν wx hb hP
                have h0 := hP (6, 77) (by simp) (by kernel_rfl)
                simp only [callW] at h0
                obtain ⟨na5, A5, k5, c5, hν, hf5⟩ := h0
                rw [hν]
                refine wpOp_shut (i := 7) rfl (fun K hK => ?_)
                go_simp
                refine hK.out _ _ ⟨_, rfl, (by simp only [callW]; exact ⟨_, _, _, _, rfl, hf5⟩), Below.refl _ _, ?_, fun h => by simp at h⟩
                exact ⟨_, .agg #[.bool na5, .slice A5 k5 c5], rfl, Or.inl ⟨by kernel_rfl, fun W2 _ => by go_simp⟩, (by simp only [callW]; exact ⟨_, _, _, _, rfl, hf5⟩), ⟨_, .int .i64 0, rfl, Or.inl ⟨by kernel_rfl, fun W2 _ => by go_simp⟩, by simp [callW], trivial⟩⟩
              · intro ν wx hb hP
                refine wpOp_shut (i := 10) rfl (fun K hK => ?_)
                go_simp
                exact hK.out _ _ ⟨_, rfl, (by simp only [callW]; exact ⟨_, rfl, hb.size, Blk.new _ _ _⟩), (Below.refl _ _).alloc (Nat.le_refl _) _, trivial, (fun h => by simp at h)⟩
            case hfin2 =>
              intro ν wx hb hP hNE
              have h0 := hP (6, 77) (by simp)
              have h1 := hP (7, 70) (by simp)
              have h3 := hP (9, 79) (by simp)
              have hx0 := hP (8, 78) (by simp)
              have ha0 := hP (10, 15) (by simp)
              simp only [callW] at h0 h1 hx0 ha0
              obtain ⟨a0, a1, a2, a3, h0, -⟩ := h0
              obtain ⟨e0, e1, e2, e3, h1, -⟩ := h1
              obtain ⟨e0n, e0A, e0k, e0c, hx0, e0f⟩ := hx0
              obtain ⟨ge0, ha0, kv0, qv0⟩ := ha0
              simp only [List.map_cons, List.map_nil, putsR, Act.put, List.setIfInBounds_toArray, List.set_cons_zero, List.set_cons_succ]
              rw [h0, h1, hx0, (show ν 79 = Value.int .i64 0 by simpa [callW] using h3), ha0]
              clear h0 h1 h3 hx0 ha0 hP ν hNE
              have hbx := hr2.trans (hb.mono hr2.size)
              obtain ⟨f00, f10, f20, f30⟩ := qv0.two
              obtain ⟨Ze0, hZ0, hbZe0, qZ0, kZ0⟩ := set_num e0n e0A e0k e0c hbx kv0 qv0
              refine wpAnyL_one (i := 11) rfl (by kernel_rfl) (fun K hK => ?_)
              go_simp
              (try rw [hZ0])
              refine hK.out _ _ (fun _ => hSv2.out _ hbZe0) ?_
              clear hK K hZ0 f00 f10 f20 f30
              try simp only [Act.put, List.setIfInBounds_toArray, List.set_cons_zero, List.set_cons_succ]
              refine wpAnyL_pure (i := 12) (v := ?v14) rfl (by kernel_rfl) (by kernel_rfl) (by kernel_rfl) (by kernel_rfl) (Or.inl ⟨by kernel_rfl, ?hy14⟩) (fun _ => (hSv2.out _ hbZe0)) ?rest14
              case hy14 => (intro W2 _; go_simp; try with_reducible rfl)
              try simp only [Act.put, List.setIfInBounds_toArray, List.set_cons_zero, List.set_cons_succ, List.getElem_toArray, List.getElem_cons_succ, List.getElem_cons_zero]
              refine wpAnyL_done (by kernel_rfl) ?_ _
              refine OnlyNormal.normal ?_
              have e0b := hide qZ0
              replace e0f := hide (kZ0.1 _ _ _ _ _ e0f)
              clear kZ0 qZ0 hbx hb hr2 hSv2 hxs2
              replace qd := hide (keep_blk hbZe0 qd.out)
              replace hWd := hide (hWd.out.below hbZe0)
              replace hown := hown.out.kept hbZe0
              replace hB := hB.trans (hbZe0.mono hB.size)
              obtain ⟨u2, u3, -, -⟩ := e0b.out.two
              have hsB := hB.size
              have hgDl := qd.out.lt
              clear u0 u1 p0 p1 hNum hbZe0 q0b q0f
              go_wp2_with (at_builtin; refine wpList_append_num _ rfl (.tmp 80) (.tmp 82) 22 rfl (gD + 1) 25 iw Tryz.underlying22 hi hz0 hz1 hz2 _ _ rfl (by exact hown.alloc _) _ _ 1 1 [⟨e0n, e0A, e0k, e0c, digits (0 : Int).natAbs⟩] rfl (reads_num _ _ _ _ _ _ _) rfl (List.forall_mem_singleton.2 ⟨e0f.2.2.alloc _, e0f.ok⟩) (by rw [List.length_replicate]; omega) (by simp; omega) ?_; intro v7 w7 hown7 hg7 hk7)
              have hB7 : Below (gD + 1) Ze0 w7 := ((Below.refl (gD + 1) Ze0).alloc (by omega) _).grown hg7 (by simp; omega) hown.row_ge
              have qd7 := (hB7.block gD (Nat.lt_succ_self _)).trans qd.out
              have hWd7 : Wd w7 nb B m d 1 := ⟨hWd.out.1, hWd.out.2.1, hk7 _ _ _ _ (hWd.out.2.2.alloc _)⟩
              have hB8 := hB.trans (hB7.mono (by have := hg1.out; omega))
              have hown8 := hown7.snoc e0f
              rw [show List.replicate j (0 : Int) ++ [0] = List.replicate (j + 1) 0 from (List.replicate_succ' ..).symm] at hown8
              go_roundg (i - (j + 1))
              case measure => omega
              case rel => exact ⟨j + 1, by omega, by go_num, hown8, qd7, hWd7, hB8⟩
    | succ gk' =>
      obtain rfl : gk' = n - (i + 1) := by omega
      have hin : i < n := by omega
      have tlt : decide ((i : Int) < (n : Int)) = true := by simp; omega
      have bI : (i : Int) < (n : Int) := by omega
      obtain ⟨b, o, na, A1, n1, c1, nB, B2, m2, d2, rfl, p0, p1, p2, p3, hNum, hDen⟩ := flz_at h.out hin
      replace p2 := keep_cell hB p2
      replace p3 := keep_cell hB p3
      replace hDen := hDen.below hB
      obtain ⟨x0, x1, y0, y1⟩ := qd.two
      clear p0 p1 hNum
      go_wp2_with fail
      have hSv3 : Hid (∀ wx, Below wr.heap.size wr wx → wx.cell? ⟨gD, 0, none⟩ = some (.bool nb) ∧ wx.cell? ⟨gD, 1, none⟩ = some (.slice B m d) ∧ wx.cell? ⟨b, o + i * 4 + 2, none⟩ = some (.bool nB) ∧ wx.cell? ⟨b, o + i * 4 + 3, none⟩ = some (.slice B2 m2 d2)) := hide (fun wx hbx => ⟨keep_cell hbx x0, keep_cell hbx x1, keep_cell hbx p2, keep_cell hbx p3⟩)
      have hr3 : Below wr.heap.size wr wr.drew := below_dn (Below.refl _ _) 1
      refine wp_held [] (fun wx => wx.cell? ⟨gD, 0, none⟩ = some (.bool nb) ∧ wx.cell? ⟨gD, 1, none⟩ = some (.slice B m d) ∧ wx.cell? ⟨b, o + i * 4 + 2, none⟩ = some (.bool nB) ∧ wx.cell? ⟨b, o + i * 4 + 3, none⟩ = some (.slice B2 m2 d2)) hmx (hSv3.out _ hr3) (fun hxs3 => ?_)
      refine wpAnyL_take (i := 0) (v := ?v15) rfl (by kernel_rfl) (by kernel_rfl) (by kernel_rfl) (by kernel_rfl) (by kernel_rfl) (Or.inl ⟨by kernel_rfl, ?hy15⟩) (hSv3.out _ hr3) ?rest15
      case hy15 => (intro W2 hSw; (try dsimp only at hSw); go_simp; try with_reducible rfl)
      try simp only [Act.put, List.setIfInBounds_toArray, List.set_cons_zero, List.set_cons_succ, List.getElem_toArray, List.getElem_cons_succ, List.getElem_cons_zero]
      refine wpAnyL_take (i := 1) (v := ?v16) rfl (by kernel_rfl) (by kernel_rfl) (by kernel_rfl) (by kernel_rfl) (by kernel_rfl) (Or.inl ⟨by kernel_rfl, ?hy16⟩) (hSv3.out _ hr3) ?rest16
      case hy16 => (intro W2 hSw; (try dsimp only at hSw); go_simp; try with_reducible rfl)
      try simp only [Act.put, List.setIfInBounds_toArray, List.set_cons_zero, List.set_cons_succ, List.getElem_toArray, List.getElem_cons_succ, List.getElem_cons_zero]
      refine wpAnyL_take (i := 2) (v := ?v17) rfl (by kernel_rfl) (by kernel_rfl) (by kernel_rfl) (by kernel_rfl) (by kernel_rfl) (Or.inl ⟨by kernel_rfl, ?hy17⟩) (hSv3.out _ hr3) ?rest17
      case hy17 => (intro W2 hSw; (try dsimp only at hSw); go_simp; try with_reducible rfl)
      try simp only [Act.put, List.setIfInBounds_toArray, List.set_cons_zero, List.set_cons_succ, List.getElem_toArray, List.getElem_cons_succ, List.getElem_cons_zero]
      refine wpAnyL_take (i := 3) (v := ?v18) rfl (by kernel_rfl) (by kernel_rfl) (by kernel_rfl) (by kernel_rfl) (by kernel_rfl) (Or.inl ⟨by kernel_rfl, ?hy18⟩) (hSv3.out _ hr3) ?rest18
      case hy18 => (intro W2 hSw; (try dsimp only at hSw); go_simp; try with_reducible rfl)
      try simp only [Act.put, List.setIfInBounds_toArray, List.set_cons_zero, List.set_cons_succ, List.getElem_toArray, List.getElem_cons_succ, List.getElem_cons_zero]
      refine wpAnyL_take (i := 4) (v := ?v19) rfl (by kernel_rfl) (by kernel_rfl) (by kernel_rfl) (by kernel_rfl) (by kernel_rfl) (Or.inl ⟨by kernel_rfl, ?hy19⟩) (hSv3.out _ hr3) ?rest19
      case hy19 => (intro W2 hSw; (try dsimp only at hSw); go_simp; try with_reducible rfl)
      try simp only [Act.put, List.setIfInBounds_toArray, List.set_cons_zero, List.set_cons_succ, List.getElem_toArray, List.getElem_cons_succ, List.getElem_cons_zero]
      refine wpAnyL_take (i := 5) (v := ?v20) rfl (by kernel_rfl) (by kernel_rfl) (by kernel_rfl) (by kernel_rfl) (by kernel_rfl) (Or.inl ⟨by kernel_rfl, ?hy20⟩) (hSv3.out _ hr3) ?rest20
      case hy20 => (intro W2 hSw; (try dsimp only at hSw); go_simp; try with_reducible rfl)
      try simp only [Act.put, List.setIfInBounds_toArray, List.set_cons_zero, List.set_cons_succ, List.getElem_toArray, List.getElem_cons_succ, List.getElem_cons_zero]
      refine wpAnyL_allN ([] : List (Nat × Nat)) [(6, 33), (7, 26), (10, 5)] (fun i => match i with | 7 => [8, 9] | _ => []) [(6, 33), (7, 26), (8, 34), (9, 35), (10, 5)] (callW wr.heap.size (T1 1) 1 0 6 7 8 1000 9 10 1001) 2 (by kernel_rfl) (fun _ _ _ _ _ hb h => callW_stays (fun _ _ _ => T1.stays) hb h) (fun wx h => hSv3.out _ (hr3.trans (h.mono hr3.size))) ?hop3 ?hfin3
      case hop3 =>
        intro p hp
        simp only [List.mem_cons, List.not_mem_nil, or_false] at hp
        simp only [List.map_cons, List.map_nil, putsR, Act.put, List.setIfInBounds_toArray, List.set_cons_zero, List.set_cons_succ]
        rcases hp with rfl | rfl | rfl
        · intro ν wx hb hP
          have hbx := hr3.trans (hb.mono hr3.size)
          refine wpOp_shut (i := 6) rfl (fun K hK => ?_)
          go_simp
          refine (gcd11 nb nB B B2 m d m2 d2 wx (hWd.below hbx) (hDen.below hbx)).mono ?_
          rintro e w5 ⟨hb5, na5, A5, k5, c5, rfl, hf5⟩
          exact hK.out _ _ ⟨_, rfl, (by simp only [callW]; exact ⟨_, _, _, _, rfl, hf5⟩), hb5, trivial, fun h => by simp at h⟩
        · intro ν wx hb hP
          have h0 := hP (6, 33) (by simp) (by kernel_rfl)
          simp only [callW] at h0
          obtain ⟨na5, A5, k5, c5, hν, hf5⟩ := h0
          rw [hν]
          refine wpOp_shut (i := 7) rfl (fun K hK => ?_)
          go_simp
          refine hK.out _ _ ⟨_, rfl, (by simp only [callW]; exact ⟨_, _, _, _, rfl, hf5⟩), Below.refl _ _, ?_, fun h => by simp at h⟩
          exact ⟨_, .agg #[.bool na5, .slice A5 k5 c5], rfl, Or.inl ⟨by kernel_rfl, fun W2 _ => by go_simp⟩, (by simp only [callW]; exact ⟨_, _, _, _, rfl, hf5⟩), ⟨_, .int .i64 0, rfl, Or.inl ⟨by kernel_rfl, fun W2 _ => by go_simp⟩, by simp [callW], trivial⟩⟩
        · intro ν wx hb hP
          refine wpOp_shut (i := 10) rfl (fun K hK => ?_)
          go_simp
          exact hK.out _ _ ⟨_, rfl, (by simp only [callW]; exact ⟨_, rfl, hb.size, Blk.new _ _ _⟩), (Below.refl _ _).alloc (Nat.le_refl _) _, trivial, (fun h => by simp at h)⟩
      case hfin3 =>
        intro ν wx hb hP hNE
        have h0 := hP (6, 33) (by simp)
        have h1 := hP (7, 26) (by simp)
        have h3 := hP (9, 35) (by simp)
        have hx0 := hP (8, 34) (by simp)
        have ha0 := hP (10, 5) (by simp)
        simp only [callW] at h0 h1 hx0 ha0
        obtain ⟨a0, a1, a2, a3, h0, -⟩ := h0
        obtain ⟨e0, e1, e2, e3, h1, -⟩ := h1
        obtain ⟨g0n, g0A, g0k, g0c, hx0, g0f⟩ := hx0
        obtain ⟨gg0, ha0, kv0, qv0⟩ := ha0
        simp only [List.map_cons, List.map_nil, putsR, Act.put, List.setIfInBounds_toArray, List.set_cons_zero, List.set_cons_succ]
        rw [h0, h1, hx0, (show ν 35 = Value.int .i64 0 by simpa [callW] using h3), ha0]
        clear h0 h1 h3 hx0 ha0 hP ν hNE
        have hbx := hr3.trans (hb.mono hr3.size)
        obtain ⟨f00, f10, f20, f30⟩ := qv0.two
        obtain ⟨Zg0, hZ0, hbZg0, qZ0, kZ0⟩ := set_num g0n g0A g0k g0c hbx kv0 qv0
        refine wpAnyL_one (i := 11) rfl (by kernel_rfl) (fun K hK => ?_)
        go_simp
        (try rw [hZ0])
        refine hK.out _ _ (fun _ => hSv3.out _ hbZg0) ?_
        clear hK K hZ0 f00 f10 f20 f30
        try simp only [Act.put, List.setIfInBounds_toArray, List.set_cons_zero, List.set_cons_succ]
        refine wpAnyL_pure (i := 12) (v := ?v21) rfl (by kernel_rfl) (by kernel_rfl) (by kernel_rfl) (by kernel_rfl) (Or.inl ⟨by kernel_rfl, ?hy21⟩) (fun _ => (hSv3.out _ hbZg0)) ?rest21
        case hy21 => (intro W2 _; go_simp; try with_reducible rfl)
        try simp only [Act.put, List.setIfInBounds_toArray, List.set_cons_zero, List.set_cons_succ, List.getElem_toArray, List.getElem_cons_succ, List.getElem_cons_zero]
        refine wpAnyL_done (by kernel_rfl) ?_ _
        refine OnlyNormal.normal ?_
        have g0b := hide qZ0
        replace g0f := hide (kZ0.1 _ _ _ _ _ g0f)
        clear kZ0 qZ0 hbx hb hr3 hSv3 hxs3
        have x0' := keep_cell hbZg0 x0
        have x1' := keep_cell hbZg0 x1
        have p2' := keep_cell hbZg0 p2
        have p3' := keep_cell hbZg0 p3
        have qd6 := hide (keep_blk hbZg0 qd)
        have hWd6 := hide (hWd.below hbZg0)
        have hDen6 := hide (hDen.below hbZg0)
        have hB6 := hide (hB.trans (hbZg0.mono hB.size))
        obtain ⟨v0, v1, -, -⟩ := g0b.out.two
        clear x0 x1 p2 p3 y0 y1 qd hWd hDen hB hbZg0 kv0
        go_wp2_with fail
        have hSv4 : Hid (∀ wx, Below Zg0.heap.size Zg0 wx → wx.cell? ⟨gg0, 0, none⟩ = some (.bool g0n) ∧ wx.cell? ⟨gg0, 1, none⟩ = some (.slice g0A g0k g0c) ∧ wx.cell? ⟨b, o + i * 4 + 2, none⟩ = some (.bool nB) ∧ wx.cell? ⟨b, o + i * 4 + 3, none⟩ = some (.slice B2 m2 d2)) := hide (fun wx hbx => ⟨keep_cell hbx v0, keep_cell hbx v1, keep_cell hbx p2', keep_cell hbx p3'⟩)
        have hr4 : Below Zg0.heap.size Zg0 Zg0.drew := below_dn (Below.refl _ _) 1
        refine wp_held [] (fun wx => wx.cell? ⟨gg0, 0, none⟩ = some (.bool g0n) ∧ wx.cell? ⟨gg0, 1, none⟩ = some (.slice g0A g0k g0c) ∧ wx.cell? ⟨b, o + i * 4 + 2, none⟩ = some (.bool nB) ∧ wx.cell? ⟨b, o + i * 4 + 3, none⟩ = some (.slice B2 m2 d2)) hmx (hSv4.out _ hr4) (fun hxs4 => ?_)
        refine wpAnyL_take (i := 0) (v := ?v22) rfl (by kernel_rfl) (by kernel_rfl) (by kernel_rfl) (by kernel_rfl) (by kernel_rfl) (Or.inl ⟨by kernel_rfl, ?hy22⟩) (hSv4.out _ hr4) ?rest22
        case hy22 => (intro W2 hSw; (try dsimp only at hSw); go_simp; try with_reducible rfl)
        try simp only [Act.put, List.setIfInBounds_toArray, List.set_cons_zero, List.set_cons_succ, List.getElem_toArray, List.getElem_cons_succ, List.getElem_cons_zero]
        refine wpAnyL_take (i := 1) (v := ?v23) rfl (by kernel_rfl) (by kernel_rfl) (by kernel_rfl) (by kernel_rfl) (by kernel_rfl) (Or.inl ⟨by kernel_rfl, ?hy23⟩) (hSv4.out _ hr4) ?rest23
        case hy23 => (intro W2 hSw; (try dsimp only at hSw); go_simp; try with_reducible rfl)
        try simp only [Act.put, List.setIfInBounds_toArray, List.set_cons_zero, List.set_cons_succ, List.getElem_toArray, List.getElem_cons_succ, List.getElem_cons_zero]
        refine wpAnyL_take (i := 2) (v := ?v24) rfl (by kernel_rfl) (by kernel_rfl) (by kernel_rfl) (by kernel_rfl) (by kernel_rfl) (Or.inl ⟨by kernel_rfl, ?hy24⟩) (hSv4.out _ hr4) ?rest24
        case hy24 => (intro W2 hSw; (try dsimp only at hSw); go_simp; try with_reducible rfl)
        try simp only [Act.put, List.setIfInBounds_toArray, List.set_cons_zero, List.set_cons_succ, List.getElem_toArray, List.getElem_cons_succ, List.getElem_cons_zero]
        refine wpAnyL_take (i := 3) (v := ?v25) rfl (by kernel_rfl) (by kernel_rfl) (by kernel_rfl) (by kernel_rfl) (by kernel_rfl) (Or.inl ⟨by kernel_rfl, ?hy25⟩) (hSv4.out _ hr4) ?rest25
        case hy25 => (intro W2 hSw; (try dsimp only at hSw); go_simp; try with_reducible rfl)
        try simp only [Act.put, List.setIfInBounds_toArray, List.set_cons_zero, List.set_cons_succ, List.getElem_toArray, List.getElem_cons_succ, List.getElem_cons_zero]
        refine wpAnyL_take (i := 4) (v := ?v26) rfl (by kernel_rfl) (by kernel_rfl) (by kernel_rfl) (by kernel_rfl) (by kernel_rfl) (Or.inl ⟨by kernel_rfl, ?hy26⟩) (hSv4.out _ hr4) ?rest26
        case hy26 => (intro W2 hSw; (try dsimp only at hSw); go_simp; try with_reducible rfl)
        try simp only [Act.put, List.setIfInBounds_toArray, List.set_cons_zero, List.set_cons_succ, List.getElem_toArray, List.getElem_cons_succ, List.getElem_cons_zero]
        refine wpAnyL_take (i := 5) (v := ?v27) rfl (by kernel_rfl) (by kernel_rfl) (by kernel_rfl) (by kernel_rfl) (by kernel_rfl) (Or.inl ⟨by kernel_rfl, ?hy27⟩) (hSv4.out _ hr4) ?rest27
        case hy27 => (intro W2 hSw; (try dsimp only at hSw); go_simp; try with_reducible rfl)
        try simp only [Act.put, List.setIfInBounds_toArray, List.set_cons_zero, List.set_cons_succ, List.getElem_toArray, List.getElem_cons_succ, List.getElem_cons_zero]
        refine wpAnyL_allN [(11, 7), (12, 8)] [(6, 43), (7, 36), (11, 7), (12, 8)] (fun i => match i with | 7 => [8, 9, 10] | _ => []) [(6, 43), (7, 36), (8, 44), (9, 45), (10, 46), (11, 7), (12, 8)] (callW Zg0.heap.size (T2 1 0) 1 0 6 7 8 9 10 11 12) 3 (by kernel_rfl) (fun _ _ _ _ _ hb h => callW_stays (fun _ _ _ => T2.stays) hb h) (fun wx h => hSv4.out _ (hr4.trans (h.mono hr4.size))) ?hop4 ?hfin4
        case hop4 =>
          intro p hp
          simp only [List.mem_cons, List.not_mem_nil, or_false] at hp
          simp only [List.map_cons, List.map_nil, putsR, Act.put, List.setIfInBounds_toArray, List.set_cons_zero, List.set_cons_succ]
          rcases hp with rfl | rfl | rfl | rfl
          · intro ν wx hb hP
            have hbx := hr4.trans (hb.mono hr4.size)
            refine wpOp_shut (i := 6) rfl (fun K hK => ?_)
            go_simp
            refine (div11 nB g0n B2 g0A m2 d2 g0k g0c wx (hDen6.out.below hbx) (g0f.below hbx)).mono ?_
            rintro e w5 ⟨hb5, na5, A5, k5, c5, nb5, B5, m5, d5, rfl, hf5, hg5⟩
            exact hK.out _ _ ⟨_, rfl, (by simp only [callW]; exact ⟨_, _, _, _, _, _, _, _, rfl, hf5, hg5⟩), hb5, trivial, fun h => by simp at h⟩
          · intro ν wx hb hP
            have h0 := hP (6, 43) (by simp) (by kernel_rfl)
            simp only [callW] at h0
            obtain ⟨na5, A5, k5, c5, nb5, B5, m5, d5, hν, hf5, hg5⟩ := h0
            rw [hν]
            refine wpOp_shut (i := 7) rfl (fun K hK => ?_)
            go_simp
            refine hK.out _ _ ⟨_, rfl, (by simp only [callW]; exact ⟨_, _, _, _, _, _, _, _, rfl, hf5, hg5⟩), Below.refl _ _, ?_, fun h => by simp at h⟩
            exact ⟨_, .agg #[.bool na5, .slice A5 k5 c5], rfl, Or.inl ⟨by kernel_rfl, fun W2 _ => by go_simp⟩, (by simp only [callW]; exact ⟨_, _, _, _, rfl, hf5⟩), ⟨_, .agg #[.bool nb5, .slice B5 m5 d5], rfl, Or.inl ⟨by kernel_rfl, fun W2 _ => by go_simp⟩, (by simp only [callW]; exact ⟨_, _, _, _, rfl, hg5⟩), ⟨_, .int .i64 0, rfl, Or.inl ⟨by kernel_rfl, fun W2 _ => by go_simp⟩, by simp [callW], trivial⟩⟩⟩
          · intro ν wx hb hP
            refine wpOp_shut (i := 11) rfl (fun K hK => ?_)
            go_simp
            exact hK.out _ _ ⟨_, rfl, (by simp only [callW]; exact ⟨_, rfl, hb.size, Blk.new _ _ _⟩), (Below.refl _ _).alloc (Nat.le_refl _) _, trivial, (fun _ q hq u hu => by
              simp only [List.mem_cons, List.not_mem_nil, or_false] at hq
              rcases hq with rfl | rfl <;> (simp only [callW] at hu; exact NewW.ne hu))⟩
          · intro ν wx hb hP
            refine wpOp_shut (i := 12) rfl (fun K hK => ?_)
            go_simp
            exact hK.out _ _ ⟨_, rfl, (by simp only [callW]; exact ⟨_, rfl, hb.size, Blk.new _ _ _⟩), (Below.refl _ _).alloc (Nat.le_refl _) _, trivial, (fun _ q hq u hu => by
              simp only [List.mem_cons, List.not_mem_nil, or_false] at hq
              rcases hq with rfl | rfl <;> (simp only [callW] at hu; exact NewW.ne hu))⟩
        case hfin4 =>
          intro ν wx hb hP hNE
          have h0 := hP (6, 43) (by simp)
          have h1 := hP (7, 36) (by simp)
          have h3 := hP (10, 46) (by simp)
          have hx0 := hP (8, 44) (by simp)
          have hx1 := hP (9, 45) (by simp)
          have ha0 := hP (11, 7) (by simp)
          have ha1 := hP (12, 8) (by simp)
          simp only [callW] at h0 h1 hx0 ha0 hx1 ha1
          obtain ⟨a0, a1, a2, a3, a4, a5, a6, a7, h0, -, -⟩ := h0
          obtain ⟨e0, e1, e2, e3, e4, e5, e6, e7, h1, -, -⟩ := h1
          obtain ⟨q0n, q0A, q0k, q0c, hx0, q0f⟩ := hx0
          obtain ⟨gq0, ha0, kv0, qv0⟩ := ha0
          obtain ⟨q1n, q1A, q1k, q1c, hx1, q1f⟩ := hx1
          obtain ⟨gq1, ha1, kv1, qv1⟩ := ha1
          have hgne : gq0 ≠ gq1 := fun h => by
            refine hNE (11, 7) (by simp) (12, 8) (by simp) (by simp) ?_
            rw [ha0, ha1, h]
          simp only [List.map_cons, List.map_nil, putsR, Act.put, List.setIfInBounds_toArray, List.set_cons_zero, List.set_cons_succ]
          rw [h0, h1, hx0, hx1, (show ν 46 = Value.int .i64 0 by simpa [callW] using h3), ha0, ha1]
          clear h0 h1 h3 hx0 ha0 hx1 ha1 hP ν hNE
          have hbx := hr4.trans (hb.mono hr4.size)
          obtain ⟨f00, f10, f20, f30⟩ := qv0.two
          obtain ⟨Zq0, hZ0, hbZq0, qZ0, kZ0⟩ := set_num q0n q0A q0k q0c hbx kv0 qv0
          replace qv1 := kZ0.2.1 _ _ _ hgne.symm qv1
          refine wpAnyL_one (i := 13) rfl (by kernel_rfl) (fun K hK => ?_)
          go_simp
          (try rw [hZ0])
          refine hK.out _ _ (fun _ => hSv4.out _ hbZq0) ?_
          clear hK K hZ0 f00 f10 f20 f30
          try simp only [Act.put, List.setIfInBounds_toArray, List.set_cons_zero, List.set_cons_succ]
          obtain ⟨f01, f11, f21, f31⟩ := qv1.two
          obtain ⟨Zq1, hZ1, hbZq1, qZ1, kZ1⟩ := set_num q1n q1A q1k q1c hbZq0 kv1 qv1
          refine wpAnyL_one (i := 14) rfl (by kernel_rfl) (fun K hK => ?_)
          go_simp
          (try rw [hZ1])
          refine hK.out _ _ (fun _ => hSv4.out _ hbZq1) ?_
          clear hK K hZ1 f01 f11 f21 f31
          try simp only [Act.put, List.setIfInBounds_toArray, List.set_cons_zero, List.set_cons_succ]
          refine wpAnyL_pure (i := 15) (v := ?v28) rfl (by kernel_rfl) (by kernel_rfl) (by kernel_rfl) (by kernel_rfl) (Or.inl ⟨by kernel_rfl, ?hy28⟩) (fun _ => (hSv4.out _ hbZq1)) ?rest28
          case hy28 => (intro W2 _; go_simp; try with_reducible rfl)
          try simp only [Act.put, List.setIfInBounds_toArray, List.set_cons_zero, List.set_cons_succ, List.getElem_toArray, List.getElem_cons_succ, List.getElem_cons_zero]
          refine wpAnyL_done (by kernel_rfl) ?_ _
          refine OnlyNormal.normal ?_
          have q0b := hide (kZ1.2.1 _ _ _ hgne qZ0)
          have q1b := hide qZ1
          replace q0f := hide (kZ1.1 _ _ _ _ _ (kZ0.1 _ _ _ _ _ q0f))
          clear kZ0 kZ1 qZ0 qZ1 kv0 kv1 hbx hb hr4 hSv4 hxs4 hbZq0
          have qd7 := keep_blk hbZq1 qd6.out
          obtain ⟨x0, x1, y0, y1⟩ := qd7.two
          obtain ⟨u0, u1, -, -⟩ := q0b.out.two
          have hWd7 := hide (hWd6.out.below hbZq1)
          have hB7 := hide (hB6.out.trans (hbZq1.mono hB6.out.size))
          replace qd7 := hide qd7
          clear x0' x1' p2' p3' qd6 hWd6 hDen6 hB6 hbZq1 v0 v1 g0b g0f q1b q1f
          go_wp2_with fail
          refine (mul_lit nb q0n B q0A m d q0k q0c 1 1 1 rfl (by decide) Zq1 hWd7.out q0f).mono ?_
          rintro e w7 ⟨hb7, n7, A7, k7, c7, rfl, hW7⟩
          have qd8 := keep_blk hb7 qd7.out
          obtain ⟨y0', y1', z0, z1⟩ := qd8.two
          obtain ⟨X8, hX8, hB8, q8, k8⟩ := set_num n7 A7 k7 c7 (hB7.out.trans (hb7.mono hB7.out.size)) hg1.out qd8
          have hW8 := hide (k8.1 _ _ _ _ _ hW7)
          replace q8 := hide q8
          replace hB8 := hide hB8
          clear hb7 qd8 hB7 hW7 k8 u0 u1 q0b q0f qd7 hWd7 x0 x1 y0 y1
          go_wp2_with fail
          (try rw [hX8])
          go_roundg (n - (i + 1))
          case measure => omega
          case rel => exact ⟨i + 1, n7, A7, k7, c7, by omega, by go_num, q8.out, hW8.out, hB8.out⟩
end Go.Proofs.YtljocgdhdilglaaGreat

namespace Go.Proofs.YtljocgdhdilglaaGreat
open Go.RowKit
attribute [local go_sem] add_lit

set_option maxRecDepth 100000 in
set_option maxHeartbeats 1000000 in
theorem Free_nil (A : Option Addr) (c : Nat) (w : World) (h : WL w A 0 c []) :
    Calls Tryz.prog 12 #[.slice A 0 c] w fun e w' => e = .returned (.tuple #[.slice none 0 0, .int .i64 0]) ∧ Below w.heap.size w w' := by
  have t0 : ((0 : Int) == 0) = true := rfl
  go_enter Tryz.func12, Tryz.ntmps12
  go_wp2_with fail
  refine (pCheck_any _ _ _ _ _ h).mono ?_
  rintro e w1 ⟨rfl, hb⟩
  rw [show errOf (pOk []) = 0 from rfl]
  go_wp2_with fail
  go_ret2
  exact ⟨rfl, hb⟩
theorem der_sign {p : List Int} (h : Top p) : (derP p).length = 0 ∨ signP (derP p) ≠ 0 := by
  rcases end_top (der_end h) with h | h
  · exact .inl (by rw [h]; rfl)
  · exact .inr h.sign
/-- The reference's Over of a polynomial and a primitive divisor: nothing is left. -/
theorem Over_pl {A B : Option Addr} {n c m d : Nat} {p q : List Int} {w : World} (hp : PolyL w A n c p) (hq : PolyL w B m d q) (tp : Top p) (tq : Prim q) (bp : BP 5 4 p) (bq : BP 5 7 q) (hd : Dvd (evalQ q) (evalQ p)) :
    Calls Tryz.prog 17 #[.slice A n c, .slice B m d] w fun e w' => Below w.heap.size w w' ∧ ∃ O no ko B' d', e = .returned (.tuple #[.slice O no ko, .slice B' 0 d']) := by
  have hl := hd.deg_le tq.top.deg tp.deg tp.nz
  have h1 := hp.len
  have h2 := hq.len
  have h3 := bp.1
  have h4 := tq.2.1
  subst h1 h2
  exact sOver_zero clear_zero A B _ c _ d p q w hp hq tq.top tq.2.2 hl (by omega)
    (okOv_bnd tq.top tq.2.2 bq.bnd _ _ 4 1 (by simp [rl]; omega) (smV_rl bp.bnd) (ovB_small _ (by omega)))
    (fun t => (smV_rl bq.bnd t).sm (by omega) (by omega)) (ovK_zero tq.top hd (by omega))
theorem sCheck_pl {A : Option Addr} {n c : Nat} {xs : List Int} {w : World} (h : PolyL w A n c xs) (k : okP xs = true) (e : endOkP xs = true) :
    Calls Tryz.prog 13 #[.slice A n c] w fun e w' => e = .returned (.int .i64 0) ∧ Below w.heap.size w w' := by
  obtain ⟨es, g1, rfl, g3⟩ := pl_ok h k e
  have := sCheck_any A n c es w g1
  rw [g3] at this
  exact this
theorem cmpZ_zero {a b : Int} (h : a = 0 ↔ b = 0) : (cmpZ a 0 == 0) = (cmpZ b 0 == 0) := by
  unfold cmpZ
  by_cases ha : a = 0
  · rw [ha, h.1 ha]
  · have hb : b ≠ 0 := fun hb => ha (h.2 hb)
    have e : ∀ x : Int, x ≠ 0 → ((if x < 0 then (-1 : Int) else if 0 < x then 1 else 0) == 0) = false := fun x hx => by
      rcases Int.lt_or_gt_of_ne hx with h | h
      · rw [if_pos h]; rfl
      · rw [if_neg (by omega), if_pos h]; rfl
    rw [e a ha, e b hb]
theorem above_zero {r : Rat} {p : List Int} : aboveS r.num (r.den : Nat) p = 0 ↔ evalQ p r = 0 := by
  have hd : (0 : Int) < (r.den : Nat) := by have := r.den_pos; omega
  have h := above_make (num := r.num) hd p
  have e : Rat.divInt r.num (r.den : Nat) = r := Rat.num_divInt_den r
  rw [e] at h
  have hp : (0 : Int) < ((r.den : Nat) : Int) ^ (p.length - 1) := Int.pow_pos hd
  rw [← h]
  constructor
  · intro h0; rw [h0]; simp
  · intro h0
    rw [Rat.divInt_eq_div] at h0
    generalize ((r.den : Nat) : Int) ^ (p.length - 1) = b at *
    generalize aboveS r.num (r.den : Nat) p = a at *
    have hb : (b : Rat) ≠ 0 := fun h => by
      have : b = 0 := by exact_mod_cast h
      omega
    have : (a : Rat) = 0 := by grind
    exact_mod_cast this
end Go.Proofs.YtljocgdhdilglaaGreat

namespace Go.Proofs.YtljocgdhdilglaaGreat
open Go.RowKit
attribute [local go_sem] add_lit

theorem WL_nil (w : World) : WL w none 0 0 [] := WL.nil w none 0 (Nat.zero_le _)

set_option maxRecDepth 100000 in
set_option maxHeartbeats 8000000 in
theorem law_free (A : Option Addr) (n c : Nat) (es : List WE) (na nb : Bool) (X Y : Option Addr) (nx cx ny cy : Nat) (la lb : List Nat) (w : World) (hp : WL w A n c es) (hx : Lim w X nx cx la) (hy : Lim w Y ny cy lb) :
    Calls Tryz.prog 3 #[.slice A n c, .agg #[.bool na, .slice X nx cx, .bool nb, .slice Y ny cy]] w fun e w' => e = .returned (.bool true) ∧ Below w.heap.size w w' := by
  obtain ⟨W0, hW0, hB, xb, sz⟩ := alloc1 w 27 #[.bool na, .slice X nx cx, .bool nb, .slice Y ny cy]
  replace hp := hide (hp.below hB)
  replace hx := hide (hx.below hB)
  replace hy := hide (hy.below hB)
  replace xb := hide xb
  go_enter Tryz.func3, Tryz.ntmps3
  go_wp2_with fail
  refine (alive4_ok divide_ok W0).mono ?_
  rintro e w1 ⟨rfl, hb1⟩
  replace hB := hB.trans (hb1.mono hB.size)
  replace hp := hide (hp.out.below hb1)
  replace hx := hide (hx.out.below hb1)
  replace hy := hide (hy.out.below hb1)
  replace xb := hide (keep_blk hb1 xb.out)
  go_wp2_with fail
  refine (small_any A n c es w1 hp.out (smallE es) rfl).mono ?_
  rintro e w2 ⟨rfl, hb2⟩
  replace hB := hB.trans (hb2.mono hB.size)
  replace hp := hide (hp.out.below hb2)
  replace hx := hide (hx.out.below hb2)
  replace hy := hide (hy.out.below hb2)
  replace xb := hide (keep_blk hb2 xb.out)
  cases hsp : smallE es
  case false => (go_wp2_with fail; go_ret; exact ⟨rfl, hB⟩)
  replace hsp := hide hsp
  obtain ⟨x0, x1, x2, x3, -⟩ := xb.out.four
  go_wp2_with fail
  clear x0 x1 x2 x3
  refine (rfGreat_ok na nb X Y nx cx ny cy w2 (decide (130 < nx) || decide (130 < ny)) rfl).mono ?_
  rintro e w3 ⟨rfl, hb4⟩
  replace hB := hB.trans (hb4.mono hB.size)
  replace hp := hide (hp.out.below hb4)
  replace hx := hide (hx.out.below hb4)
  replace hy := hide (hy.out.below hb4)
  replace xb := hide (keep_blk hb4 xb.out)
  cases hgr : (decide (130 < nx) || decide (130 < ny))
  case true => (go_wp2_with fail; go_ret; exact ⟨rfl, hB⟩)
  replace hgr := hide hgr
  obtain ⟨x0, x1, x2, x3, -⟩ := xb.out.four
  go_wp2_with fail
  clear x0 x1 x2 x3
  refine (rfCheck_any na nb X Y nx cx ny cy la lb w3 hx.out hy.out (okF na la nb lb) rfl).mono ?_
  rintro e w4 ⟨rfl, hb5⟩
  replace hB := hB.trans (hb5.mono hB.size)
  replace hp := hide (hp.out.below hb5)
  replace hx := hide (hx.out.below hb5)
  replace hy := hide (hy.out.below hb5)
  replace xb := hide (keep_blk hb5 xb.out)
  cases hok : okF na la nb lb
  case false => (simp only [errOf, Bool.false_eq_true, if_false]; go_wp2_with fail; go_ret; exact ⟨rfl, hB⟩)
  simp only [errOf, if_true]
  have xf := hide (raw_fr hx.out hy.out hok)
  replace hok := hide hok
  obtain ⟨x0, x1, x2, x3, -⟩ := xb.out.four
  go_wp2_with fail
  clear x0 x1 x2 x3
  refine (rfFew_ok na nb X Y nx cx ny cy w4).mono ?_
  rintro e w5 ⟨rfl, hb6⟩
  replace hB := hB.trans (hb6.mono hB.size)
  replace hp := hide (hp.out.below hb6)
  replace hx := hide (hx.out.below hb6)
  replace hy := hide (hy.out.below hb6)
  replace xf := hide (xf.out.below hb6)
  replace xb := hide (keep_blk hb6 xb.out)
  obtain ⟨k8, hk8⟩ : ∃ k, max nx ny = k := ⟨_, rfl⟩
  rw [hk8]
  replace hk8 := hide hk8
  by_cases h8 : 8 < k8
  case pos =>
    have t8 : decide ((8 : Int) < (k8 : Int)) = true := by simp; omega
    have t8' : decide (8 < k8) = true := by simpa using h8
    go_wp2_with fail; go_ret; exact ⟨rfl, hB⟩
  have t8 : decide ((8 : Int) < (k8 : Int)) = false := by simp; omega
  have t8' : decide (8 < k8) = false := by simpa using h8
  obtain ⟨nx8, ny8⟩ : nx ≤ 8 ∧ ny ≤ 8 := by have := hk8.out; omega
  clear hgr hok
  obtain ⟨P, hP⟩ : ∃ P, es.map WE.num = P := ⟨_, rfl⟩
  obtain ⟨pp, pe, pb⟩ := small_law hp.out hsp.out
  rw [hP] at pp pe pb
  replace pp := hide pp
  have hxn : (qOf na la lb).num.natAbs < pw 8 := Nat.lt_of_lt_of_le xf.out.1.lt_pw (pw_le nx8)
  have hxd : (qOf na la lb).den < pw 8 := by have := Nat.lt_of_lt_of_le xf.out.2.lt_pw (pw_le ny8); simpa using this
  generalize qOf na la lb = r at *
  clear hx hy hsp hk8
  have hax := hide hxn
  rcases end_top pe with h0 | tP
  case inl =>
    obtain rfl : es = [] := by
      rw [← hP] at h0
      exact List.map_eq_nil_iff.1 h0
    obtain rfl : n = 0 := hp.out.len.symm
    go_wp2_with fail
    refine (Free_nil A c w5 hp.out).mono ?_
    rintro e w6 ⟨rfl, hb7⟩
    replace hB := hB.trans (hb7.mono hB.size)
    replace hp := hide (hp.out.below hb7)
    replace pp := hide (pp.out.below hb7)
    replace xf := hide (xf.out.below hb7)
    replace xb := hide (keep_blk hb7 xb.out)
    go_wp2_with fail
    refine (sCheck_any none 0 0 [] w6 (WL_nil _)).mono ?_
    rintro e w7 ⟨rfl, hb8⟩
    replace hB := hB.trans (hb8.mono hB.size)
    replace hp := hide (hp.out.below hb8)
    replace pp := hide (pp.out.below hb8)
    replace xf := hide (xf.out.below hb8)
    replace xb := hide (keep_blk hb8 xb.out)
    rw [show errOf (pOk []) = 0 from rfl]
    go_wp2_with fail
    go_ret
    exact ⟨rfl, hB⟩
  obtain ⟨ok1, ok2, ok3, pF, bF⟩ := free_all tP pb
  have hroot := free_roots tP ok1 ok2 r
  have hco := free_coprime tP ok1 ok2 ok3
  obtain ⟨-, κ, -, hκ⟩ := freeP_spec tP ok1 ok2
  have hdvd : Dvd (evalQ (freeP P)) (evalQ P) := ⟨fun x => κ * evalQ (comP P (derP P)) x, (pol_eval _).smul κ, fun x => by rw [hκ]; grind⟩
  clear hp hκ
  have hsd := der_sign tP
  have hn0 : 0 < n := by rw [← pp.out.len]; exact tP.1
  obtain ⟨F, hF⟩ : ∃ F, freeP P = F := ⟨_, rfl⟩
  rw [hF] at ok3 pF bF hroot hco hdvd
  have hFn : 0 < F.length := pF.2.1
  replace ok1 := hide ok1
  replace ok2 := hide ok2
  replace ok3 := hide ok3
  replace hroot := hide hroot
  replace hco := hide hco
  replace hdvd := hide hdvd
  replace hsd := hide hsd
  have kP := hide (pb.okP (by omega) (by omega))
  have kF := hide (bF.okP (by omega) (by omega))
  replace pF := hide pF
  replace tP := hide tP
  go_wp2_with fail
  refine (Free_pl A n c P w5 F pp.out kP.out pe tP.out.1 hsd.out ok1.out ok2.out (by rw [hF]; exact trimP_top pF.out.top) kF.out).mono ?_
  rintro e w8 ⟨hb, fA, fn, fc, rfl, fp⟩
  replace hB := hB.trans (hb.mono hB.size)
  replace pp := hide (pp.out.below hb)
  replace xf := hide (xf.out.below hb)
  replace xb := hide (keep_blk hb xb.out)
  clear hb
  replace fp := hide fp
  obtain rfl := fp.out.len
  have t1 : ((F.length : Int) == 0) = false := beq_false_of_ne (by omega)
  have t2 : ((n : Int) == 0) = false := beq_false_of_ne (by omega)
  have t3 : decide (F.length = 0) = false := decide_eq_false (by omega)
  have t4 : decide (n = 0) = false := decide_eq_false (by omega)
  have t5 : decide ((F.length : Int) = 0) = false := decide_eq_false (by omega)
  have t6 : decide ((n : Int) = 0) = false := decide_eq_false (by omega)
  have t7 : (F.length == 0) = false := beq_false_of_ne (by omega)
  have t8'' : (n == 0) = false := beq_false_of_ne (by omega)
  go_wp2_with fail
  refine (sCheck_pl fp.out kF.out (top_end pF.out.top)).mono ?_
  rintro e w9 ⟨rfl, hb8⟩
  replace hB := hB.trans (hb8.mono hB.size)
  replace pp := hide (pp.out.below hb8)
  replace fp := hide (fp.out.below hb8)
  replace xf := hide (xf.out.below hb8)
  replace xb := hide (keep_blk hb8 xb.out)
  obtain ⟨va, hva⟩ : ∃ v, cmpZ (aboveS r.num (r.den : Nat) P) 0 = v := ⟨_, rfl⟩
  obtain ⟨vb, hvb⟩ : ∃ v, cmpZ (aboveS r.num (r.den : Nat) F) 0 = v := ⟨_, rfl⟩
  have hab : (va == 0) = (vb == 0) := by
    rw [← hva, ← hvb]
    exact cmpZ_zero (above_zero.trans (hroot.out.trans above_zero.symm))
  replace hva := hide hva
  replace hvb := hide hvb
  obtain ⟨x0, x1, x2, x3, -⟩ := xb.out.four
  go_wp2_with fail
  clear x0 x1 x2 x3
  refine (Sign_pl A n c P w9 na nb X Y nx cx ny cy r pp.out kP.out pe xf.out (by omega) (by omega) va hva.out).mono ?_
  rintro e w10 ⟨rfl, hb9⟩
  replace hB := hB.trans (hb9.mono hB.size)
  replace pp := hide (pp.out.below hb9)
  replace fp := hide (fp.out.below hb9)
  replace xf := hide (xf.out.below hb9)
  replace xb := hide (keep_blk hb9 xb.out)
  obtain ⟨x0, x1, x2, x3, -⟩ := xb.out.four
  go_wp2_with fail
  clear x0 x1 x2 x3
  refine (Sign_pl fA F.length fc F w10 na nb X Y nx cx ny cy r fp.out kF.out (top_end pF.out.top) xf.out (by omega) (by omega) vb hvb.out).mono ?_
  rintro e w11 ⟨rfl, hb10⟩
  replace hB := hB.trans (hb10.mono hB.size)
  replace pp := hide (pp.out.below hb10)
  replace fp := hide (fp.out.below hb10)
  replace xf := hide (xf.out.below hb10)
  replace xb := hide (keep_blk hb10 xb.out)
  go_wp2_with fail
  refine (Deriv_pl fA F.length fc F w11 fp.out (top_end pF.out.top) bF (by omega) (by omega)).mono ?_
  rintro e w12 ⟨hb, dA, dn, dc, rfl, dp⟩
  replace hB := hB.trans (hb.mono hB.size)
  replace pp := hide (pp.out.below hb)
  replace fp := hide (fp.out.below hb)
  clear hb
  rw [trimP_end (der_end pF.out.top)] at dp
  replace dp := hide dp
  have kD := hide ((bF.der (by omega)).okP (by omega) (by omega))
  go_wp2_with fail
  refine (Gcd_pl fA dA F.length fc dn dc F (derP F) w12 [1] fp.out dp.out kF.out (top_end pF.out.top) kD.out (der_end pF.out.top) ok3.out (by rw [hco.out]; rfl) (by decide +kernel)).mono ?_
  rintro e w13 ⟨hb, gA, gn, gc, rfl, gp⟩
  replace hB := hB.trans (hb.mono hB.size)
  replace pp := hide (pp.out.below hb)
  replace fp := hide (fp.out.below hb)
  replace dp := hide (dp.out.below hb)
  clear hb
  obtain rfl : gn = 1 := gp.len.symm
  clear gp
  go_wp2_with fail
  refine (Over_pl pp.out fp.out tP.out pF.out pb bF hdvd.out).mono ?_
  rintro e w14 ⟨hb, o1, o2, o3, o4, o5, rfl⟩
  replace hB := hB.trans (hb.mono hB.size)
  replace pp := hide (pp.out.below hb)
  replace fp := hide (fp.out.below hb)
  replace dp := hide (dp.out.below hb)
  obtain ⟨ta, hta⟩ : ∃ t, (va == 0) = t := ⟨_, rfl⟩
  have htb : (vb == 0) = ta := by rw [← hab, hta]
  have u1 : decide (va = 0) = ta := by rw [← hta]; rfl
  have u2 : decide (vb = 0) = ta := by rw [← htb]; rfl
  cases ta <;> (go_wp2_with fail; go_ret; exact ⟨rfl, hB⟩)
end Go.Proofs.YtljocgdhdilglaaGreat

namespace Go.Proofs.YtljocgdhdilglaaGreat
open Go.ChangeShapes Go.WideShapes Go.ChangeAt Go.RowKit

theorem own_knob : ownKnob Tryz.prog.godebug = none := by kernel_rfl
theorem laid_out : laidOutB Tryz.prog = true := by kernel_rfl

set_option maxRecDepth 100000 in
theorem free_lifted (os : Os) (started : os.Started) (H : Type) (enc : TypeId × Value → H) :
    ReturnsInHanded {} Tryz.checked os 3 .any (Rows.polyFreeSpec.pre6 enc Tryz.prog Tryz.f3 Rows.polyFreeRow.domain false) (Rows.polyFreeSpec.post enc Tryz.prog Tryz.f3 false true false false) := by
  refine returnsInHanded_of_change (C := Tryz.checked) own_knob started (by kernel_rfl) Tryz.func3
    (ChangeSpec.witness6 (enc := enc) (C := Tryz.checked) false ⟨#[], #[.slice none 0 0, .agg #[.bool false, .slice none 0 0, .bool false, .slice none 0 0]], []⟩ 8 (by kernel_rfl) (by kernel_rfl) (by kernel_rfl) (by kernel_rfl)) ?_
  intro W base args ds gs before hval0 hW hcnd _
  have hval : ∀ (j : Nat) t v, Tryz.f3.params[j]? = some t → args[j]? = some v → Value.okWide Tryz.prog W .any base t v := hval0
  have hW' := hW
  obtain ⟨p, q, hA0, hV, rfl, hfz, hnd⟩ := hW
  have hA : DataW.TrodAll enc Tryz.prog W 0 (fun _ => true) true Tryz.f3.params.toList args.toList ds p := hA0
  rw [Tryz.params3] at hA hval
  obtain ⟨v0, v1, d0, d1, p0, p1, rfl, rfl, hpp, z0, z1⟩ := trodAll_two hA
  replace hpp : p = p0 ++ (p1) := by rw [hpp]
  subst hpp
  obtain ⟨rfl, rfl⟩ := trodVars_none hV
  obtain ⟨A0, n0, c0, es0, rfl, hL0⟩ := open_wides (hval 0 22 v0 rfl rfl) z0
  obtain ⟨na1, nb1, X1, Y1, nx1, cx1, ny1, cy1, la1, lb1, rfl, hX1, hY1⟩ := open_frac (hval 1 27 v1 rfl rfl) z1
  clear hA0 hval0
  simp only [List.append_nil] at hW'
  have hlt : ∀ x ∈ p0 ++ (p1), x.block < W.heap.size := fun x hx => hW'.lt x hx
  refine (law_free _ _ _ _ _ _ _ _ _ _ _ _ _ _ W hL0 hX1 hY1).mono fun e W' ⟨he, hw⟩ => ?_
  subst he
  exact ⟨_, rfl, post_of_below (pa := p0 ++ (p1)) (pv := []) hW' (fun _ _ _ => trodAll_mk1 (shut_bool Tryz.underlying4 true))
    (fun sp hsp => trodAll_mk2 (WideElems.Trod_stays laid_out (by kernel_rfl) (of_decide_eq_true (by kernel_rfl)) z0 (fun x hx => hw.same (hlt x (List.mem_append_left _ hx))) (fun x hx => hsp x (List.mem_append_left _ hx))) (WideElems.Trod_stays laid_out (by kernel_rfl) (of_decide_eq_true (by kernel_rfl)) z1 (fun x hx => hw.same (hlt x (List.mem_append_right _ hx))) (fun x hx => hsp x (List.mem_append_right _ hx))))
    (fun _ _ => rfl) (List.append_nil _).symm hw (ok_one (by kernel_rfl) rfl (okWide_bool_mk Tryz.underlying4 true))⟩

theorem free_holds : Rows.PolyFreeSaid :=
  OpenClaim.holds_of_wide 3 Tryz.f3 rfl rfl rfl rfl rfl rfl rfl ⟨rfl, rfl, rfl, rfl, rfl⟩ rfl rfl rfl rfl rfl (by kernel_rfl) Tryz.func3 (by kernel_rfl)
    (of_decide_eq_true (by kernel_rfl)) (by unfold Func.isWrapper; first | (rw [if_pos (by decide +kernel)]; kernel_rfl) | (rw [if_neg (by decide +kernel)]; exact ⟨rfl, rfl⟩))
    (fun os started H enc _ => free_lifted os started H enc)

#print axioms free_holds
end Go.Proofs.YtljocgdhdilglaaGreat
