/- The reference's content and primitive part of the empty list. The reference's Cleared, of zeros alone. What PolyFree and PolyDivides call, in the form in which they use it. PolyDivides, plain: sizes of the common divisor of products. PolyDivides, plain: all that its calls want, in all cases. The reference's Over of the empty polynomial; what PolyDivides wants in all cases. The law PolyDivides as a call: it returns true. The law PolyDivides holds: for every input it returns true, and each argument reads as before. -/
import Derived.Test.YtljocgdhdilglaaGreatRows
import Derived.Carry
import Derived.Test.YtljocgdhdilglaaGreatZf02
import Derived.Test.YtljocgdhdilglaaGreatZf01
import Derived.Test.YtljocgdhdilglaaGreatZr52
import Derived.Test.YtljocgdhdilglaaGreatZr53
set_option linter.unusedSimpArgs false
set_option linter.unusedVariables false

namespace Go.Proofs.YtljocgdhdilglaaGreat
open Go.RowKit
attribute [local go_sem] add_lit

set_option maxRecDepth 100000 in
set_option maxHeartbeats 1000000 in
theorem rcontent_nil (A : Option Addr) (c : Nat) (w : World) :
    Calls Tryz.prog 106 #[.slice A 0 c] w fun e w' => Below w.heap.size w w' ∧ ∃ na B m d, e = .returned (.agg #[.bool na, .slice B m d]) := by
  obtain ⟨X1, hX1, hB1, q1, k1, -, s1⟩ := new_obj 25 #[.bool false, .slice none 0 0] (Below.refl w.heap.size w) (Nat.le_refl _)
  obtain ⟨X2, hX2, hB2, q2, k2, far2, s2⟩ := new_obj 25 #[.bool false, .slice none 0 0] hB1 hB1.size
  rw [s1] at q2
  obtain ⟨X3, hX3, hB3, q3, k3⟩ := set_num false none 0 0 hB2 (by omega) q2
  obtain ⟨a0, a1, f0, f1⟩ := q2.two
  obtain ⟨b0, b1, f2, f3⟩ := q3.two
  have q1' := k3.2.1 _ _ _ (by omega) (far2 _ _ _ q1)
  obtain ⟨c0, c1, g0, g1⟩ := q1'.two
  obtain ⟨X4, hX4, hB4, q4, k4⟩ := set_num false none 0 0 hB3 (Nat.le_refl _) q1'
  obtain ⟨d0, d1, h0, h1⟩ := q4.two
  have t0 : decide ((0 : Int) < (0 : Int)) = false := rfl
  go_enter Tryz.func106, Tryz.ntmps106
  go_wp2_with fail
  go_loopg [4] 0 (fun k iv wr => iv = .int .i64 0 ∧ wr = X3)
  case atStart => exact ⟨rfl, rfl⟩
  case round =>
    obtain ⟨rfl, rfl⟩ := hrel
    go_wp2_with fail
    refine bodyPost_ret (v := .agg #[.bool false, .slice none 0 0]) (by simp [results, Tryz.results106, go_sem, d0, d1]) rfl ?_
    exact ⟨hB4, _, _, _, _, rfl⟩

set_option maxRecDepth 100000 in
set_option maxHeartbeats 1000000 in
theorem rPart_nil (A : Option Addr) (c : Nat) (w : World) :
    Calls Tryz.prog 78 #[.slice A 0 c] w fun e w' => Below w.heap.size w w' ∧ e = .returned (.slice none 0 0) := by
  have t0 : decide ((0 : Int) < (0 : Int)) = false := rfl
  go_enter Tryz.func78, Tryz.ntmps78
  go_wp2_with fail
  refine (rcontent_nil A c w).mono ?_
  rintro e w1 ⟨hb1, na, B, m, d, rfl⟩
  obtain ⟨X2, hX2, hB2, q2, k2, far2, s2⟩ := new_obj 25 #[.bool false, .slice none 0 0] hb1 hb1.size
  obtain ⟨X3, hX3, hB3, q3, k3⟩ := set_num na B m d hB2 hb1.size q2
  obtain ⟨a0, a1, f0, f1⟩ := q2.two
  go_wp2_with fail
  go_loopg [4, 5] 0 (fun k ov iv wr => ov = .slice none 0 0 ∧ iv = .int .i64 0 ∧ wr = X3)
  case atStart => exact ⟨rfl, rfl, rfl⟩
  case round =>
    obtain ⟨rfl, rfl, rfl⟩ := hrel
    go_wp2_with fail
    go_ret
    exact ⟨hB3, rfl⟩
end Go.Proofs.YtljocgdhdilglaaGreat

namespace Go.Proofs.YtljocgdhdilglaaGreat
open Go.RowKit
attribute [local go_sem] add_lit

theorem flz_at {w : World} {A : Option Addr} {n c : Nat} (h : FL w A n c (List.replicate n 0)) {k : Nat} (hk : k < n) : ∃ g o na A' n' c' nb B' m' d', A = some ⟨g, o, none⟩ ∧ w.cell? ⟨g, o + k * 4, none⟩ = some (.bool na) ∧ w.cell? ⟨g, o + k * 4 + 1, none⟩ = some (.slice A' n' c') ∧ w.cell? ⟨g, o + k * 4 + 2, none⟩ = some (.bool nb) ∧ w.cell? ⟨g, o + k * 4 + 3, none⟩ = some (.slice B' m' d') ∧ Wd w na A' n' c' 0 ∧ Wd w nb B' m' d' 1 := by
  obtain ⟨es, e1, e2, e3, e4, e5, e6⟩ := h
  obtain ⟨g, o, rfl, hc⟩ := e6 (by omega)
  obtain ⟨x, hx⟩ : ∃ x, es[k]? = some x := ⟨_, List.getElem?_eq_getElem (by omega)⟩
  obtain ⟨p0, p1, p2, p3⟩ := hc k x hx
  rw [← Nat.add_assoc] at p1 p2 p3
  have hxq : x.q = 0 := by
    have h1 : (es.map FE.q)[k]? = some x.q := by rw [List.getElem?_map, hx]; rfl
    rw [e5, List.getElem?_replicate, if_pos hk] at h1
    injection h1 with h1
    exact h1.symm
  have h1 := e4 x (List.mem_of_getElem? hx)
  unfold FE.in_ at h1
  rw [hxq] at h1
  exact ⟨g, o, _, _, _, _, _, _, _, _, rfl, p0, p1, p2, p3, h1.1, h1.2⟩
theorem flz_cap {w : World} {A : Option Addr} {n c : Nat} {qs : List Rat} (h : FL w A n c qs) : n ≤ c ∧ c ≤ maxLen := by obtain ⟨es, e1, e2, e3, -⟩ := h; exact ⟨e2, e3⟩
theorem gcd11 (na nb : Bool) (A B : Option Addr) (n c m d : Nat) (w : World) (ha : Wd w na A n c 1) (hb : Wd w nb B m d 1) :
    Calls Tryz.prog 36 #[.agg #[.bool na, .slice A n c], .agg #[.bool nb, .slice B m d]] w fun e w' => Below w.heap.size w w' ∧ ∃ neg A n c, e = .returned (.tuple #[.agg #[.bool neg, .slice A n c], .int .i64 0]) ∧ Wd w' neg A n c 1 :=
  (rGcd_ok na nb A B n c m d 1 1 w ha hb).mono fun e w' h => by
    obtain ⟨h1, neg, A, n, c, code, rfl, hR⟩ := h
    rw [show ((Nat.gcd (1 : Int).natAbs (1 : Int).natAbs : Nat) : Int) = 1 by decide] at hR
    obtain rfl := hR.code0 (small_i64 (by decide))
    exact ⟨h1, neg, A, n, c, rfl, hR.small (small_i64 (by decide))⟩
theorem trimP_zeros (n : Nat) : trimP (List.replicate n 0) = [] := by
  induction n with
  | zero => rfl
  | succ n ih => rw [List.replicate_succ]; simp only [trimP, ih]; rfl
theorem div11 (na nb : Bool) (A B : Option Addr) (n c m d : Nat) (w : World) (ha : Wd w na A n c 1) (hb : Wd w nb B m d 1) :
    Calls Tryz.prog 76 #[.agg #[.bool na, .slice A n c], .agg #[.bool nb, .slice B m d]] w fun e w' => Below w.heap.size w w' ∧ ∃ nq Aq kq cq nr Ar kr cr, e = .returned (.tuple #[.agg #[.bool nq, .slice Aq kq cq], .agg #[.bool nr, .slice Ar kr cr], .int .i64 0]) ∧ Wd w' nq Aq kq cq 1 ∧ Wd w' nr Ar kr cr 0 := by
  have h := rDivMod_ok na nb A B n c m d 1 1 w ha hb (by decide)
  unfold DivW at h
  rw [show Int.fdiv 1 1 = 1 by decide, show Int.fmod 1 1 = 0 by decide] at h
  exact h
theorem mul_lit (na nb : Bool) (A B : Option Addr) (n c m d : Nat) (x y z : Int) (hz : x * y = z) (hs : z.natAbs ≤ 9223372036854775808) (w : World) (ha : Wd w na A n c x) (hb : Wd w nb B m d y) :
    Calls Tryz.prog 77 #[.agg #[.bool na, .slice A n c], .agg #[.bool nb, .slice B m d]] w fun e w' => Below w.heap.size w w' ∧ ∃ neg A n c, e = .returned (.tuple #[.agg #[.bool neg, .slice A n c], .int .i64 0]) ∧ Wd w' neg A n c z :=
  (rMul_ok na nb A B n c m d x y w ha hb).mono fun e w' h => by
    obtain ⟨h1, neg, A, n, c, code, rfl, hR⟩ := h
    rw [hz] at hR
    obtain rfl := hR.code0 (small_i64 hs)
    exact ⟨h1, neg, A, n, c, rfl, hR.small (small_i64 hs)⟩
def T1 (z : Int) (v : Value) (w : World) : Prop := ∃ na A n c, v = .tuple #[.agg #[.bool na, .slice A n c], .int .i64 0] ∧ Wd w na A n c z
def T2 (z y : Int) (v : Value) (w : World) : Prop := ∃ na A n c nb B m d, v = .tuple #[.agg #[.bool na, .slice A n c], .agg #[.bool nb, .slice B m d], .int .i64 0] ∧ Wd w na A n c z ∧ Wd w nb B m d y
def N1 (z : Int) (v : Value) (w : World) : Prop := ∃ na A n c, v = .agg #[.bool na, .slice A n c] ∧ Wd w na A n c z
def NewW (B0 : Nat) (v : Value) (w : World) : Prop := ∃ g, v = .pointer (some ⟨g, 0, none⟩) ∧ B0 ≤ g ∧ Blk w g 25 #[.bool false, .slice none 0 0]
/-- What a call of one or two numbers and new variables have yielded. -/
def callW (B0 : Nat) (T : Value → World → Prop) (z y : Int) (ca mv x0 x1 er al al1 : Nat) (i : Nat) (v : Value) (w : World) : Prop :=
  if i = ca ∨ i = mv then T v w else if i = x0 then N1 z v w else if i = x1 then N1 y v w else if i = er then v = .int .i64 0 else if i = al ∨ i = al1 then NewW B0 v w else True
section
variable {v : Value} {w w' : World} {z y : Int} {B0 : Nat}
theorem T1.stays (hb : Below w.heap.size w w') (h : T1 z v w) : T1 z v w' := by obtain ⟨na, A, n, c, e, h1⟩ := h; exact ⟨na, A, n, c, e, h1.below hb⟩
theorem T2.stays (hb : Below w.heap.size w w') (h : T2 z y v w) : T2 z y v w' := by obtain ⟨na, A, n, c, nb, B, m, d, e, h1, h2⟩ := h; exact ⟨na, A, n, c, nb, B, m, d, e, h1.below hb, h2.below hb⟩
theorem N1.stays (hb : Below w.heap.size w w') (h : N1 z v w) : N1 z v w' := by obtain ⟨na, A, n, c, e, h1⟩ := h; exact ⟨na, A, n, c, e, h1.below hb⟩
theorem NewW.stays (hb : Below w.heap.size w w') (h : NewW B0 v w) : NewW B0 v w' := by obtain ⟨g, e, h1, h2⟩ := h; exact ⟨g, e, h1, keep_blk hb h2⟩
theorem NewW.ne (h : NewW B0 v w) : Value.pointer (some ⟨w.heap.size, 0, none⟩) ≠ v := by
  obtain ⟨g, rfl, -, h2⟩ := h
  intro h
  injection h with h
  injection h with h
  injection h with h
  have := h2.lt
  omega
theorem callW_stays {T : Value → World → Prop} (hT : ∀ v w w', Below w.heap.size w w' → T v w → T v w') {ca mv x0 x1 er al al1 i : Nat} (hb : Below w.heap.size w w') (h : callW B0 T z y ca mv x0 x1 er al al1 i v w) : callW B0 T z y ca mv x0 x1 er al al1 i v w' := by
  unfold callW at h ⊢
  split at h
  · rename_i h1; rw [if_pos h1]; exact hT _ _ _ hb h
  · rename_i h1; rw [if_neg h1]
    split at h
    · rename_i h2; rw [if_pos h2]; exact h.stays hb
    · rename_i h2; rw [if_neg h2]
      split at h
      · rename_i h3; rw [if_pos h3]; exact h.stays hb
      · rename_i h3; rw [if_neg h3]
        split at h
        · rename_i h4; rw [if_pos h4]; exact h
        · rename_i h4; rw [if_neg h4]
          split at h
          · rename_i h5; rw [if_pos h5]; exact h.stays hb
          · rename_i h5; rw [if_neg h5]; trivial
end

set_option maxRecDepth 100000 in
set_option maxHeartbeats 8000000 in
theorem clear_zero : ClearC := by
  intro A n c w h hn
  obtain ⟨iw, hi, hz0, hz1, hz2⟩ := info_parts infoW
  have hmx : Tryz.prog.follows .mixedOrders = true := by kernel_rfl
  obtain ⟨hnc, hcm⟩ := flz_cap h
  unfold maxLen at hcm
  replace h := hide h
  go_enter Tryz.func47, Tryz.ntmps47
  go_wp2_with fail
  refine (rFrom_any 1 w (by omega) (by omega)).mono ?_
  rintro e w1 ⟨hb1, nb1, B1, m1, d1, rfl, hW1⟩
  obtain ⟨X2, hX2, hB2, q2, k2, far2, s2⟩ := new_obj 25 #[.bool false, .slice none 0 0] hb1 hb1.size
  obtain ⟨X3, hX3, hB3, q3, k3⟩ := set_num nb1 B1 m1 d1 hB2 hb1.size q2
  obtain ⟨a0, a1, f0, f1⟩ := q2.two
  have hD := hide (k3.1 _ _ _ _ _ (k2 _ _ _ _ _ hW1))
  have hg1 : Hid (w.heap.size ≤ w1.heap.size) := hide hb1.size
  replace q3 := hide q3
  replace hB3 := hide hB3
  clear k2 far2 hB2 q2 hb1 hW1 k3
  go_wp2_with fail
  clear a0 a1 f0 f1 hX2 hX3
  obtain ⟨gD, hgD⟩ : ∃ g, w1.heap.size = g := ⟨_, rfl⟩
  rw [hgD] at q3 hg1 ⊢
  clear hgD
  go_loopg [4] n (fun k iv wr => ∃ (i : Nat) (nb : Bool) (B : Option Addr) (m d : Nat), i + k = n ∧ iv = .int .i64 i ∧ Blk wr gD 25 #[.bool nb, .slice B m d] ∧ Wd wr nb B m d 1 ∧ Below w.heap.size w wr)
  case atStart => exact ⟨0, nb1, B1, m1, d1, by omega, rfl, q3.out, hD.out, hB3.out⟩
  case round =>
    clear q3 hD hB3
    obtain ⟨i, nb, B, m, d, hik, rfl, qd, hWd, hB⟩ := hrel
    cases gk with
    | zero =>
      obtain rfl : i = n := by omega
      have tge : decide ((i : Int) < (i : Int)) = false := by simp
      replace qd := hide qd
      replace hWd := hide hWd
      replace hB := hide hB
      go_wp2_with fail
      go_loopg [10, 11] i (fun k ov jv wr => ∃ j : Nat, j + k = i ∧ jv = .int .i64 j ∧ OwnP 25 wr (gD + 1) ov (List.replicate j 0) ∧ Blk wr gD 25 #[.bool nb, .slice B m d] ∧ Wd wr nb B m d 1 ∧ Below w.heap.size w wr)
      case atStart => exact ⟨0, by omega, rfl, OwnP.nil _ _ _, qd.out, hWd.out, hB.out⟩
      case round =>
        clear qd hWd hB
        obtain ⟨j, hjk, rfl, hown, qd, hWd, hB⟩ := hrel
        cases gk with
        | zero =>
          obtain rfl : j = i := by omega
          have tge2 : decide ((j : Int) < (j : Int)) = false := by simp
          obtain ⟨A3, c3, rfl, hP3⟩ := hown.poly
          rw [List.length_replicate] at hP3 ⊢
          clear hown qd hWd
          go_wp2_with fail
          refine (strim_any _ _ _ _ _ hP3 (by omega)).mono ?_
          rintro e w4 ⟨A4, n4, c4, rfl, hP4, hb4⟩
          rw [trimP_zeros] at hP4
          obtain rfl : n4 = 0 := hP4.len.symm
          have hB4 := hB.trans (hb4.mono hB.size)
          have t00 : decide ((0 : Int) < (0 : Int)) = false := rfl
          have t01 : decide ((0 : Int) > (0 : Int)) = false := rfl
          go_wp2_with fail
          refine (rPart_nil A4 c4 w4).mono ?_
          rintro e w5 ⟨hb5, rfl⟩
          have hB5 := hB4.trans (hb5.mono hB4.size)
          go_wp2_with fail
          go_loopg [18] 0 (fun k jv wr => jv = .int .i64 0 ∧ wr = w5)
          case atStart => exact ⟨rfl, rfl⟩
          case round =>
            obtain ⟨rfl, rfl⟩ := hrel
            go_wp2_with fail
            go_ret
            exact ⟨hB5, _, _, rfl⟩
        | succ gk' =>
          obtain rfl : gk' = i - (j + 1) := by omega
          have hin : j < i := by omega
          have tlt : decide ((j : Int) < (i : Int)) = true := by simp; omega
          have bI : (j : Int) < (i : Int) := by omega
          obtain ⟨b, o, na, A1, n1, c1, nB, B2, m2, d2, rfl, p0, p1, p2, p3, hNum, hDen⟩ := flz_at h.out hin
          replace p0 := keep_cell hB p0
          replace p1 := keep_cell hB p1
          replace p2 := keep_cell hB p2
          replace p3 := keep_cell hB p3
          replace hDen := hDen.below hB
          replace hNum := hide (hNum.below hB)
          replace hown := hide hown
          obtain ⟨x0, x1, y0, y1⟩ := qd.two
          go_wp2_with fail
          have hSv1 : Hid (∀ wx, Below wr.heap.size wr wx → wx.cell? ⟨gD, 0, none⟩ = some (.bool nb) ∧ wx.cell? ⟨gD, 1, none⟩ = some (.slice B m d) ∧ wx.cell? ⟨b, o + j * 4 + 2, none⟩ = some (.bool nB) ∧ wx.cell? ⟨b, o + j * 4 + 3, none⟩ = some (.slice B2 m2 d2)) := hide (fun wx hbx => ⟨keep_cell hbx x0, keep_cell hbx x1, keep_cell hbx p2, keep_cell hbx p3⟩)
          have hr1 : Below wr.heap.size wr wr.drew := below_dn (Below.refl _ _) 1
          refine wp_held [] (fun wx => wx.cell? ⟨gD, 0, none⟩ = some (.bool nb) ∧ wx.cell? ⟨gD, 1, none⟩ = some (.slice B m d) ∧ wx.cell? ⟨b, o + j * 4 + 2, none⟩ = some (.bool nB) ∧ wx.cell? ⟨b, o + j * 4 + 3, none⟩ = some (.slice B2 m2 d2)) hmx (hSv1.out _ hr1) (fun hxs1 => ?_)
          refine wpAnyL_take (i := 0) (v := ?v1) rfl (by kernel_rfl) (by kernel_rfl) (by kernel_rfl) (by kernel_rfl) (by kernel_rfl) (Or.inl ⟨by kernel_rfl, ?hy1⟩) (hSv1.out _ hr1) ?rest1
          case hy1 => (intro W2 hSw; (try dsimp only at hSw); go_simp; try with_reducible rfl)
          try simp only [Act.put, List.setIfInBounds_toArray, List.set_cons_zero, List.set_cons_succ, List.getElem_toArray, List.getElem_cons_succ, List.getElem_cons_zero]
          refine wpAnyL_take (i := 1) (v := ?v2) rfl (by kernel_rfl) (by kernel_rfl) (by kernel_rfl) (by kernel_rfl) (by kernel_rfl) (Or.inl ⟨by kernel_rfl, ?hy2⟩) (hSv1.out _ hr1) ?rest2
          case hy2 => (intro W2 hSw; (try dsimp only at hSw); go_simp; try with_reducible rfl)
          try simp only [Act.put, List.setIfInBounds_toArray, List.set_cons_zero, List.set_cons_succ, List.getElem_toArray, List.getElem_cons_succ, List.getElem_cons_zero]
          refine wpAnyL_take (i := 2) (v := ?v3) rfl (by kernel_rfl) (by kernel_rfl) (by kernel_rfl) (by kernel_rfl) (by kernel_rfl) (Or.inl ⟨by kernel_rfl, ?hy3⟩) (hSv1.out _ hr1) ?rest3
          case hy3 => (intro W2 hSw; (try dsimp only at hSw); go_simp; try with_reducible rfl)
          try simp only [Act.put, List.setIfInBounds_toArray, List.set_cons_zero, List.set_cons_succ, List.getElem_toArray, List.getElem_cons_succ, List.getElem_cons_zero]
          refine wpAnyL_take (i := 3) (v := ?v4) rfl (by kernel_rfl) (by kernel_rfl) (by kernel_rfl) (by kernel_rfl) (by kernel_rfl) (Or.inl ⟨by kernel_rfl, ?hy4⟩) (hSv1.out _ hr1) ?rest4
          case hy4 => (intro W2 hSw; (try dsimp only at hSw); go_simp; try with_reducible rfl)
          try simp only [Act.put, List.setIfInBounds_toArray, List.set_cons_zero, List.set_cons_succ, List.getElem_toArray, List.getElem_cons_succ, List.getElem_cons_zero]
          refine wpAnyL_take (i := 4) (v := ?v5) rfl (by kernel_rfl) (by kernel_rfl) (by kernel_rfl) (by kernel_rfl) (by kernel_rfl) (Or.inl ⟨by kernel_rfl, ?hy5⟩) (hSv1.out _ hr1) ?rest5
          case hy5 => (intro W2 hSw; (try dsimp only at hSw); go_simp; try with_reducible rfl)
          try simp only [Act.put, List.setIfInBounds_toArray, List.set_cons_zero, List.set_cons_succ, List.getElem_toArray, List.getElem_cons_succ, List.getElem_cons_zero]
          refine wpAnyL_take (i := 5) (v := ?v6) rfl (by kernel_rfl) (by kernel_rfl) (by kernel_rfl) (by kernel_rfl) (by kernel_rfl) (Or.inl ⟨by kernel_rfl, ?hy6⟩) (hSv1.out _ hr1) ?rest6
          case hy6 => (intro W2 hSw; (try dsimp only at hSw); go_simp; try with_reducible rfl)
          try simp only [Act.put, List.setIfInBounds_toArray, List.set_cons_zero, List.set_cons_succ, List.getElem_toArray, List.getElem_cons_succ, List.getElem_cons_zero]
          refine wpAnyL_allN [(11, 12), (12, 13)] [(6, 66), (7, 59), (11, 12), (12, 13)] (fun i => match i with | 7 => [8, 9, 10] | _ => []) [(6, 66), (7, 59), (8, 67), (9, 68), (10, 69), (11, 12), (12, 13)] (callW wr.heap.size (T2 1 0) 1 0 6 7 8 9 10 11 12) 3 (by kernel_rfl) (fun _ _ _ _ _ hb h => callW_stays (fun _ _ _ => T2.stays) hb h) (fun wx h => hSv1.out _ (hr1.trans (h.mono hr1.size))) ?hop1 ?hfin1
          case hop1 =>
            intro p hp
            simp only [List.mem_cons, List.not_mem_nil, or_false] at hp
            simp only [List.map_cons, List.map_nil, putsR, Act.put, List.setIfInBounds_toArray, List.set_cons_zero, List.set_cons_succ]
            rcases hp with rfl | rfl | rfl | rfl
            · intro ν wx hb hP
              have hbx := hr1.trans (hb.mono hr1.size)
              refine wpOp_shut (i := 6) rfl (fun K hK => ?_)
              go_simp
              refine (div11 nb nB B B2 m d m2 d2 wx (hWd.below hbx) (hDen.below hbx)).mono ?_
              rintro e w5 ⟨hb5, na5, A5, k5, c5, nb5, B5, m5, d5, rfl, hf5, hg5⟩
              exact hK.out _ _ ⟨_, rfl, (by simp only [callW]; exact ⟨_, _, _, _, _, _, _, _, rfl, hf5, hg5⟩), hb5, trivial, fun h => by simp at h⟩
            · intro ν wx hb hP
              have h0 := hP (6, 66) (by simp) (by kernel_rfl)
              simp only [callW] at h0
              obtain ⟨na5, A5, k5, c5, nb5, B5, m5, d5, hν, hf5, hg5⟩ := h0
              rw [hν]
              refine wpOp_shut (i := 7) rfl (fun K hK => ?_)
              go_simp
              refine hK.out _ _ ⟨_, rfl, (by simp only [callW]; exact ⟨_, _, _, _, _, _, _, _, rfl, hf5, hg5⟩), Below.refl _ _, ?_, fun h => by simp at h⟩
              exact ⟨_, .agg #[.bool na5, .slice A5 k5 c5], rfl, Or.inl ⟨by kernel_rfl, fun W2 _ => by go_simp⟩, (by simp only [callW]; exact ⟨_, _, _, _, rfl, hf5⟩), ⟨_, .agg #[.bool nb5, .slice B5 m5 d5], rfl, Or.inl ⟨by kernel_rfl, fun W2 _ => by go_simp⟩, (by simp only [callW]; exact ⟨_, _, _, _, rfl, hg5⟩), ⟨_, .int .i64 0, rfl, Or.inl ⟨by kernel_rfl, fun W2 _ => by go_simp⟩, by simp [callW], trivial⟩⟩⟩
            · intro ν wx hb hP
              refine wpOp_shut (i := 11) rfl (fun K hK => ?_)
              go_simp
              exact hK.out _ _ ⟨_, rfl, (by simp only [callW]; exact ⟨_, rfl, hb.size, Blk.new _ _ _⟩), (Below.refl _ _).alloc (Nat.le_refl _) _, trivial, (fun _ q hq u hu => by
                simp only [List.mem_cons, List.not_mem_nil, or_false] at hq
                rcases hq with rfl | rfl <;> (simp only [callW] at hu; exact NewW.ne hu))⟩
            · intro ν wx hb hP
              refine wpOp_shut (i := 12) rfl (fun K hK => ?_)
              go_simp
              exact hK.out _ _ ⟨_, rfl, (by simp only [callW]; exact ⟨_, rfl, hb.size, Blk.new _ _ _⟩), (Below.refl _ _).alloc (Nat.le_refl _) _, trivial, (fun _ q hq u hu => by
                simp only [List.mem_cons, List.not_mem_nil, or_false] at hq
                rcases hq with rfl | rfl <;> (simp only [callW] at hu; exact NewW.ne hu))⟩
          case hfin1 =>
            intro ν wx hb hP hNE
            have h0 := hP (6, 66) (by simp)
            have h1 := hP (7, 59) (by simp)
            have h3 := hP (10, 69) (by simp)
            have hx0 := hP (8, 67) (by simp)
            have hx1 := hP (9, 68) (by simp)
            have ha0 := hP (11, 12) (by simp)
            have ha1 := hP (12, 13) (by simp)
            simp only [callW] at h0 h1 hx0 ha0 hx1 ha1
            obtain ⟨a0, a1, a2, a3, a4, a5, a6, a7, h0, -, -⟩ := h0
            obtain ⟨e0, e1, e2, e3, e4, e5, e6, e7, h1, -, -⟩ := h1
            obtain ⟨q0n, q0A, q0k, q0c, hx0, q0f⟩ := hx0
            obtain ⟨gq0, ha0, kv0, qv0⟩ := ha0
            obtain ⟨q1n, q1A, q1k, q1c, hx1, q1f⟩ := hx1
            obtain ⟨gq1, ha1, kv1, qv1⟩ := ha1
            have hgne : gq0 ≠ gq1 := fun h => by
              refine hNE (11, 12) (by simp) (12, 13) (by simp) (by simp) ?_
              rw [ha0, ha1, h]
            simp only [List.map_cons, List.map_nil, putsR, Act.put, List.setIfInBounds_toArray, List.set_cons_zero, List.set_cons_succ]
            rw [h0, h1, hx0, hx1, (show ν 69 = Value.int .i64 0 by simpa [callW] using h3), ha0, ha1]
            clear h0 h1 h3 hx0 ha0 hx1 ha1 hP ν hNE
            have hbx := hr1.trans (hb.mono hr1.size)
            obtain ⟨f00, f10, f20, f30⟩ := qv0.two
            obtain ⟨Zq0, hZ0, hbZq0, qZ0, kZ0⟩ := set_num q0n q0A q0k q0c hbx kv0 qv0
            replace qv1 := kZ0.2.1 _ _ _ hgne.symm qv1
            refine wpAnyL_one (i := 13) rfl (by kernel_rfl) (fun K hK => ?_)
            go_simp
            (try rw [hZ0])
            refine hK.out _ _ (fun _ => hSv1.out _ hbZq0) ?_
            clear hK K hZ0 f00 f10 f20 f30
            try simp only [Act.put, List.setIfInBounds_toArray, List.set_cons_zero, List.set_cons_succ]
            obtain ⟨f01, f11, f21, f31⟩ := qv1.two
            obtain ⟨Zq1, hZ1, hbZq1, qZ1, kZ1⟩ := set_num q1n q1A q1k q1c hbZq0 kv1 qv1
            refine wpAnyL_one (i := 14) rfl (by kernel_rfl) (fun K hK => ?_)
            go_simp
            (try rw [hZ1])
            refine hK.out _ _ (fun _ => hSv1.out _ hbZq1) ?_
            clear hK K hZ1 f01 f11 f21 f31
            try simp only [Act.put, List.setIfInBounds_toArray, List.set_cons_zero, List.set_cons_succ]
            refine wpAnyL_pure (i := 15) (v := ?v7) rfl (by kernel_rfl) (by kernel_rfl) (by kernel_rfl) (by kernel_rfl) (Or.inl ⟨by kernel_rfl, ?hy7⟩) (fun _ => (hSv1.out _ hbZq1)) ?rest7
            case hy7 => (intro W2 _; go_simp; try with_reducible rfl)
            try simp only [Act.put, List.setIfInBounds_toArray, List.set_cons_zero, List.set_cons_succ, List.getElem_toArray, List.getElem_cons_succ, List.getElem_cons_zero]
            refine wpAnyL_done (by kernel_rfl) ?_ _
            refine OnlyNormal.normal ?_
            have q0b := hide (kZ1.2.1 _ _ _ hgne qZ0)
            have q1b := hide qZ1
            replace q0f := hide (kZ1.1 _ _ _ _ _ (kZ0.1 _ _ _ _ _ q0f))
            clear kZ0 kZ1 qZ0 qZ1 kv0 kv1 hbx hb hr1 hSv1 hxs1 hbZq0
            replace qd := hide (keep_blk hbZq1 qd)
            replace hWd := hide (hWd.below hbZq1)
            replace hown := hide (hown.out.kept hbZq1)
            replace hNum := hNum.out.below hbZq1
            replace p0 := keep_cell hbZq1 p0
            replace p1 := keep_cell hbZq1 p1
            obtain ⟨u0, u1, -, -⟩ := q0b.out.two
            replace hB := hB.trans (hbZq1.mono hB.size)
            clear x0 x1 y0 y1 p2 p3 hDen hbZq1 q1b q1f
            go_wp2_with fail
            have hSv2 : Hid (∀ wx, Below Zq1.heap.size Zq1 wx → wx.cell? ⟨gq0, 0, none⟩ = some (.bool q0n) ∧ wx.cell? ⟨gq0, 1, none⟩ = some (.slice q0A q0k q0c) ∧ wx.cell? ⟨b, o + j * 4, none⟩ = some (.bool na) ∧ wx.cell? ⟨b, o + j * 4 + 1, none⟩ = some (.slice A1 n1 c1)) := hide (fun wx hbx => ⟨keep_cell hbx u0, keep_cell hbx u1, keep_cell hbx p0, keep_cell hbx p1⟩)
            have hr2 : Below Zq1.heap.size Zq1 Zq1.drew := below_dn (Below.refl _ _) 1
            refine wp_held [] (fun wx => wx.cell? ⟨gq0, 0, none⟩ = some (.bool q0n) ∧ wx.cell? ⟨gq0, 1, none⟩ = some (.slice q0A q0k q0c) ∧ wx.cell? ⟨b, o + j * 4, none⟩ = some (.bool na) ∧ wx.cell? ⟨b, o + j * 4 + 1, none⟩ = some (.slice A1 n1 c1)) hmx (hSv2.out _ hr2) (fun hxs2 => ?_)
            refine wpAnyL_take (i := 0) (v := ?v8) rfl (by kernel_rfl) (by kernel_rfl) (by kernel_rfl) (by kernel_rfl) (by kernel_rfl) (Or.inl ⟨by kernel_rfl, ?hy8⟩) (hSv2.out _ hr2) ?rest8
            case hy8 => (intro W2 hSw; (try dsimp only at hSw); go_simp; try with_reducible rfl)
            try simp only [Act.put, List.setIfInBounds_toArray, List.set_cons_zero, List.set_cons_succ, List.getElem_toArray, List.getElem_cons_succ, List.getElem_cons_zero]
            refine wpAnyL_take (i := 1) (v := ?v9) rfl (by kernel_rfl) (by kernel_rfl) (by kernel_rfl) (by kernel_rfl) (by kernel_rfl) (Or.inl ⟨by kernel_rfl, ?hy9⟩) (hSv2.out _ hr2) ?rest9
            case hy9 => (intro W2 hSw; (try dsimp only at hSw); go_simp; try with_reducible rfl)
            try simp only [Act.put, List.setIfInBounds_toArray, List.set_cons_zero, List.set_cons_succ, List.getElem_toArray, List.getElem_cons_succ, List.getElem_cons_zero]
            refine wpAnyL_take (i := 2) (v := ?v10) rfl (by kernel_rfl) (by kernel_rfl) (by kernel_rfl) (by kernel_rfl) (by kernel_rfl) (Or.inl ⟨by kernel_rfl, ?hy10⟩) (hSv2.out _ hr2) ?rest10
            case hy10 => (intro W2 hSw; (try dsimp only at hSw); go_simp; try with_reducible rfl)
            try simp only [Act.put, List.setIfInBounds_toArray, List.set_cons_zero, List.set_cons_succ, List.getElem_toArray, List.getElem_cons_succ, List.getElem_cons_zero]
            refine wpAnyL_take (i := 3) (v := ?v11) rfl (by kernel_rfl) (by kernel_rfl) (by kernel_rfl) (by kernel_rfl) (by kernel_rfl) (Or.inl ⟨by kernel_rfl, ?hy11⟩) (hSv2.out _ hr2) ?rest11
            case hy11 => (intro W2 hSw; (try dsimp only at hSw); go_simp; try with_reducible rfl)
            try simp only [Act.put, List.setIfInBounds_toArray, List.set_cons_zero, List.set_cons_succ, List.getElem_toArray, List.getElem_cons_succ, List.getElem_cons_zero]
            refine wpAnyL_take (i := 4) (v := ?v12) rfl (by kernel_rfl) (by kernel_rfl) (by kernel_rfl) (by kernel_rfl) (by kernel_rfl) (Or.inl ⟨by kernel_rfl, ?hy12⟩) (hSv2.out _ hr2) ?rest12
            case hy12 => (intro W2 hSw; (try dsimp only at hSw); go_simp; try with_reducible rfl)
            try simp only [Act.put, List.setIfInBounds_toArray, List.set_cons_zero, List.set_cons_succ, List.getElem_toArray, List.getElem_cons_succ, List.getElem_cons_zero]
            refine wpAnyL_take (i := 5) (v := ?v13) rfl (by kernel_rfl) (by kernel_rfl) (by kernel_rfl) (by kernel_rfl) (by kernel_rfl) (Or.inl ⟨by kernel_rfl, ?hy13⟩) (hSv2.out _ hr2) ?rest13
            case hy13 => (intro W2 hSw; (try dsimp only at hSw); go_simp; try with_reducible rfl)
            try simp only [Act.put, List.setIfInBounds_toArray, List.set_cons_zero, List.set_cons_succ, List.getElem_toArray, List.getElem_cons_succ, List.getElem_cons_zero]
            refine wpAnyL_allN ([] : List (Nat × Nat)) [(6, 77), (7, 70), (10, 15)] (fun i => match i with | 7 => [8, 9] | _ => []) [(6, 77), (7, 70), (8, 78), (9, 79), (10, 15)] (callW Zq1.heap.size (T1 0) 0 0 6 7 8 1000 9 10 1001) 2 (by kernel_rfl) (fun _ _ _ _ _ hb h => callW_stays (fun _ _ _ => T1.stays) hb h) (fun wx h => hSv2.out _ (hr2.trans (h.mono hr2.size))) ?hop2 ?hfin2
            case hop2 =>
              intro p hp
              simp only [List.mem_cons, List.not_mem_nil, or_false] at hp
              simp only [List.map_cons, List.map_nil, putsR, Act.put, List.setIfInBounds_toArray, List.set_cons_zero, List.set_cons_succ]
              rcases hp with rfl | rfl | rfl
              · intro ν wx hb hP
                have hbx := hr2.trans (hb.mono hr2.size)
                refine wpOp_shut (i := 6) rfl (fun K hK => ?_)
                go_simp
                refine (mul_lit q0n na q0A A1 q0k q0c n1 c1 1 0 0 rfl (by decide) wx (q0f.below hbx) (hNum.below hbx)).mono ?_
                rintro e w5 ⟨hb5, na5, A5, k5, c5, rfl, hf5⟩
                exact hK.out _ _ ⟨_, rfl, (by simp only [callW]; exact ⟨_, _, _, _, rfl, hf5⟩), hb5, trivial, fun h => by simp at h⟩
              · intro ν wx hb hP
                have h0 := hP (6, 77) (by simp) (by kernel_rfl)
                simp only [callW] at h0
                obtain ⟨na5, A5, k5, c5, hν, hf5⟩ := h0
                rw [hν]
                refine wpOp_shut (i := 7) rfl (fun K hK => ?_)
                go_simp
                refine hK.out _ _ ⟨_, rfl, (by simp only [callW]; exact ⟨_, _, _, _, rfl, hf5⟩), Below.refl _ _, ?_, fun h => by simp at h⟩
                exact ⟨_, .agg #[.bool na5, .slice A5 k5 c5], rfl, Or.inl ⟨by kernel_rfl, fun W2 _ => by go_simp⟩, (by simp only [callW]; exact ⟨_, _, _, _, rfl, hf5⟩), ⟨_, .int .i64 0, rfl, Or.inl ⟨by kernel_rfl, fun W2 _ => by go_simp⟩, by simp [callW], trivial⟩⟩
              · intro ν wx hb hP
                refine wpOp_shut (i := 10) rfl (fun K hK => ?_)
                go_simp
                exact hK.out _ _ ⟨_, rfl, (by simp only [callW]; exact ⟨_, rfl, hb.size, Blk.new _ _ _⟩), (Below.refl _ _).alloc (Nat.le_refl _) _, trivial, (fun h => by simp at h)⟩
            case hfin2 =>
              intro ν wx hb hP hNE
              have h0 := hP (6, 77) (by simp)
              have h1 := hP (7, 70) (by simp)
              have h3 := hP (9, 79) (by simp)
              have hx0 := hP (8, 78) (by simp)
              have ha0 := hP (10, 15) (by simp)
              simp only [callW] at h0 h1 hx0 ha0
              obtain ⟨a0, a1, a2, a3, h0, -⟩ := h0
              obtain ⟨e0, e1, e2, e3, h1, -⟩ := h1
              obtain ⟨e0n, e0A, e0k, e0c, hx0, e0f⟩ := hx0
              obtain ⟨ge0, ha0, kv0, qv0⟩ := ha0
              simp only [List.map_cons, List.map_nil, putsR, Act.put, List.setIfInBounds_toArray, List.set_cons_zero, List.set_cons_succ]
              rw [h0, h1, hx0, (show ν 79 = Value.int .i64 0 by simpa [callW] using h3), ha0]
              clear h0 h1 h3 hx0 ha0 hP ν hNE
              have hbx := hr2.trans (hb.mono hr2.size)
              obtain ⟨f00, f10, f20, f30⟩ := qv0.two
              obtain ⟨Ze0, hZ0, hbZe0, qZ0, kZ0⟩ := set_num e0n e0A e0k e0c hbx kv0 qv0
              refine wpAnyL_one (i := 11) rfl (by kernel_rfl) (fun K hK => ?_)
              go_simp
              (try rw [hZ0])
              refine hK.out _ _ (fun _ => hSv2.out _ hbZe0) ?_
              clear hK K hZ0 f00 f10 f20 f30
              try simp only [Act.put, List.setIfInBounds_toArray, List.set_cons_zero, List.set_cons_succ]
              refine wpAnyL_pure (i := 12) (v := ?v14) rfl (by kernel_rfl) (by kernel_rfl) (by kernel_rfl) (by kernel_rfl) (Or.inl ⟨by kernel_rfl, ?hy14⟩) (fun _ => (hSv2.out _ hbZe0)) ?rest14
              case hy14 => (intro W2 _; go_simp; try with_reducible rfl)
              try simp only [Act.put, List.setIfInBounds_toArray, List.set_cons_zero, List.set_cons_succ, List.getElem_toArray, List.getElem_cons_succ, List.getElem_cons_zero]
              refine wpAnyL_done (by kernel_rfl) ?_ _
              refine OnlyNormal.normal ?_
              have e0b := hide qZ0
              replace e0f := hide (kZ0.1 _ _ _ _ _ e0f)
              clear kZ0 qZ0 hbx hb hr2 hSv2 hxs2
              replace qd := hide (keep_blk hbZe0 qd.out)
              replace hWd := hide (hWd.out.below hbZe0)
              replace hown := hown.out.kept hbZe0
              replace hB := hB.trans (hbZe0.mono hB.size)
              obtain ⟨u2, u3, -, -⟩ := e0b.out.two
              have hsB := hB.size
              have hgDl := qd.out.lt
              clear u0 u1 p0 p1 hNum hbZe0 q0b q0f
              go_wp2_with (at_builtin; refine wpList_append_num _ rfl (.tmp 80) (.tmp 82) 22 rfl (gD + 1) 25 iw Tryz.underlying22 hi hz0 hz1 hz2 _ _ rfl (by exact hown.alloc _) _ _ 1 1 [⟨e0n, e0A, e0k, e0c, digits (0 : Int).natAbs⟩] rfl (reads_num _ _ _ _ _ _ _) rfl (List.forall_mem_singleton.2 ⟨e0f.2.2.alloc _, e0f.ok⟩) (by rw [List.length_replicate]; omega) (by simp; omega) ?_; intro v7 w7 hown7 hg7 hk7)
              have hB7 : Below (gD + 1) Ze0 w7 := ((Below.refl (gD + 1) Ze0).alloc (by omega) _).grown hg7 (by simp; omega) hown.row_ge
              have qd7 := (hB7.block gD (Nat.lt_succ_self _)).trans qd.out
              have hWd7 : Wd w7 nb B m d 1 := ⟨hWd.out.1, hWd.out.2.1, hk7 _ _ _ _ (hWd.out.2.2.alloc _)⟩
              have hB8 := hB.trans (hB7.mono (by have := hg1.out; omega))
              have hown8 := hown7.snoc e0f
              rw [show List.replicate j (0 : Int) ++ [0] = List.replicate (j + 1) 0 from (List.replicate_succ' ..).symm] at hown8
              go_roundg (i - (j + 1))
              case measure => omega
              case rel => exact ⟨j + 1, by omega, by go_num, hown8, qd7, hWd7, hB8⟩
    | succ gk' =>
      obtain rfl : gk' = n - (i + 1) := by omega
      have hin : i < n := by omega
      have tlt : decide ((i : Int) < (n : Int)) = true := by simp; omega
      have bI : (i : Int) < (n : Int) := by omega
      obtain ⟨b, o, na, A1, n1, c1, nB, B2, m2, d2, rfl, p0, p1, p2, p3, hNum, hDen⟩ := flz_at h.out hin
      replace p2 := keep_cell hB p2
      replace p3 := keep_cell hB p3
      replace hDen := hDen.below hB
      obtain ⟨x0, x1, y0, y1⟩ := qd.two
      clear p0 p1 hNum
      go_wp2_with fail
      have hSv3 : Hid (∀ wx, Below wr.heap.size wr wx → wx.cell? ⟨gD, 0, none⟩ = some (.bool nb) ∧ wx.cell? ⟨gD, 1, none⟩ = some (.slice B m d) ∧ wx.cell? ⟨b, o + i * 4 + 2, none⟩ = some (.bool nB) ∧ wx.cell? ⟨b, o + i * 4 + 3, none⟩ = some (.slice B2 m2 d2)) := hide (fun wx hbx => ⟨keep_cell hbx x0, keep_cell hbx x1, keep_cell hbx p2, keep_cell hbx p3⟩)
      have hr3 : Below wr.heap.size wr wr.drew := below_dn (Below.refl _ _) 1
      refine wp_held [] (fun wx => wx.cell? ⟨gD, 0, none⟩ = some (.bool nb) ∧ wx.cell? ⟨gD, 1, none⟩ = some (.slice B m d) ∧ wx.cell? ⟨b, o + i * 4 + 2, none⟩ = some (.bool nB) ∧ wx.cell? ⟨b, o + i * 4 + 3, none⟩ = some (.slice B2 m2 d2)) hmx (hSv3.out _ hr3) (fun hxs3 => ?_)
      refine wpAnyL_take (i := 0) (v := ?v15) rfl (by kernel_rfl) (by kernel_rfl) (by kernel_rfl) (by kernel_rfl) (by kernel_rfl) (Or.inl ⟨by kernel_rfl, ?hy15⟩) (hSv3.out _ hr3) ?rest15
      case hy15 => (intro W2 hSw; (try dsimp only at hSw); go_simp; try with_reducible rfl)
      try simp only [Act.put, List.setIfInBounds_toArray, List.set_cons_zero, List.set_cons_succ, List.getElem_toArray, List.getElem_cons_succ, List.getElem_cons_zero]
      refine wpAnyL_take (i := 1) (v := ?v16) rfl (by kernel_rfl) (by kernel_rfl) (by kernel_rfl) (by kernel_rfl) (by kernel_rfl) (Or.inl ⟨by kernel_rfl, ?hy16⟩) (hSv3.out _ hr3) ?rest16
      case hy16 => (intro W2 hSw; (try dsimp only at hSw); go_simp; try with_reducible rfl)
      try simp only [Act.put, List.setIfInBounds_toArray, List.set_cons_zero, List.set_cons_succ, List.getElem_toArray, List.getElem_cons_succ, List.getElem_cons_zero]
      refine wpAnyL_take (i := 2) (v := ?v17) rfl (by kernel_rfl) (by kernel_rfl) (by kernel_rfl) (by kernel_rfl) (by kernel_rfl) (Or.inl ⟨by kernel_rfl, ?hy17⟩) (hSv3.out _ hr3) ?rest17
      case hy17 => (intro W2 hSw; (try dsimp only at hSw); go_simp; try with_reducible rfl)
      try simp only [Act.put, List.setIfInBounds_toArray, List.set_cons_zero, List.set_cons_succ, List.getElem_toArray, List.getElem_cons_succ, List.getElem_cons_zero]
      refine wpAnyL_take (i := 3) (v := ?v18) rfl (by kernel_rfl) (by kernel_rfl) (by kernel_rfl) (by kernel_rfl) (by kernel_rfl) (Or.inl ⟨by kernel_rfl, ?hy18⟩) (hSv3.out _ hr3) ?rest18
      case hy18 => (intro W2 hSw; (try dsimp only at hSw); go_simp; try with_reducible rfl)
      try simp only [Act.put, List.setIfInBounds_toArray, List.set_cons_zero, List.set_cons_succ, List.getElem_toArray, List.getElem_cons_succ, List.getElem_cons_zero]
      refine wpAnyL_take (i := 4) (v := ?v19) rfl (by kernel_rfl) (by kernel_rfl) (by kernel_rfl) (by kernel_rfl) (by kernel_rfl) (Or.inl ⟨by kernel_rfl, ?hy19⟩) (hSv3.out _ hr3) ?rest19
      case hy19 => (intro W2 hSw; (try dsimp only at hSw); go_simp; try with_reducible rfl)
      try simp only [Act.put, List.setIfInBounds_toArray, List.set_cons_zero, List.set_cons_succ, List.getElem_toArray, List.getElem_cons_succ, List.getElem_cons_zero]
      refine wpAnyL_take (i := 5) (v := ?v20) rfl (by kernel_rfl) (by kernel_rfl) (by kernel_rfl) (by kernel_rfl) (by kernel_rfl) (Or.inl ⟨by kernel_rfl, ?hy20⟩) (hSv3.out _ hr3) ?rest20
      case hy20 => (intro W2 hSw; (try dsimp only at hSw); go_simp; try with_reducible rfl)
      try simp only [Act.put, List.setIfInBounds_toArray, List.set_cons_zero, List.set_cons_succ, List.getElem_toArray, List.getElem_cons_succ, List.getElem_cons_zero]
      refine wpAnyL_allN ([] : List (Nat × Nat)) [(6, 33), (7, 26), (10, 5)] (fun i => match i with | 7 => [8, 9] | _ => []) [(6, 33), (7, 26), (8, 34), (9, 35), (10, 5)] (callW wr.heap.size (T1 1) 1 0 6 7 8 1000 9 10 1001) 2 (by kernel_rfl) (fun _ _ _ _ _ hb h => callW_stays (fun _ _ _ => T1.stays) hb h) (fun wx h => hSv3.out _ (hr3.trans (h.mono hr3.size))) ?hop3 ?hfin3
      case hop3 =>
        intro p hp
        simp only [List.mem_cons, List.not_mem_nil, or_false] at hp
        simp only [List.map_cons, List.map_nil, putsR, Act.put, List.setIfInBounds_toArray, List.set_cons_zero, List.set_cons_succ]
        rcases hp with rfl | rfl | rfl
        · intro ν wx hb hP
          have hbx := hr3.trans (hb.mono hr3.size)
          refine wpOp_shut (i := 6) rfl (fun K hK => ?_)
          go_simp
          refine (gcd11 nb nB B B2 m d m2 d2 wx (hWd.below hbx) (hDen.below hbx)).mono ?_
          rintro e w5 ⟨hb5, na5, A5, k5, c5, rfl, hf5⟩
          exact hK.out _ _ ⟨_, rfl, (by simp only [callW]; exact ⟨_, _, _, _, rfl, hf5⟩), hb5, trivial, fun h => by simp at h⟩
        · intro ν wx hb hP
          have h0 := hP (6, 33) (by simp) (by kernel_rfl)
          simp only [callW] at h0
          obtain ⟨na5, A5, k5, c5, hν, hf5⟩ := h0
          rw [hν]
          refine wpOp_shut (i := 7) rfl (fun K hK => ?_)
          go_simp
          refine hK.out _ _ ⟨_, rfl, (by simp only [callW]; exact ⟨_, _, _, _, rfl, hf5⟩), Below.refl _ _, ?_, fun h => by simp at h⟩
          exact ⟨_, .agg #[.bool na5, .slice A5 k5 c5], rfl, Or.inl ⟨by kernel_rfl, fun W2 _ => by go_simp⟩, (by simp only [callW]; exact ⟨_, _, _, _, rfl, hf5⟩), ⟨_, .int .i64 0, rfl, Or.inl ⟨by kernel_rfl, fun W2 _ => by go_simp⟩, by simp [callW], trivial⟩⟩
        · intro ν wx hb hP
          refine wpOp_shut (i := 10) rfl (fun K hK => ?_)
          go_simp
          exact hK.out _ _ ⟨_, rfl, (by simp only [callW]; exact ⟨_, rfl, hb.size, Blk.new _ _ _⟩), (Below.refl _ _).alloc (Nat.le_refl _) _, trivial, (fun h => by simp at h)⟩
      case hfin3 =>
        intro ν wx hb hP hNE
        have h0 := hP (6, 33) (by simp)
        have h1 := hP (7, 26) (by simp)
        have h3 := hP (9, 35) (by simp)
        have hx0 := hP (8, 34) (by simp)
        have ha0 := hP (10, 5) (by simp)
        simp only [callW] at h0 h1 hx0 ha0
        obtain ⟨a0, a1, a2, a3, h0, -⟩ := h0
        obtain ⟨e0, e1, e2, e3, h1, -⟩ := h1
        obtain ⟨g0n, g0A, g0k, g0c, hx0, g0f⟩ := hx0
        obtain ⟨gg0, ha0, kv0, qv0⟩ := ha0
        simp only [List.map_cons, List.map_nil, putsR, Act.put, List.setIfInBounds_toArray, List.set_cons_zero, List.set_cons_succ]
        rw [h0, h1, hx0, (show ν 35 = Value.int .i64 0 by simpa [callW] using h3), ha0]
        clear h0 h1 h3 hx0 ha0 hP ν hNE
        have hbx := hr3.trans (hb.mono hr3.size)
        obtain ⟨f00, f10, f20, f30⟩ := qv0.two
        obtain ⟨Zg0, hZ0, hbZg0, qZ0, kZ0⟩ := set_num g0n g0A g0k g0c hbx kv0 qv0
        refine wpAnyL_one (i := 11) rfl (by kernel_rfl) (fun K hK => ?_)
        go_simp
        (try rw [hZ0])
        refine hK.out _ _ (fun _ => hSv3.out _ hbZg0) ?_
        clear hK K hZ0 f00 f10 f20 f30
        try simp only [Act.put, List.setIfInBounds_toArray, List.set_cons_zero, List.set_cons_succ]
        refine wpAnyL_pure (i := 12) (v := ?v21) rfl (by kernel_rfl) (by kernel_rfl) (by kernel_rfl) (by kernel_rfl) (Or.inl ⟨by kernel_rfl, ?hy21⟩) (fun _ => (hSv3.out _ hbZg0)) ?rest21
        case hy21 => (intro W2 _; go_simp; try with_reducible rfl)
        try simp only [Act.put, List.setIfInBounds_toArray, List.set_cons_zero, List.set_cons_succ, List.getElem_toArray, List.getElem_cons_succ, List.getElem_cons_zero]
        refine wpAnyL_done (by kernel_rfl) ?_ _
        refine OnlyNormal.normal ?_
        have g0b := hide qZ0
        replace g0f := hide (kZ0.1 _ _ _ _ _ g0f)
        clear kZ0 qZ0 hbx hb hr3 hSv3 hxs3
        have x0' := keep_cell hbZg0 x0
        have x1' := keep_cell hbZg0 x1
        have p2' := keep_cell hbZg0 p2
        have p3' := keep_cell hbZg0 p3
        have qd6 := hide (keep_blk hbZg0 qd)
        have hWd6 := hide (hWd.below hbZg0)
        have hDen6 := hide (hDen.below hbZg0)
        have hB6 := hide (hB.trans (hbZg0.mono hB.size))
        obtain ⟨v0, v1, -, -⟩ := g0b.out.two
        clear x0 x1 p2 p3 y0 y1 qd hWd hDen hB hbZg0 kv0
        go_wp2_with fail
        have hSv4 : Hid (∀ wx, Below Zg0.heap.size Zg0 wx → wx.cell? ⟨gg0, 0, none⟩ = some (.bool g0n) ∧ wx.cell? ⟨gg0, 1, none⟩ = some (.slice g0A g0k g0c) ∧ wx.cell? ⟨b, o + i * 4 + 2, none⟩ = some (.bool nB) ∧ wx.cell? ⟨b, o + i * 4 + 3, none⟩ = some (.slice B2 m2 d2)) := hide (fun wx hbx => ⟨keep_cell hbx v0, keep_cell hbx v1, keep_cell hbx p2', keep_cell hbx p3'⟩)
        have hr4 : Below Zg0.heap.size Zg0 Zg0.drew := below_dn (Below.refl _ _) 1
        refine wp_held [] (fun wx => wx.cell? ⟨gg0, 0, none⟩ = some (.bool g0n) ∧ wx.cell? ⟨gg0, 1, none⟩ = some (.slice g0A g0k g0c) ∧ wx.cell? ⟨b, o + i * 4 + 2, none⟩ = some (.bool nB) ∧ wx.cell? ⟨b, o + i * 4 + 3, none⟩ = some (.slice B2 m2 d2)) hmx (hSv4.out _ hr4) (fun hxs4 => ?_)
        refine wpAnyL_take (i := 0) (v := ?v22) rfl (by kernel_rfl) (by kernel_rfl) (by kernel_rfl) (by kernel_rfl) (by kernel_rfl) (Or.inl ⟨by kernel_rfl, ?hy22⟩) (hSv4.out _ hr4) ?rest22
        case hy22 => (intro W2 hSw; (try dsimp only at hSw); go_simp; try with_reducible rfl)
        try simp only [Act.put, List.setIfInBounds_toArray, List.set_cons_zero, List.set_cons_succ, List.getElem_toArray, List.getElem_cons_succ, List.getElem_cons_zero]
        refine wpAnyL_take (i := 1) (v := ?v23) rfl (by kernel_rfl) (by kernel_rfl) (by kernel_rfl) (by kernel_rfl) (by kernel_rfl) (Or.inl ⟨by kernel_rfl, ?hy23⟩) (hSv4.out _ hr4) ?rest23
        case hy23 => (intro W2 hSw; (try dsimp only at hSw); go_simp; try with_reducible rfl)
        try simp only [Act.put, List.setIfInBounds_toArray, List.set_cons_zero, List.set_cons_succ, List.getElem_toArray, List.getElem_cons_succ, List.getElem_cons_zero]
        refine wpAnyL_take (i := 2) (v := ?v24) rfl (by kernel_rfl) (by kernel_rfl) (by kernel_rfl) (by kernel_rfl) (by kernel_rfl) (Or.inl ⟨by kernel_rfl, ?hy24⟩) (hSv4.out _ hr4) ?rest24
        case hy24 => (intro W2 hSw; (try dsimp only at hSw); go_simp; try with_reducible rfl)
        try simp only [Act.put, List.setIfInBounds_toArray, List.set_cons_zero, List.set_cons_succ, List.getElem_toArray, List.getElem_cons_succ, List.getElem_cons_zero]
        refine wpAnyL_take (i := 3) (v := ?v25) rfl (by kernel_rfl) (by kernel_rfl) (by kernel_rfl) (by kernel_rfl) (by kernel_rfl) (Or.inl ⟨by kernel_rfl, ?hy25⟩) (hSv4.out _ hr4) ?rest25
        case hy25 => (intro W2 hSw; (try dsimp only at hSw); go_simp; try with_reducible rfl)
        try simp only [Act.put, List.setIfInBounds_toArray, List.set_cons_zero, List.set_cons_succ, List.getElem_toArray, List.getElem_cons_succ, List.getElem_cons_zero]
        refine wpAnyL_take (i := 4) (v := ?v26) rfl (by kernel_rfl) (by kernel_rfl) (by kernel_rfl) (by kernel_rfl) (by kernel_rfl) (Or.inl ⟨by kernel_rfl, ?hy26⟩) (hSv4.out _ hr4) ?rest26
        case hy26 => (intro W2 hSw; (try dsimp only at hSw); go_simp; try with_reducible rfl)
        try simp only [Act.put, List.setIfInBounds_toArray, List.set_cons_zero, List.set_cons_succ, List.getElem_toArray, List.getElem_cons_succ, List.getElem_cons_zero]
        refine wpAnyL_take (i := 5) (v := ?v27) rfl (by kernel_rfl) (by kernel_rfl) (by kernel_rfl) (by kernel_rfl) (by kernel_rfl) (Or.inl ⟨by kernel_rfl, ?hy27⟩) (hSv4.out _ hr4) ?rest27
        case hy27 => (intro W2 hSw; (try dsimp only at hSw); go_simp; try with_reducible rfl)
        try simp only [Act.put, List.setIfInBounds_toArray, List.set_cons_zero, List.set_cons_succ, List.getElem_toArray, List.getElem_cons_succ, List.getElem_cons_zero]
        refine wpAnyL_allN [(11, 7), (12, 8)] [(6, 43), (7, 36), (11, 7), (12, 8)] (fun i => match i with | 7 => [8, 9, 10] | _ => []) [(6, 43), (7, 36), (8, 44), (9, 45), (10, 46), (11, 7), (12, 8)] (callW Zg0.heap.size (T2 1 0) 1 0 6 7 8 9 10 11 12) 3 (by kernel_rfl) (fun _ _ _ _ _ hb h => callW_stays (fun _ _ _ => T2.stays) hb h) (fun wx h => hSv4.out _ (hr4.trans (h.mono hr4.size))) ?hop4 ?hfin4
        case hop4 =>
          intro p hp
          simp only [List.mem_cons, List.not_mem_nil, or_false] at hp
          simp only [List.map_cons, List.map_nil, putsR, Act.put, List.setIfInBounds_toArray, List.set_cons_zero, List.set_cons_succ]
          rcases hp with rfl | rfl | rfl | rfl
          · intro ν wx hb hP
            have hbx := hr4.trans (hb.mono hr4.size)
            refine wpOp_shut (i := 6) rfl (fun K hK => ?_)
            go_simp
            refine (div11 nB g0n B2 g0A m2 d2 g0k g0c wx (hDen6.out.below hbx) (g0f.below hbx)).mono ?_
            rintro e w5 ⟨hb5, na5, A5, k5, c5, nb5, B5, m5, d5, rfl, hf5, hg5⟩
            exact hK.out _ _ ⟨_, rfl, (by simp only [callW]; exact ⟨_, _, _, _, _, _, _, _, rfl, hf5, hg5⟩), hb5, trivial, fun h => by simp at h⟩
          · intro ν wx hb hP
            have h0 := hP (6, 43) (by simp) (by kernel_rfl)
            simp only [callW] at h0
            obtain ⟨na5, A5, k5, c5, nb5, B5, m5, d5, hν, hf5, hg5⟩ := h0
            rw [hν]
            refine wpOp_shut (i := 7) rfl (fun K hK => ?_)
            go_simp
            refine hK.out _ _ ⟨_, rfl, (by simp only [callW]; exact ⟨_, _, _, _, _, _, _, _, rfl, hf5, hg5⟩), Below.refl _ _, ?_, fun h => by simp at h⟩
            exact ⟨_, .agg #[.bool na5, .slice A5 k5 c5], rfl, Or.inl ⟨by kernel_rfl, fun W2 _ => by go_simp⟩, (by simp only [callW]; exact ⟨_, _, _, _, rfl, hf5⟩), ⟨_, .agg #[.bool nb5, .slice B5 m5 d5], rfl, Or.inl ⟨by kernel_rfl, fun W2 _ => by go_simp⟩, (by simp only [callW]; exact ⟨_, _, _, _, rfl, hg5⟩), ⟨_, .int .i64 0, rfl, Or.inl ⟨by kernel_rfl, fun W2 _ => by go_simp⟩, by simp [callW], trivial⟩⟩⟩
          · intro ν wx hb hP
            refine wpOp_shut (i := 11) rfl (fun K hK => ?_)
            go_simp
            exact hK.out _ _ ⟨_, rfl, (by simp only [callW]; exact ⟨_, rfl, hb.size, Blk.new _ _ _⟩), (Below.refl _ _).alloc (Nat.le_refl _) _, trivial, (fun _ q hq u hu => by
              simp only [List.mem_cons, List.not_mem_nil, or_false] at hq
              rcases hq with rfl | rfl <;> (simp only [callW] at hu; exact NewW.ne hu))⟩
          · intro ν wx hb hP
            refine wpOp_shut (i := 12) rfl (fun K hK => ?_)
            go_simp
            exact hK.out _ _ ⟨_, rfl, (by simp only [callW]; exact ⟨_, rfl, hb.size, Blk.new _ _ _⟩), (Below.refl _ _).alloc (Nat.le_refl _) _, trivial, (fun _ q hq u hu => by
              simp only [List.mem_cons, List.not_mem_nil, or_false] at hq
              rcases hq with rfl | rfl <;> (simp only [callW] at hu; exact NewW.ne hu))⟩
        case hfin4 =>
          intro ν wx hb hP hNE
          have h0 := hP (6, 43) (by simp)
          have h1 := hP (7, 36) (by simp)
          have h3 := hP (10, 46) (by simp)
          have hx0 := hP (8, 44) (by simp)
          have hx1 := hP (9, 45) (by simp)
          have ha0 := hP (11, 7) (by simp)
          have ha1 := hP (12, 8) (by simp)
          simp only [callW] at h0 h1 hx0 ha0 hx1 ha1
          obtain ⟨a0, a1, a2, a3, a4, a5, a6, a7, h0, -, -⟩ := h0
          obtain ⟨e0, e1, e2, e3, e4, e5, e6, e7, h1, -, -⟩ := h1
          obtain ⟨q0n, q0A, q0k, q0c, hx0, q0f⟩ := hx0
          obtain ⟨gq0, ha0, kv0, qv0⟩ := ha0
          obtain ⟨q1n, q1A, q1k, q1c, hx1, q1f⟩ := hx1
          obtain ⟨gq1, ha1, kv1, qv1⟩ := ha1
          have hgne : gq0 ≠ gq1 := fun h => by
            refine hNE (11, 7) (by simp) (12, 8) (by simp) (by simp) ?_
            rw [ha0, ha1, h]
          simp only [List.map_cons, List.map_nil, putsR, Act.put, List.setIfInBounds_toArray, List.set_cons_zero, List.set_cons_succ]
          rw [h0, h1, hx0, hx1, (show ν 46 = Value.int .i64 0 by simpa [callW] using h3), ha0, ha1]
          clear h0 h1 h3 hx0 ha0 hx1 ha1 hP ν hNE
          have hbx := hr4.trans (hb.mono hr4.size)
          obtain ⟨f00, f10, f20, f30⟩ := qv0.two
          obtain ⟨Zq0, hZ0, hbZq0, qZ0, kZ0⟩ := set_num q0n q0A q0k q0c hbx kv0 qv0
          replace qv1 := kZ0.2.1 _ _ _ hgne.symm qv1
          refine wpAnyL_one (i := 13) rfl (by kernel_rfl) (fun K hK => ?_)
          go_simp
          (try rw [hZ0])
          refine hK.out _ _ (fun _ => hSv4.out _ hbZq0) ?_
          clear hK K hZ0 f00 f10 f20 f30
          try simp only [Act.put, List.setIfInBounds_toArray, List.set_cons_zero, List.set_cons_succ]
          obtain ⟨f01, f11, f21, f31⟩ := qv1.two
          obtain ⟨Zq1, hZ1, hbZq1, qZ1, kZ1⟩ := set_num q1n q1A q1k q1c hbZq0 kv1 qv1
          refine wpAnyL_one (i := 14) rfl (by kernel_rfl) (fun K hK => ?_)
          go_simp
          (try rw [hZ1])
          refine hK.out _ _ (fun _ => hSv4.out _ hbZq1) ?_
          clear hK K hZ1 f01 f11 f21 f31
          try simp only [Act.put, List.setIfInBounds_toArray, List.set_cons_zero, List.set_cons_succ]
          refine wpAnyL_pure (i := 15) (v := ?v28) rfl (by kernel_rfl) (by kernel_rfl) (by kernel_rfl) (by kernel_rfl) (Or.inl ⟨by kernel_rfl, ?hy28⟩) (fun _ => (hSv4.out _ hbZq1)) ?rest28
          case hy28 => (intro W2 _; go_simp; try with_reducible rfl)
          try simp only [Act.put, List.setIfInBounds_toArray, List.set_cons_zero, List.set_cons_succ, List.getElem_toArray, List.getElem_cons_succ, List.getElem_cons_zero]
          refine wpAnyL_done (by kernel_rfl) ?_ _
          refine OnlyNormal.normal ?_
          have q0b := hide (kZ1.2.1 _ _ _ hgne qZ0)
          have q1b := hide qZ1
          replace q0f := hide (kZ1.1 _ _ _ _ _ (kZ0.1 _ _ _ _ _ q0f))
          clear kZ0 kZ1 qZ0 qZ1 kv0 kv1 hbx hb hr4 hSv4 hxs4 hbZq0
          have qd7 := keep_blk hbZq1 qd6.out
          obtain ⟨x0, x1, y0, y1⟩ := qd7.two
          obtain ⟨u0, u1, -, -⟩ := q0b.out.two
          have hWd7 := hide (hWd6.out.below hbZq1)
          have hB7 := hide (hB6.out.trans (hbZq1.mono hB6.out.size))
          replace qd7 := hide qd7
          clear x0' x1' p2' p3' qd6 hWd6 hDen6 hB6 hbZq1 v0 v1 g0b g0f q1b q1f
          go_wp2_with fail
          refine (mul_lit nb q0n B q0A m d q0k q0c 1 1 1 rfl (by decide) Zq1 hWd7.out q0f).mono ?_
          rintro e w7 ⟨hb7, n7, A7, k7, c7, rfl, hW7⟩
          have qd8 := keep_blk hb7 qd7.out
          obtain ⟨y0', y1', z0, z1⟩ := qd8.two
          obtain ⟨X8, hX8, hB8, q8, k8⟩ := set_num n7 A7 k7 c7 (hB7.out.trans (hb7.mono hB7.out.size)) hg1.out qd8
          have hW8 := hide (k8.1 _ _ _ _ _ hW7)
          replace q8 := hide q8
          replace hB8 := hide hB8
          clear hb7 qd8 hB7 hW7 k8 u0 u1 q0b q0f qd7 hWd7 x0 x1 y0 y1
          go_wp2_with fail
          (try rw [hX8])
          go_roundg (n - (i + 1))
          case measure => omega
          case rel => exact ⟨i + 1, n7, A7, k7, c7, by omega, by go_num, q8.out, hW8.out, hB8.out⟩
end Go.Proofs.YtljocgdhdilglaaGreat

namespace Go.Proofs.YtljocgdhdilglaaGreat
open Go.RowKit
attribute [local go_sem] add_lit

set_option maxRecDepth 100000 in
set_option maxHeartbeats 1000000 in
theorem Free_nil (A : Option Addr) (c : Nat) (w : World) (h : WL w A 0 c []) :
    Calls Tryz.prog 12 #[.slice A 0 c] w fun e w' => e = .returned (.tuple #[.slice none 0 0, .int .i64 0]) ∧ Below w.heap.size w w' := by
  have t0 : ((0 : Int) == 0) = true := rfl
  go_enter Tryz.func12, Tryz.ntmps12
  go_wp2_with fail
  refine (pCheck_any _ _ _ _ _ h).mono ?_
  rintro e w1 ⟨rfl, hb⟩
  rw [show errOf (pOk []) = 0 from rfl]
  go_wp2_with fail
  go_ret2
  exact ⟨rfl, hb⟩
theorem der_sign {p : List Int} (h : Top p) : (derP p).length = 0 ∨ signP (derP p) ≠ 0 := by
  rcases end_top (der_end h) with h | h
  · exact .inl (by rw [h]; rfl)
  · exact .inr h.sign
/-- The reference's Over of a polynomial and a primitive divisor: nothing is left. -/
theorem Over_pl {A B : Option Addr} {n c m d : Nat} {p q : List Int} {w : World} (hp : PolyL w A n c p) (hq : PolyL w B m d q) (tp : Top p) (tq : Prim q) (bp : BP 5 4 p) (bq : BP 5 7 q) (hd : Dvd (evalQ q) (evalQ p)) :
    Calls Tryz.prog 17 #[.slice A n c, .slice B m d] w fun e w' => Below w.heap.size w w' ∧ ∃ O no ko B' d', e = .returned (.tuple #[.slice O no ko, .slice B' 0 d']) := by
  have hl := hd.deg_le tq.top.deg tp.deg tp.nz
  have h1 := hp.len
  have h2 := hq.len
  have h3 := bp.1
  have h4 := tq.2.1
  subst h1 h2
  exact sOver_zero clear_zero A B _ c _ d p q w hp hq tq.top tq.2.2 hl (by omega)
    (okOv_bnd tq.top tq.2.2 bq.bnd _ _ 4 1 (by simp [rl]; omega) (smV_rl bp.bnd) (ovB_small _ (by omega)))
    (fun t => (smV_rl bq.bnd t).sm (by omega) (by omega)) (ovK_zero tq.top hd (by omega))
theorem sCheck_pl {A : Option Addr} {n c : Nat} {xs : List Int} {w : World} (h : PolyL w A n c xs) (k : okP xs = true) (e : endOkP xs = true) :
    Calls Tryz.prog 13 #[.slice A n c] w fun e w' => e = .returned (.int .i64 0) ∧ Below w.heap.size w w' := by
  obtain ⟨es, g1, rfl, g3⟩ := pl_ok h k e
  have := sCheck_any A n c es w g1
  rw [g3] at this
  exact this
theorem cmpZ_zero {a b : Int} (h : a = 0 ↔ b = 0) : (cmpZ a 0 == 0) = (cmpZ b 0 == 0) := by
  unfold cmpZ
  by_cases ha : a = 0
  · rw [ha, h.1 ha]
  · have hb : b ≠ 0 := fun hb => ha (h.2 hb)
    have e : ∀ x : Int, x ≠ 0 → ((if x < 0 then (-1 : Int) else if 0 < x then 1 else 0) == 0) = false := fun x hx => by
      rcases Int.lt_or_gt_of_ne hx with h | h
      · rw [if_pos h]; rfl
      · rw [if_neg (by omega), if_pos h]; rfl
    rw [e a ha, e b hb]
theorem above_zero {r : Rat} {p : List Int} : aboveS r.num (r.den : Nat) p = 0 ↔ evalQ p r = 0 := by
  have hd : (0 : Int) < (r.den : Nat) := by have := r.den_pos; omega
  have h := above_make (num := r.num) hd p
  have e : Rat.divInt r.num (r.den : Nat) = r := Rat.num_divInt_den r
  rw [e] at h
  have hp : (0 : Int) < ((r.den : Nat) : Int) ^ (p.length - 1) := Int.pow_pos hd
  rw [← h]
  constructor
  · intro h0; rw [h0]; simp
  · intro h0
    rw [Rat.divInt_eq_div] at h0
    generalize ((r.den : Nat) : Int) ^ (p.length - 1) = b at *
    generalize aboveS r.num (r.den : Nat) p = a at *
    have hb : (b : Rat) ≠ 0 := fun h => by
      have : b = 0 := by exact_mod_cast h
      omega
    have : (a : Rat) = 0 := by grind
    exact_mod_cast this
end Go.Proofs.YtljocgdhdilglaaGreat

namespace Go.Proofs.YtljocgdhdilglaaGreat

theorem okB_pq (l : Nat) (h : l ≤ 5) : okB 1 (l + 1) 5 4 l 4 = true := by
  rcases (show l = 0 ∨ l = 1 ∨ l = 2 ∨ l = 3 ∨ l = 4 ∨ l = 5 by omega) with rfl | rfl | rfl | rfl | rfl | rfl <;> decide +kernel
theorem okB_ab1 (l : Nat) (h : l ≤ 5) : okB 1 (l + 1) 5 9 l 9 = true := by
  rcases (show l = 0 ∨ l = 1 ∨ l = 2 ∨ l = 3 ∨ l = 4 ∨ l = 5 by omega) with rfl | rfl | rfl | rfl | rfl | rfl <;> decide +kernel
theorem okB_ab2 (l : Nat) (h : l ≤ 6) : okB 2 (l + 1) 6 9 l 9 = true := by
  rcases (show l = 0 ∨ l = 1 ∨ l = 2 ∨ l = 3 ∨ l = 4 ∨ l = 5 ∨ l = 6 by omega) with rfl | rfl | rfl | rfl | rfl | rfl | rfl <;> decide +kernel
theorem okB_ab3 (l : Nat) (h : l ≤ 7) : okB 3 (l + 1) 7 9 l 9 = true := by
  rcases (show l = 0 ∨ l = 1 ∨ l = 2 ∨ l = 3 ∨ l = 4 ∨ l = 5 ∨ l = 6 ∨ l = 7 by omega) with rfl | rfl | rfl | rfl | rfl | rfl | rfl | rfl <;> decide +kernel
/-- All numbers stay small where the common divisor of two small ones is sought. -/
theorem okCom_pq {p q : List Int} (ep : endOkP p = true) (eq : endOkP q = true) (bp : BP 5 4 p) (bq : BP 5 4 q) : okCom ((partP q).length + 1) (partP p) (partP q) = true := by
  refine okCom_bnd one_top _ _ _ 5 4 4 ?_ (by rw [part_length]; exact bp.1) bp.bnd.part bq.bnd.part (part_primE ep) (part_primE eq) (one_dvd _) (one_dvd _)
  exact okB_pq _ (by rw [part_length]; exact bq.1)
/-- The product as it is made. -/
def prodP (p r : List Int) : List Int := trimP (mulP p r)
theorem prod_end (p r : List Int) : endOkP (prodP p r) = true := endOkP_trim _
theorem prod_eval (p r : List Int) (x : Rat) : evalQ (prodP p r) x = evalQ p x * evalQ r x := by unfold prodP; rw [evalQ_trim, evalQ_mul]
theorem prod_len (p r : List Int) : (prodP p r).length ≤ p.length + r.length - 1 := Nat.le_trans (trimP_short _) (by simp [mulP])
theorem part_dvd_prod {p r : List Int} (hr : Top r) : Dvd (evalQ (partP r)) (evalQ (prodP p r)) :=
  ⟨fun x => (signP r : Int) * evalQ p x, (pol_eval p).smul _, fun x => by rw [prod_eval, eval_part r]; grind⟩
/-- All numbers stay small where the common divisor of two products is sought. -/
theorem okCom_ab {p q r : List Int} (tr : Top r) (bp : BP 5 4 p) (bq : BP 5 4 q) (br : BP 3 4 r) : okCom ((partP (prodP q r)).length + 1) (partP (prodP p r)) (partP (prodP q r)) = true := by
  have hr0 := tr.1
  have hr3 := br.1
  have ba : Bnd 9 (prodP p r) := ((bp.mul br (by omega)).trim).bnd
  have bb : Bnd 9 (prodP q r) := ((bq.mul br (by omega)).trim).bnd
  have la : (prodP p r).length ≤ 4 + r.length := by have := prod_len p r; have := bp.1; omega
  have lb : (prodP q r).length ≤ 4 + r.length := by have := prod_len q r; have := bq.1; omega
  have hd : ∀ x : List Int, Dvd (evalQ (partP r)) (evalQ (partP (prodP x r))) := fun x => by
    rcases end_top (prod_end x r) with h | h
    · rw [h, part_nil]; exact Dvd.zero nil_eval
    · have hs : ((signP (prodP x r) : Int) : Rat) ≠ 0 := fun h5 => h.sign (by exact_mod_cast h5)
      exact Dvd.const hs ((part_dvd_prod tr).congr fun y => (eval_part _ y).symm)
  refine okCom_bnd tr.part.top _ _ _ (4 + r.length) 9 9 ?_ (by rw [part_length]; exact la) ba.part bb.part (part_primE (prod_end _ _)) (part_primE (prod_end _ _)) (hd p) (hd q)
  rw [part_length, part_length]
  rcases (show r.length = 1 ∨ r.length = 2 ∨ r.length = 3 by omega) with h | h | h <;> rw [h] at lb ⊢
  · exact okB_ab1 _ lb
  · exact okB_ab2 _ lb
  · exact okB_ab3 _ lb
theorem prod_top {p r : List Int} (tp : Top p) (tr : Top r) : Top (prodP p r) := by
  rcases end_top (prod_end p r) with h | h
  · exfalso
    have h1 : ∀ x, evalQ p x * evalQ r x = 0 := fun x => by rw [← prod_eval, h]; rfl
    rcases mul_zero_or (pol_eval p) (pol_eval r) h1 with h2 | h2
    · exact tp.nz h2
    · exact tr.nz h2
  · exact h
/-- The common divisor goes on with a third factor. -/
theorem com_mul {p q r : List Int} (ep : endOkP p = true) (eq : endOkP q = true) (tr : Top r) (bp : BP 5 4 p) (bq : BP 5 4 q) (br : BP 3 4 r) (hpq : Top p ∨ Top q) :
    mulP (comP p q) (partP r) = comP (prodP p r) (prodP q r) := by
  have ok1 := okCom_pq ep eq bp bq
  have ok2 := okCom_ab tr bp bq br
  obtain ⟨h1, -⟩ := comP_spec ep eq ok1
  obtain ⟨h2, -⟩ := comP_spec (prod_end p r) (prod_end q r) ok2
  have g1 : Prim (comP p q) := by
    rcases hpq with h | h
    · exact comP_prim h eq ok1
    · exact comP_prim_right ep h ok1
  have g2 : Prim (comP (prodP p r) (prodP q r)) := by
    rcases hpq with h | h
    · exact comP_prim (prod_top h tr) (prod_end q r) ok2
    · exact comP_prim_right (prod_end p r) (prod_top h tr) ok2
  have hs : ((signP r : Int) : Rat) ≠ 0 := fun h5 => tr.sign (by exact_mod_cast h5)
  have hd : ∀ x : List Int, Dvd (evalQ (comP p q)) (evalQ x) → Dvd (evalQ (mulP (comP p q) (partP r))) (evalQ (prodP x r)) := fun x hx => by
    obtain ⟨u, hu, hu2⟩ := hx
    refine ⟨fun y => (signP r : Int) * u y, hu.smul _, fun y => ?_⟩
    rw [prod_eval, evalQ_mul, hu2, eval_part r]
    grind
  refine prim_dvd_eq (prim_mul g1 tr.part) g2 (h2.greatest (hd p h1.left) (hd q h1.right)) ?_
  obtain ⟨u, v, hu, hv, hg⟩ := h1.sum
  obtain ⟨s, hs1, hs2⟩ := h2.left
  obtain ⟨t, ht1, ht2⟩ := h2.right
  refine Dvd.const hs ⟨fun y => u y * s y + v y * t y, (hu.mul hs1).add (hv.mul ht1), fun y => ?_⟩
  have k1 := hs2 y
  have k2 := ht2 y
  rw [prod_eval, eval_part r] at k1 k2
  show (signP r : Int) * evalQ (mulP (comP p q) (partP r)) y = (u y * s y + v y * t y) * evalQ (comP (prodP p r) (prodP q r)) y
  rw [evalQ_mul, hg]
  grind
end Go.Proofs.YtljocgdhdilglaaGreat

namespace Go.Proofs.YtljocgdhdilglaaGreat

theorem com_nil : comP [] [] = [] := by decide +kernel
theorem mulP_nil_right (p : List Int) : trimP (mulP p []) = [] := by
  rcases end_top (endOkP_trim (mulP p [])) with h | h
  · exact h
  · exact absurd (fun x => by rw [evalQ_trim, evalQ_mul]; show evalQ p x * 0 = 0; grind) h.nz
theorem mulP_nil_left (p : List Int) : trimP (mulP [] p) = [] := by
  rcases end_top (endOkP_trim (mulP [] p)) with h | h
  · exact h
  · exact absurd (fun x => by rw [evalQ_trim, evalQ_mul]; show 0 * evalQ p x = 0; grind) h.nz
/-- The common divisor: primitive, or both are empty. -/
theorem com_kind {p q : List Int} (ep : endOkP p = true) (eq : endOkP q = true) (bp : BP 5 4 p) (bq : BP 5 4 q) :
    (p = [] ∧ q = [] ∧ comP p q = []) ∨ ((Top p ∨ Top q) ∧ Prim (comP p q) ∧ BP 5 7 (comP p q) ∧ Dvd (evalQ (comP p q)) (evalQ p) ∧ Dvd (evalQ (comP p q)) (evalQ q)) := by
  have ok1 := okCom_pq ep eq bp bq
  obtain ⟨h1, -⟩ := comP_spec ep eq ok1
  have key : ∀ x : List Int, Top x → BP 5 4 x → Prim (comP p q) → Dvd (evalQ (comP p q)) (evalQ x) → BP 5 7 (comP p q) := fun x tx bx hg hd =>
    ⟨Nat.le_trans (hd.deg_le hg.top.deg tx.deg tx.nz) bx.1, (factor_bp tx hg hd (bx.mono (by omega) (Nat.le_refl _))).2⟩
  rcases end_top ep with rfl | tp
  · rcases end_top eq with rfl | tq
    · exact .inl ⟨rfl, rfl, com_nil⟩
    · have hg := comP_prim_right ep tq ok1
      exact .inr ⟨.inr tq, hg, key q tq bq hg h1.right, h1.left, h1.right⟩
  · have hg := comP_prim tp eq ok1
    exact .inr ⟨.inl tp, hg, key p tp bp hg h1.left, h1.left, h1.right⟩
/-- The divisor of the products, in all cases. -/
theorem com_prod {p q r : List Int} (ep : endOkP p = true) (eq : endOkP q = true) (er : endOkP r = true) (bp : BP 5 4 p) (bq : BP 5 4 q) (br : BP 3 4 r) :
    okCom ((partP (prodP q r)).length + 1) (partP (prodP p r)) (partP (prodP q r)) = true ∧ trimP (comP (prodP p r) (prodP q r)) = trimP (mulP (comP p q) (partP r)) := by
  rcases end_top er with rfl | tr
  · have e : ∀ x : List Int, prodP x [] = [] := mulP_nil_right
    rw [e, e, part_nil, mulP_nil_right, com_nil]
    exact ⟨by decide +kernel, rfl⟩
  · refine ⟨okCom_ab tr bp bq br, ?_⟩
    rcases com_kind ep eq bp bq with ⟨rfl, rfl, h⟩ | ⟨h, -⟩
    · have e : prodP [] r = [] := mulP_nil_left r
      rw [e, h, mulP_nil_left]; rfl
    · rw [com_mul ep eq tr bp bq br h]
end Go.Proofs.YtljocgdhdilglaaGreat

namespace Go.Proofs.YtljocgdhdilglaaGreat
open Go.RowKit
attribute [local go_sem] add_lit

set_option maxRecDepth 100000 in
set_option maxHeartbeats 1000000 in
theorem Over_nil {A B : Option Addr} {c m d : Nat} {q : List Int} {w : World} (hp : PolyL w A 0 c []) (hq : PolyL w B m d q) (hm : 0 < m) (hm2 : m ≤ 100) :
    Calls Tryz.prog 17 #[.slice A 0 c, .slice B m d] w fun e w' => Below w.heap.size w w' ∧ ∃ O no ko B' d', e = .returned (.tuple #[.slice O no ko, .slice B' 0 d']) := by
  obtain ⟨iw, hi, hz0, hz1, hz2⟩ := info_parts infoFr
  have hmx : Tryz.prog.follows .mixedOrders = true := by kernel_rfl
  have hql := hide hq.len
  have hrlq : Hid ((rl q).length = m) := hide (by simp [rl]; exact hql.out)
  replace hp := hide hp
  replace hq := hide hq
  go_enter Tryz.func17, Tryz.ntmps17
  go_wp2_with fail
  refine (fractions_ok A 0 c [] w hp.out (by omega)).mono ?_
  rintro e w1 ⟨hb1, v1, rfl, hv1⟩
  obtain ⟨A1, c1, rfl, hv2⟩ := hv1.fl
  rw [show (rl []).length = 0 from rfl] at hv2 ⊢
  rw [show rl ([] : List Int) = List.replicate 0 (0 : Rat) from rfl] at hv2
  clear hv1
  go_wp2_with fail
  refine (fractions_ok B m d q w1 (hq.out.below hb1) (by omega)).mono ?_
  rintro e w2 ⟨hb2, v2, rfl, hv3⟩
  obtain ⟨A2, c2, rfl, hv4⟩ := hv3.fl
  rw [hrlq.out]
  clear hv3 hv4
  have hB2 := hb1.trans (hb2.mono hb1.size)
  have hmk := makeF (P := Tryz.prog) 39 27 Tryz.underlying39 hi hz0 hz1 hz2 (0 : Int) 0 rfl (by omega)
  have hw1 : IntKind.i64.wrap ((0 : Int) - (m : Int)) = - (m : Int) := by rw [IntKind.wrap_i64]; omega
  have hw2 : IntKind.i64.wrap (- (m : Int) + 1) = 1 - (m : Int) := by rw [IntKind.wrap_i64]; omega
  have hmx1 : max 0 (1 - (m : Int)) = 0 := by omega
  have hF := (hv2.below hb2)
  obtain ⟨X, hX, hXB, -, -, -, sX⟩ := new_obj 27 (cellsFA []) (Below.refl w2.heap.size w2) (Nat.le_refl _)
  have hFX := hide (hF.below hXB)
  have hBX := hB2.trans (hXB.mono hB2.size)
  have tge : decide ((0 : Int) ≤ - (m : Int)) = false := by simp; omega
  go_wp2_with fail
  go_loopg [6, 9] 0 (fun k rv nv wr => rv = .slice A1 0 c1 ∧ nv = .int .i64 (- (m : Int)) ∧ wr = X)
  case atStart => exact ⟨rfl, rfl, rfl⟩
  case round =>
    obtain ⟨rfl, rfl, rfl⟩ := hrel
    go_wp2_with fail
    refine (clear_zero A1 0 c1 wr hFX.out (by decide)).mono ?_
    rintro e w9 ⟨hb9, B9, d9, rfl⟩
    have hB9 := hBX.trans (hb9.mono hBX.size)
    go_wp2_with fail
    go_returns
    exact ⟨hB9, _, _, _, _, _, rfl⟩
end Go.Proofs.YtljocgdhdilglaaGreat

namespace Go.Proofs.YtljocgdhdilglaaGreat
open Go.RowKit
attribute [local go_sem] add_lit

set_option maxRecDepth 100000 in
set_option maxHeartbeats 8000000 in
theorem law_divides (A B R : Option Addr) (n c m d k j : Nat) (es fs gs : List WE) (w : World) (hp : WL w A n c es) (hq : WL w B m d fs) (hr : WL w R k j gs) :
    Calls Tryz.prog 4 #[.slice A n c, .slice B m d, .slice R k j] w fun e w' => e = .returned (.bool true) ∧ Below w.heap.size w w' := by
  have hB := Below.refl w.heap.size w
  replace hp := hide hp
  replace hq := hide hq
  replace hr := hide hr
  go_enter Tryz.func4, Tryz.ntmps4
  go_wp2_with fail
  refine (alive4_ok divide_ok w).mono ?_
  rintro e w1 ⟨rfl, hb⟩
  replace hB := hB.trans (hb.mono hB.size)
  replace hp := hide (hp.out.below hb)
  replace hq := hide (hq.out.below hb)
  replace hr := hide (hr.out.below hb)
  clear hb
  go_wp2_with fail
  refine (small_any A n c es w1 hp.out (smallE es) rfl).mono ?_
  rintro e w2 ⟨rfl, hb⟩
  replace hB := hB.trans (hb.mono hB.size)
  replace hp := hide (hp.out.below hb)
  replace hq := hide (hq.out.below hb)
  replace hr := hide (hr.out.below hb)
  clear hb
  cases hshp : smallE es
  case false => (go_wp2_with fail; go_ret; exact ⟨rfl, hB⟩)
  replace hshp := hide hshp
  go_wp2_with fail
  refine (small_any B m d fs w2 hq.out (smallE fs) rfl).mono ?_
  rintro e w3 ⟨rfl, hb⟩
  replace hB := hB.trans (hb.mono hB.size)
  replace hp := hide (hp.out.below hb)
  replace hq := hide (hq.out.below hb)
  replace hr := hide (hr.out.below hb)
  clear hb
  cases hshq : smallE fs
  case false => (go_wp2_with fail; go_ret; exact ⟨rfl, hB⟩)
  replace hshq := hide hshq
  go_wp2_with fail
  refine (small_any R k j gs w3 hr.out (smallE gs) rfl).mono ?_
  rintro e w4 ⟨rfl, hb⟩
  replace hB := hB.trans (hb.mono hB.size)
  replace hp := hide (hp.out.below hb)
  replace hq := hide (hq.out.below hb)
  replace hr := hide (hr.out.below hb)
  clear hb
  cases hshr : smallE gs
  case false => (go_wp2_with fail; go_ret; exact ⟨rfl, hB⟩)
  replace hshr := hide hshr
  by_cases h3 : 3 < k
  case pos =>
    have t3 : decide ((3 : Int) < (k : Int)) = true := by simp; omega
    have t3' : decide (3 < k) = true := by simpa using h3
    go_wp2_with fail; go_ret; exact ⟨rfl, hB⟩
  have t3 : decide ((3 : Int) < (k : Int)) = false := by simp; omega
  have t3' : decide (3 < k) = false := by simpa using h3
  obtain ⟨P, hP⟩ : ∃ P, es.map WE.num = P := ⟨_, rfl⟩
  obtain ⟨Q, hQ⟩ : ∃ Q, fs.map WE.num = Q := ⟨_, rfl⟩
  obtain ⟨S, hS⟩ : ∃ S, gs.map WE.num = S := ⟨_, rfl⟩
  obtain ⟨pp, pe, pb⟩ := small_law hp.out hshp.out
  obtain ⟨qp, qe, qb⟩ := small_law hq.out hshq.out
  obtain ⟨rp, re, rb⟩ := small_law hr.out hshr.out
  rw [hP] at pp pe pb
  rw [hQ] at qp qe qb
  rw [hS] at rp re rb
  replace rb : BP 3 4 S := ⟨by rw [rp.len]; omega, rb.2⟩
  clear hp hq hr hshp hshq hshr hP hQ hS
  have hkind := hide (com_kind pe qe pb qb)
  obtain ⟨ok2, hZ⟩ := com_prod pe qe re pb qb rb
  have ok1 := hide (okCom_pq pe qe pb qb)
  replace ok2 := hide ok2
  have bG : BP 5 7 (comP P Q) := by
    rcases hkind.out with ⟨-, -, h⟩ | ⟨-, -, h, -⟩
    · rw [h]; exact ⟨by simp, fun i => by simp; exact pw_pos _⟩
    · exact h
  have eG : endOkP (comP P Q) = true := by
    rcases hkind.out with ⟨-, -, h⟩ | ⟨-, h, -⟩
    · rw [h]; rfl
    · exact top_end h.top
  have eR : endOkP (partP S) = true := by
    rcases end_top re with h | h
    · rw [h]; rfl
    · exact top_end h.part.top
  have bR : BP 3 4 (partP S) := ⟨by rw [part_length]; exact rb.1, rb.bnd.part⟩
  have bM : BP 7 12 (trimP (mulP (comP P Q) (partP S))) := (bG.mul bR (by omega)).trim
  obtain ⟨G, hG⟩ : ∃ G, comP P Q = G := ⟨_, rfl⟩
  rw [hG] at hkind bG eG bM hZ
  replace hG := hide hG
  replace hZ := hide hZ
  replace pp := hide pp
  replace qp := hide qp
  replace rp := hide rp
  have kP := hide (pb.okP (by omega) (by omega))
  have kQ := hide (qb.okP (by omega) (by omega))
  have kS := hide (rb.okP (by omega) (by omega))
  have ba : BP 7 9 (prodP P S) := (pb.mul rb (by omega)).trim
  have bb : BP 7 9 (prodP Q S) := (qb.mul rb (by omega)).trim
  have ka := hide (ba.okP (by omega) (by omega))
  have kb := hide (bb.okP (by omega) (by omega))
  have kG := hide (bG.okP (by omega) (by omega))
  have kM := hide (bM.okP (by omega) (by omega))
  have kR := hide (bR.okP (by omega) (by omega))
  go_wp2_with fail
  refine (Gcd_pl A B n c m d P Q w4 G pp.out qp.out kP.out pe kQ.out qe ok1.out (by rw [hG.out]; exact trimP_end eG) kG.out).mono ?_
  rintro e w5 ⟨hb, gpA, gpn, gpc, rfl, gp⟩
  replace hB := hB.trans (hb.mono hB.size)
  replace pp := hide (pp.out.below hb)
  replace qp := hide (qp.out.below hb)
  replace rp := hide (rp.out.below hb)
  clear hb
  replace gp := hide gp
  go_wp2_with fail
  refine (Mul_pl A R n c k j P S w5 pp.out rp.out pe re pb rb (by omega) (by omega) (by omega) (by omega)).mono ?_
  rintro e w6 ⟨hb, apA, apn, apc, rfl, ap⟩
  replace hB := hB.trans (hb.mono hB.size)
  replace pp := hide (pp.out.below hb)
  replace qp := hide (qp.out.below hb)
  replace rp := hide (rp.out.below hb)
  replace gp := hide (gp.out.below hb)
  clear hb
  replace ap := hide ap
  go_wp2_with fail
  refine (Mul_pl B R m d k j Q S w6 qp.out rp.out qe re qb rb (by omega) (by omega) (by omega) (by omega)).mono ?_
  rintro e w7 ⟨hb, bpA, bpn, bpc, rfl, bp⟩
  replace hB := hB.trans (hb.mono hB.size)
  replace pp := hide (pp.out.below hb)
  replace qp := hide (qp.out.below hb)
  replace rp := hide (rp.out.below hb)
  replace gp := hide (gp.out.below hb)
  replace ap := hide (ap.out.below hb)
  clear hb
  replace bp := hide bp
  go_wp2_with fail
  refine (Gcd_pl apA bpA apn apc bpn bpc (prodP P S) (prodP Q S) w7 (trimP (mulP G (partP S))) ap.out bp.out ka.out (prod_end _ _) kb.out (prod_end _ _) ok2.out hZ.out kM.out).mono ?_
  rintro e w8 ⟨hb, cpA, cpn, cpc, rfl, cp⟩
  replace hB := hB.trans (hb.mono hB.size)
  replace pp := hide (pp.out.below hb)
  replace qp := hide (qp.out.below hb)
  replace rp := hide (rp.out.below hb)
  replace gp := hide (gp.out.below hb)
  replace ap := hide (ap.out.below hb)
  replace bp := hide (bp.out.below hb)
  clear hb
  replace cp := hide cp
  go_wp2_with fail
  refine (Primitive_pl R k j S w8 (partP S) rp.out kS.out re (trimP_end eR) kR.out).mono ?_
  rintro e w9 ⟨hb, dpA, dpn, dpc, rfl, dp⟩
  replace hB := hB.trans (hb.mono hB.size)
  replace pp := hide (pp.out.below hb)
  replace qp := hide (qp.out.below hb)
  replace rp := hide (rp.out.below hb)
  replace gp := hide (gp.out.below hb)
  replace ap := hide (ap.out.below hb)
  replace bp := hide (bp.out.below hb)
  replace cp := hide (cp.out.below hb)
  clear hb
  replace dp := hide dp
  go_wp2_with fail
  refine (sCheck_pl gp.out kG.out eG).mono ?_
  rintro e w10 ⟨rfl, hb⟩
  replace hB := hB.trans (hb.mono hB.size)
  replace pp := hide (pp.out.below hb)
  replace qp := hide (qp.out.below hb)
  replace rp := hide (rp.out.below hb)
  replace gp := hide (gp.out.below hb)
  replace ap := hide (ap.out.below hb)
  replace bp := hide (bp.out.below hb)
  replace cp := hide (cp.out.below hb)
  replace dp := hide (dp.out.below hb)
  clear hb
  go_wp2_with fail
  refine (Mul_pl gpA dpA gpn gpc dpn dpc G (partP S) w10 gp.out dp.out eG eR bG bR (by omega) (by omega) (by omega) (by omega)).mono ?_
  rintro e w11 ⟨hb, mpA, mpn, mpc, rfl, mp⟩
  replace hB := hB.trans (hb.mono hB.size)
  replace pp := hide (pp.out.below hb)
  replace qp := hide (qp.out.below hb)
  replace rp := hide (rp.out.below hb)
  replace gp := hide (gp.out.below hb)
  replace ap := hide (ap.out.below hb)
  replace bp := hide (bp.out.below hb)
  replace cp := hide (cp.out.below hb)
  replace dp := hide (dp.out.below hb)
  clear hb
  replace mp := hide mp
  go_wp2_with fail
  refine (sSame_any _ _ _ _ _ _ (trimP (mulP G (partP S))) w11 mp.out cp.out).mono ?_
  rintro e w12 ⟨rfl, hb⟩
  replace hB := hB.trans (hb.mono hB.size)
  replace pp := hide (pp.out.below hb)
  replace qp := hide (qp.out.below hb)
  replace rp := hide (rp.out.below hb)
  replace gp := hide (gp.out.below hb)
  replace ap := hide (ap.out.below hb)
  replace bp := hide (bp.out.below hb)
  replace cp := hide (cp.out.below hb)
  replace dp := hide (dp.out.below hb)
  replace mp := hide (mp.out.below hb)
  clear hb
  rcases hkind.out with ⟨rfl, rfl, rfl⟩ | ⟨-, pG, -, d1, d2⟩
  case inl =>
    obtain rfl : n = 0 := pp.out.len.symm
    obtain rfl : m = 0 := qp.out.len.symm
    obtain rfl : gpn = 0 := gp.out.len.symm
    go_wp2_with fail
    go_ret
    exact ⟨rfl, hB⟩
  obtain rfl := gp.out.len
  have hGn : 0 < G.length := pG.2.1
  have hG5 : G.length ≤ 5 := bG.1
  have t1 : ((G.length : Int) == 0) = false := beq_false_of_ne (by omega)
  have t4 : decide (G.length = 0) = false := decide_eq_false (by omega)
  have t5 : decide ((G.length : Int) = 0) = false := decide_eq_false (by omega)
  have t7 : (G.length == 0) = false := beq_false_of_ne (by omega)
  have HO : Hid (∀ (A : Option Addr) (n c : Nat) (x : List Int) (W : World), PolyL W A n c x → PolyL W gpA G.length gpc G → endOkP x = true → BP 5 4 x → Dvd (evalQ G) (evalQ x) →
      Calls Tryz.prog 17 #[.slice A n c, .slice gpA G.length gpc] W fun e w' => Below W.heap.size W w' ∧ ∃ O no ko B' d', e = .returned (.tuple #[.slice O no ko, .slice B' 0 d'])) := hide (fun A n c x W h1 h2 h3 h4 h5 => by
    rcases end_top h3 with rfl | tx
    · obtain rfl : n = 0 := h1.len.symm
      exact Over_nil h1 h2 hGn (by omega)
    · exact Over_pl h1 h2 tx pG h4 bG h5)
  replace d1 := hide d1
  replace d2 := hide d2
  go_wp2_with fail
  refine (HO.out A n c P w12 pp.out gp.out pe pb d1.out).mono ?_
  rintro e w13 ⟨hb, o1, o2, o3, o4, o5, rfl⟩
  replace hB := hB.trans (hb.mono hB.size)
  replace pp := hide (pp.out.below hb)
  replace qp := hide (qp.out.below hb)
  replace rp := hide (rp.out.below hb)
  replace gp := hide (gp.out.below hb)
  replace ap := hide (ap.out.below hb)
  replace bp := hide (bp.out.below hb)
  replace cp := hide (cp.out.below hb)
  replace dp := hide (dp.out.below hb)
  replace mp := hide (mp.out.below hb)
  clear hb
  go_wp2_with fail
  refine (HO.out B m d Q w13 qp.out gp.out qe qb d2.out).mono ?_
  rintro e w14 ⟨hb, u1, u2, u3, u4, u5, rfl⟩
  replace hB := hB.trans (hb.mono hB.size)
  replace pp := hide (pp.out.below hb)
  replace qp := hide (qp.out.below hb)
  replace rp := hide (rp.out.below hb)
  replace gp := hide (gp.out.below hb)
  replace ap := hide (ap.out.below hb)
  replace bp := hide (bp.out.below hb)
  replace cp := hide (cp.out.below hb)
  replace dp := hide (dp.out.below hb)
  replace mp := hide (mp.out.below hb)
  clear hb
  go_wp2_with fail
  go_ret
  exact ⟨rfl, hB⟩
end Go.Proofs.YtljocgdhdilglaaGreat

namespace Go.Proofs.YtljocgdhdilglaaGreat
open Go.ChangeShapes Go.WideShapes Go.ChangeAt Go.RowKit

theorem own_knob : ownKnob Tryz.prog.godebug = none := by kernel_rfl
theorem laid_out : laidOutB Tryz.prog = true := by kernel_rfl

set_option maxRecDepth 100000 in
theorem divides_lifted (os : Os) (started : os.Started) (H : Type) (enc : TypeId × Value → H) :
    ReturnsInHanded {} Tryz.checked os 4 .any (Rows.polyDividesSpec.pre6 enc Tryz.prog Tryz.f4 Rows.polyDividesRow.domain false) (Rows.polyDividesSpec.post enc Tryz.prog Tryz.f4 false true false false) := by
  refine returnsInHanded_of_change (C := Tryz.checked) own_knob started (by kernel_rfl) Tryz.func4
    (ChangeSpec.witness6 (enc := enc) (C := Tryz.checked) false ⟨#[], #[.slice none 0 0, .slice none 0 0, .slice none 0 0], []⟩ 8 (by kernel_rfl) (by kernel_rfl) (by kernel_rfl) (by kernel_rfl)) ?_
  intro W base args ds gs before hval0 hW hcnd _
  have hval : ∀ (j : Nat) t v, Tryz.f4.params[j]? = some t → args[j]? = some v → Value.okWide Tryz.prog W .any base t v := hval0
  have hW' := hW
  obtain ⟨p, q, hA0, hV, rfl, hfz, hnd⟩ := hW
  have hA : DataW.TrodAll enc Tryz.prog W 0 (fun _ => true) true Tryz.f4.params.toList args.toList ds p := hA0
  rw [Tryz.params4] at hA hval
  obtain ⟨v0, v1, v2, d0, d1, d2, p0, p1, p2, rfl, rfl, hpp, z0, z1, z2⟩ := trodAll_three hA
  replace hpp : p = p0 ++ (p1 ++ (p2)) := by rw [hpp]; simp
  subst hpp
  obtain ⟨rfl, rfl⟩ := trodVars_none hV
  obtain ⟨A0, n0, c0, es0, rfl, hL0⟩ := open_wides (hval 0 22 v0 rfl rfl) z0
  obtain ⟨A1, n1, c1, es1, rfl, hL1⟩ := open_wides (hval 1 22 v1 rfl rfl) z1
  obtain ⟨A2, n2, c2, es2, rfl, hL2⟩ := open_wides (hval 2 22 v2 rfl rfl) z2
  clear hA0 hval0
  simp only [List.append_nil] at hW'
  have hlt : ∀ x ∈ p0 ++ (p1 ++ (p2)), x.block < W.heap.size := fun x hx => hW'.lt x hx
  refine (law_divides _ _ _ _ _ _ _ _ _ _ _ _ W hL0 hL1 hL2).mono fun e W' ⟨he, hw⟩ => ?_
  subst he
  exact ⟨_, rfl, post_of_below (pa := p0 ++ (p1 ++ (p2))) (pv := []) hW' (fun _ _ _ => trodAll_mk1 (shut_bool Tryz.underlying4 true))
    (fun sp hsp => trodAll_mk3 (WideElems.Trod_stays laid_out (by kernel_rfl) (of_decide_eq_true (by kernel_rfl)) z0 (fun x hx => hw.same (hlt x (List.mem_append_left _ hx))) (fun x hx => hsp x (List.mem_append_left _ hx))) (WideElems.Trod_stays laid_out (by kernel_rfl) (of_decide_eq_true (by kernel_rfl)) z1 (fun x hx => hw.same (hlt x (List.mem_append_right _ (List.mem_append_left _ hx)))) (fun x hx => hsp x (List.mem_append_right _ (List.mem_append_left _ hx)))) (WideElems.Trod_stays laid_out (by kernel_rfl) (of_decide_eq_true (by kernel_rfl)) z2 (fun x hx => hw.same (hlt x (List.mem_append_right _ (List.mem_append_right _ hx)))) (fun x hx => hsp x (List.mem_append_right _ (List.mem_append_right _ hx)))))
    (fun _ _ => rfl) (List.append_nil _).symm hw (ok_one (by kernel_rfl) rfl (okWide_bool_mk Tryz.underlying4 true))⟩

theorem divides_holds : Rows.PolyDividesSaid :=
  OpenClaim.holds_of_wide 4 Tryz.f4 rfl rfl rfl rfl rfl rfl rfl ⟨rfl, rfl, rfl, rfl, rfl⟩ rfl rfl rfl rfl rfl (by kernel_rfl) Tryz.func4 (by kernel_rfl)
    (of_decide_eq_true (by kernel_rfl)) (by unfold Func.isWrapper; first | (rw [if_pos (by decide +kernel)]; kernel_rfl) | (rw [if_neg (by decide +kernel)]; exact ⟨rfl, rfl⟩))
    (fun os started H enc _ => divides_lifted os started H enc)

#print axioms divides_holds
end Go.Proofs.YtljocgdhdilglaaGreat
