/- Package frac: Cmp of small fractions. Package linear: Posdef. -/
import Derived.Test.YtigdclhagmnopaaGreatZa21
import Derived.Test.YtigdclhagmnopaaGreatZa24
import Derived.Test.YtigdclhagmnopaaGreatZk39
import Derived.Test.YtigdclhagmnopaaGreatZk45
set_option linter.unusedSimpArgs false
set_option linter.unusedVariables false

namespace Go.Proofs.YtigdclhagmnopaaGreat
open Go.RowKit
attribute [local go_sem] add_lit

set_option maxRecDepth 100000 in
set_option maxHeartbeats 2000000 in
theorem fCmp_ok (na nb na' nb' : Bool) (A B A' B' : Option Addr) (n c m d n' c' m' d' : Nat) (a b : Rat) (w : World) (ha : Fr w na A n c nb B m d a) (hb : Fr w na' A' n' c' nb' B' m' d' b) (sa : Sm a) (sb : Sm b) :
    Calls Tryz.prog 55 #[.agg #[.bool na, .slice A n c, .bool nb, .slice B m d], .agg #[.bool na', .slice A' n' c', .bool nb', .slice B' m' d']] w fun e w' => e = .returned (.tuple #[.int .i64 (cmpQ a b), .int .i64 0]) ∧ Below w.heap.size w w' := by
 rw [← cmpZ_rat]
 obtain ⟨R, hR⟩ : ∃ R, cmpZ (a.num * b.den) (b.num * a.den) = R := ⟨_, rfl⟩
 rw [hR]
 replace hR := hide hR
 have hmx : Tryz.prog.follows .mixedOrders = true := by kernel_rfl
 have h1 := hide (sm_mul' sa.1 sb.dn)
 have h2 := hide (sm_mul' sb.1 sa.dn)
 obtain ⟨W0, hW0, hB0, ⟨q0, q1, q2⟩, s0⟩ := alloc3 w 45 #[.bool na, .slice A n c, .bool nb, .slice B m d] 45 #[.bool na', .slice A' n' c', .bool nb', .slice B' m' d'] 24 #[.int .i64 0]
 have hA := hide (ha.below hB0)
 have hD := hide (hb.below hB0)
 clear ha hb sa sb
 obtain ⟨a0, a1, a2, a3, -⟩ := q0.four
 have hq := hide (And.intro q0 (And.intro q1 q2))
 clear q0 q1 q2
 go_enter_defers Tryz.func55, Tryz.ntmps55
 go_wp2_with fail
 refine (fCheck_ok na nb A B n c m d a W0 hA.out).mono ?_
 rintro e w1 ⟨rfl, hb1⟩
 have hB1 : Below w.heap.size w w1 := hB0.trans (hb1.mono hB0.size)
 have s1 : W0.heap.size ≤ w1.heap.size := hb1.size
 replace hA := hide (hA.out.below hb1)
 replace hD := hide (hD.out.below hb1)
 obtain ⟨q0, q1, q2⟩ := hq.out
 replace q0 := keep_blk hb1 q0
 replace q1 := keep_blk hb1 q1
 replace q2 := keep_blk hb1 q2
 clear hW0 hq hb1 hB0 a0 a1 a2 a3
 obtain ⟨b0, b1, b2, b3, -⟩ := q1.four
 have hq := hide (And.intro q0 (And.intro q1 q2))
 clear q0 q1 q2
 go_wp2_with fail
 refine (want_ok w1).mono ?_
 rintro e w1 ⟨rfl, rfl⟩
 go_wp2_with fail
 refine (fCheck_ok na' nb' A' B' n' c' m' d' b w1 hD.out).mono ?_
 rintro e w2 ⟨rfl, hb2⟩
 have hB := hide (hB1.trans (hb2.mono hB1.size))
 have sz := hide hB.out.size
 have s2 : w1.heap.size ≤ w2.heap.size := hb2.size
 replace hA := hide (hA.out.below hb2)
 replace hD := hide (hD.out.below hb2)
 obtain ⟨q0, q1, q2⟩ := hq.out
 replace q0 := hide (keep_blk hb2 q0)
 replace q1 := hide (keep_blk hb2 q1)
 replace q2 := hide (keep_blk hb2 q2)
 clear hq hb2 hB1 b0 b1 b2 b3
 go_wp2_with fail
 refine (want_ok w2).mono ?_
 rintro e w2 ⟨rfl, rfl⟩
 obtain ⟨a0, a1, a2, a3, -⟩ := q0.out.four
 obtain ⟨b0, b1, b2, b3, -⟩ := q1.out.four
 go_wp2_with fail
 refine wp_held [10] (fun W' => W'.cell? ⟨w.heap.size, 0, none⟩ = some (.bool na) ∧ W'.cell? ⟨w.heap.size, 1, none⟩ = some (.slice A n c) ∧ W'.cell? ⟨w.heap.size, 2, none⟩ = some (.bool nb) ∧ W'.cell? ⟨w.heap.size, 3, none⟩ = some (.slice B m d) ∧ W'.cell? ⟨w.heap.size + 1, 0, none⟩ = some (.bool na') ∧ W'.cell? ⟨w.heap.size + 1, 1, none⟩ = some (.slice A' n' c') ∧ W'.cell? ⟨w.heap.size + 1, 2, none⟩ = some (.bool nb') ∧ W'.cell? ⟨w.heap.size + 1, 3, none⟩ = some (.slice B' m' d')) hmx ⟨a0, a1, a2, a3, b0, b1, b2, b3⟩ (fun _ => ?_)
 refine wpAnyL_take (i := 0) (v := ?v1) rfl (by kernel_rfl) (by kernel_rfl) (by kernel_rfl) (by kernel_rfl) (by kernel_rfl) (Or.inl ⟨by rfl, ?hy1⟩) ⟨a0, a1, a2, a3, b0, b1, b2, b3⟩ ?rest1
 case hy1 => (intro W2 hSw; (try dsimp only at hSw); go_simp; try with_reducible rfl)
 try simp only [Act.put, List.setIfInBounds_toArray, List.set_cons_zero, List.set_cons_succ]
 refine wpAnyL_take (i := 1) (v := ?v2) rfl (by kernel_rfl) (by kernel_rfl) (by kernel_rfl) (by kernel_rfl) (by kernel_rfl) (Or.inl ⟨by rfl, ?hy2⟩) ⟨a0, a1, a2, a3, b0, b1, b2, b3⟩ ?rest2
 case hy2 => (intro W2 hSw; (try dsimp only at hSw); go_simp; try with_reducible rfl)
 try simp only [Act.put, List.setIfInBounds_toArray, List.set_cons_zero, List.set_cons_succ]
 refine wpAnyL_take (i := 3) (v := ?v3) rfl (by kernel_rfl) (by kernel_rfl) (by kernel_rfl) (by kernel_rfl) (by kernel_rfl) (Or.inl ⟨by rfl, ?hy3⟩) ⟨a0, a1, a2, a3, b0, b1, b2, b3⟩ ?rest3
 case hy3 => (intro W2 hSw; (try dsimp only at hSw); go_simp; try with_reducible rfl)
 try simp only [Act.put, List.setIfInBounds_toArray, List.set_cons_zero, List.set_cons_succ]
 refine wpAnyL_take (i := 4) (v := ?v4) rfl (by kernel_rfl) (by kernel_rfl) (by kernel_rfl) (by kernel_rfl) (by kernel_rfl) (Or.inl ⟨by rfl, ?hy4⟩) ⟨a0, a1, a2, a3, b0, b1, b2, b3⟩ ?rest4
 case hy4 => (intro W2 hSw; (try dsimp only at hSw); go_simp; try with_reducible rfl)
 try simp only [Act.put, List.setIfInBounds_toArray, List.set_cons_zero, List.set_cons_succ]
 refine wpAnyL_one (i := 2) rfl (by kernel_rfl) (fun K hK => ?_)
 go_simp
 refine (cross_ok na nb na' nb' A B A' B' n c m d n' c' m' d' a b w2.drew hA.out hD.out h1.out).mono ?_
 rintro e w3 ⟨hb3, nu, U, k1, u, rfl, hU⟩
 replace hb3 := below_drewL hb3
 replace hU := hide hU
 replace q0 := hide (keep_blk hb3 q0.out)
 replace q1 := hide (keep_blk hb3 q1.out)
 replace q2 := hide (keep_blk hb3 q2.out)
 replace hA := hide (hA.out.below hb3)
 replace hD := hide (hD.out.below hb3)
 replace hB := hide (hB.out.trans (hb3.mono sz.out))
 replace sz := hide (Nat.le_trans sz.out hb3.size)
 clear a0 a1 a2 a3 b0 b1 b2 b3
 obtain ⟨a0, a1, a2, a3, -⟩ := q0.out.four
 obtain ⟨b0, b1, b2, b3, -⟩ := q1.out.four
 clear hb3
 refine hK.out _ _ (fun _ => ⟨a0, a1, a2, a3, b0, b1, b2, b3⟩) ?_
 clear hK K
 try simp only [Act.put, List.setIfInBounds_toArray, List.set_cons_zero, List.set_cons_succ]
 refine wpAnyL_one (i := 5) rfl (by kernel_rfl) (fun K hK => ?_)
 go_simp
 refine (cross_ok na' nb' na nb A' B' A B n' c' m' d' n c m d b a w3 hD.out hA.out h2.out).mono ?_
 rintro e w4 ⟨hb4, nv, V, k2, v, rfl, hV⟩
 replace hU := hide (hU.out.below hb4)
 replace hV := hide hV
 replace q0 := hide (keep_blk hb4 q0.out)
 replace q1 := hide (keep_blk hb4 q1.out)
 replace q2 := hide (keep_blk hb4 q2.out)
 replace hA := hide (hA.out.below hb4)
 replace hD := hide (hD.out.below hb4)
 replace hB := hide (hB.out.trans (hb4.mono sz.out))
 replace sz := hide (Nat.le_trans sz.out hb4.size)
 clear a0 a1 a2 a3 b0 b1 b2 b3
 obtain ⟨a0, a1, a2, a3, -⟩ := q0.out.four
 obtain ⟨b0, b1, b2, b3, -⟩ := q1.out.four
 clear hb4
 refine hK.out _ _ (fun _ => ⟨a0, a1, a2, a3, b0, b1, b2, b3⟩) ?_
 clear hK K
 try simp only [Act.put, List.setIfInBounds_toArray, List.set_cons_zero, List.set_cons_succ]
 refine wpAnyL_one (i := 6) rfl (by kernel_rfl) (fun K hK => ?_)
 go_simp
 refine (Cmp_ok nu nv U V k1 u k2 v _ _ w4 hU.out hV.out).mono ?_
 rw [hR.out]
 rintro e w5 ⟨rfl, hb5⟩
 replace q0 := hide (keep_blk hb5 q0.out)
 replace q1 := hide (keep_blk hb5 q1.out)
 replace q2 := hide (keep_blk hb5 q2.out)
 replace hA := hide (hA.out.below hb5)
 replace hD := hide (hD.out.below hb5)
 replace hB := hide (hB.out.trans (hb5.mono sz.out))
 replace sz := hide (Nat.le_trans sz.out hb5.size)
 clear a0 a1 a2 a3 b0 b1 b2 b3
 obtain ⟨a0, a1, a2, a3, -⟩ := q0.out.four
 obtain ⟨b0, b1, b2, b3, -⟩ := q1.out.four
 clear hb5
 have x0 := q2.out.cell 0
 have f0 := q2.out.frozen 0
 simp at x0
 refine hK.out _ _ (fun _ => ⟨a0, a1, a2, a3, b0, b1, b2, b3⟩) ?_
 clear hK K
 try simp only [Act.put, List.setIfInBounds_toArray, List.set_cons_zero, List.set_cons_succ]
 refine wpAnyL_take (i := 7) (v := ?v5) rfl (by kernel_rfl) (by kernel_rfl) (by kernel_rfl) (by kernel_rfl) (by kernel_rfl) (Or.inl ⟨by rfl, ?hy5⟩) ⟨a0, a1, a2, a3, b0, b1, b2, b3⟩ ?rest5
 case hy5 => (intro W2 hSw; (try dsimp only at hSw); go_simp; try with_reducible rfl)
 try simp only [Act.put, List.setIfInBounds_toArray, List.set_cons_zero, List.set_cons_succ]
 refine wpAnyL_take (i := 8) (v := ?v6) rfl (by kernel_rfl) (by kernel_rfl) (by kernel_rfl) (by kernel_rfl) (by kernel_rfl) (Or.inl ⟨by rfl, ?hy6⟩) ⟨a0, a1, a2, a3, b0, b1, b2, b3⟩ ?rest6
 case hy6 => (intro W2 hSw; (try dsimp only at hSw); go_simp; try with_reducible rfl)
 try simp only [Act.put, List.setIfInBounds_toArray, List.set_cons_zero, List.set_cons_succ]
 refine wpAnyL_take (i := 9) (v := ?v7) rfl (by kernel_rfl) (by kernel_rfl) (by kernel_rfl) (by kernel_rfl) (by kernel_rfl) (Or.inl ⟨by rfl, ?hy7⟩) ⟨a0, a1, a2, a3, b0, b1, b2, b3⟩ ?rest7
 case hy7 => (intro W2 hSw; (try dsimp only at hSw); go_simp; try with_reducible rfl)
 try simp only [Act.put, List.setIfInBounds_toArray, List.set_cons_zero, List.set_cons_succ]
 refine wpAnyL_late (i := 10) rfl (by kernel_rfl) (by kernel_rfl) (fun K hK => ?_)
 go_simp
 obtain ⟨W6, hW6, hB6, q2', kW, kB, s6⟩ := set_code 0 hB.out (by omega) q2.out
 rw [hW6]
 refine hK.out _ _ ?_
 clear hK K
 try simp only [Act.put, List.setIfInBounds_toArray, List.set_cons_zero, List.set_cons_succ]
 refine wpAnyL_done (by kernel_rfl) ?_ _
 refine OnlyNormal.normal ?_
 have r4 := q2'.cell 0
 simp at r4
 go_wp2_with fail
 refine leaves_cons (f := 102) (args := #[.pointer (some ⟨w.heap.size + 1 + 1, 0, none⟩)]) (by simp) (by simp [go_sem]) ?_
 refine (catch_idle _ _).mono ?_
 rintro e u' w'' ⟨rfl, rfl, rfl⟩
 refine ⟨.tuple #[.int .i64 R, .int .i64 0], by simp [results, Tryz.results55, go_sem, r4], rfl, hB6⟩
end Go.Proofs.YtigdclhagmnopaaGreat

namespace Go.Proofs.YtigdclhagmnopaaGreat
open Go.RowKit
attribute [local go_sem] add_lit

/-- A square matrix of which the determinant stays small on the way. -/
def GoodD (Q : List (List Rat)) (n : Nat) : Prop := okZ (pw 200) n n 0 0 (wholeZ Q) 1 ∧ FineM Q n n ∧ (∀ k, k ≤ n → byZ Q k < pw 4096) ∧ (lastZ Q).natAbs < pw 4096 ∧ Rat.divInt (lastZ Q) (byZ Q n) = detR Q
theorem cmpQ_eq0 {a b : Rat} : cmpQ a b = 0 ↔ a = b := by
 unfold cmpQ
 by_cases h : a = b
 · simp [h]
 · constructor
   · intro h1
     exfalso
     split at h1
     · exact absurd h1 (by decide)
     · split at h1
       · exact absurd h1 (by decide)
       · rename_i h2 h3
         exact h (Rat.le_antisymm (Rat.not_lt.1 h3) (Rat.not_lt.1 h2))
   · intro h1; exact absurd h1 h

set_option maxRecDepth 100000 in
set_option maxHeartbeats 1000000 in
theorem lPosdef_bad (A : Option Addr) (n c : Nat) (rs : List RX) (w : World) (h : MXL w A n c rs) (E : Int) (hE : sqE rs = E) (h0 : E ≠ 0) :
    Calls Tryz.prog 13 #[.slice A n c] w fun e w' => e = .returned (.tuple #[.bool false, .int .i64 E]) ∧ Below w.heap.size w w' := by
 have t1 : (E == 0) = false := by simpa using h0
 have t1' : decide (E = 0) = false := by simpa using h0
 replace h0 := hide h0
 go_enter Tryz.func13, Tryz.ntmps13
 go_wp2_with fail
 refine (lsquare_any A n c rs w h E hE).mono ?_
 rintro e w1 ⟨rfl, hb1⟩
 go_wp2_with fail
 go_returns
 exact ⟨rfl, hb1⟩

set_option maxRecDepth 100000 in
set_option maxHeartbeats 8000000 in
theorem lPosdef_good (A : Option Addr) (n c : Nat) (rs : List RX) (w : World) (h : MXL w A n c rs) (hE : sqE rs = 0) (h5 : n ≤ 900) (hok : ∀ j, j < n → GoodD (subM (qM rs) (j + 1)) (j + 1)) (hsm : ∀ i j, Sm (entR (qM rs) i j)) :
    Calls Tryz.prog 13 #[.slice A n c] w fun e w' => e = .returned (.tuple #[.bool (pdB (qM rs)), .int .i64 0]) ∧ Below w.heap.size w w' := by
 obtain ⟨iS, ki, kz0, kz1, kz2⟩ := info_parts infoRow
 have hmx : Tryz.prog.follows .mixedOrders = true := by kernel_rfl
 obtain ⟨hE1, hE2⟩ := sqE_facts hE
 obtain ⟨f1, f2, f3, f4, -⟩ := matE_facts hE1
 have hl := h.1
 have hn0 : 0 < n := by omega
 have hn0R : n0R rs = n := by omega
 have hQl := hide (qM_len h)
 obtain ⟨pd, hpd⟩ : ∃ b, pdB (qM rs) = b := ⟨_, rfl⟩
 rw [hpd]
 replace hpd := hide hpd
 have hrow := hide (fun (W : World) (hb : Below w.heap.size w W) (k : Nat) (hk : k < n) => (h.below hb).gat hE1 hk)
 have hpart := hide (fun (W : World) (hb : Below w.heap.size w W) (v : Value) (j : Nat) (hj : j ≤ n) (hR : RowS 40 W w.heap.size v (partS rs j j)) => part_mfl (h.below hb) hE1 hj (by omega) hR)
 obtain ⟨g0, o0, r00, hA, -, -, -, -⟩ := h.gat hE1 hn0
 subst hA
 replace h := hide h
 replace hok := hide hok
 replace hsm := hide hsm
 replace hE1 := hide hE1
 replace hn0R := hide hn0R
 clear f1 f2 f3 f4 hE2 r00
 have hcap : n ≤ c := h.out.2.1
 have hcm : c ≤ maxLen := h.out.2.2.1
 unfold maxLen at hcm
 go_enter Tryz.func13, Tryz.ntmps13
 go_wp2_with fail
 refine (lsquare_any _ n c rs w h.out 0 hE).mono ?_
 rintro e w1 ⟨rfl, hb1⟩
 replace hE := hide hE
 go_wp2_with fail
 go_loopg [21] n (fun k iv wr => ∃ i : Nat, i + k = n ∧ iv = .int .i64 i ∧ Hid (∀ a, a < i → ∀ b, b < a → entR (qM rs) a b = entR (qM rs) b a) ∧ Below w.heap.size w wr)
 case atStart => exact ⟨0, by omega, rfl, hide (fun a ha => by omega), hb1⟩
 case round =>
  obtain ⟨i, hik, rfl, hsy, hB⟩ := hrel
  cases gk with
  | zero =>
   obtain rfl : i = n := by omega
   have t1 : decide ((i : Int) < (i : Int)) = false := by simp
   go_wp2_with fail
   go_loopg [52] i (fun k iv wr => ∃ j : Nat, j + k = i ∧ iv = .int .i64 j ∧ Hid (∀ t, t < j → 0 < detR (subM (qM rs) (t + 1))) ∧ Below w.heap.size w wr)
   case atStart => exact ⟨0, by omega, rfl, hide (fun t ht => by omega), hB⟩
   case round =>
    obtain ⟨j, hjk, rfl, hdt, hB2⟩ := hrel
    cases gk with
    | zero =>
     obtain rfl : j = i := by omega
     have t2 : decide ((j : Int) < (j : Int)) = false := by simp
     have hpt : pd = true := by rw [← hpd.out]; exact pdB_ok (by rw [hQl.out]; exact hsy.out) (fun t ht => hdt.out t (by rw [hQl.out] at ht; omega))
     subst hpt
     go_wp2_with fail
     go_returns
     exact ⟨rfl, hB2⟩
    | succ gk' =>
     obtain rfl : gk' = i - (j + 1) := by omega
     have hji : j < i := by omega
     have t2 : decide ((j : Int) < (i : Int)) = true := decide_eq_true (by omega)
     have e1 : IntKind.i64.wrap ((j : Int) + 1) = ((j + 1 : Nat) : Int) := by rw [IntKind.wrap_i64]; omega
     have s1 : (0 : Int) ≤ ((j + 1 : Nat) : Int) := by omega
     have s2 : ((j + 1 : Nat) : Int) ≤ (c : Int) := by omega
     have s3 : j + 1 ≤ c := by omega
     go_wp2_with fail
     go_loopg [60, 10] (j + 1) (fun k iv pv wr => ∃ t : Nat, t + k = j + 1 ∧ iv = .int .i64 t ∧ RowS 40 wr w.heap.size pv (partS rs (j + 1) t) ∧ Below w.heap.size w wr)
     case atStart => exact ⟨0, by omega, rfl, .inl ⟨rfl, by simp [partS]⟩, hB2⟩
     case round =>
      obtain ⟨t, htk, rfl, hR, hB3⟩ := hrel
      cases gk with
      | zero =>
       obtain rfl : t = j + 1 := by omega
       have t3 : decide (((j + 1 : Nat) : Int) < ((j + 1 : Nat) : Int)) = false := by simp
       have t3' : decide ((j : Int) + 1 < (j : Int) + 1) = false := by simp
       obtain ⟨A2, c2, hpv, hMF⟩ := hpart.out wr hB3 _ (j + 1) (by omega) hR
       subst hpv
       have hrowl : Hid (∀ a, a < j + 1 → ((subM (qM rs) (j + 1))[a]?.getD []).length = j + 1) := hide (fun a ha => by
        obtain ⟨_, _, r, _, _, _, hf, hrn⟩ := hrow.out wr hB3 a (by omega)
        have := hf.len
        rw [subM_row ha (by rw [hQl.out]; omega), List.length_take, this, hrn, hn0R.out]; omega)
       clear hR
       go_wp2_with fail
       refine (ldet_ok A2 (j + 1) c2 _ wr hMF (by omega) (by omega) hrowl.out (hok.out j hji).1 (hok.out j hji).2.1 (hok.out j hji).2.2.1 (hok.out j hji).2.2.2.1).mono ?_
       rw [(hok.out j hji).2.2.2.2]
       rintro e w3 ⟨hb3, n1, A1, k1, c1, m1, B1, j1, d1, rfl, hf3⟩
       obtain ⟨gd, hgd⟩ : ∃ g, w3.heap.size = g := ⟨_, rfl⟩
       obtain ⟨V, hV, hBV, qv, kW, kB, sV⟩ := new_obj 45 #[.bool n1, .slice A1 k1 c1, .bool m1, .slice B1 j1 d1] hb3 hb3.size
       have hf4 := Fr.keep hf3 kW
       have hps := hf4.pos_iff
       have hk1 := hf4.1.2.1
       rw [hgd] at qv
       have hB4 := hide (hB3.trans (hBV.mono hB3.size))
       clear kW kB hf3 hMF hrowl hB3 hb3
       obtain ⟨y0, y1, y2, y3, -⟩ := qv.four
       by_cases hpos : 0 < detR (subM (qM rs) (j + 1))
       case neg =>
        have hpt : pd = false := by rw [← hpd.out]; exact pdB_det (j := j) (by rw [hQl.out]; omega) hpos
        subst hpt
        have hnp : ¬ (n1 = false ∧ k1 ≠ 0) := fun e => hpos (hps.1 e)
        replace hpos := hide hpos
        clear hps
        cases n1 with
        | true =>
         clear hnp
         go_wp2_with fail
         (try rw [hV])
         go_wp2_with fail
         go_returns
         exact ⟨rfl, hB4.out⟩
        | false =>
         have hk0 : k1 = 0 := Classical.byContradiction fun e => hnp ⟨rfl, e⟩
         have t4 : ((k1 : Int) == 0) = true := by simp [hk0]
         replace hk0 := hide hk0
         clear hnp
         go_wp2_with fail
         (try rw [hV])
         go_wp2_with fail
         refine (lzero_any false A1 k1 c1 V (Nat.le_trans hk1 (by decide)) true t4).mono ?_
         rintro e w6 ⟨rfl, hb6⟩
         have hB6 := hB4.out.trans (hb6.mono hB4.out.size)
         go_wp2_with fail
         go_returns
         exact ⟨rfl, hB6⟩
       obtain ⟨hn1, hk0⟩ := hps.2 hpos
       subst hn1
       have t4 : ((k1 : Int) == 0) = false := by simp; omega
       replace hk0 := hide hk0
       have hdt2 : Hid (∀ s, s < j + 1 → 0 < detR (subM (qM rs) (s + 1))) := hide (fun s hs => by
        by_cases he : s = j
        · rw [he]; exact hpos
        · exact hdt.out s (by omega))
       replace hpos := hide hpos
       clear hps
       go_wp2_with fail
       (try rw [hV])
       go_wp2_with fail
       refine (lzero_any false A1 k1 c1 V (Nat.le_trans hk1 (by decide)) false t4).mono ?_
       rintro e w6 ⟨rfl, hb6⟩
       have hB6 := hB4.out.trans (hb6.mono hB4.out.size)
       go_wp2_with fail
       go_roundg (i - (j + 1))
       case measure => omega
       case rel => exact ⟨j + 1, by omega, by go_num, hdt2, hB6⟩
      | succ gk' =>
       obtain rfl : gk' = j + 1 - (t + 1) := by omega
       have htj : t < j + 1 := by omega
       have t3 : decide ((t : Int) < ((j + 1 : Nat) : Int)) = true := decide_eq_true (by omega)
       have t3' : decide ((t : Int) < (j : Int) + 1) = true := decide_eq_true (by omega)
       have bt : (t : Int) < ((j + 1 : Nat) : Int) := by omega
       have bt' : (t : Int) < (j : Int) + 1 := by omega
       obtain ⟨g, o, r, hA, hre, k0, hF, hrn⟩ := hrow.out wr hB3 t (by omega)
       cases hA
       have hc2 := hF.cap
       rw [hrn, hn0R.out] at hc2
       rw [hrn, hn0R.out] at k0
       unfold maxLen at hc2
       have b1 : ((j + 1 : Nat) : Int) ≤ (r.c : Int) := by omega
       have b1' : (j : Int) + 1 ≤ (r.c : Int) := by omega
       have b2 : j + 1 ≤ r.c := by omega
       have hll : (partS rs (j + 1) t).length + 1 ≤ 1000 := by rw [partS_len (by omega)]; omega
       have hbA : Below wr.heap.size wr (wr.alloc (.cells #[.slice r.A (j + 1) r.c] 40)) := (Below.refl _ _).alloc (Nat.le_refl _) _
       have hown := hR.kept hbA
       have hRA := reads_row wr r.A (j + 1) r.c 40
       have hbs : w.heap.size ≤ (wr.alloc (.cells #[.slice r.A (j + 1) r.c] 40)).heap.size := Nat.le_trans hB3.size hbA.size
       have hsu := hide (partS_succ (j := j + 1) hre)
       have hB4 := hide (hB3.trans (hbA.mono hB3.size))
       clear hF hre hbA
       go_wp2_with (at_builtin; refine wpList_append_row _ rfl (.tmp 64) (.tmp 69) 22 rfl w.heap.size 40 iS Tryz.underlying22 ki kz0 kz1 kz2 _ _ rfl hown _ _ 1 1 [⟨r.A, j + 1, r.c⟩] rfl hRA rfl hll hbs ?_; intro v5 w5 hO5 hg5 hk5)
       rw [hsu.out] at hO5
       have hB5 := hB4.out.grown hg5 hbs (fun k hk => hown.row_ge k hk)
       go_roundg (j + 1 - (t + 1))
       case measure => omega
       case rel => exact ⟨t + 1, by omega, by go_num, hO5, hB5⟩
  | succ gk' =>
   obtain rfl : gk' = n - (i + 1) := by omega
   have hin : i < n := by omega
   have t1 : decide ((i : Int) < (n : Int)) = true := decide_eq_true (by omega)
   have bi : (i : Int) < (n : Int) := by omega
   go_wp2_with fail
   go_loopg [25] i (fun k iv wr => ∃ j : Nat, j + k = i ∧ iv = .int .i64 j ∧ Hid (∀ b, b < j → entR (qM rs) i b = entR (qM rs) b i) ∧ Below w.heap.size w wr)
   case atStart => exact ⟨0, by omega, rfl, hide (fun b hb => by omega), hB⟩
   case round =>
    clear hB
    obtain ⟨j, hjk, rfl, hsj, hB⟩ := hrel
    cases gk with
    | zero =>
     obtain rfl : j = i := by omega
     have t2 : decide ((j : Int) < (j : Int)) = false := by simp
     have hsy2 : Hid (∀ a, a < j + 1 → ∀ b, b < a → entR (qM rs) a b = entR (qM rs) b a) := hide (fun a ha b hb => by
      by_cases he : a = j
      · subst he; exact hsj.out b hb
      · exact hsy.out a (by omega) b hb)
     go_wp2_with fail
     go_roundg (n - (j + 1))
     case measure => omega
     case rel => exact ⟨j + 1, by omega, by go_num, hsy2, hB⟩
    | succ gk' =>
     obtain rfl : gk' = i - (j + 1) := by omega
     have hji : j < i := by omega
     have t2 : decide ((j : Int) < (i : Int)) = true := decide_eq_true (by omega)
     have bj : (j : Int) < (n : Int) := by omega
     obtain ⟨g, o, r, hA, -, k0, hF, hrn⟩ := hrow.out wr hB i hin
     cases hA
     obtain ⟨g, o, r', hA, -, k0', hF', hrn'⟩ := hrow.out wr hB j (by omega)
     cases hA
     rw [hn0R.out] at hrn hrn'
     obtain ⟨g1, o1, n1, A1, k1, c1, m1, B1, j1, d1, hA1, ⟨p0, p1, p2, p3⟩, hf1⟩ := hF.at_ (k := j) (by omega)
     obtain ⟨g2, o2, n2, A2, k2, c2, m2, B2, j2, d2, hA2, ⟨q0, q1, q2, q3⟩, hf2⟩ := hF'.at_ (k := i) (by omega)
     have hc1 := hF.cap
     have hc2 := hF'.cap
     rw [hrn] at hc1
     rw [hrn'] at hc2
     unfold maxLen at hc1 hc2
     rw [hrn, hA1] at k0
     rw [hrn', hA2] at k0'
     have hf1 : Fr wr n1 A1 k1 c1 m1 B1 j1 d1 (entR (qM rs) i j) := hf1
     have hf2 : Fr wr n2 A2 k2 c2 m2 B2 j2 d2 (entR (qM rs) j i) := hf2
     obtain ⟨rc, hrc⟩ : ∃ x, r.c = x := ⟨_, rfl⟩
     obtain ⟨rc', hrc'⟩ : ∃ x, r'.c = x := ⟨_, rfl⟩
     rw [hrc] at k0 hc1
     rw [hrc'] at k0' hc2
     obtain ⟨s, hs⟩ : ∃ s, cmpQ (entR (qM rs) i j) (entR (qM rs) j i) = s := ⟨_, rfl⟩
     have sc1 := hsm.out i j
     have sc2 := hsm.out j i
     replace hrc := hide hrc
     replace hrc' := hide hrc'
     replace hs := hide hs
     clear hF hF' hrn hrn' hA1 hA2
     go_wp2_with fail
     have hSv9 : Hid (∀ wx, Below wr.heap.size wr wx → wx.cell? ⟨g0, o0 + i, none⟩ = some (.slice (some ⟨g1, o1, none⟩) n rc) ∧ wx.cell? ⟨g1, o1 + j * 4, none⟩ = some (.bool n1) ∧ wx.cell? ⟨g1, o1 + j * 4 + 1, none⟩ = some (.slice A1 k1 c1) ∧ wx.cell? ⟨g1, o1 + j * 4 + 2, none⟩ = some (.bool m1) ∧ wx.cell? ⟨g1, o1 + j * 4 + 3, none⟩ = some (.slice B1 j1 d1) ∧ wx.cell? ⟨g0, o0 + j, none⟩ = some (.slice (some ⟨g2, o2, none⟩) n rc') ∧ wx.cell? ⟨g2, o2 + i * 4, none⟩ = some (.bool n2) ∧ wx.cell? ⟨g2, o2 + i * 4 + 1, none⟩ = some (.slice A2 k2 c2) ∧ wx.cell? ⟨g2, o2 + i * 4 + 2, none⟩ = some (.bool m2) ∧ wx.cell? ⟨g2, o2 + i * 4 + 3, none⟩ = some (.slice B2 j2 d2)) := hide (fun wx hbx => ⟨keep_cell hbx k0, keep_cell hbx p0, keep_cell hbx p1, keep_cell hbx p2, keep_cell hbx p3, keep_cell hbx k0', keep_cell hbx q0, keep_cell hbx q1, keep_cell hbx q2, keep_cell hbx q3⟩)
     have hr9 : Below wr.heap.size wr wr.drew := below_dn (Below.refl _ _) 1
     refine wp_held [] (fun wx => wx.cell? ⟨g0, o0 + i, none⟩ = some (.slice (some ⟨g1, o1, none⟩) n rc) ∧ wx.cell? ⟨g1, o1 + j * 4, none⟩ = some (.bool n1) ∧ wx.cell? ⟨g1, o1 + j * 4 + 1, none⟩ = some (.slice A1 k1 c1) ∧ wx.cell? ⟨g1, o1 + j * 4 + 2, none⟩ = some (.bool m1) ∧ wx.cell? ⟨g1, o1 + j * 4 + 3, none⟩ = some (.slice B1 j1 d1) ∧ wx.cell? ⟨g0, o0 + j, none⟩ = some (.slice (some ⟨g2, o2, none⟩) n rc') ∧ wx.cell? ⟨g2, o2 + i * 4, none⟩ = some (.bool n2) ∧ wx.cell? ⟨g2, o2 + i * 4 + 1, none⟩ = some (.slice A2 k2 c2) ∧ wx.cell? ⟨g2, o2 + i * 4 + 2, none⟩ = some (.bool m2) ∧ wx.cell? ⟨g2, o2 + i * 4 + 3, none⟩ = some (.slice B2 j2 d2)) hmx (hSv9.out _ hr9) (fun hxs9 => ?_)
     refine wpAnyL_take (i := 0) (v := ?v1) rfl (by kernel_rfl) (by kernel_rfl) (by kernel_rfl) (by kernel_rfl) (by kernel_rfl) (Or.inl ⟨by kernel_rfl, ?hy1⟩) (hSv9.out _ hr9) ?rest1
     case hy1 => (intro W2 hSw; (try dsimp only at hSw); go_simp; try with_reducible rfl)
     try simp only [Act.put, List.setIfInBounds_toArray, List.set_cons_zero, List.set_cons_succ, List.getElem_toArray, List.getElem_cons_succ, List.getElem_cons_zero]
     refine wpAnyL_take (i := 1) (v := ?v2) rfl (by kernel_rfl) (by kernel_rfl) (by kernel_rfl) (by kernel_rfl) (by kernel_rfl) (Or.inl ⟨by kernel_rfl, ?hy2⟩) (hSv9.out _ hr9) ?rest2
     case hy2 => (intro W2 hSw; (try dsimp only at hSw); go_simp; try with_reducible rfl)
     try simp only [Act.put, List.setIfInBounds_toArray, List.set_cons_zero, List.set_cons_succ, List.getElem_toArray, List.getElem_cons_succ, List.getElem_cons_zero]
     refine wpAnyL_take (i := 2) (v := ?v3) rfl (by kernel_rfl) (by kernel_rfl) (by kernel_rfl) (by kernel_rfl) (by kernel_rfl) (Or.inl ⟨by kernel_rfl, ?hy3⟩) (hSv9.out _ hr9) ?rest3
     case hy3 => (intro W2 hSw; (try dsimp only at hSw); go_simp; try with_reducible rfl)
     try simp only [Act.put, List.setIfInBounds_toArray, List.set_cons_zero, List.set_cons_succ, List.getElem_toArray, List.getElem_cons_succ, List.getElem_cons_zero]
     refine wpAnyL_take (i := 3) (v := ?v4) rfl (by kernel_rfl) (by kernel_rfl) (by kernel_rfl) (by kernel_rfl) (by kernel_rfl) (Or.inl ⟨by kernel_rfl, ?hy4⟩) (hSv9.out _ hr9) ?rest4
     case hy4 => (intro W2 hSw; (try dsimp only at hSw); go_simp; try with_reducible rfl)
     try simp only [Act.put, List.setIfInBounds_toArray, List.set_cons_zero, List.set_cons_succ, List.getElem_toArray, List.getElem_cons_succ, List.getElem_cons_zero]
     refine wpAnyL_take (i := 4) (v := ?v5) rfl (by kernel_rfl) (by kernel_rfl) (by kernel_rfl) (by kernel_rfl) (by kernel_rfl) (Or.inl ⟨by kernel_rfl, ?hy5⟩) (hSv9.out _ hr9) ?rest5
     case hy5 => (intro W2 hSw; (try dsimp only at hSw); go_simp; try with_reducible rfl)
     try simp only [Act.put, List.setIfInBounds_toArray, List.set_cons_zero, List.set_cons_succ, List.getElem_toArray, List.getElem_cons_succ, List.getElem_cons_zero]
     refine wpAnyL_take (i := 5) (v := ?v6) rfl (by kernel_rfl) (by kernel_rfl) (by kernel_rfl) (by kernel_rfl) (by kernel_rfl) (Or.inl ⟨by kernel_rfl, ?hy6⟩) (hSv9.out _ hr9) ?rest6
     case hy6 => (intro W2 hSw; (try dsimp only at hSw); go_simp; try with_reducible rfl)
     try simp only [Act.put, List.setIfInBounds_toArray, List.set_cons_zero, List.set_cons_succ, List.getElem_toArray, List.getElem_cons_succ, List.getElem_cons_zero]
     refine wpAnyL_take (i := 6) (v := ?v7) rfl (by kernel_rfl) (by kernel_rfl) (by kernel_rfl) (by kernel_rfl) (by kernel_rfl) (Or.inl ⟨by kernel_rfl, ?hy7⟩) (hSv9.out _ hr9) ?rest7
     case hy7 => (intro W2 hSw; (try dsimp only at hSw); go_simp; try with_reducible rfl)
     try simp only [Act.put, List.setIfInBounds_toArray, List.set_cons_zero, List.set_cons_succ, List.getElem_toArray, List.getElem_cons_succ, List.getElem_cons_zero]
     refine wpAnyL_take (i := 7) (v := ?v8) rfl (by kernel_rfl) (by kernel_rfl) (by kernel_rfl) (by kernel_rfl) (by kernel_rfl) (Or.inl ⟨by kernel_rfl, ?hy8⟩) (hSv9.out _ hr9) ?rest8
     case hy8 => (intro W2 hSw; (try dsimp only at hSw); go_simp; try with_reducible rfl)
     try simp only [Act.put, List.setIfInBounds_toArray, List.set_cons_zero, List.set_cons_succ, List.getElem_toArray, List.getElem_cons_succ, List.getElem_cons_zero]
     refine wpAnyL_take (i := 8) (v := ?v9) rfl (by kernel_rfl) (by kernel_rfl) (by kernel_rfl) (by kernel_rfl) (by kernel_rfl) (Or.inl ⟨by kernel_rfl, ?hy9⟩) (hSv9.out _ hr9) ?rest9
     case hy9 => (intro W2 hSw; (try dsimp only at hSw); go_simp; try with_reducible rfl)
     try simp only [Act.put, List.setIfInBounds_toArray, List.set_cons_zero, List.set_cons_succ, List.getElem_toArray, List.getElem_cons_succ, List.getElem_cons_zero]
     refine wpAnyL_take (i := 9) (v := ?v10) rfl (by kernel_rfl) (by kernel_rfl) (by kernel_rfl) (by kernel_rfl) (by kernel_rfl) (Or.inl ⟨by kernel_rfl, ?hy10⟩) (hSv9.out _ hr9) ?rest10
     case hy10 => (intro W2 hSw; (try dsimp only at hSw); go_simp; try with_reducible rfl)
     try simp only [Act.put, List.setIfInBounds_toArray, List.set_cons_zero, List.set_cons_succ, List.getElem_toArray, List.getElem_cons_succ, List.getElem_cons_zero]
     refine wpAnyL_take (i := 10) (v := ?v11) rfl (by kernel_rfl) (by kernel_rfl) (by kernel_rfl) (by kernel_rfl) (by kernel_rfl) (Or.inl ⟨by kernel_rfl, ?hy11⟩) (hSv9.out _ hr9) ?rest11
     case hy11 => (intro W2 hSw; (try dsimp only at hSw); go_simp; try with_reducible rfl)
     try simp only [Act.put, List.setIfInBounds_toArray, List.set_cons_zero, List.set_cons_succ, List.getElem_toArray, List.getElem_cons_succ, List.getElem_cons_zero]
     refine wpAnyL_take (i := 11) (v := ?v12) rfl (by kernel_rfl) (by kernel_rfl) (by kernel_rfl) (by kernel_rfl) (by kernel_rfl) (Or.inl ⟨by kernel_rfl, ?hy12⟩) (hSv9.out _ hr9) ?rest12
     case hy12 => (intro W2 hSw; (try dsimp only at hSw); go_simp; try with_reducible rfl)
     try simp only [Act.put, List.setIfInBounds_toArray, List.set_cons_zero, List.set_cons_succ, List.getElem_toArray, List.getElem_cons_succ, List.getElem_cons_zero]
     refine wpAnyL_take (i := 12) (v := ?v13) rfl (by kernel_rfl) (by kernel_rfl) (by kernel_rfl) (by kernel_rfl) (by kernel_rfl) (Or.inl ⟨by kernel_rfl, ?hy13⟩) (hSv9.out _ hr9) ?rest13
     case hy13 => (intro W2 hSw; (try dsimp only at hSw); go_simp; try with_reducible rfl)
     try simp only [Act.put, List.setIfInBounds_toArray, List.set_cons_zero, List.set_cons_succ, List.getElem_toArray, List.getElem_cons_succ, List.getElem_cons_zero]
     refine wpAnyL_take (i := 13) (v := ?v14) rfl (by kernel_rfl) (by kernel_rfl) (by kernel_rfl) (by kernel_rfl) (by kernel_rfl) (Or.inl ⟨by kernel_rfl, ?hy14⟩) (hSv9.out _ hr9) ?rest14
     case hy14 => (intro W2 hSw; (try dsimp only at hSw); go_simp; try with_reducible rfl)
     try simp only [Act.put, List.setIfInBounds_toArray, List.set_cons_zero, List.set_cons_succ, List.getElem_toArray, List.getElem_cons_succ, List.getElem_cons_zero]
     refine wpAnyL_one (i := 14) rfl (by kernel_rfl) (fun K hK => ?_)
     go_simp
     refine (fCmp_ok n1 m1 n2 m2 A1 B1 A2 B2 k1 c1 j1 d1 k2 c2 j2 d2 _ _ wr.drew (hf1.below hr9) (hf2.below hr9) sc1 sc2).mono ?_
     rw [hs.out]
     rintro e w5 ⟨rfl, hb5⟩
     have hr10 := hr9.trans (hb5.mono hr9.size)
     refine hK.out _ _ (fun _ => hSv9.out _ hr10) ?_
     clear hK K
     try simp only [Act.put, List.setIfInBounds_toArray, List.set_cons_zero, List.set_cons_succ]
     refine wpAnyL_pure (i := 15) (v := ?v15) rfl (by kernel_rfl) (by kernel_rfl) (by kernel_rfl) (by kernel_rfl) (Or.inl ⟨by kernel_rfl, ?hy15⟩) (fun _ => (hSv9.out _ hr10)) ?rest15
     case hy15 => (intro W2 _; go_simp; try with_reducible rfl)
     try simp only [Act.put, List.setIfInBounds_toArray, List.set_cons_zero, List.set_cons_succ, List.getElem_toArray, List.getElem_cons_succ, List.getElem_cons_zero]
     refine wpAnyL_pure (i := 16) (v := ?v16) rfl (by kernel_rfl) (by kernel_rfl) (by kernel_rfl) (by kernel_rfl) (Or.inl ⟨by kernel_rfl, ?hy16⟩) (fun _ => (hSv9.out _ hr10)) ?rest16
     case hy16 => (intro W2 _; go_simp; try with_reducible rfl)
     try simp only [Act.put, List.setIfInBounds_toArray, List.set_cons_zero, List.set_cons_succ, List.getElem_toArray, List.getElem_cons_succ, List.getElem_cons_zero]
     refine wpAnyL_pure (i := 17) (v := ?v17) rfl (by kernel_rfl) (by kernel_rfl) (by kernel_rfl) (by kernel_rfl) (Or.inl ⟨by kernel_rfl, ?hy17⟩) (fun _ => (hSv9.out _ hr10)) ?rest17
     case hy17 => (intro W2 _; go_simp; try with_reducible rfl)
     try simp only [Act.put, List.setIfInBounds_toArray, List.set_cons_zero, List.set_cons_succ, List.getElem_toArray, List.getElem_cons_succ, List.getElem_cons_zero]
     refine wpAnyL_pure (i := 18) (v := ?v18) rfl (by kernel_rfl) (by kernel_rfl) (by kernel_rfl) (by kernel_rfl) (Or.inl ⟨by kernel_rfl, ?hy18⟩) (fun _ => (hSv9.out _ hr10)) ?rest18
     case hy18 => (intro W2 _; go_simp; try with_reducible rfl)
     try simp only [Act.put, List.setIfInBounds_toArray, List.set_cons_zero, List.set_cons_succ, List.getElem_toArray, List.getElem_cons_succ, List.getElem_cons_zero]
     refine wpAnyL_pure (i := 19) (v := ?v19) rfl (by kernel_rfl) (by kernel_rfl) (by kernel_rfl) (by kernel_rfl) (Or.inl ⟨by kernel_rfl, ?hy19⟩) (fun _ => (hSv9.out _ hr10)) ?rest19
     case hy19 => (intro W2 _; go_simp; try with_reducible rfl)
     try simp only [Act.put, List.setIfInBounds_toArray, List.set_cons_zero, List.set_cons_succ, List.getElem_toArray, List.getElem_cons_succ, List.getElem_cons_zero]
     refine wpAnyL_done (by kernel_rfl) ?_ _
     refine OnlyNormal.normal ?_
     have hBf := hide (hB.trans (hr10.mono hB.size))
     clear hSv9 hxs9 hr9 hr10 hb5 k0 k0' p0 p1 p2 p3 q0 q1 q2 q3 hf1 hf2
     by_cases hs0 : s = 0
     case neg =>
      have t3 : (s == 0) = false := by simpa using hs0
      have t3' : (s != 0) = true := by simpa using hs0
      have t3'' : decide (s = 0) = false := by simpa using hs0
      have hpt : pd = false := by rw [← hpd.out]; exact pdB_sym (i := i) (k := j) (by rw [hQl.out]; exact hin) hji (fun e => hs0 (by rw [← hs.out]; exact cmpQ_eq0.2 e))
      subst hpt
      replace hs0 := hide hs0
      go_wp2_with fail
      go_returns
      exact ⟨rfl, hBf.out⟩
     subst hs0
     have hsj2 : Hid (∀ b, b < j + 1 → entR (qM rs) i b = entR (qM rs) b i) := hide (fun b hb => by
      by_cases he : b = j
      · rw [he]; exact cmpQ_eq0.1 hs.out
      · exact hsj.out b (by omega))
     go_wp2_with fail
     go_roundg (i - (j + 1))
     case measure => omega
     case rel => exact ⟨j + 1, by omega, by go_num, hsj2, hBf.out⟩
end Go.Proofs.YtigdclhagmnopaaGreat
