/- Reference of frac: Cmp of small fractions. Reference of frac: Check, both, Cmp of raw fractions. -/
import Derived.Test.YtigdclhagmnopaaGreatZa23
set_option linter.unusedSimpArgs false
set_option linter.unusedVariables false

namespace Go.Proofs.YtigdclhagmnopaaGreat
open Go.RowKit
attribute [local go_sem] add_lit

def cmpQ (a b : Rat) : Int := if a < b then -1 else if b < a then 1 else 0
theorem cmpZ_rat (a b : Rat) : cmpZ (a.num * b.den) (b.num * a.den) = cmpQ a b := by
  unfold cmpZ cmpQ
  simp only [Rat.lt_iff]

set_option maxRecDepth 100000 in
set_option maxHeartbeats 1000000 in
theorem rfCmp_ok (na nb na' nb' : Bool) (A B A' B' : Option Addr) (n c m d n' c' m' d' : Nat) (a b : Rat) (w : World) (ha : Fr w na A n c nb B m d a) (hb : Fr w na' A' n' c' nb' B' m' d' b) (sa : Sm a) (sb : Sm b) :
    Calls Tryz.prog 46 #[.agg #[.bool na, .slice A n c, .bool nb, .slice B m d], .agg #[.bool na', .slice A' n' c', .bool nb', .slice B' m' d']] w fun e w' => e = .returned (.tuple #[.int .i64 (cmpQ a b), .int .i64 0]) ∧ Below w.heap.size w w' := by
  rw [← cmpZ_rat]
  have h1 := hide (sm_mul' sa.1 sb.dn)
  have h2 := hide (sm_mul' sb.1 sa.dn)
  obtain ⟨W0, hW0, hB0, ⟨q0, q1⟩, s0⟩ := alloc2 w 45 #[.bool na, .slice A n c, .bool nb, .slice B m d] 45 #[.bool na', .slice A' n' c', .bool nb', .slice B' m' d']
  have hA := hide (ha.below hB0)
  have hD := hide (hb.below hB0)
  clear ha hb sa sb
  generalize hX : a.num * ((b.den : Nat) : Int) = X at *
  generalize hY : b.num * ((a.den : Nat) : Int) = Y at *
  replace hX := hide hX
  replace hY := hide hY
  obtain ⟨a0, a1, a2, a3, -⟩ := q0.four
  obtain ⟨b0, b1, b2, b3, -⟩ := q1.four
  have hq := hide (And.intro q0 q1)
  clear q0 q1
  go_enter Tryz.func46, Tryz.ntmps46
  go_wp2_with fail
  refine (rfBoth_ok na nb na' nb' A B A' B' n c m d n' c' m' d' a b W0 hA.out hD.out).mono ?_
  rintro e w1 ⟨rfl, hb1⟩
  have hB1 : Below w.heap.size w w1 := hB0.trans (hb1.mono hB0.size)
  replace hA := hide (hA.out.below hb1)
  replace hD := hide (hD.out.below hb1)
  obtain ⟨q0, q1⟩ := hq.out
  replace q0 := keep_blk hb1 q0
  replace q1 := keep_blk hb1 q1
  clear hW0 hb1 a0 a1 a2 a3 b0 b1 b2 b3 hq hB0
  obtain ⟨a0, a1, a2, a3, -⟩ := q0.four
  obtain ⟨b0, b1, b2, b3, -⟩ := q1.four
  have hq := hide (And.intro q0 q1)
  clear q0 q1
  go_wp2_with fail
  have hM := rMul_ok na nb' A B' n c m' d' a.num b.den w1 hA.out.1 hD.out.2
  rw [hX.out] at hM
  refine hM.mono ?_
  clear hM
  rintro e w2 ⟨hb2, n1, P1, k1, c1, code, rfl, hR⟩
  have hP1 := hide (hR.small h1.out)
  have hcode := hR.code0 h1.out
  subst hcode
  have hC2 : Below w.heap.size w w2 := hB1.trans (hb2.mono hB1.size)
  replace hA := hide (hA.out.below hb2)
  replace hD := hide (hD.out.below hb2)
  obtain ⟨q0, q1⟩ := hq.out
  replace q0 := keep_blk hb2 q0
  replace q1 := keep_blk hb2 q1
  clear hb2 a0 a1 a2 a3 b0 b1 b2 b3 hq hB1 hR h1 hX
  obtain ⟨W2, hW2, hB2, r1, kW, kB, t2⟩ := new_obj 43 #[.bool n1, .slice P1 k1 c1] hC2 hC2.size
  replace q0 := kB _ _ _ q0
  replace q1 := kB _ _ _ q1
  replace hA := hide (hA.out.keep kW)
  replace hD := hide (hD.out.keep kW)
  replace hP1 := hide (kW _ _ _ _ _ hP1.out)
  clear kW kB hC2
  obtain ⟨a0, a1, a2, a3, -⟩ := q0.four
  obtain ⟨b0, b1, b2, b3, -⟩ := q1.four
  clear q0 q1
  replace r1 := hide r1
  go_wp2_with fail
  have hM := rMul_ok na' nb A' B n' c' m d b.num a.den W2 hD.out.1 hA.out.2
  rw [hY.out] at hM
  refine hM.mono ?_
  clear hM
  rintro e w3 ⟨hb3, n2, P2, k2, c2, code, rfl, hR⟩
  have hP2 := hide (hR.small h2.out)
  have hcode := hR.code0 h2.out
  subst hcode
  have hC3 : Below w.heap.size w w3 := hB2.trans (hb3.mono hB2.size)
  replace r1 := keep_blk hb3 r1.out
  replace hP1 := hide (hP1.out.below hb3)
  clear hb3 a0 a1 a2 a3 b0 b1 b2 b3 hB2 hR h2 hY hA hD hW2
  obtain ⟨W3, hW3, hB3, r2, kW, kB, t3⟩ := new_obj 43 #[.bool n2, .slice P2 k2 c2] hC3 hC3.size
  replace r1 := kB _ _ _ r1
  replace hP1 := hide (kW _ _ _ _ _ hP1.out)
  replace hP2 := hide (kW _ _ _ _ _ hP2.out)
  clear kW kB hC3
  obtain ⟨x0, x1, -⟩ := r1.two
  obtain ⟨y0, y1, -⟩ := r2.two
  clear r1 r2
  go_wp2_with fail
  refine (rCompared_ok n1 n2 P1 P2 k1 c1 k2 c2 X Y W3 hP1.out hP2.out).mono ?_
  rintro e w4 ⟨rfl, hb4⟩
  have hB4 : Below w.heap.size w w4 := hB3.trans (hb4.mono hB3.size)
  go_wp2_with fail
  go_ret2
  exact ⟨rfl, hB4⟩
end Go.Proofs.YtigdclhagmnopaaGreat

namespace Go.Proofs.YtigdclhagmnopaaGreat
open Go.RowKit
attribute [local go_sem] add_lit

set_option maxRecDepth 100000 in
set_option maxHeartbeats 1000000 in
theorem rfCheck_bad1 (na nb : Bool) (A B : Option Addr) (n c m d : Nat) (la lb : List Nat) (w : World) (ha : Lim w A n c la) (hb : Lim w B m d lb) (hbad : okW na la = false) :
    Calls Tryz.prog 35 #[.agg #[.bool na, .slice A n c, .bool nb, .slice B m d]] w fun e w' => e = .returned (.int .i64 8) ∧ Below w.heap.size w w' := by
  have hmx : Tryz.prog.follows .mixedOrders = true := by kernel_rfl
  obtain ⟨W0, hW0, hB0, q0, s0⟩ := alloc1 w 45 #[.bool na, .slice A n c, .bool nb, .slice B m d]
  have hA := hide (ha.below hB0)
  clear ha hb
  obtain ⟨a0, a1, a2, a3, -⟩ := q0.four
  go_enter Tryz.func35, Tryz.ntmps35
  go_wp2_with fail
  refine (rCheck_bad hA.out hbad).mono ?_
  rintro e w1 ⟨rfl, hb1⟩
  have hB1 : Below w.heap.size w w1 := hB0.trans (hb1.mono hB0.size)
  clear hW0 a0 a1 a2 a3
  obtain ⟨a0, a1, a2, a3, -⟩ := (keep_blk hb1 q0).four
  go_wp2_with fail
  go_ret
  exact ⟨rfl, hB1⟩

set_option maxRecDepth 100000 in
set_option maxHeartbeats 1000000 in
theorem rfCheck_bad2 (na nb : Bool) (A B : Option Addr) (n c m d : Nat) (la lb : List Nat) (w : World) (ha : Lim w A n c la) (hb : Lim w B m d lb) (hk : okW na la = true) (hbad : okW nb lb = false) :
    Calls Tryz.prog 35 #[.agg #[.bool na, .slice A n c, .bool nb, .slice B m d]] w fun e w' => e = .returned (.int .i64 8) ∧ Below w.heap.size w w' := by
  have hmx : Tryz.prog.follows .mixedOrders = true := by kernel_rfl
  obtain ⟨W0, hW0, hB0, q0, s0⟩ := alloc1 w 45 #[.bool na, .slice A n c, .bool nb, .slice B m d]
  have hA := hide (ha.below hB0)
  have hD := hide (hb.below hB0)
  clear ha hb
  obtain ⟨a0, a1, a2, a3, -⟩ := q0.four
  go_enter Tryz.func35, Tryz.ntmps35
  go_wp2_with fail
  refine (rCheck_ok hA.out hk).mono ?_
  rintro e w1 ⟨rfl, hb1⟩
  have hB1 : Below w.heap.size w w1 := hB0.trans (hb1.mono hB0.size)
  replace q0 := keep_blk hb1 q0
  replace hA := hide (hA.out.below hb1)
  replace hD := hide (hD.out.below hb1)
  clear hW0 a0 a1 a2 a3 hb1
  obtain ⟨a0, a1, a2, a3, -⟩ := q0.four
  go_wp2_with fail
  refine (rCheck_bad hD.out hbad).mono ?_
  rintro e w2 ⟨rfl, hb2⟩
  have hB2 : Below w.heap.size w w2 := hB1.trans (hb2.mono hB1.size)
  replace q0 := keep_blk hb2 q0
  clear a0 a1 a2 a3 hb2
  obtain ⟨a0, a1, a2, a3, -⟩ := q0.four
  go_wp2_with fail
  go_ret
  exact ⟨rfl, hB2⟩

set_option maxRecDepth 100000 in
set_option maxHeartbeats 1000000 in
theorem rfCheck_bad3 (na : Bool) (A B : Option Addr) (n c m d : Nat) (la lb : List Nat) (w : World) (ha : Lim w A n c la) (hb : Lim w B m d lb) (hk : okW na la = true) (hk2 : okW true lb = true) :
    Calls Tryz.prog 35 #[.agg #[.bool na, .slice A n c, .bool true, .slice B m d]] w fun e w' => e = .returned (.int .i64 8) ∧ Below w.heap.size w w' := by
  have hmx : Tryz.prog.follows .mixedOrders = true := by kernel_rfl
  obtain ⟨W0, hW0, hB0, q0, s0⟩ := alloc1 w 45 #[.bool na, .slice A n c, .bool true, .slice B m d]
  have hA := hide (ha.below hB0)
  have hD := hide (hb.below hB0)
  clear ha hb
  obtain ⟨a0, a1, a2, a3, -⟩ := q0.four
  go_enter Tryz.func35, Tryz.ntmps35
  go_wp2_with fail
  refine (rCheck_ok hA.out hk).mono ?_
  rintro e w1 ⟨rfl, hb1⟩
  have hB1 : Below w.heap.size w w1 := hB0.trans (hb1.mono hB0.size)
  replace q0 := keep_blk hb1 q0
  replace hA := hide (hA.out.below hb1)
  replace hD := hide (hD.out.below hb1)
  clear hW0 a0 a1 a2 a3 hb1
  obtain ⟨a0, a1, a2, a3, -⟩ := q0.four
  go_wp2_with fail
  refine (rCheck_ok hD.out hk2).mono ?_
  rintro e w2 ⟨rfl, hb2⟩
  have hB2 : Below w.heap.size w w2 := hB1.trans (hb2.mono hB1.size)
  replace q0 := keep_blk hb2 q0
  clear a0 a1 a2 a3 hb2
  obtain ⟨a0, a1, a2, a3, -⟩ := q0.four
  go_wp2_with fail
  go_ret
  exact ⟨rfl, hB2⟩

set_option maxRecDepth 100000 in
set_option maxHeartbeats 1000000 in
theorem rfCheck_bad4 (na : Bool) (A B : Option Addr) (n c d : Nat) (la : List Nat) (w : World) (ha : Lim w A n c la) (hb : Lim w B 0 d []) (hk : okW na la = true) :
    Calls Tryz.prog 35 #[.agg #[.bool na, .slice A n c, .bool false, .slice B 0 d]] w fun e w' => e = .returned (.int .i64 8) ∧ Below w.heap.size w w' := by
  have hmx : Tryz.prog.follows .mixedOrders = true := by kernel_rfl
  obtain ⟨W0, hW0, hB0, q0, s0⟩ := alloc1 w 45 #[.bool na, .slice A n c, .bool false, .slice B 0 d]
  have hA := hide (ha.below hB0)
  have hD := hide (hb.below hB0)
  clear ha hb
  obtain ⟨a0, a1, a2, a3, -⟩ := q0.four
  go_enter Tryz.func35, Tryz.ntmps35
  go_wp2_with fail
  refine (rCheck_ok hA.out hk).mono ?_
  rintro e w1 ⟨rfl, hb1⟩
  have hB1 : Below w.heap.size w w1 := hB0.trans (hb1.mono hB0.size)
  replace q0 := keep_blk hb1 q0
  replace hA := hide (hA.out.below hb1)
  replace hD := hide (hD.out.below hb1)
  clear hW0 a0 a1 a2 a3 hb1
  obtain ⟨a0, a1, a2, a3, -⟩ := q0.four
  go_wp2_with fail
  refine (rCheck_ok hD.out (by decide)).mono ?_
  rintro e w2 ⟨rfl, hb2⟩
  have hB2 : Below w.heap.size w w2 := hB1.trans (hb2.mono hB1.size)
  replace q0 := keep_blk hb2 q0
  clear a0 a1 a2 a3 hb2
  obtain ⟨a0, a1, a2, a3, -⟩ := q0.four
  go_wp2_with fail
  go_ret
  exact ⟨rfl, hB2⟩

set_option maxRecDepth 100000 in
set_option maxHeartbeats 1000000 in
theorem rfCheck_bad5 (na : Bool) (A B : Option Addr) (n c m d : Nat) (za zb : Int) (w : World) (h1 : Wd w na A n c za) (h2 : Wd w false B m d zb) (hp : 0 < zb) (hg : Nat.gcd za.natAbs zb.natAbs ≠ 1) :
    Calls Tryz.prog 35 #[.agg #[.bool na, .slice A n c, .bool false, .slice B m d]] w fun e w' => e = .returned (.int .i64 8) ∧ Below w.heap.size w w' := by
  have hmx : Tryz.prog.follows .mixedOrders = true := by kernel_rfl
  have hm0 : 0 < m := by rw [← h2.lim.len]; exact length_digits_pos.2 (by omega)
  have hm0' : ((m : Int) == 0) = false := by simp; omega
  have hm := h2.2.1
  have hgs := gcd_small h1.small h2.small
  obtain ⟨G, hG0⟩ : ∃ G, Nat.gcd za.natAbs zb.natAbs = G := ⟨_, rfl⟩
  rw [hG0] at hg hgs
  replace hg := hide hg
  obtain ⟨W0, hW0, hB0, q0, s0⟩ := alloc1 w 45 #[.bool na, .slice A n c, .bool false, .slice B m d]
  have hA := hide (And.intro (h1.below hB0) (h2.below hB0))
  clear h1 h2
  obtain ⟨a0, a1, a2, a3, -⟩ := q0.four
  replace q0 := hide q0
  go_enter Tryz.func35, Tryz.ntmps35
  go_wp2_with fail
  refine (rCheck_ok hA.out.1.lim hA.out.1.ok).mono ?_
  rintro e w1 ⟨rfl, hb1⟩
  have hB1 : Below w.heap.size w w1 := hB0.trans (hb1.mono hB0.size)
  replace hA := hide (And.intro (hA.out.1.below hb1) (hA.out.2.below hb1))
  replace q0 := hide (keep_blk hb1 q0.out)
  clear a0 a1 a2 a3 hb1 hB0 hW0
  obtain ⟨a0, a1, a2, a3, -⟩ := q0.out.four
  go_wp2_with fail
  refine (rCheck_ok hA.out.2.lim hA.out.2.ok).mono ?_
  rintro e w2 ⟨rfl, hb2⟩
  have hB2 : Below w.heap.size w w2 := hB1.trans (hb2.mono hB1.size)
  replace hA := hide (And.intro (hA.out.1.below hb2) (hA.out.2.below hb2))
  replace q0 := hide (keep_blk hb2 q0.out)
  clear a0 a1 a2 a3 hb2 hB1
  obtain ⟨a0, a1, a2, a3, -⟩ := q0.out.four
  go_wp2_with fail
  refine (rGcd_ok na false A B n c m d za zb w2 hA.out.1 hA.out.2).mono ?_
  rw [hG0]
  rintro e w3 ⟨hb3, ng, Ag, kg, cg, code, rfl, hR⟩
  have hG := hide (hR.small (by rw [Int.natAbs_natCast]; exact hgs))
  have hB3 : Below w.heap.size w w3 := hB2.trans (hb3.mono hB2.size)
  clear a0 a1 a2 a3 hb3 hB2 q0 hA hR
  obtain ⟨W4, hW4, hB4, q4, kW, kB, s4⟩ := new_obj 43 #[.bool ng, .slice Ag kg cg] hB3 hB3.size
  replace hG := hide (kW _ _ _ _ _ hG.out)
  clear kW kB
  obtain ⟨g0, g1, -⟩ := q4.two
  replace q4 := hide q4
  go_wp2_with fail
  refine wp_held [] (fun W' => W'.cell? ⟨w3.heap.size, 0, none⟩ = some (.bool ng) ∧ W'.cell? ⟨w3.heap.size, 1, none⟩ = some (.slice Ag kg cg)) hmx ⟨g0, g1⟩ (fun _ => ?_)
  refine wpAnyL_take (i := 0) (v := ?v1) rfl (by kernel_rfl) (by kernel_rfl) (by kernel_rfl) (by kernel_rfl) (by kernel_rfl) (Or.inl ⟨by rfl, ?hy1⟩) ⟨g0, g1⟩ ?rest1
  case hy1 => (intro W2 hSw; (try dsimp only at hSw); go_simp; try with_reducible rfl)
  try simp only [Act.put, List.setIfInBounds_toArray, List.set_cons_zero, List.set_cons_succ]
  refine wpAnyL_one (i := 1) rfl (by kernel_rfl) (fun K hK => ?_)
  go_simp
  refine (rFrom_any 1 W4.drew (by omega) (by omega)).mono ?_
  rintro e w5 ⟨hb5, n1, A1, k1, c1, rfl, hO⟩
  replace hb5 := below_drewL hb5
  have hB5 : Below w.heap.size w w5 := hB4.trans (hb5.mono (by show w.heap.size ≤ W4.heap.size; have := hB3.size; omega))
  replace hG := hide (hG.out.below hb5)
  replace q4 := hide (keep_blk hb5 q4.out)
  clear g0 g1
  obtain ⟨g0, g1, -⟩ := q4.out.two
  refine hK.out _ _ (fun _ => ⟨g0, g1⟩) ?_
  clear hK K
  try simp only [Act.put, List.setIfInBounds_toArray, List.set_cons_zero, List.set_cons_succ]
  refine wpAnyL_one (i := 2) rfl (by kernel_rfl) (fun K hK => ?_)
  go_simp
  refine (rSame_any ng n1 Ag A1 kg cg k1 c1 _ _ w5 hG.out.lim hO.lim).mono ?_
  have hsm : sameB ng n1 (digits (Int.natAbs ((G : Nat) : Int))) (digits (Int.natAbs 1)) = false := by have h1 := hG.out.1; have h2 := hO.1; rw [h1, h2]; unfold sameB; have := hg.out; simp [cmpL_digits, cmpZ]; omega
  rw [hsm]
  rintro e w6 ⟨rfl, hb6⟩
  have hB6 : Below w.heap.size w w6 := hB5.trans (hb6.mono hB5.size)
  replace q4 := hide (keep_blk hb6 q4.out)
  clear g0 g1
  obtain ⟨g0, g1, -⟩ := q4.out.two
  refine hK.out _ _ (fun _ => ⟨g0, g1⟩) ?_
  clear hK K
  try simp only [Act.put, List.setIfInBounds_toArray, List.set_cons_zero, List.set_cons_succ]
  refine wpAnyL_take (i := 3) (v := ?v2) rfl (by kernel_rfl) (by kernel_rfl) (by kernel_rfl) (by kernel_rfl) (by kernel_rfl) (Or.inl ⟨by rfl, ?hy2⟩) ⟨g0, g1⟩ ?rest2
  case hy2 => (intro W2 hSw; (try dsimp only at hSw); go_simp; try with_reducible rfl)
  try simp only [Act.put, List.setIfInBounds_toArray, List.set_cons_zero, List.set_cons_succ]
  refine wpAnyL_done (by kernel_rfl) ?_ _
  refine OnlyNormal.normal ?_
  go_wp2_with fail
  go_ret
  exact ⟨rfl, hB6⟩

/-- The error of a raw fraction. -/
theorem rfCheck_any (na nb : Bool) (A B : Option Addr) (n c m d : Nat) (la lb : List Nat) (w : World) (ha : Lim w A n c la) (hb : Lim w B m d lb) (x : Bool) (hx : okF na la nb lb = x) :
    Calls Tryz.prog 35 #[.agg #[.bool na, .slice A n c, .bool nb, .slice B m d]] w fun e w' => e = .returned (.int .i64 (errOf x)) ∧ Below w.heap.size w w' := by
  cases x
  · simp only [okF, Bool.and_eq_false_iff, Bool.not_eq_false', decide_eq_false_iff_not] at hx
    by_cases h1 : okW na la = true
    case neg => exact rfCheck_bad1 na nb A B n c m d la lb w ha hb (by simpa using h1)
    by_cases h2 : okW nb lb = true
    case neg => exact rfCheck_bad2 na nb A B n c m d la lb w ha hb h1 (by simpa using h2)
    have hA := Wd.of_ok ha h1
    have hD := Wd.of_ok hb h2
    cases nb
    · by_cases hz : 0 < lb.length
      · have e3 : sg false (val lb) = (val lb : Nat) := rfl
        rw [e3] at hD
        have h2' := (okW_iff hb.lt).1 h2
        have e2 : (sg false (val lb)).natAbs = val lb := sg_natAbs _ _
        rw [e2] at h2'
        have hp : 0 < val lb := by
          rw [h2'.2.2] at hz
          exact length_digits_pos.1 hz
        refine rfCheck_bad5 na A B n c m d _ _ w hA hD (by omega) ?_
        rw [sg_natAbs, Int.natAbs_natCast]
        rcases hx with (((hx | hx) | hx) | hx) | hx
        · rw [h1] at hx; cases hx
        · rw [h2] at hx; cases hx
        · cases hx
        · omega
        · exact hx
      · have hl0 : lb = [] := List.eq_nil_of_length_eq_zero (by omega)
        subst hl0
        have hm : m = 0 := hb.len.symm
        subst hm
        exact rfCheck_bad4 na A B n c d la w ha hb h1
    · exact rfCheck_bad3 na A B n c m d la lb w ha hb h1 h2
  · exact rfCheck_ok na nb A B n c m d _ w (raw_fr ha hb hx)

set_option maxRecDepth 100000 in
set_option maxHeartbeats 1000000 in
theorem rfBoth_any (na nb na' nb' : Bool) (A B A' B' : Option Addr) (n c m d n' c' m' d' : Nat) (la lb la' lb' : List Nat) (w : World) (ha : Lim w A n c la) (hb : Lim w B m d lb) (ha' : Lim w A' n' c' la') (hb' : Lim w B' m' d' lb') (x y : Bool) (hx : okF na la nb lb = x) (hy : okF na' la' nb' lb' = y) :
    Calls Tryz.prog 91 #[.agg #[.bool na, .slice A n c, .bool nb, .slice B m d], .agg #[.bool na', .slice A' n' c', .bool nb', .slice B' m' d']] w fun e w' => e = .returned (.int .i64 (errOf (x && y))) ∧ Below w.heap.size w w' := by
  obtain ⟨W0, hW0, hB0, ⟨q0, q1⟩, s0⟩ := alloc2 w 45 #[.bool na, .slice A n c, .bool nb, .slice B m d] 45 #[.bool na', .slice A' n' c', .bool nb', .slice B' m' d']
  have hA := hide (And.intro (ha.below hB0) (hb.below hB0))
  have hD := hide (And.intro (ha'.below hB0) (hb'.below hB0))
  clear ha hb ha' hb'
  obtain ⟨a0, a1, a2, a3, -⟩ := q0.four
  go_enter Tryz.func91, Tryz.ntmps91
  go_wp2_with fail
  refine (rfCheck_any na nb A B n c m d la lb W0 hA.out.1 hA.out.2 x hx).mono ?_
  rintro e w1 ⟨rfl, hb1⟩
  have hB1 : Below w.heap.size w w1 := hB0.trans (hb1.mono hB0.size)
  replace hD := hide (And.intro (hD.out.1.below hb1) (hD.out.2.below hb1))
  replace hA := hide (And.intro (hA.out.1.below hb1) (hA.out.2.below hb1))
  replace q0 := keep_blk hb1 q0
  replace q1 := keep_blk hb1 q1
  clear hW0 hb1 a0 a1 a2 a3
  cases x
  · obtain ⟨a0, a1, a2, a3, -⟩ := q0.four
    simp only [errOf, Bool.false_eq_true, if_false, Bool.false_and]
    go_wp2_with fail
    refine (rfCheck_any na nb A B n c m d la lb w1 hA.out.1 hA.out.2 false hx).mono ?_
    rintro e w2 ⟨rfl, hb2⟩
    have hB2 : Below w.heap.size w w2 := hB1.trans (hb2.mono hB1.size)
    go_wp2_with fail
    go_ret
    exact ⟨rfl, hB2⟩
  · obtain ⟨b0, b1, b2, b3, -⟩ := q1.four
    simp only [errOf, if_true, Bool.true_and]
    go_wp2_with fail
    refine (rfCheck_any na' nb' A' B' n' c' m' d' la' lb' w1 hD.out.1 hD.out.2 y hy).mono ?_
    rintro e w2 ⟨rfl, hb2⟩
    have hB2 : Below w.heap.size w w2 := hB1.trans (hb2.mono hB1.size)
    go_wp2_with fail
    go_ret
    exact ⟨rfl, hB2⟩

/-- What comparing two raw fractions gives. -/
def cmpR (na na' : Bool) (la lb la' lb' : List Nat) (ok : Bool) : Int := if ok then cmpQ (qOf na la lb) (qOf na' la' lb') else 0

set_option maxRecDepth 100000 in
set_option maxHeartbeats 1000000 in
theorem rfCmp_any (na nb na' nb' : Bool) (A B A' B' : Option Addr) (n c m d n' c' m' d' : Nat) (la lb la' lb' : List Nat) (w : World) (ha : Lim w A n c la) (hb : Lim w B m d lb) (ha' : Lim w A' n' c' la') (hb' : Lim w B' m' d' lb') (hn : n ≤ 6 ∧ m ≤ 6 ∧ n' ≤ 6 ∧ m' ≤ 6) (x y : Bool) (hx : okF na la nb lb = x) (hy : okF na' la' nb' lb' = y) :
    Calls Tryz.prog 46 #[.agg #[.bool na, .slice A n c, .bool nb, .slice B m d], .agg #[.bool na', .slice A' n' c', .bool nb', .slice B' m' d']] w fun e w' => e = .returned (.tuple #[.int .i64 (cmpR na na' la lb la' lb' (x && y)), .int .i64 (errOf (x && y))]) ∧ Below w.heap.size w w' := by
  by_cases hxy : (x && y) = true
  · have hxy2 := hxy
    rw [Bool.and_eq_true] at hxy
    obtain ⟨rfl, rfl⟩ := hxy
    exact rfCmp_ok na nb na' nb' A B A' B' n c m d n' c' m' d' _ _ w (raw_fr ha hb hx) (raw_fr ha' hb' hy) (raw_sm ha hb hx hn.1 hn.2.1) (raw_sm ha' hb' hy hn.2.2.1 hn.2.2.2)
  have hF : (x && y) = false := by simpa using hxy
  rw [hF]
  obtain ⟨W0, hW0, hB0, ⟨q0, q1⟩, s0⟩ := alloc2 w 45 #[.bool na, .slice A n c, .bool nb, .slice B m d] 45 #[.bool na', .slice A' n' c', .bool nb', .slice B' m' d']
  have hA := hide (And.intro (ha.below hB0) (hb.below hB0))
  have hD := hide (And.intro (ha'.below hB0) (hb'.below hB0))
  clear ha hb ha' hb'
  obtain ⟨a0, a1, a2, a3, -⟩ := q0.four
  obtain ⟨b0, b1, b2, b3, -⟩ := q1.four
  go_enter Tryz.func46, Tryz.ntmps46
  go_wp2_with fail
  refine (rfBoth_any na nb na' nb' A B A' B' n c m d n' c' m' d' la lb la' lb' W0 hA.out.1 hA.out.2 hD.out.1 hD.out.2 x y hx hy).mono ?_
  rw [hF]
  rintro e w1 ⟨rfl, hb1⟩
  have hB1 : Below w.heap.size w w1 := hB0.trans (hb1.mono hB0.size)
  replace hD := hide (And.intro (hD.out.1.below hb1) (hD.out.2.below hb1))
  replace hA := hide (And.intro (hA.out.1.below hb1) (hA.out.2.below hb1))
  replace q0 := keep_blk hb1 q0
  replace q1 := keep_blk hb1 q1
  clear hW0 hb1 a0 a1 a2 a3 b0 b1 b2 b3
  obtain ⟨a0, a1, a2, a3, -⟩ := q0.four
  obtain ⟨b0, b1, b2, b3, -⟩ := q1.four
  simp only [errOf, Bool.false_eq_true, if_false, cmpR]
  go_wp2_with fail
  refine (rfBoth_any na nb na' nb' A B A' B' n c m d n' c' m' d' la lb la' lb' w1 hA.out.1 hA.out.2 hD.out.1 hD.out.2 x y hx hy).mono ?_
  rw [hF]
  rintro e w2 ⟨rfl, hb2⟩
  have hB2 : Below w.heap.size w w2 := hB1.trans (hb2.mono hB1.size)
  simp only [errOf, Bool.false_eq_true, if_false]
  go_wp2_with fail
  go_ret2
  exact ⟨rfl, hB2⟩
end Go.Proofs.YtigdclhagmnopaaGreat
