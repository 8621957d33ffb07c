/- Reference of frac: Check, both, Cmp of raw fractions. Package frac: Cmp of raw fractions. -/
import Derived.Test.YtkippclhbkjbmaaGreatZb39
import Derived.Test.YtkippclhbkjbmaaGreatZb37
set_option linter.unusedSimpArgs false
set_option linter.unusedVariables false

namespace Go.Proofs.YtkippclhbkjbmaaGreat
open Go.RowKit
attribute [local go_sem] add_lit

set_option maxRecDepth 100000 in
set_option maxHeartbeats 1000000 in
theorem rfCheck_bad1 (na nb : Bool) (A B : Option Addr) (n c m d : Nat) (la lb : List Nat) (w : World) (ha : Lim w A n c la) (hb : Lim w B m d lb) (hbad : okW na la = false) :
    Calls Tryz.prog 100 #[.agg #[.bool na, .slice A n c, .bool nb, .slice B m d]] w fun e w' => e = .returned (.int .i64 8) ∧ Below w.heap.size w w' := by
  have hmx : Tryz.prog.follows .mixedOrders = true := by kernel_rfl
  obtain ⟨W0, hW0, hB0, q0, s0⟩ := alloc1 w 32 #[.bool na, .slice A n c, .bool nb, .slice B m d]
  have hA := hide (ha.below hB0)
  clear ha hb
  obtain ⟨a0, a1, a2, a3, -⟩ := q0.four
  go_enter Tryz.func100, Tryz.ntmps100
  go_wp2_with fail
  refine (rCheck_bad hA.out hbad).mono ?_
  rintro e w1 ⟨rfl, hb1⟩
  have hB1 : Below w.heap.size w w1 := hB0.trans (hb1.mono hB0.size)
  clear hW0 a0 a1 a2 a3
  obtain ⟨a0, a1, a2, a3, -⟩ := (keep_blk hb1 q0).four
  go_wp2_with fail
  go_ret
  exact ⟨rfl, hB1⟩

set_option maxRecDepth 100000 in
set_option maxHeartbeats 1000000 in
theorem rfCheck_bad2 (na nb : Bool) (A B : Option Addr) (n c m d : Nat) (la lb : List Nat) (w : World) (ha : Lim w A n c la) (hb : Lim w B m d lb) (hk : okW na la = true) (hbad : okW nb lb = false) :
    Calls Tryz.prog 100 #[.agg #[.bool na, .slice A n c, .bool nb, .slice B m d]] w fun e w' => e = .returned (.int .i64 8) ∧ Below w.heap.size w w' := by
  have hmx : Tryz.prog.follows .mixedOrders = true := by kernel_rfl
  obtain ⟨W0, hW0, hB0, q0, s0⟩ := alloc1 w 32 #[.bool na, .slice A n c, .bool nb, .slice B m d]
  have hA := hide (ha.below hB0)
  have hD := hide (hb.below hB0)
  clear ha hb
  obtain ⟨a0, a1, a2, a3, -⟩ := q0.four
  go_enter Tryz.func100, Tryz.ntmps100
  go_wp2_with fail
  refine (rCheck_ok hA.out hk).mono ?_
  rintro e w1 ⟨rfl, hb1⟩
  have hB1 : Below w.heap.size w w1 := hB0.trans (hb1.mono hB0.size)
  replace q0 := keep_blk hb1 q0
  replace hA := hide (hA.out.below hb1)
  replace hD := hide (hD.out.below hb1)
  clear hW0 a0 a1 a2 a3 hb1
  obtain ⟨a0, a1, a2, a3, -⟩ := q0.four
  go_wp2_with fail
  refine (rCheck_bad hD.out hbad).mono ?_
  rintro e w2 ⟨rfl, hb2⟩
  have hB2 : Below w.heap.size w w2 := hB1.trans (hb2.mono hB1.size)
  replace q0 := keep_blk hb2 q0
  clear a0 a1 a2 a3 hb2
  obtain ⟨a0, a1, a2, a3, -⟩ := q0.four
  go_wp2_with fail
  go_ret
  exact ⟨rfl, hB2⟩

set_option maxRecDepth 100000 in
set_option maxHeartbeats 1000000 in
theorem rfCheck_bad3 (na : Bool) (A B : Option Addr) (n c m d : Nat) (la lb : List Nat) (w : World) (ha : Lim w A n c la) (hb : Lim w B m d lb) (hk : okW na la = true) (hk2 : okW true lb = true) :
    Calls Tryz.prog 100 #[.agg #[.bool na, .slice A n c, .bool true, .slice B m d]] w fun e w' => e = .returned (.int .i64 8) ∧ Below w.heap.size w w' := by
  have hmx : Tryz.prog.follows .mixedOrders = true := by kernel_rfl
  obtain ⟨W0, hW0, hB0, q0, s0⟩ := alloc1 w 32 #[.bool na, .slice A n c, .bool true, .slice B m d]
  have hA := hide (ha.below hB0)
  have hD := hide (hb.below hB0)
  clear ha hb
  obtain ⟨a0, a1, a2, a3, -⟩ := q0.four
  go_enter Tryz.func100, Tryz.ntmps100
  go_wp2_with fail
  refine (rCheck_ok hA.out hk).mono ?_
  rintro e w1 ⟨rfl, hb1⟩
  have hB1 : Below w.heap.size w w1 := hB0.trans (hb1.mono hB0.size)
  replace q0 := keep_blk hb1 q0
  replace hA := hide (hA.out.below hb1)
  replace hD := hide (hD.out.below hb1)
  clear hW0 a0 a1 a2 a3 hb1
  obtain ⟨a0, a1, a2, a3, -⟩ := q0.four
  go_wp2_with fail
  refine (rCheck_ok hD.out hk2).mono ?_
  rintro e w2 ⟨rfl, hb2⟩
  have hB2 : Below w.heap.size w w2 := hB1.trans (hb2.mono hB1.size)
  replace q0 := keep_blk hb2 q0
  clear a0 a1 a2 a3 hb2
  obtain ⟨a0, a1, a2, a3, -⟩ := q0.four
  go_wp2_with fail
  go_ret
  exact ⟨rfl, hB2⟩

set_option maxRecDepth 100000 in
set_option maxHeartbeats 1000000 in
theorem rfCheck_bad4 (na : Bool) (A B : Option Addr) (n c d : Nat) (la : List Nat) (w : World) (ha : Lim w A n c la) (hb : Lim w B 0 d []) (hk : okW na la = true) :
    Calls Tryz.prog 100 #[.agg #[.bool na, .slice A n c, .bool false, .slice B 0 d]] w fun e w' => e = .returned (.int .i64 8) ∧ Below w.heap.size w w' := by
  have hmx : Tryz.prog.follows .mixedOrders = true := by kernel_rfl
  obtain ⟨W0, hW0, hB0, q0, s0⟩ := alloc1 w 32 #[.bool na, .slice A n c, .bool false, .slice B 0 d]
  have hA := hide (ha.below hB0)
  have hD := hide (hb.below hB0)
  clear ha hb
  obtain ⟨a0, a1, a2, a3, -⟩ := q0.four
  go_enter Tryz.func100, Tryz.ntmps100
  go_wp2_with fail
  refine (rCheck_ok hA.out hk).mono ?_
  rintro e w1 ⟨rfl, hb1⟩
  have hB1 : Below w.heap.size w w1 := hB0.trans (hb1.mono hB0.size)
  replace q0 := keep_blk hb1 q0
  replace hA := hide (hA.out.below hb1)
  replace hD := hide (hD.out.below hb1)
  clear hW0 a0 a1 a2 a3 hb1
  obtain ⟨a0, a1, a2, a3, -⟩ := q0.four
  go_wp2_with fail
  refine (rCheck_ok hD.out (by decide)).mono ?_
  rintro e w2 ⟨rfl, hb2⟩
  have hB2 : Below w.heap.size w w2 := hB1.trans (hb2.mono hB1.size)
  replace q0 := keep_blk hb2 q0
  clear a0 a1 a2 a3 hb2
  obtain ⟨a0, a1, a2, a3, -⟩ := q0.four
  go_wp2_with fail
  go_ret
  exact ⟨rfl, hB2⟩

set_option maxRecDepth 100000 in
set_option maxHeartbeats 1000000 in
theorem rfCheck_bad5 (na : Bool) (A B : Option Addr) (n c m d : Nat) (za zb : Int) (w : World) (h1 : Wd w na A n c za) (h2 : Wd w false B m d zb) (hp : 0 < zb) (hg : Nat.gcd za.natAbs zb.natAbs ≠ 1) :
    Calls Tryz.prog 100 #[.agg #[.bool na, .slice A n c, .bool false, .slice B m d]] w fun e w' => e = .returned (.int .i64 8) ∧ Below w.heap.size w w' := by
  have hmx : Tryz.prog.follows .mixedOrders = true := by kernel_rfl
  have hm0 : 0 < m := by rw [← h2.lim.len]; exact length_digits_pos.2 (by omega)
  have hm0' : ((m : Int) == 0) = false := by simp; omega
  have hm := h2.2.1
  have hgs := gcd_small h1.small h2.small
  obtain ⟨G, hG0⟩ : ∃ G, Nat.gcd za.natAbs zb.natAbs = G := ⟨_, rfl⟩
  rw [hG0] at hg hgs
  replace hg := hide hg
  obtain ⟨W0, hW0, hB0, q0, s0⟩ := alloc1 w 32 #[.bool na, .slice A n c, .bool false, .slice B m d]
  have hA := hide (And.intro (h1.below hB0) (h2.below hB0))
  clear h1 h2
  obtain ⟨a0, a1, a2, a3, -⟩ := q0.four
  replace q0 := hide q0
  go_enter Tryz.func100, Tryz.ntmps100
  go_wp2_with fail
  refine (rCheck_ok hA.out.1.lim hA.out.1.ok).mono ?_
  rintro e w1 ⟨rfl, hb1⟩
  have hB1 : Below w.heap.size w w1 := hB0.trans (hb1.mono hB0.size)
  replace hA := hide (And.intro (hA.out.1.below hb1) (hA.out.2.below hb1))
  replace q0 := hide (keep_blk hb1 q0.out)
  clear a0 a1 a2 a3 hb1 hB0 hW0
  obtain ⟨a0, a1, a2, a3, -⟩ := q0.out.four
  go_wp2_with fail
  refine (rCheck_ok hA.out.2.lim hA.out.2.ok).mono ?_
  rintro e w2 ⟨rfl, hb2⟩
  have hB2 : Below w.heap.size w w2 := hB1.trans (hb2.mono hB1.size)
  replace hA := hide (And.intro (hA.out.1.below hb2) (hA.out.2.below hb2))
  replace q0 := hide (keep_blk hb2 q0.out)
  clear a0 a1 a2 a3 hb2 hB1
  obtain ⟨a0, a1, a2, a3, -⟩ := q0.out.four
  go_wp2_with fail
  refine (rGcd_ok na false A B n c m d za zb w2 hA.out.1 hA.out.2).mono ?_
  rw [hG0]
  rintro e w3 ⟨hb3, ng, Ag, kg, cg, code, rfl, hR⟩
  have hG := hide (hR.small (by rw [Int.natAbs_natCast]; exact hgs))
  have hB3 : Below w.heap.size w w3 := hB2.trans (hb3.mono hB2.size)
  clear a0 a1 a2 a3 hb3 hB2 q0 hA hR
  obtain ⟨W4, hW4, hB4, q4, kW, kB, s4⟩ := new_obj 30 #[.bool ng, .slice Ag kg cg] hB3 hB3.size
  replace hG := hide (kW _ _ _ _ _ hG.out)
  clear kW kB
  obtain ⟨g0, g1, -⟩ := q4.two
  replace q4 := hide q4
  go_wp2_with fail
  refine wp_held [] (fun W' => W'.cell? ⟨w3.heap.size, 0, none⟩ = some (.bool ng) ∧ W'.cell? ⟨w3.heap.size, 1, none⟩ = some (.slice Ag kg cg)) hmx ⟨g0, g1⟩ (fun _ => ?_)
  refine wpAnyL_take (i := 0) (v := ?v1) rfl (by kernel_rfl) (by kernel_rfl) (by kernel_rfl) (by kernel_rfl) (by kernel_rfl) (Or.inl ⟨by rfl, ?hy1⟩) ⟨g0, g1⟩ ?rest1
  case hy1 => (intro W2 hSw; (try dsimp only at hSw); go_simp; try with_reducible rfl)
  try simp only [Act.put, List.setIfInBounds_toArray, List.set_cons_zero, List.set_cons_succ]
  refine wpAnyL_one (i := 1) rfl (by kernel_rfl) (fun K hK => ?_)
  go_simp
  refine (rFrom_any 1 W4.drew (by omega) (by omega)).mono ?_
  rintro e w5 ⟨hb5, n1, A1, k1, c1, rfl, hO⟩
  replace hb5 := below_drewL hb5
  have hB5 : Below w.heap.size w w5 := hB4.trans (hb5.mono (by show w.heap.size ≤ W4.heap.size; have := hB3.size; omega))
  replace hG := hide (hG.out.below hb5)
  replace q4 := hide (keep_blk hb5 q4.out)
  clear g0 g1
  obtain ⟨g0, g1, -⟩ := q4.out.two
  refine hK.out _ _ (fun _ => ⟨g0, g1⟩) ?_
  clear hK K
  try simp only [Act.put, List.setIfInBounds_toArray, List.set_cons_zero, List.set_cons_succ]
  refine wpAnyL_one (i := 2) rfl (by kernel_rfl) (fun K hK => ?_)
  go_simp
  refine (rSame_any ng n1 Ag A1 kg cg k1 c1 _ _ w5 hG.out.lim hO.lim).mono ?_
  have hsm : sameB ng n1 (digits (Int.natAbs ((G : Nat) : Int))) (digits (Int.natAbs 1)) = false := by have h1 := hG.out.1; have h2 := hO.1; rw [h1, h2]; unfold sameB; have := hg.out; simp [cmpL_digits, cmpZ]; omega
  rw [hsm]
  rintro e w6 ⟨rfl, hb6⟩
  have hB6 : Below w.heap.size w w6 := hB5.trans (hb6.mono hB5.size)
  replace q4 := hide (keep_blk hb6 q4.out)
  clear g0 g1
  obtain ⟨g0, g1, -⟩ := q4.out.two
  refine hK.out _ _ (fun _ => ⟨g0, g1⟩) ?_
  clear hK K
  try simp only [Act.put, List.setIfInBounds_toArray, List.set_cons_zero, List.set_cons_succ]
  refine wpAnyL_take (i := 3) (v := ?v2) rfl (by kernel_rfl) (by kernel_rfl) (by kernel_rfl) (by kernel_rfl) (by kernel_rfl) (Or.inl ⟨by rfl, ?hy2⟩) ⟨g0, g1⟩ ?rest2
  case hy2 => (intro W2 hSw; (try dsimp only at hSw); go_simp; try with_reducible rfl)
  try simp only [Act.put, List.setIfInBounds_toArray, List.set_cons_zero, List.set_cons_succ]
  refine wpAnyL_done (by kernel_rfl) ?_ _
  refine OnlyNormal.normal ?_
  go_wp2_with fail
  go_ret
  exact ⟨rfl, hB6⟩

/-- The error of a raw fraction. -/
theorem rfCheck_any (na nb : Bool) (A B : Option Addr) (n c m d : Nat) (la lb : List Nat) (w : World) (ha : Lim w A n c la) (hb : Lim w B m d lb) (x : Bool) (hx : okF na la nb lb = x) :
    Calls Tryz.prog 100 #[.agg #[.bool na, .slice A n c, .bool nb, .slice B m d]] w fun e w' => e = .returned (.int .i64 (errOf x)) ∧ Below w.heap.size w w' := by
  cases x
  · simp only [okF, Bool.and_eq_false_iff, Bool.not_eq_false', decide_eq_false_iff_not] at hx
    by_cases h1 : okW na la = true
    case neg => exact rfCheck_bad1 na nb A B n c m d la lb w ha hb (by simpa using h1)
    by_cases h2 : okW nb lb = true
    case neg => exact rfCheck_bad2 na nb A B n c m d la lb w ha hb h1 (by simpa using h2)
    have hA := Wd.of_ok ha h1
    have hD := Wd.of_ok hb h2
    cases nb
    · by_cases hz : 0 < lb.length
      · have e3 : sg false (val lb) = (val lb : Nat) := rfl
        rw [e3] at hD
        have h2' := (okW_iff hb.lt).1 h2
        have e2 : (sg false (val lb)).natAbs = val lb := sg_natAbs _ _
        rw [e2] at h2'
        have hp : 0 < val lb := by
          rw [h2'.2.2] at hz
          exact length_digits_pos.1 hz
        refine rfCheck_bad5 na A B n c m d _ _ w hA hD (by omega) ?_
        rw [sg_natAbs, Int.natAbs_natCast]
        rcases hx with (((hx | hx) | hx) | hx) | hx
        · rw [h1] at hx; cases hx
        · rw [h2] at hx; cases hx
        · cases hx
        · omega
        · exact hx
      · have hl0 : lb = [] := List.eq_nil_of_length_eq_zero (by omega)
        subst hl0
        have hm : m = 0 := hb.len.symm
        subst hm
        exact rfCheck_bad4 na A B n c d la w ha hb h1
    · exact rfCheck_bad3 na A B n c m d la lb w ha hb h1 h2
  · exact rfCheck_ok na nb A B n c m d _ w (raw_fr ha hb hx)

set_option maxRecDepth 100000 in
set_option maxHeartbeats 1000000 in
theorem rfBoth_any (na nb na' nb' : Bool) (A B A' B' : Option Addr) (n c m d n' c' m' d' : Nat) (la lb la' lb' : List Nat) (w : World) (ha : Lim w A n c la) (hb : Lim w B m d lb) (ha' : Lim w A' n' c' la') (hb' : Lim w B' m' d' lb') (x y : Bool) (hx : okF na la nb lb = x) (hy : okF na' la' nb' lb' = y) :
    Calls Tryz.prog 82 #[.agg #[.bool na, .slice A n c, .bool nb, .slice B m d], .agg #[.bool na', .slice A' n' c', .bool nb', .slice B' m' d']] w fun e w' => e = .returned (.int .i64 (errOf (x && y))) ∧ Below w.heap.size w w' := by
  obtain ⟨W0, hW0, hB0, ⟨q0, q1⟩, s0⟩ := alloc2 w 32 #[.bool na, .slice A n c, .bool nb, .slice B m d] 32 #[.bool na', .slice A' n' c', .bool nb', .slice B' m' d']
  have hA := hide (And.intro (ha.below hB0) (hb.below hB0))
  have hD := hide (And.intro (ha'.below hB0) (hb'.below hB0))
  clear ha hb ha' hb'
  obtain ⟨a0, a1, a2, a3, -⟩ := q0.four
  go_enter Tryz.func82, Tryz.ntmps82
  go_wp2_with fail
  refine (rfCheck_any na nb A B n c m d la lb W0 hA.out.1 hA.out.2 x hx).mono ?_
  rintro e w1 ⟨rfl, hb1⟩
  have hB1 : Below w.heap.size w w1 := hB0.trans (hb1.mono hB0.size)
  replace hD := hide (And.intro (hD.out.1.below hb1) (hD.out.2.below hb1))
  replace hA := hide (And.intro (hA.out.1.below hb1) (hA.out.2.below hb1))
  replace q0 := keep_blk hb1 q0
  replace q1 := keep_blk hb1 q1
  clear hW0 hb1 a0 a1 a2 a3
  cases x
  · obtain ⟨a0, a1, a2, a3, -⟩ := q0.four
    simp only [errOf, Bool.false_eq_true, if_false, Bool.false_and]
    go_wp2_with fail
    refine (rfCheck_any na nb A B n c m d la lb w1 hA.out.1 hA.out.2 false hx).mono ?_
    rintro e w2 ⟨rfl, hb2⟩
    have hB2 : Below w.heap.size w w2 := hB1.trans (hb2.mono hB1.size)
    go_wp2_with fail
    go_ret
    exact ⟨rfl, hB2⟩
  · obtain ⟨b0, b1, b2, b3, -⟩ := q1.four
    simp only [errOf, if_true, Bool.true_and]
    go_wp2_with fail
    refine (rfCheck_any na' nb' A' B' n' c' m' d' la' lb' w1 hD.out.1 hD.out.2 y hy).mono ?_
    rintro e w2 ⟨rfl, hb2⟩
    have hB2 : Below w.heap.size w w2 := hB1.trans (hb2.mono hB1.size)
    go_wp2_with fail
    go_ret
    exact ⟨rfl, hB2⟩

/-- What comparing two raw fractions gives. -/
def cmpR (na na' : Bool) (la lb la' lb' : List Nat) (ok : Bool) : Int := if ok then cmpQ (qOf na la lb) (qOf na' la' lb') else 0

set_option maxRecDepth 100000 in
set_option maxHeartbeats 1000000 in
theorem rfCmp_any (na nb na' nb' : Bool) (A B A' B' : Option Addr) (n c m d n' c' m' d' : Nat) (la lb la' lb' : List Nat) (w : World) (ha : Lim w A n c la) (hb : Lim w B m d lb) (ha' : Lim w A' n' c' la') (hb' : Lim w B' m' d' lb') (hn : n ≤ 6 ∧ m ≤ 6 ∧ n' ≤ 6 ∧ m' ≤ 6) (x y : Bool) (hx : okF na la nb lb = x) (hy : okF na' la' nb' lb' = y) :
    Calls Tryz.prog 65 #[.agg #[.bool na, .slice A n c, .bool nb, .slice B m d], .agg #[.bool na', .slice A' n' c', .bool nb', .slice B' m' d']] w fun e w' => e = .returned (.tuple #[.int .i64 (cmpR na na' la lb la' lb' (x && y)), .int .i64 (errOf (x && y))]) ∧ Below w.heap.size w w' := by
  by_cases hxy : (x && y) = true
  · have hxy2 := hxy
    rw [Bool.and_eq_true] at hxy
    obtain ⟨rfl, rfl⟩ := hxy
    exact rfCmp_ok na nb na' nb' A B A' B' n c m d n' c' m' d' _ _ w (raw_fr ha hb hx) (raw_fr ha' hb' hy) (raw_sm ha hb hx hn.1 hn.2.1) (raw_sm ha' hb' hy hn.2.2.1 hn.2.2.2)
  have hF : (x && y) = false := by simpa using hxy
  rw [hF]
  obtain ⟨W0, hW0, hB0, ⟨q0, q1⟩, s0⟩ := alloc2 w 32 #[.bool na, .slice A n c, .bool nb, .slice B m d] 32 #[.bool na', .slice A' n' c', .bool nb', .slice B' m' d']
  have hA := hide (And.intro (ha.below hB0) (hb.below hB0))
  have hD := hide (And.intro (ha'.below hB0) (hb'.below hB0))
  clear ha hb ha' hb'
  obtain ⟨a0, a1, a2, a3, -⟩ := q0.four
  obtain ⟨b0, b1, b2, b3, -⟩ := q1.four
  go_enter Tryz.func65, Tryz.ntmps65
  go_wp2_with fail
  refine (rfBoth_any na nb na' nb' A B A' B' n c m d n' c' m' d' la lb la' lb' W0 hA.out.1 hA.out.2 hD.out.1 hD.out.2 x y hx hy).mono ?_
  rw [hF]
  rintro e w1 ⟨rfl, hb1⟩
  have hB1 : Below w.heap.size w w1 := hB0.trans (hb1.mono hB0.size)
  replace hD := hide (And.intro (hD.out.1.below hb1) (hD.out.2.below hb1))
  replace hA := hide (And.intro (hA.out.1.below hb1) (hA.out.2.below hb1))
  replace q0 := keep_blk hb1 q0
  replace q1 := keep_blk hb1 q1
  clear hW0 hb1 a0 a1 a2 a3 b0 b1 b2 b3
  obtain ⟨a0, a1, a2, a3, -⟩ := q0.four
  obtain ⟨b0, b1, b2, b3, -⟩ := q1.four
  simp only [errOf, Bool.false_eq_true, if_false, cmpR]
  go_wp2_with fail
  refine (rfBoth_any na nb na' nb' A B A' B' n c m d n' c' m' d' la lb la' lb' w1 hA.out.1 hA.out.2 hD.out.1 hD.out.2 x y hx hy).mono ?_
  rw [hF]
  rintro e w2 ⟨rfl, hb2⟩
  have hB2 : Below w.heap.size w w2 := hB1.trans (hb2.mono hB1.size)
  simp only [errOf, Bool.false_eq_true, if_false]
  go_wp2_with fail
  go_ret2
  exact ⟨rfl, hB2⟩
end Go.Proofs.YtkippclhbkjbmaaGreat

namespace Go.Proofs.YtkippclhbkjbmaaGreat
open Go.RowKit
attribute [local go_sem] add_lit

set_option maxRecDepth 100000 in
set_option maxHeartbeats 2000000 in
theorem fCmp_bad1 (na nb na' nb' : Bool) (A B A' B' : Option Addr) (n c m d n' c' m' d' : Nat) (la lb la' lb' : List Nat) (w : World) (ha : Lim w A n c la) (hb : Lim w B m d lb) (ha' : Lim w A' n' c' la') (hb' : Lim w B' m' d' lb') (hx : okF na la nb lb = false) :
    Calls Tryz.prog 66 #[.agg #[.bool na, .slice A n c, .bool nb, .slice B m d], .agg #[.bool na', .slice A' n' c', .bool nb', .slice B' m' d']] w fun e w' => e = .returned (.tuple #[.int .i64 0, .int .i64 8]) ∧ Below w.heap.size w w' := by
  obtain ⟨W0, hW0, hB0, ⟨q0, q1, q2⟩, s0⟩ := alloc3 w 32 #[.bool na, .slice A n c, .bool nb, .slice B m d] 32 #[.bool na', .slice A' n' c', .bool nb', .slice B' m' d'] 35 #[.int .i64 0]
  have hA := hide (And.intro (ha.below hB0) (hb.below hB0))
  have hD := hide (And.intro (ha'.below hB0) (hb'.below hB0))
  clear ha hb ha' hb'
  obtain ⟨a0, a1, a2, a3, -⟩ := q0.four
  have hq := hide (And.intro q0 (And.intro q1 q2))
  clear q0 q1 q2
  go_enter_defers Tryz.func66, Tryz.ntmps66
  go_wp2_with fail
  refine (fCheck_any na nb A B n c m d la lb W0 hA.out.1 hA.out.2 false hx).mono ?_
  simp only [errOf, Bool.false_eq_true, if_false]
  rintro e w1 ⟨rfl, hb1⟩
  have hB1 : Below w.heap.size w w1 := hB0.trans (hb1.mono hB0.size)
  have s1 : W0.heap.size ≤ w1.heap.size := hb1.size
  replace hD := hide (And.intro (hD.out.1.below hb1) (hD.out.2.below hb1))
  obtain ⟨q0, q1, q2⟩ := hq.out
  replace q0 := keep_blk hb1 q0
  replace q1 := keep_blk hb1 q1
  replace q2 := keep_blk hb1 q2
  clear hW0 hq hb1 hB0 a0 a1 a2 a3 hA
  replace q2 := hide q2
  clear q0 q1
  go_wp2_with fail
  refine (want_fall 8 w1 rfl).mono ?_
  rintro e w1 ⟨rfl, rfl⟩
  replace q2 := q2.out
  go_wp2_with fail
  refine leaves_cons (f := 70) (args := #[.pointer (some ⟨w.heap.size + 1 + 1, 0, none⟩)]) (by simp) (by simp [go_sem]) ?_
  have e0 := q2.cell 0
  simp at e0
  refine (catch_fall ⟨w.heap.size + 1 + 1, 0, none⟩ 8 0 _ e0 (q2.frozen 0)).mono ?_
  rintro e u' w'' ⟨rfl, rfl, hw⟩
  obtain ⟨V, hV, hBV, -, -, hk, sV⟩ := new_obj 129 #[.int .i64 8] hB1 (by have := (hB1).size; omega)
  obtain ⟨U, hU, hBU, q3, -⟩ := set_code 8 hBV (by omega) (hk _ _ _ q2)
  rw [hV, hU] at hw
  subst hw
  have r4 := q3.cell 0
  simp at r4
  refine ⟨.tuple #[.int .i64 0, .int .i64 8], by simp [results, Tryz.results66, go_sem, r4], rfl, hBU⟩

set_option maxRecDepth 100000 in
set_option maxHeartbeats 2000000 in
theorem fCmp_bad2 (na nb na' nb' : Bool) (A B A' B' : Option Addr) (n c m d n' c' m' d' : Nat) (la lb la' lb' : List Nat) (w : World) (ha : Lim w A n c la) (hb : Lim w B m d lb) (ha' : Lim w A' n' c' la') (hb' : Lim w B' m' d' lb') (hx : okF na la nb lb = true) (hy : okF na' la' nb' lb' = false) :
    Calls Tryz.prog 66 #[.agg #[.bool na, .slice A n c, .bool nb, .slice B m d], .agg #[.bool na', .slice A' n' c', .bool nb', .slice B' m' d']] w fun e w' => e = .returned (.tuple #[.int .i64 0, .int .i64 8]) ∧ Below w.heap.size w w' := by
  obtain ⟨W0, hW0, hB0, ⟨q0, q1, q2⟩, s0⟩ := alloc3 w 32 #[.bool na, .slice A n c, .bool nb, .slice B m d] 32 #[.bool na', .slice A' n' c', .bool nb', .slice B' m' d'] 35 #[.int .i64 0]
  have hA := hide (And.intro (ha.below hB0) (hb.below hB0))
  have hD := hide (And.intro (ha'.below hB0) (hb'.below hB0))
  clear ha hb ha' hb'
  obtain ⟨a0, a1, a2, a3, -⟩ := q0.four
  have hq := hide (And.intro q0 (And.intro q1 q2))
  clear q0 q1 q2
  go_enter_defers Tryz.func66, Tryz.ntmps66
  go_wp2_with fail
  refine (fCheck_any na nb A B n c m d la lb W0 hA.out.1 hA.out.2 true hx).mono ?_
  simp only [errOf, if_true]
  rintro e w1 ⟨rfl, hb1⟩
  have hB1 : Below w.heap.size w w1 := hB0.trans (hb1.mono hB0.size)
  have s1 : W0.heap.size ≤ w1.heap.size := hb1.size
  replace hD := hide (And.intro (hD.out.1.below hb1) (hD.out.2.below hb1))
  obtain ⟨q0, q1, q2⟩ := hq.out
  replace q0 := keep_blk hb1 q0
  replace q1 := keep_blk hb1 q1
  replace q2 := keep_blk hb1 q2
  clear hW0 hq hb1 hB0 a0 a1 a2 a3 hA
  obtain ⟨b0, b1, b2, b3, -⟩ := q1.four
  replace q2 := hide q2
  clear q0 q1
  go_wp2_with fail
  refine (want_ok w1).mono ?_
  rintro e w1 ⟨rfl, rfl⟩
  go_wp2_with fail
  refine (fCheck_any na' nb' A' B' n' c' m' d' la' lb' w1 hD.out.1 hD.out.2 false hy).mono ?_
  simp only [errOf, Bool.false_eq_true, if_false]
  rintro e w2 ⟨rfl, hb2⟩
  have hB2 : Below w.heap.size w w2 := hB1.trans (hb2.mono hB1.size)
  have s2 : w1.heap.size ≤ w2.heap.size := hb2.size
  replace q2 := hide (keep_blk hb2 q2.out)
  clear b0 b1 b2 b3
  go_wp2_with fail
  refine (want_fall 8 w2 rfl).mono ?_
  rintro e w2 ⟨rfl, rfl⟩
  replace q2 := q2.out
  go_wp2_with fail
  refine leaves_cons (f := 70) (args := #[.pointer (some ⟨w.heap.size + 1 + 1, 0, none⟩)]) (by simp) (by simp [go_sem]) ?_
  have e0 := q2.cell 0
  simp at e0
  refine (catch_fall ⟨w.heap.size + 1 + 1, 0, none⟩ 8 0 _ e0 (q2.frozen 0)).mono ?_
  rintro e u' w'' ⟨rfl, rfl, hw⟩
  obtain ⟨V, hV, hBV, -, -, hk, sV⟩ := new_obj 129 #[.int .i64 8] hB2 (by have := (hB2).size; omega)
  obtain ⟨U, hU, hBU, q3, -⟩ := set_code 8 hBV (by omega) (hk _ _ _ q2)
  rw [hV, hU] at hw
  subst hw
  have r4 := q3.cell 0
  simp at r4
  refine ⟨.tuple #[.int .i64 0, .int .i64 8], by simp [results, Tryz.results66, go_sem, r4], rfl, hBU⟩

theorem fCmp_any (na nb na' nb' : Bool) (A B A' B' : Option Addr) (n c m d n' c' m' d' : Nat) (la lb la' lb' : List Nat) (w : World) (ha : Lim w A n c la) (hb : Lim w B m d lb) (ha' : Lim w A' n' c' la') (hb' : Lim w B' m' d' lb') (hn : n ≤ 6 ∧ m ≤ 6 ∧ n' ≤ 6 ∧ m' ≤ 6) (x y : Bool) (hx : okF na la nb lb = x) (hy : okF na' la' nb' lb' = y) :
    Calls Tryz.prog 66 #[.agg #[.bool na, .slice A n c, .bool nb, .slice B m d], .agg #[.bool na', .slice A' n' c', .bool nb', .slice B' m' d']] w fun e w' => e = .returned (.tuple #[.int .i64 (cmpR na na' la lb la' lb' (x && y)), .int .i64 (errOf (x && y))]) ∧ Below w.heap.size w w' := by
  cases x
  · exact fCmp_bad1 na nb na' nb' A B A' B' n c m d n' c' m' d' la lb la' lb' w ha hb ha' hb' hx
  · cases y
    · exact fCmp_bad2 na nb na' nb' A B A' B' n c m d n' c' m' d' la lb la' lb' w ha hb ha' hb' hx hy
    · exact fCmp_ok na nb na' nb' A B A' B' n c m d n' c' m' d' _ _ w (raw_fr ha hb hx) (raw_fr ha' hb' hy) (raw_sm ha hb hx hn.1 hn.2.1) (raw_sm ha' hb' hy hn.2.2.1 hn.2.2.2)
end Go.Proofs.YtkippclhbkjbmaaGreat
