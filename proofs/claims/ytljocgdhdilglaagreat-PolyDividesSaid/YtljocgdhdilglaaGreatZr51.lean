/- Reference of frac: Check, both, Cmp of raw fractions. The reference of fractions: Plus, Minus, Times, Few, Great. -/
import Derived.Laws.Small
import Derived.Test.YtljocgdhdilglaaGreatZr50
import Derived.Test.YtljocgdhdilglaaGreatZr48
set_option linter.unusedSimpArgs false
set_option linter.unusedVariables false

namespace Go.Proofs.YtljocgdhdilglaaGreat
open Go.RowKit
attribute [local go_sem] add_lit

set_option maxRecDepth 100000 in
set_option maxHeartbeats 1000000 in
theorem rfCheck_bad1 (na nb : Bool) (A B : Option Addr) (n c m d : Nat) (la lb : List Nat) (w : World) (ha : Lim w A n c la) (hb : Lim w B m d lb) (hbad : okW na la = false) :
    Calls Tryz.prog 10 #[.agg #[.bool na, .slice A n c, .bool nb, .slice B m d]] w fun e w' => e = .returned (.int .i64 8) ∧ Below w.heap.size w w' := by
  have hmx : Tryz.prog.follows .mixedOrders = true := by kernel_rfl
  obtain ⟨W0, hW0, hB0, q0, s0⟩ := alloc1 w 27 #[.bool na, .slice A n c, .bool nb, .slice B m d]
  have hA := hide (ha.below hB0)
  clear ha hb
  obtain ⟨a0, a1, a2, a3, -⟩ := q0.four
  go_enter Tryz.func10, Tryz.ntmps10
  go_wp2_with fail
  refine (rCheck_bad hA.out hbad).mono ?_
  rintro e w1 ⟨rfl, hb1⟩
  have hB1 : Below w.heap.size w w1 := hB0.trans (hb1.mono hB0.size)
  clear hW0 a0 a1 a2 a3
  obtain ⟨a0, a1, a2, a3, -⟩ := (keep_blk hb1 q0).four
  go_wp2_with fail
  go_ret
  exact ⟨rfl, hB1⟩

set_option maxRecDepth 100000 in
set_option maxHeartbeats 1000000 in
theorem rfCheck_bad2 (na nb : Bool) (A B : Option Addr) (n c m d : Nat) (la lb : List Nat) (w : World) (ha : Lim w A n c la) (hb : Lim w B m d lb) (hk : okW na la = true) (hbad : okW nb lb = false) :
    Calls Tryz.prog 10 #[.agg #[.bool na, .slice A n c, .bool nb, .slice B m d]] w fun e w' => e = .returned (.int .i64 8) ∧ Below w.heap.size w w' := by
  have hmx : Tryz.prog.follows .mixedOrders = true := by kernel_rfl
  obtain ⟨W0, hW0, hB0, q0, s0⟩ := alloc1 w 27 #[.bool na, .slice A n c, .bool nb, .slice B m d]
  have hA := hide (ha.below hB0)
  have hD := hide (hb.below hB0)
  clear ha hb
  obtain ⟨a0, a1, a2, a3, -⟩ := q0.four
  go_enter Tryz.func10, Tryz.ntmps10
  go_wp2_with fail
  refine (rCheck_ok hA.out hk).mono ?_
  rintro e w1 ⟨rfl, hb1⟩
  have hB1 : Below w.heap.size w w1 := hB0.trans (hb1.mono hB0.size)
  replace q0 := keep_blk hb1 q0
  replace hA := hide (hA.out.below hb1)
  replace hD := hide (hD.out.below hb1)
  clear hW0 a0 a1 a2 a3 hb1
  obtain ⟨a0, a1, a2, a3, -⟩ := q0.four
  go_wp2_with fail
  refine (rCheck_bad hD.out hbad).mono ?_
  rintro e w2 ⟨rfl, hb2⟩
  have hB2 : Below w.heap.size w w2 := hB1.trans (hb2.mono hB1.size)
  replace q0 := keep_blk hb2 q0
  clear a0 a1 a2 a3 hb2
  obtain ⟨a0, a1, a2, a3, -⟩ := q0.four
  go_wp2_with fail
  go_ret
  exact ⟨rfl, hB2⟩

set_option maxRecDepth 100000 in
set_option maxHeartbeats 1000000 in
theorem rfCheck_bad3 (na : Bool) (A B : Option Addr) (n c m d : Nat) (la lb : List Nat) (w : World) (ha : Lim w A n c la) (hb : Lim w B m d lb) (hk : okW na la = true) (hk2 : okW true lb = true) :
    Calls Tryz.prog 10 #[.agg #[.bool na, .slice A n c, .bool true, .slice B m d]] w fun e w' => e = .returned (.int .i64 8) ∧ Below w.heap.size w w' := by
  have hmx : Tryz.prog.follows .mixedOrders = true := by kernel_rfl
  obtain ⟨W0, hW0, hB0, q0, s0⟩ := alloc1 w 27 #[.bool na, .slice A n c, .bool true, .slice B m d]
  have hA := hide (ha.below hB0)
  have hD := hide (hb.below hB0)
  clear ha hb
  obtain ⟨a0, a1, a2, a3, -⟩ := q0.four
  go_enter Tryz.func10, Tryz.ntmps10
  go_wp2_with fail
  refine (rCheck_ok hA.out hk).mono ?_
  rintro e w1 ⟨rfl, hb1⟩
  have hB1 : Below w.heap.size w w1 := hB0.trans (hb1.mono hB0.size)
  replace q0 := keep_blk hb1 q0
  replace hA := hide (hA.out.below hb1)
  replace hD := hide (hD.out.below hb1)
  clear hW0 a0 a1 a2 a3 hb1
  obtain ⟨a0, a1, a2, a3, -⟩ := q0.four
  go_wp2_with fail
  refine (rCheck_ok hD.out hk2).mono ?_
  rintro e w2 ⟨rfl, hb2⟩
  have hB2 : Below w.heap.size w w2 := hB1.trans (hb2.mono hB1.size)
  replace q0 := keep_blk hb2 q0
  clear a0 a1 a2 a3 hb2
  obtain ⟨a0, a1, a2, a3, -⟩ := q0.four
  go_wp2_with fail
  go_ret
  exact ⟨rfl, hB2⟩

set_option maxRecDepth 100000 in
set_option maxHeartbeats 1000000 in
theorem rfCheck_bad4 (na : Bool) (A B : Option Addr) (n c d : Nat) (la : List Nat) (w : World) (ha : Lim w A n c la) (hb : Lim w B 0 d []) (hk : okW na la = true) :
    Calls Tryz.prog 10 #[.agg #[.bool na, .slice A n c, .bool false, .slice B 0 d]] w fun e w' => e = .returned (.int .i64 8) ∧ Below w.heap.size w w' := by
  have hmx : Tryz.prog.follows .mixedOrders = true := by kernel_rfl
  obtain ⟨W0, hW0, hB0, q0, s0⟩ := alloc1 w 27 #[.bool na, .slice A n c, .bool false, .slice B 0 d]
  have hA := hide (ha.below hB0)
  have hD := hide (hb.below hB0)
  clear ha hb
  obtain ⟨a0, a1, a2, a3, -⟩ := q0.four
  go_enter Tryz.func10, Tryz.ntmps10
  go_wp2_with fail
  refine (rCheck_ok hA.out hk).mono ?_
  rintro e w1 ⟨rfl, hb1⟩
  have hB1 : Below w.heap.size w w1 := hB0.trans (hb1.mono hB0.size)
  replace q0 := keep_blk hb1 q0
  replace hA := hide (hA.out.below hb1)
  replace hD := hide (hD.out.below hb1)
  clear hW0 a0 a1 a2 a3 hb1
  obtain ⟨a0, a1, a2, a3, -⟩ := q0.four
  go_wp2_with fail
  refine (rCheck_ok hD.out (by decide)).mono ?_
  rintro e w2 ⟨rfl, hb2⟩
  have hB2 : Below w.heap.size w w2 := hB1.trans (hb2.mono hB1.size)
  replace q0 := keep_blk hb2 q0
  clear a0 a1 a2 a3 hb2
  obtain ⟨a0, a1, a2, a3, -⟩ := q0.four
  go_wp2_with fail
  go_ret
  exact ⟨rfl, hB2⟩

set_option maxRecDepth 100000 in
set_option maxHeartbeats 1000000 in
theorem rfCheck_bad5 (na : Bool) (A B : Option Addr) (n c m d : Nat) (za zb : Int) (w : World) (h1 : Wd w na A n c za) (h2 : Wd w false B m d zb) (hp : 0 < zb) (hg : Nat.gcd za.natAbs zb.natAbs ≠ 1) :
    Calls Tryz.prog 10 #[.agg #[.bool na, .slice A n c, .bool false, .slice B m d]] w fun e w' => e = .returned (.int .i64 8) ∧ Below w.heap.size w w' := by
  have hmx : Tryz.prog.follows .mixedOrders = true := by kernel_rfl
  have hm0 : 0 < m := by rw [← h2.lim.len]; exact length_digits_pos.2 (by omega)
  have hm0' : ((m : Int) == 0) = false := by simp; omega
  have hm := h2.2.1
  have hgs := gcd_small h1.small h2.small
  obtain ⟨G, hG0⟩ : ∃ G, Nat.gcd za.natAbs zb.natAbs = G := ⟨_, rfl⟩
  rw [hG0] at hg hgs
  replace hg := hide hg
  obtain ⟨W0, hW0, hB0, q0, s0⟩ := alloc1 w 27 #[.bool na, .slice A n c, .bool false, .slice B m d]
  have hA := hide (And.intro (h1.below hB0) (h2.below hB0))
  clear h1 h2
  obtain ⟨a0, a1, a2, a3, -⟩ := q0.four
  replace q0 := hide q0
  go_enter Tryz.func10, Tryz.ntmps10
  go_wp2_with fail
  refine (rCheck_ok hA.out.1.lim hA.out.1.ok).mono ?_
  rintro e w1 ⟨rfl, hb1⟩
  have hB1 : Below w.heap.size w w1 := hB0.trans (hb1.mono hB0.size)
  replace hA := hide (And.intro (hA.out.1.below hb1) (hA.out.2.below hb1))
  replace q0 := hide (keep_blk hb1 q0.out)
  clear a0 a1 a2 a3 hb1 hB0 hW0
  obtain ⟨a0, a1, a2, a3, -⟩ := q0.out.four
  go_wp2_with fail
  refine (rCheck_ok hA.out.2.lim hA.out.2.ok).mono ?_
  rintro e w2 ⟨rfl, hb2⟩
  have hB2 : Below w.heap.size w w2 := hB1.trans (hb2.mono hB1.size)
  replace hA := hide (And.intro (hA.out.1.below hb2) (hA.out.2.below hb2))
  replace q0 := hide (keep_blk hb2 q0.out)
  clear a0 a1 a2 a3 hb2 hB1
  obtain ⟨a0, a1, a2, a3, -⟩ := q0.out.four
  go_wp2_with fail
  refine (rGcd_ok na false A B n c m d za zb w2 hA.out.1 hA.out.2).mono ?_
  rw [hG0]
  rintro e w3 ⟨hb3, ng, Ag, kg, cg, code, rfl, hR⟩
  have hG := hide (hR.small (by rw [Int.natAbs_natCast]; exact hgs))
  have hB3 : Below w.heap.size w w3 := hB2.trans (hb3.mono hB2.size)
  clear a0 a1 a2 a3 hb3 hB2 q0 hA hR
  obtain ⟨W4, hW4, hB4, q4, kW, kB, s4⟩ := new_obj 25 #[.bool ng, .slice Ag kg cg] hB3 hB3.size
  replace hG := hide (kW _ _ _ _ _ hG.out)
  clear kW kB
  obtain ⟨g0, g1, -⟩ := q4.two
  replace q4 := hide q4
  go_wp2_with fail
  refine wp_held [] (fun W' => W'.cell? ⟨w3.heap.size, 0, none⟩ = some (.bool ng) ∧ W'.cell? ⟨w3.heap.size, 1, none⟩ = some (.slice Ag kg cg)) hmx ⟨g0, g1⟩ (fun _ => ?_)
  refine wpAnyL_take (i := 0) (v := ?v1) rfl (by kernel_rfl) (by kernel_rfl) (by kernel_rfl) (by kernel_rfl) (by kernel_rfl) (Or.inl ⟨by rfl, ?hy1⟩) ⟨g0, g1⟩ ?rest1
  case hy1 => (intro W2 hSw; (try dsimp only at hSw); go_simp; try with_reducible rfl)
  try simp only [Act.put, List.setIfInBounds_toArray, List.set_cons_zero, List.set_cons_succ]
  refine wpAnyL_one (i := 1) rfl (by kernel_rfl) (fun K hK => ?_)
  go_simp
  refine (rFrom_any 1 W4.drew (by omega) (by omega)).mono ?_
  rintro e w5 ⟨hb5, n1, A1, k1, c1, rfl, hO⟩
  replace hb5 := below_drewL hb5
  have hB5 : Below w.heap.size w w5 := hB4.trans (hb5.mono (by show w.heap.size ≤ W4.heap.size; have := hB3.size; omega))
  replace hG := hide (hG.out.below hb5)
  replace q4 := hide (keep_blk hb5 q4.out)
  clear g0 g1
  obtain ⟨g0, g1, -⟩ := q4.out.two
  refine hK.out _ _ (fun _ => ⟨g0, g1⟩) ?_
  clear hK K
  try simp only [Act.put, List.setIfInBounds_toArray, List.set_cons_zero, List.set_cons_succ]
  refine wpAnyL_one (i := 2) rfl (by kernel_rfl) (fun K hK => ?_)
  go_simp
  refine (rSame_any ng n1 Ag A1 kg cg k1 c1 _ _ w5 hG.out.lim hO.lim).mono ?_
  have hsm : sameB ng n1 (digits (Int.natAbs ((G : Nat) : Int))) (digits (Int.natAbs 1)) = false := by have h1 := hG.out.1; have h2 := hO.1; rw [h1, h2]; unfold sameB; have := hg.out; simp [cmpL_digits, cmpZ]; omega
  rw [hsm]
  rintro e w6 ⟨rfl, hb6⟩
  have hB6 : Below w.heap.size w w6 := hB5.trans (hb6.mono hB5.size)
  replace q4 := hide (keep_blk hb6 q4.out)
  clear g0 g1
  obtain ⟨g0, g1, -⟩ := q4.out.two
  refine hK.out _ _ (fun _ => ⟨g0, g1⟩) ?_
  clear hK K
  try simp only [Act.put, List.setIfInBounds_toArray, List.set_cons_zero, List.set_cons_succ]
  refine wpAnyL_take (i := 3) (v := ?v2) rfl (by kernel_rfl) (by kernel_rfl) (by kernel_rfl) (by kernel_rfl) (by kernel_rfl) (Or.inl ⟨by rfl, ?hy2⟩) ⟨g0, g1⟩ ?rest2
  case hy2 => (intro W2 hSw; (try dsimp only at hSw); go_simp; try with_reducible rfl)
  try simp only [Act.put, List.setIfInBounds_toArray, List.set_cons_zero, List.set_cons_succ]
  refine wpAnyL_done (by kernel_rfl) ?_ _
  refine OnlyNormal.normal ?_
  go_wp2_with fail
  go_ret
  exact ⟨rfl, hB6⟩

/-- The error of a raw fraction. -/
theorem rfCheck_any (na nb : Bool) (A B : Option Addr) (n c m d : Nat) (la lb : List Nat) (w : World) (ha : Lim w A n c la) (hb : Lim w B m d lb) (x : Bool) (hx : okF na la nb lb = x) :
    Calls Tryz.prog 10 #[.agg #[.bool na, .slice A n c, .bool nb, .slice B m d]] w fun e w' => e = .returned (.int .i64 (errOf x)) ∧ Below w.heap.size w w' := by
  cases x
  · simp only [okF, Bool.and_eq_false_iff, Bool.not_eq_false', decide_eq_false_iff_not] at hx
    by_cases h1 : okW na la = true
    case neg => exact rfCheck_bad1 na nb A B n c m d la lb w ha hb (by simpa using h1)
    by_cases h2 : okW nb lb = true
    case neg => exact rfCheck_bad2 na nb A B n c m d la lb w ha hb h1 (by simpa using h2)
    have hA := Wd.of_ok ha h1
    have hD := Wd.of_ok hb h2
    cases nb
    · by_cases hz : 0 < lb.length
      · have e3 : sg false (val lb) = (val lb : Nat) := rfl
        rw [e3] at hD
        have h2' := (okW_iff hb.lt).1 h2
        have e2 : (sg false (val lb)).natAbs = val lb := sg_natAbs _ _
        rw [e2] at h2'
        have hp : 0 < val lb := by
          rw [h2'.2.2] at hz
          exact length_digits_pos.1 hz
        refine rfCheck_bad5 na A B n c m d _ _ w hA hD (by omega) ?_
        rw [sg_natAbs, Int.natAbs_natCast]
        rcases hx with (((hx | hx) | hx) | hx) | hx
        · rw [h1] at hx; cases hx
        · rw [h2] at hx; cases hx
        · cases hx
        · omega
        · exact hx
      · have hl0 : lb = [] := List.eq_nil_of_length_eq_zero (by omega)
        subst hl0
        have hm : m = 0 := hb.len.symm
        subst hm
        exact rfCheck_bad4 na A B n c d la w ha hb h1
    · exact rfCheck_bad3 na A B n c m d la lb w ha hb h1 h2
  · exact rfCheck_ok na nb A B n c m d _ w (raw_fr ha hb hx)

/-- What comparing two raw fractions gives. -/
def cmpR (na na' : Bool) (la lb la' lb' : List Nat) (ok : Bool) : Int := if ok then cmpQ (qOf na la lb) (qOf na' la' lb') else 0

end Go.Proofs.YtljocgdhdilglaaGreat

namespace Go.Proofs.YtljocgdhdilglaaGreat
open Go.RowKit
attribute [local go_sem] add_lit

set_option maxRecDepth 100000 in
set_option maxHeartbeats 1000000 in
theorem rfPlus_ok (na nb na' nb' : Bool) (A B A' B' : Option Addr) (n c m d n' c' m' d' : Nat) (a b : Rat) (w : World) (ha : Fr w na A n c nb B m d a) (hb : Fr w na' A' n' c' nb' B' m' d' b) (sa : Sm a) (sb : Sm b) :
    Calls Tryz.prog 24 #[.agg #[.bool na, .slice A n c, .bool nb, .slice B m d], .agg #[.bool na', .slice A' n' c', .bool nb', .slice B' m' d']] w (FracE w (a + b)) := by
  obtain ⟨W0, hW0, hB0, ⟨q0, q1, q2⟩, s0⟩ := alloc3 w 27 #[.bool na, .slice A n c, .bool nb, .slice B m d] 27 #[.bool na', .slice A' n' c', .bool nb', .slice B' m' d'] 27 #[.bool false, .slice none 0 0, .bool false, .slice none 0 0]
  replace ha := hide (ha.below hB0)
  replace hb := hide (hb.below hB0)
  obtain ⟨a0, a1, a2, a3, -⟩ := q0.four
  obtain ⟨b0, b1, b2, b3, -⟩ := q1.four
  go_enter Tryz.func24, Tryz.ntmps24
  go_wp2_with fail
  refine (radded_Add na nb na' nb' A B A' B' n c m d n' c' m' d' a b W0 ha.out hb.out sa sb).mono ?_
  rintro e w1 ⟨hb1, nx, Ax, kx, cx, ny, Ay, ky, cy, rfl, hF⟩
  have hB1 := hB0.trans (hb1.mono hB0.size)
  replace q2 := hide (keep_blk hb1 q2)
  replace hF := hide hF
  clear a0 a1 a2 a3 b0 b1 b2 b3 hW0
  obtain ⟨c20, c21, c22, c23, f20, f21, f22, f23⟩ := q2.out.four
  obtain ⟨W7, hW7, hB7, q3, kW, -, s7⟩ := set_frac nx Ax kx cx ny Ay ky cy hB1 (by omega) q2.out
  obtain ⟨r0, r1, r2, r3, -⟩ := q3.four
  go_wp2_with fail
  refine bodyPost_ret (v := .tuple #[.agg #[.bool nx, .slice Ax kx cx, .bool ny, .slice Ay ky cy], .int .i64 0]) (by simp [results, Tryz.results24, go_sem, r0, r1, r2, r3]) rfl ?_
  exact ⟨hB7, _, _, _, _, _, _, _, _, rfl, kW _ _ _ _ _ hF.out.1, kW _ _ _ _ _ hF.out.2⟩

set_option maxRecDepth 100000 in
set_option maxHeartbeats 1000000 in
theorem rfMinus_ok (na nb na' nb' : Bool) (A B A' B' : Option Addr) (n c m d n' c' m' d' : Nat) (a b : Rat) (w : World) (ha : Fr w na A n c nb B m d a) (hb : Fr w na' A' n' c' nb' B' m' d' b) (sa : Sm a) (sb : Sm b) :
    Calls Tryz.prog 25 #[.agg #[.bool na, .slice A n c, .bool nb, .slice B m d], .agg #[.bool na', .slice A' n' c', .bool nb', .slice B' m' d']] w (FracE w (a - b)) := by
  obtain ⟨W0, hW0, hB0, ⟨q0, q1, q2⟩, s0⟩ := alloc3 w 27 #[.bool na, .slice A n c, .bool nb, .slice B m d] 27 #[.bool na', .slice A' n' c', .bool nb', .slice B' m' d'] 27 #[.bool false, .slice none 0 0, .bool false, .slice none 0 0]
  replace ha := hide (ha.below hB0)
  replace hb := hide (hb.below hB0)
  obtain ⟨a0, a1, a2, a3, -⟩ := q0.four
  obtain ⟨b0, b1, b2, b3, -⟩ := q1.four
  go_enter Tryz.func25, Tryz.ntmps25
  go_wp2_with fail
  refine (radded_Sub na nb na' nb' A B A' B' n c m d n' c' m' d' a b W0 ha.out hb.out sa sb).mono ?_
  rintro e w1 ⟨hb1, nx, Ax, kx, cx, ny, Ay, ky, cy, rfl, hF⟩
  have hB1 := hB0.trans (hb1.mono hB0.size)
  replace q2 := hide (keep_blk hb1 q2)
  replace hF := hide hF
  clear a0 a1 a2 a3 b0 b1 b2 b3 hW0
  obtain ⟨c20, c21, c22, c23, f20, f21, f22, f23⟩ := q2.out.four
  obtain ⟨W7, hW7, hB7, q3, kW, -, s7⟩ := set_frac nx Ax kx cx ny Ay ky cy hB1 (by omega) q2.out
  obtain ⟨r0, r1, r2, r3, -⟩ := q3.four
  go_wp2_with fail
  refine bodyPost_ret (v := .tuple #[.agg #[.bool nx, .slice Ax kx cx, .bool ny, .slice Ay ky cy], .int .i64 0]) (by simp [results, Tryz.results25, go_sem, r0, r1, r2, r3]) rfl ?_
  exact ⟨hB7, _, _, _, _, _, _, _, _, rfl, kW _ _ _ _ _ hF.out.1, kW _ _ _ _ _ hF.out.2⟩

set_option maxRecDepth 100000 in
set_option maxHeartbeats 1000000 in
theorem rfTimes_ok (na nb na' nb' : Bool) (A B A' B' : Option Addr) (n c m d n' c' m' d' : Nat) (a b : Rat) (w : World) (ha : Fr w na A n c nb B m d a) (hb : Fr w na' A' n' c' nb' B' m' d' b) (sa : Sm a) (sb : Sm b) :
    Calls Tryz.prog 26 #[.agg #[.bool na, .slice A n c, .bool nb, .slice B m d], .agg #[.bool na', .slice A' n' c', .bool nb', .slice B' m' d']] w (FracE w (a * b)) := by
  obtain ⟨W0, hW0, hB0, ⟨q0, q1, q2⟩, s0⟩ := alloc3 w 27 #[.bool na, .slice A n c, .bool nb, .slice B m d] 27 #[.bool na', .slice A' n' c', .bool nb', .slice B' m' d'] 27 #[.bool false, .slice none 0 0, .bool false, .slice none 0 0]
  replace ha := hide (ha.below hB0)
  replace hb := hide (hb.below hB0)
  have hH := rproduct_ok na na' nb nb' A A' B B' n c n' c' m d m' d' a.num b.num a.den b.den W0 ha.out.1 hb.out.1 ha.out.2 hb.out.2 (sm_mul' sa.1 sb.1) (sm_mul' sa.dn sb.dn) (den_mul_pos a b)
  rw [rat_mul] at hH
  replace hH := hide hH
  obtain ⟨a0, a1, a2, a3, -⟩ := q0.four
  obtain ⟨b0, b1, b2, b3, -⟩ := q1.four
  go_enter Tryz.func26, Tryz.ntmps26
  go_wp2_with fail
  refine (hH.out).mono ?_
  rintro e w1 ⟨hb1, nx, Ax, kx, cx, ny, Ay, ky, cy, rfl, hF⟩
  have hB1 := hB0.trans (hb1.mono hB0.size)
  replace q2 := hide (keep_blk hb1 q2)
  replace hF := hide hF
  clear a0 a1 a2 a3 b0 b1 b2 b3 hW0
  obtain ⟨c20, c21, c22, c23, f20, f21, f22, f23⟩ := q2.out.four
  obtain ⟨W7, hW7, hB7, q3, kW, -, s7⟩ := set_frac nx Ax kx cx ny Ay ky cy hB1 (by omega) q2.out
  obtain ⟨r0, r1, r2, r3, -⟩ := q3.four
  go_wp2_with fail
  refine bodyPost_ret (v := .tuple #[.agg #[.bool nx, .slice Ax kx cx, .bool ny, .slice Ay ky cy], .int .i64 0]) (by simp [results, Tryz.results26, go_sem, r0, r1, r2, r3]) rfl ?_
  exact ⟨hB7, _, _, _, _, _, _, _, _, rfl, kW _ _ _ _ _ hF.out.1, kW _ _ _ _ _ hF.out.2⟩

set_option maxRecDepth 100000 in
theorem rfFew_ok (na nb : Bool) (A B : Option Addr) (n c m d : Nat) (w : World) :
    Calls Tryz.prog 11 #[.agg #[.bool na, .slice A n c, .bool nb, .slice B m d]] w fun e w' => e = .returned (.int .i64 ((max n m : Nat) : Int)) ∧ Below w.heap.size w w' := by
  have hmm : ((max n m : Nat) : Int) = max (n : Int) (m : Int) := by omega
  rw [hmm]
  replace hmm := hide hmm
  obtain ⟨W0, hW0, hB0, q0, s0⟩ := alloc1 w 27 #[.bool na, .slice A n c, .bool nb, .slice B m d]
  obtain ⟨a0, a1, a2, a3, -⟩ := q0.four
  go_enter Tryz.func11, Tryz.ntmps11
  go_wp2_with fail
  go_ret
  exact ⟨rfl, hB0⟩
set_option maxRecDepth 100000 in
theorem rfGreat_ok (na nb : Bool) (A B : Option Addr) (n c m d : Nat) (w : World) (b : Bool) (hb : (decide (130 < n) || decide (130 < m)) = b) :
    Calls Tryz.prog 9 #[.agg #[.bool na, .slice A n c, .bool nb, .slice B m d]] w fun e w' => e = .returned (.bool b) ∧ Below w.heap.size w w' := by
  obtain ⟨W0, hW0, hB0, q0, s0⟩ := alloc1 w 27 #[.bool na, .slice A n c, .bool nb, .slice B m d]
  obtain ⟨a0, a1, a2, a3, -⟩ := q0.four
  by_cases h1 : 130 < n
  · have t1 : decide ((130 : Int) < (n : Int)) = true := by simp; omega
    have t1' : decide (130 < n) = true := by simpa using h1
    obtain rfl : b = true := by rw [← hb, t1']; rfl
    go_enter Tryz.func9, Tryz.ntmps9
    go_wp2_with fail
    go_ret
    exact ⟨rfl, hB0⟩
  · have t1 : decide ((130 : Int) < (n : Int)) = false := by simp; omega
    have t1' : decide (130 < n) = false := by simpa using h1
    rw [t1', Bool.false_or] at hb
    have t2 : decide ((130 : Int) < (m : Int)) = b := by rw [← hb]; exact decide_eq_decide.2 (by omega)
    replace t2 := t2
    go_enter Tryz.func9, Tryz.ntmps9
    go_wp2_with fail
    go_ret
    exact ⟨rfl, hB0⟩
end Go.Proofs.YtljocgdhdilglaaGreat
