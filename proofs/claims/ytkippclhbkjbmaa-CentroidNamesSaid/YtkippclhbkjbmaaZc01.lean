/- Raw fractions: package frac's Check. Reference of frac: Check, both, Cmp of raw fractions. Package frac: Cmp of raw fractions. Package centroid: keep, compare, Holds of raw fractions. -/
import Derived.Test.YtkippclhbkjbmaaZn30
import Derived.Test.YtkippclhbkjbmaaZn27
import Derived.Test.YtkippclhbkjbmaaZn41
import Derived.Test.YtkippclhbkjbmaaZn54
set_option linter.unusedSimpArgs false
set_option linter.unusedVariables false

namespace Go.Proofs.Ytkippclhbkjbmaa
open Go.RowKit
attribute [local go_sem] add_lit

/-- Are signs and limbs those of a valid fraction? -/
def okF (na : Bool) (la : List Nat) (nb : Bool) (lb : List Nat) : Bool := okW na la && okW nb lb && !nb && decide (0 < lb.length) && decide (Nat.gcd (val la) (val lb) = 1)
/-- The fraction that they stand for. -/
def qOf (na : Bool) (la lb : List Nat) : Rat := Rat.divInt (sg na (val la)) (val lb : Nat)

theorem raw_fr {w : World} {na nb : Bool} {A B : Option Addr} {n c m d : Nat} {la lb : List Nat} (ha : Lim w A n c la) (hb : Lim w B m d lb) (hk : okF na la nb lb = true) : Fr w na A n c nb B m d (qOf na la lb) := by
  simp only [okF, Bool.and_eq_true, Bool.not_eq_true', decide_eq_true_eq] at hk
  obtain ⟨⟨⟨⟨k1, k2⟩, rfl⟩, k4⟩, k5⟩ := hk
  have h2 := (okW_iff hb.lt).1 k2
  have e2 : (sg false (val lb)).natAbs = val lb := sg_natAbs _ _
  rw [e2] at h2
  have hp : 0 < val lb := by
    rw [h2.2.2] at k4
    exact length_digits_pos.1 k4
  have hl : Low (sg na (val la)) (val lb : Nat) := ⟨by omega, by rw [sg_natAbs, Int.natAbs_natCast]; exact k5⟩
  obtain ⟨r1, r2⟩ := rat_low hl
  have w1 := Wd.of_ok ha k1
  have w2 := Wd.of_ok hb k2
  have e3 : sg false (val lb) = (val lb : Nat) := rfl
  rw [e3] at w2
  refine ⟨?_, ?_⟩
  · unfold qOf; rw [r1]; exact w1
  · unfold qOf; rw [r2]; exact w2
theorem raw_sm {w : World} {na nb : Bool} {A B : Option Addr} {n c m d : Nat} {la lb : List Nat} (ha : Lim w A n c la) (hb : Lim w B m d lb) (hk : okF na la nb lb = true) (hn : n ≤ 6) (hm : m ≤ 6) : Sm (qOf na la lb) := by
  simp only [okF, Bool.and_eq_true, Bool.not_eq_true', decide_eq_true_eq] at hk
  obtain ⟨⟨⟨⟨k1, k2⟩, rfl⟩, k4⟩, k5⟩ := hk
  have h2 := (okW_iff hb.lt).1 k2
  have e2 : (sg false (val lb)).natAbs = val lb := sg_natAbs _ _
  rw [e2] at h2
  have hp : 0 < val lb := by
    rw [h2.2.2] at k4
    exact length_digits_pos.1 k4
  have hl : Low (sg na (val la)) (val lb : Nat) := ⟨by omega, by rw [sg_natAbs, Int.natAbs_natCast]; exact k5⟩
  obtain ⟨r1, r2⟩ := rat_low hl
  refine ⟨?_, ?_⟩
  · unfold qOf; rw [r1, sg_natAbs]; exact Nat.lt_of_lt_of_le ha.lt_pw (pw_le (by omega))
  · have : (Rat.divInt (sg na (val la)) (val lb : Nat)).den = val lb := by omega
    unfold qOf; rw [this]; exact Nat.lt_of_lt_of_le hb.lt_pw (pw_le (by omega))

set_option maxRecDepth 100000 in
set_option maxHeartbeats 1000000 in
theorem fCheck_bad1 (na nb : Bool) (A B : Option Addr) (n c m d : Nat) (la lb : List Nat) (w : World) (ha : Lim w A n c la) (hb : Lim w B m d lb) (hbad : (okW na la && okW nb lb) = false) :
    Calls Try.prog 51 #[.agg #[.bool na, .slice A n c, .bool nb, .slice B m d]] w fun e w' => e = .returned (.int .i64 8) ∧ Below w.heap.size w w' := by
  have hmx : Try.prog.follows .mixedOrders = true := by kernel_rfl
  obtain ⟨W0, hW0, hB0, q0, s0⟩ := alloc1 w 29 #[.bool na, .slice A n c, .bool nb, .slice B m d]
  have hA := hide (ha.below hB0)
  have hD := hide (hb.below hB0)
  clear ha hb
  obtain ⟨a0, a1, a2, a3, -⟩ := q0.four
  replace q0 := hide q0
  go_enter Try.func51, Try.ntmps51
  go_wp2_with fail
  refine (Gcd_bad na nb A B n c m d la lb W0 hA.out hD.out hbad).mono ?_
  rintro e w1 ⟨rfl, hb1⟩
  have hB1 : Below w.heap.size w w1 := hB0.trans (hb1.mono hB0.size)
  clear hW0 a0 a1 a2 a3 hb1
  obtain ⟨W4, hW4, hB4, q4, kW, kB, s4⟩ := new_obj 27 #[.bool false, .slice none 0 0] hB1 hB1.size
  obtain ⟨g0, g1, f0, f1⟩ := q4.two
  go_wp2_with fail
  refine wp_held [] (fun wx => True) hmx trivial (fun _ => ?_)
  refine wpAnyL_one (i := 0) rfl (by kernel_rfl) (fun K hK => ?_)
  go_simp
  refine hK.out _ _ (fun _ => trivial) ?_
  clear hK K
  try simp only [Act.put, List.setIfInBounds_toArray, List.set_cons_zero, List.set_cons_succ]
  refine wpAnyL_one (i := 1) rfl (by kernel_rfl) (fun K hK => ?_)
  go_simp
  refine hK.out _ _ (fun _ => trivial) ?_
  clear hK K
  try simp only [Act.put, List.setIfInBounds_toArray, List.set_cons_zero, List.set_cons_succ]
  refine wpAnyL_one (i := 2) rfl (by kernel_rfl) (fun K hK => ?_)
  go_simp
  refine hK.out _ _ (fun _ => trivial) ?_
  clear hK K
  try simp only [Act.put, List.setIfInBounds_toArray, List.set_cons_zero, List.set_cons_succ]
  refine wpAnyL_one (i := 3) rfl (by kernel_rfl) (fun K hK => ?_)
  go_simp
  refine hK.out _ _ (fun _ => trivial) ?_
  clear hK K
  try simp only [Act.put, List.setIfInBounds_toArray, List.set_cons_zero, List.set_cons_succ]
  refine wpAnyL_one (i := 4) rfl (by kernel_rfl) (fun K hK => ?_)
  go_simp
  refine hK.out _ _ (fun _ => trivial) ?_
  clear hK K
  try simp only [Act.put, List.setIfInBounds_toArray, List.set_cons_zero, List.set_cons_succ]
  refine wpAnyL_one (i := 5) rfl (by kernel_rfl) (fun K hK => ?_)
  go_simp
  refine hK.out _ _ (fun _ => trivial) ?_
  clear hK K
  try simp only [Act.put, List.setIfInBounds_toArray, List.set_cons_zero, List.set_cons_succ]
  refine wpAnyL_one (i := 6) rfl (by kernel_rfl) (fun K hK => ?_)
  go_simp
  refine hK.out _ _ (fun _ => trivial) ?_
  clear hK K
  try simp only [Act.put, List.setIfInBounds_toArray, List.set_cons_zero, List.set_cons_succ]
  refine wpAnyL_one (i := 7) rfl (by kernel_rfl) (fun K hK => ?_)
  go_simp
  refine hK.out _ _ (fun _ => trivial) ?_
  clear hK K
  try simp only [Act.put, List.setIfInBounds_toArray, List.set_cons_zero, List.set_cons_succ]
  refine wpAnyL_one (i := 8) rfl (by kernel_rfl) (fun K hK => ?_)
  go_simp
  refine hK.out _ _ (fun _ => trivial) ?_
  clear hK K
  try simp only [Act.put, List.setIfInBounds_toArray, List.set_cons_zero, List.set_cons_succ]
  refine wpAnyL_one (i := 9) rfl (by kernel_rfl) (fun K hK => ?_)
  go_simp
  refine hK.out _ _ (fun _ => trivial) ?_
  clear hK K
  try simp only [Act.put, List.setIfInBounds_toArray, List.set_cons_zero, List.set_cons_succ]
  refine wpAnyL_one (i := 10) rfl (by kernel_rfl) (fun K hK => ?_)
  go_simp
  refine hK.out _ _ (fun _ => trivial) ?_
  clear hK K
  try simp only [Act.put, List.setIfInBounds_toArray, List.set_cons_zero, List.set_cons_succ]
  refine wpAnyL_one (i := 11) rfl (by kernel_rfl) (fun K hK => ?_)
  go_simp
  refine hK.out _ _ (fun _ => trivial) ?_
  clear hK K
  try simp only [Act.put, List.setIfInBounds_toArray, List.set_cons_zero, List.set_cons_succ]
  refine wpAnyL_one (i := 12) rfl (by kernel_rfl) (fun K hK => ?_)
  go_simp
  refine hK.out _ _ (fun _ => trivial) ?_
  clear hK K
  try simp only [Act.put, List.setIfInBounds_toArray, List.set_cons_zero, List.set_cons_succ]
  refine wpAnyL_take (i := 13) (v := undef) rfl (by kernel_rfl) (by kernel_rfl) (by kernel_rfl) (by kernel_rfl) (by kernel_rfl) (Or.inr ⟨by rfl, rfl⟩) trivial ?_
  try simp only [Act.put, List.setIfInBounds_toArray, List.set_cons_zero, List.set_cons_succ]
  refine wpAnyL_one (i := 14) rfl (by kernel_rfl) (fun K hK => ?_)
  go_simp
  refine hK.out _ _ (fun _ => trivial) ?_
  clear hK K
  try simp only [Act.put, List.setIfInBounds_toArray, List.set_cons_zero, List.set_cons_succ]
  refine wpAnyL_one (i := 15) rfl (by kernel_rfl) (fun K hK => ?_)
  go_simp
  refine hK.out _ _ (fun _ => trivial) ?_
  clear hK K
  try simp only [Act.put, List.setIfInBounds_toArray, List.set_cons_zero, List.set_cons_succ]
  refine wpAnyL_one (i := 16) rfl (by kernel_rfl) (fun K hK => ?_)
  go_simp
  refine hK.out _ _ (fun _ => trivial) ?_
  clear hK K
  try simp only [Act.put, List.setIfInBounds_toArray, List.set_cons_zero, List.set_cons_succ]
  refine wpAnyL_one (i := 17) rfl (by kernel_rfl) (fun K hK => ?_)
  go_simp
  refine hK.out _ _ (fun _ => trivial) ?_
  clear hK K
  try simp only [Act.put, List.setIfInBounds_toArray, List.set_cons_zero, List.set_cons_succ]
  refine wpAnyL_done (by kernel_rfl) ?_ _
  refine OnlyNormal.normal ?_
  go_wp2_with fail
  go_ret
  exact ⟨rfl, below_dn ((hB4.setCell (p := ⟨w1.heap.size, 0, none⟩) hB1.size (.bool false)).setCell (p := ⟨w1.heap.size, 1, none⟩) hB1.size (.slice none 0 0)) 1⟩

set_option maxRecDepth 100000 in
set_option maxHeartbeats 1000000 in
theorem fCheck_bad2 (na : Bool) (A B : Option Addr) (n c m d : Nat) (za zb : Int) (w : World) (ha : Wd w na A n c za) (hb : Wd w true B m d zb) :
    Calls Try.prog 51 #[.agg #[.bool na, .slice A n c, .bool true, .slice B m d]] w fun e w' => e = .returned (.int .i64 8) ∧ Below w.heap.size w w' := by
  have hmx : Try.prog.follows .mixedOrders = true := by kernel_rfl
  have hgs : Nat.gcd za.natAbs zb.natAbs < pw 4096 := gcd_small ha.small hb.small
  obtain ⟨W0, hW0, hB0, q0, s0⟩ := alloc1 w 29 #[.bool na, .slice A n c, .bool true, .slice B m d]
  have hA := hide (ha.below hB0)
  have hD := hide (hb.below hB0)
  clear ha hb
  obtain ⟨a0, a1, a2, a3, -⟩ := q0.four
  go_enter Try.func51, Try.ntmps51
  go_wp2_with fail
  refine (Gcd_ok na true A B n c m d za zb W0 hA.out hD.out).mono ?_
  rintro e w1 ⟨hb1, ng, Ag, kg, cg, code, rfl, hR⟩
  rcases hR with ⟨-, rfl, hgw⟩ | ⟨hbig, -⟩
  case inr => exact absurd hbig (by omega)
  have hB1 : Below w.heap.size w w1 := hB0.trans (hb1.mono hB0.size)
  replace q0 := keep_blk hb1 q0
  clear hW0 a0 a1 a2 a3 hb1
  obtain ⟨W4, hW4, hB4, q4, kW, kB, s4⟩ := new_obj 27 #[.bool ng, .slice Ag kg cg] hB1 hB1.size
  replace q0 := kB _ _ _ q0
  obtain ⟨g0, g1, f0, f1⟩ := q4.two
  obtain ⟨a0, a1, a2, a3, -⟩ := q0.four
  go_wp2_with fail
  refine wp_held [] (fun wx => wx.cell? ⟨w.heap.size, 2, none⟩ = some (.bool true)) hmx a2 (fun _ => ?_)
  refine wpAnyL_one (i := 0) rfl (by kernel_rfl) (fun K hK => ?_)
  go_simp
  refine hK.out _ _ (fun _ => a2) ?_
  clear hK K
  try simp only [Act.put, List.setIfInBounds_toArray, List.set_cons_zero, List.set_cons_succ]
  refine wpAnyL_one (i := 1) rfl (by kernel_rfl) (fun K hK => ?_)
  go_simp
  refine hK.out _ _ (fun _ => a2) ?_
  clear hK K
  try simp only [Act.put, List.setIfInBounds_toArray, List.set_cons_zero, List.set_cons_succ]
  refine wpAnyL_one (i := 2) rfl (by kernel_rfl) (fun K hK => ?_)
  go_simp
  refine hK.out _ _ (fun _ => a2) ?_
  clear hK K
  try simp only [Act.put, List.setIfInBounds_toArray, List.set_cons_zero, List.set_cons_succ]
  refine wpAnyL_one (i := 3) rfl (by kernel_rfl) (fun K hK => ?_)
  go_simp
  refine hK.out _ _ (fun _ => a2) ?_
  clear hK K
  try simp only [Act.put, List.setIfInBounds_toArray, List.set_cons_zero, List.set_cons_succ]
  refine wpAnyL_one (i := 4) rfl (by kernel_rfl) (fun K hK => ?_)
  go_simp
  refine hK.out _ _ (fun _ => a2) ?_
  clear hK K
  try simp only [Act.put, List.setIfInBounds_toArray, List.set_cons_zero, List.set_cons_succ]
  refine wpAnyL_one (i := 5) rfl (by kernel_rfl) (fun K hK => ?_)
  go_simp
  refine hK.out _ _ (fun _ => a2) ?_
  clear hK K
  try simp only [Act.put, List.setIfInBounds_toArray, List.set_cons_zero, List.set_cons_succ]
  refine wpAnyL_one (i := 6) rfl (by kernel_rfl) (fun K hK => ?_)
  go_simp
  refine hK.out _ _ (fun _ => a2) ?_
  clear hK K
  try simp only [Act.put, List.setIfInBounds_toArray, List.set_cons_zero, List.set_cons_succ]
  refine wpAnyL_one (i := 7) rfl (by kernel_rfl) (fun K hK => ?_)
  go_simp
  refine hK.out _ _ (fun _ => a2) ?_
  clear hK K
  try simp only [Act.put, List.setIfInBounds_toArray, List.set_cons_zero, List.set_cons_succ]
  refine wpAnyL_one (i := 8) rfl (by kernel_rfl) (fun K hK => ?_)
  go_simp
  refine hK.out _ _ (fun _ => a2) ?_
  clear hK K
  try simp only [Act.put, List.setIfInBounds_toArray, List.set_cons_zero, List.set_cons_succ]
  refine wpAnyL_one (i := 9) rfl (by kernel_rfl) (fun K hK => ?_)
  go_simp
  refine hK.out _ _ (fun _ => a2) ?_
  clear hK K
  try simp only [Act.put, List.setIfInBounds_toArray, List.set_cons_zero, List.set_cons_succ]
  refine wpAnyL_one (i := 10) rfl (by kernel_rfl) (fun K hK => ?_)
  go_simp
  refine hK.out _ _ (fun _ => a2) ?_
  clear hK K
  try simp only [Act.put, List.setIfInBounds_toArray, List.set_cons_zero, List.set_cons_succ]
  refine wpAnyL_one (i := 11) rfl (by kernel_rfl) (fun K hK => ?_)
  go_simp
  refine hK.out _ _ (fun _ => a2) ?_
  clear hK K
  try simp only [Act.put, List.setIfInBounds_toArray, List.set_cons_zero, List.set_cons_succ]
  refine wpAnyL_one (i := 12) rfl (by kernel_rfl) (fun K hK => ?_)
  go_simp
  refine hK.out _ _ (fun _ => a2) ?_
  clear hK K
  try simp only [Act.put, List.setIfInBounds_toArray, List.set_cons_zero, List.set_cons_succ]
  refine wpAnyL_take (i := 13) (v := undef) rfl (by kernel_rfl) (by kernel_rfl) (by kernel_rfl) (by kernel_rfl) (by kernel_rfl) (Or.inr ⟨by rfl, rfl⟩) a2 ?_
  try simp only [Act.put, List.setIfInBounds_toArray, List.set_cons_zero, List.set_cons_succ]
  refine wpAnyL_one (i := 14) rfl (by kernel_rfl) (fun K hK => ?_)
  go_simp
  refine hK.out _ _ (fun _ => a2) ?_
  clear hK K
  try simp only [Act.put, List.setIfInBounds_toArray, List.set_cons_zero, List.set_cons_succ]
  refine wpAnyL_one (i := 15) rfl (by kernel_rfl) (fun K hK => ?_)
  go_simp
  refine hK.out _ _ (fun _ => a2) ?_
  clear hK K
  try simp only [Act.put, List.setIfInBounds_toArray, List.set_cons_zero, List.set_cons_succ]
  refine wpAnyL_one (i := 16) rfl (by kernel_rfl) (fun K hK => ?_)
  go_simp
  refine hK.out _ _ (fun _ => a2) ?_
  clear hK K
  try simp only [Act.put, List.setIfInBounds_toArray, List.set_cons_zero, List.set_cons_succ]
  refine wpAnyL_one (i := 17) rfl (by kernel_rfl) (fun K hK => ?_)
  go_simp
  refine hK.out _ _ (fun _ => a2) ?_
  clear hK K
  try simp only [Act.put, List.setIfInBounds_toArray, List.set_cons_zero, List.set_cons_succ]
  refine wpAnyL_done (by kernel_rfl) ?_ _
  refine OnlyNormal.normal ?_
  go_wp2_with fail
  go_ret
  exact ⟨rfl, below_dn hB4 1⟩

set_option maxRecDepth 100000 in
set_option maxHeartbeats 1000000 in
theorem fCheck_bad3 (na : Bool) (A B : Option Addr) (n c d : Nat) (za : Int) (w : World) (ha : Wd w na A n c za) (hb : Wd w false B 0 d 0) :
    Calls Try.prog 51 #[.agg #[.bool na, .slice A n c, .bool false, .slice B 0 d]] w fun e w' => e = .returned (.int .i64 8) ∧ Below w.heap.size w w' := by
  have hmx : Try.prog.follows .mixedOrders = true := by kernel_rfl
  have hgs : Nat.gcd za.natAbs (Int.natAbs 0) < pw 4096 := gcd_small ha.small hb.small
  obtain ⟨W0, hW0, hB0, q0, s0⟩ := alloc1 w 29 #[.bool na, .slice A n c, .bool false, .slice B 0 d]
  have hA := hide (ha.below hB0)
  have hD := hide (hb.below hB0)
  clear ha hb
  obtain ⟨a0, a1, a2, a3, -⟩ := q0.four
  go_enter Try.func51, Try.ntmps51
  go_wp2_with fail
  refine (Gcd_ok na false A B n c 0 d za 0 W0 hA.out hD.out).mono ?_
  rintro e w1 ⟨hb1, ng, Ag, kg, cg, code, rfl, hR⟩
  rcases hR with ⟨-, rfl, hgw⟩ | ⟨hbig, -⟩
  case inr => exact absurd hbig (by omega)
  have hB1 : Below w.heap.size w w1 := hB0.trans (hb1.mono hB0.size)
  replace q0 := keep_blk hb1 q0
  clear hW0 a0 a1 a2 a3 hb1
  obtain ⟨W4, hW4, hB4, q4, kW, kB, s4⟩ := new_obj 27 #[.bool ng, .slice Ag kg cg] hB1 hB1.size
  replace q0 := kB _ _ _ q0
  obtain ⟨g0, g1, f0, f1⟩ := q4.two
  obtain ⟨a0, a1, a2, a3, -⟩ := q0.four
  go_wp2_with fail
  refine wp_held [] (fun wx => wx.cell? ⟨w.heap.size, 2, none⟩ = some (.bool false) ∧ wx.cell? ⟨w.heap.size, 3, none⟩ = some (.slice B 0 d)) hmx ⟨a2, a3⟩ (fun _ => ?_)
  refine wpAnyL_one (i := 0) rfl (by kernel_rfl) (fun K hK => ?_)
  go_simp
  refine hK.out _ _ (fun _ => ⟨a2, a3⟩) ?_
  clear hK K
  try simp only [Act.put, List.setIfInBounds_toArray, List.set_cons_zero, List.set_cons_succ]
  refine wpAnyL_one (i := 1) rfl (by kernel_rfl) (fun K hK => ?_)
  go_simp
  refine hK.out _ _ (fun _ => ⟨a2, a3⟩) ?_
  clear hK K
  try simp only [Act.put, List.setIfInBounds_toArray, List.set_cons_zero, List.set_cons_succ]
  refine wpAnyL_one (i := 2) rfl (by kernel_rfl) (fun K hK => ?_)
  go_simp
  refine hK.out _ _ (fun _ => ⟨a2, a3⟩) ?_
  clear hK K
  try simp only [Act.put, List.setIfInBounds_toArray, List.set_cons_zero, List.set_cons_succ]
  refine wpAnyL_one (i := 3) rfl (by kernel_rfl) (fun K hK => ?_)
  go_simp
  refine hK.out _ _ (fun _ => ⟨a2, a3⟩) ?_
  clear hK K
  try simp only [Act.put, List.setIfInBounds_toArray, List.set_cons_zero, List.set_cons_succ]
  refine wpAnyL_one (i := 4) rfl (by kernel_rfl) (fun K hK => ?_)
  go_simp
  refine hK.out _ _ (fun _ => ⟨a2, a3⟩) ?_
  clear hK K
  try simp only [Act.put, List.setIfInBounds_toArray, List.set_cons_zero, List.set_cons_succ]
  refine wpAnyL_one (i := 5) rfl (by kernel_rfl) (fun K hK => ?_)
  go_simp
  refine hK.out _ _ (fun _ => ⟨a2, a3⟩) ?_
  clear hK K
  try simp only [Act.put, List.setIfInBounds_toArray, List.set_cons_zero, List.set_cons_succ]
  refine wpAnyL_one (i := 6) rfl (by kernel_rfl) (fun K hK => ?_)
  go_simp
  refine hK.out _ _ (fun _ => ⟨a2, a3⟩) ?_
  clear hK K
  try simp only [Act.put, List.setIfInBounds_toArray, List.set_cons_zero, List.set_cons_succ]
  refine wpAnyL_one (i := 7) rfl (by kernel_rfl) (fun K hK => ?_)
  go_simp
  refine hK.out _ _ (fun _ => ⟨a2, a3⟩) ?_
  clear hK K
  try simp only [Act.put, List.setIfInBounds_toArray, List.set_cons_zero, List.set_cons_succ]
  refine wpAnyL_one (i := 8) rfl (by kernel_rfl) (fun K hK => ?_)
  go_simp
  refine hK.out _ _ (fun _ => ⟨a2, a3⟩) ?_
  clear hK K
  try simp only [Act.put, List.setIfInBounds_toArray, List.set_cons_zero, List.set_cons_succ]
  refine wpAnyL_one (i := 9) rfl (by kernel_rfl) (fun K hK => ?_)
  go_simp
  refine hK.out _ _ (fun _ => ⟨a2, a3⟩) ?_
  clear hK K
  try simp only [Act.put, List.setIfInBounds_toArray, List.set_cons_zero, List.set_cons_succ]
  refine wpAnyL_one (i := 10) rfl (by kernel_rfl) (fun K hK => ?_)
  go_simp
  refine (zero_any _ _ _ _ _ (by omega) true rfl).mono ?_
  rintro e w3 ⟨rfl, hb3⟩
  have hb3' := below_drewL hb3
  have k2 := keep_cell hb3' a2
  have k3 := keep_cell hb3' a3
  refine hK.out _ _ (fun _ => ⟨k2, k3⟩) ?_
  clear hK K
  try simp only [Act.put, List.setIfInBounds_toArray, List.set_cons_zero, List.set_cons_succ]
  refine wpAnyL_one (i := 11) rfl (by kernel_rfl) (fun K hK => ?_)
  go_simp
  refine hK.out _ _ (fun _ => ⟨k2, k3⟩) ?_
  clear hK K
  try simp only [Act.put, List.setIfInBounds_toArray, List.set_cons_zero, List.set_cons_succ]
  refine wpAnyL_one (i := 12) rfl (by kernel_rfl) (fun K hK => ?_)
  go_simp
  refine hK.out _ _ (fun _ => ⟨k2, k3⟩) ?_
  clear hK K
  try simp only [Act.put, List.setIfInBounds_toArray, List.set_cons_zero, List.set_cons_succ]
  refine wpAnyL_take (i := 13) (v := undef) rfl (by kernel_rfl) (by kernel_rfl) (by kernel_rfl) (by kernel_rfl) (by kernel_rfl) (Or.inr ⟨by rfl, rfl⟩) ⟨k2, k3⟩ ?_
  try simp only [Act.put, List.setIfInBounds_toArray, List.set_cons_zero, List.set_cons_succ]
  refine wpAnyL_one (i := 14) rfl (by kernel_rfl) (fun K hK => ?_)
  go_simp
  refine hK.out _ _ (fun _ => ⟨k2, k3⟩) ?_
  clear hK K
  try simp only [Act.put, List.setIfInBounds_toArray, List.set_cons_zero, List.set_cons_succ]
  refine wpAnyL_one (i := 15) rfl (by kernel_rfl) (fun K hK => ?_)
  go_simp
  refine hK.out _ _ (fun _ => ⟨k2, k3⟩) ?_
  clear hK K
  try simp only [Act.put, List.setIfInBounds_toArray, List.set_cons_zero, List.set_cons_succ]
  refine wpAnyL_one (i := 16) rfl (by kernel_rfl) (fun K hK => ?_)
  go_simp
  refine hK.out _ _ (fun _ => ⟨k2, k3⟩) ?_
  clear hK K
  try simp only [Act.put, List.setIfInBounds_toArray, List.set_cons_zero, List.set_cons_succ]
  refine wpAnyL_one (i := 17) rfl (by kernel_rfl) (fun K hK => ?_)
  go_simp
  refine hK.out _ _ (fun _ => ⟨k2, k3⟩) ?_
  clear hK K
  try simp only [Act.put, List.setIfInBounds_toArray, List.set_cons_zero, List.set_cons_succ]
  refine wpAnyL_done (by kernel_rfl) ?_ _
  refine OnlyNormal.normal ?_
  go_wp2_with fail
  go_ret
  exact ⟨rfl, hB4.trans (hb3'.mono hB4.size)⟩

/-- The error of a raw fraction. -/
theorem fCheck_any (na nb : Bool) (A B : Option Addr) (n c m d : Nat) (la lb : List Nat) (w : World) (ha : Lim w A n c la) (hb : Lim w B m d lb) (x : Bool) (hx : okF na la nb lb = x) :
    Calls Try.prog 51 #[.agg #[.bool na, .slice A n c, .bool nb, .slice B m d]] w fun e w' => e = .returned (.int .i64 (errOf x)) ∧ Below w.heap.size w w' := by
  cases x
  · simp only [okF, Bool.and_eq_false_iff, Bool.not_eq_false', decide_eq_false_iff_not] at hx
    by_cases h1 : (okW na la && okW nb lb) = true
    · have h1' := h1
      rw [Bool.and_eq_true] at h1
      have hA := Wd.of_ok ha h1.1
      have hD := Wd.of_ok hb h1.2
      cases nb
      · by_cases hz : 0 < lb.length
        · have e3 : sg false (val lb) = (val lb : Nat) := rfl
          rw [e3] at hD
          have h2 := (okW_iff hb.lt).1 h1.2
          have e2 : (sg false (val lb)).natAbs = val lb := sg_natAbs _ _
          rw [e2] at h2
          have hp : 0 < val lb := by
            rw [h2.2.2] at hz
            exact length_digits_pos.1 hz
          refine fCheck_pos na A B n c m d _ _ w hA hD (by omega) false ?_
          rw [sg_natAbs, Int.natAbs_natCast]
          rcases hx with (((hx | hx) | hx) | hx) | hx
          · rw [h1.1] at hx; cases hx
          · rw [h1.2] at hx; cases hx
          · cases hx
          · omega
          · simp; omega
        · have hl0 : lb = [] := List.eq_nil_of_length_eq_zero (by omega)
          subst hl0
          have hm : m = 0 := hb.len.symm
          subst hm
          exact fCheck_bad3 na A B n c d _ w hA hD
      · exact fCheck_bad2 na A B n c m d _ _ w hA hD
    · exact fCheck_bad1 na nb A B n c m d la lb w ha hb (by simpa using h1)
  · exact fCheck_ok na nb A B n c m d _ w (raw_fr ha hb hx)
end Go.Proofs.Ytkippclhbkjbmaa

namespace Go.Proofs.Ytkippclhbkjbmaa
open Go.RowKit
attribute [local go_sem] add_lit

/-- What comparing two raw fractions gives. -/
def cmpR (na na' : Bool) (la lb la' lb' : List Nat) (ok : Bool) : Int := if ok then cmpQ (qOf na la lb) (qOf na' la' lb') else 0

end Go.Proofs.Ytkippclhbkjbmaa

namespace Go.Proofs.Ytkippclhbkjbmaa
open Go.RowKit
attribute [local go_sem] add_lit

set_option maxRecDepth 100000 in
set_option maxHeartbeats 2000000 in
theorem fCmp_bad1 (na nb na' nb' : Bool) (A B A' B' : Option Addr) (n c m d n' c' m' d' : Nat) (la lb la' lb' : List Nat) (w : World) (ha : Lim w A n c la) (hb : Lim w B m d lb) (ha' : Lim w A' n' c' la') (hb' : Lim w B' m' d' lb') (hx : okF na la nb lb = false) :
    Calls Try.prog 44 #[.agg #[.bool na, .slice A n c, .bool nb, .slice B m d], .agg #[.bool na', .slice A' n' c', .bool nb', .slice B' m' d']] w fun e w' => e = .returned (.tuple #[.int .i64 0, .int .i64 8]) ∧ Below w.heap.size w w' := by
  obtain ⟨W0, hW0, hB0, ⟨q0, q1, q2⟩, s0⟩ := alloc3 w 29 #[.bool na, .slice A n c, .bool nb, .slice B m d] 29 #[.bool na', .slice A' n' c', .bool nb', .slice B' m' d'] 32 #[.int .i64 0]
  have hA := hide (And.intro (ha.below hB0) (hb.below hB0))
  have hD := hide (And.intro (ha'.below hB0) (hb'.below hB0))
  clear ha hb ha' hb'
  obtain ⟨a0, a1, a2, a3, -⟩ := q0.four
  have hq := hide (And.intro q0 (And.intro q1 q2))
  clear q0 q1 q2
  go_enter_defers Try.func44, Try.ntmps44
  go_wp2_with fail
  refine (fCheck_any na nb A B n c m d la lb W0 hA.out.1 hA.out.2 false hx).mono ?_
  simp only [errOf, Bool.false_eq_true, if_false]
  rintro e w1 ⟨rfl, hb1⟩
  have hB1 : Below w.heap.size w w1 := hB0.trans (hb1.mono hB0.size)
  have s1 : W0.heap.size ≤ w1.heap.size := hb1.size
  replace hD := hide (And.intro (hD.out.1.below hb1) (hD.out.2.below hb1))
  obtain ⟨q0, q1, q2⟩ := hq.out
  replace q0 := keep_blk hb1 q0
  replace q1 := keep_blk hb1 q1
  replace q2 := keep_blk hb1 q2
  clear hW0 hq hb1 hB0 a0 a1 a2 a3 hA
  replace q2 := hide q2
  clear q0 q1
  go_wp2_with fail
  refine (want_fall 8 w1 rfl).mono ?_
  rintro e w1 ⟨rfl, rfl⟩
  replace q2 := q2.out
  go_wp2_with fail
  refine leaves_cons (f := 49) (args := #[.pointer (some ⟨w.heap.size + 1 + 1, 0, none⟩)]) (by simp) (by simp [go_sem]) ?_
  have e0 := q2.cell 0
  simp at e0
  refine (catch_fall ⟨w.heap.size + 1 + 1, 0, none⟩ 8 0 _ e0 (q2.frozen 0)).mono ?_
  rintro e u' w'' ⟨rfl, rfl, hw⟩
  obtain ⟨V, hV, hBV, -, -, hk, sV⟩ := new_obj 99 #[.int .i64 8] hB1 (by have := (hB1).size; omega)
  obtain ⟨U, hU, hBU, q3, -⟩ := set_code 8 hBV (by omega) (hk _ _ _ q2)
  rw [hV, hU] at hw
  subst hw
  have r4 := q3.cell 0
  simp at r4
  refine ⟨.tuple #[.int .i64 0, .int .i64 8], by simp [results, Try.results44, go_sem, r4], rfl, hBU⟩

set_option maxRecDepth 100000 in
set_option maxHeartbeats 2000000 in
theorem fCmp_bad2 (na nb na' nb' : Bool) (A B A' B' : Option Addr) (n c m d n' c' m' d' : Nat) (la lb la' lb' : List Nat) (w : World) (ha : Lim w A n c la) (hb : Lim w B m d lb) (ha' : Lim w A' n' c' la') (hb' : Lim w B' m' d' lb') (hx : okF na la nb lb = true) (hy : okF na' la' nb' lb' = false) :
    Calls Try.prog 44 #[.agg #[.bool na, .slice A n c, .bool nb, .slice B m d], .agg #[.bool na', .slice A' n' c', .bool nb', .slice B' m' d']] w fun e w' => e = .returned (.tuple #[.int .i64 0, .int .i64 8]) ∧ Below w.heap.size w w' := by
  obtain ⟨W0, hW0, hB0, ⟨q0, q1, q2⟩, s0⟩ := alloc3 w 29 #[.bool na, .slice A n c, .bool nb, .slice B m d] 29 #[.bool na', .slice A' n' c', .bool nb', .slice B' m' d'] 32 #[.int .i64 0]
  have hA := hide (And.intro (ha.below hB0) (hb.below hB0))
  have hD := hide (And.intro (ha'.below hB0) (hb'.below hB0))
  clear ha hb ha' hb'
  obtain ⟨a0, a1, a2, a3, -⟩ := q0.four
  have hq := hide (And.intro q0 (And.intro q1 q2))
  clear q0 q1 q2
  go_enter_defers Try.func44, Try.ntmps44
  go_wp2_with fail
  refine (fCheck_any na nb A B n c m d la lb W0 hA.out.1 hA.out.2 true hx).mono ?_
  simp only [errOf, if_true]
  rintro e w1 ⟨rfl, hb1⟩
  have hB1 : Below w.heap.size w w1 := hB0.trans (hb1.mono hB0.size)
  have s1 : W0.heap.size ≤ w1.heap.size := hb1.size
  replace hD := hide (And.intro (hD.out.1.below hb1) (hD.out.2.below hb1))
  obtain ⟨q0, q1, q2⟩ := hq.out
  replace q0 := keep_blk hb1 q0
  replace q1 := keep_blk hb1 q1
  replace q2 := keep_blk hb1 q2
  clear hW0 hq hb1 hB0 a0 a1 a2 a3 hA
  obtain ⟨b0, b1, b2, b3, -⟩ := q1.four
  replace q2 := hide q2
  clear q0 q1
  go_wp2_with fail
  refine (want_ok w1).mono ?_
  rintro e w1 ⟨rfl, rfl⟩
  go_wp2_with fail
  refine (fCheck_any na' nb' A' B' n' c' m' d' la' lb' w1 hD.out.1 hD.out.2 false hy).mono ?_
  simp only [errOf, Bool.false_eq_true, if_false]
  rintro e w2 ⟨rfl, hb2⟩
  have hB2 : Below w.heap.size w w2 := hB1.trans (hb2.mono hB1.size)
  have s2 : w1.heap.size ≤ w2.heap.size := hb2.size
  replace q2 := hide (keep_blk hb2 q2.out)
  clear b0 b1 b2 b3
  go_wp2_with fail
  refine (want_fall 8 w2 rfl).mono ?_
  rintro e w2 ⟨rfl, rfl⟩
  replace q2 := q2.out
  go_wp2_with fail
  refine leaves_cons (f := 49) (args := #[.pointer (some ⟨w.heap.size + 1 + 1, 0, none⟩)]) (by simp) (by simp [go_sem]) ?_
  have e0 := q2.cell 0
  simp at e0
  refine (catch_fall ⟨w.heap.size + 1 + 1, 0, none⟩ 8 0 _ e0 (q2.frozen 0)).mono ?_
  rintro e u' w'' ⟨rfl, rfl, hw⟩
  obtain ⟨V, hV, hBV, -, -, hk, sV⟩ := new_obj 99 #[.int .i64 8] hB2 (by have := (hB2).size; omega)
  obtain ⟨U, hU, hBU, q3, -⟩ := set_code 8 hBV (by omega) (hk _ _ _ q2)
  rw [hV, hU] at hw
  subst hw
  have r4 := q3.cell 0
  simp at r4
  refine ⟨.tuple #[.int .i64 0, .int .i64 8], by simp [results, Try.results44, go_sem, r4], rfl, hBU⟩

theorem fCmp_any (na nb na' nb' : Bool) (A B A' B' : Option Addr) (n c m d n' c' m' d' : Nat) (la lb la' lb' : List Nat) (w : World) (ha : Lim w A n c la) (hb : Lim w B m d lb) (ha' : Lim w A' n' c' la') (hb' : Lim w B' m' d' lb') (hn : n ≤ 6 ∧ m ≤ 6 ∧ n' ≤ 6 ∧ m' ≤ 6) (x y : Bool) (hx : okF na la nb lb = x) (hy : okF na' la' nb' lb' = y) :
    Calls Try.prog 44 #[.agg #[.bool na, .slice A n c, .bool nb, .slice B m d], .agg #[.bool na', .slice A' n' c', .bool nb', .slice B' m' d']] w fun e w' => e = .returned (.tuple #[.int .i64 (cmpR na na' la lb la' lb' (x && y)), .int .i64 (errOf (x && y))]) ∧ Below w.heap.size w w' := by
  cases x
  · exact fCmp_bad1 na nb na' nb' A B A' B' n c m d n' c' m' d' la lb la' lb' w ha hb ha' hb' hx
  · cases y
    · exact fCmp_bad2 na nb na' nb' A B A' B' n c m d n' c' m' d' la lb la' lb' w ha hb ha' hb' hx hy
    · exact fCmp_ok na nb na' nb' A B A' B' n c m d n' c' m' d' _ _ w (raw_fr ha hb hx) (raw_fr ha' hb' hy) (raw_sm ha hb hx hn.1 hn.2.1) (raw_sm ha' hb' hy hn.2.2.1 hn.2.2.2)
end Go.Proofs.Ytkippclhbkjbmaa

namespace Go.Proofs.Ytkippclhbkjbmaa
open Go.RowKit
attribute [local go_sem] add_lit

/-- A calculator's error has turned; nothing else of what lay has. -/
def StepC (w w' : World) (gc : Nat) (t : TypeId) (e : Int) : Prop := Blk w' gc t #[.int .i64 e] ∧ Below gc w w'

set_option maxRecDepth 100000 in
set_option maxHeartbeats 1000000 in
theorem keep_any (gc : Nat) (t : TypeId) (na nb : Bool) (A B : Option Addr) (n c m d : Nat) (x e0 e1 : Int) (w : World) (hq : Blk w gc t #[.int .i64 e0]) (he : (if e0 = 0 then x else e0) = e1) :
    Calls Try.prog 19 #[.pointer (some ⟨gc, 0, none⟩), .agg #[.bool na, .slice A n c, .bool nb, .slice B m d], .int .i64 x] w fun e w' => e = .returned (.agg #[.bool na, .slice A n c, .bool nb, .slice B m d]) ∧ StepC w w' gc t e1 := by
  have hg : gc < w.heap.size := (Array.getElem?_eq_some_iff.1 hq).1
  obtain ⟨W0, hW0, hB, ⟨q0, q9⟩, s0⟩ := alloc2 w 29 #[.bool na, .slice A n c, .bool nb, .slice B m d] 29 #[.bool false, .slice none 0 0, .bool false, .slice none 0 0]
  replace hq := hq.below hB hg
  have c0 := hq.cell 0
  have f0 := hq.frozen 0
  simp at c0
  obtain ⟨a0, a1, a2, a3, -⟩ := q0.four
  obtain ⟨r0, r1, r2, r3, z0, z1, z2, z3⟩ := q9.four
  replace hB : Below gc w W0 := hB.mono (by omega)
  by_cases hz : e0 = 0
  · have t0 : (e0 == 0) = true := by simpa using hz
    obtain rfl : x = e1 := by rw [if_pos hz] at he; exact he
    clear he
    obtain ⟨V1, hV1, hB1, qc, hst⟩ := set_code x hB (Nat.le_refl _) hq
    have q0v := hst.2.1 _ _ _ (by omega) q0
    have q9v := hst.2.1 _ _ _ (by omega) q9
    obtain ⟨b0, b1, b2, b3, -⟩ := q0v.four
    obtain ⟨u0, u1, u2, u3, v0, v1, v2, v3⟩ := q9v.four
    obtain ⟨V, hV, hB2, q9', hst2⟩ := set_frac na A n c nb B m d hB1 (by omega) q9v
    have qcv := hst2.2.1 _ _ _ (by omega) qc
    go_enter Try.func19, Try.ntmps19
    go_wp2_with fail
    (try rw [hV])
    obtain ⟨r0, r1, r2, r3, -⟩ := q9'.four
    refine bodyPost_ret (v := .agg #[.bool na, .slice A n c, .bool nb, .slice B m d]) (by simp [results, Try.results19, go_sem, r0, r1, r2, r3]) rfl ?_
    exact ⟨rfl, qcv, hB2⟩
  · have t0 : (e0 == 0) = false := by simpa using hz
    obtain rfl : e0 = e1 := by rw [if_neg hz] at he; exact he
    clear he
    obtain ⟨V, hV, hB2, q9', hst2⟩ := set_frac na A n c nb B m d hB (by omega) q9
    have qcv := hst2.2.1 _ _ _ (by omega) hq
    go_enter Try.func19, Try.ntmps19
    go_wp2_with fail
    (try rw [hV])
    obtain ⟨r0, r1, r2, r3, -⟩ := q9'.four
    refine bodyPost_ret (v := .agg #[.bool na, .slice A n c, .bool nb, .slice B m d]) (by simp [results, Try.results19, go_sem, r0, r1, r2, r3]) rfl ?_
    exact ⟨rfl, qcv, hB2⟩

set_option maxRecDepth 100000 in
set_option maxHeartbeats 2000000 in
theorem compareR_any (gc : Nat) (t : TypeId) (na nb na' nb' : Bool) (A B A' B' : Option Addr) (n c m d n' c' m' d' : Nat) (la lb la' lb' : List Nat) (w : World) (ha : Lim w A n c la) (hb : Lim w B m d lb) (ha' : Lim w A' n' c' la') (hb' : Lim w B' m' d' lb') (hn : n ≤ 6 ∧ m ≤ 6 ∧ n' ≤ 6 ∧ m' ≤ 6) (x y : Bool) (hx : okF na la nb lb = x) (hy : okF na' la' nb' lb' = y)
    (e0 e1 z : Int) (hq : Blk w gc t #[.int .i64 e0]) (he : (if e0 = 0 then errOf (x && y) else e0) = e1) (hz : cmpR na na' la lb la' lb' (x && y) = z) :
    Calls Try.prog 25 #[.pointer (some ⟨gc, 0, none⟩), .agg #[.bool na, .slice A n c, .bool nb, .slice B m d], .agg #[.bool na', .slice A' n' c', .bool nb', .slice B' m' d']] w fun e w' => e = .returned (.int .i64 z) ∧ StepC w w' gc t e1 := by
  have hgc : gc < w.heap.size := (Array.getElem?_eq_some_iff.1 hq).1
  obtain ⟨W0, hW0, hB, ⟨qx, qy⟩, sz⟩ := alloc2 w 29 #[.bool na, .slice A n c, .bool nb, .slice B m d] 29 #[.bool na', .slice A' n' c', .bool nb', .slice B' m' d']
  replace hq := hq.below hB hgc
  replace ha := hide (And.intro (And.intro (ha.below hB) (hb.below hB)) (And.intro (ha'.below hB) (hb'.below hB)))
  clear hb ha' hb'
  obtain ⟨a0, a1, a2, a3, -⟩ := qx.four
  obtain ⟨b0, b1, b2, b3, -⟩ := qy.four
  obtain ⟨E, hE⟩ : ∃ E, errOf (x && y) = E := ⟨_, rfl⟩
  rw [hE] at he
  replace he := hide he
  go_enter Try.func25, Try.ntmps25
  go_wp2_with fail
  refine (fCmp_any na nb na' nb' A B A' B' n c m d n' c' m' d' la lb la' lb' W0 ha.out.1.1 ha.out.1.2 ha.out.2.1 ha.out.2.2 hn x y hx hy).mono ?_
  rw [hz, hE]
  rintro e w1 ⟨rfl, hb1⟩
  replace hB := hB.trans (hb1.mono hB.size)
  replace hq := keep_blk hb1 hq
  clear a0 a1 a2 a3 b0 b1 b2 b3 hW0 ha hz hE
  go_wp2_with fail
  refine (keep_any gc t false false none none 0 0 0 0 E e0 e1 w1 hq he.out).mono ?_
  rintro e w2 ⟨rfl, hq2, hb2⟩
  replace hB : Below gc w w2 := (hB.mono (by omega)).trans hb2
  go_wp2_with fail
  go_ret
  exact ⟨rfl, hq2, hB⟩

/-- The first error. -/
def accE (cs : List Int) : Nat → Int
  | 0 => 0
  | k + 1 => if accE cs k = 0 then cs[k]?.getD 0 else accE cs k


set_option maxRecDepth 100000 in
set_option maxHeartbeats 4000000 in
theorem holds_any (n0 m0 : Bool) (A0 B0 : Option Addr) (k0 c0 j0 d0 : Nat) (n1 m1 : Bool) (A1 B1 : Option Addr) (k1 c1 j1 d1 : Nat) (n2 m2 : Bool) (A2 B2 : Option Addr) (k2 c2 j2 d2 : Nat) (n3 m3 : Bool) (A3 B3 : Option Addr) (k3 c3 j3 d3 : Nat) (n4 m4 : Bool) (A4 B4 : Option Addr) (k4 c4 j4 d4 : Nat) (n5 m5 : Bool) (A5 B5 : Option Addr) (k5 c5 j5 d5 : Nat) (L0 M0 L1 M1 L2 M2 L3 M3 L4 M4 L5 M5 : List Nat) (x0 x1 x2 x3 x4 x5 : Bool) (w : World) (h0 : Lim w A0 k0 c0 L0) (g0 : Lim w B0 j0 d0 M0) (s0 : k0 ≤ 6 ∧ j0 ≤ 6) (t0 : okF n0 L0 m0 M0 = x0) (h1 : Lim w A1 k1 c1 L1) (g1 : Lim w B1 j1 d1 M1) (s1 : k1 ≤ 6 ∧ j1 ≤ 6) (t1 : okF n1 L1 m1 M1 = x1) (h2 : Lim w A2 k2 c2 L2) (g2 : Lim w B2 j2 d2 M2) (s2 : k2 ≤ 6 ∧ j2 ≤ 6) (t2 : okF n2 L2 m2 M2 = x2) (h3 : Lim w A3 k3 c3 L3) (g3 : Lim w B3 j3 d3 M3) (s3 : k3 ≤ 6 ∧ j3 ≤ 6) (t3 : okF n3 L3 m3 M3 = x3) (h4 : Lim w A4 k4 c4 L4) (g4 : Lim w B4 j4 d4 M4) (s4 : k4 ≤ 6 ∧ j4 ≤ 6) (t4 : okF n4 L4 m4 M4 = x4) (h5 : Lim w A5 k5 c5 L5) (g5 : Lim w B5 j5 d5 M5) (s5 : k5 ≤ 6 ∧ j5 ≤ 6) (t5 : okF n5 L5 m5 M5 = x5) (z0 z1 z2 z3 : Int) (hz0 : cmpR n0 n4 L0 M0 L4 M4 (x0 && x4) = z0) (hz1 : cmpR n4 n1 L4 M4 L1 M1 (x4 && x1) = z1) (hz2 : cmpR n2 n5 L2 M2 L5 M5 (x2 && x5) = z2) (hz3 : cmpR n5 n3 L5 M5 L3 M3 (x5 && x3) = z3) (r : Bool) (E : Int) (hr : accB [decide (z0 ≤ 0), decide (z1 ≤ 0), decide (z2 ≤ 0), decide (z3 ≤ 0)] 4 = r) (hE : accE [errOf (x0 && x4), errOf (x4 && x1), errOf (x2 && x5), errOf (x5 && x3)] 4 = E) :
    Calls Try.prog 10 #[.agg #[.bool n0, .slice A0 k0 c0, .bool m0, .slice B0 j0 d0, .bool n1, .slice A1 k1 c1, .bool m1, .slice B1 j1 d1, .bool n2, .slice A2 k2 c2, .bool m2, .slice B2 j2 d2, .bool n3, .slice A3 k3 c3, .bool m3, .slice B3 j3 d3], .agg #[.bool n4, .slice A4 k4 c4, .bool m4, .slice B4 j4 d4], .agg #[.bool n5, .slice A5 k5 c5, .bool m5, .slice B5 j5 d5]] w fun e w' => e = .returned (.tuple #[.bool (if E = 0 then r else false), .int .i64 (if E = 0 then 0 else 8)]) ∧ Below w.heap.size w w' := by
  obtain ⟨W0, hW0, hB, ⟨qb, qx, qy, qc⟩, sz⟩ := alloc4 w 38 #[.bool n0, .slice A0 k0 c0, .bool m0, .slice B0 j0 d0, .bool n1, .slice A1 k1 c1, .bool m1, .slice B1 j1 d1, .bool n2, .slice A2 k2 c2, .bool m2, .slice B2 j2 d2, .bool n3, .slice A3 k3 c3, .bool m3, .slice B3 j3 d3] 29 #[.bool n4, .slice A4 k4 c4, .bool m4, .slice B4 j4 d4] 29 #[.bool n5, .slice A5 k5 c5, .bool m5, .slice B5 j5 d5] 59 #[.int .i64 0]
  obtain ⟨R, hR⟩ : ∃ R, (if E = 0 then r else false) = R := ⟨_, rfl⟩
  obtain ⟨C, hC⟩ : ∃ C : Int, (if E = 0 then 0 else 8) = C := ⟨_, rfl⟩
  rw [hR, hC]
  replace hR := hide hR
  replace hC := hide hC
  have hHH := hide (And.intro (And.intro h0 g0) (And.intro (And.intro h1 g1) (And.intro (And.intro h2 g2) (And.intro (And.intro h3 g3) (And.intro (And.intro h4 g4) (And.intro h5 g5))))))
  clear h0 g0 h1 g1 h2 g2 h3 g3 h4 g4 h5 g5
  have b0 := qb.cell 0
  have b1 := qb.cell 1
  have b2 := qb.cell 2
  have b3 := qb.cell 3
  have b4 := qb.cell 4
  have b5 := qb.cell 5
  have b6 := qb.cell 6
  have b7 := qb.cell 7
  have b8 := qb.cell 8
  have b9 := qb.cell 9
  have b10 := qb.cell 10
  have b11 := qb.cell 11
  have b12 := qb.cell 12
  have b13 := qb.cell 13
  have b14 := qb.cell 14
  have b15 := qb.cell 15
  simp at b0 b1 b2 b3 b4 b5 b6 b7 b8 b9 b10 b11 b12 b13 b14 b15
  obtain ⟨y0, y1, y2, y3, -⟩ := qx.four
  obtain ⟨u0, u1, u2, u3, -⟩ := qy.four
  go_enter Try.func10, Try.ntmps10
  go_wp2_with fail
  clear hW0 y0 y1 y2 y3 u0 u1 u2 u3 b0 b1 b2 b3 b4 b5 b6 b7 b8 b9 b10 b11 b12 b13 b14 b15
  replace hr := hide hr
  replace hE := hide hE
  replace hz0 := hide hz0
  replace hz1 := hide hz1
  replace hz2 := hide hz2
  replace hz3 := hide hz3
  replace t0 := hide t0
  replace t1 := hide t1
  replace t2 := hide t2
  replace t3 := hide t3
  replace t4 := hide t4
  replace t5 := hide t5
  go_loopw [9, 29] (fun bv iv wr => ∃ i : Nat, i ≤ 4 ∧ iv = .int .i64 i ∧ bv = .bool (accB [decide (z0 ≤ 0), decide (z1 ≤ 0), decide (z2 ≤ 0), decide (z3 ≤ 0)] i) ∧ Below w.heap.size w wr ∧ W0.heap.size ≤ wr.heap.size ∧ Blk wr (w.heap.size + 1 + 1 + 1) 59 #[.int .i64 (accE [errOf (x0 && x4), errOf (x4 && x1), errOf (x2 && x5), errOf (x5 && x3)] i)]) (fun _ iv _ => 4 - (intOf iv).toNat)
  case atStart => exact ⟨0, by omega, rfl, rfl, hB, Nat.le_refl _, qc⟩
  case round =>
    clear hB qc
    obtain ⟨i, hi4, rfl, rfl, hbr, hsr, qcr⟩ := hrel
    rcases i with _ | _ | _ | _ | i
    · have hac : accB [decide (z0 ≤ 0), decide (z1 ≤ 0), decide (z2 ≤ 0), decide (z3 ≤ 0)] 1 = (decide (z0 ≤ 0) && accB [decide (z0 ≤ 0), decide (z1 ≤ 0), decide (z2 ≤ 0), decide (z3 ≤ 0)] 0) := rfl
      have hae : (if accE [errOf (x0 && x4), errOf (x4 && x1), errOf (x2 && x5), errOf (x5 && x3)] 0 = 0 then errOf (x0 && x4) else accE [errOf (x0 && x4), errOf (x4 && x1), errOf (x2 && x5), errOf (x5 && x3)] 0) = accE [errOf (x0 && x4), errOf (x4 && x1), errOf (x2 && x5), errOf (x5 && x3)] 1 := rfl
      (try simp only [Nat.zero_add, Nat.reduceAdd] at qcr)
      (try simp only [Nat.zero_add, Nat.reduceAdd])
      generalize accB [decide (z0 ≤ 0), decide (z1 ≤ 0), decide (z2 ≤ 0), decide (z3 ≤ 0)] 0 = bb at *
      generalize accE [errOf (x0 && x4), errOf (x4 && x1), errOf (x2 && x5), errOf (x5 && x3)] 0 = e0 at *
      obtain ⟨e1, he1⟩ : ∃ e1, accE [errOf (x0 && x4), errOf (x4 && x1), errOf (x2 && x5), errOf (x5 && x3)] 1 = e1 := ⟨_, rfl⟩
      rw [he1] at hae
      replace he1 := hide he1
      obtain ⟨V1, hV1, hB1, q11, hk1, hk1', sV1⟩ := new_obj 68 #[.bool false, .slice none 0 0, .bool false, .slice none 0 0, .bool false, .slice none 0 0, .bool false, .slice none 0 0] hbr (by omega)
      have y0 := q11.cell 0
      have y1 := q11.cell 1
      have y2 := q11.cell 2
      have y3 := q11.cell 3
      have y4 := q11.cell 4
      have y5 := q11.cell 5
      have y6 := q11.cell 6
      have y7 := q11.cell 7
      simp at y0 y1 y2 y3 y4 y5 y6 y7
      have u0 := q11.frozen 0
      have u1 := q11.frozen 1
      have u2 := q11.frozen 2
      have u3 := q11.frozen 3
      have u4 := q11.frozen 4
      have u5 := q11.frozen 5
      have u6 := q11.frozen 6
      have u7 := q11.frozen 7
      obtain ⟨V2, hV2, hB2, q11b, hst⟩ := set_all [.bool n0, .slice A0 k0 c0, .bool m0, .slice B0 j0 d0, .bool n4, .slice A4 k4 c4, .bool m4, .slice B4 j4 d4] [.bool false, .slice none 0 0, .bool false, .slice none 0 0, .bool false, .slice none 0 0, .bool false, .slice none 0 0] rfl rfl rfl hB1 (by omega) q11
      simp only [World.setCells, Nat.reduceAdd, Nat.zero_add] at hV2
      have sV2 := hst.2.2
      have qc2 := hst.2.1 _ _ _ (by have := (Array.getElem?_eq_some_iff.1 qcr).1; omega) (hk1' _ _ _ qcr)
      have f0 := q11b.cell 0
      have f1 := q11b.cell 1
      have f2 := q11b.cell 2
      have f3 := q11b.cell 3
      have f4 := q11b.cell 4
      have f5 := q11b.cell 5
      have f6 := q11b.cell 6
      have f7 := q11b.cell 7
      simp at f0 f1 f2 f3 f4 f5 f6 f7
      replace hae := hide hae
      replace hac := hide hac
      go_wp2_with (refine wpList_index85 rfl _ _ rfl _ 0 rfl rfl (by omega) #[.bool n0, .slice A0 k0 c0, .bool m0, .slice B0 j0 d0, .bool n4, .slice A4 k4 c4, .bool m4, .slice B4 j4 d4] rfl ?_)
      refine (compareR_any (w.heap.size + 1 + 1 + 1) _ n0 m0 n4 m4 A0 B0 A4 B4 k0 c0 j0 d0 k4 c4 j4 d4 L0 M0 L4 M4 V2 (hHH.out.1.1.below hB2) (hHH.out.1.2.below hB2) (hHH.out.2.2.2.2.1.1.below hB2) (hHH.out.2.2.2.2.1.2.below hB2) ⟨s0.1, s0.2, s4.1, s4.2⟩ x0 x4 t0.out t4.out e0 e1 z0 qc2 hae.out hz0.out).mono ?_
      rintro e w5 ⟨rfl, qc5, hb5⟩
      have hb25 := hB2.trans (hb5.mono (by omega))
      have hs5 : W0.heap.size ≤ w5.heap.size := Nat.le_trans (Nat.le_trans hsr (by omega)) hb5.size
      by_cases hc : z0 ≤ 0
      · have hcd : decide (z0 ≤ 0) = true := by simpa using hc
        go_wp2_with fail
        go_round
        case rel => exact ⟨1, by omega, by go_num, by rw [hac.out, hcd]; simp, hb25, hs5, by rw [he1.out]; exact qc5⟩
        case measure => simp [intOf]
      · have hcd : decide (z0 ≤ 0) = false := by simpa using hc
        go_wp2_with fail
        go_round
        case rel => exact ⟨1, by omega, by go_num, by rw [hac.out, hcd]; simp, hb25, hs5, by rw [he1.out]; exact qc5⟩
        case measure => simp [intOf]
    · have hac : accB [decide (z0 ≤ 0), decide (z1 ≤ 0), decide (z2 ≤ 0), decide (z3 ≤ 0)] 2 = (decide (z1 ≤ 0) && accB [decide (z0 ≤ 0), decide (z1 ≤ 0), decide (z2 ≤ 0), decide (z3 ≤ 0)] 1) := rfl
      have hae : (if accE [errOf (x0 && x4), errOf (x4 && x1), errOf (x2 && x5), errOf (x5 && x3)] 1 = 0 then errOf (x4 && x1) else accE [errOf (x0 && x4), errOf (x4 && x1), errOf (x2 && x5), errOf (x5 && x3)] 1) = accE [errOf (x0 && x4), errOf (x4 && x1), errOf (x2 && x5), errOf (x5 && x3)] 2 := rfl
      (try simp only [Nat.zero_add, Nat.reduceAdd] at qcr)
      (try simp only [Nat.zero_add, Nat.reduceAdd])
      generalize accB [decide (z0 ≤ 0), decide (z1 ≤ 0), decide (z2 ≤ 0), decide (z3 ≤ 0)] 1 = bb at *
      generalize accE [errOf (x0 && x4), errOf (x4 && x1), errOf (x2 && x5), errOf (x5 && x3)] 1 = e0 at *
      obtain ⟨e1, he1⟩ : ∃ e1, accE [errOf (x0 && x4), errOf (x4 && x1), errOf (x2 && x5), errOf (x5 && x3)] 2 = e1 := ⟨_, rfl⟩
      rw [he1] at hae
      replace he1 := hide he1
      obtain ⟨V1, hV1, hB1, q11, hk1, hk1', sV1⟩ := new_obj 68 #[.bool false, .slice none 0 0, .bool false, .slice none 0 0, .bool false, .slice none 0 0, .bool false, .slice none 0 0] hbr (by omega)
      have y0 := q11.cell 0
      have y1 := q11.cell 1
      have y2 := q11.cell 2
      have y3 := q11.cell 3
      have y4 := q11.cell 4
      have y5 := q11.cell 5
      have y6 := q11.cell 6
      have y7 := q11.cell 7
      simp at y0 y1 y2 y3 y4 y5 y6 y7
      have u0 := q11.frozen 0
      have u1 := q11.frozen 1
      have u2 := q11.frozen 2
      have u3 := q11.frozen 3
      have u4 := q11.frozen 4
      have u5 := q11.frozen 5
      have u6 := q11.frozen 6
      have u7 := q11.frozen 7
      obtain ⟨V2, hV2, hB2, q11b, hst⟩ := set_all [.bool n4, .slice A4 k4 c4, .bool m4, .slice B4 j4 d4, .bool n1, .slice A1 k1 c1, .bool m1, .slice B1 j1 d1] [.bool false, .slice none 0 0, .bool false, .slice none 0 0, .bool false, .slice none 0 0, .bool false, .slice none 0 0] rfl rfl rfl hB1 (by omega) q11
      simp only [World.setCells, Nat.reduceAdd, Nat.zero_add] at hV2
      have sV2 := hst.2.2
      have qc2 := hst.2.1 _ _ _ (by have := (Array.getElem?_eq_some_iff.1 qcr).1; omega) (hk1' _ _ _ qcr)
      have f0 := q11b.cell 0
      have f1 := q11b.cell 1
      have f2 := q11b.cell 2
      have f3 := q11b.cell 3
      have f4 := q11b.cell 4
      have f5 := q11b.cell 5
      have f6 := q11b.cell 6
      have f7 := q11b.cell 7
      simp at f0 f1 f2 f3 f4 f5 f6 f7
      replace hae := hide hae
      replace hac := hide hac
      go_wp2_with (refine wpList_index85 rfl _ _ rfl _ 1 rfl rfl (by omega) #[.bool n4, .slice A4 k4 c4, .bool m4, .slice B4 j4 d4, .bool n1, .slice A1 k1 c1, .bool m1, .slice B1 j1 d1] rfl ?_)
      refine (compareR_any (w.heap.size + 1 + 1 + 1) _ n4 m4 n1 m1 A4 B4 A1 B1 k4 c4 j4 d4 k1 c1 j1 d1 L4 M4 L1 M1 V2 (hHH.out.2.2.2.2.1.1.below hB2) (hHH.out.2.2.2.2.1.2.below hB2) (hHH.out.2.1.1.below hB2) (hHH.out.2.1.2.below hB2) ⟨s4.1, s4.2, s1.1, s1.2⟩ x4 x1 t4.out t1.out e0 e1 z1 qc2 hae.out hz1.out).mono ?_
      rintro e w5 ⟨rfl, qc5, hb5⟩
      have hb25 := hB2.trans (hb5.mono (by omega))
      have hs5 : W0.heap.size ≤ w5.heap.size := Nat.le_trans (Nat.le_trans hsr (by omega)) hb5.size
      by_cases hc : z1 ≤ 0
      · have hcd : decide (z1 ≤ 0) = true := by simpa using hc
        go_wp2_with fail
        go_round
        case rel => exact ⟨2, by omega, by go_num, by rw [hac.out, hcd]; simp, hb25, hs5, by rw [he1.out]; exact qc5⟩
        case measure => simp [intOf]
      · have hcd : decide (z1 ≤ 0) = false := by simpa using hc
        go_wp2_with fail
        go_round
        case rel => exact ⟨2, by omega, by go_num, by rw [hac.out, hcd]; simp, hb25, hs5, by rw [he1.out]; exact qc5⟩
        case measure => simp [intOf]
    · have hac : accB [decide (z0 ≤ 0), decide (z1 ≤ 0), decide (z2 ≤ 0), decide (z3 ≤ 0)] 3 = (decide (z2 ≤ 0) && accB [decide (z0 ≤ 0), decide (z1 ≤ 0), decide (z2 ≤ 0), decide (z3 ≤ 0)] 2) := rfl
      have hae : (if accE [errOf (x0 && x4), errOf (x4 && x1), errOf (x2 && x5), errOf (x5 && x3)] 2 = 0 then errOf (x2 && x5) else accE [errOf (x0 && x4), errOf (x4 && x1), errOf (x2 && x5), errOf (x5 && x3)] 2) = accE [errOf (x0 && x4), errOf (x4 && x1), errOf (x2 && x5), errOf (x5 && x3)] 3 := rfl
      (try simp only [Nat.zero_add, Nat.reduceAdd] at qcr)
      (try simp only [Nat.zero_add, Nat.reduceAdd])
      generalize accB [decide (z0 ≤ 0), decide (z1 ≤ 0), decide (z2 ≤ 0), decide (z3 ≤ 0)] 2 = bb at *
      generalize accE [errOf (x0 && x4), errOf (x4 && x1), errOf (x2 && x5), errOf (x5 && x3)] 2 = e0 at *
      obtain ⟨e1, he1⟩ : ∃ e1, accE [errOf (x0 && x4), errOf (x4 && x1), errOf (x2 && x5), errOf (x5 && x3)] 3 = e1 := ⟨_, rfl⟩
      rw [he1] at hae
      replace he1 := hide he1
      obtain ⟨V1, hV1, hB1, q11, hk1, hk1', sV1⟩ := new_obj 68 #[.bool false, .slice none 0 0, .bool false, .slice none 0 0, .bool false, .slice none 0 0, .bool false, .slice none 0 0] hbr (by omega)
      have y0 := q11.cell 0
      have y1 := q11.cell 1
      have y2 := q11.cell 2
      have y3 := q11.cell 3
      have y4 := q11.cell 4
      have y5 := q11.cell 5
      have y6 := q11.cell 6
      have y7 := q11.cell 7
      simp at y0 y1 y2 y3 y4 y5 y6 y7
      have u0 := q11.frozen 0
      have u1 := q11.frozen 1
      have u2 := q11.frozen 2
      have u3 := q11.frozen 3
      have u4 := q11.frozen 4
      have u5 := q11.frozen 5
      have u6 := q11.frozen 6
      have u7 := q11.frozen 7
      obtain ⟨V2, hV2, hB2, q11b, hst⟩ := set_all [.bool n2, .slice A2 k2 c2, .bool m2, .slice B2 j2 d2, .bool n5, .slice A5 k5 c5, .bool m5, .slice B5 j5 d5] [.bool false, .slice none 0 0, .bool false, .slice none 0 0, .bool false, .slice none 0 0, .bool false, .slice none 0 0] rfl rfl rfl hB1 (by omega) q11
      simp only [World.setCells, Nat.reduceAdd, Nat.zero_add] at hV2
      have sV2 := hst.2.2
      have qc2 := hst.2.1 _ _ _ (by have := (Array.getElem?_eq_some_iff.1 qcr).1; omega) (hk1' _ _ _ qcr)
      have f0 := q11b.cell 0
      have f1 := q11b.cell 1
      have f2 := q11b.cell 2
      have f3 := q11b.cell 3
      have f4 := q11b.cell 4
      have f5 := q11b.cell 5
      have f6 := q11b.cell 6
      have f7 := q11b.cell 7
      simp at f0 f1 f2 f3 f4 f5 f6 f7
      replace hae := hide hae
      replace hac := hide hac
      go_wp2_with (refine wpList_index85 rfl _ _ rfl _ 2 rfl rfl (by omega) #[.bool n2, .slice A2 k2 c2, .bool m2, .slice B2 j2 d2, .bool n5, .slice A5 k5 c5, .bool m5, .slice B5 j5 d5] rfl ?_)
      refine (compareR_any (w.heap.size + 1 + 1 + 1) _ n2 m2 n5 m5 A2 B2 A5 B5 k2 c2 j2 d2 k5 c5 j5 d5 L2 M2 L5 M5 V2 (hHH.out.2.2.1.1.below hB2) (hHH.out.2.2.1.2.below hB2) (hHH.out.2.2.2.2.2.1.below hB2) (hHH.out.2.2.2.2.2.2.below hB2) ⟨s2.1, s2.2, s5.1, s5.2⟩ x2 x5 t2.out t5.out e0 e1 z2 qc2 hae.out hz2.out).mono ?_
      rintro e w5 ⟨rfl, qc5, hb5⟩
      have hb25 := hB2.trans (hb5.mono (by omega))
      have hs5 : W0.heap.size ≤ w5.heap.size := Nat.le_trans (Nat.le_trans hsr (by omega)) hb5.size
      by_cases hc : z2 ≤ 0
      · have hcd : decide (z2 ≤ 0) = true := by simpa using hc
        go_wp2_with fail
        go_round
        case rel => exact ⟨3, by omega, by go_num, by rw [hac.out, hcd]; simp, hb25, hs5, by rw [he1.out]; exact qc5⟩
        case measure => simp [intOf]
      · have hcd : decide (z2 ≤ 0) = false := by simpa using hc
        go_wp2_with fail
        go_round
        case rel => exact ⟨3, by omega, by go_num, by rw [hac.out, hcd]; simp, hb25, hs5, by rw [he1.out]; exact qc5⟩
        case measure => simp [intOf]
    · have hac : accB [decide (z0 ≤ 0), decide (z1 ≤ 0), decide (z2 ≤ 0), decide (z3 ≤ 0)] 4 = (decide (z3 ≤ 0) && accB [decide (z0 ≤ 0), decide (z1 ≤ 0), decide (z2 ≤ 0), decide (z3 ≤ 0)] 3) := rfl
      have hae : (if accE [errOf (x0 && x4), errOf (x4 && x1), errOf (x2 && x5), errOf (x5 && x3)] 3 = 0 then errOf (x5 && x3) else accE [errOf (x0 && x4), errOf (x4 && x1), errOf (x2 && x5), errOf (x5 && x3)] 3) = accE [errOf (x0 && x4), errOf (x4 && x1), errOf (x2 && x5), errOf (x5 && x3)] 4 := rfl
      (try simp only [Nat.zero_add, Nat.reduceAdd] at qcr)
      (try simp only [Nat.zero_add, Nat.reduceAdd])
      generalize accB [decide (z0 ≤ 0), decide (z1 ≤ 0), decide (z2 ≤ 0), decide (z3 ≤ 0)] 3 = bb at *
      generalize accE [errOf (x0 && x4), errOf (x4 && x1), errOf (x2 && x5), errOf (x5 && x3)] 3 = e0 at *
      obtain ⟨e1, he1⟩ : ∃ e1, accE [errOf (x0 && x4), errOf (x4 && x1), errOf (x2 && x5), errOf (x5 && x3)] 4 = e1 := ⟨_, rfl⟩
      rw [he1] at hae
      replace he1 := hide he1
      obtain ⟨V1, hV1, hB1, q11, hk1, hk1', sV1⟩ := new_obj 68 #[.bool false, .slice none 0 0, .bool false, .slice none 0 0, .bool false, .slice none 0 0, .bool false, .slice none 0 0] hbr (by omega)
      have y0 := q11.cell 0
      have y1 := q11.cell 1
      have y2 := q11.cell 2
      have y3 := q11.cell 3
      have y4 := q11.cell 4
      have y5 := q11.cell 5
      have y6 := q11.cell 6
      have y7 := q11.cell 7
      simp at y0 y1 y2 y3 y4 y5 y6 y7
      have u0 := q11.frozen 0
      have u1 := q11.frozen 1
      have u2 := q11.frozen 2
      have u3 := q11.frozen 3
      have u4 := q11.frozen 4
      have u5 := q11.frozen 5
      have u6 := q11.frozen 6
      have u7 := q11.frozen 7
      obtain ⟨V2, hV2, hB2, q11b, hst⟩ := set_all [.bool n5, .slice A5 k5 c5, .bool m5, .slice B5 j5 d5, .bool n3, .slice A3 k3 c3, .bool m3, .slice B3 j3 d3] [.bool false, .slice none 0 0, .bool false, .slice none 0 0, .bool false, .slice none 0 0, .bool false, .slice none 0 0] rfl rfl rfl hB1 (by omega) q11
      simp only [World.setCells, Nat.reduceAdd, Nat.zero_add] at hV2
      have sV2 := hst.2.2
      have qc2 := hst.2.1 _ _ _ (by have := (Array.getElem?_eq_some_iff.1 qcr).1; omega) (hk1' _ _ _ qcr)
      have f0 := q11b.cell 0
      have f1 := q11b.cell 1
      have f2 := q11b.cell 2
      have f3 := q11b.cell 3
      have f4 := q11b.cell 4
      have f5 := q11b.cell 5
      have f6 := q11b.cell 6
      have f7 := q11b.cell 7
      simp at f0 f1 f2 f3 f4 f5 f6 f7
      replace hae := hide hae
      replace hac := hide hac
      go_wp2_with (refine wpList_index85 rfl _ _ rfl _ 3 rfl rfl (by omega) #[.bool n5, .slice A5 k5 c5, .bool m5, .slice B5 j5 d5, .bool n3, .slice A3 k3 c3, .bool m3, .slice B3 j3 d3] rfl ?_)
      refine (compareR_any (w.heap.size + 1 + 1 + 1) _ n5 m5 n3 m3 A5 B5 A3 B3 k5 c5 j5 d5 k3 c3 j3 d3 L5 M5 L3 M3 V2 (hHH.out.2.2.2.2.2.1.below hB2) (hHH.out.2.2.2.2.2.2.below hB2) (hHH.out.2.2.2.1.1.below hB2) (hHH.out.2.2.2.1.2.below hB2) ⟨s5.1, s5.2, s3.1, s3.2⟩ x5 x3 t5.out t3.out e0 e1 z3 qc2 hae.out hz3.out).mono ?_
      rintro e w5 ⟨rfl, qc5, hb5⟩
      have hb25 := hB2.trans (hb5.mono (by omega))
      have hs5 : W0.heap.size ≤ w5.heap.size := Nat.le_trans (Nat.le_trans hsr (by omega)) hb5.size
      by_cases hc : z3 ≤ 0
      · have hcd : decide (z3 ≤ 0) = true := by simpa using hc
        go_wp2_with fail
        go_round
        case rel => exact ⟨4, by omega, by go_num, by rw [hac.out, hcd]; simp, hb25, hs5, by rw [he1.out]; exact qc5⟩
        case measure => simp [intOf]
      · have hcd : decide (z3 ≤ 0) = false := by simpa using hc
        go_wp2_with fail
        go_round
        case rel => exact ⟨4, by omega, by go_num, by rw [hac.out, hcd]; simp, hb25, hs5, by rw [he1.out]; exact qc5⟩
        case measure => simp [intOf]
    · obtain rfl : i = 0 := by omega
      (try simp only [Nat.zero_add, Nat.reduceAdd] at qcr)
      (try simp only [Nat.zero_add, Nat.reduceAdd])
      rw [hE.out] at qcr
      rw [hr.out]
      have e0 := qcr.cell 0
      simp at e0
      clear hE hr
      by_cases hz : E = 0
      · have tz : (E == 0) = true := by simpa using hz
        have tz2 : (E != 0) = false := by simpa using hz
        obtain rfl : r = R := by rw [← hR.out, if_pos hz]
        obtain rfl : 0 = C := by rw [← hC.out, if_pos hz]
        clear hR hC
        go_wp2_with fail
        go_ret2
        exact ⟨rfl, hbr⟩
      · have tz : (E == 0) = false := by simpa using hz
        have tz2 : (E != 0) = true := by simpa using hz
        obtain rfl : false = R := by rw [← hR.out, if_neg hz]
        obtain rfl : 8 = C := by rw [← hC.out, if_neg hz]
        clear hR hC
        go_wp2_with fail
        go_ret2
        exact ⟨rfl, hbr⟩
end Go.Proofs.Ytkippclhbkjbmaa
