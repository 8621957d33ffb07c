/- Raw fractions: package frac's Check. Reference of frac: Cmp of small fractions. -/
import Derived.Test.YtljocgdhdilglaaGreatZr39
import Derived.Test.YtljocgdhdilglaaGreatZr45
import Derived.Test.YtljocgdhdilglaaGreatZr48
set_option linter.unusedSimpArgs false
set_option linter.unusedVariables false

namespace Go.Proofs.YtljocgdhdilglaaGreat
open Go.RowKit
attribute [local go_sem] add_lit

/-- Are signs and limbs those of a valid fraction? -/
def okF (na : Bool) (la : List Nat) (nb : Bool) (lb : List Nat) : Bool := okW na la && okW nb lb && !nb && decide (0 < lb.length) && decide (Nat.gcd (val la) (val lb) = 1)
/-- The fraction that they stand for. -/
def qOf (na : Bool) (la lb : List Nat) : Rat := Rat.divInt (sg na (val la)) (val lb : Nat)

theorem raw_fr {w : World} {na nb : Bool} {A B : Option Addr} {n c m d : Nat} {la lb : List Nat} (ha : Lim w A n c la) (hb : Lim w B m d lb) (hk : okF na la nb lb = true) : Fr w na A n c nb B m d (qOf na la lb) := by
  simp only [okF, Bool.and_eq_true, Bool.not_eq_true', decide_eq_true_eq] at hk
  obtain ⟨⟨⟨⟨k1, k2⟩, rfl⟩, k4⟩, k5⟩ := hk
  have h2 := (okW_iff hb.lt).1 k2
  have e2 : (sg false (val lb)).natAbs = val lb := sg_natAbs _ _
  rw [e2] at h2
  have hp : 0 < val lb := by
    rw [h2.2.2] at k4
    exact length_digits_pos.1 k4
  have hl : Low (sg na (val la)) (val lb : Nat) := ⟨by omega, by rw [sg_natAbs, Int.natAbs_natCast]; exact k5⟩
  obtain ⟨r1, r2⟩ := rat_low hl
  have w1 := Wd.of_ok ha k1
  have w2 := Wd.of_ok hb k2
  have e3 : sg false (val lb) = (val lb : Nat) := rfl
  rw [e3] at w2
  refine ⟨?_, ?_⟩
  · unfold qOf; rw [r1]; exact w1
  · unfold qOf; rw [r2]; exact w2
theorem raw_sm {w : World} {na nb : Bool} {A B : Option Addr} {n c m d : Nat} {la lb : List Nat} (ha : Lim w A n c la) (hb : Lim w B m d lb) (hk : okF na la nb lb = true) (hn : n ≤ 6) (hm : m ≤ 6) : Sm (qOf na la lb) := by
  simp only [okF, Bool.and_eq_true, Bool.not_eq_true', decide_eq_true_eq] at hk
  obtain ⟨⟨⟨⟨k1, k2⟩, rfl⟩, k4⟩, k5⟩ := hk
  have h2 := (okW_iff hb.lt).1 k2
  have e2 : (sg false (val lb)).natAbs = val lb := sg_natAbs _ _
  rw [e2] at h2
  have hp : 0 < val lb := by
    rw [h2.2.2] at k4
    exact length_digits_pos.1 k4
  have hl : Low (sg na (val la)) (val lb : Nat) := ⟨by omega, by rw [sg_natAbs, Int.natAbs_natCast]; exact k5⟩
  obtain ⟨r1, r2⟩ := rat_low hl
  refine ⟨?_, ?_⟩
  · unfold qOf; rw [r1, sg_natAbs]; exact Nat.lt_of_lt_of_le ha.lt_pw (pw_le (by omega))
  · have : (Rat.divInt (sg na (val la)) (val lb : Nat)).den = val lb := by omega
    unfold qOf; rw [this]; exact Nat.lt_of_lt_of_le hb.lt_pw (pw_le (by omega))

set_option maxRecDepth 100000 in
set_option maxHeartbeats 1000000 in
theorem fCheck_bad1 (na nb : Bool) (A B : Option Addr) (n c m d : Nat) (la lb : List Nat) (w : World) (ha : Lim w A n c la) (hb : Lim w B m d lb) (hbad : (okW na la && okW nb lb) = false) :
    Calls Tryz.prog 73 #[.agg #[.bool na, .slice A n c, .bool nb, .slice B m d]] w fun e w' => e = .returned (.int .i64 8) ∧ Below w.heap.size w w' := by
  have hmx : Tryz.prog.follows .mixedOrders = true := by kernel_rfl
  obtain ⟨W0, hW0, hB0, q0, s0⟩ := alloc1 w 27 #[.bool na, .slice A n c, .bool nb, .slice B m d]
  have hA := hide (ha.below hB0)
  have hD := hide (hb.below hB0)
  clear ha hb
  obtain ⟨a0, a1, a2, a3, -⟩ := q0.four
  replace q0 := hide q0
  go_enter Tryz.func73, Tryz.ntmps73
  go_wp2_with fail
  refine (Gcd_bad na nb A B n c m d la lb W0 hA.out hD.out hbad).mono ?_
  rintro e w1 ⟨rfl, hb1⟩
  have hB1 : Below w.heap.size w w1 := hB0.trans (hb1.mono hB0.size)
  clear hW0 a0 a1 a2 a3 hb1
  obtain ⟨W4, hW4, hB4, q4, kW, kB, s4⟩ := new_obj 25 #[.bool false, .slice none 0 0] hB1 hB1.size
  obtain ⟨g0, g1, f0, f1⟩ := q4.two
  go_wp2_with fail
  refine wp_held [] (fun wx => True) hmx trivial (fun _ => ?_)
  refine wpAnyL_one (i := 0) rfl (by kernel_rfl) (fun K hK => ?_)
  go_simp
  refine hK.out _ _ (fun _ => trivial) ?_
  clear hK K
  try simp only [Act.put, List.setIfInBounds_toArray, List.set_cons_zero, List.set_cons_succ]
  refine wpAnyL_one (i := 1) rfl (by kernel_rfl) (fun K hK => ?_)
  go_simp
  refine hK.out _ _ (fun _ => trivial) ?_
  clear hK K
  try simp only [Act.put, List.setIfInBounds_toArray, List.set_cons_zero, List.set_cons_succ]
  refine wpAnyL_one (i := 2) rfl (by kernel_rfl) (fun K hK => ?_)
  go_simp
  refine hK.out _ _ (fun _ => trivial) ?_
  clear hK K
  try simp only [Act.put, List.setIfInBounds_toArray, List.set_cons_zero, List.set_cons_succ]
  refine wpAnyL_one (i := 3) rfl (by kernel_rfl) (fun K hK => ?_)
  go_simp
  refine hK.out _ _ (fun _ => trivial) ?_
  clear hK K
  try simp only [Act.put, List.setIfInBounds_toArray, List.set_cons_zero, List.set_cons_succ]
  refine wpAnyL_one (i := 4) rfl (by kernel_rfl) (fun K hK => ?_)
  go_simp
  refine hK.out _ _ (fun _ => trivial) ?_
  clear hK K
  try simp only [Act.put, List.setIfInBounds_toArray, List.set_cons_zero, List.set_cons_succ]
  refine wpAnyL_one (i := 5) rfl (by kernel_rfl) (fun K hK => ?_)
  go_simp
  refine hK.out _ _ (fun _ => trivial) ?_
  clear hK K
  try simp only [Act.put, List.setIfInBounds_toArray, List.set_cons_zero, List.set_cons_succ]
  refine wpAnyL_one (i := 6) rfl (by kernel_rfl) (fun K hK => ?_)
  go_simp
  refine hK.out _ _ (fun _ => trivial) ?_
  clear hK K
  try simp only [Act.put, List.setIfInBounds_toArray, List.set_cons_zero, List.set_cons_succ]
  refine wpAnyL_one (i := 7) rfl (by kernel_rfl) (fun K hK => ?_)
  go_simp
  refine hK.out _ _ (fun _ => trivial) ?_
  clear hK K
  try simp only [Act.put, List.setIfInBounds_toArray, List.set_cons_zero, List.set_cons_succ]
  refine wpAnyL_one (i := 8) rfl (by kernel_rfl) (fun K hK => ?_)
  go_simp
  refine hK.out _ _ (fun _ => trivial) ?_
  clear hK K
  try simp only [Act.put, List.setIfInBounds_toArray, List.set_cons_zero, List.set_cons_succ]
  refine wpAnyL_one (i := 9) rfl (by kernel_rfl) (fun K hK => ?_)
  go_simp
  refine hK.out _ _ (fun _ => trivial) ?_
  clear hK K
  try simp only [Act.put, List.setIfInBounds_toArray, List.set_cons_zero, List.set_cons_succ]
  refine wpAnyL_one (i := 10) rfl (by kernel_rfl) (fun K hK => ?_)
  go_simp
  refine hK.out _ _ (fun _ => trivial) ?_
  clear hK K
  try simp only [Act.put, List.setIfInBounds_toArray, List.set_cons_zero, List.set_cons_succ]
  refine wpAnyL_one (i := 11) rfl (by kernel_rfl) (fun K hK => ?_)
  go_simp
  refine hK.out _ _ (fun _ => trivial) ?_
  clear hK K
  try simp only [Act.put, List.setIfInBounds_toArray, List.set_cons_zero, List.set_cons_succ]
  refine wpAnyL_one (i := 12) rfl (by kernel_rfl) (fun K hK => ?_)
  go_simp
  refine hK.out _ _ (fun _ => trivial) ?_
  clear hK K
  try simp only [Act.put, List.setIfInBounds_toArray, List.set_cons_zero, List.set_cons_succ]
  refine wpAnyL_take (i := 13) (v := undef) rfl (by kernel_rfl) (by kernel_rfl) (by kernel_rfl) (by kernel_rfl) (by kernel_rfl) (Or.inr ⟨by rfl, rfl⟩) trivial ?_
  try simp only [Act.put, List.setIfInBounds_toArray, List.set_cons_zero, List.set_cons_succ]
  refine wpAnyL_one (i := 14) rfl (by kernel_rfl) (fun K hK => ?_)
  go_simp
  refine hK.out _ _ (fun _ => trivial) ?_
  clear hK K
  try simp only [Act.put, List.setIfInBounds_toArray, List.set_cons_zero, List.set_cons_succ]
  refine wpAnyL_one (i := 15) rfl (by kernel_rfl) (fun K hK => ?_)
  go_simp
  refine hK.out _ _ (fun _ => trivial) ?_
  clear hK K
  try simp only [Act.put, List.setIfInBounds_toArray, List.set_cons_zero, List.set_cons_succ]
  refine wpAnyL_one (i := 16) rfl (by kernel_rfl) (fun K hK => ?_)
  go_simp
  refine hK.out _ _ (fun _ => trivial) ?_
  clear hK K
  try simp only [Act.put, List.setIfInBounds_toArray, List.set_cons_zero, List.set_cons_succ]
  refine wpAnyL_one (i := 17) rfl (by kernel_rfl) (fun K hK => ?_)
  go_simp
  refine hK.out _ _ (fun _ => trivial) ?_
  clear hK K
  try simp only [Act.put, List.setIfInBounds_toArray, List.set_cons_zero, List.set_cons_succ]
  refine wpAnyL_done (by kernel_rfl) ?_ _
  refine OnlyNormal.normal ?_
  go_wp2_with fail
  go_ret
  exact ⟨rfl, below_dn ((hB4.setCell (p := ⟨w1.heap.size, 0, none⟩) hB1.size (.bool false)).setCell (p := ⟨w1.heap.size, 1, none⟩) hB1.size (.slice none 0 0)) 1⟩

set_option maxRecDepth 100000 in
set_option maxHeartbeats 1000000 in
theorem fCheck_bad2 (na : Bool) (A B : Option Addr) (n c m d : Nat) (za zb : Int) (w : World) (ha : Wd w na A n c za) (hb : Wd w true B m d zb) :
    Calls Tryz.prog 73 #[.agg #[.bool na, .slice A n c, .bool true, .slice B m d]] w fun e w' => e = .returned (.int .i64 8) ∧ Below w.heap.size w w' := by
  have hmx : Tryz.prog.follows .mixedOrders = true := by kernel_rfl
  have hgs : Nat.gcd za.natAbs zb.natAbs < pw 4096 := gcd_small ha.small hb.small
  obtain ⟨W0, hW0, hB0, q0, s0⟩ := alloc1 w 27 #[.bool na, .slice A n c, .bool true, .slice B m d]
  have hA := hide (ha.below hB0)
  have hD := hide (hb.below hB0)
  clear ha hb
  obtain ⟨a0, a1, a2, a3, -⟩ := q0.four
  go_enter Tryz.func73, Tryz.ntmps73
  go_wp2_with fail
  refine (Gcd_ok na true A B n c m d za zb W0 hA.out hD.out).mono ?_
  rintro e w1 ⟨hb1, ng, Ag, kg, cg, code, rfl, hR⟩
  rcases hR with ⟨-, rfl, hgw⟩ | ⟨hbig, -⟩
  case inr => exact absurd hbig (by omega)
  have hB1 : Below w.heap.size w w1 := hB0.trans (hb1.mono hB0.size)
  replace q0 := keep_blk hb1 q0
  clear hW0 a0 a1 a2 a3 hb1
  obtain ⟨W4, hW4, hB4, q4, kW, kB, s4⟩ := new_obj 25 #[.bool ng, .slice Ag kg cg] hB1 hB1.size
  replace q0 := kB _ _ _ q0
  obtain ⟨g0, g1, f0, f1⟩ := q4.two
  obtain ⟨a0, a1, a2, a3, -⟩ := q0.four
  go_wp2_with fail
  refine wp_held [] (fun wx => wx.cell? ⟨w.heap.size, 2, none⟩ = some (.bool true)) hmx a2 (fun _ => ?_)
  refine wpAnyL_one (i := 0) rfl (by kernel_rfl) (fun K hK => ?_)
  go_simp
  refine hK.out _ _ (fun _ => a2) ?_
  clear hK K
  try simp only [Act.put, List.setIfInBounds_toArray, List.set_cons_zero, List.set_cons_succ]
  refine wpAnyL_one (i := 1) rfl (by kernel_rfl) (fun K hK => ?_)
  go_simp
  refine hK.out _ _ (fun _ => a2) ?_
  clear hK K
  try simp only [Act.put, List.setIfInBounds_toArray, List.set_cons_zero, List.set_cons_succ]
  refine wpAnyL_one (i := 2) rfl (by kernel_rfl) (fun K hK => ?_)
  go_simp
  refine hK.out _ _ (fun _ => a2) ?_
  clear hK K
  try simp only [Act.put, List.setIfInBounds_toArray, List.set_cons_zero, List.set_cons_succ]
  refine wpAnyL_one (i := 3) rfl (by kernel_rfl) (fun K hK => ?_)
  go_simp
  refine hK.out _ _ (fun _ => a2) ?_
  clear hK K
  try simp only [Act.put, List.setIfInBounds_toArray, List.set_cons_zero, List.set_cons_succ]
  refine wpAnyL_one (i := 4) rfl (by kernel_rfl) (fun K hK => ?_)
  go_simp
  refine hK.out _ _ (fun _ => a2) ?_
  clear hK K
  try simp only [Act.put, List.setIfInBounds_toArray, List.set_cons_zero, List.set_cons_succ]
  refine wpAnyL_one (i := 5) rfl (by kernel_rfl) (fun K hK => ?_)
  go_simp
  refine hK.out _ _ (fun _ => a2) ?_
  clear hK K
  try simp only [Act.put, List.setIfInBounds_toArray, List.set_cons_zero, List.set_cons_succ]
  refine wpAnyL_one (i := 6) rfl (by kernel_rfl) (fun K hK => ?_)
  go_simp
  refine hK.out _ _ (fun _ => a2) ?_
  clear hK K
  try simp only [Act.put, List.setIfInBounds_toArray, List.set_cons_zero, List.set_cons_succ]
  refine wpAnyL_one (i := 7) rfl (by kernel_rfl) (fun K hK => ?_)
  go_simp
  refine hK.out _ _ (fun _ => a2) ?_
  clear hK K
  try simp only [Act.put, List.setIfInBounds_toArray, List.set_cons_zero, List.set_cons_succ]
  refine wpAnyL_one (i := 8) rfl (by kernel_rfl) (fun K hK => ?_)
  go_simp
  refine hK.out _ _ (fun _ => a2) ?_
  clear hK K
  try simp only [Act.put, List.setIfInBounds_toArray, List.set_cons_zero, List.set_cons_succ]
  refine wpAnyL_one (i := 9) rfl (by kernel_rfl) (fun K hK => ?_)
  go_simp
  refine hK.out _ _ (fun _ => a2) ?_
  clear hK K
  try simp only [Act.put, List.setIfInBounds_toArray, List.set_cons_zero, List.set_cons_succ]
  refine wpAnyL_one (i := 10) rfl (by kernel_rfl) (fun K hK => ?_)
  go_simp
  refine hK.out _ _ (fun _ => a2) ?_
  clear hK K
  try simp only [Act.put, List.setIfInBounds_toArray, List.set_cons_zero, List.set_cons_succ]
  refine wpAnyL_one (i := 11) rfl (by kernel_rfl) (fun K hK => ?_)
  go_simp
  refine hK.out _ _ (fun _ => a2) ?_
  clear hK K
  try simp only [Act.put, List.setIfInBounds_toArray, List.set_cons_zero, List.set_cons_succ]
  refine wpAnyL_one (i := 12) rfl (by kernel_rfl) (fun K hK => ?_)
  go_simp
  refine hK.out _ _ (fun _ => a2) ?_
  clear hK K
  try simp only [Act.put, List.setIfInBounds_toArray, List.set_cons_zero, List.set_cons_succ]
  refine wpAnyL_take (i := 13) (v := undef) rfl (by kernel_rfl) (by kernel_rfl) (by kernel_rfl) (by kernel_rfl) (by kernel_rfl) (Or.inr ⟨by rfl, rfl⟩) a2 ?_
  try simp only [Act.put, List.setIfInBounds_toArray, List.set_cons_zero, List.set_cons_succ]
  refine wpAnyL_one (i := 14) rfl (by kernel_rfl) (fun K hK => ?_)
  go_simp
  refine hK.out _ _ (fun _ => a2) ?_
  clear hK K
  try simp only [Act.put, List.setIfInBounds_toArray, List.set_cons_zero, List.set_cons_succ]
  refine wpAnyL_one (i := 15) rfl (by kernel_rfl) (fun K hK => ?_)
  go_simp
  refine hK.out _ _ (fun _ => a2) ?_
  clear hK K
  try simp only [Act.put, List.setIfInBounds_toArray, List.set_cons_zero, List.set_cons_succ]
  refine wpAnyL_one (i := 16) rfl (by kernel_rfl) (fun K hK => ?_)
  go_simp
  refine hK.out _ _ (fun _ => a2) ?_
  clear hK K
  try simp only [Act.put, List.setIfInBounds_toArray, List.set_cons_zero, List.set_cons_succ]
  refine wpAnyL_one (i := 17) rfl (by kernel_rfl) (fun K hK => ?_)
  go_simp
  refine hK.out _ _ (fun _ => a2) ?_
  clear hK K
  try simp only [Act.put, List.setIfInBounds_toArray, List.set_cons_zero, List.set_cons_succ]
  refine wpAnyL_done (by kernel_rfl) ?_ _
  refine OnlyNormal.normal ?_
  go_wp2_with fail
  go_ret
  exact ⟨rfl, below_dn hB4 1⟩

set_option maxRecDepth 100000 in
set_option maxHeartbeats 1000000 in
theorem fCheck_bad3 (na : Bool) (A B : Option Addr) (n c d : Nat) (za : Int) (w : World) (ha : Wd w na A n c za) (hb : Wd w false B 0 d 0) :
    Calls Tryz.prog 73 #[.agg #[.bool na, .slice A n c, .bool false, .slice B 0 d]] w fun e w' => e = .returned (.int .i64 8) ∧ Below w.heap.size w w' := by
  have hmx : Tryz.prog.follows .mixedOrders = true := by kernel_rfl
  have hgs : Nat.gcd za.natAbs (Int.natAbs 0) < pw 4096 := gcd_small ha.small hb.small
  obtain ⟨W0, hW0, hB0, q0, s0⟩ := alloc1 w 27 #[.bool na, .slice A n c, .bool false, .slice B 0 d]
  have hA := hide (ha.below hB0)
  have hD := hide (hb.below hB0)
  clear ha hb
  obtain ⟨a0, a1, a2, a3, -⟩ := q0.four
  go_enter Tryz.func73, Tryz.ntmps73
  go_wp2_with fail
  refine (Gcd_ok na false A B n c 0 d za 0 W0 hA.out hD.out).mono ?_
  rintro e w1 ⟨hb1, ng, Ag, kg, cg, code, rfl, hR⟩
  rcases hR with ⟨-, rfl, hgw⟩ | ⟨hbig, -⟩
  case inr => exact absurd hbig (by omega)
  have hB1 : Below w.heap.size w w1 := hB0.trans (hb1.mono hB0.size)
  replace q0 := keep_blk hb1 q0
  clear hW0 a0 a1 a2 a3 hb1
  obtain ⟨W4, hW4, hB4, q4, kW, kB, s4⟩ := new_obj 25 #[.bool ng, .slice Ag kg cg] hB1 hB1.size
  replace q0 := kB _ _ _ q0
  obtain ⟨g0, g1, f0, f1⟩ := q4.two
  obtain ⟨a0, a1, a2, a3, -⟩ := q0.four
  go_wp2_with fail
  refine wp_held [] (fun wx => wx.cell? ⟨w.heap.size, 2, none⟩ = some (.bool false) ∧ wx.cell? ⟨w.heap.size, 3, none⟩ = some (.slice B 0 d)) hmx ⟨a2, a3⟩ (fun _ => ?_)
  refine wpAnyL_one (i := 0) rfl (by kernel_rfl) (fun K hK => ?_)
  go_simp
  refine hK.out _ _ (fun _ => ⟨a2, a3⟩) ?_
  clear hK K
  try simp only [Act.put, List.setIfInBounds_toArray, List.set_cons_zero, List.set_cons_succ]
  refine wpAnyL_one (i := 1) rfl (by kernel_rfl) (fun K hK => ?_)
  go_simp
  refine hK.out _ _ (fun _ => ⟨a2, a3⟩) ?_
  clear hK K
  try simp only [Act.put, List.setIfInBounds_toArray, List.set_cons_zero, List.set_cons_succ]
  refine wpAnyL_one (i := 2) rfl (by kernel_rfl) (fun K hK => ?_)
  go_simp
  refine hK.out _ _ (fun _ => ⟨a2, a3⟩) ?_
  clear hK K
  try simp only [Act.put, List.setIfInBounds_toArray, List.set_cons_zero, List.set_cons_succ]
  refine wpAnyL_one (i := 3) rfl (by kernel_rfl) (fun K hK => ?_)
  go_simp
  refine hK.out _ _ (fun _ => ⟨a2, a3⟩) ?_
  clear hK K
  try simp only [Act.put, List.setIfInBounds_toArray, List.set_cons_zero, List.set_cons_succ]
  refine wpAnyL_one (i := 4) rfl (by kernel_rfl) (fun K hK => ?_)
  go_simp
  refine hK.out _ _ (fun _ => ⟨a2, a3⟩) ?_
  clear hK K
  try simp only [Act.put, List.setIfInBounds_toArray, List.set_cons_zero, List.set_cons_succ]
  refine wpAnyL_one (i := 5) rfl (by kernel_rfl) (fun K hK => ?_)
  go_simp
  refine hK.out _ _ (fun _ => ⟨a2, a3⟩) ?_
  clear hK K
  try simp only [Act.put, List.setIfInBounds_toArray, List.set_cons_zero, List.set_cons_succ]
  refine wpAnyL_one (i := 6) rfl (by kernel_rfl) (fun K hK => ?_)
  go_simp
  refine hK.out _ _ (fun _ => ⟨a2, a3⟩) ?_
  clear hK K
  try simp only [Act.put, List.setIfInBounds_toArray, List.set_cons_zero, List.set_cons_succ]
  refine wpAnyL_one (i := 7) rfl (by kernel_rfl) (fun K hK => ?_)
  go_simp
  refine hK.out _ _ (fun _ => ⟨a2, a3⟩) ?_
  clear hK K
  try simp only [Act.put, List.setIfInBounds_toArray, List.set_cons_zero, List.set_cons_succ]
  refine wpAnyL_one (i := 8) rfl (by kernel_rfl) (fun K hK => ?_)
  go_simp
  refine hK.out _ _ (fun _ => ⟨a2, a3⟩) ?_
  clear hK K
  try simp only [Act.put, List.setIfInBounds_toArray, List.set_cons_zero, List.set_cons_succ]
  refine wpAnyL_one (i := 9) rfl (by kernel_rfl) (fun K hK => ?_)
  go_simp
  refine hK.out _ _ (fun _ => ⟨a2, a3⟩) ?_
  clear hK K
  try simp only [Act.put, List.setIfInBounds_toArray, List.set_cons_zero, List.set_cons_succ]
  refine wpAnyL_one (i := 10) rfl (by kernel_rfl) (fun K hK => ?_)
  go_simp
  refine (zero_any _ _ _ _ _ (by omega) true rfl).mono ?_
  rintro e w3 ⟨rfl, hb3⟩
  have hb3' := below_drewL hb3
  have k2 := keep_cell hb3' a2
  have k3 := keep_cell hb3' a3
  refine hK.out _ _ (fun _ => ⟨k2, k3⟩) ?_
  clear hK K
  try simp only [Act.put, List.setIfInBounds_toArray, List.set_cons_zero, List.set_cons_succ]
  refine wpAnyL_one (i := 11) rfl (by kernel_rfl) (fun K hK => ?_)
  go_simp
  refine hK.out _ _ (fun _ => ⟨k2, k3⟩) ?_
  clear hK K
  try simp only [Act.put, List.setIfInBounds_toArray, List.set_cons_zero, List.set_cons_succ]
  refine wpAnyL_one (i := 12) rfl (by kernel_rfl) (fun K hK => ?_)
  go_simp
  refine hK.out _ _ (fun _ => ⟨k2, k3⟩) ?_
  clear hK K
  try simp only [Act.put, List.setIfInBounds_toArray, List.set_cons_zero, List.set_cons_succ]
  refine wpAnyL_take (i := 13) (v := undef) rfl (by kernel_rfl) (by kernel_rfl) (by kernel_rfl) (by kernel_rfl) (by kernel_rfl) (Or.inr ⟨by rfl, rfl⟩) ⟨k2, k3⟩ ?_
  try simp only [Act.put, List.setIfInBounds_toArray, List.set_cons_zero, List.set_cons_succ]
  refine wpAnyL_one (i := 14) rfl (by kernel_rfl) (fun K hK => ?_)
  go_simp
  refine hK.out _ _ (fun _ => ⟨k2, k3⟩) ?_
  clear hK K
  try simp only [Act.put, List.setIfInBounds_toArray, List.set_cons_zero, List.set_cons_succ]
  refine wpAnyL_one (i := 15) rfl (by kernel_rfl) (fun K hK => ?_)
  go_simp
  refine hK.out _ _ (fun _ => ⟨k2, k3⟩) ?_
  clear hK K
  try simp only [Act.put, List.setIfInBounds_toArray, List.set_cons_zero, List.set_cons_succ]
  refine wpAnyL_one (i := 16) rfl (by kernel_rfl) (fun K hK => ?_)
  go_simp
  refine hK.out _ _ (fun _ => ⟨k2, k3⟩) ?_
  clear hK K
  try simp only [Act.put, List.setIfInBounds_toArray, List.set_cons_zero, List.set_cons_succ]
  refine wpAnyL_one (i := 17) rfl (by kernel_rfl) (fun K hK => ?_)
  go_simp
  refine hK.out _ _ (fun _ => ⟨k2, k3⟩) ?_
  clear hK K
  try simp only [Act.put, List.setIfInBounds_toArray, List.set_cons_zero, List.set_cons_succ]
  refine wpAnyL_done (by kernel_rfl) ?_ _
  refine OnlyNormal.normal ?_
  go_wp2_with fail
  go_ret
  exact ⟨rfl, hB4.trans (hb3'.mono hB4.size)⟩

/-- The error of a raw fraction. -/
theorem fCheck_any (na nb : Bool) (A B : Option Addr) (n c m d : Nat) (la lb : List Nat) (w : World) (ha : Lim w A n c la) (hb : Lim w B m d lb) (x : Bool) (hx : okF na la nb lb = x) :
    Calls Tryz.prog 73 #[.agg #[.bool na, .slice A n c, .bool nb, .slice B m d]] w fun e w' => e = .returned (.int .i64 (errOf x)) ∧ Below w.heap.size w w' := by
  cases x
  · simp only [okF, Bool.and_eq_false_iff, Bool.not_eq_false', decide_eq_false_iff_not] at hx
    by_cases h1 : (okW na la && okW nb lb) = true
    · have h1' := h1
      rw [Bool.and_eq_true] at h1
      have hA := Wd.of_ok ha h1.1
      have hD := Wd.of_ok hb h1.2
      cases nb
      · by_cases hz : 0 < lb.length
        · have e3 : sg false (val lb) = (val lb : Nat) := rfl
          rw [e3] at hD
          have h2 := (okW_iff hb.lt).1 h1.2
          have e2 : (sg false (val lb)).natAbs = val lb := sg_natAbs _ _
          rw [e2] at h2
          have hp : 0 < val lb := by
            rw [h2.2.2] at hz
            exact length_digits_pos.1 hz
          refine fCheck_pos na A B n c m d _ _ w hA hD (by omega) false ?_
          rw [sg_natAbs, Int.natAbs_natCast]
          rcases hx with (((hx | hx) | hx) | hx) | hx
          · rw [h1.1] at hx; cases hx
          · rw [h1.2] at hx; cases hx
          · cases hx
          · omega
          · simp; omega
        · have hl0 : lb = [] := List.eq_nil_of_length_eq_zero (by omega)
          subst hl0
          have hm : m = 0 := hb.len.symm
          subst hm
          exact fCheck_bad3 na A B n c d _ w hA hD
      · exact fCheck_bad2 na A B n c m d _ _ w hA hD
    · exact fCheck_bad1 na nb A B n c m d la lb w ha hb (by simpa using h1)
  · exact fCheck_ok na nb A B n c m d _ w (raw_fr ha hb hx)
end Go.Proofs.YtljocgdhdilglaaGreat

namespace Go.Proofs.YtljocgdhdilglaaGreat
open Go.RowKit
attribute [local go_sem] add_lit

def cmpQ (a b : Rat) : Int := if a < b then -1 else if b < a then 1 else 0
theorem cmpZ_rat (a b : Rat) : cmpZ (a.num * b.den) (b.num * a.den) = cmpQ a b := by
  unfold cmpZ cmpQ
  simp only [Rat.lt_iff]

end Go.Proofs.YtljocgdhdilglaaGreat
