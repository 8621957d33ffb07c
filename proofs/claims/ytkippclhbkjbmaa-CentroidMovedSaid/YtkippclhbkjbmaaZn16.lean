/- The reference of layer 1: plus, minus, times over limbs. The reference of layer 1: times, minus over limbs. -/
import Derived.Test.YtkippclhbkjbmaaZn15
set_option linter.unusedSimpArgs false
set_option linter.unusedVariables false

namespace Go.Proofs.Ytkippclhbkjbmaa
open Go.RowKit
attribute [local go_sem] add_lit

/-- The state of the reference's addition. -/
def RPlus (w : World) (a b : List Nat) (k carry : Nat) (v : Value) (wr : World) : Prop :=
  ∃ l, OwnL 107 wr w.heap.size v l ∧ l.length = k ∧ carry ≤ 1 ∧ val l + pw k * carry = val (a.take k) + val (b.take k) ∧ Below w.heap.size w wr

theorem RPlus.step {w w1 wb : World} {a b l : List Nat} {k carry : Nat} {v' : Value} {X : Int} {row : Option Nat} (hlen : l.length = k) (hlt : Lt32 l) (hc : carry ≤ 1)
    (hI : val l + pw k * carry = val (a.take k) + val (b.take k)) (hB : Below w.heap.size w wb) (hown : w1.ownsRow w.heap.size 107 1 v' (k + 1) (l.map limb ++ [.int .u32 X]))
    (hg : wb.grownBy w1 row) (hr : ∀ j, row = some j → w.heap.size ≤ j) (ha : a[k]?.getD 0 < 4294967296) (hb : b[k]?.getD 0 < 4294967296)
    (hX : X = ((carry + a[k]?.getD 0 + b[k]?.getD 0) % 4294967296 : Nat)) : RPlus w a b (k + 1) ((carry + a[k]?.getD 0 + b[k]?.getD 0) / 4294967296) v' w1 := by
  refine ⟨l ++ [(carry + a[k]?.getD 0 + b[k]?.getD 0) % 4294967296], OwnL.snoc hlen.symm hown hlt hX (Nat.mod_lt _ (by decide)), by simp [hlen], by omega, ?_, hB.grown hg hB.size hr⟩
  rw [val_snoc, hlen, val_take_succ, val_take_succ, pw_succ]
  have e : (carry + a[k]?.getD 0 + b[k]?.getD 0) % 4294967296 + 4294967296 * ((carry + a[k]?.getD 0 + b[k]?.getD 0) / 4294967296) = carry + a[k]?.getD 0 + b[k]?.getD 0 := Nat.mod_add_div _ _
  generalize (carry + a[k]?.getD 0 + b[k]?.getD 0) % 4294967296 = s at *
  generalize (carry + a[k]?.getD 0 + b[k]?.getD 0) / 4294967296 = q at *
  have : pw k * (s + 4294967296 * q) = pw k * (carry + a[k]?.getD 0 + b[k]?.getD 0) := by rw [e]
  grind

theorem RPlus.stop {w w1 wb : World} {a b l : List Nat} {k carry : Nat} {v' : Value} {row : Option Nat} (hlen : l.length = k) (hlt : Lt32 l) (hc : carry ≤ 1)
    (hI : val l + pw k * carry = val (a.take k) + val (b.take k)) (hB : Below w.heap.size w wb) (hown : w1.ownsRow w.heap.size 107 1 v' (k + 1) (l.map limb ++ [.int .u32 carry]))
    (hg : wb.grownBy w1 row) (hr : ∀ j, row = some j → w.heap.size ≤ j) (ha : a.length ≤ k) (hb : b.length ≤ k) : OutL w (fun l => l.length = k + 1 ∧ val l = val a + val b) (.returned v') w1 := by
  refine OutL.of_own (OwnL.snoc hlen.symm hown hlt rfl (by omega)) (hB.grown hg hB.size hr) ⟨by simp [hlen], ?_⟩
  rw [val_snoc, hlen, hI, val_take_all ha, val_take_all hb]

set_option maxRecDepth 100000 in
set_option maxHeartbeats 2000000 in
theorem rplus_any (A B : Option Addr) (n c m d : Nat) (a b : List Nat) (w : World) (ha : Lim w A n c a) (hb : Lim w B m d b) (hn9 : n ≤ 1000000000) (hm9 : m ≤ 1000000000) :
    Calls Try.prog 96 #[.slice A n c, .slice B m d] w (OutL w fun l => l.length = max n m + 1 ∧ val l = val a + val b) := by
  obtain ⟨i0, hi, hz0, hz1, hz2⟩ := info_parts info32
  have hnc := ha.2.1
  have hmd := hb.2.1
  have hcm := ha.2.2.1
  have hdm := hb.2.2.1
  unfold maxLen at hcm hdm
  have hla := hide ha.len
  have hlb := hide hb.len
  obtain ⟨N, hN, hN1, hN2, hN9⟩ : ∃ N, N = max n m ∧ n ≤ N ∧ m ≤ N ∧ N ≤ 1000000000 := ⟨_, rfl, by omega, by omega, by omega⟩
  rw [← hN]
  have HN := hide hN
  clear hN
  go_enter Try.func96, Try.ntmps96
  go_wp2
  go_loopw [5, 6, 7] (fun ov cv iv wr => ∃ k carry : Nat, k ≤ N ∧ cv = .int .u64 carry ∧ iv = .int .i64 k ∧ RPlus w a b k carry ov wr) (fun _ _ iv _ => N - (intOf iv).toNat)
  case atStart => exact ⟨0, 0, Nat.zero_le _, rfl, rfl, [], OwnL.nil _ _ _, rfl, by omega, by simp [val], Below.refl _ _⟩
  case round =>
    obtain ⟨k, carry, hk, rfl, rfl, l, hown, hlen, hcy, hI, hB⟩ := hrel
    have HLen := hide hlen
    have HI := hide hI
    clear hlen hI
    have hxa := ha.lt.get k
    have hxb := hb.lt.get k
    by_cases h1 : k < n
    · obtain ⟨ba, oa, rfl, hca⟩ := (ha.below hB).at_ h1
      by_cases h2 : k < m
      · obtain ⟨bb, ob, rfl, hcb⟩ := (hb.below hB).at_ h2
        go_wp2_with (at_builtin; refine wpList_append_any _ rfl (.tmp 42) (.tmp 45) 25 rfl w.heap.size 107 i0 _ 1 4 Try.underlying25 hi hz0 hz1 hz2 rfl (by omega) _ k (l.map limb) rfl (by have := HLen.out; subst this; exact hown.1.alloc _) _ _ 1 1 _ rfl (reads_one _ _ _) (by simp [Value.oneCell']) (by simp only [maxLen]; omega) (by omega) (by have := hB.size; simp; omega) ?_; intro v1 w1 hown1 hg1 hat1)
        go_roundw
        case rel => exact ⟨k + 1, _, by omega, by rw [show ((carry : Int) + ((a[k]?.getD 0 : Nat) : Int) + ((b[k]?.getD 0 : Nat) : Int)) / 4294967296 = (((carry + a[k]?.getD 0 + b[k]?.getD 0) / 4294967296 : Nat) : Int) by omega], by go_num, RPlus.step HLen.out hown.2 hcy HI.out (hB.alloc hB.size _) hown1 hg1 hown.row_ge (ha.lt.get k) (hb.lt.get k) (by omega)⟩
        case measure => simp [intOf]; omega
      · have hb0 := hide (getD_none (l := b) (i := k) (by rw [hlb.out]; omega))
        go_wp2_with (at_builtin; refine wpList_append_any _ rfl (.tmp 42) (.tmp 45) 25 rfl w.heap.size 107 i0 _ 1 4 Try.underlying25 hi hz0 hz1 hz2 rfl (by omega) _ k (l.map limb) rfl (by have := HLen.out; subst this; exact hown.1.alloc _) _ _ 1 1 _ rfl (reads_one _ _ _) (by simp [Value.oneCell']) (by simp only [maxLen]; omega) (by omega) (by have := hB.size; simp; omega) ?_; intro v1 w1 hown1 hg1 hat1)
        go_roundw
        case rel => exact ⟨k + 1, _, by omega, by rw [hb0.out]; rw [show ((carry : Int) + ((a[k]?.getD 0 : Nat) : Int)) / 4294967296 = (((carry + a[k]?.getD 0 + 0) / 4294967296 : Nat) : Int) by omega], by go_num, RPlus.step HLen.out hown.2 hcy HI.out (hB.alloc hB.size _) hown1 hg1 hown.row_ge (ha.lt.get k) (hb.lt.get k) (by rw [hb0.out]; omega)⟩
        case measure => simp [intOf]; omega
    · have ha0 := hide (getD_none (l := a) (i := k) (by rw [hla.out]; omega))
      by_cases h2 : k < m
      · obtain ⟨bb, ob, rfl, hcb⟩ := (hb.below hB).at_ h2
        go_wp2_with (at_builtin; refine wpList_append_any _ rfl (.tmp 42) (.tmp 45) 25 rfl w.heap.size 107 i0 _ 1 4 Try.underlying25 hi hz0 hz1 hz2 rfl (by omega) _ k (l.map limb) rfl (by have := HLen.out; subst this; exact hown.1.alloc _) _ _ 1 1 _ rfl (reads_one _ _ _) (by simp [Value.oneCell']) (by simp only [maxLen]; omega) (by omega) (by have := hB.size; simp; omega) ?_; intro v1 w1 hown1 hg1 hat1)
        go_roundw
        case rel => exact ⟨k + 1, _, by omega, by rw [ha0.out]; rw [show ((carry : Int) + ((b[k]?.getD 0 : Nat) : Int)) / 4294967296 = (((carry + 0 + b[k]?.getD 0) / 4294967296 : Nat) : Int) by omega], by go_num, RPlus.step HLen.out hown.2 hcy HI.out (hB.alloc hB.size _) hown1 hg1 hown.row_ge (ha.lt.get k) (hb.lt.get k) (by rw [ha0.out]; omega)⟩
        case measure => simp [intOf]; omega
      · have hkN := hide (show k = N by have := HN.out; omega)
        go_wp2_with (at_builtin; refine wpList_append_any _ rfl (.tmp 49) (.tmp 52) 25 rfl w.heap.size 107 i0 _ 1 4 Try.underlying25 hi hz0 hz1 hz2 rfl (by omega) _ k (l.map limb) rfl (by have := HLen.out; subst this; exact hown.1.alloc _) _ _ 1 1 _ rfl (reads_one _ _ _) (by simp [Value.oneCell']) (by simp only [maxLen]; omega) (by omega) (by have := hB.size; simp; omega) ?_; intro v1 w1 hown1 hg1 hat1)
        go_ret
        rw [← hkN.out]
        exact RPlus.stop HLen.out hown.2 hcy HI.out (hB.alloc hB.size _) hown1 hg1 hown.row_ge (by rw [hla.out]; omega) (by rw [hlb.out]; omega)
end Go.Proofs.Ytkippclhbkjbmaa

namespace Go.Proofs.Ytkippclhbkjbmaa
open Go.RowKit
attribute [local go_sem] add_lit

/-- The state of the reference's subtraction. -/
def RMinus (w : World) (a b : List Nat) (k borrow : Nat) (v : Value) (wr : World) : Prop :=
  ∃ l, OwnL 107 wr w.heap.size v l ∧ l.length = k ∧ borrow ≤ 1 ∧ val l + val (b.take k) = val (a.take k) + pw k * borrow ∧ Below w.heap.size w wr

theorem RMinus.step {w w1 wb : World} {a b l : List Nat} {k borrow q s : Nat} {v' : Value} {X : Int} {row : Option Nat} (hlen : l.length = k) (hlt : Lt32 l) (hq : q ≤ 1)
    (hI : val l + val (b.take k) = val (a.take k) + pw k * borrow) (hB : Below w.heap.size w wb) (hown : w1.ownsRow w.heap.size 107 1 v' (k + 1) (l.map limb ++ [.int .u32 X]))
    (hg : wb.grownBy w1 row) (hr : ∀ j, row = some j → w.heap.size ≤ j) (hs : s < 4294967296) (hX : X = s) (he : s + b[k]?.getD 0 + borrow = a[k]?.getD 0 + 4294967296 * q) : RMinus w a b (k + 1) q v' w1 := by
  refine ⟨l ++ [s], OwnL.snoc hlen.symm hown hlt hX hs, by simp [hlen], hq, ?_, hB.grown hg hB.size hr⟩
  rw [val_snoc, hlen, val_take_succ, val_take_succ, pw_succ]
  have : pw k * (s + b[k]?.getD 0 + borrow) = pw k * (a[k]?.getD 0 + 4294967296 * q) := by rw [he]
  grind

theorem RMinus.stop {w wr : World} {a b : List Nat} {n borrow : Nat} {v : Value} (h : RMinus w a b n borrow v wr) (ha : a.length ≤ n) (hb : b.length ≤ n) (hab : val b ≤ val a) :
    ∃ A c l, v = .slice A n c ∧ Lim wr A n c l ∧ val l = val a - val b ∧ Below w.heap.size w wr := by
  obtain ⟨l, hown, hlen, hq, hI, hB⟩ := h
  obtain ⟨A, c, hv, hL⟩ := hown.lim
  rw [hlen] at hv hL
  refine ⟨A, c, l, hv, hL, ?_, hB⟩
  rw [val_take_all ha, val_take_all hb] at hI
  have := hL.lt_pw
  rcases Nat.eq_zero_or_pos borrow with h0 | h0
  · subst h0; omega
  · have := Nat.mul_le_mul_left (pw n) h0; omega

set_option maxRecDepth 100000 in
set_option maxHeartbeats 2000000 in
theorem rminus_any (A B : Option Addr) (n c m d : Nat) (a b : List Nat) (w : World) (ha : Lim w A n c a) (hb : Lim w B m d b) (hmn : m ≤ n) (hab : val b ≤ val a) (hn9 : n ≤ 1000000000) :
    Calls Try.prog 97 #[.slice A n c, .slice B m d] w (OutL w fun l => l = digits (val a - val b)) := by
  obtain ⟨i0, hi, hz0, hz1, hz2⟩ := info_parts info32
  have hnc := ha.2.1
  have hmd := hb.2.1
  have hcm := ha.2.2.1
  have hdm := hb.2.2.1
  unfold maxLen at hcm hdm
  have hla := hide ha.len
  have hlb := hide hb.len
  have hab := hide hab
  go_enter Try.func97, Try.ntmps97
  go_wp2
  go_loopw [5, 6, 7] (fun ov cv iv wr => ∃ k borrow : Nat, k ≤ n ∧ cv = .int .i64 borrow ∧ iv = .int .i64 k ∧ RMinus w a b k borrow ov wr) (fun _ _ iv _ => n - (intOf iv).toNat)
  case atStart => exact ⟨0, 0, Nat.zero_le _, rfl, rfl, [], OwnL.nil _ _ _, rfl, by omega, by simp [val], Below.refl _ _⟩
  case round =>
    obtain ⟨k, borrow, hk, rfl, rfl, hP⟩ := hrel
    by_cases h1 : k < n
    · obtain ⟨l, hown, hlen, hcy, hI, hB⟩ := hP
      have HLen := hide hlen
      have HI := hide hI
      clear hlen hI
      have hxa := ha.lt.get k
      have hxb := hb.lt.get k
      obtain ⟨ba, oa, rfl, hca⟩ := (ha.below hB).at_ h1
      by_cases h2 : k < m
      · obtain ⟨bb, ob, rfl, hcb⟩ := (hb.below hB).at_ h2
        by_cases h3 : a[k]?.getD 0 < borrow + b[k]?.getD 0
        · go_wp2_with (at_builtin; refine wpList_append_any _ rfl (.tmp 37) (.tmp 40) 25 rfl w.heap.size 107 i0 _ 1 4 Try.underlying25 hi hz0 hz1 hz2 rfl (by omega) _ k (l.map limb) rfl (by have := HLen.out; subst this; exact hown.1.alloc _) _ _ 1 1 _ rfl (reads_one _ _ _) (by simp [Value.oneCell']) (by simp only [maxLen]; omega) (by omega) (by have := hB.size; simp; omega) ?_; intro v1 w1 hown1 hg1 hat1)
          go_roundw
          case rel => exact ⟨k + 1, 1, by omega, by go_num, by go_num, RMinus.step (s := a[k]?.getD 0 + 4294967296 - borrow - b[k]?.getD 0) HLen.out hown.2 (by omega) HI.out (hB.alloc hB.size _) hown1 hg1 hown.row_ge (by omega) (by omega) (by omega)⟩
          case measure => simp [intOf]; omega
        · go_wp2_with (at_builtin; refine wpList_append_any _ rfl (.tmp 37) (.tmp 40) 25 rfl w.heap.size 107 i0 _ 1 4 Try.underlying25 hi hz0 hz1 hz2 rfl (by omega) _ k (l.map limb) rfl (by have := HLen.out; subst this; exact hown.1.alloc _) _ _ 1 1 _ rfl (reads_one _ _ _) (by simp [Value.oneCell']) (by simp only [maxLen]; omega) (by omega) (by have := hB.size; simp; omega) ?_; intro v1 w1 hown1 hg1 hat1)
          go_roundw
          case rel => exact ⟨k + 1, 0, by omega, by go_num, by go_num, RMinus.step (s := a[k]?.getD 0 - borrow - b[k]?.getD 0) HLen.out hown.2 (by omega) HI.out (hB.alloc hB.size _) hown1 hg1 hown.row_ge (by omega) (by omega) (by omega)⟩
          case measure => simp [intOf]; omega
      · have hb0 := hide (getD_none (l := b) (i := k) (by rw [hlb.out]; omega))
        by_cases h3 : a[k]?.getD 0 < borrow
        · go_wp2_with (at_builtin; refine wpList_append_any _ rfl (.tmp 37) (.tmp 40) 25 rfl w.heap.size 107 i0 _ 1 4 Try.underlying25 hi hz0 hz1 hz2 rfl (by omega) _ k (l.map limb) rfl (by have := HLen.out; subst this; exact hown.1.alloc _) _ _ 1 1 _ rfl (reads_one _ _ _) (by simp [Value.oneCell']) (by simp only [maxLen]; omega) (by omega) (by have := hB.size; simp; omega) ?_; intro v1 w1 hown1 hg1 hat1)
          go_roundw
          case rel => exact ⟨k + 1, 1, by omega, by go_num, by go_num, RMinus.step (s := a[k]?.getD 0 + 4294967296 - borrow) HLen.out hown.2 (by omega) HI.out (hB.alloc hB.size _) hown1 hg1 hown.row_ge (by omega) (by omega) (by rw [hb0.out]; omega)⟩
          case measure => simp [intOf]; omega
        · go_wp2_with (at_builtin; refine wpList_append_any _ rfl (.tmp 37) (.tmp 40) 25 rfl w.heap.size 107 i0 _ 1 4 Try.underlying25 hi hz0 hz1 hz2 rfl (by omega) _ k (l.map limb) rfl (by have := HLen.out; subst this; exact hown.1.alloc _) _ _ 1 1 _ rfl (reads_one _ _ _) (by simp [Value.oneCell']) (by simp only [maxLen]; omega) (by omega) (by have := hB.size; simp; omega) ?_; intro v1 w1 hown1 hg1 hat1)
          go_roundw
          case rel => exact ⟨k + 1, 0, by omega, by go_num, by go_num, RMinus.step (s := a[k]?.getD 0 - borrow) HLen.out hown.2 (by omega) HI.out (hB.alloc hB.size _) hown1 hg1 hown.row_ge (by omega) (by omega) (by rw [hb0.out]; omega)⟩
          case measure => simp [intOf]; omega
    · obtain rfl : k = n := by omega
      obtain ⟨A2, c2, l2, rfl, hL2, hv2, hB⟩ := hP.stop (by rw [hla.out]; omega) (by rw [hlb.out]; omega) hab.out
      have hv2 := hide hv2
      clear hP
      go_wp2_with (go_at_call 77; refine (rtrim_any _ _ _ _ _ hL2 hn9).mono ?_; rintro e w3 ⟨A3, n3, c3, l3, rfl, hL3, hl3, hb3⟩)
      go_ret
      exact ⟨_, _, _, _, rfl, hL3, by rw [hl3, hv2.out], hB.trans (hb3.mono hB.size)⟩
end Go.Proofs.Ytkippclhbkjbmaa
