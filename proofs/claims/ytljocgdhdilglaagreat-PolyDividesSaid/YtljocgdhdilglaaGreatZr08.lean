/- The reference of layer 1: plus, minus, times over limbs. -/
import Derived.Test.YtljocgdhdilglaaGreatZr07
set_option linter.unusedSimpArgs false
set_option linter.unusedVariables false

namespace Go.Proofs.YtljocgdhdilglaaGreat
open Go.RowKit
attribute [local go_sem] add_lit

/-- The state of the reference's addition. -/
def RPlus (w : World) (a b : List Nat) (k carry : Nat) (v : Value) (wr : World) : Prop :=
  ∃ l, OwnL 52 wr w.heap.size v l ∧ l.length = k ∧ carry ≤ 1 ∧ val l + pw k * carry = val (a.take k) + val (b.take k) ∧ Below w.heap.size w wr

theorem RPlus.step {w w1 wb : World} {a b l : List Nat} {k carry : Nat} {v' : Value} {X : Int} {row : Option Nat} (hlen : l.length = k) (hlt : Lt32 l) (hc : carry ≤ 1)
    (hI : val l + pw k * carry = val (a.take k) + val (b.take k)) (hB : Below w.heap.size w wb) (hown : w1.ownsRow w.heap.size 52 1 v' (k + 1) (l.map limb ++ [.int .u32 X]))
    (hg : wb.grownBy w1 row) (hr : ∀ j, row = some j → w.heap.size ≤ j) (ha : a[k]?.getD 0 < 4294967296) (hb : b[k]?.getD 0 < 4294967296)
    (hX : X = ((carry + a[k]?.getD 0 + b[k]?.getD 0) % 4294967296 : Nat)) : RPlus w a b (k + 1) ((carry + a[k]?.getD 0 + b[k]?.getD 0) / 4294967296) v' w1 := by
  refine ⟨l ++ [(carry + a[k]?.getD 0 + b[k]?.getD 0) % 4294967296], OwnL.snoc hlen.symm hown hlt hX (Nat.mod_lt _ (by decide)), by simp [hlen], by omega, ?_, hB.grown hg hB.size hr⟩
  rw [val_snoc, hlen, val_take_succ, val_take_succ, pw_succ]
  have e : (carry + a[k]?.getD 0 + b[k]?.getD 0) % 4294967296 + 4294967296 * ((carry + a[k]?.getD 0 + b[k]?.getD 0) / 4294967296) = carry + a[k]?.getD 0 + b[k]?.getD 0 := Nat.mod_add_div _ _
  generalize (carry + a[k]?.getD 0 + b[k]?.getD 0) % 4294967296 = s at *
  generalize (carry + a[k]?.getD 0 + b[k]?.getD 0) / 4294967296 = q at *
  have : pw k * (s + 4294967296 * q) = pw k * (carry + a[k]?.getD 0 + b[k]?.getD 0) := by rw [e]
  grind

theorem RPlus.stop {w w1 wb : World} {a b l : List Nat} {k carry : Nat} {v' : Value} {row : Option Nat} (hlen : l.length = k) (hlt : Lt32 l) (hc : carry ≤ 1)
    (hI : val l + pw k * carry = val (a.take k) + val (b.take k)) (hB : Below w.heap.size w wb) (hown : w1.ownsRow w.heap.size 52 1 v' (k + 1) (l.map limb ++ [.int .u32 carry]))
    (hg : wb.grownBy w1 row) (hr : ∀ j, row = some j → w.heap.size ≤ j) (ha : a.length ≤ k) (hb : b.length ≤ k) : OutL w (fun l => l.length = k + 1 ∧ val l = val a + val b) (.returned v') w1 := by
  refine OutL.of_own (OwnL.snoc hlen.symm hown hlt rfl (by omega)) (hB.grown hg hB.size hr) ⟨by simp [hlen], ?_⟩
  rw [val_snoc, hlen, hI, val_take_all ha, val_take_all hb]

set_option maxRecDepth 100000 in
set_option maxHeartbeats 2000000 in
theorem rplus_any (A B : Option Addr) (n c m d : Nat) (a b : List Nat) (w : World) (ha : Lim w A n c a) (hb : Lim w B m d b) (hn9 : n ≤ 1000000000) (hm9 : m ≤ 1000000000) :
    Calls Tryz.prog 117 #[.slice A n c, .slice B m d] w (OutL w fun l => l.length = max n m + 1 ∧ val l = val a + val b) := by
  obtain ⟨i0, hi, hz0, hz1, hz2⟩ := info_parts info32
  have hnc := ha.2.1
  have hmd := hb.2.1
  have hcm := ha.2.2.1
  have hdm := hb.2.2.1
  unfold maxLen at hcm hdm
  have hla := hide ha.len
  have hlb := hide hb.len
  obtain ⟨N, hN, hN1, hN2, hN9⟩ : ∃ N, N = max n m ∧ n ≤ N ∧ m ≤ N ∧ N ≤ 1000000000 := ⟨_, rfl, by omega, by omega, by omega⟩
  rw [← hN]
  have HN := hide hN
  clear hN
  go_enter Tryz.func117, Tryz.ntmps117
  go_wp2
  go_loopw [5, 6, 7] (fun ov cv iv wr => ∃ k carry : Nat, k ≤ N ∧ cv = .int .u64 carry ∧ iv = .int .i64 k ∧ RPlus w a b k carry ov wr) (fun _ _ iv _ => N - (intOf iv).toNat)
  case atStart => exact ⟨0, 0, Nat.zero_le _, rfl, rfl, [], OwnL.nil _ _ _, rfl, by omega, by simp [val], Below.refl _ _⟩
  case round =>
    obtain ⟨k, carry, hk, rfl, rfl, l, hown, hlen, hcy, hI, hB⟩ := hrel
    have HLen := hide hlen
    have HI := hide hI
    clear hlen hI
    have hxa := ha.lt.get k
    have hxb := hb.lt.get k
    by_cases h1 : k < n
    · obtain ⟨ba, oa, rfl, hca⟩ := (ha.below hB).at_ h1
      by_cases h2 : k < m
      · obtain ⟨bb, ob, rfl, hcb⟩ := (hb.below hB).at_ h2
        go_wp2_with (at_builtin; refine wpList_append_any _ rfl (.tmp 42) (.tmp 45) 23 rfl w.heap.size 52 i0 _ 1 4 Tryz.underlying23 hi hz0 hz1 hz2 rfl (by omega) _ k (l.map limb) rfl (by have := HLen.out; subst this; exact hown.1.alloc _) _ _ 1 1 _ rfl (reads_one _ _ _) (by simp [Value.oneCell']) (by simp only [maxLen]; omega) (by omega) (by have := hB.size; simp; omega) ?_; intro v1 w1 hown1 hg1 hat1)
        go_roundw
        case rel => exact ⟨k + 1, _, by omega, by rw [show ((carry : Int) + ((a[k]?.getD 0 : Nat) : Int) + ((b[k]?.getD 0 : Nat) : Int)) / 4294967296 = (((carry + a[k]?.getD 0 + b[k]?.getD 0) / 4294967296 : Nat) : Int) by omega], by go_num, RPlus.step HLen.out hown.2 hcy HI.out (hB.alloc hB.size _) hown1 hg1 hown.row_ge (ha.lt.get k) (hb.lt.get k) (by omega)⟩
        case measure => simp [intOf]; omega
      · have hb0 := hide (getD_none (l := b) (i := k) (by rw [hlb.out]; omega))
        go_wp2_with (at_builtin; refine wpList_append_any _ rfl (.tmp 42) (.tmp 45) 23 rfl w.heap.size 52 i0 _ 1 4 Tryz.underlying23 hi hz0 hz1 hz2 rfl (by omega) _ k (l.map limb) rfl (by have := HLen.out; subst this; exact hown.1.alloc _) _ _ 1 1 _ rfl (reads_one _ _ _) (by simp [Value.oneCell']) (by simp only [maxLen]; omega) (by omega) (by have := hB.size; simp; omega) ?_; intro v1 w1 hown1 hg1 hat1)
        go_roundw
        case rel => exact ⟨k + 1, _, by omega, by rw [hb0.out]; rw [show ((carry : Int) + ((a[k]?.getD 0 : Nat) : Int)) / 4294967296 = (((carry + a[k]?.getD 0 + 0) / 4294967296 : Nat) : Int) by omega], by go_num, RPlus.step HLen.out hown.2 hcy HI.out (hB.alloc hB.size _) hown1 hg1 hown.row_ge (ha.lt.get k) (hb.lt.get k) (by rw [hb0.out]; omega)⟩
        case measure => simp [intOf]; omega
    · have ha0 := hide (getD_none (l := a) (i := k) (by rw [hla.out]; omega))
      by_cases h2 : k < m
      · obtain ⟨bb, ob, rfl, hcb⟩ := (hb.below hB).at_ h2
        go_wp2_with (at_builtin; refine wpList_append_any _ rfl (.tmp 42) (.tmp 45) 23 rfl w.heap.size 52 i0 _ 1 4 Tryz.underlying23 hi hz0 hz1 hz2 rfl (by omega) _ k (l.map limb) rfl (by have := HLen.out; subst this; exact hown.1.alloc _) _ _ 1 1 _ rfl (reads_one _ _ _) (by simp [Value.oneCell']) (by simp only [maxLen]; omega) (by omega) (by have := hB.size; simp; omega) ?_; intro v1 w1 hown1 hg1 hat1)
        go_roundw
        case rel => exact ⟨k + 1, _, by omega, by rw [ha0.out]; rw [show ((carry : Int) + ((b[k]?.getD 0 : Nat) : Int)) / 4294967296 = (((carry + 0 + b[k]?.getD 0) / 4294967296 : Nat) : Int) by omega], by go_num, RPlus.step HLen.out hown.2 hcy HI.out (hB.alloc hB.size _) hown1 hg1 hown.row_ge (ha.lt.get k) (hb.lt.get k) (by rw [ha0.out]; omega)⟩
        case measure => simp [intOf]; omega
      · have hkN := hide (show k = N by have := HN.out; omega)
        go_wp2_with (at_builtin; refine wpList_append_any _ rfl (.tmp 49) (.tmp 52) 23 rfl w.heap.size 52 i0 _ 1 4 Tryz.underlying23 hi hz0 hz1 hz2 rfl (by omega) _ k (l.map limb) rfl (by have := HLen.out; subst this; exact hown.1.alloc _) _ _ 1 1 _ rfl (reads_one _ _ _) (by simp [Value.oneCell']) (by simp only [maxLen]; omega) (by omega) (by have := hB.size; simp; omega) ?_; intro v1 w1 hown1 hg1 hat1)
        go_ret
        rw [← hkN.out]
        exact RPlus.stop HLen.out hown.2 hcy HI.out (hB.alloc hB.size _) hown1 hg1 hown.row_ge (by rw [hla.out]; omega) (by rw [hlb.out]; omega)
end Go.Proofs.YtljocgdhdilglaaGreat
