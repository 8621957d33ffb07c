/- The reference of layer 1: times, minus over limbs. -/
import Derived.Test.YtljocgdhdilglaaGreatZr08
set_option linter.unusedSimpArgs false
set_option linter.unusedVariables false

namespace Go.Proofs.YtljocgdhdilglaaGreat
open Go.RowKit
attribute [local go_sem] add_lit

set_option maxRecDepth 100000 in
set_option maxHeartbeats 1000000 in
theorem rtimes_any (A B : Option Addr) (n c m d : Nat) (a b : List Nat) (w : World) (ha : Lim w A n c a) (hb : Lim w B m d b) (hn : n ≤ 1000000000) (hm : m ≤ 1000000000) :
    Calls Tryz.prog 105 #[.slice A n c, .slice B m d] w (OutL w fun l => l.length = n + m ∧ val l = val a * val b) := by
  obtain ⟨i0, hi, hz0, hz1, hz2⟩ := info_parts info32
  have hmk := make32 (P := Tryz.prog) 23 52 Tryz.underlying23 hi hz0 hz1 hz2 ((n : Int) + m) (n + m) (by omega) (by omega)
  have hnc := ha.2.1
  have hmd := hb.2.1
  have hcm := ha.2.2.1
  have hdm := hb.2.2.1
  unfold maxLen at hcm hdm
  have hal := hide ha.len
  have hbl := hide hb.len
  go_enter Tryz.func105, Tryz.ntmps105
  go_wp2
  go_loopw [6] (fun iv wr => ∃ i : Nat, i ≤ n ∧ iv = .int .i64 i ∧ Times1 w a b w.heap.size i 0 0 wr) (fun iv _ => n - (intOf iv).toNat)
  case atStart => exact ⟨0, Nat.zero_le _, rfl, by have := Times1.start w a b; rw [ha.len, hb.len] at this; exact this⟩
  case round =>
    obtain ⟨i, hi1, rfl, hP⟩ := hrel
    by_cases hlt1 : i < n
    · have hB0 : Below w.heap.size w wr := by obtain ⟨out, h1, h2, h3, h4, h5, h6, h7⟩ := hP; exact h7
      obtain ⟨ba, oa, rfl, hca⟩ := (ha.below hB0).at_ hlt1
      have hxa := ha.lt.get i
      obtain ⟨wo, rfl⟩ : ∃ wo : World, wo = wr := ⟨_, rfl⟩
      go_wp2
      go_loopw [7, 8] (fun cv kv wr => ∃ k carry : Nat, k ≤ m ∧ cv = .int .u64 carry ∧ kv = .int .i64 k ∧ Times1 w a b w.heap.size i k carry wr) (fun _ kv _ => m - (intOf kv).toNat)
      case atStart => exact ⟨0, 0, Nat.zero_le _, rfl, rfl, hP⟩
      case round =>
        obtain ⟨k, carry, hk, rfl, rfl, hP⟩ := hrel
        by_cases hlt2 : k < m
        · obtain ⟨out, hblk, hlen, hlt, hz, hI, hcy, hB⟩ := hP
          have hz := hide hz
          have hI := hide hI
          have hlen := hide hlen
          have hsz := hblk.lt
          obtain ⟨bb, ob, rfl, hcb⟩ := (hb.below hB).at_ hlt2
          have hxb := hb.lt.get k
          have hcg := hblk.cell (i + k)
          rw [cells32_get out (i + k) (by rw [hlen.out, hal.out, hbl.out]; omega)] at hcg
          have hxo := hlt.get (i + k)
          have hfg := hblk.frozen (i + k)
          have hca' := (ha.below hB).cell hlt1
          have s1 : IntKind.i64.wrap ((i : Int) + (k : Int)) = (i : Int) + (k : Int) := IntWalk.i64_in _ (by omega)
          have s2 : 0 ≤ (i : Int) + (k : Int) := by omega
          have s3 : ((i : Int) + (k : Int)).toNat = i + k := by omega
          go_wp2
          go_quiet (fail)
          clear s1 s2 s3
          go_wp2
          go_roundw
          case rel =>
            rw [mulstep hcy hxa hxb hxo, cast_div, cast_mod]
            exact ⟨k + 1, _, by omega, rfl, by go_num, Times1.step (wr := wr.drewN nq) hblk hlen.out hlt hz.out hI.out hcy (below_dn hB _) (by rw [hal.out]; exact hlt1) (by rw [hbl.out]; exact hlt2) ha.lt hb.lt (Nat.mod_lt _ (by decide)) (by omega)⟩
          case measure => simp [intOf]; omega
        · obtain rfl : k = m := by omega
          have HR : Hid (Times1 w a b w.heap.size (i + 1) 0 0 (wr.setCell ⟨w.heap.size, i + k, none⟩ (limb carry))) := by
            rw [← hbl.out] at hP ⊢
            exact hP.row (by rw [hal.out]; exact hlt1)
          obtain ⟨out, hblk, hlen, hlt, hz, hI, hcy, hB⟩ := hP
          have hsz := hblk.lt
          have hcg := hblk.cell (i + k)
          rw [cells32_get out (i + k) (by rw [hlen, hal.out, hbl.out]; omega)] at hcg
          have hfg := hblk.frozen (i + k)
          clear hz hI hlen hblk
          go_wp2
          go_roundw
          case rel => exact ⟨i + 1, by omega, by go_num, HR.out⟩
          case measure => simp [intOf]; omega
    · obtain rfl : i = n := by omega
      have HF : Hid (OutL w (fun l => l.length = i + m ∧ val l = val a * val b) (.returned (.slice (some ⟨w.heap.size, 0, none⟩) (i + m) (i + m))) wr) := by
        rw [← hbl.out]
        have h1 := hal.out
        subst h1
        exact Times1.stop hP (by rw [hbl.out]; unfold maxLen; omega) rfl
      clear hP
      go_wp2
      go_ret
      exact HF.out

/-- The state of the reference's subtraction. -/
def RMinus (w : World) (a b : List Nat) (k borrow : Nat) (v : Value) (wr : World) : Prop :=
  ∃ l, OwnL 52 wr w.heap.size v l ∧ l.length = k ∧ borrow ≤ 1 ∧ val l + val (b.take k) = val (a.take k) + pw k * borrow ∧ Below w.heap.size w wr

theorem RMinus.step {w w1 wb : World} {a b l : List Nat} {k borrow q s : Nat} {v' : Value} {X : Int} {row : Option Nat} (hlen : l.length = k) (hlt : Lt32 l) (hq : q ≤ 1)
    (hI : val l + val (b.take k) = val (a.take k) + pw k * borrow) (hB : Below w.heap.size w wb) (hown : w1.ownsRow w.heap.size 52 1 v' (k + 1) (l.map limb ++ [.int .u32 X]))
    (hg : wb.grownBy w1 row) (hr : ∀ j, row = some j → w.heap.size ≤ j) (hs : s < 4294967296) (hX : X = s) (he : s + b[k]?.getD 0 + borrow = a[k]?.getD 0 + 4294967296 * q) : RMinus w a b (k + 1) q v' w1 := by
  refine ⟨l ++ [s], OwnL.snoc hlen.symm hown hlt hX hs, by simp [hlen], hq, ?_, hB.grown hg hB.size hr⟩
  rw [val_snoc, hlen, val_take_succ, val_take_succ, pw_succ]
  have : pw k * (s + b[k]?.getD 0 + borrow) = pw k * (a[k]?.getD 0 + 4294967296 * q) := by rw [he]
  grind

theorem RMinus.stop {w wr : World} {a b : List Nat} {n borrow : Nat} {v : Value} (h : RMinus w a b n borrow v wr) (ha : a.length ≤ n) (hb : b.length ≤ n) (hab : val b ≤ val a) :
    ∃ A c l, v = .slice A n c ∧ Lim wr A n c l ∧ val l = val a - val b ∧ Below w.heap.size w wr := by
  obtain ⟨l, hown, hlen, hq, hI, hB⟩ := h
  obtain ⟨A, c, hv, hL⟩ := hown.lim
  rw [hlen] at hv hL
  refine ⟨A, c, l, hv, hL, ?_, hB⟩
  rw [val_take_all ha, val_take_all hb] at hI
  have := hL.lt_pw
  rcases Nat.eq_zero_or_pos borrow with h0 | h0
  · subst h0; omega
  · have := Nat.mul_le_mul_left (pw n) h0; omega

set_option maxRecDepth 100000 in
set_option maxHeartbeats 2000000 in
theorem rminus_any (A B : Option Addr) (n c m d : Nat) (a b : List Nat) (w : World) (ha : Lim w A n c a) (hb : Lim w B m d b) (hmn : m ≤ n) (hab : val b ≤ val a) (hn9 : n ≤ 1000000000) :
    Calls Tryz.prog 118 #[.slice A n c, .slice B m d] w (OutL w fun l => l = digits (val a - val b)) := by
  obtain ⟨i0, hi, hz0, hz1, hz2⟩ := info_parts info32
  have hnc := ha.2.1
  have hmd := hb.2.1
  have hcm := ha.2.2.1
  have hdm := hb.2.2.1
  unfold maxLen at hcm hdm
  have hla := hide ha.len
  have hlb := hide hb.len
  have hab := hide hab
  go_enter Tryz.func118, Tryz.ntmps118
  go_wp2
  go_loopw [5, 6, 7] (fun ov cv iv wr => ∃ k borrow : Nat, k ≤ n ∧ cv = .int .i64 borrow ∧ iv = .int .i64 k ∧ RMinus w a b k borrow ov wr) (fun _ _ iv _ => n - (intOf iv).toNat)
  case atStart => exact ⟨0, 0, Nat.zero_le _, rfl, rfl, [], OwnL.nil _ _ _, rfl, by omega, by simp [val], Below.refl _ _⟩
  case round =>
    obtain ⟨k, borrow, hk, rfl, rfl, hP⟩ := hrel
    by_cases h1 : k < n
    · obtain ⟨l, hown, hlen, hcy, hI, hB⟩ := hP
      have HLen := hide hlen
      have HI := hide hI
      clear hlen hI
      have hxa := ha.lt.get k
      have hxb := hb.lt.get k
      obtain ⟨ba, oa, rfl, hca⟩ := (ha.below hB).at_ h1
      by_cases h2 : k < m
      · obtain ⟨bb, ob, rfl, hcb⟩ := (hb.below hB).at_ h2
        by_cases h3 : a[k]?.getD 0 < borrow + b[k]?.getD 0
        · go_wp2_with (at_builtin; refine wpList_append_any _ rfl (.tmp 37) (.tmp 40) 23 rfl w.heap.size 52 i0 _ 1 4 Tryz.underlying23 hi hz0 hz1 hz2 rfl (by omega) _ k (l.map limb) rfl (by have := HLen.out; subst this; exact hown.1.alloc _) _ _ 1 1 _ rfl (reads_one _ _ _) (by simp [Value.oneCell']) (by simp only [maxLen]; omega) (by omega) (by have := hB.size; simp; omega) ?_; intro v1 w1 hown1 hg1 hat1)
          go_roundw
          case rel => exact ⟨k + 1, 1, by omega, by go_num, by go_num, RMinus.step (s := a[k]?.getD 0 + 4294967296 - borrow - b[k]?.getD 0) HLen.out hown.2 (by omega) HI.out (hB.alloc hB.size _) hown1 hg1 hown.row_ge (by omega) (by omega) (by omega)⟩
          case measure => simp [intOf]; omega
        · go_wp2_with (at_builtin; refine wpList_append_any _ rfl (.tmp 37) (.tmp 40) 23 rfl w.heap.size 52 i0 _ 1 4 Tryz.underlying23 hi hz0 hz1 hz2 rfl (by omega) _ k (l.map limb) rfl (by have := HLen.out; subst this; exact hown.1.alloc _) _ _ 1 1 _ rfl (reads_one _ _ _) (by simp [Value.oneCell']) (by simp only [maxLen]; omega) (by omega) (by have := hB.size; simp; omega) ?_; intro v1 w1 hown1 hg1 hat1)
          go_roundw
          case rel => exact ⟨k + 1, 0, by omega, by go_num, by go_num, RMinus.step (s := a[k]?.getD 0 - borrow - b[k]?.getD 0) HLen.out hown.2 (by omega) HI.out (hB.alloc hB.size _) hown1 hg1 hown.row_ge (by omega) (by omega) (by omega)⟩
          case measure => simp [intOf]; omega
      · have hb0 := hide (getD_none (l := b) (i := k) (by rw [hlb.out]; omega))
        by_cases h3 : a[k]?.getD 0 < borrow
        · go_wp2_with (at_builtin; refine wpList_append_any _ rfl (.tmp 37) (.tmp 40) 23 rfl w.heap.size 52 i0 _ 1 4 Tryz.underlying23 hi hz0 hz1 hz2 rfl (by omega) _ k (l.map limb) rfl (by have := HLen.out; subst this; exact hown.1.alloc _) _ _ 1 1 _ rfl (reads_one _ _ _) (by simp [Value.oneCell']) (by simp only [maxLen]; omega) (by omega) (by have := hB.size; simp; omega) ?_; intro v1 w1 hown1 hg1 hat1)
          go_roundw
          case rel => exact ⟨k + 1, 1, by omega, by go_num, by go_num, RMinus.step (s := a[k]?.getD 0 + 4294967296 - borrow) HLen.out hown.2 (by omega) HI.out (hB.alloc hB.size _) hown1 hg1 hown.row_ge (by omega) (by omega) (by rw [hb0.out]; omega)⟩
          case measure => simp [intOf]; omega
        · go_wp2_with (at_builtin; refine wpList_append_any _ rfl (.tmp 37) (.tmp 40) 23 rfl w.heap.size 52 i0 _ 1 4 Tryz.underlying23 hi hz0 hz1 hz2 rfl (by omega) _ k (l.map limb) rfl (by have := HLen.out; subst this; exact hown.1.alloc _) _ _ 1 1 _ rfl (reads_one _ _ _) (by simp [Value.oneCell']) (by simp only [maxLen]; omega) (by omega) (by have := hB.size; simp; omega) ?_; intro v1 w1 hown1 hg1 hat1)
          go_roundw
          case rel => exact ⟨k + 1, 0, by omega, by go_num, by go_num, RMinus.step (s := a[k]?.getD 0 - borrow) HLen.out hown.2 (by omega) HI.out (hB.alloc hB.size _) hown1 hg1 hown.row_ge (by omega) (by omega) (by rw [hb0.out]; omega)⟩
          case measure => simp [intOf]; omega
    · obtain rfl : k = n := by omega
      obtain ⟨A2, c2, l2, rfl, hL2, hv2, hB⟩ := hP.stop (by rw [hla.out]; omega) (by rw [hlb.out]; omega) hab.out
      have hv2 := hide hv2
      clear hP
      go_wp2_with (go_at_call 89; refine (rtrim_any _ _ _ _ _ hL2 hn9).mono ?_; rintro e w3 ⟨A3, n3, c3, l3, rfl, hL3, hl3, hb3⟩)
      go_ret
      exact ⟨_, _, _, _, rfl, hL3, by rw [hl3, hv2.out], hB.trans (hb3.mono hB.size)⟩
end Go.Proofs.YtljocgdhdilglaaGreat
