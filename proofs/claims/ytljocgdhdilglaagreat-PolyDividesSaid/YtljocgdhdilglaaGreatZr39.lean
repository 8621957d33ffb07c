/- Package frac: both, Sub, Mul. Package frac: Sub, Mul of small fractions. The reference of layer 1: left, short. -/
import Derived.Test.YtljocgdhdilglaaGreatZr38
import Derived.Test.YtljocgdhdilglaaGreatZr28
import Derived.Test.YtljocgdhdilglaaGreatZr05
set_option linter.unusedSimpArgs false
set_option linter.unusedVariables false

namespace Go.Proofs.YtljocgdhdilglaaGreat
open Go.RowKit
attribute [local go_sem] add_lit

theorem fCheck_ok (na nb : Bool) (A B : Option Addr) (n c m d : Nat) (r : Rat) (w : World) (h : Fr w na A n c nb B m d r) :
    Calls Tryz.prog 73 #[.agg #[.bool na, .slice A n c, .bool nb, .slice B m d]] w fun e w' => e = .returned (.int .i64 0) ∧ Below w.heap.size w w' := by
  have hn := h.neg
  subst hn
  have hl := low_rat r
  exact fCheck_pos na A B n c m d r.num r.den w h.1 h.2 hl.1 true (by rw [hl.2]; rfl)

end Go.Proofs.YtljocgdhdilglaaGreat

namespace Go.Proofs.YtljocgdhdilglaaGreat
open Go.RowKit
attribute [local go_sem] add_lit

/-- A fraction whose numbers are far from the greatest. -/
def Sm (r : Rat) : Prop := r.num.natAbs < pw 1000 ∧ r.den < pw 1000

theorem mul_lt_pw {x y : Nat} {i j : Nat} (hx : x < pw i) (hy : y < pw j) : x * y < pw (i + j) := by
  rw [pw_add]
  exact Nat.mul_lt_mul'' hx hy
theorem sm_mul {x y : Int} (hx : x.natAbs < pw 1000) (hy : y.natAbs < pw 1000) : (x * y).natAbs < pw 2000 := by
  rw [Int.natAbs_mul]; have h := mul_lt_pw hx hy; rw [show 1000 + 1000 = 2000 from rfl] at h; exact h
theorem pw_two (k : Nat) : pw k + pw k ≤ pw (k + 1) := by rw [pw_succ]; generalize pw k = x; omega
theorem pw2001 : pw 2000 + pw 2000 ≤ pw 4096 := Nat.le_trans (pw_two 2000) (pw_le (by decide))
theorem sm_mul' {x y : Int} (hx : x.natAbs < pw 1000) (hy : y.natAbs < pw 1000) : (x * y).natAbs < pw 4096 := Nat.lt_of_lt_of_le (sm_mul hx hy) (pw_le (by decide))
theorem sm_sub {x y z v : Int} (hx : x.natAbs < pw 1000) (hy : y.natAbs < pw 1000) (hz : z.natAbs < pw 1000) (hv : v.natAbs < pw 1000) : (x * y - z * v).natAbs < pw 4096 := by
  have h1 := sm_mul hx hy
  have h2 := sm_mul hz hv
  have h3 := pw2001
  omega
theorem Sm.dn {r : Rat} (h : Sm r) : ((r.den : Nat) : Int).natAbs < pw 1000 := by simpa using h.2

theorem rat_mul (a b : Rat) : Rat.divInt (a.num * b.num) ((a.den : Int) * (b.den : Nat)) = a * b := by
  rw [← Rat.divInt_mul_divInt, Rat.num_divInt_den, Rat.num_divInt_den]
theorem rat_sub (a b : Rat) : Rat.divInt (a.num * b.den - b.num * a.den) ((a.den : Int) * (b.den : Nat)) = a - b := by
  have ha : ((a.den : Nat) : Int) ≠ 0 := by have := a.den_pos; omega
  have hb : ((b.den : Nat) : Int) ≠ 0 := by have := b.den_pos; omega
  rw [← Rat.divInt_sub_divInt _ _ ha hb, Rat.num_divInt_den, Rat.num_divInt_den]
theorem den_mul_pos (a b : Rat) : 0 < ((a.den : Int) * (b.den : Nat)) := Int.mul_pos (by have := a.den_pos; omega) (by have := b.den_pos; omega)

end Go.Proofs.YtljocgdhdilglaaGreat

namespace Go.Proofs.YtljocgdhdilglaaGreat
open Go.RowKit
attribute [local go_sem] add_lit

set_option maxRecDepth 100000 in
set_option maxHeartbeats 1000000 in
theorem rleft_any (A : Option Addr) (n c s : Nat) (l : List Nat) (w : World) (h : Lim w A n c l) (hs : s < 32) (hn9 : n ≤ 1000000) :
    Calls Tryz.prog 92 #[.slice A n c, .int .u64 s] w (fun e w' => ∃ v o, e = .returned v ∧ OwnL 52 w' w.heap.size v o ∧ o.length = n + 1 ∧ val o = 2 ^ s * val l ∧ Below w.heap.size w w') := by
  obtain ⟨i0, hi, hz0, hz1, hz2⟩ := info_parts info32
  have hnc := h.2.1
  have hcm := h.2.2.1
  unfold maxLen at hcm
  go_enter Tryz.func92, Tryz.ntmps92
  go_wp2_with fail
  go_loopw [7, 6, 5] (fun iv cv ov wr => ∃ i cy : Nat, i ≤ n ∧ iv = .int .i64 i ∧ cv = .int .u64 cy ∧ LeftP w s l i cy ov wr) (fun iv _ _ _ => n - (intOf iv).toNat)
  case atStart => exact ⟨0, 0, Nat.zero_le _, rfl, rfl, [], OwnL.nil _ _ _, rfl, Nat.pow_pos (by omega), by simp [val], Below.refl _ _⟩
  case round =>
    obtain ⟨i, cy, hin, rfl, rfl, o, hown, hol, hcy, hI, hB⟩ := hrel
    replace hol := hide hol
    replace hI := hide hI
    by_cases hi' : i < n
    · obtain ⟨b, of, rfl, hcell⟩ := (h.below hB).at_ hi'
      have hx := h.lt.get i
      obtain ⟨p, hp⟩ : ∃ p, 2 ^ s = p := ⟨_, rfl⟩
      have hpb : p ≤ 2147483648 := by rw [← hp]; exact Nat.pow_le_pow_right (by omega) (show s ≤ 31 by omega)
      have hxb : p * l[i]?.getD 0 ≤ 2147483648 * 4294967295 := Nat.mul_le_mul hpb (by omega)
      have hor : IntKind.u64.wrap ((cy : Int) + IntKind.u64.wrap (((l[i]?.getD 0 : Nat) : Int) * 2 ^ s)) = ((cy + p * l[i]?.getD 0 : Nat) : Int) := by
        have e1 : (((l[i]?.getD 0 : Nat) : Int) * 2 ^ s) = ((p * l[i]?.getD 0 : Nat) : Int) := by rw [← hp]; push_cast; rw [Int.mul_comm]
        rw [hp] at hcy
        rw [e1, IntKind.wrap_u64, IntKind.wrap_u64]
        omega
      rw [hp] at hcy
      replace hp := hide hp
      have hs0 : Hid (val (l.take (i + 1)) = val (l.take i) + pw i * l[i]?.getD 0) := val_take_succ l i
      obtain ⟨x, hxe⟩ : ∃ x, l[i]?.getD 0 = x := ⟨_, rfl⟩
      rw [hxe] at hcell hx hxb hor hs0
      replace hxe := hide hxe
      obtain ⟨t, ht⟩ : ∃ t, cy + p * x = t := ⟨_, rfl⟩
      have htb : t / 4294967296 < p := by
        rw [Nat.div_lt_iff_lt_mul (by omega), ← ht]
        have : p * x + p ≤ p * 4294967296 := by rw [← Nat.mul_succ]; exact Nat.mul_le_mul_left _ (by omega)
        omega
      have htb2 : t < 18446744073709551616 := by omega
      rw [ht] at hor
      replace ht := hide ht
      go_wp2_with (go_loud (at_builtin; refine wpList_append_any _ rfl (.tmp 23) (.tmp 26) 23 rfl w.heap.size 52 i0 _ 1 4 Tryz.underlying23 hi hz0 hz1 hz2 rfl (by omega) _ i (o.map limb) rfl (by have := hol.out; subst this; exact hown.1.alloc _) _ _ 1 1 _ rfl (reads_one _ _ _) (by simp [Value.oneCell']) (by simp only [maxLen]; omega) (by omega) (by have := hB.size; simp; omega) ?_; intro v1 w1 hown1 hg1 hat1))
      have hown2 : OwnL 52 w1 w.heap.size v1 (o ++ [t % 4294967296]) := OwnL.snoc (s := t % 4294967296) hol.out.symm hown1 hown.2 (by omega) (Nat.mod_lt _ (by decide))
      have hB1 := (hB.alloc hB.size _).grown hg1 (by have := hB.size; simp; omega) hown.row_ge
      go_roundw
      case rel =>
        refine ⟨i + 1, t / 4294967296, by omega, by go_num, by go_num, _, hown2, by rw [List.length_append, hol.out]; rfl, by rw [hp.out]; exact htb, ?_, hB1⟩
        rw [val_snoc, hol.out, hs0.out, hp.out, Nat.mul_add, pw_succ]
        have h1 := hI.out
        rw [hp.out] at h1
        have h2 : pw i * (t % 4294967296) + 4294967296 * pw i * (t / 4294967296) = pw i * t := by
          rw [Nat.mul_comm 4294967296 (pw i), Nat.mul_assoc, ← Nat.mul_add, Nat.mod_add_div]
        have h3 : p * (pw i * x) = pw i * (p * x) := by rw [Nat.mul_left_comm]
        rw [h3, ← h1, Nat.add_assoc, h2, ← ht.out, Nat.mul_add]
        omega
      case measure => simp [intOf]; omega
    · obtain rfl : i = n := by omega
      have hlen := hide h.len
      have hcy2 : cy < 4294967296 := Nat.lt_of_lt_of_le hcy (show 2 ^ s ≤ 4294967296 from Nat.le_trans (Nat.pow_le_pow_right (by decide) (show s ≤ 32 by omega)) (by decide))
      have hcm : ((cy : Int)) % 4294967296 = (cy : Int) := by omega
      clear h
      go_wp2_with (go_loud (at_builtin; refine wpList_append_any _ rfl (.tmp 30) (.tmp 33) 23 rfl w.heap.size 52 i0 _ 1 4 Tryz.underlying23 hi hz0 hz1 hz2 rfl (by omega) _ i (o.map limb) rfl (by have := hol.out; subst this; exact hown.1.alloc _) _ _ 1 1 _ rfl (reads_one _ _ _) (by simp [Value.oneCell']) (by simp only [maxLen]; omega) (by omega) (by have := hB.size; simp; omega) ?_; intro v1 w1 hown1 hg1 hat1))
      have hown2 : OwnL 52 w1 w.heap.size v1 (o ++ [cy]) := OwnL.snoc (s := cy) hol.out.symm hown1 hown.2 (by omega) hcy2
      have hB1 := (hB.alloc hB.size _).grown hg1 (by have := hB.size; simp; omega) hown.row_ge
      go_ret
      refine ⟨v1, _, rfl, hown2, by rw [List.length_append, hol.out]; rfl, ?_, hB1⟩
      rw [val_snoc, hol.out, hI.out, val_take_all (by rw [hlen.out]; exact Nat.le_refl _)]

/-- What the loop of 'short' keeps. -/
def RShortR (w : World) (g n D : Nat) (l : List Nat) (k r : Nat) (wr : World) : Prop :=
  ∃ o : List Nat, Blk wr g 52 (cells32 o) ∧ o.length = n ∧ Lt32 o ∧ r < D ∧ val (o.drop k) * D + r = val (l.drop k) ∧ Below w.heap.size w wr

set_option maxRecDepth 100000 in
set_option maxHeartbeats 1000000 in
theorem rshort_any (A : Option Addr) (n c d : Nat) (l : List Nat) (w : World) (hl : Lim w A n c l) (hd0 : 0 < d) (hd : d < 4294967296) (hn9 : n ≤ 1000000) :
    Calls Tryz.prog 91 #[.slice A n c, limb d] w (DivP w (val l) d) := by
  obtain ⟨i0, hi, hz0, hz1, hz2⟩ := info_parts info32
  have hmk := make32 (P := Tryz.prog) 23 52 Tryz.underlying23 hi hz0 hz1 hz2 (n : Int) n rfl (by omega)
  have hnc := hl.2.1
  have hcm := hl.2.2.1
  unfold maxLen at hcm
  have hlen := hide hl.len
  have hdz : ((d : Int) == 0) = false := by simp; omega
  have hdz' : (d : Int) ≠ 0 := by omega
  go_enter Tryz.func91, Tryz.ntmps91
  go_wp2_with fail
  go_loopw [8, 7] (fun iv rv wr => ∃ k r : Nat, k ≤ n ∧ iv = .int .i64 ((k : Int) - 1) ∧ rv = .int .u64 r ∧ RShortR w w.heap.size n d l k r wr) (fun iv _ _ => (intOf iv + 1).toNat)
  case atStart => exact ⟨n, 0, Nat.le_refl _, rfl, rfl, List.replicate n 0, Blk.new _ _ _, by simp, Lt32.replicate _, hd0, by rw [List.drop_of_length_le (by simp), List.drop_of_length_le (by rw [hlen.out]; exact Nat.le_refl _)]; simp [val], (Below.refl _ _).alloc (Nat.le_refl _) _⟩
  case round =>
    obtain ⟨k, r, hk, rfl, rfl, o, hblk, hol, hot, hr, hI, hB⟩ := hrel
    replace hol := hide hol
    replace hI := hide hI
    rcases k with _ | k
    · have hI2 := hI.out
      rw [List.drop_zero, List.drop_zero] at hI2
      obtain ⟨e1, e2⟩ := div_of (U := val l) (V := d) (q := val o) (R := r) (by omega) hr
      have hLo := Lim.of_blk hblk hot (by rw [hol.out]; unfold maxLen; omega)
      rw [hol.out] at hLo
      have hr32 : r < 4294967296 := by omega
      have hrm : ((r : Int)) % 4294967296 = (r : Int) := by omega
      replace e1 := hide e1
      replace e2 := hide e2
      clear hI2
      go_wp2_with fail
      refine (rtrim_any _ _ _ _ _ hLo (by omega)).mono ?_
      rintro e w2 ⟨A2, n2, c2, l2, rfl, hL2, rfl, hb2⟩
      have hLr : ∀ t, Lim (w2.alloc (.cells #[limb r] t)) (some ⟨w2.heap.size, 0, none⟩) 1 1 [r] := fun t => by
        have := Lim.of_blk (l := [r]) (Blk.new w2 t (cells32 [r])) (Lt32.cons hr32 Lt32.nil) (by simp [maxLen])
        exact this
      replace hLr := hide hLr
      go_wp2_with fail
      refine (rtrim_any _ _ _ _ _ (hLr.out _) (by omega)).mono ?_
      rintro e w3 ⟨A3, n3, c3, l3, rfl, hL3, hl3, hb3⟩
      have hb3' : Below w2.heap.size w2 w3 := ((Below.refl w2.heap.size w2).alloc (Nat.le_refl _) _).trans (hb3.mono (by simp))
      replace hl3 := hide hl3
      go_wp2_with fail
      go_ret2
      refine ⟨_, _, _, _, _, _, rfl, by rw [← e1.out]; exact hL2.below hb3', ?_, (hB.trans (hb2.mono hB.size)).trans (hb3'.mono (Nat.le_trans hB.size hb2.size))⟩
      have := hl3.out
      rw [show val [r] = r by simp [val]] at this
      rw [← e2.out, ← this]; exact hL3
    · obtain ⟨b, of, rfl, hcell⟩ := (hl.below hB).at_ (k := k) (by omega)
      have hx := hl.lt.get k
      have hcg := hblk.cell k
      rw [cells32_get o k (by rw [hol.out]; omega)] at hcg
      have hfg := hblk.frozen k
      have hrb : r * 4294967296 + l[k]?.getD 0 < 18446744073709551616 := by omega
      go_wp2_with fail
      obtain ⟨x, hxe⟩ : ∃ x, l[k]?.getD 0 = x := ⟨_, rfl⟩
      rw [hxe] at hx hrb ⊢
      have e1 : ((r : Int) * 4294967296 + (x : Int)) / (d : Int) % 4294967296 = (((r * 4294967296 + x) / d : Nat) : Int) := by
        have : (r * 4294967296 + x) / d < 4294967296 := by
          rw [Nat.div_lt_iff_lt_mul hd0]
          have := Nat.mul_le_mul_left 4294967296 (show r + 1 ≤ d by omega)
          omega
        rw [show ((r : Int) * 4294967296 + (x : Int)) / (d : Int) = (((r * 4294967296 + x) / d : Nat) : Int) by simp]
        generalize (r * 4294967296 + x) / d = z at *
        omega
      have e2 : ((r : Int) * 4294967296 + (x : Int)) % (d : Int) = (((r * 4294967296 + x) % d : Nat) : Int) := by simp
      have hq : (r * 4294967296 + x) / d < 4294967296 := by
        rw [Nat.div_lt_iff_lt_mul hd0]
        have := Nat.mul_le_mul_left 4294967296 (show r + 1 ≤ d by omega)
        omega
      have hr' : (r * 4294967296 + x) % d < d := Nat.mod_lt _ hd0
      have he : (r * 4294967296 + x) / d * d + (r * 4294967296 + x) % d = r * 4294967296 + x := by rw [Nat.mul_comm]; exact Nat.div_add_mod _ _
      rw [e1, e2]
      generalize (r * 4294967296 + x) / d = q at *
      generalize (r * 4294967296 + x) % d = r' at *
      refine ⟨⟨k, r', by omega, rfl, rfl, o.set k q, by rw [← cells32_set]; exact hblk.set_ _ _, by rw [List.length_set]; exact hol.out, hot.set _ hq, hr', ?_, hB.setCell (p := ⟨w.heap.size, k, none⟩) (Nat.le_refl _) _⟩, by simp [intOf] <;> omega⟩
      exact down_step (by rw [hol.out]; omega) (by rw [hlen.out]; omega) hI.out (by rw [hxe]; exact he)
end Go.Proofs.YtljocgdhdilglaaGreat
