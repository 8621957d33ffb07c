/- Package wide: made, times, and what is built on them. -/
import Derived.Test.YtljocgdhdilglaaGreatZr01
set_option linter.unusedSimpArgs false
set_option linter.unusedVariables false

namespace Go.Proofs.YtljocgdhdilglaaGreat
open Go.RowKit
attribute [local go_sem] add_lit

theorem Res_made {w w' : World} {A : Option Addr} {n c : Nat} {l : List Nat} {neg : Bool} (h : Lim w A n c l) (hb : Below w.heap.size w w') (hs : val l < pw 4096) :
    ResW w (sg neg (val l)) (.returned (.tuple #[.agg #[.bool (neg && decide (0 < (digits (val l)).length)), .slice A (digits (val l)).length c], .int .i64 0])) w' :=
  ⟨hb, _, _, _, _, _, rfl, .inl ⟨by rw [sg_natAbs]; exact hs, rfl, (Wd.made h neg hs).below hb⟩⟩

set_option maxRecDepth 100000 in
set_option maxHeartbeats 400000 in
theorem made_any (neg : Bool) (A : Option Addr) (n c : Nat) (l : List Nat) (w : World) (h : Lim w A n c l) :
    Calls Tryz.prog 94 #[.bool neg, .slice A n c] w (ResW w (sg neg (val l))) := by
  have hk := h.canon.2
  have hnc := h.2.1
  have hcm := h.2.2.1
  unfold maxLen at hcm
  have HO : Hid (∀ w', Below w.heap.size w w' → val l < pw 4096 → ResW w (sg neg (val l)) (.returned (.tuple #[.agg #[.bool (neg && decide (0 < (digits (val l)).length)), .slice A (digits (val l)).length c], .int .i64 0])) w') :=
    fun w' hb hs => Res_made h hb hs
  have HB : Hid (∀ w', Below w.heap.size w w' → pw 4096 ≤ val l → ResW w (sg neg (val l)) (.returned (.tuple #[.agg #[.bool false, .slice none 0 0], .int .i64 16])) w') :=
    fun w' hb hs => ⟨hb, _, _, _, _, _, rfl, .inr ⟨by rw [sg_natAbs]; exact hs, rfl, rfl, rfl, rfl, rfl⟩⟩
  have HI := hide (length_digits_le (val l) 4096)
  have HT := hide (trim_any A n c l)
  generalize hm : (digits (val l)).length = m at *
  clear hm
  by_cases h1 : m ≤ 4096
  · by_cases h2 : 0 < m
    · have e : (neg && decide (0 < m)) = neg := by simp [h2]
      simp only [e] at HO
      clear e
      have hd : decide (0 < m) = true := by simpa using h2
      cases neg
      all_goals
        go_enter Tryz.func94, Tryz.ntmps94
        go_wp2_with (go_at_call 109; refine (HT.out _ (h.alloc _)).mono ?_; rintro e w' ⟨rfl, rfl⟩)
        go_returns
        exact HO.out _ ((Below.refl _ _).alloc (Nat.le_refl _) _) (HI.out.1 h1)
    · obtain rfl : m = 0 := by omega
      have e : (neg && decide (0 < 0)) = false := by simp
      simp only [e] at HO
      clear e
      cases neg
      all_goals
        go_enter Tryz.func94, Tryz.ntmps94
        go_wp2_with (go_at_call 109; refine (HT.out _ (h.alloc _)).mono ?_; rintro e w' ⟨rfl, rfl⟩)
        go_returns
        exact HO.out _ ((Below.refl _ _).alloc (Nat.le_refl _) _) (HI.out.1 h1)
  · have hp : pw 4096 ≤ val l := by
      rcases Nat.lt_or_ge (val l) (pw 4096) with h' | h'
      · exact absurd (HI.out.2 h') h1
      · exact h'
    have HP := hide hp
    clear hp
    go_enter Tryz.func94, Tryz.ntmps94
    go_wp2_with (go_at_call 109; refine (HT.out _ (h.alloc _)).mono ?_; rintro e w' ⟨rfl, rfl⟩)
    go_returns
    exact HB.out _ ((Below.refl _ _).alloc (Nat.le_refl _) _) HP.out

/-- The state of a product: i rows are done, and k places of the next. -/
def Times1 (w : World) (a b : List Nat) (g i k carry : Nat) (wr : World) : Prop :=
  ∃ out, Blk wr g 52 (cells32 out) ∧ out.length = a.length + b.length ∧ Lt32 out ∧ (∀ j, i + b.length ≤ j → out[j]?.getD 0 = 0) ∧
    val out + pw (i + k) * carry = val (a.take i) * val b + pw i * (a[i]?.getD 0 * val (b.take k)) ∧ carry < 4294967296 ∧ Below w.heap.size w wr

theorem Times1.start (w : World) (a b : List Nat) : Times1 w a b w.heap.size 0 0 0 (w.alloc (.cells (cells32 (List.replicate (a.length + b.length) 0)) 52)) :=
  ⟨List.replicate _ 0, Blk.new _ _ _, by simp, Lt32.replicate _, fun j _ => getD_replicate _ _, by simp [val_replicate, val], by omega, (Below.refl _ _).alloc (Nat.le_refl _) _⟩

theorem Times1.step {w wr : World} {a b out : List Nat} {i k carry s q : Nat} (hblk : Blk wr w.heap.size 52 (cells32 out)) (hlen : out.length = a.length + b.length) (hlt : Lt32 out) (hz : ∀ j, i + b.length ≤ j → out[j]?.getD 0 = 0)
    (hI : val out + pw (i + k) * carry = val (a.take i) * val b + pw i * (a[i]?.getD 0 * val (b.take k))) (hc : carry < 4294967296) (hB : Below w.heap.size w wr) (hi : i < a.length) (hk : k < b.length)
    (ha : Lt32 a) (hb : Lt32 b) (hs : s < 4294967296) (he : s + 4294967296 * q = carry + a[i]?.getD 0 * b[k]?.getD 0 + out[i + k]?.getD 0) :
    Times1 w a b w.heap.size i (k + 1) q (wr.setCell ⟨w.heap.size, i + k, none⟩ (limb s)) :=
  ⟨out.set (i + k) s, by rw [← cells32_set]; exact hblk.set_ _ _, by rw [List.length_set]; exact hlen, hlt.set _ hs, fun j hj => by rw [getD_set_ne _ (by omega)]; exact hz j (by omega),
    times_step (by omega) hI he, carry_lt (ha.get i) (hb.get k) (hlt.get _) hc he, hB.setCell (p := ⟨w.heap.size, i + k, none⟩) (Nat.le_refl _) _⟩

theorem Times1.row {w wr : World} {a b : List Nat} {i carry : Nat} (h : Times1 w a b w.heap.size i b.length carry wr) (hi : i < a.length) :
    Times1 w a b w.heap.size (i + 1) 0 0 (wr.setCell ⟨w.heap.size, i + b.length, none⟩ (limb carry)) := by
  obtain ⟨out, hblk, hlen, hlt, hz, hI, hc, hB⟩ := h
  rw [List.take_length] at hI
  refine ⟨out.set (i + b.length) carry, by rw [← cells32_set]; exact hblk.set_ _ _, by rw [List.length_set]; exact hlen, hlt.set _ hc, fun j hj => by rw [getD_set_ne _ (by omega)]; exact hz j (by omega), ?_, by omega, hB.setCell (p := ⟨w.heap.size, i + b.length, none⟩) (Nat.le_refl _) _⟩
  have := times_row (by omega) (hz _ (Nat.le_refl _)) hI
  simp [val, this]

theorem Times1.stop {w wr : World} {a b : List Nat} {carry : Nat} (h : Times1 w a b w.heap.size a.length 0 carry wr) (hn : a.length + b.length ≤ maxLen) (h0 : carry = 0) :
    OutL w (fun l => l.length = a.length + b.length ∧ val l = val a * val b) (.returned (.slice (some ⟨w.heap.size, 0, none⟩) (a.length + b.length) (a.length + b.length))) wr := by
  obtain ⟨out, hblk, hlen, hlt, -, hI, -, hB⟩ := h
  have hL := Lim.of_blk hblk hlt (by omega)
  rw [hlen] at hL
  refine ⟨_, _, _, _, rfl, hL, ⟨hlen, ?_⟩, hB⟩
  subst h0
  simpa [val] using hI

set_option maxRecDepth 100000 in
set_option maxHeartbeats 1000000 in
theorem times_any (A B : Option Addr) (n c m d : Nat) (a b : List Nat) (w : World) (ha : Lim w A n c a) (hb : Lim w B m d b) (hn : n ≤ 1000000000) (hm : m ≤ 1000000000) :
    Calls Tryz.prog 95 #[.slice A n c, .slice B m d] w (OutL w fun l => l.length = n + m ∧ val l = val a * val b) := by
  obtain ⟨i0, hi, hz0, hz1, hz2⟩ := info_parts info32
  have hmk := make32 (P := Tryz.prog) 23 52 Tryz.underlying23 hi hz0 hz1 hz2 ((n : Int) + m) (n + m) (by omega) (by omega)
  have hnc := ha.2.1
  have hmd := hb.2.1
  have hcm := ha.2.2.1
  have hdm := hb.2.2.1
  unfold maxLen at hcm hdm
  have hal := hide ha.len
  have hbl := hide hb.len
  go_enter Tryz.func95, Tryz.ntmps95
  go_wp2
  go_loopw [19] (fun iv wr => ∃ i : Nat, i ≤ n ∧ iv = .int .i64 i ∧ Times1 w a b w.heap.size i 0 0 wr) (fun iv _ => n - (intOf iv).toNat)
  case atStart => exact ⟨0, Nat.zero_le _, rfl, by have := Times1.start w a b; rw [ha.len, hb.len] at this; exact this⟩
  case round =>
    obtain ⟨i, hi1, rfl, hP⟩ := hrel
    by_cases hlt1 : i < n
    · have hB0 : Below w.heap.size w wr := by obtain ⟨out, h1, h2, h3, h4, h5, h6, h7⟩ := hP; exact h7
      obtain ⟨ba, oa, rfl, hca⟩ := (ha.below hB0).at_ hlt1
      have hxa := ha.lt.get i
      obtain ⟨wo, rfl⟩ : ∃ wo : World, wo = wr := ⟨_, rfl⟩
      go_wp2
      go_loopw [8, 26] (fun cv kv wr => ∃ k carry : Nat, k ≤ m ∧ cv = .int .u64 carry ∧ kv = .int .i64 k ∧ Times1 w a b w.heap.size i k carry wr) (fun _ kv _ => m - (intOf kv).toNat)
      case atStart => exact ⟨0, 0, Nat.zero_le _, rfl, rfl, hP⟩
      case round =>
        obtain ⟨k, carry, hk, rfl, rfl, hP⟩ := hrel
        by_cases hlt2 : k < m
        · obtain ⟨out, hblk, hlen, hlt, hz, hI, hcy, hB⟩ := hP
          have hz := hide hz
          have hI := hide hI
          have hlen := hide hlen
          have hsz := hblk.lt
          obtain ⟨bb, ob, rfl, hcb⟩ := (hb.below hB).at_ hlt2
          have hxb := hb.lt.get k
          have hcg := hblk.cell (i + k)
          rw [cells32_get out (i + k) (by rw [hlen.out, hal.out, hbl.out]; omega)] at hcg
          have hxo := hlt.get (i + k)
          have hfg := hblk.frozen (i + k)
          go_wp2
          go_roundw
          case rel =>
            rw [mulstep hcy hxa hxb hxo, cast_div, cast_mod]
            exact ⟨k + 1, _, by omega, rfl, by go_num, Times1.step hblk hlen.out hlt hz.out hI.out hcy hB (by rw [hal.out]; exact hlt1) (by rw [hbl.out]; exact hlt2) ha.lt hb.lt (Nat.mod_lt _ (by decide)) (by omega)⟩
          case measure => simp [intOf]; omega
        · obtain rfl : k = m := by omega
          have HR : Hid (Times1 w a b w.heap.size (i + 1) 0 0 (wr.setCell ⟨w.heap.size, i + k, none⟩ (limb carry))) := by
            rw [← hbl.out] at hP ⊢
            exact hP.row (by rw [hal.out]; exact hlt1)
          obtain ⟨out, hblk, hlen, hlt, hz, hI, hcy, hB⟩ := hP
          have hsz := hblk.lt
          have hcg := hblk.cell (i + k)
          rw [cells32_get out (i + k) (by rw [hlen, hal.out, hbl.out]; omega)] at hcg
          have hfg := hblk.frozen (i + k)
          clear hz hI hlen hblk
          go_wp2
          go_roundw
          case rel => exact ⟨i + 1, by omega, by go_num, HR.out⟩
          case measure => simp [intOf]; omega
    · obtain rfl : i = n := by omega
      have HF : Hid (OutL w (fun l => l.length = i + m ∧ val l = val a * val b) (.returned (.slice (some ⟨w.heap.size, 0, none⟩) (i + m) (i + m))) wr) := by
        rw [← hbl.out]
        have h1 := hal.out
        subst h1
        exact Times1.stop hP (by rw [hbl.out]; unfold maxLen; omega) rfl
      clear hP
      go_wp2
      go_ret
      exact HF.out
end Go.Proofs.YtljocgdhdilglaaGreat
