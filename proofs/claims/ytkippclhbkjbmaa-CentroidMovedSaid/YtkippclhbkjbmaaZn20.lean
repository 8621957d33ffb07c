/- Stores of many cells behind a name. The reference of layer 1: left, short. -/
import Derived.Deep.MidRow
import Derived.Test.YtkippclhbkjbmaaZn18
import Derived.Test.YtkippclhbkjbmaaZn19
import Derived.Test.YtkippclhbkjbmaaZn11
import Derived.Test.YtkippclhbkjbmaaZn15
set_option linter.unusedSimpArgs false
set_option linter.unusedVariables false

namespace Go.Proofs.Ytkippclhbkjbmaa
open Go.RowKit

theorem Blk.there {w : World} {g : Nat} {t : TypeId} {cs : Array Value} (h : Blk w g t cs) {o k : Nat} (hk : o + k ≤ cs.size) : w.there g o k := fun j hj => by
  have hc := h.cell (o + j)
  have hf := h.frozen (o + j)
  refine ⟨?_, hf⟩
  rw [hc, Array.getElem?_eq_getElem (by omega)]; rfl
theorem Blk.rangeAt {w : World} {g : Nat} {t : TypeId} (pre : List Value) {cs rest : List Value} {o : Nat} (h : Blk w g t (pre ++ cs ++ rest).toArray) (ho : pre.length = o) : w.rangeAt g o cs := fun j v hj => by
  subst ho
  rw [h.cell]
  have hl : j < cs.length := (List.getElem?_eq_some_iff.1 hj).1
  simp only [List.getElem?_toArray]
  rw [List.append_assoc, List.getElem?_append_right (by omega), Nat.add_sub_cancel_left, List.getElem?_append_left hl]
  exact hj

def plainV : Value → Bool
  | .int .u32 _ => false
  | _ => true
theorem NoLimb.of {cs : Array Value} (h : cs.toList.all plainV = true) : NoLimb cs := fun i x hx => by
  rw [List.all_eq_true] at h
  have hm : limb x ∈ cs.toList := by
    rw [← Array.getElem?_toList] at hx
    exact List.mem_of_getElem? hx
  have := h _ hm
  exact absurd this (by simp [plainV, limb])

theorem set_mid {t : TypeId} {B : Nat} {w0 : World} {g : Nat} (rest : List Value) : ∀ (vs old pre : List Value) (w : World) (o : Nat), pre.length = o → old.length = vs.length → (pre ++ old ++ rest).all plainV = true → vs.all plainV = true → Below B w0 w → B ≤ g → Blk w g t (pre ++ old ++ rest).toArray →
    ∃ W, w.setCells g o vs = W ∧ Below B w0 W ∧ Blk W g t (pre ++ vs ++ rest).toArray ∧ StepN w W g := by
  intro vs
  induction vs with
  | nil =>
    intro old pre w o ho hl _ _ hB hs hb
    obtain rfl : old = [] := List.eq_nil_of_length_eq_zero (by simpa using hl)
    exact ⟨w, rfl, hB, hb, fun _ _ _ _ _ h => h, fun _ _ _ _ h => h, rfl⟩
  | cons v r ih =>
    intro old pre w o ho hl hp hv hB hs hb
    obtain ⟨x, old', rfl⟩ : ∃ x old', old = x :: old' := by
      cases old with
      | nil => simp at hl
      | cons x old' => exact ⟨x, old', rfl⟩
    have hb1 : Blk (w.setCell ⟨g, o, none⟩ v) g t ((pre ++ [v]) ++ old' ++ rest).toArray := by
      have := hb.set_ o v
      have e : ((pre ++ x :: old' ++ rest).toArray.setIfInBounds o v) = ((pre ++ [v]) ++ old' ++ rest).toArray := by
        rw [List.setIfInBounds_toArray]
        congr 1
        rw [← ho, List.append_assoc, List.set_append_right _ _ (Nat.le_refl _)]
        simp
      rw [e] at this
      exact this
    have hn : NoLimb (pre ++ x :: old' ++ rest).toArray := NoLimb.of (by simpa using hp)
    have hp' : ((pre ++ [v]) ++ old' ++ rest).all plainV = true := by
      simp only [List.all_append, List.all_cons, List.all_nil, Bool.and_true, Bool.and_eq_true] at hp hv ⊢
      exact ⟨⟨⟨hp.1.1, hv.1⟩, hp.1.2.2⟩, hp.2⟩
    have hv' : r.all plainV = true := by simp only [List.all_cons, Bool.and_eq_true] at hv; exact hv.2
    obtain ⟨W, hW, hB2, hb2, hst⟩ := ih old' (pre ++ [v]) (w.setCell ⟨g, o, none⟩ v) (o + 1) (by simp [ho]) (by simpa using hl) hp' hv' (hB.setCell (p := ⟨g, o, none⟩) hs _) hs hb1
    refine ⟨W, hW, hB2, by simpa using hb2, fun na A n c z hz => hst.1 _ _ _ _ _ ⟨hz.1, hz.2.1, hz.2.2.set_box hb hn _ _⟩, fun g' t' cs' hg h => hst.2.1 _ _ _ hg (h.far hg _), ?_⟩
    rw [hst.2.2]; simp

/-- All cells of a block. -/
theorem set_all {t : TypeId} {B : Nat} {w0 w : World} {g : Nat} (vs old : List Value) (hl : old.length = vs.length) (hp : old.all plainV = true) (hv : vs.all plainV = true) (hB : Below B w0 w) (hs : B ≤ g) (hb : Blk w g t old.toArray) :
    ∃ W, w.setCells g 0 vs = W ∧ Below B w0 W ∧ Blk W g t vs.toArray ∧ StepN w W g := by
  obtain ⟨W, h1, h2, h3, h4⟩ := set_mid (t := t) (B := B) (w0 := w0) (g := g) [] vs old [] w 0 rfl hl (by simpa using hp) hv hB hs (by simpa using hb)
  exact ⟨W, h1, h2, by simpa using h3, h4⟩
theorem LimI.step {w W : World} {g : Nat} {A : Option Addr} {n c : Nat} {l : List Int} (h : LimI w A n c l) (B : Nat) (w0 : World) (h0 : LimI w0 A n c l) (hb : Below w0.heap.size w0 W) : LimI W A n c l := h0.below hb
theorem results_cell_tmp {P : Program} {fn : Func} {a u : Tmp} {ty : TypeId} (h : fn.results = #[.cell a ty, .tmp u]) (tmps : Array Value) (w : World) (b : Nat) (cs : List Value) (d : TypeDesc) (ha : tmps.getD a undef = .pointer (some ⟨b, 0, none⟩)) (hc : w.rangeAt b 0 cs)
    (hu : P.underlying ty = some d) (hd : d.isRow = true) (hi : (P.info? ty).map (·.size) = some cs.length) : (results fn tmps).run P w = .ok (.tuple #[.agg cs.toArray, tmps.getD u undef]) w := by
  have e := run_loadVar_mid w b 0 ty cs d hc hu hd hi
  unfold results
  rw [h]
  have ha' : tmps[a]?.getD undef = .pointer (some ⟨b, 0, none⟩) := by simpa using ha
  simp [asAddr, ha', e]
theorem und_mom : ∃ d, Try.prog.underlying 31 = some d ∧ d.isRow = true := ⟨(Try.prog.underlying 31).getD (.struct #[]), by kernel_rfl, by kernel_rfl⟩
theorem info_mom : (Try.prog.info? 31).map (·.size) = some 21 := by kernel_rfl
theorem info_frac : (Try.prog.info? 29).map (·.size) = some 4 := by kernel_rfl
end Go.Proofs.Ytkippclhbkjbmaa

namespace Go.Proofs.Ytkippclhbkjbmaa
open Go.RowKit
attribute [local go_sem] add_lit

set_option maxRecDepth 100000 in
set_option maxHeartbeats 1000000 in
theorem rleft_any (A : Option Addr) (n c s : Nat) (l : List Nat) (w : World) (h : Lim w A n c l) (hs : s < 32) (hn9 : n ≤ 1000000) :
    Calls Try.prog 94 #[.slice A n c, .int .u64 s] w (fun e w' => ∃ v o, e = .returned v ∧ OwnL 107 w' w.heap.size v o ∧ o.length = n + 1 ∧ val o = 2 ^ s * val l ∧ Below w.heap.size w w') := by
  obtain ⟨i0, hi, hz0, hz1, hz2⟩ := info_parts info32
  have hnc := h.2.1
  have hcm := h.2.2.1
  unfold maxLen at hcm
  go_enter Try.func94, Try.ntmps94
  go_wp2_with fail
  go_loopw [7, 6, 5] (fun iv cv ov wr => ∃ i cy : Nat, i ≤ n ∧ iv = .int .i64 i ∧ cv = .int .u64 cy ∧ LeftP w s l i cy ov wr) (fun iv _ _ _ => n - (intOf iv).toNat)
  case atStart => exact ⟨0, 0, Nat.zero_le _, rfl, rfl, [], OwnL.nil _ _ _, rfl, Nat.pow_pos (by omega), by simp [val], Below.refl _ _⟩
  case round =>
    obtain ⟨i, cy, hin, rfl, rfl, o, hown, hol, hcy, hI, hB⟩ := hrel
    replace hol := hide hol
    replace hI := hide hI
    by_cases hi' : i < n
    · obtain ⟨b, of, rfl, hcell⟩ := (h.below hB).at_ hi'
      have hx := h.lt.get i
      obtain ⟨p, hp⟩ : ∃ p, 2 ^ s = p := ⟨_, rfl⟩
      have hpb : p ≤ 2147483648 := by rw [← hp]; exact Nat.pow_le_pow_right (by omega) (show s ≤ 31 by omega)
      have hxb : p * l[i]?.getD 0 ≤ 2147483648 * 4294967295 := Nat.mul_le_mul hpb (by omega)
      have hor : IntKind.u64.wrap ((cy : Int) + IntKind.u64.wrap (((l[i]?.getD 0 : Nat) : Int) * 2 ^ s)) = ((cy + p * l[i]?.getD 0 : Nat) : Int) := by
        have e1 : (((l[i]?.getD 0 : Nat) : Int) * 2 ^ s) = ((p * l[i]?.getD 0 : Nat) : Int) := by rw [← hp]; push_cast; rw [Int.mul_comm]
        rw [hp] at hcy
        rw [e1, IntKind.wrap_u64, IntKind.wrap_u64]
        omega
      rw [hp] at hcy
      replace hp := hide hp
      have hs0 : Hid (val (l.take (i + 1)) = val (l.take i) + pw i * l[i]?.getD 0) := val_take_succ l i
      obtain ⟨x, hxe⟩ : ∃ x, l[i]?.getD 0 = x := ⟨_, rfl⟩
      rw [hxe] at hcell hx hxb hor hs0
      replace hxe := hide hxe
      obtain ⟨t, ht⟩ : ∃ t, cy + p * x = t := ⟨_, rfl⟩
      have htb : t / 4294967296 < p := by
        rw [Nat.div_lt_iff_lt_mul (by omega), ← ht]
        have : p * x + p ≤ p * 4294967296 := by rw [← Nat.mul_succ]; exact Nat.mul_le_mul_left _ (by omega)
        omega
      have htb2 : t < 18446744073709551616 := by omega
      rw [ht] at hor
      replace ht := hide ht
      go_wp2_with (go_loud (at_builtin; refine wpList_append_any _ rfl (.tmp 23) (.tmp 26) 25 rfl w.heap.size 107 i0 _ 1 4 Try.underlying25 hi hz0 hz1 hz2 rfl (by omega) _ i (o.map limb) rfl (by have := hol.out; subst this; exact hown.1.alloc _) _ _ 1 1 _ rfl (reads_one _ _ _) (by simp [Value.oneCell']) (by simp only [maxLen]; omega) (by omega) (by have := hB.size; simp; omega) ?_; intro v1 w1 hown1 hg1 hat1))
      have hown2 : OwnL 107 w1 w.heap.size v1 (o ++ [t % 4294967296]) := OwnL.snoc (s := t % 4294967296) hol.out.symm hown1 hown.2 (by omega) (Nat.mod_lt _ (by decide))
      have hB1 := (hB.alloc hB.size _).grown hg1 (by have := hB.size; simp; omega) hown.row_ge
      go_roundw
      case rel =>
        refine ⟨i + 1, t / 4294967296, by omega, by go_num, by go_num, _, hown2, by rw [List.length_append, hol.out]; rfl, by rw [hp.out]; exact htb, ?_, hB1⟩
        rw [val_snoc, hol.out, hs0.out, hp.out, Nat.mul_add, pw_succ]
        have h1 := hI.out
        rw [hp.out] at h1
        have h2 : pw i * (t % 4294967296) + 4294967296 * pw i * (t / 4294967296) = pw i * t := by
          rw [Nat.mul_comm 4294967296 (pw i), Nat.mul_assoc, ← Nat.mul_add, Nat.mod_add_div]
        have h3 : p * (pw i * x) = pw i * (p * x) := by rw [Nat.mul_left_comm]
        rw [h3, ← h1, Nat.add_assoc, h2, ← ht.out, Nat.mul_add]
        omega
      case measure => simp [intOf]; omega
    · obtain rfl : i = n := by omega
      have hlen := hide h.len
      have hcy2 : cy < 4294967296 := Nat.lt_of_lt_of_le hcy (show 2 ^ s ≤ 4294967296 from Nat.le_trans (Nat.pow_le_pow_right (by decide) (show s ≤ 32 by omega)) (by decide))
      have hcm : ((cy : Int)) % 4294967296 = (cy : Int) := by omega
      clear h
      go_wp2_with (go_loud (at_builtin; refine wpList_append_any _ rfl (.tmp 30) (.tmp 33) 25 rfl w.heap.size 107 i0 _ 1 4 Try.underlying25 hi hz0 hz1 hz2 rfl (by omega) _ i (o.map limb) rfl (by have := hol.out; subst this; exact hown.1.alloc _) _ _ 1 1 _ rfl (reads_one _ _ _) (by simp [Value.oneCell']) (by simp only [maxLen]; omega) (by omega) (by have := hB.size; simp; omega) ?_; intro v1 w1 hown1 hg1 hat1))
      have hown2 : OwnL 107 w1 w.heap.size v1 (o ++ [cy]) := OwnL.snoc (s := cy) hol.out.symm hown1 hown.2 (by omega) hcy2
      have hB1 := (hB.alloc hB.size _).grown hg1 (by have := hB.size; simp; omega) hown.row_ge
      go_ret
      refine ⟨v1, _, rfl, hown2, by rw [List.length_append, hol.out]; rfl, ?_, hB1⟩
      rw [val_snoc, hol.out, hI.out, val_take_all (by rw [hlen.out]; exact Nat.le_refl _)]

/-- What the loop of 'short' keeps. -/
def RShortR (w : World) (g n D : Nat) (l : List Nat) (k r : Nat) (wr : World) : Prop :=
  ∃ o : List Nat, Blk wr g 107 (cells32 o) ∧ o.length = n ∧ Lt32 o ∧ r < D ∧ val (o.drop k) * D + r = val (l.drop k) ∧ Below w.heap.size w wr

set_option maxRecDepth 100000 in
set_option maxHeartbeats 1000000 in
theorem rshort_any (A : Option Addr) (n c d : Nat) (l : List Nat) (w : World) (hl : Lim w A n c l) (hd0 : 0 < d) (hd : d < 4294967296) (hn9 : n ≤ 1000000) :
    Calls Try.prog 93 #[.slice A n c, limb d] w (DivP w (val l) d) := by
  obtain ⟨i0, hi, hz0, hz1, hz2⟩ := info_parts info32
  have hmk := make32 (P := Try.prog) 25 107 Try.underlying25 hi hz0 hz1 hz2 (n : Int) n rfl (by omega)
  have hnc := hl.2.1
  have hcm := hl.2.2.1
  unfold maxLen at hcm
  have hlen := hide hl.len
  have hdz : ((d : Int) == 0) = false := by simp; omega
  have hdz' : (d : Int) ≠ 0 := by omega
  go_enter Try.func93, Try.ntmps93
  go_wp2_with fail
  go_loopw [8, 7] (fun iv rv wr => ∃ k r : Nat, k ≤ n ∧ iv = .int .i64 ((k : Int) - 1) ∧ rv = .int .u64 r ∧ RShortR w w.heap.size n d l k r wr) (fun iv _ _ => (intOf iv + 1).toNat)
  case atStart => exact ⟨n, 0, Nat.le_refl _, rfl, rfl, List.replicate n 0, Blk.new _ _ _, by simp, Lt32.replicate _, hd0, by rw [List.drop_of_length_le (by simp), List.drop_of_length_le (by rw [hlen.out]; exact Nat.le_refl _)]; simp [val], (Below.refl _ _).alloc (Nat.le_refl _) _⟩
  case round =>
    obtain ⟨k, r, hk, rfl, rfl, o, hblk, hol, hot, hr, hI, hB⟩ := hrel
    replace hol := hide hol
    replace hI := hide hI
    rcases k with _ | k
    · have hI2 := hI.out
      rw [List.drop_zero, List.drop_zero] at hI2
      obtain ⟨e1, e2⟩ := div_of (U := val l) (V := d) (q := val o) (R := r) (by omega) hr
      have hLo := Lim.of_blk hblk hot (by rw [hol.out]; unfold maxLen; omega)
      rw [hol.out] at hLo
      have hr32 : r < 4294967296 := by omega
      have hrm : ((r : Int)) % 4294967296 = (r : Int) := by omega
      replace e1 := hide e1
      replace e2 := hide e2
      clear hI2
      go_wp2_with fail
      refine (rtrim_any _ _ _ _ _ hLo (by omega)).mono ?_
      rintro e w2 ⟨A2, n2, c2, l2, rfl, hL2, rfl, hb2⟩
      have hLr : ∀ t, Lim (w2.alloc (.cells #[limb r] t)) (some ⟨w2.heap.size, 0, none⟩) 1 1 [r] := fun t => by
        have := Lim.of_blk (l := [r]) (Blk.new w2 t (cells32 [r])) (Lt32.cons hr32 Lt32.nil) (by simp [maxLen])
        exact this
      replace hLr := hide hLr
      go_wp2_with fail
      refine (rtrim_any _ _ _ _ _ (hLr.out _) (by omega)).mono ?_
      rintro e w3 ⟨A3, n3, c3, l3, rfl, hL3, hl3, hb3⟩
      have hb3' : Below w2.heap.size w2 w3 := ((Below.refl w2.heap.size w2).alloc (Nat.le_refl _) _).trans (hb3.mono (by simp))
      replace hl3 := hide hl3
      go_wp2_with fail
      go_ret2
      refine ⟨_, _, _, _, _, _, rfl, by rw [← e1.out]; exact hL2.below hb3', ?_, (hB.trans (hb2.mono hB.size)).trans (hb3'.mono (Nat.le_trans hB.size hb2.size))⟩
      have := hl3.out
      rw [show val [r] = r by simp [val]] at this
      rw [← e2.out, ← this]; exact hL3
    · obtain ⟨b, of, rfl, hcell⟩ := (hl.below hB).at_ (k := k) (by omega)
      have hx := hl.lt.get k
      have hcg := hblk.cell k
      rw [cells32_get o k (by rw [hol.out]; omega)] at hcg
      have hfg := hblk.frozen k
      have hrb : r * 4294967296 + l[k]?.getD 0 < 18446744073709551616 := by omega
      go_wp2_with fail
      obtain ⟨x, hxe⟩ : ∃ x, l[k]?.getD 0 = x := ⟨_, rfl⟩
      rw [hxe] at hx hrb ⊢
      have e1 : ((r : Int) * 4294967296 + (x : Int)) / (d : Int) % 4294967296 = (((r * 4294967296 + x) / d : Nat) : Int) := by
        have : (r * 4294967296 + x) / d < 4294967296 := by
          rw [Nat.div_lt_iff_lt_mul hd0]
          have := Nat.mul_le_mul_left 4294967296 (show r + 1 ≤ d by omega)
          omega
        rw [show ((r : Int) * 4294967296 + (x : Int)) / (d : Int) = (((r * 4294967296 + x) / d : Nat) : Int) by simp]
        generalize (r * 4294967296 + x) / d = z at *
        omega
      have e2 : ((r : Int) * 4294967296 + (x : Int)) % (d : Int) = (((r * 4294967296 + x) % d : Nat) : Int) := by simp
      have hq : (r * 4294967296 + x) / d < 4294967296 := by
        rw [Nat.div_lt_iff_lt_mul hd0]
        have := Nat.mul_le_mul_left 4294967296 (show r + 1 ≤ d by omega)
        omega
      have hr' : (r * 4294967296 + x) % d < d := Nat.mod_lt _ hd0
      have he : (r * 4294967296 + x) / d * d + (r * 4294967296 + x) % d = r * 4294967296 + x := by rw [Nat.mul_comm]; exact Nat.div_add_mod _ _
      rw [e1, e2]
      generalize (r * 4294967296 + x) / d = q at *
      generalize (r * 4294967296 + x) % d = r' at *
      refine ⟨⟨k, r', by omega, rfl, rfl, o.set k q, by rw [← cells32_set]; exact hblk.set_ _ _, by rw [List.length_set]; exact hol.out, hot.set _ hq, hr', ?_, hB.setCell (p := ⟨w.heap.size, k, none⟩) (Nat.le_refl _) _⟩, by simp [intOf] <;> omega⟩
      exact down_step (by rw [hol.out]; omega) (by rw [hlen.out]; omega) hI.out (by rw [hxe]; exact he)
end Go.Proofs.Ytkippclhbkjbmaa
