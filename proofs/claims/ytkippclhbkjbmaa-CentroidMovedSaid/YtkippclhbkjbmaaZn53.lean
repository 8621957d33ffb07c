/- Changed and tilted fields: sums, means, ranges (plain). Boxes within boxes: with off 0 the box is the mean; with a greater off the box holds the smaller one (plain). Bound with any error; sizes and order of the ends of two boxes. The law's words: great. The law's words: valid. Moments of a valid field and list: error and moments. -/
import Derived.Test.YtkippclhbkjbmaaZn52
import Derived.Test.YtkippclhbkjbmaaZn45
import Derived.Test.YtkippclhbkjbmaaZn34
import Derived.Test.YtkippclhbkjbmaaZn37
import Derived.Test.YtkippclhbkjbmaaZn49
set_option linter.unusedSimpArgs false
set_option linter.unusedVariables false

namespace Go.Proofs.Ytkippclhbkjbmaa
open Go.RowKit

theorem LimI.of_mut {w : World} {g c n : Nat} {l : List Int} (h : MutI w g l) (hn : l.length = n) (hc : n ≤ c) (hc2 : c ≤ maxLen) (hI : ∀ x ∈ l, I64 x) : LimI w (some ⟨g, 0, none⟩) n c l := by
  subst hn
  refine ⟨rfl, hc, hc2, hI, fun _ => ⟨g, 0, rfl, fun k hk => ?_⟩⟩
  rw [Nat.zero_add]
  exact (h k hk).1
theorem modl_I64 {ps l : List Int} {c : Nat → Int} {n m : Nat} {off : Int} (hp : ∀ x ∈ ps, I64 x) (hr : Rng ps l n m) (hc : ∀ k, (c k).natAbs ≤ off.natAbs) (ho : off.natAbs ≤ 4294967296) {k : Nat} (hk : k ≤ m) : ∀ x ∈ modl ps l c k, I64 x := by
  induction k with
  | zero => exact hp
  | succ k ih =>
    intro x hx
    rcases List.mem_or_eq_of_mem_set hx with h | h
    · exact ih (by omega) x h
    · have h1 := hr k (by omega)
      have h2 := hc k
      rw [h]; unfold I64; omega
theorem sum_near {ps ps' l : List Int} {off : Int} (m : Nat) (hc : ∀ k, k < m → (pix ps' (l[k]?.getD 0) - pix ps (l[k]?.getD 0)).natAbs ≤ off.natAbs) : sumK (pix ps) l m - (off.natAbs : Nat) * m ≤ sumK (pix ps') l m := by
  induction m with
  | zero => simp [sumK]
  | succ k ih =>
    have i1 := ih (fun j hj => hc j (by omega))
    have h := hc k (by omega)
    have e1 : sumK (pix ps) l (k + 1) = sumK (pix ps) l k + pix ps (l[k]?.getD 0) := rfl
    have e2 : sumK (pix ps') l (k + 1) = sumK (pix ps') l k + pix ps' (l[k]?.getD 0) := rfl
    have e4 : ((off.natAbs : Nat) : Int) * ((k + 1 : Nat) : Int) = (off.natAbs : Nat) * (k : Int) + (off.natAbs : Nat) := by rw [Int.natCast_add, Int.mul_add]; simp
    rw [e1, e2, e4]
    omega
theorem mean1_sm {u : Int → Int} {ps l : List Int} {n m : Nat} (hlm : l.length = m) (hr : Rng ps l n m) (hu : ∀ j, j < m → (u (l[j]?.getD 0)).natAbs ≤ 99) (hm : m ≤ 40) (hs : 0 < psum ps l) : Sm (mean1 u ps l) := by
  unfold mean1
  have a : (sumK (fun i => u i * pix ps i) l l.length).natAbs ≤ 40 * (99 * 8589934592) := by
    rw [hlm]
    exact sumK_rng2 (m := m) (fun j hj => by rw [Int.natAbs_mul]; exact Nat.mul_le_mul (hu j hj) (by have := hr j hj; omega)) (Nat.le_refl _) hm
  have b : (psum ps l).natAbs ≤ 40 * 8589934592 := by
    unfold psum
    rw [hlm]
    exact sumK_rng2 (m := m) (fun j hj => by have := hr j hj; omega) (Nat.le_refl _) hm
  exact (SmN.div hs (i64_pw2 (Nat.le_trans a (by omega))) (i64_pw2 (Nat.le_trans b (by omega)))).sm (by omega) (by omega)
theorem psum_tlt {row : Bool} {W : Int} {ps l : List Int} {f off : Int} {n m : Nat} (hlm : l.length = m) (hpl : ps.length = n) (hr : Rng ps l n m) (hdis : ∀ i j, i < j → j < m → l[i]?.getD 0 < l[j]?.getD 0) : psum (tlt row W ps l f off m) l = tden (plc row W) ps l f off m := by
  unfold psum
  rw [hlm]
  exact sum_tlt hpl hr hdis (Nat.le_refl _)
theorem mean1_tlt {W : Int} {ps l : List Int} {f off : Int} {n m : Nat} (hlm : l.length = m) (hpl : ps.length = n) (hr : Rng ps l n m) (hdis : ∀ i j, i < j → j < m → l[i]?.getD 0 < l[j]?.getD 0) : mean1 (colv W) (tlt false W ps l f off m) l = tq (colv W) ps l f off := by
  unfold mean1
  rw [psum_tlt hlm hpl hr hdis]
  have h : sumK (pl false W (tlt false W ps l f off m)) l m = tnum (plc false W) ps l f off m := pl_tlt hpl hr hdis (Nat.le_refl _)
  have h2 : sumK (fun i => colv W i * pix (tlt false W ps l f off m) i) l l.length = tnum (colv W) ps l f off m := by rw [hlm]; exact h
  rw [h2]
  unfold tq
  rw [hlm]
  rfl
theorem any_succ (p : Nat → Bool) (f : Nat) : (List.range (f + 1)).any p = ((List.range f).any p || p f) := by
  rw [List.range_succ, List.any_append]
  simp
theorem loopQ_sm' {cmp : Rat → Rat → Int} {q : Nat → Rat} (h : ∀ f, Sm (q f)) (k : Nat) : Sm (loopQ cmp q k) := by
  induction k with
  | zero => exact h 0
  | succ k ih =>
    unfold loopQ
    split
    · exact h _
    · exact ih
theorem leastQ_sm {u : Int → Int} {ps l : List Int} {off : Int} (h : ∀ f : Nat, Sm (tq u ps l f (-off))) : Sm (leastQ u ps l off) := by
  rw [leastQ_loop]
  exact loopQ_sm' h 100
theorem mostQ_sm {u : Int → Int} {ps l : List Int} {off : Int} (h : ∀ f : Nat, Sm (tq u ps l f off)) : Sm (mostQ u ps l off) := by
  rw [mostQ_loop]
  exact loopQ_sm' h 100
end Go.Proofs.Ytkippclhbkjbmaa

namespace Go.Proofs.Ytkippclhbkjbmaa
open Go.RowKit

theorem mean1_tlt2 {row : Bool} {W : Int} {ps l : List Int} {f off : Int} {n m : Nat} (hlm : l.length = m) (hpl : ps.length = n) (hr : Rng ps l n m) (hdis : ∀ i j, i < j → j < m → l[i]?.getD 0 < l[j]?.getD 0) : mean1 (plc row W) (tlt row W ps l f off m) l = tq (plc row W) ps l f off := by
  unfold mean1
  rw [psum_tlt hlm hpl hr hdis]
  have h : sumK (pl row W (tlt row W ps l f off m)) l m = tnum (plc row W) ps l f off m := pl_tlt hpl hr hdis (Nat.le_refl _)
  have h2 : sumK (fun i => plc row W i * pix (tlt row W ps l f off m) i) l l.length = tnum (plc row W) ps l f off m := by rw [hlm]; exact h
  rw [h2]
  unfold tq
  rw [hlm]
theorem loopQ_const (cmp : Rat → Rat → Int) (q : Nat → Rat) (r : Rat) (h : ∀ i, q i = r) (k : Nat) : loopQ cmp q k = r := by
  obtain ⟨i, -, h2⟩ := loopQ_mem cmp q k
  rw [h2, h i]
theorem tq_zero (u : Int → Int) (ps l : List Int) (f : Int) : tq u ps l f 0 = mean1 u ps l := by
  have e : ∀ x p, tv f 0 x p = p := fun x p => by unfold tv; split <;> omega
  unfold tq mean1 tnum tden psum
  simp only [e]
theorem least_zero (u : Int → Int) (ps l : List Int) : leastQ u ps l 0 = mean1 u ps l ∧ mostQ u ps l 0 = mean1 u ps l := by
  constructor
  · rw [leastQ_loop]
    exact loopQ_const _ _ _ (fun i => by show tq u ps l (i : Nat) (-0) = _; rw [Int.neg_zero, tq_zero]) 100
  · rw [mostQ_loop]
    exact loopQ_const _ _ _ (fun i => tq_zero u ps l _) 100
theorem nested {row : Bool} {W : Int} {ps l : List Int} {off off2 : Int} {n m : Nat} (hlm : l.length = m) (hpl : ps.length = n) (hr : Rng ps l n m) (hdis : ∀ i j, i < j → j < m → l[i]?.getD 0 < l[j]?.getD 0)
    (hu : ∀ k, k < m → 0 ≤ plc row W (l[k]?.getD 0) ∧ plc row W (l[k]?.getD 0) ≤ 99) (h0 : 0 ≤ off) (h1 : off ≤ off2) (hD : ∀ f : Int, 0 < tden (plc row W) ps l f off m ∧ 0 < tden (plc row W) ps l f (-off) m) (hD2 : ∀ f : Int, 0 < tden (plc row W) ps l f off2 m ∧ 0 < tden (plc row W) ps l f (-off2) m) :
    (leastQ (plc row W) ps l off2 ≤ leastQ (plc row W) ps l off ∧ leastQ (plc row W) ps l off ≤ mostQ (plc row W) ps l off2) ∧ (leastQ (plc row W) ps l off2 ≤ mostQ (plc row W) ps l off ∧ mostQ (plc row W) ps l off ≤ mostQ (plc row W) ps l off2) := by
  have key : ∀ (f o : Int), o.natAbs = off.natAbs → 0 < tden (plc row W) ps l f o m → leastQ (plc row W) ps l off2 ≤ tq (plc row W) ps l f o ∧ tq (plc row W) ps l f o ≤ mostQ (plc row W) ps l off2 := fun f o ho hd => by
    rw [← mean1_tlt2 hlm hpl hr hdis]
    refine mean_between hlm hu (by omega) (fun k hk => ?_) hD2 (by rw [psum_tlt hlm hpl hr hdis]; exact hd)
    rw [pix_tlt hpl hr hdis hk (Nat.le_refl _)]
    unfold tv
    split <;> omega
  constructor
  · rw [leastQ_loop (plc row W) ps l off]
    obtain ⟨i, -, h2⟩ := loopQ_mem cmpQ (fun f => tq (plc row W) ps l (f : Nat) (-off)) 100
    rw [h2]
    exact key _ _ (by omega) (hD _).2
  · rw [mostQ_loop (plc row W) ps l off]
    obtain ⟨i, -, h2⟩ := loopQ_mem (fun a b => cmpQ b a) (fun f => tq (plc row W) ps l (f : Nat) off) 100
    rw [h2]
    exact key _ _ rfl (hD _).1
end Go.Proofs.Ytkippclhbkjbmaa

namespace Go.Proofs.Ytkippclhbkjbmaa
open Go.RowKit
/-- The numbers of a fraction, or those of none. -/
def pz (E : Int) (q : Rat) : Int × Int := if E = 0 then prQ q else (0, 0)
theorem pz_zero (q : Rat) : pz 0 q = prQ q := rfl
theorem bound_one (W H : Int) (A : Option Addr) (n c : Nat) (B : Option Addr) (m d : Nat) (ps l : List Int) (off : Int) (w : World) (hp : LimI w A n c ps) (hl : LimI w B m d l) (h9 : n ≤ 1000000000) (h8 : m ≤ 40) (iW : I64 W) (iH : I64 H) (E : Int) (hE : boundE W H n ps l off = E) :
    Calls Try.prog 8 #[.agg #[.int .i64 W, .int .i64 H, .slice A n c], .slice B m d, .int .i64 off] w (BoxP w E (pz E (leastQ (colv W) ps l off)) (pz E (mostQ (colv W) ps l off)) (pz E (leastQ (rowv W) ps l off)) (pz E (mostQ (rowv W) ps l off))) := by
  refine (bound_any W H A n c B m d ps l off w hp hl h9 h8 iW iH E hE).mono ?_
  rintro e w' ⟨h1, h2⟩
  by_cases h : E = 0
  · subst h
    exact h2 rfl
  · simp only [pz, if_neg h]
    exact h1 h
theorem nest_one {row : Bool} {W : Int} {ps l : List Int} {off off2 : Int} {n m : Nat} (hlm : l.length = m) (hpl : ps.length = n) (hr : Rng ps l n m) (hdis : ∀ i j, i < j → j < m → l[i]?.getD 0 < l[j]?.getD 0)
    (hu : ∀ k, k < m → 0 ≤ plc row W (l[k]?.getD 0) ∧ plc row W (l[k]?.getD 0) ≤ 99) (h8 : m ≤ 40) (h0 : 0 ≤ off) (h1 : off ≤ off2) (h2 : off2 ≤ 4294967296) (hs1 : off * m < psum ps l) (hs2 : off2 * m < psum ps l) :
    (Sm (leastQ (plc row W) ps l off) ∧ Sm (mostQ (plc row W) ps l off) ∧ Sm (leastQ (plc row W) ps l off2) ∧ Sm (mostQ (plc row W) ps l off2)) ∧
    (leastQ (plc row W) ps l off2 ≤ leastQ (plc row W) ps l off ∧ leastQ (plc row W) ps l off ≤ mostQ (plc row W) ps l off2) ∧ (leastQ (plc row W) ps l off2 ≤ mostQ (plc row W) ps l off ∧ mostQ (plc row W) ps l off ≤ mostQ (plc row W) ps l off2) := by
  have hD : ∀ o : Int, 0 ≤ o → o * m < psum ps l → ∀ f : Int, 0 < tden (plc row W) ps l f o m ∧ 0 < tden (plc row W) ps l f (-o) m := fun o h0 hs f => by
    have e1 := tden_ge (plc row W) ps l f o m
    have e2 := tden_ge (plc row W) ps l f (-o) m
    have e3 : ((o.natAbs : Nat) : Int) = o := by omega
    have e4 : (((-o).natAbs : Nat) : Int) = o := by omega
    rw [e3] at e1
    rw [e4] at e2
    unfold psum at hs
    rw [hlm] at hs
    generalize o * (m : Int) = z at *
    omega
  have tqs : ∀ o : Int, 0 ≤ o → o ≤ 4294967296 → o * m < psum ps l → ∀ f : Int, Sm (tq (plc row W) ps l f o) ∧ Sm (tq (plc row W) ps l f (-o)) := fun o h0 h1 hs f =>
    ⟨tq_sm hlm hr (fun i hi => by have := hu i hi; omega) (by omega) h8 (hD o h0 hs f).1, tq_sm hlm hr (fun i hi => by have := hu i hi; omega) (by omega) h8 (hD o h0 hs f).2⟩
  exact ⟨⟨leastQ_sm (fun f => (tqs off h0 (by omega) hs1 f).2), mostQ_sm (fun f => (tqs off h0 (by omega) hs1 f).1), leastQ_sm (fun f => (tqs off2 (by omega) h2 hs2 f).2), mostQ_sm (fun f => (tqs off2 (by omega) h2 hs2 f).1)⟩, nested hlm hpl hr hdis hu h0 h1 (hD off h0 hs1) (hD off2 (by omega) hs2)⟩

end Go.Proofs.Ytkippclhbkjbmaa

namespace Go.Proofs.Ytkippclhbkjbmaa
open Go.RowKit
attribute [local go_sem] add_lit

set_option maxRecDepth 100000 in
set_option maxHeartbeats 1000000 in
theorem greatL_ok (W H : Int) (A : Option Addr) (n c : Nat) (B : Option Addr) (m d : Nat) (w : World) (b : Bool) (hb : (decide (100 < (n : Int)) || decide (40 < (m : Int))) = b) :
    Calls Try.prog 27 #[.agg #[.int .i64 W, .int .i64 H, .slice A n c], .slice B m d] w fun e w' => e = .returned (.bool b) ∧ Below w.heap.size w w' := by
  obtain ⟨W0, hW0, hB0, q0, s0⟩ := alloc1 w 24 #[.int .i64 W, .int .i64 H, .slice A n c]
  have c0 := q0.cell 0
  have c1 := q0.cell 1
  have c2 := q0.cell 2
  simp at c0 c1 c2
  go_enter Try.func27, Try.ntmps27
  go_wp2_with fail
  obtain ⟨b1, hb1⟩ : ∃ b1, decide (100 < (n : Int)) = b1 := ⟨_, rfl⟩
  refine (rGreat_ok W H A n c W0 b1 hb1).mono ?_
  rw [hb1] at hb
  rintro e w1 ⟨rfl, hbw⟩
  replace hB0 := hB0.trans (hbw.mono hB0.size)
  clear hb1 c0 c1 c2 hW0
  cases b1
  · simp at hb
    go_wp2_with fail
    go_ret
    exact ⟨by simp [hb], hB0⟩
  · simp at hb
    subst hb
    go_wp2_with fail
    go_ret
    exact ⟨rfl, hB0⟩
end Go.Proofs.Ytkippclhbkjbmaa

namespace Go.Proofs.Ytkippclhbkjbmaa
open Go.RowKit
attribute [local go_sem] add_lit

set_option maxRecDepth 100000 in
set_option maxHeartbeats 1000000 in
theorem valid_any (W H : Int) (A : Option Addr) (n c : Nat) (B : Option Addr) (m d : Nat) (ps l : List Int) (w : World) (hp : LimI w A n c ps) (hl : LimI w B m d l) (iW : I64 W) (iH : I64 H) (b : Bool) (hb : (!(decide (100 < (n : Int)) || decide (40 < (m : Int))) && decide (startE W H n ps l = 0)) = b) :
    Calls Try.prog 13 #[.agg #[.int .i64 W, .int .i64 H, .slice A n c], .slice B m d] w fun e w' => e = .returned (.bool b) ∧ Below w.heap.size w w' := by
  obtain ⟨W0, hW0, hB, q0, s0⟩ := alloc1 w 24 #[.int .i64 W, .int .i64 H, .slice A n c]
  have c0 := q0.cell 0
  have c1 := q0.cell 1
  have c2 := q0.cell 2
  simp at c0 c1 c2
  replace hp := hide (hp.below hB)
  replace hl := hide (hl.below hB)
  obtain ⟨x, hx⟩ : ∃ x, (decide (100 < (n : Int)) || decide (40 < (m : Int))) = x := ⟨_, rfl⟩
  rw [hx] at hb
  go_enter Try.func13, Try.ntmps13
  go_wp2_with fail
  refine (greatL_ok W H A n c B m d W0 x hx).mono ?_
  rintro e w1 ⟨rfl, hbw⟩
  replace hB := hB.trans (hbw.mono hB.size)
  replace q0 := keep_blk hbw q0
  replace hp := hide (hp.out.below hbw)
  replace hl := hide (hl.out.below hbw)
  clear c0 c1 c2 hW0 hbw
  cases x
  case true =>
    obtain rfl : b = false := by rw [← hb]; rfl
    go_wp2_with fail
    go_ret
    exact ⟨rfl, hB⟩
  have c0 := q0.cell 0
  have c1 := q0.cell 1
  have c2 := q0.cell 2
  simp at c0 c1 c2
  simp at hx
  obtain ⟨E, hE⟩ : ∃ E, startE W H n ps l = E := ⟨_, rfl⟩
  rw [hE] at hb
  go_wp2_with fail
  refine (rStart_ok W H A n c B m d ps l w1 hp.out hl.out (by omega) (by omega) iW iH E hE).mono ?_
  rintro e w2 ⟨rfl, hbw⟩
  replace hB := hB.trans (hbw.mono hB.size)
  clear hE
  by_cases hz : E = 0
  · have tz : (E == 0) = true := by simpa using hz
    obtain rfl : b = true := by rw [← hb]; simpa using hz
    go_wp2_with fail
    go_ret
    exact ⟨rfl, hB⟩
  · have tz : (E == 0) = false := by simpa using hz
    obtain rfl : b = false := by rw [← hb]; simpa using hz
    go_wp2_with fail
    go_ret
    exact ⟨rfl, hB⟩
end Go.Proofs.Ytkippclhbkjbmaa

namespace Go.Proofs.Ytkippclhbkjbmaa
open Go.RowKit
attribute [local go_sem] add_lit

/-- What 'Moments' answers to a valid field and list. -/
def momE' (ps l : List Int) : Int := if psum ps l ≤ 0 then 18 else 0
def momM' (W : Int) (ps l : List Int) : Mom := if psum ps l ≤ 0 then Mom.zero else momOf W ps l
theorem moments_any (W H : Int) (A : Option Addr) (n c : Nat) (B : Option Addr) (m d : Nat) (ps l : List Int) (w : World) (hp : LimI w A n c ps) (hl : LimI w B m d l) (h8 : m ≤ 40) (iW : I64 W) (iH : I64 H) (hE : startE W H n ps l = 0) (E : Int) (M : Mom) (hEE : momE' ps l = E) (hMM : momM' W ps l = M) :
    Calls Try.prog 6 #[.agg #[.int .i64 W, .int .i64 H, .slice A n c], .slice B m d] w (MomP w E M) := by
  subst hEE hMM
  unfold momE' momM'
  by_cases hs : psum ps l ≤ 0
  · rw [if_pos hs, if_pos hs]
    exact (moments_good W H A n c B m d ps l w hp hl h8 iW iH hE).mono fun e w' h => h.1 hs
  · rw [if_neg hs, if_neg hs]
    exact (moments_good W H A n c B m d ps l w hp hl h8 iW iH hE).mono fun e w' h => h.2 (by omega)
end Go.Proofs.Ytkippclhbkjbmaa
