/- Centroids: Start of the reference; start, column, row, keep of package centroid; place and sum of the reference. -/
import Derived.Test.YtkippclhbkjbmaaZn35
import Derived.Test.YtkippclhbkjbmaaZn36
import Derived.Test.YtkippclhbkjbmaaZn32
set_option linter.unusedSimpArgs false
set_option linter.unusedVariables false

namespace Go.Proofs.Ytkippclhbkjbmaa
open Go.RowKit
attribute [local go_sem] add_lit

set_option maxRecDepth 100000 in
set_option maxHeartbeats 1000000 in
theorem rStart_ok (W H : Int) (A : Option Addr) (n c : Nat) (B : Option Addr) (m d : Nat) (ps l : List Int) (w : World) (hp : LimI w A n c ps) (hl : LimI w B m d l) (h9 : n ≤ 1000000000) (h8 : m ≤ 1000000000) (iW : I64 W) (iH : I64 H) (E : Int) (hE : startE W H n ps l = E) :
    Calls Try.prog 28 #[.agg #[.int .i64 W, .int .i64 H, .slice A n c], .slice B m d] w fun e w' => e = .returned (.int .i64 E) ∧ Below w.heap.size w w' := by
  obtain ⟨W0, hW0, hB0, q0, s0⟩ := alloc1 w 24 #[.int .i64 W, .int .i64 H, .slice A n c]
  have c0 := q0.cell 0
  have c1 := q0.cell 1
  have c2 := q0.cell 2
  simp at c0 c1 c2
  replace hp := hide (hp.below hB0)
  replace hl := hide (hl.below hB0)
  go_enter Try.func28, Try.ntmps28
  go_wp2_with fail
  obtain ⟨b, hb⟩ : ∃ b, fieldOk W H n ps = b := ⟨_, rfl⟩
  refine (rCheck10_ok W H A n c ps W0 hp.out h9 iW iH b hb).mono ?_
  rintro e w1 ⟨rfl, hb1⟩
  have hB1 : Below w.heap.size w w1 := hB0.trans (hb1.mono hB0.size)
  replace hl := hide (hl.out.below hb1)
  have q1 := keep_blk hb1 q0
  clear hW0 c0 c1 c2 q0
  have c0 := q1.cell 0
  have c1 := q1.cell 1
  have c2 := q1.cell 2
  simp at c0 c1 c2
  cases b
  · have hE2 : E = 8 := by rw [← hE]; unfold startE; rw [hb]; rfl
    subst hE2
    clear hb hE
    go_wp2_with fail
    go_ret
    exact ⟨rfl, hB1⟩
  · obtain ⟨b2, hb2⟩ : ∃ b, listed l n = b := ⟨_, rfl⟩
    have hE2 : E = if b2 = true then 0 else 2 := by rw [← hE]; unfold startE; rw [hb, hb2]; simp
    subst hE2
    clear hb hE
    go_wp2_with fail
    refine (rListed_ok W H A n c B m d l w1 hl.out h9 h8 b2 hb2).mono ?_
    rintro e w2 ⟨rfl, hb2'⟩
    have hB2 : Below w.heap.size w w2 := hB1.trans (hb2'.mono hB1.size)
    cases b2
    · go_wp2_with fail
      go_ret
      exact ⟨rfl, hB2⟩
    · go_wp2_with fail
      go_ret
      exact ⟨rfl, hB2⟩

/-- What 'start' hands back. -/
def StartP (w : World) (W H : Int) (A : Option Addr) (n c : Nat) (B : Option Addr) (m d : Nat) (E : Int) (e : Ending) (w' : World) : Prop :=
  (∃ W' H' A' n' c' B' m' d', e = .returned (.tuple #[.agg #[.int .i64 W', .int .i64 H', .slice A' n' c', .slice B' m' d'], .int .i64 E]) ∧ (E = 0 → W' = W ∧ H' = H ∧ A' = A ∧ n' = n ∧ c' = c ∧ B' = B ∧ m' = m ∧ d' = d)) ∧ Below w.heap.size w w'


/-- A store into a source's variable of the call's own. -/
theorem set_src {t : TypeId} {B : Nat} {w0 w : World} {g : Nat} {x0 x1 x2 x3 : Value} (W H : Int) (A : Option Addr) (n c : Nat) (B' : Option Addr) (m d : Nat) (hB : Below B w0 w) (hs : B ≤ g) (hb : Blk w g t #[x0, x1, x2, x3]) :
    ∃ V, (((w.setCell ⟨g, 0, none⟩ (.int .i64 W)).setCell ⟨g, 1, none⟩ (.int .i64 H)).setCell ⟨g, 2, none⟩ (.slice A n c)).setCell ⟨g, 3, none⟩ (.slice B' m d) = V ∧ Below B w0 V ∧ Blk V g t #[.int .i64 W, .int .i64 H, .slice A n c, .slice B' m d] ∧ ∀ g' t' cs', g' ≠ g → Blk w g' t' cs' → Blk V g' t' cs' := by
  have hb1 : Blk (w.setCell ⟨g, 0, none⟩ (.int .i64 W)) g t #[.int .i64 W, x1, x2, x3] := hb.set_ 0 _
  have hb2 : Blk ((w.setCell ⟨g, 0, none⟩ (.int .i64 W)).setCell ⟨g, 1, none⟩ (.int .i64 H)) g t #[.int .i64 W, .int .i64 H, x2, x3] := hb1.set_ 1 _
  have hb3 : Blk (((w.setCell ⟨g, 0, none⟩ (.int .i64 W)).setCell ⟨g, 1, none⟩ (.int .i64 H)).setCell ⟨g, 2, none⟩ (.slice A n c)) g t #[.int .i64 W, .int .i64 H, .slice A n c, x3] := hb2.set_ 2 _
  have hb4 : Blk ((((w.setCell ⟨g, 0, none⟩ (.int .i64 W)).setCell ⟨g, 1, none⟩ (.int .i64 H)).setCell ⟨g, 2, none⟩ (.slice A n c)).setCell ⟨g, 3, none⟩ (.slice B' m d)) g t #[.int .i64 W, .int .i64 H, .slice A n c, .slice B' m d] := hb3.set_ 3 _
  exact ⟨_, rfl, (((hB.setCell (p := ⟨g, 0, none⟩) hs _).setCell (p := ⟨g, 1, none⟩) hs _).setCell (p := ⟨g, 2, none⟩) hs _).setCell (p := ⟨g, 3, none⟩) hs _, hb4, fun g' t' cs' hg h => (((h.far hg _).far hg _).far hg _).far hg _⟩

set_option maxRecDepth 100000 in
set_option maxHeartbeats 2000000 in
theorem start_ok (W H : Int) (A : Option Addr) (n c : Nat) (B : Option Addr) (m d : Nat) (ps l : List Int) (w : World) (hp : LimI w A n c ps) (hl : LimI w B m d l) (h9 : n ≤ 1000000000) (h8 : m ≤ 1000000000) (iW : I64 W) (iH : I64 H) (E : Int) (hE : startE W H n ps l = E) :
    Calls Try.prog 16 #[.agg #[.int .i64 W, .int .i64 H, .slice A n c], .slice B m d] w (StartP w W H A n c B m d E) := by
  obtain ⟨W0, hW0, hB, ⟨q0, q9⟩, s0⟩ := alloc2 w 24 #[.int .i64 W, .int .i64 H, .slice A n c] 53 #[.int .i64 0, .int .i64 0, .slice none 0 0, .slice none 0 0]
  have c0 := q0.cell 0
  have c1 := q0.cell 1
  have c2 := q0.cell 2
  simp at c0 c1 c2
  replace hp := hide (hp.below hB)
  replace hl := hide (hl.below hB)
  go_enter Try.func16, Try.ntmps16
  go_wp2_with fail
  have hcz : sizeOk W H n = false ∨ sizeOk W H n = true := by cases sizeOk W H n <;> simp
  obtain ⟨b, hb⟩ : ∃ b, fieldOk W H n ps = b := ⟨_, rfl⟩
  have hCk : Calls Try.prog 35 #[.agg #[.int .i64 W, .int .i64 H, .slice A n c]] W0 fun e w' => e = .returned (.int .i64 (errOf b)) ∧ Below W0.heap.size W0 w' := by
    rcases hcz with hz | hz
    · have : b = false := by rw [← hb]; simp [fieldOk, hz]
      subst this
      exact cCheck_bad W H A n c ps W0 hp.out h9 iW iH hz
    · have hn : 0 < n := by
        obtain ⟨a1, a2, a3, a4, a5⟩ : 1 ≤ W ∧ W ≤ 100 ∧ 1 ≤ H ∧ H ≤ 100 ∧ (n : Int) = W * H := by simpa [sizeOk] using hz
        have b1 : 1 * 1 ≤ W * H := Int.mul_le_mul a1 a3 (by omega) (by omega)
        omega
      exact cCheck_sized W H A n c ps W0 hp.out h9 hz b (by rw [okPix_max ps n hn, ← hb]; simp [fieldOk, hz])
  refine hCk.mono ?_
  rintro e w1 ⟨rfl, hb1⟩
  replace hB : Below w.heap.size w w1 := hB.trans (hb1.mono hB.size)
  replace hl := hide (hl.out.below hb1)
  replace q0 := keep_blk hb1 q0
  replace q9 := keep_blk hb1 q9
  clear hW0 c0 c1 c2 hCk
  have c0 := q0.cell 0
  have c1 := q0.cell 1
  have c2 := q0.cell 2
  simp at c0 c1 c2
  obtain ⟨r0, r1, r2, r3, z0, z1, z2, z3⟩ := q9.four
  cases b
  · have hE2 : E = 8 := by rw [← hE]; unfold startE; rw [hb]; rfl
    subst hE2
    clear hb hE hcz
    go_wp2_with fail
    obtain ⟨V, hV, hB, q9, -⟩ := set_src 0 0 none 0 0 none 0 0 hB (by omega) q9
    (try rw [hV])
    (try simp only [hV])
    obtain ⟨r0, r1, r2, r3, -⟩ := q9.four
    refine bodyPost_ret (v := .tuple #[.agg #[.int .i64 0, .int .i64 0, .slice none 0 0, .slice none 0 0], .int .i64 8]) (by simp [results, Try.results16, go_sem, r0, r1, r2, r3, errOf]) rfl ?_
    exact ⟨⟨_, _, _, _, _, _, _, _, rfl, fun h => absurd h (by decide)⟩, hB⟩
  obtain ⟨b, hb2⟩ : ∃ b, listed l n = b := ⟨_, rfl⟩
  have hE2 : E = if b = true then 0 else 2 := by rw [← hE]; unfold startE; rw [hb, hb2]; simp
  clear hE hcz
  replace hE2 := hide hE2
  replace hb := hide hb2
  clear hb2
  have hlm : l.length = m := hl.out.lenI
  go_wp2_with fail
  go_loop [17] (fun i => ∃ k : Nat, k ≤ m ∧ i = .int .i64 k ∧ Hid (listedTo l n k = true)) (fun i => m - (intOf i).toNat)
  case atStart => exact ⟨0, by omega, rfl, hide rfl⟩
  case round =>
    obtain ⟨k, h1, rfl, heq⟩ := hrel
    by_cases hk : k < m
    case neg =>
      obtain rfl : k = m := by omega
      have htk : decide ((k : Int) < (k : Int)) = false := by simp
      rcases Nat.eq_zero_or_pos k with k0 | k0
      · have hb0 : b = false := by rw [← hb.out]; unfold listed; rw [hlm]; simp; omega
        subst hb0
        obtain rfl : E = 2 := by simpa using hE2.out
        clear hE2
        have he : ((k : Int) == 0) = true := by simp; omega
        go_wp2_with fail
        obtain ⟨V, hV, hB, q9, -⟩ := set_src 0 0 none 0 0 none 0 0 hB (by omega) q9
        (try rw [hV])
        (try simp only [hV])
        obtain ⟨r0, r1, r2, r3, -⟩ := q9.four
        refine bodyPost_ret (v := .tuple #[.agg #[.int .i64 0, .int .i64 0, .slice none 0 0, .slice none 0 0], .int .i64 2]) (by simp [results, Try.results16, go_sem, r0, r1, r2, r3, errOf]) rfl ?_
        exact ⟨⟨_, _, _, _, _, _, _, _, rfl, fun h => absurd h (by decide)⟩, hB⟩
      · have hb0 : b = true := by rw [← hb.out]; unfold listed; rw [hlm, heq.out]; simpa using k0
        subst hb0
        obtain rfl : E = 0 := by simpa using hE2.out
        clear hE2
        have he : ((k : Int) == 0) = false := by simp; omega
        go_wp2_with fail
        obtain ⟨V, hV, hB, q9, -⟩ := set_src W H A n c B k d hB (by omega) q9
        (try rw [hV])
        (try simp only [hV])
        obtain ⟨r0, r1, r2, r3, -⟩ := q9.four
        refine bodyPost_ret (v := .tuple #[.agg #[.int .i64 W, .int .i64 H, .slice A n c, .slice B k d], .int .i64 0]) (by simp [results, Try.results16, go_sem, r0, r1, r2, r3, errOf]) rfl ?_
        exact ⟨⟨_, _, _, _, _, _, _, _, rfl, fun _ => ⟨rfl, rfl, rfl, rfl, rfl, rfl, rfl, rfl⟩⟩, hB⟩
    have htk : decide ((k : Int) < (m : Int)) = true := by simp; omega
    obtain ⟨g, o, rfl, hc⟩ := hl.out.2.2.2.2 (by omega)
    have hck := hc k hk
    obtain ⟨x, hx⟩ : ∃ x, l[k]?.getD 0 = x := ⟨_, rfl⟩
    rw [hx] at hck
    by_cases f1 : x < 0
    · have v1 : decide (x < 0) = true := by simpa using f1
      have hbad : badAt l n k = true := badAt_true.2 (by omega)
      clear hc hx
      have hb0 : b = false := by rw [← hb.out]; unfold listed; rw [listedTo_bad (k := k) (by omega) hbad]; simp
      subst hb0
      obtain rfl : E = 2 := by simpa using hE2.out
      clear hb heq hbad hE2
      go_wp2_with fail
      obtain ⟨V, hV, hB, q9, -⟩ := set_src 0 0 none 0 0 none 0 0 hB (by omega) q9
      (try rw [hV])
      (try simp only [hV])
      obtain ⟨r0, r1, r2, r3, -⟩ := q9.four
      refine bodyPost_ret (v := .tuple #[.agg #[.int .i64 0, .int .i64 0, .slice none 0 0, .slice none 0 0], .int .i64 2]) (by simp [results, Try.results16, go_sem, r0, r1, r2, r3, errOf]) rfl ?_
      exact ⟨⟨_, _, _, _, _, _, _, _, rfl, fun h => absurd h (by decide)⟩, hB⟩
    have v1 : decide (x < 0) = false := by simpa using f1
    by_cases f2 : (n : Int) ≤ x
    · have v2 : decide ((n : Int) ≤ x) = true := by simpa using f2
      have hbad : badAt l n k = true := badAt_true.2 (by omega)
      clear hc hx
      have hb0 : b = false := by rw [← hb.out]; unfold listed; rw [listedTo_bad (k := k) (by omega) hbad]; simp
      subst hb0
      obtain rfl : E = 2 := by simpa using hE2.out
      clear hb heq hbad hE2
      go_wp2_with fail
      obtain ⟨V, hV, hB, q9, -⟩ := set_src 0 0 none 0 0 none 0 0 hB (by omega) q9
      (try rw [hV])
      (try simp only [hV])
      obtain ⟨r0, r1, r2, r3, -⟩ := q9.four
      refine bodyPost_ret (v := .tuple #[.agg #[.int .i64 0, .int .i64 0, .slice none 0 0, .slice none 0 0], .int .i64 2]) (by simp [results, Try.results16, go_sem, r0, r1, r2, r3, errOf]) rfl ?_
      exact ⟨⟨_, _, _, _, _, _, _, _, rfl, fun h => absurd h (by decide)⟩, hB⟩
    have v2 : decide ((n : Int) ≤ x) = false := by simpa using f2
    rcases Nat.eq_zero_or_pos k with k0 | k0
    · subst k0
      simp only [Nat.add_zero] at hck
      have htk' : decide ((0 : Int) < (m : Int)) = true := decide_eq_true (by omega)
      have hgood : badAt l n 0 = false := by rw [Bool.eq_false_iff]; intro e; have := badAt_true.1 e; omega
      clear hc hx
      replace hgood := hide hgood
      go_wp2_with fail
      go_round
      case rel => exact ⟨0 + 1, by omega, by go_num, hide (by first | (show (listedTo l n 0 && !badAt l n 0) = true; rw [heq.out, hgood.out]; rfl) | (show (listedTo l n (j + 1) && !badAt l n (j + 1)) = true; rw [heq.out, hgood.out]; rfl))⟩
      case measure => simp [intOf]; omega
    obtain ⟨j, rfl⟩ : ∃ j, k = j + 1 := ⟨k - 1, by omega⟩
    have v3 : decide ((0 : Int) < ((j + 1 : Nat) : Int)) = true := decide_eq_true (by omega)
    have hcj := hc j (by omega)
    have hz : wrap64 (((j + 1 : Nat) : Int) - 1) = (j : Int) := by unfold wrap64; omega
    obtain ⟨y, hy⟩ : ∃ y, l[j]?.getD 0 = y := ⟨_, rfl⟩
    rw [hy] at hcj
    by_cases f3 : x ≤ y
    · have v4 : decide (x ≤ y) = true := by simpa using f3
      have hbad : badAt l n (j + 1) = true := badAt_true.2 (by rw [Nat.add_sub_cancel]; omega)
      clear hc hx hy
      have hb0 : b = false := by rw [← hb.out]; unfold listed; rw [listedTo_bad (k := (j + 1)) (by omega) hbad]; simp
      subst hb0
      obtain rfl : E = 2 := by simpa using hE2.out
      clear hb heq hbad hE2
      go_wp2_with fail
      obtain ⟨V, hV, hB, q9, -⟩ := set_src 0 0 none 0 0 none 0 0 hB (by omega) q9
      (try rw [hV])
      (try simp only [hV])
      obtain ⟨r0, r1, r2, r3, -⟩ := q9.four
      refine bodyPost_ret (v := .tuple #[.agg #[.int .i64 0, .int .i64 0, .slice none 0 0, .slice none 0 0], .int .i64 2]) (by simp [results, Try.results16, go_sem, r0, r1, r2, r3, errOf]) rfl ?_
      exact ⟨⟨_, _, _, _, _, _, _, _, rfl, fun h => absurd h (by decide)⟩, hB⟩
    have v4 : decide (x ≤ y) = false := by simpa using f3
    have hgood : badAt l n (j + 1) = false := by rw [Bool.eq_false_iff]; intro e; have := badAt_true.1 e; rw [Nat.add_sub_cancel] at this; omega
    clear hc hx hy
    replace hgood := hide hgood
    go_wp2_with fail
    go_round
    case rel => exact ⟨(j + 1) + 1, by omega, by go_num, hide (by first | (show (listedTo l n 0 && !badAt l n 0) = true; rw [heq.out, hgood.out]; rfl) | (show (listedTo l n (j + 1) && !badAt l n (j + 1)) = true; rw [heq.out, hgood.out]; rfl))⟩
    case measure => simp [intOf]; omega
end Go.Proofs.Ytkippclhbkjbmaa
