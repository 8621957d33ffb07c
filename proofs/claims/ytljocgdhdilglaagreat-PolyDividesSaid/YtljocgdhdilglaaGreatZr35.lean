/- The division of polynomials: facts of its steps (plain). What a stretch of the call has left alone: all blocks but those of which G holds. A region that draws its order, in a plain walk: by the laws of XRnd. A drawn region: an operation that reads no memory is taken first whatever waits for it. -/
import Derived.Test.YtljocgdhdilglaaGreatZr22
import Derived.Test.YtljocgdhdilglaaGreatZr13
import Derived.Test.YtljocgdhdilglaaGreatZr14
import Derived.Test.YtljocgdhdilglaaGreatZr23
set_option linter.unusedSimpArgs false
set_option linter.unusedVariables false

namespace Go.Proofs.YtljocgdhdilglaaGreat

theorem contK_zero {p : List Int} : ∀ {k : Nat}, contK p k = 0 → ∀ i, i < k → p[i]?.getD 0 = 0 := by
  intro k
  induction k with
  | zero => intro _ i hi; omega
  | succ k ih =>
    intro h i hi
    unfold contK gcdZ at h
    have h1 : Nat.gcd (contK p k).natAbs (p[k]?.getD 0).natAbs = 0 := by omega
    rw [Nat.gcd_eq_zero_iff] at h1
    rcases Nat.lt_or_ge i k with h2 | h2
    · exact ih (by omega) i h2
    · obtain rfl : i = k := by omega
      omega
theorem contP_zero {p : List Int} (h : contP p = 0) (i : Nat) : p[i]?.getD 0 = 0 := by
  rcases Nat.lt_or_ge i p.length with h1 | h1
  · exact contK_zero h i h1
  · rw [List.getElem?_eq_none h1]; rfl
theorem trimP_le (xs : List Int) : (trimP xs).length ≤ xs.length := by
  induction xs with
  | nil => exact Nat.le_refl _
  | cons x l ih =>
    unfold trimP
    split
    · split <;> simp
    · rename_i y m hm
      rw [hm] at ih
      simp only [List.length_cons] at ih ⊢
      omega
theorem trimP_pre (xs : List Int) : ∃ zs, xs = trimP xs ++ zs := by
  induction xs with
  | nil => exact ⟨[], rfl⟩
  | cons x l ih =>
    obtain ⟨zs, h⟩ := ih
    unfold trimP
    split
    · rename_i hm
      rw [hm] at h
      split
      · exact ⟨x :: zs, by rw [List.nil_append] at h; rw [h]; rfl⟩
      · exact ⟨zs, by rw [List.nil_append] at h; rw [h]; rfl⟩
    · rename_i y m hm
      rw [hm] at h
      exact ⟨zs, by rw [h]; rfl⟩
theorem trimP_lt {xs : List Int} (h0 : 0 < xs.length) (h : xs[xs.length - 1]?.getD 0 = 0) : (trimP xs).length < xs.length := by
  rcases Nat.lt_or_ge (trimP xs).length xs.length with h1 | h1
  · exact h1
  · exfalso
    obtain ⟨zs, hz⟩ := trimP_pre xs
    have hl : zs = [] := by
      have := congrArg List.length hz
      rw [List.length_append] at this
      exact List.eq_nil_of_length_eq_zero (by omega)
    rw [hl, List.append_nil] at hz
    have hlast := trimP_last xs
    rw [← hz] at hlast
    rw [List.getLast?_eq_getElem?] at hlast
    rw [List.getElem?_eq_getElem (by omega)] at h hlast
    exact hlast _ rfl (by simpa using h)
theorem stepR_len (rest q : List Int) : (stepR rest q).length = rest.length := by simp [stepR]
theorem stepQ_len (quot rest q : List Int) : (stepQ quot rest q).length = quot.length := by simp [stepQ]
theorem byG_len (l : List Int) (g : Int) : (byG l g).length = l.length := by simp [byG]
theorem byG_get (l : List Int) (g : Int) (i : Nat) : (byG l g)[i]?.getD 0 = Int.fdiv (l[i]?.getD 0) g := by
  unfold byG
  rw [List.getElem?_map]
  cases h : l[i]? <;> simp
theorem stepR_get {rest q : List Int} {i : Nat} (h : i < rest.length) : (stepR rest q)[i]?.getD 0 = rest[i]?.getD 0 * q[q.length - 1]?.getD 0 - (if rest.length - q.length ≤ i then q[i - (rest.length - q.length)]?.getD 0 * rest[rest.length - 1]?.getD 0 else 0) := by
  simp [stepR, h]
theorem stepR_last {rest q : List Int} (h0 : 0 < q.length) (h : q.length ≤ rest.length) : (stepR rest q)[rest.length - 1]?.getD 0 = 0 := by
  rw [stepR_get (by omega), if_pos (by omega), show rest.length - 1 - (rest.length - q.length) = q.length - 1 by omega, Int.mul_comm, Int.sub_self]
theorem stepQ_get (quot rest q : List Int) (i : Nat) : (stepQ quot rest q)[i]?.getD 0 = if i = rest.length - q.length ∧ i < quot.length then quot[i]?.getD 0 * q[q.length - 1]?.getD 0 + rest[rest.length - 1]?.getD 0 else quot[i]?.getD 0 * q[q.length - 1]?.getD 0 := by
  unfold stepQ
  rw [List.getElem?_set, List.length_map]
  by_cases hi : rest.length - q.length = i
  · subst hi
    rw [if_pos rfl]
    by_cases hl : rest.length - q.length < quot.length
    · rw [if_pos hl, if_pos ⟨rfl, hl⟩]; rfl
    · rw [if_neg hl, if_neg (fun h => hl h.2), List.getElem?_eq_none (by omega)]; simp
  · rw [if_neg hi, if_neg (fun h => hi h.1.symm), List.getElem?_map]
    cases quot[i]? <;> simp
/-- The places of the quotient that have not come up yet are 0. -/
def zeroQ (q quot rest : List Int) : Prop := ∀ j, j + q.length ≤ (trimP rest).length → quot[j]?.getD 0 = 0
theorem zeroQ_step {q quot rest : List Int} (h0 : 0 < q.length) (hz : zeroQ q quot rest) (h : q.length ≤ (trimP rest).length) :
    zeroQ q (byG (stepQ quot (trimP rest) q) (stepG quot (trimP rest) q)) (byG (stepR (trimP rest) q) (stepG quot (trimP rest) q)) := by
  intro j hj
  have h1 : (trimP (byG (stepR (trimP rest) q) (stepG quot (trimP rest) q))).length < (trimP rest).length := by
    have := trimP_lt (xs := byG (stepR (trimP rest) q) (stepG quot (trimP rest) q)) (by rw [byG_len, stepR_len]; omega) (by rw [byG_get, byG_len, stepR_len, stepR_last h0 h]; simp)
    rw [byG_len, stepR_len] at this
    exact this
  rw [byG_get, stepQ_get, if_neg (by omega), hz j (by omega)]
  simp
theorem stepG_ne {q quot rest : List Int} (hz : zeroQ q quot rest) (h0 : 0 < q.length) (h : q.length ≤ (trimP rest).length) (hl : (trimP rest).length - q.length < quot.length) : stepG quot (trimP rest) q ≠ 0 := by
  intro hg
  unfold stepG gcdZ at hg
  have h1 : contP (stepQ quot (trimP rest) q) = 0 := by
    have := (Nat.gcd_eq_zero_iff (i := (contP (stepR (trimP rest) q)).natAbs) (j := (contP (stepQ quot (trimP rest) q)).natAbs)).1 (by omega)
    omega
  have h2 := contP_zero h1 ((trimP rest).length - q.length)
  rw [stepQ_get, if_pos ⟨rfl, hl⟩, hz _ (by omega), Int.zero_mul, Int.zero_add] at h2
  have h3 := trimP_last rest
  rw [List.getLast?_eq_getElem?, List.getElem?_eq_getElem (by omega)] at h3
  rw [List.getElem?_eq_getElem (by omega)] at h2
  exact h3 _ rfl (by simpa using h2)
theorem divK_stop {q quot rest : List Int} (h : (trimP rest).length < q.length) (k : Nat) : divK q k quot rest = (quot, trimP rest) := by
  cases k with
  | zero => rfl
  | succ k => unfold divK; rw [if_pos h]
theorem okDiv_small {q : List Int} {k : Nat} {quot rest : List Int} (h : okDiv q k quot rest = true) : smallP quot = true ∧ smallP rest = true := by
  cases k <;> (simp only [okDiv, Bool.and_eq_true] at h; exact h.1 |> fun h => by first | exact h | exact h.1)
theorem okDiv_more {q : List Int} {k : Nat} {quot rest : List Int} (h : okDiv q k quot rest = true) (hl : ¬ (trimP rest).length < q.length) : ∃ j, k = j + 1 ∧ divK q k quot rest = divK q j (byG (stepQ quot (trimP rest) q) (stepG quot (trimP rest) q)) (byG (stepR (trimP rest) q) (stepG quot (trimP rest) q)) ∧ okDiv q j (byG (stepQ quot (trimP rest) q) (stepG quot (trimP rest) q)) (byG (stepR (trimP rest) q) (stepG quot (trimP rest) q)) = true := by
  cases k with
  | zero => simp only [okDiv, Bool.and_eq_true, decide_eq_true_eq] at h; exact absurd h.2 hl
  | succ j =>
    refine ⟨j, rfl, ?_, ?_⟩
    · rw [divK, if_neg hl]
    · simp only [okDiv, Bool.and_eq_true] at h
      rw [if_neg hl] at h
      exact h.2
theorem smallP_get {l : List Int} (h : smallP l = true) (i : Nat) : (l[i]?.getD 0).natAbs < pw 1000 := by
  unfold smallP at h
  rw [List.all_eq_true] at h
  rcases Nat.lt_or_ge i l.length with h1 | h1
  · rw [List.getElem?_eq_getElem h1]
    simpa using h _ (List.getElem_mem h1)
  · rw [List.getElem?_eq_none h1]; exact pw_pos _
theorem pw_mul_small {a b : Int} (ha : a.natAbs < pw 1000) (hb : b.natAbs < pw 1000) : (a * b).natAbs < pw 2000 := by
  rw [Int.natAbs_mul, show 2000 = 1000 + 1000 by rfl, pw_add]
  exact Nat.mul_lt_mul'' ha hb
theorem mapmul_get (l : List Int) (c : Int) (i : Nat) : (l.map (· * c))[i]?.getD 0 = l[i]?.getD 0 * c := by
  rw [List.getElem?_map]
  cases l[i]? <;> simp
theorem add_small {a b : Int} (ha : a.natAbs < pw 2000) (hb : b.natAbs < pw 1000) : (a + b).natAbs < pw 4096 := by
  have h1 := pw_le (show 2001 ≤ 4096 by omega)
  rw [show 2001 = 2000 + 1 by rfl, pw_succ] at h1
  have h2 := pw_le (show 1000 ≤ 2000 by omega)
  have h3 := pw_pos 2000
  generalize pw 2000 = M at *
  generalize pw 1000 = M' at *
  omega
theorem sub_small {a b : Int} (ha : a.natAbs < pw 2000) (hb : b.natAbs < pw 2000) : (a - b).natAbs < pw 4096 := by
  have h1 := pw_le (show 2001 ≤ 4096 by omega)
  rw [show 2001 = 2000 + 1 by rfl, pw_succ] at h1
  have h3 := pw_pos 2000
  generalize pw 2000 = M at *
  omega
theorem pw_2000_4096 {z : Int} (h : z.natAbs < pw 2000) : z.natAbs < pw 4096 := Nat.lt_of_lt_of_le h (pw_le (by omega))
end Go.Proofs.YtljocgdhdilglaaGreat

namespace Go.Proofs.YtljocgdhdilglaaGreat
open Go.RowKit

/-- Of the blocks that stood in w none has turned but those of which G holds. -/
structure Kept (G : Nat → Prop) (w w' : World) : Prop where
  os : w'.os = w.os
  tape : w'.tape = w.tape
  output : w'.output = w.output
  size : w.heap.size ≤ w'.heap.size
  block : ∀ k, k < w.heap.size → ¬ G k → w'.heap[k]? = w.heap[k]?

section
variable {G : Nat → Prop} {w w' w'' : World}
theorem Kept.refl (G : Nat → Prop) (w : World) : Kept G w w := ⟨rfl, rfl, rfl, Nat.le_refl _, fun _ _ _ => rfl⟩
theorem Kept.trans (h : Kept G w w') (k : Kept G w' w'') : Kept G w w'' :=
  ⟨k.os.trans h.os, k.tape.trans h.tape, k.output.trans h.output, Nat.le_trans h.size k.size, fun i hi hg => (k.block i (Nat.lt_of_lt_of_le hi h.size) hg).trans (h.block i hi hg)⟩
theorem Kept.of_below (h : Below w.heap.size w w') : Kept G w w' := ⟨h.os, h.tape, h.output, h.size, fun k hk _ => h.block k hk⟩
theorem Kept.below (h : Kept G w w') (k : Below w'.heap.size w' w'') : Kept G w w'' := h.trans (Kept.of_below k)
theorem Kept.alloc (h : Kept G w w') (o : Obj) : Kept G w (w'.alloc o) := h.below ((Below.refl _ _).alloc (Nat.le_refl _) o)
theorem Kept.drewN (h : Kept G w w') (n : Nat) : Kept G w (w'.drewN n) := ⟨h.os, h.tape, h.output, h.size, h.block⟩
/-- A store into a block of G, or into one that is new. -/
theorem Kept.set_ (h : Kept G w w') {p : Addr} (hp : G p.block ∨ w.heap.size ≤ p.block) (u : Value) : Kept G w (w'.setCell p u) :=
  ⟨h.os, h.tape, h.output, by simp [World.setCell]; exact h.size, fun k hk hg => (Below.heap_setCell w' p u k (by rcases hp with hp | hp; exact fun e => hg (e ▸ hp); omega)).trans (h.block k hk hg)⟩
theorem Kept.blk (h : Kept G w w') {g : Nat} {t : TypeId} {cs : Array Value} (hb : Blk w g t cs) (hg : ¬ G g) : Blk w' g t cs := (h.block g hb.lt hg).trans hb
theorem Kept.to_below {B : Nat} (h : Kept G w w') (hG : ∀ k, G k → B ≤ k) (hB : B ≤ w.heap.size) : Below B w w' :=
  ⟨h.os, h.tape, h.output, h.size, fun k hk => h.block k (Nat.lt_of_lt_of_le hk hB) (fun hg => by have := hG k hg; omega)⟩
theorem Kept.mono {G' : Nat → Prop} (h : Kept G w w') (hG : ∀ k, k < w.heap.size → G k → G' k) : Kept G' w w' := ⟨h.os, h.tape, h.output, h.size, fun k hk hg => h.block k hk (fun h => hg (hG k hk h))⟩
/-- Limbs are kept, where the blocks of G hold none. -/
theorem Kept.lim (h : Kept G w w') {A : Option Addr} {n c : Nat} {l : List Nat} (hl : Lim w A n c l) (hG : ∀ k, G k → ∃ t cs, Blk w k t cs ∧ NoLimb cs) : Lim w' A n c l :=
  ⟨hl.1, hl.2.1, hl.2.2.1, hl.2.2.2.1, fun hn => by
    obtain ⟨b, o, e, hc⟩ := hl.2.2.2.2 hn
    refine ⟨b, o, e, fun k hk => ?_⟩
    have h0 := hc k hk
    refine (World.cell?_of_block (w := w) (h.block b (lt_of_cell h0) (fun hg => ?_))).trans h0
    obtain ⟨t, cs, h1, h2⟩ := hG b hg
    have h3 := h0
    rw [h1.cell] at h3
    exact h2 _ _ h3⟩
theorem Kept.wd (h : Kept G w w') {neg : Bool} {A : Option Addr} {n c : Nat} {z : Int} (hl : Wd w neg A n c z) (hG : ∀ k, G k → ∃ t cs, Blk w k t cs ∧ NoLimb cs) : Wd w' neg A n c z := ⟨hl.1, hl.2.1, h.lim hl.2.2 hG⟩
end

section
variable {t : TypeId} {w : World} {g : Nat} {xs zs : List Int}
theorem POwn.box (h : POwn t w g xs) : ∃ t cs, Blk w g t cs ∧ NoLimb cs := by
  obtain ⟨es, h1, -, -⟩ := h
  exact ⟨t, _, h1, cellsW_noLimb es⟩
/-- What the first numbers of a block are, as a slice. -/
theorem POwn.pre (h : POwn t w g (xs ++ zs)) {c : Nat} (hc : xs.length ≤ c) (hm : c ≤ maxLen) : PolyL w (some ⟨g, 0, none⟩) xs.length c xs := by
  obtain ⟨es, h1, h2, h3⟩ := h
  have hl : es.length = xs.length + zs.length := by rw [← List.length_map, h3, List.length_append]
  have ht : (es.take xs.length).map WE.num = xs := by rw [List.map_take, h3, List.take_left]
  refine ⟨es.take xs.length, ⟨by rw [List.length_take]; omega, hc, hm, fun _ => ⟨_, _, rfl, fun k e he => ?_⟩, fun e he => (h2 e (List.mem_of_mem_take he)).1⟩, ht, fun e he => (h2 e (List.mem_of_mem_take he)).2⟩
  rw [List.getElem?_take] at he
  split at he
  case isFalse => cases he
  have hc := cellsW_get he
  rw [Nat.zero_add, h1.cell, h1.cell]
  exact hc
/-- A store into another block of numbers. -/
theorem POwn.other {t' : TypeId} {g' : Nat} {ys : List Int} (h : POwn t w g xs) (h' : POwn t' w g' ys) (hne : g ≠ g') (i : Nat) (b : Bool) (A : Option Addr) (n c : Nat) :
    POwn t ((w.setCell ⟨g', i * 2, none⟩ (.bool b)).setCell ⟨g', i * 2 + 1, none⟩ (.slice A n c)) g xs := by
  obtain ⟨es, h1, h2, h3⟩ := h
  obtain ⟨fs, k1, -, -⟩ := h'
  refine ⟨es, (h1.far hne _).far hne _, fun e he => ⟨?_, (h2 e he).2⟩, h3⟩
  exact ((h2 e he).1.set_box k1 (cellsW_noLimb fs) _ _).set_box (k1.set_ (i * 2) (.bool b)) (cellsW_noLimb1 _ _ _) _ _
end
end Go.Proofs.YtljocgdhdilglaaGreat

namespace Go.Proofs.YtljocgdhdilglaaGreat
open Go.RowKit

theorem OnlyNormal.imp {Q : Exit → Act → World → Prop} (e : Exit) (a : Act) (w : World) (h : OnlyNormal Q e a w) : Q e a w := by
  cases e <;> first | exact h | exact (h : False).elim

theorem wp_held {P : Program} {id : Nat} {ops : Array Oper} {Q : Exit → Act → World → Prop} {a : Act} {w : World} (L : List Nat) (S : World → Prop) (hm : P.follows .mixedOrders = true)
    (hS : S w.drew) (h : S w.drew → wpAnyL P .any ops (OnlyNormal Q) L S ops.size (Array.replicate ops.size false) a w.drew) : (Code.region id ops true).wp P Q a w :=
  Code.wp_mono OnlyNormal.imp (wp_region_any hm (wpAny_of_L _ _ _ _ (h hS)))
end Go.Proofs.YtljocgdhdilglaaGreat

namespace Go.Proofs.YtljocgdhdilglaaGreat
open Go.RowKit

section
variable {P : Program} {ops : Array Oper} {Q : Exit → Act → World → Prop} {md : Region.Mode} {L : List Nat} {S : World → Prop}

theorem wpAnyL_pure1 {i : Nat} {oi : Oper} {v : Value} (hi : ops[i]? = some oi) (hsel : ∀ (j : Nat) (o : Oper) cs b, ops[j]? = some o → o.op ≠ .select cs b)
    (hQ : ∀ c a w, Q (.panic c) (a.put oi.dst v) w → Q (.panic c) a w) (hiL : L.contains i = false) :
    ∀ (fuel : Nat) (listed : Array Bool) (a : Act) (w : World),
      (∀ j oj, ops[j]? = some oj → j ≠ i → listed.getD j true = false → (∀ e ∈ oj.after, Region.binds md e = true → e.on ≠ i) → oi.apart ops oj = true) →
      i ∈ Region.ready md ops listed → YieldsIf P ops (fun _ => True) oi v a → (noneOf L listed = true → S w) →
      wpAnyL P md ops Q L S fuel (listed.setIfInBounds i true) (a.put oi.dst v) w → wpAnyL P md ops Q L S (fuel + 1) listed a w := by
  have hiL' : i ∉ L := fun h => by
    rw [List.contains_iff_mem.2 h] at hiL
    cases hiL
  intro fuel
  induction fuel with
  | zero =>
    intro listed a w _ hr hy hS H
    refine ⟨fun h => (by rw [h] at hr; cases hr), fun j hj => ?_⟩
    by_cases hji : j = i
    · subst hji; exact hy.wpOp hi trivial ⟨fun h => hS (by rwa [noneOf_set hiL'] at h), H⟩
    · have := ready_mono hj hji
      rw [H.1] at this
      cases this
  | succ fuel ih =>
    intro listed a w hfree hr hy hS H
    refine ⟨fun h => (by rw [h] at hr; cases hr), fun j hj => ?_⟩
    by_cases hji : j = i
    · subst hji; exact hy.wpOp hi trivial ⟨fun h => hS (by rwa [noneOf_set hiL'] at h), H⟩
    · have h1 := H.2 j (ready_mono hj hji)
      obtain ⟨hjun, oj, hoj, hall⟩ := mem_ready.1 hj
      have hnot : ∀ e ∈ oj.after, Region.binds md e = true → e.on ≠ i := fun e he hb heq => by
        have h1 := hall e he hb
        have h0 := (mem_ready.1 hr).1
        rw [heq] at h1
        rcases Nat.lt_or_ge i listed.size with h' | h'
        · simp [h'] at h0 h1; rw [h0] at h1; cases h1
        · simp [Array.getElem?_eq_none h'] at h1
      have h2 := wpOp_putIf hoj (hfree j oj hoj hji hjun hnot) (fun cs b => hsel i oi cs b hi) (fun cs b => hsel j oj cs b hoj) hQ hy h1
      have hfree' : ∀ k ok, ops[k]? = some ok → k ≠ i → (listed.setIfInBounds j true).getD k true = false →
          (∀ e ∈ ok.after, Region.binds md e = true → e.on ≠ i) → oi.apart ops ok = true := fun k ok hk hki hun hno => by
        refine hfree k ok hk hki ?_ hno
        by_cases hjk : j = k
        · subst hjk; exact hjun
        · rw [Go.getD_set_ne true hjk] at hun; exact hun
      refine wpOp_mono (fun a' w' h3 => ?_) h2
      have hSj : noneOf L (listed.setIfInBounds j true) = true → S w' := fun h => h3.2.1 (by
        rw [Array.setIfInBounds_comm _ _ (Ne.symm hji), noneOf_set hiL']; exact h)
      refine ⟨hSj, ih (listed.setIfInBounds j true) a' w' hfree' (ready_mono hr (Ne.symm hji)) h3.1 hSj ?_⟩
      rw [Array.setIfInBounds_comm _ _ hji]
      exact h3.2.2

/-- Take number i first: it reads no memory. -/
theorem wpAnyL_pure {i : Nat} {oi : Oper} {v : Value} {fuel : Nat} {listed : Array Bool} {a : Act} {w : World} (hi : ops[i]? = some oi)
    (hs : Region.noSelect ops = true) (hf : Region.free md ops listed i = true) (hr : (Region.ready md ops listed).contains i = true) (hL : L.contains i = false)
    (hy : YieldsIf P ops (fun _ => True) oi v a) (hS : noneOf L listed = true → S w)
    (h : wpAnyL P md ops (OnlyNormal Q) L S fuel (listed.setIfInBounds i true) (a.put oi.dst v) w) : wpAnyL P md ops (OnlyNormal Q) L S (fuel + 1) listed a w :=
  wpAnyL_pure1 hi (Region.noSelect_spec hs) (fun _ _ _ h => (h : False).elim) hL fuel listed a w (Region.free_spec hi hf) (by simpa using hr) hy hS h
end
end Go.Proofs.YtljocgdhdilglaaGreat
