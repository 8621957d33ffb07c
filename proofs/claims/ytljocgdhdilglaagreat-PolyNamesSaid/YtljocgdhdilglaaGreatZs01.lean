/- A drawn region, whatever its order: each operation of a set is walked once. What it yields meets a predicate that stays while memory grows. Package poly: look, Eval, Sign where they err; lists of one number; an append to a full slice. Package poly on polynomials told by their numbers: results that are not valid, parts, values. -/
import Derived.ArgAppend
import Derived.Test.YtljocgdhdilglaaGreatZr48
import Derived.Test.YtljocgdhdilglaaGreatZr47
import Derived.Test.YtljocgdhdilglaaGreatZr50
import Derived.Test.YtljocgdhdilglaaGreatZr36
import Derived.Test.YtljocgdhdilglaaGreatZr49
set_option linter.unusedSimpArgs false
set_option linter.unusedVariables false

namespace Go.Proofs.YtljocgdhdilglaaGreat
open Go.RowKit

def predsOf (md : Region.Mode) (ops : Array Oper) (i : Nat) : List Nat := match ops[i]? with | some o => (o.after.toList.filter (fun e => Region.binds md e)).map (·.on) | none => []
def dstOf (ops : Array Oper) (i : Nat) : Nat := match ops[i]? with | some o => o.dst.getD 0 | none => 0
def markAll (R : List Nat) (l : Array Bool) : Array Bool := R.foldl (fun l i => l.setIfInBounds i true) l
/-- In this order each waits but for what is listed and for those before it. -/
def topoOk (md : Region.Mode) (ops : Array Oper) : List Nat → Array Bool → Bool
  | [], _ => true
  | r :: rs, l => !l.getD r true && (match ops[r]? with | some o => o.dst.isSome | none => false) && (predsOf md ops r).all (fun p => l.getD p false) && topoOk md ops rs (l.setIfInBounds r true)
def clo (md : Region.Mode) (ops : Array Oper) : List Nat → List Nat → List Nat
  | [], c => c
  | r :: rs, c => clo md ops rs (if c.contains r then predsOf md ops r ++ c else c)
/-- No operation that is neither listed nor of R comes up before all of R have. -/
def outOk (md : Region.Mode) (ops : Array Oper) (R : List Nat) (l : Array Bool) : Bool :=
  (List.range ops.size).all fun k => R.contains k || l.getD k true || (predsOf md ops k).any (fun p => !R.contains p && !l.getD p false) || (R.all fun r => (clo md ops R.reverse (predsOf md ops k)).contains r)
def nodupB : List Nat → Bool
  | [] => true
  | x :: l => !l.contains x && nodupB l
def allOkB (md : Region.Mode) (ops : Array Oper) (R : List Nat) (l : Array Bool) : Bool := topoOk md ops R l && outOk md ops R l && nodupB (R.map (dstOf ops)) && decide (l.size = ops.size)

/-- The slots of R hold what ν says. -/
def putsR : List Nat → Act → (Nat → Value) → Act
  | [], a, _ => a
  | d :: ds, a, ν => putsR ds (a.put (some d) (ν d)) ν
def upd (ν : Nat → Value) (d : Nat) (v : Value) : Nat → Value := fun k => if k = d then v else ν k

theorem put_comm {a : Act} {d e : Nat} {u v : Value} (h : d ≠ e) : (a.put (some d) u).put (some e) v = (a.put (some e) v).put (some d) u := by
  simp only [Act.put]
  rw [Array.setIfInBounds_comm _ _ h]
theorem putsR_put {ds : List Nat} {a : Act} {ν : Nat → Value} {d : Nat} {v : Value} (h : d ∉ ds) : putsR ds (a.put (some d) v) ν = (putsR ds a ν).put (some d) v := by
  induction ds generalizing a with
  | nil => rfl
  | cons e ds ih =>
    have h1 : d ≠ e := fun h' => h (h' ▸ List.mem_cons_self ..)
    show putsR ds ((a.put (some d) v).put (some e) (ν e)) ν = _
    rw [put_comm h1, ih (fun h' => h (List.mem_cons_of_mem _ h'))]
    rfl
theorem putsR_upd_out {ds : List Nat} {a : Act} {ν : Nat → Value} {d : Nat} {v : Value} (h : d ∉ ds) : putsR ds a (upd ν d v) = putsR ds a ν := by
  induction ds generalizing a with
  | nil => rfl
  | cons e ds ih =>
    have h1 : e ≠ d := fun h' => h (h' ▸ List.mem_cons_self ..)
    show putsR ds (a.put (some e) (upd ν d v e)) (upd ν d v) = putsR ds (a.put (some e) (ν e)) ν
    rw [ih (fun h' => h (List.mem_cons_of_mem _ h'))]
    simp only [upd, if_neg h1]
theorem put_put {a : Act} {d : Nat} {u v : Value} : (a.put (some d) u).put (some d) v = a.put (some d) v := by
  simp only [Act.put]
  rw [Array.setIfInBounds_setIfInBounds]
theorem nodupB_cons {x : Nat} {l : List Nat} (h : nodupB (x :: l) = true) : x ∉ l ∧ nodupB l = true := by
  simp only [nodupB, Bool.and_eq_true, Bool.not_eq_true'] at h
  exact ⟨fun hx => by rw [List.contains_iff_mem.2 hx] at h; exact absurd h.1 (by simp), h.2⟩
theorem putsR_upd {ds : List Nat} {a : Act} {ν : Nat → Value} {d : Nat} {v : Value} (h : d ∈ ds) (hn : nodupB ds = true) : (putsR ds a ν).put (some d) v = putsR ds a (upd ν d v) := by
  induction ds generalizing a with
  | nil => cases h
  | cons e ds ih =>
    obtain ⟨h1, h2⟩ := nodupB_cons hn
    show (putsR ds (a.put (some e) (ν e)) ν).put (some d) v = putsR ds (a.put (some e) (upd ν d v e)) (upd ν d v)
    by_cases hd : d = e
    · subst hd
      rw [← putsR_put h1, put_put, putsR_upd_out h1]
      simp only [upd, if_true]
    · rcases List.mem_cons.1 h with h' | h'
      · exact absurd h' hd
      · rw [ih h' h2]
        simp only [upd, if_neg (Ne.symm hd)]
theorem putsR_self {ds : List Nat} {a : Act} : putsR ds a (fun d => a.tmps.getD d undef) = a := by
  induction ds with
  | nil => rfl
  | cons d ds ih =>
    show putsR ds (a.put (some d) (a.tmps.getD d undef)) _ = a
    have : a.put (some d) (a.tmps.getD d undef) = a := by
      cases a with
      | mk t df =>
        simp only [Act.put]
        congr 1
        rcases Nat.lt_or_ge d t.size with h | h
        · exact put_self (by rw [Array.getD_eq_getD_getElem?, Array.getElem?_eq_getElem h]; rfl)
        · exact Array.setIfInBounds_eq_of_size_le h
    rw [this]
    exact ih

theorem markAll_getD (R : List Nat) (l : Array Bool) (k : Nat) : (markAll R l).getD k true = if k ∈ R then true else l.getD k true := by
  unfold markAll
  induction R generalizing l with
  | nil => simp
  | cons r R ih =>
    rw [List.foldl_cons, ih]
    by_cases h1 : k ∈ R
    · rw [if_pos h1, if_pos (List.mem_cons_of_mem _ h1)]
    · rw [if_neg h1]
      by_cases h2 : k = r
      · subst h2
        rw [if_pos (List.mem_cons_self ..)]
        rw [Array.getD_eq_getD_getElem?, Array.getElem?_setIfInBounds]
        split
        · split <;> rfl
        · rename_i h; exact absurd rfl h
      · rw [if_neg (fun h => by rcases List.mem_cons.1 h with h | h; exact h2 h; exact h1 h), Go.getD_set_ne true (Ne.symm h2)]
theorem markAll_size (R : List Nat) (l : Array Bool) : (markAll R l).size = l.size := by
  unfold markAll
  induction R generalizing l with
  | nil => rfl
  | cons r R ih => rw [List.foldl_cons, ih]; simp
theorem eq_of_getD {l m : Array Bool} (hs : l.size = m.size) (h : ∀ k, l.getD k true = m.getD k true) : l = m := by
  apply Array.ext hs
  intro i h1 h2
  have := h i
  rw [Array.getD_eq_getD_getElem?, Array.getD_eq_getD_getElem?, Array.getElem?_eq_getElem h1, Array.getElem?_eq_getElem h2] at this
  exact this

section
variable {P : Program} {ops : Array Oper} {Q : Exit → Act → World → Prop} {md : Region.Mode} {L : List Nat} {S : World → Prop}

theorem clo_true {l : Array Bool} {R : List Nat} (hd : ∀ r ∈ R, l.getD r false = true → ∀ p ∈ predsOf md ops r, l.getD p false = true) :
    ∀ (rs : List Nat) (c : List Nat), (∀ r ∈ rs, r ∈ R) → (∀ x ∈ c, l.getD x false = true) → ∀ x ∈ clo md ops rs c, l.getD x false = true
  | [], c, _, hc, x, hx => hc x hx
  | r :: rs, c, hr, hc, x, hx => by
    refine clo_true hd rs _ (fun y hy => hr y (List.mem_cons_of_mem _ hy)) (fun y hy => ?_) x hx
    split at hy
    · rename_i h1
      rcases List.mem_append.1 hy with h2 | h2
      · exact hd r (hr r (List.mem_cons_self ..)) (hc r (List.contains_iff_mem.1 h1)) y h2
      · exact hc y h2
    · exact hc y hy
theorem getD_tf {l : Array Bool} {k : Nat} (h : l.getD k false = true) : l.getD k true = true := by
  rw [Array.getD_eq_getD_getElem?] at h ⊢
  cases hk : l[k]? with
  | none => rfl
  | some b => rw [hk] at h; exact h
theorem getD_set_mono {l : Array Bool} {k j : Nat} (h : l.getD k false = true) : (l.setIfInBounds j true).getD k false = true := by
  by_cases hkj : j = k
  · subst hkj
    rw [Array.getD_eq_getD_getElem?, Array.getElem?_setIfInBounds_self]
    rw [Array.getD_eq_getD_getElem?] at h
    split
    · rfl
    · rename_i h1; rw [Array.getElem?_eq_none (by omega)] at h; cases h
  · rw [Go.getD_set_ne false hkj]; exact h
theorem topo_spec : ∀ (R : List Nat) (l0 : Array Bool), topoOk md ops R l0 = true → (∀ r ∈ R, l0.getD r true = false ∧ ∃ o d, ops[r]? = some o ∧ o.dst = some d) ∧
      ∀ l : Array Bool, l.size = l0.size → (∀ k, l0.getD k false = true → l.getD k false = true) → (∃ r ∈ R, l.getD r true = false) → ∃ r ∈ R, l.getD r true = false ∧ ∀ p ∈ predsOf md ops r, l.getD p false = true
  | [], _, _ => ⟨fun r hr => (by cases hr), fun l _ _ ⟨r, hr, _⟩ => (by cases hr)⟩
  | r :: R, l0, h => by
    simp only [topoOk, Bool.and_eq_true, Bool.not_eq_true', List.all_eq_true] at h
    obtain ⟨⟨⟨h1, h2⟩, h3⟩, h4⟩ := h
    obtain ⟨k1, k2⟩ := topo_spec R _ h4
    refine ⟨fun x hx => ?_, fun l hsz hl hu => ?_⟩
    · rcases List.mem_cons.1 hx with rfl | hx
      · refine ⟨h1, ?_⟩
        cases ho : ops[x]? with
        | none => rw [ho] at h2; cases h2
        | some o =>
          rw [ho] at h2
          obtain ⟨d, hd⟩ := Option.isSome_iff_exists.1 h2
          exact ⟨o, d, rfl, hd⟩
      · obtain ⟨m1, m2⟩ := k1 x hx
        refine ⟨?_, m2⟩
        by_cases hxr : r = x
        · subst hxr
          exact h1
        · rw [Go.getD_set_ne true hxr] at m1; exact m1
    · by_cases hr : l.getD r true = false
      · exact ⟨r, List.mem_cons_self .., hr, fun p hp => hl p (h3 p hp)⟩
      · have hr2 : l.getD r true = true := by simpa using hr
        have hrs : r < l0.size := by
          rcases Nat.lt_or_ge r l0.size with h' | h'
          · exact h'
          · rw [Array.getD_eq_getD_getElem?, Array.getElem?_eq_none h'] at h1; cases h1
        have hrl : r < l.size := by omega
        have hrf : l.getD r false = true := by
          rw [Array.getD_eq_getD_getElem?, Array.getElem?_eq_getElem hrl] at hr2 ⊢
          exact hr2
        obtain ⟨x, hx, hx2⟩ := k2 l (by simp; exact hsz) (fun k hk => by
          by_cases hkr : r = k
          · subst hkr; exact hrf
          · rw [Go.getD_set_ne false hkr] at hk; exact hl k hk) (by
          obtain ⟨y, hy, hy2⟩ := hu
          rcases List.mem_cons.1 hy with rfl | hy
          · exact absurd hy2 hr
          · exact ⟨y, hy, hy2⟩)
        exact ⟨x, List.mem_cons_of_mem _ hx, hx2⟩

theorem allOk_parts {R : List Nat} {l : Array Bool} (h : allOkB md ops R l = true) : topoOk md ops R l = true ∧ outOk md ops R l = true ∧ nodupB (R.map (dstOf ops)) = true ∧ l.size = ops.size := by
  simp only [allOkB, Bool.and_eq_true, decide_eq_true_eq] at h
  exact ⟨h.1.1.1, h.1.1.2, h.1.2, h.2⟩
theorem preds_of_ready {i : Nat} {l : Array Bool} (h : i ∈ Region.ready md ops l) : l.getD i true = false ∧ i < ops.size ∧ ∀ p ∈ predsOf md ops i, l.getD p false = true := by
  obtain ⟨h1, o, ho, h2⟩ := mem_ready.1 h
  refine ⟨h1, (Array.getElem?_eq_some_iff.1 ho).1, fun p hp => ?_⟩
  unfold predsOf at hp
  rw [ho] at hp
  obtain ⟨e, he, rfl⟩ := List.mem_map.1 hp
  rw [List.mem_filter] at he
  exact h2 e (by simpa using he.1) he.2
theorem ready_of_preds {i : Nat} {l : Array Bool} (h1 : l.getD i true = false) {o : Oper} (ho : ops[i]? = some o) (h : ∀ p ∈ predsOf md ops i, l.getD p false = true) : i ∈ Region.ready md ops l := by
  refine mem_ready.2 ⟨h1, o, ho, fun e he hb => h _ ?_⟩
  unfold predsOf
  rw [ho]
  exact List.mem_map.2 ⟨e, List.mem_filter.2 ⟨by simpa using he, hb⟩, rfl⟩

/-- How many of R have not come up. -/
def left (R : List Nat) (l : Array Bool) : Nat := (R.filter fun r => !l.getD r true).length
theorem left_zero {R : List Nat} {l : Array Bool} (h : left R l = 0) : ∀ r ∈ R, l.getD r true = true := fun r hr => by
  have h1 := List.eq_nil_of_length_eq_zero h
  rw [List.filter_eq_nil_iff] at h1
  simpa using h1 r hr
theorem nodupB_map {f : Nat → Nat} : ∀ {R : List Nat}, nodupB (R.map f) = true → nodupB R = true
  | [], _ => rfl
  | r :: R, h => by
    obtain ⟨h1, h2⟩ := nodupB_cons (x := f r) (l := R.map f) h
    simp only [nodupB, Bool.and_eq_true, Bool.not_eq_true']
    refine ⟨?_, nodupB_map h2⟩
    cases hc : R.contains r with
    | false => rfl
    | true => exact absurd (List.mem_map.2 ⟨r, List.contains_iff_mem.1 hc, rfl⟩) h1
theorem nodup_inj {f : Nat → Nat} : ∀ {R : List Nat}, nodupB (R.map f) = true → ∀ {r i : Nat}, r ∈ R → i ∈ R → r ≠ i → f r ≠ f i
  | [], _, _, _, h, _, _ => by cases h
  | x :: R, h, r, i, hr, hi, hne => by
    obtain ⟨h1, h2⟩ := nodupB_cons (x := f x) (l := R.map f) h
    rcases List.mem_cons.1 hr with hr' | hr'
    · rcases List.mem_cons.1 hi with hi' | hi'
      · exact absurd (hr'.trans hi'.symm) hne
      · exact fun e => h1 (List.mem_map.2 ⟨i, hi', by rw [← e, hr']⟩)
    · rcases List.mem_cons.1 hi with hi' | hi'
      · exact fun e => h1 (List.mem_map.2 ⟨r, hr', by rw [e, hi']⟩)
      · exact nodup_inj h2 hr' hi' hne
theorem left_same {R : List Nat} {l : Array Bool} {i : Nat} (hi : i ∉ R) : left R (l.setIfInBounds i true) = left R l := by
  unfold left
  congr 1
  apply List.filter_congr
  intro r hr
  rw [Go.getD_set_ne true (fun e : i = r => hi (e ▸ hr))]
theorem left_set {R : List Nat} {l : Array Bool} {i : Nat} (hn : nodupB R = true) (hi : i ∈ R) (h : l.getD i true = false) : left R (l.setIfInBounds i true) + 1 = left R l := by
  have hlt : i < l.size := by
    rcases Nat.lt_or_ge i l.size with h' | h'
    · exact h'
    · rw [Array.getD_eq_getD_getElem?, Array.getElem?_eq_none h'] at h; cases h
  have hset : (l.setIfInBounds i true).getD i true = true := by
    rw [Array.getD_eq_getD_getElem?, Array.getElem?_setIfInBounds_self, if_pos hlt]; rfl
  induction R with
  | nil => cases hi
  | cons r R ih =>
    obtain ⟨n1, n2⟩ := nodupB_cons hn
    by_cases hr : i = r
    · subst hr
      have := left_same (l := l) n1
      unfold left at this ⊢
      rw [List.filter_cons_of_neg (by simp [hset]), List.filter_cons_of_pos (by simp [h]), this]
      rfl
    · have hi2 : i ∈ R := by
        rcases List.mem_cons.1 hi with h' | h'
        · exact absurd h' hr
        · exact h'
      have := ih n2 hi2
      unfold left at this ⊢
      by_cases hb : l.getD r true = true
      · rw [List.filter_cons_of_neg (by rw [Go.getD_set_ne true hr]; simp [hb]), List.filter_cons_of_neg (by simp [hb])]; exact this
      · rw [List.filter_cons_of_pos (by rw [Go.getD_set_ne true hr]; simpa using hb), List.filter_cons_of_pos (by simpa using hb), List.length_cons, List.length_cons, this]

theorem all_aux (R : List Nat) (Φ : Nat → Value → World → Prop) {l0 : Array Bool} {a0 : Act} {w0 : World} (hok : allOkB md ops R l0 = true) (hst : ∀ i ∈ R, ∀ v w w', Below w.heap.size w w' → Φ i v w → Φ i v w')
    (hS : ∀ w', Below w0.heap.size w0 w' → S w') {F : Nat}
    (hop : ∀ i ∈ R, ∀ (ν : Nat → Value) (w : World), Below w0.heap.size w0 w → (∀ j ∈ R, j ∈ predsOf md ops i → Φ j (ν (dstOf ops j)) w) →
      wpOp P ops Q i (fun a' w' => ∃ v, a' = (putsR (R.map (dstOf ops)) a0 ν).put (some (dstOf ops i)) v ∧ Φ i v w' ∧ Below w.heap.size w w') (putsR (R.map (dstOf ops)) a0 ν) w)
    (hfin : ∀ (ν : Nat → Value) (w : World), Below w0.heap.size w0 w → (∀ i ∈ R, Φ i (ν (dstOf ops i)) w) → wpAnyL P md ops Q L S F (markAll R l0) (putsR (R.map (dstOf ops)) a0 ν) w) :
    ∀ (n : Nat) (l : Array Bool) (ν : Nat → Value) (w : World), n = left R l → l.size = l0.size → (∀ k, k ∉ R → l.getD k true = l0.getD k true) → (∀ k, l0.getD k false = true → l.getD k false = true) →
      (∀ r ∈ R, l.getD r false = true → ∀ p ∈ predsOf md ops r, l.getD p false = true) → Below w0.heap.size w0 w → (∀ r ∈ R, l.getD r true = true → Φ r (ν (dstOf ops r)) w) →
      wpAnyL P md ops Q L S (n + F) l (putsR (R.map (dstOf ops)) a0 ν) w := by
  obtain ⟨hto, hou, hnd, hsz0⟩ := allOk_parts hok
  obtain ⟨t1, t2⟩ := topo_spec R l0 hto
  intro n
  induction n using Nat.strongRecOn with
  | _ n ih =>
    intro l ν w hn hsz hK hM hD hb hΦ
    have hrs : ∀ r ∈ R, r < l.size := fun r hr => by
      obtain ⟨-, o, d, ho, -⟩ := t1 r hr
      have := (Array.getElem?_eq_some_iff.1 ho).1
      omega
    have htf : ∀ k, k < l.size → l.getD k true = true → l.getD k false = true := fun k hk h => by
      rw [Array.getD_eq_getD_getElem?, Array.getElem?_eq_getElem hk] at h ⊢
      exact h
    cases n with
    | zero =>
      have hl := left_zero hn.symm
      have : l = markAll R l0 := by
        refine eq_of_getD (by rw [markAll_size]; exact hsz) fun k => ?_
        rw [markAll_getD]
        by_cases hk : k ∈ R
        · rw [if_pos hk]; exact hl k hk
        · rw [if_neg hk]; exact hK k hk
      subst this
      rw [Nat.zero_add]
      exact hfin ν w hb fun i hi => hΦ i hi (hl i hi)
    | succ n =>
      have hex : ∃ r ∈ R, l.getD r true = false := by
        apply Classical.byContradiction
        intro hno
        have : left R l = 0 := by
          unfold left
          rw [List.length_eq_zero_iff, List.filter_eq_nil_iff]
          intro r hr h
          exact hno ⟨r, hr, by simpa using h⟩
        omega
      obtain ⟨r, hr, hr1, hr2⟩ := t2 l hsz hM hex
      obtain ⟨-, o, d, ho, -⟩ := t1 r hr
      have hready := ready_of_preds (md := md) hr1 ho hr2
      rw [Nat.add_right_comm]
      refine ⟨fun h0 => (by rw [h0] at hready; cases hready), fun i hi => ?_⟩
      obtain ⟨hi1, hi2, hi3⟩ := preds_of_ready hi
      have hiR : i ∈ R := by
        apply Classical.byContradiction
        intro hni
        unfold outOk at hou
        rw [List.all_eq_true] at hou
        have h1 := hou i (List.mem_range.2 hi2)
        simp only [Bool.or_eq_true, List.any_eq_true, List.all_eq_true, Bool.and_eq_true, Bool.not_eq_true'] at h1
        rcases h1 with ((h1 | h1) | ⟨p, hp, h2, h3⟩) | h1
        · exact hni (List.contains_iff_mem.1 h1)
        · rw [hK i hni, h1] at hi1; cases hi1
        · have hpR : p ∉ R := fun h => by rw [List.contains_iff_mem.2 h] at h2; cases h2
          have h4 := hi3 p hp
          have h5 := getD_tf h4
          rw [hK p hpR] at h5
          have hps : p < l.size := by
            rcases Nat.lt_or_ge p l.size with h' | h'
            · exact h'
            · rw [Array.getD_eq_getD_getElem?, Array.getElem?_eq_none h'] at h4; cases h4
          rw [Array.getD_eq_getD_getElem?, Array.getElem?_eq_getElem (by omega)] at h5 h3
          simp only [Option.getD_some] at h5 h3
          rw [h5] at h3; cases h3
        · have h2 := clo_true (md := md) (ops := ops) (l := l) (R := R) hD R.reverse (predsOf md ops i) (fun r hr => List.mem_reverse.1 hr) hi3
          obtain ⟨y, hy, hy2⟩ := hex
          have h3 := getD_tf (h2 y (List.contains_iff_mem.1 (h1 y hy)))
          rw [hy2] at h3; cases h3
      have hdn : dstOf ops i ∈ R.map (dstOf ops) := List.mem_map.2 ⟨i, hiR, rfl⟩
      have hset : (l.setIfInBounds i true).getD i false = true := by
        rw [Array.getD_eq_getD_getElem?, Array.getElem?_setIfInBounds_self, if_pos (hrs i hiR)]; rfl
      refine wpOp_mono (fun a' w' h => ?_) (hop i hiR ν w hb fun j hj hp => hΦ j hj (getD_tf (hi3 j hp)))
      obtain ⟨v, rfl, hv, hb2⟩ := h
      have hb3 := hb.trans (hb2.mono hb.size)
      refine ⟨fun _ => hS _ hb3, ?_⟩
      rw [putsR_upd hdn hnd]
      have hlt := left_set (nodupB_map hnd) hiR hi1
      have hgo := ih (left R (l.setIfInBounds i true)) (by omega) (l.setIfInBounds i true) (upd ν (dstOf ops i) v) w' rfl (by simp; exact hsz) (fun k hk => by
        rw [Go.getD_set_ne true (fun e : i = k => hk (e ▸ hiR))]; exact hK k hk) (fun k hk => getD_set_mono (hM k hk)) (fun r hr hrt p hp => by
        by_cases hri : r = i
        · subst hri; exact getD_set_mono (hi3 p hp)
        · rw [Go.getD_set_ne false (Ne.symm hri)] at hrt
          exact getD_set_mono (hD r hr hrt p hp)) hb3 (fun r hr hrt => by
        unfold upd
        by_cases hri : r = i
        · subst hri; rw [if_pos rfl]; exact hv
        · have hne : dstOf ops r ≠ dstOf ops i := nodup_inj hnd hr hiR hri
          rw [if_neg hne]
          rw [Go.getD_set_ne true (Ne.symm hri)] at hrt
          exact hst r hr _ _ _ hb2 (hΦ r hr hrt))
      have hone : left R (l.setIfInBounds i true) = n := by omega
      rw [hone] at hgo
      exact hgo

/-- The operations R come up in any order; each is walked once. -/
theorem wpAnyL_all (R : List Nat) (Φ : Nat → Value → World → Prop) (F : Nat) {l0 : Array Bool} {a0 : Act} {w0 : World} (hok : allOkB md ops R l0 = true) (hst : ∀ i ∈ R, ∀ v w w', Below w.heap.size w w' → Φ i v w → Φ i v w')
    (hS : ∀ w', Below w0.heap.size w0 w' → S w')
    (hop : ∀ i ∈ R, ∀ (ν : Nat → Value) (w : World), Below w0.heap.size w0 w → (∀ j ∈ R, j ∈ predsOf md ops i → Φ j (ν (dstOf ops j)) w) →
      wpOp P ops Q i (fun a' w' => ∃ v, a' = (putsR (R.map (dstOf ops)) a0 ν).put (some (dstOf ops i)) v ∧ Φ i v w' ∧ Below w.heap.size w w') (putsR (R.map (dstOf ops)) a0 ν) w)
    (hfin : ∀ (ν : Nat → Value) (w : World), Below w0.heap.size w0 w → (∀ i ∈ R, Φ i (ν (dstOf ops i)) w) → wpAnyL P md ops Q L S F (markAll R l0) (putsR (R.map (dstOf ops)) a0 ν) w) :
    wpAnyL P md ops Q L S (R.length + F) l0 a0 w0 := by
  obtain ⟨hto, hou, hnd, hsz0⟩ := allOk_parts hok
  obtain ⟨t1, t2⟩ := topo_spec R l0 hto
  have hun : ∀ r ∈ R, l0.getD r true = false := fun r hr => (t1 r hr).1
  have hlen : left R l0 = R.length := by
    unfold left
    rw [List.filter_eq_self.2 (fun r hr => by rw [hun r hr]; rfl)]
  have h := all_aux R Φ hok hst hS hop hfin R.length l0 (fun d => a0.tmps.getD d undef) w0 hlen.symm rfl (fun _ _ => rfl) (fun _ h => h)
    (fun r hr h => by have h1 := getD_tf h; rw [hun r hr] at h1; cases h1) (Below.refl _ _) (fun r hr h => by rw [hun r hr] at h; cases h)
  rw [putsR_self] at h
  exact h

theorem markAll_map (R : List (Nat × Nat)) (h : R.all (fun p => dstOf ops p.1 == p.2) = true) : (R.map (·.1)).map (dstOf ops) = R.map (·.2) := by
  rw [List.map_map]
  apply List.map_congr_left
  intro p hp
  rw [List.all_eq_true] at h
  simpa using h p hp
/-- The same with the slots named: R holds (operation, slot). -/
theorem wpAnyL_allP (R : List (Nat × Nat)) (Φ : Nat → Value → World → Prop) (F : Nat) {l0 : Array Bool} {a0 : Act} {w0 : World} (hok : (allOkB md ops (R.map (·.1)) l0 && R.all (fun p => dstOf ops p.1 == p.2)) = true)
    (hst : ∀ p ∈ R, ∀ v w w', Below w.heap.size w w' → Φ p.1 v w → Φ p.1 v w')
    (hS : ∀ w', Below w0.heap.size w0 w' → S w')
    (hop : ∀ p ∈ R, ∀ (ν : Nat → Value) (w : World), Below w0.heap.size w0 w → (∀ q ∈ R, (predsOf md ops p.1).contains q.1 = true → Φ q.1 (ν q.2) w) →
      wpOp P ops Q p.1 (fun a' w' => ∃ v, a' = (putsR (R.map (·.2)) a0 ν).put (some p.2) v ∧ Φ p.1 v w' ∧ Below w.heap.size w w') (putsR (R.map (·.2)) a0 ν) w)
    (hfin : ∀ (ν : Nat → Value) (w : World), Below w0.heap.size w0 w → (∀ p ∈ R, Φ p.1 (ν p.2) w) → wpAnyL P md ops Q L S F (markAll (R.map (·.1)) l0) (putsR (R.map (·.2)) a0 ν) w) :
    wpAnyL P md ops Q L S (R.length + F) l0 a0 w0 := by
  rw [Bool.and_eq_true] at hok
  have hD := markAll_map (ops := ops) R hok.2
  have hd : ∀ p ∈ R, dstOf ops p.1 = p.2 := fun p hp => by
    have := hok.2
    rw [List.all_eq_true] at this
    simpa using this p hp
  have h := wpAnyL_all (P := P) (ops := ops) (Q := Q) (md := md) (L := L) (S := S) (R.map (·.1)) Φ F hok.1 (fun i hi => by
    obtain ⟨p, hp, rfl⟩ := List.mem_map.1 hi
    exact hst p hp) hS (fun i hi ν w hb hP => by
    obtain ⟨p, hp, rfl⟩ := List.mem_map.1 hi
    have := hop p hp ν w hb (fun q hq hc => by
      have := hP q.1 (List.mem_map.2 ⟨q, hq, rfl⟩) (List.contains_iff_mem.1 hc)
      rw [hd q hq] at this
      exact this)
    rw [hD, hd p hp]
    exact this) (fun ν w hb hf => by
    rw [hD]
    exact hfin ν w hb (fun p hp => by
      have := hf p.1 (List.mem_map.2 ⟨p, hp, rfl⟩)
      rw [hd p hp] at this
      exact this))
  rw [List.length_map] at h
  exact h
end
end Go.Proofs.YtljocgdhdilglaaGreat

namespace Go.Proofs.YtljocgdhdilglaaGreat
open Go.RowKit
attribute [local go_sem] add_lit

set_option maxRecDepth 100000 in
set_option maxHeartbeats 1000000 in
theorem look_bad (A : Option Addr) (n c : Nat) (es : List WE) (na nb : Bool) (X Y : Option Addr) (nx cx ny cy : Nat) (la lb : List Nat) (w : World) (hL : WL w A n c es) (kp : pOk es = true) (hx : Lim w X nx cx la) (hy : Lim w Y ny cy lb) (hk : okF na la nb lb = false) :
    Calls Tryz.prog 42 #[.slice A n c, .agg #[.bool na, .slice X nx cx, .bool nb, .slice Y ny cy]] w fun e w' => e = .returned (.int .i64 8) ∧ Below w.heap.size w w' := by
  obtain ⟨W0, hW0, hB, q, sz⟩ := alloc1 w 27 #[.bool na, .slice X nx cx, .bool nb, .slice Y ny cy]
  replace hL := hide hL
  replace hx := hide hx
  replace hy := hide hy
  have hkp := hide kp
  replace hk := hide hk
  clear kp
  go_enter Tryz.func42, Tryz.ntmps42
  go_wp2_with fail
  refine (pCheck_any A n c es W0 (hL.out.below hB)).mono ?_
  rintro e w1 ⟨he, hb1⟩
  rw [hkp.out] at he
  simp only [errOf, if_true] at he
  subst he
  have hB1 := hB.trans (hb1.mono hB.size)
  replace q := keep_blk hb1 q
  obtain ⟨s0, s1, s2, s3, -⟩ := q.four
  go_wp2_with fail
  refine (fCheck_any na nb X Y nx cx ny cy la lb w1 (hx.out.below hB1) (hy.out.below hB1) false hk.out).mono ?_
  rintro e w2 ⟨rfl, hb2⟩
  have hB2 := hB1.trans (hb2.mono hB1.size)
  simp only [errOf, Bool.false_eq_true, if_false]
  go_wp2_with fail
  go_ret
  exact ⟨rfl, hB2⟩

set_option maxRecDepth 100000 in
set_option maxHeartbeats 1000000 in
theorem look_many (A : Option Addr) (n c : Nat) (es : List WE) (na nb : Bool) (X Y : Option Addr) (nx cx ny cy : Nat) (la lb : List Nat) (w : World) (hL : WL w A n c es) (kp : pOk es = true) (hx : Lim w X nx cx la) (hy : Lim w Y ny cy lb) (hk : okF na la nb lb = true) (h64 : 64 < max nx ny) :
    Calls Tryz.prog 42 #[.slice A n c, .agg #[.bool na, .slice X nx cx, .bool nb, .slice Y ny cy]] w fun e w' => e = .returned (.int .i64 4) ∧ Below w.heap.size w w' := by
  have hxm := hx.2.1
  have hxm2 := hx.2.2.1
  have hym := hy.2.1
  have hym2 := hy.2.2.1
  unfold maxLen at hxm2 hym2
  obtain ⟨W0, hW0, hB, q, sz⟩ := alloc1 w 27 #[.bool na, .slice X nx cx, .bool nb, .slice Y ny cy]
  replace hL := hide hL
  replace hx := hide hx
  replace hy := hide hy
  have hkp := hide kp
  replace hk := hide hk
  clear kp
  go_enter Tryz.func42, Tryz.ntmps42
  go_wp2_with fail
  refine (pCheck_any A n c es W0 (hL.out.below hB)).mono ?_
  rintro e w1 ⟨he, hb1⟩
  rw [hkp.out] at he
  simp only [errOf, if_true] at he
  subst he
  have hB1 := hB.trans (hb1.mono hB.size)
  replace q := keep_blk hb1 q
  obtain ⟨s0, s1, s2, s3, -⟩ := q.four
  go_wp2_with fail
  refine (fCheck_any na nb X Y nx cx ny cy la lb w1 (hx.out.below hB1) (hy.out.below hB1) true hk.out).mono ?_
  rintro e w2 ⟨rfl, hb2⟩
  have hB2 := hB1.trans (hb2.mono hB1.size)
  clear s0 s1 s2 s3
  replace q := keep_blk hb2 q
  obtain ⟨s0, s1, s2, s3, -⟩ := q.four
  have t1 : decide (64 < max (nx : Int) (ny : Int)) = true := by simp; omega
  have t2 : decide (64 < max nx ny) = true := by simp; omega
  simp only [errOf, if_true]
  go_wp2_with fail
  go_ret
  exact ⟨rfl, hB2⟩

set_option maxRecDepth 100000 in
set_option maxHeartbeats 1000000 in
theorem Eval_many (A : Option Addr) (n c : Nat) (es : List WE) (na nb : Bool) (X Y : Option Addr) (nx cx ny cy : Nat) (la lb : List Nat) (w : World) (hL : WL w A n c es) (kp : pOk es = true) (hx : Lim w X nx cx la) (hy : Lim w Y ny cy lb) (hk : okF na la nb lb = true) (h64 : 64 < max nx ny) :
    Calls Tryz.prog 23 #[.slice A n c, .agg #[.bool na, .slice X nx cx, .bool nb, .slice Y ny cy]] w fun e w' => e = .returned (.tuple #[.agg #[.bool false, .slice none 0 0, .bool false, .slice none 0 0], .int .i64 4]) ∧ Below w.heap.size w w' := by
  obtain ⟨W0, hW0, hB, ⟨q, qr⟩, sz⟩ := alloc2 w 27 #[.bool na, .slice X nx cx, .bool nb, .slice Y ny cy] 27 #[.bool false, .slice none 0 0, .bool false, .slice none 0 0]
  have hlk := look_many A n c es na nb X Y nx cx ny cy la lb W0 (hL.below hB) kp (hx.below hB) (hy.below hB) hk h64
  clear hL hx hy hk kp
  obtain ⟨s0, s1, s2, s3, -⟩ := q.four
  go_enter Tryz.func23, Tryz.ntmps23
  go_wp2_with fail
  refine hlk.mono ?_
  rintro e w1 ⟨rfl, hb1⟩
  have hB1 := hB.trans (hb1.mono hB.size)
  clear s0 s1 s2 s3 hlk
  replace qr := keep_blk hb1 qr
  obtain ⟨z0, z1, z2, z3, z4, z5, z6, z7⟩ := qr.four
  obtain ⟨W4, hW4, hB4, qz, st⟩ := set_frac false none 0 0 false none 0 0 hB1 (show w.heap.size ≤ w.heap.size + 1 by omega) qr
  obtain ⟨t0, t1, t2, t3, -⟩ := qz.four
  have hlt := qz.lt
  clear st qr
  go_wp2_with fail
  refine bodyPost_ret (v := .tuple #[.agg #[.bool false, .slice none 0 0, .bool false, .slice none 0 0], .int .i64 4]) (by simp [results, Tryz.results23, go_sem, t0, t1, t2, t3, hlt]) rfl ?_
  exact ⟨rfl, hB4⟩

set_option maxRecDepth 100000 in
set_option maxHeartbeats 1000000 in
theorem Sign_bad (A : Option Addr) (n c : Nat) (es : List WE) (na nb : Bool) (X Y : Option Addr) (nx cx ny cy : Nat) (la lb : List Nat) (w : World) (hL : WL w A n c es) (kp : pOk es = true) (hx : Lim w X nx cx la) (hy : Lim w Y ny cy lb) (hk : okF na la nb lb = false) :
    Calls Tryz.prog 14 #[.slice A n c, .agg #[.bool na, .slice X nx cx, .bool nb, .slice Y ny cy]] w fun e w' => e = .returned (.tuple #[.int .i64 0, .int .i64 8]) ∧ Below w.heap.size w w' := by
  obtain ⟨W0, hW0, hB, q, sz⟩ := alloc1 w 27 #[.bool na, .slice X nx cx, .bool nb, .slice Y ny cy]
  have hlk := look_bad A n c es na nb X Y nx cx ny cy la lb W0 (hL.below hB) kp (hx.below hB) (hy.below hB) hk
  clear hL hx hy hk kp
  obtain ⟨s0, s1, s2, s3, -⟩ := q.four
  go_enter Tryz.func14, Tryz.ntmps14
  go_wp2_with fail
  refine hlk.mono ?_
  rintro e w1 ⟨rfl, hb1⟩
  have hB1 := hB.trans (hb1.mono hB.size)
  clear s0 s1 s2 s3 hlk
  go_wp2_with fail
  go_returns
  exact ⟨rfl, hB1⟩

/-- A list of one number. -/
theorem WL.single {w : World} {g : Nat} {t : TypeId} {neg : Bool} {A : Option Addr} {n c : Nat} {l : List Nat} (h : Blk w g t #[.bool neg, .slice A n c]) (hL : Lim w A n c l) : WL w (some ⟨g, 0, none⟩) 1 1 [⟨neg, A, n, c, l⟩] := by
  refine ⟨rfl, Nat.le_refl _, by unfold maxLen; omega, fun _ => ⟨_, _, rfl, fun k e he => ?_⟩, fun e he => by rw [List.mem_singleton] at he; subst he; exact hL⟩
  cases k with
  | zero =>
    simp only [List.getElem?_cons_zero, Option.some.injEq] at he
    subst he
    exact ⟨h.cell 0, h.cell 1⟩
  | succ k => simp at he

/-- An append to a full slice. -/
theorem wp_append_full {P : Program} (w : World) {o : Oper} {a : Act} {K : Act → World → Prop} {Q : Exit → Act → World → Prop} (s x : Operand) (t : TypeId)
    (ho : o.op = .call { callee := .builtin .append, args := #[s, x], argTypes := #[t, t] })
    (e : TypeId) (i : TypeInfo) (ht : P.underlying t = some (.slice e)) (hi : P.info? e = some i) (hz : i.zero = some (.agg #[.bool false, .slice none 0 0])) (hsi : i.size = 2) (hby : i.bytes = 32)
    (A : Option Addr) (n : Nat) (es : List WE) (hs : a.eval s = .slice A n n) (hL : WL w A n n es) (hn : 0 < n)
    (B : Option Addr) (m c : Nat) (fs : List WE) (hx : a.eval x = .slice B m c) (hM : WL w B m c fs) (hm : 0 < m) (h63 : n + m ≤ 1000)
    (h : ∀ A' c' w', WL w' A' (n + m) c' (es ++ fs) → Below w.heap.size w w' → K (a.put o.dst (.slice A' (n + m) c')) w') : o.wp P a w K Q := by
  obtain ⟨b1, o1, rfl, hc1⟩ := hL.2.2.2.1 hn
  obtain ⟨b2, o2, rfl, hc2⟩ := hM.2.2.2.1 hm
  have cel : ∀ (b o : Nat) (l : List WE), (∀ k e, l[k]? = some e → w.cell? ⟨b, o + k * 2, none⟩ = some (.bool e.neg) ∧ w.cell? ⟨b, o + k * 2 + 1, none⟩ = some (.slice e.A e.n e.c)) → ∀ j u, (cellsL l)[j]? = some u → w.cell? ((⟨b, o, none⟩ : Addr).add j) = some u := by
    intro b o l hl j u hu
    have hj : j < (cellsL l).length := by
      rcases Nat.lt_or_ge j (cellsL l).length with h' | h'
      · exact h'
      · rw [List.getElem?_eq_none h'] at hu; cases hu
    rw [cellsL_length] at hj
    have hk : j / 2 < l.length := by omega
    have he := List.getElem?_eq_getElem hk
    have h1 := hl _ _ he
    have h2 := cellsL_get he
    rw [add_lit]
    rcases Nat.mod_two_eq_zero_or_one j with h3 | h3
    · rw [show j / 2 * 2 = j by omega] at h1 h2
      rw [h2.1] at hu; injection hu with hu; subst hu; exact h1.1
    · rw [show j / 2 * 2 + 1 = j by omega] at h2
      rw [h2.2] at hu; injection hu with hu; subst hu
      rw [show o + j = o + j / 2 * 2 + 1 by omega]; exact h1.2
  obtain ⟨v', w', hrun, hown, hg⟩ := run_append_arg_grows (P := P) w t o.type e i _ 2 32 ht hi hz hsi hby rfl (by omega) ⟨b1, o1, none⟩ n n (cellsL es) (by rw [cellsL_length, hL.1]) (cel _ _ _ hc1) ⟨b2, o2, none⟩ m c (cellsL fs) (by rw [cellsL_length, hM.1]) (cel _ _ _ hc2) (by omega) (by unfold maxLen; omega) (by omega)
  have hb : Below w.heap.size w w' := (Below.refl w.heap.size w).grown hg (Nat.le_refl _) (fun k hk => by cases hk)
  unfold Oper.wp execOp
  simp only [ho, resolve, invoke, builtin, Sem.run_bind, Sem.run_pure, Result.andThen_ok, List.map_toArray, List.map_cons, List.map_nil, hs, hx, hrun]
  obtain ⟨hlen, hown⟩ := hown
  rcases hown with ⟨rfl, h0⟩ | ⟨g, cap, cur, rfl, hge, hheap, hcn, hcm, hcs, htk⟩
  · omega
  · refine h _ _ _ ⟨by rw [List.length_append, hL.1, hM.1], hcn, hcm, fun _ => ⟨_, _, rfl, fun k e he => ?_⟩, fun e he => ?_⟩ hb
    · have h2 := cellsL_get he
      rw [cellsL_append] at h2
      have hcell : ∀ j u, (cellsL es ++ cellsL fs)[j]? = some u → w'.cell? ⟨g, j, none⟩ = some u := fun j u hu => by
        rw [cell_of_row w' g j cur _ (0, 0) hheap]
        rw [← htk] at hu
        rw [List.getElem?_take] at hu
        split at hu
        · simpa using hu
        · cases hu
      rw [Nat.zero_add]
      exact ⟨hcell _ _ h2.1, hcell _ _ h2.2⟩
    · rcases List.mem_append.1 he with he | he
      · exact (hL.2.2.2.2 e he).below hb
      · exact (hM.2.2.2.2 e he).below hb
end Go.Proofs.YtljocgdhdilglaaGreat

namespace Go.Proofs.YtljocgdhdilglaaGreat
open Go.RowKit

theorem ResPoly.bad {w w' : World} {xs : List Int} {e : Ending} (h : ResPoly w xs e w') (hk : okP (trimP xs) = false) : Below w.heap.size w w' ∧ ∃ A, e = .returned (.tuple #[.slice A 0 0, .int .i64 16]) := by
  obtain ⟨h1, A, n, c, code, rfl, h2⟩ := h
  rcases h2 with ⟨h3, -⟩ | ⟨-, rfl, rfl, rfl⟩
  · rw [hk] at h3; cases h3
  · exact ⟨h1, A, rfl⟩
section
variable (A B : Option Addr) (n c m d : Nat) (xs ys : List Int) (w : World)
theorem Mul_range (hp : PolyL w A n c xs) (hq : PolyL w B m d ys) (k1 : okP xs = true) (e1 : endOkP xs = true) (k2 : okP ys = true) (e2 : endOkP ys = true) (hk : okP (trimP (mulP xs ys)) = false) :
    Calls Tryz.prog 18 #[.slice A n c, .slice B m d] w fun e w' => Below w.heap.size w w' ∧ ∃ A, e = .returned (.tuple #[.slice A 0 0, .int .i64 16]) := by
  obtain ⟨es, h1, rfl, h3⟩ := pl_ok hp k1 e1
  obtain ⟨fs, g1, rfl, g3⟩ := pl_ok hq k2 e2
  exact (pMul_ok A B n c m d es fs w h1 g1 h3 g3).mono fun e w' h => h.bad hk
theorem Add_range (es : List WE) (hp : WL w A n c es) (hq : PolyL w B m d ys) (kp : pOk es = true) (k2 : okP ys = true) (e2 : endOkP ys = true) (hk : okP (trimP (joinP (fun a b => a + b) (es.map WE.num) ys)) = false) :
    Calls Tryz.prog 21 #[.slice A n c, .slice B m d] w fun e w' => Below w.heap.size w w' ∧ ∃ A, e = .returned (.tuple #[.slice A 0 0, .int .i64 16]) := by
  obtain ⟨fs, g1, rfl, g3⟩ := pl_ok hq k2 e2
  exact (pAdd_ok A B n c m d es fs w hp g1 kp g3).mono fun e w' h => h.bad hk
theorem Sign_pl (na nb : Bool) (X Y : Option Addr) (nx cx ny cy : Nat) (r : Rat) (hp : PolyL w A n c xs) (k1 : okP xs = true) (e1 : endOkP xs = true) (hx : Fr w na X nx cx nb Y ny cy r) (h1 : nx ≤ 64) (h2 : ny ≤ 64) (v : Int) (hv : cmpZ (aboveS r.num (r.den : Nat) xs) 0 = v) :
    Calls Tryz.prog 14 #[.slice A n c, .agg #[.bool na, .slice X nx cx, .bool nb, .slice Y ny cy]] w fun e w' => e = .returned (.tuple #[.int .i64 v, .int .i64 0]) ∧ Below w.heap.size w w' := by
  obtain ⟨es, g1, rfl, g3⟩ := pl_ok hp k1 e1
  subst hv
  exact Sign_ok A n c es na nb X Y nx cx ny cy r w g1 g3 hx h1 h2
theorem Primitive_pl (zs : List Int) (hp : PolyL w A n c xs) (k1 : okP xs = true) (e1 : endOkP xs = true) (hz : trimP (partP xs) = zs) (hk : okP zs = true) :
    Calls Tryz.prog 19 #[.slice A n c] w fun e w' => Below w.heap.size w w' ∧ ∃ A n c, e = .returned (.tuple #[.slice A n c, .int .i64 0]) ∧ PolyL w' A n c zs := by
  obtain ⟨es, g1, rfl, g3⟩ := pl_ok hp k1 e1
  exact (Primitive_ok A n c es w g1 g3).mono fun e w' h => by
    have := h.small (by rw [hz]; exact hk)
    unfold PolyE at this
    rw [hz] at this
    exact this
theorem Content_pl (z : Int) (hp : PolyL w A n c xs) (k1 : okP xs = true) (e1 : endOkP xs = true) (hz : contP xs = z) (hs : z.natAbs < pw 4096) :
    Calls Tryz.prog 32 #[.slice A n c] w fun e w' => Below w.heap.size w w' ∧ ∃ neg A n c, e = .returned (.tuple #[.agg #[.bool neg, .slice A n c], .int .i64 0]) ∧ Wd w' neg A n c z := by
  obtain ⟨es, g1, rfl, g3⟩ := pl_ok hp k1 e1
  subst hz
  exact (Content_ok A n c es w g1 g3).mono fun e w' h => by
    obtain ⟨h1, neg, A, n, c, code, rfl, h2⟩ := h
    obtain rfl := h2.code0 hs
    exact ⟨h1, neg, A, n, c, rfl, h2.small hs⟩
theorem Gcd_pl (zs : List Int) (hp : PolyL w A n c xs) (hq : PolyL w B m d ys) (k1 : okP xs = true) (e1 : endOkP xs = true) (k2 : okP ys = true) (e2 : endOkP ys = true) (hok : okCom ((partP ys).length + 1) (partP xs) (partP ys) = true) (hz : trimP (comP xs ys) = zs) (hk : okP zs = true) :
    Calls Tryz.prog 16 #[.slice A n c, .slice B m d] w fun e w' => Below w.heap.size w w' ∧ ∃ A n c, e = .returned (.tuple #[.slice A n c, .int .i64 0]) ∧ PolyL w' A n c zs := by
  obtain ⟨es, g1, rfl, g3⟩ := pl_ok hp k1 e1
  obtain ⟨fs, g4, rfl, g6⟩ := pl_ok hq k2 e2
  exact (pGcd_ok divide_ok A B n c m d es fs w g1 g4 g3 g6 hok).mono fun e w' h => by
    have := h.small (by rw [hz]; exact hk)
    unfold PolyE at this
    rw [hz] at this
    exact this
theorem Free_pl (zs : List Int) (hp : PolyL w A n c xs) (k1 : okP xs = true) (e1 : endOkP xs = true) (h0 : 0 < xs.length) (sd : (derP xs).length = 0 ∨ signP (derP xs) ≠ 0)
    (hok : okCom ((partP (derP xs)).length + 1) (partP xs) (partP (derP xs)) = true) (hok2 : okDivP xs (comP xs (derP xs)) = true) (hz : trimP (freeP xs) = zs) (hk : okP zs = true) :
    Calls Tryz.prog 12 #[.slice A n c] w fun e w' => Below w.heap.size w w' ∧ ∃ A n c, e = .returned (.tuple #[.slice A n c, .int .i64 0]) ∧ PolyL w' A n c zs := by
  have hl := hp.len
  obtain ⟨es, g1, rfl, g3⟩ := pl_ok hp k1 e1
  exact (pFree_ok divide_ok A n c es w g1 g3 (by omega) sd hok hok2).mono fun e w' h => by
    have := h.small (by rw [hz]; exact hk)
    unfold PolyE at this
    rw [hz] at this
    exact this
end
/-- What a region of PolyNames has yielded. -/
def names14 (gt : Nat) (i : Nat) (v : Value) (w : World) : Prop :=
  match i with
  | 1 => ∃ g, v = .slice (some ⟨g, 0, none⟩) 1 1 ∧ Blk w g 25 #[.bool false, .slice (some ⟨gt, 0, none⟩) 40 40]
  | 2 => ∃ g, v = .slice (some ⟨g, 0, none⟩) 1 1 ∧ Blk w g 2 #[.int .i64 1]
  | 3 => ∃ A n c, v = .slice A n c ∧ PolyL w A n c [1]
  | _ => True
theorem top_ok : pOk [⟨false, none, 40, 40, List.replicate 40 4294967295⟩] = true := by decide +kernel
theorem top_big : okP (trimP (joinP (fun a b => a + b) [val (List.replicate 40 4294967295)] [1])) = false := by decide +kernel
theorem far_ok : okF false ((List.replicate 65 0).set 64 1) false [1] = true := by decide +kernel
end Go.Proofs.YtljocgdhdilglaaGreat
