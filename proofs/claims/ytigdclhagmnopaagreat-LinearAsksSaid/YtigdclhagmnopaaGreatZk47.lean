/- How great the numbers of the elimination become. Rank and Posdef of a calm matrix, by the program and by the reference; the law LinearAsks. Arguments opened: a slice of numbers, as the reading finds it, is a list of numbers in memory. Arguments opened: a fraction. Arguments opened: a row of fractions, a matrix of fractions. -/
import Derived.ProofKit
import Derived.Deep.Slices
import Derived.Deep.Fields
import Derived.ChangeSame
import Derived.Test.YtigdclhagmnopaaGreatProg
import Derived.Test.YtigdclhagmnopaaGreatZk46
import Derived.Test.YtigdclhagmnopaaGreatZa25
import Derived.Test.YtigdclhagmnopaaGreatZa01
import Derived.Test.YtigdclhagmnopaaGreatZa23
set_option linter.unusedSimpArgs false
set_option linter.unusedVariables false

namespace Go.Proofs.YtigdclhagmnopaaGreat

theorem okZ_mono {C C' m : Nat} (hC : C ≤ C') : ∀ (f c r : Nat) (Z : List (List Int)) (la : Int), okZ C m f c r Z la → okZ C' m f c r Z la
 | 0, _, _, _, _, h => ⟨⟨h.1.1, fun i j => Nat.lt_of_lt_of_le (h.1.2 i j) hC⟩, h.2.1, Nat.lt_of_lt_of_le h.2.2 hC⟩
 | f + 1, _, _, _, _, h => ⟨⟨h.1.1, fun i j => Nat.lt_of_lt_of_le (h.1.2 i j) hC⟩, ⟨h.2.1.1, Nat.lt_of_lt_of_le h.2.1.2 hC⟩, h.2.2.imp id (fun ⟨h1, h2⟩ => ⟨fun e => okZ_mono hC f _ _ _ _ (h1 e), fun e => okZ_mono hC f _ _ _ _ (h2 e)⟩)⟩
theorem pw_pow (k n : Nat) : pw k ^ n = pw (k * n) := by
 induction n with
 | zero => rfl
 | succ n ih => rw [Nat.pow_succ, ih, Nat.mul_succ, pw_add]
theorem le_pw1 {n : Nat} (h : n ≤ 900) : n ≤ pw 1 := by rw [pw_succ, pw_zero]; omega
theorem bndD_pw {b : Nat} : ∀ n, n ≤ 900 → bndD (pw b) n ≤ pw ((b + 1) * n)
 | 0, _ => Nat.le_refl _
 | n + 1, h => by
  have h1 := bndD_pw (b := b) n (by omega)
  have h2 : (n + 1) * (pw b * bndD (pw b) n) ≤ pw 1 * (pw b * pw ((b + 1) * n)) := Nat.mul_le_mul (le_pw1 h) (Nat.mul_le_mul (Nat.le_refl _) h1)
  rw [← pw_add, ← pw_add] at h2
  rw [show (b + 1) * (n + 1) = 1 + (b + (b + 1) * n) by rw [Nat.mul_succ]; omega]
  exact h2

/-- The numbers of a matrix are at most pw k. -/
def SmE (k : Nat) (Q : List (List Rat)) : Prop := ∀ i j, (entR Q i j).num.natAbs ≤ pw k ∧ (entR Q i j).den ≤ pw k
section
variable {k n m : Nat} {Q : List (List Rat)}
theorem SmE.denTo (h : SmE k Q) (i t : Nat) : denTo (Q[i]?.getD []) t ≤ pw (k * t) := by
 rw [← pw_pow]; exact denTo_le _ (fun j => (h i j).2) t
theorem SmE.denAt (h : SmE k Q) {i : Nat} (hr : (Q[i]?.getD []).length = m) : denAt Q i ≤ pw (k * m) := by
 have := h.denTo i m
 unfold Go.Proofs.YtigdclhagmnopaaGreat.denAt
 rw [hr]; exact this
theorem whole_natAbs {z : Int} {d : Nat} {q : Rat} (h : (z : Rat) = (d : Nat) * q) : z.natAbs ≤ d * q.num.natAbs := by
 have h1 : (z : Rat) * ((q.den : Nat) : Rat) = ((d : Nat) : Rat) * ((q.num : Int) : Rat) := by
  have e0 : ((q.num : Int) : Rat) / ((q.den : Nat) : Rat) = q := by have := Rat.num_divInt_den q; rw [Rat.divInt_eq_div, Rat.intCast_natCast] at this; exact this
  have e1 : ((q.den : Nat) : Rat) ≠ 0 := by
   intro h; have : q.den = 0 := by exact_mod_cast h
   have := q.den_pos; omega
  have e2 : ((q.num : Int) : Rat) = q * ((q.den : Nat) : Rat) := by
   have : ((q.num : Int) : Rat) / ((q.den : Nat) : Rat) * ((q.den : Nat) : Rat) = ((q.num : Int) : Rat) := by grind
   rw [e0] at this; exact this.symm
  rw [h, e2]; grind
 have h2 : z * (q.den : Int) = (d : Int) * q.num := by exact_mod_cast h1
 have h3 := congrArg Int.natAbs h2
 rw [Int.natAbs_mul, Int.natAbs_mul, Int.natAbs_natCast, Int.natAbs_natCast] at h3
 rw [← h3]
 exact Nat.le_mul_of_pos_right _ q.den_pos
theorem SmE.whole (h : SmE k Q) {i : Nat} (hr : (Q[i]?.getD []).length = m) (j : Nat) : (entZ (wholeZ Q) i j).natAbs ≤ pw (k * m + k) := by
 refine Nat.le_trans (whole_natAbs (entZ_whole Q i j)) ?_
 rw [pw_add]
 exact Nat.mul_le_mul (h.denAt hr) (h i j).1
theorem SmE.byZ (h : SmE k Q) (hrow : ∀ i, i < n → (Q[i]?.getD []).length = m) : ∀ t, t ≤ n → byZ Q t ≤ pw (k * m * t)
 | 0, _ => Nat.le_refl _
 | t + 1, ht => by
  have h1 := SmE.byZ h hrow t (by omega)
  have h2 := h.denAt (hrow t (by omega))
  rw [Nat.mul_succ, pw_add]
  exact Nat.mul_le_mul h1 h2
/-- The ranks agree, and all stays small. -/
theorem SmE.rank (h : SmE k Q) (hl : Q.length = n) (hn : n ≤ 900) (hrow : ∀ i, i < n → (Q[i]?.getD []).length = m) (h1 : (k * m + k + 1) * n + k * m < 189) (h2 : k < 189) :
    okZ (pw 200) m m 0 0 (wholeZ Q) 1 ∧ okR (pw 190) (pw 190) m m 0 0 Q ∧ rankZ Q m = rankR Q m ∧ FineM Q n m := by
 obtain ⟨o1, o2, o3⟩ := rank_side (B := pw (k * m + k)) (S := pw (k * m)) (pw_pos _) (pw_pos _) Q hl hrow (fun i hi => h.denAt (hrow i hi)) (fun i j hi => h.whole (hrow i hi) j) (Nat.le_refl m)
 have hb := bndD_pw (b := k * m + k) n hn
 have hp : bndD (pw (k * m + k)) n < pw 190 := Nat.lt_of_le_of_lt hb (pw_lt (by omega))
 have hp2 : bndD (pw (k * m + k)) n * pw (k * m) < pw 190 := by
  refine Nat.lt_of_le_of_lt (Nat.mul_le_mul hb (Nat.le_refl _)) ?_
  rw [← pw_add]; exact pw_lt (by omega)
 refine ⟨okZ_mono (Nat.le_trans hp (pw_le (by decide))) _ _ _ _ _ o1, okR_mono hp hp2 _ _ _ _ o2, o3, fun i t hi ht => ?_, fun i j => ?_⟩
 · refine Nat.lt_of_le_of_lt (h.denTo i t) (pw_lt ?_)
   have : k * t ≤ k * m := Nat.mul_le_mul (Nat.le_refl _) ht
   omega
 · exact Nat.lt_of_le_of_lt (h i j).1 (pw_lt (by omega))
theorem SmE.det (h : SmE k Q) (hl : Q.length = n) (hn : n ≤ 900) (hrow : ∀ i, i < n → (Q[i]?.getD []).length = n) (h1 : (k * n + k + 1) * n + k * n < 189) (h2 : k < 189) (h3 : k * n * n < 4096) :
    GoodD Q n ∧ okR (pw 190) (pw 190) n n 0 0 Q ∧ detR Q = detM n (entR Q) := by
 obtain ⟨o1, o2, o3, o4⟩ := h.rank hl hn hrow h1 h2
 obtain ⟨d1, d2, d3⟩ := det_side (B := pw (k * n + k)) (S := pw (k * n)) (pw_pos _) (pw_pos _) Q hl hrow (fun i hi => h.denAt (hrow i hi)) (fun i j hi => h.whole (hrow i hi) j)
 have hb := bndD_pw (b := k * n + k) n hn
 refine ⟨⟨o1, o4, fun t ht => ?_, Nat.lt_of_le_of_lt (Nat.le_trans d3 hb) (pw_lt (by omega)), d1⟩, o2, d2⟩
 refine Nat.lt_of_le_of_lt (h.byZ hrow t ht) (pw_lt ?_)
 have : k * n * t ≤ k * n * n := Nat.mul_le_mul (Nat.le_refl _) ht
 omega
theorem entR_sub {j i t : Nat} : entR (subM Q j) i t = if i < j ∧ t < j then entR Q i t else 0 := by
 unfold entR subM
 rw [List.getElem?_map, List.getElem?_take]
 by_cases hi : i < j
 · rw [if_pos hi]
   cases hq : Q[i]? with
   | none => simp
   | some r =>
    simp only [Option.map_some, Option.getD_some, List.getElem?_take]
    by_cases ht : t < j
    · rw [if_pos ht, if_pos ⟨hi, ht⟩]
    · rw [if_neg ht, if_neg (by omega)]; rfl
 · rw [if_neg hi, if_neg (by omega)]; rfl
theorem SmE.sub (h : SmE k Q) (j : Nat) : SmE k (subM Q j) := fun i t => by
 rw [entR_sub]
 split
 · exact h i t
 · exact ⟨Nat.zero_le _, pw_pos _⟩
end
end Go.Proofs.YtigdclhagmnopaaGreat

namespace Go.Proofs.YtigdclhagmnopaaGreat
open Go.RowKit
attribute [local go_sem] add_lit

theorem Fr.num_lt {w : World} {na : Bool} {A : Option Addr} {n c : Nat} {nb : Bool} {B : Option Addr} {m d : Nat} {r : Rat} (h : Fr w na A n c nb B m d r) : r.num.natAbs < pw n ∧ r.den < pw m := by
 have h1 := h.1.2.2.1
 have h2 := h.2.2.2.1
 rw [Int.natAbs_natCast] at h2
 exact ⟨(length_digits_le _ _).1 (Nat.le_of_eq h1), (length_digits_le _ _).1 (Nat.le_of_eq h2)⟩
theorem calm_small {w : World} {A : Option Addr} {n c : Nat} {rs : List RX} (h : MXL w A n c rs) (hE : matE rs = 0) (hc : calmM rs) : n ≤ 5 ∧ n0R rs ≤ 5 ∧ SmE 2 (qM rs) := by
 obtain ⟨f1, f2, f3, f4, f5⟩ := matE_facts hE
 have hl := h.1
 have hn5 : n ≤ 5 := by have := hc.1; omega
 obtain ⟨g, o, r0, -, he0, -, -, hr0⟩ := h.gat hE (k := 0) (by omega)
 refine ⟨hn5, ?_, fun i j => ?_⟩
 · have := (hc.2 0 r0 (by omega) he0).1
   omega
 · unfold entR qM
   rw [List.getElem?_map]
   cases hr : rs[i]? with
   | none => exact ⟨Nat.zero_le _, pw_pos _⟩
   | some r =>
    simp only [Option.map_some, Option.getD_some, List.getElem?_map]
    cases he : r.es[j]? with
    | none => exact ⟨Nat.zero_le _, pw_pos _⟩
    | some e =>
     simp only [Option.map_some, Option.getD_some]
     have hrm := List.mem_of_getElem? hr
     have hem := List.mem_of_getElem? he
     have hi := (List.getElem?_eq_some_iff.1 hr).1
     have hF := h.2.2.2.1 r hrm
     have hin := hF.2.2.2.1 e hem
     have hla := (hc.2 i r (by omega) hr).2 e hem
     have hv := (f5 r hrm).2
     unfold vecOk at hv
     rw [List.all_eq_true] at hv
     have hfi := hv e hem
     unfold FX.fine at hfi
     rw [Bool.and_eq_true, decide_eq_true_eq] at hfi
     have hfew : e.few ≤ 2 := by
      refine Classical.byContradiction fun hx => ?_
      unfold largeN at hla
      rw [decide_eq_true (by omega : 2 < e.few), decide_eq_true hfi.1] at hla
      cases hla
     unfold FX.few at hfew
     have hfr := (raw_fr hin.1 hin.2 hfi.2).num_lt
     exact ⟨Nat.le_trans (Nat.le_of_lt hfr.1) (pw_le (by omega)), Nat.le_trans (Nat.le_of_lt hfr.2) (pw_le (by omega))⟩

/-- The rank, or 0 where there is none. -/
def rkV (rs : List RX) : Nat := if matE rs = 0 then rankR (qM rs) (n0R rs) else 0
def pdV (rs : List RX) : Bool := if sqE rs = 0 then pdB (qM rs) else false
section
variable {A : Option Addr} {n c : Nat} {rs : List RX} {w : World}
theorem calm_rank (h : MXL w A n c rs) (hE : matE rs = 0) (hc : calmM rs) : okZ (pw 200) (n0R rs) (n0R rs) 0 0 (wholeZ (qM rs)) 1 ∧ okR (pw 200) (pw 200) (n0R rs) (n0R rs) 0 0 (qM rs) ∧ rankZ (qM rs) (n0R rs) = rankR (qM rs) (n0R rs) ∧ FineM (qM rs) n (n0R rs) := by
 obtain ⟨a1, a2, a3⟩ := calm_small h hE hc
 have hb : (2 * n0R rs + 2 + 1) * n ≤ 13 * 5 := Nat.mul_le_mul (by omega) a1
 obtain ⟨o1, o2, o3, o4⟩ := a3.rank (qM_len h) (by omega) (qM_row h hE) (by omega) (by decide)
 exact ⟨o1, okR_mono (pw_le (by decide)) (pw_le (by decide)) _ _ _ _ o2, o3, o4⟩
theorem calm_det (h : MXL w A n c rs) (hE : sqE rs = 0) (hc : calmM rs) {j : Nat} (hj : j < n) : GoodD (subM (qM rs) (j + 1)) (j + 1) ∧ okR (pw 190) (pw 190) (j + 1) (j + 1) 0 0 (subM (qM rs) (j + 1)) := by
 obtain ⟨hE1, hE2⟩ := sqE_facts hE
 obtain ⟨a1, a2, a3⟩ := calm_small h hE1 hc
 have hl := h.1
 have hq := qM_len h
 have hb : (2 * (j + 1) + 2 + 1) * (j + 1) ≤ 13 * 5 := Nat.mul_le_mul (by omega) (by omega)
 have hb2 : 2 * (j + 1) * (j + 1) ≤ 10 * 5 := Nat.mul_le_mul (by omega) (by omega)
 have := (a3.sub (j + 1)).det (subM_len (by omega)) (by omega) (fun i hi => by
  rw [subM_row hi (by omega), List.length_take, qM_row h hE1 i (by omega)]; omega) (by omega) (by decide) (by omega)
 exact ⟨this.1, this.2.1⟩
theorem lRank_calm (h : MXL w A n c rs) (hc : calmM rs) : Calls Tryz.prog 11 #[.slice A n c] w fun e w' => e = .returned (.tuple #[.int .i64 (rkV rs : Nat), .int .i64 (matE rs)]) ∧ Below w.heap.size w w' := by
 unfold rkV
 by_cases hE : matE rs = 0
 · rw [if_pos hE]
   obtain ⟨o1, o2, o3, o4⟩ := calm_rank h hE hc
   rw [← o3, hE]
   exact lRank_good A n c rs w h hE o1 o4
 · rw [if_neg hE]
   exact lRank_bad A n c rs w h _ rfl hE
theorem rRank_calm (h : MXL w A n c rs) (hc : calmM rs) : Calls Tryz.prog 12 #[.slice A n c] w fun e w' => e = .returned (.tuple #[.int .i64 (rkV rs : Nat), .int .i64 (matE rs)]) ∧ Below w.heap.size w w' := by
 unfold rkV
 by_cases hE : matE rs = 0
 · rw [if_pos hE]
   obtain ⟨o1, o2, o3, o4⟩ := calm_rank h hE hc
   rw [hE]
   exact rRank_good A n c rs w h hE o2
 · rw [if_neg hE]
   exact rRank_bad A n c rs w h _ rfl hE
theorem lPosdef_calm (h : MXL w A n c rs) (hc : calmM rs) : Calls Tryz.prog 13 #[.slice A n c] w fun e w' => e = .returned (.tuple #[.bool (pdV rs), .int .i64 (sqE rs)]) ∧ Below w.heap.size w w' := by
 unfold pdV
 by_cases hE : sqE rs = 0
 · rw [if_pos hE]
   have hE1 := (sqE_facts hE).1
   obtain ⟨a1, a2, a3⟩ := calm_small h hE1 hc
   have := lPosdef_good A n c rs w h hE (by omega) (fun j hj => (calm_det h hE hc hj).1) (fun i j => SmN.sm (i := 3) (j := 3) ⟨Nat.lt_of_le_of_lt (a3 i j).1 (pw_lt (by decide)), Nat.lt_of_le_of_lt (a3 i j).2 (pw_lt (by decide))⟩ (by decide) (by decide))
   rw [hE]; exact this
 · rw [if_neg hE]
   exact lPosdef_bad A n c rs w h _ rfl hE
theorem rPosdef_calm (h : MXL w A n c rs) (hc : calmM rs) : Calls Tryz.prog 14 #[.slice A n c] w fun e w' => e = .returned (.tuple #[.bool (pdV rs), .int .i64 (sqE rs)]) ∧ Below w.heap.size w w' := by
 unfold pdV
 by_cases hE : sqE rs = 0
 · rw [if_pos hE]
   have hE1 := (sqE_facts hE).1
   obtain ⟨a1, a2, a3⟩ := calm_small h hE1 hc
   have := rPosdef_good A n c rs w h hE a1 (fun j hj => (calm_det h hE hc hj).2)
   rw [hE]; exact this
 · rw [if_neg hE]
   exact rPosdef_bad A n c rs w h _ rfl hE
end

set_option maxRecDepth 100000 in
set_option maxHeartbeats 2000000 in
theorem law_asks (A : Option Addr) (n c : Nat) (rs : List RX) (w : World) (h : MXL w A n c rs) :
    Calls Tryz.prog 3 #[.slice A n c] w fun e w' => e = .returned (.bool true) ∧ Below w.heap.size w w' := by
 go_enter Tryz.func3, Tryz.ntmps3
 go_wp2_with fail
 refine (rGreat_any A n c rs w h).mono ?_
 rintro e w1 ⟨b, rfl, hb1, hcb⟩
 cases b with
 | true =>
  clear hcb
  go_wp2_with fail
  go_ret
  exact ⟨rfl, hb1⟩
 | false =>
  have hc := hcb rfl
  clear hcb
  obtain ⟨k, hk⟩ : ∃ k, rkV rs = k := ⟨_, rfl⟩
  obtain ⟨E, hE⟩ : ∃ E, matE rs = E := ⟨_, rfl⟩
  obtain ⟨S, hS⟩ : ∃ S, sqE rs = S := ⟨_, rfl⟩
  obtain ⟨d, hd⟩ : ∃ d, pdV rs = d := ⟨_, rfl⟩
  have c1 := fun (W : World) (hb : Below w.heap.size w W) => lRank_calm (h.below hb) hc
  have c2 := fun (W : World) (hb : Below w.heap.size w W) => rRank_calm (h.below hb) hc
  have c3 := fun (W : World) (hb : Below w.heap.size w W) => lPosdef_calm (h.below hb) hc
  have c4 := fun (W : World) (hb : Below w.heap.size w W) => rPosdef_calm (h.below hb) hc
  simp only [hk, hE] at c1 c2
  simp only [hd, hS] at c3 c4
  replace c1 := hide c1
  replace c2 := hide c2
  replace c3 := hide c3
  replace c4 := hide c4
  clear hk hE hS hd h hc
  go_wp2_with fail
  refine (c1.out _ hb1).mono ?_
  rintro e w2 ⟨rfl, hb2⟩
  have hB2 := hb1.trans (hb2.mono hb1.size)
  go_wp2_with fail
  refine (c2.out _ hB2).mono ?_
  rintro e w3 ⟨rfl, hb3⟩
  have hB3 := hB2.trans (hb3.mono hB2.size)
  go_wp2_with fail
  refine (c3.out _ hB3).mono ?_
  rintro e w4 ⟨rfl, hb4⟩
  have hB4 := hB3.trans (hb4.mono hB3.size)
  go_wp2_with fail
  refine (c4.out _ hB4).mono ?_
  rintro e w5 ⟨rfl, hb5⟩
  have hB5 := hB4.trans (hb5.mono hB4.size)
  go_wp2_with fail
  go_ret
  exact ⟨by simp, hB5⟩
end Go.Proofs.YtigdclhagmnopaaGreat

namespace Go.Proofs.YtigdclhagmnopaaGreat
open Go.ChangeShapes Go.WideShapes Go.Deep Go.RowKit

section
variable {H : Type} {enc : TypeId × Value → H} {P : Program} {w : World} {base : Nat} {spare : Nat → Bool} {held : Bool}
end

section
variable {H : Type} {enc : TypeId × Value → H} {P : Program}
theorem post_of_below {f : Func} {s : ChangeSpec} {apart fresh handsOn again : Bool} {W W' : World} {args : Array Value} {v : Value} {ds gs : List (DataW H)} {before pa pv : List MemPlace}
    (hW : DataW.Whole enc P f.params.toList s.vars apart W args.toList ds gs before)
    (hres : ∀ (b : Nat) (sp : Nat → Bool) (hd : Bool), DataW.TrodAll enc P W' b sp hd f.resultTypes.toList (v.resultList f.resultTypes.size) (s.fn H (ds ++ gs)).results [])
    (hargs : ∀ sp : Nat → Bool, (∀ p ∈ before, sp p.block = true) → DataW.TrodAll enc P W' 0 sp true f.params.toList args.toList (s.fn H (ds ++ gs)).args pa)
    (hvars : ∀ sp : Nat → Bool, (∀ p ∈ before, sp p.block = true) → DataW.TrodVars enc P W' sp s.vars (s.fn H (ds ++ gs)).vars pv)
    (hps : before = pa ++ pv) (hb : Below W.heap.size W W')
    (hok : ∀ (j : Nat) (t : TypeId) (r : Value), f.resultTypes[j]? = some t → (v.resultList f.resultTypes.size)[j]? = some r → Value.okWide P W' .any 0 t r) :
    s.post enc P f apart fresh handsOn again W args v W' := by
 have hlt : ∀ p ∈ before, p.block < W.heap.size := fun p hp => hW.lt p hp
 have hold : ∀ p ∈ before, (fun b => decide (b < W.heap.size)) p.block = true := fun p hp => by simpa using hlt p hp
 refine ⟨ds, gs, before, [], pa, pv, hW, hres _ _ _, hargs _ hold, hvars _ hold, World.keptBut_mono (fun p hp => ⟨hp, ?_⟩) (hb.frame (· ∈ before)), fun _ => ?_⟩
 · rw [hps, List.mem_append] at hp
   exact Or.inr hp
 · obtain ⟨_, _, _, _, _, hz, hn⟩ := hW
   refine ⟨hok, _, _, ([] ++ pa) ++ pv, ⟨[] ++ pa, pv, trodAll_append (hargs _ (fun _ _ => rfl)) (hres _ _ _), hvars _ (fun _ _ => rfl), rfl, ?_, ?_⟩, ?_⟩
   · intro b off hp
     have hin : MemPlace.cell b off ∈ before := by rw [hps]; simpa using hp
     rw [hb.frozen (hlt _ hin)]
     exact hz b off hin
   · intro ha
     have := hn ha
     rw [hps] at this
     simpa using this
   · intro p hp _
     rw [hps]
     simpa using hp
end

theorem list_of {α : Type} (P : Nat → α → Prop) (n : Nat) (h : ∀ i, i < n → ∃ e, P i e) : ∃ es : List α, es.length = n ∧ ∀ (k : Nat) (e : α), es[k]? = some e → P k e := by
 induction n with
 | zero => exact ⟨[], rfl, fun k e h => by simp at h⟩
 | succ n ih =>
  obtain ⟨es, h1, h2⟩ := ih fun i hi => h i (by omega)
  obtain ⟨e, he⟩ := h n (by omega)
  refine ⟨es ++ [e], by simp [h1], fun k e' hk => ?_⟩
  rcases Nat.lt_or_ge k es.length with hlt | hge
  · rw [List.getElem?_append_left hlt] at hk; exact h2 k e' hk
  · rw [List.getElem?_append_right hge] at hk
    rcases Nat.eq_or_lt_of_le hge with h0 | h0
    · rw [show k - es.length = 0 by omega] at hk
      simp at hk
      subst hk
      rw [← h0, h1]; exact he
    · rw [List.getElem?_eq_none (by simp; omega)] at hk
      cases hk

theorem plain_cell {w : World} {a : Addr} {v : Value} (h : w.cell? a = some v) : a = ⟨a.block, a.off, none⟩ := by
 obtain ⟨b, o, s⟩ := a
 cases s with
 | none => rfl
 | some s =>
  exfalso
  unfold World.cell? at h
  simp at h
  split at h <;> simp at h

section
variable {H : Type} {enc : TypeId × Value → H} {w : World} {base : Nat} {spare : Nat → Bool} {held : Bool}

end
end Go.Proofs.YtigdclhagmnopaaGreat

namespace Go.Proofs.YtigdclhagmnopaaGreat
open Go.ChangeShapes Go.WideShapes Go.Deep Go.RowKit

theorem wf_u32' {z : Int} (h : (Lit.int .u32 z).wf = true) : 0 ≤ z ∧ z ≤ 4294967295 := by
 simp only [Lit.wf, Bool.and_eq_true, decide_eq_true_eq] at h
 exact h

section
variable {H : Type} {enc : TypeId × Value → H} {w : World} {base : Nat} {spare : Nat → Bool} {held : Bool}

theorem open_mag' {fuel : Nat} {cs : List Value} {x : DataW H × List MemPlace} (h : DataW.trod enc Tryz.prog w base spare held fuel 41 cs = some x) : ∃ (A : Option Addr) (n c : Nat) (l : List Nat), cs = [.slice A n c] ∧ Lim w A n c l := by
 rcases open_ints Tryz.underlying41 Tryz.underlying84 (by kernel_rfl) h with ⟨rfl, _⟩ | ⟨a, len, cap, zs, rfl, _, hl, hm, hz, _, hcell, hwf⟩
 · exact ⟨none, 0, 0, [], rfl, Lim.nil _ _ _ (Nat.zero_le _)⟩
 · have hlz : len ≤ zs.length := by rw [hz]; split <;> omega
   refine ⟨some a, len, cap, (zs.take len).map Int.toNat, rfl, by simp; omega, hl, hm, fun v hv => ?_, fun hn => ?_⟩
   · obtain ⟨z, hz1, rfl⟩ := List.mem_map.1 hv
     have := wf_u32' (hwf z (List.mem_of_mem_take hz1))
     omega
   · have h0 := hcell 0 (by omega)
     have hp := plain_cell h0
     obtain ⟨b, o, s⟩ : ∃ b o, a = ⟨b, o, none⟩ := by
      obtain ⟨b, o, s⟩ := a
      refine ⟨b, o, ?_⟩
      unfold Addr.add at hp
      split at hp <;> simp_all
     subst s
     refine ⟨b, o, rfl, fun k hk => ?_⟩
     have hc := hcell k (by omega)
     rw [add_lit] at hc
     rw [hc]
     have hkz : k < zs.length := by omega
     have hw := wf_u32' (hwf zs[k] (List.getElem_mem hkz))
     rw [List.getElem?_map, List.getElem?_take, if_pos hk, List.getElem?_eq_getElem hkz, List.getD_eq_getElem?_getD, List.getElem?_eq_getElem hkz]
     simp [limb]
     omega

set_option maxRecDepth 100000 in
theorem open_wideL {fuel : Nat} {cs : List Value} {x : DataW H × List MemPlace} (h : DataW.trod enc Tryz.prog w base spare held fuel 43 cs = some x) : ∃ (na : Bool) (A : Option Addr) (n c : Nat) (l : List Nat), cs = [.bool na, .slice A n c] ∧ Lim w A n c l := by
 obtain ⟨xs, n', _, _, hl, hxl, hfl⟩ := DataW.trod_struct Tryz.underlying43 h
 have c2 : Tryz.prog.cellsOf 43 = 2 := by kernel_rfl
 have c0 : Tryz.prog.cellsOf 4 = 1 := by kernel_rfl
 have c1 : Tryz.prog.cellsOf 41 = 1 := by kernel_rfl
 rw [c2] at hl
 obtain ⟨x, y, rfl⟩ : ∃ x y, cs = [x, y] := by
  match cs, hl with
  | [x, y], _ => exact ⟨x, y, rfl⟩
 have f0 := hfl 0 _ rfl
 have f1 := hfl 1 _ rfl
 simp only [List.getElem_toArray, List.getElem_cons_zero, List.getElem_cons_succ] at f0 f1
 rw [c0] at f0
 rw [c1] at f1
 have g0 : xs[0]? = some (xs[0]'(by rw [hxl]; decide)) := List.getElem?_eq_getElem _
 have g1 : xs[1]? = some (xs[1]'(by rw [hxl]; decide)) := List.getElem?_eq_getElem _
 rw [g0] at f0
 rw [g1] at f1
 obtain ⟨b, e0, _⟩ := DataW.trod_bool Tryz.underlying4 f0
 obtain ⟨A, n, c, l, e1, hL⟩ := open_mag' f1
 simp at e0 e1
 subst e0 e1
 exact ⟨b, A, n, c, l, rfl, hL⟩

set_option maxRecDepth 100000 in
theorem open_fracL {fuel : Nat} {cs : List Value} {x : DataW H × List MemPlace} (h : DataW.trod enc Tryz.prog w base spare held fuel 45 cs = some x) :
    ∃ (na nb : Bool) (A B : Option Addr) (n c m d : Nat) (la lb : List Nat), cs = [.bool na, .slice A n c, .bool nb, .slice B m d] ∧ Lim w A n c la ∧ Lim w B m d lb := by
 obtain ⟨xs, n', _, _, hl, hxl, hfl⟩ := DataW.trod_struct Tryz.underlying45 h
 have c4 : Tryz.prog.cellsOf 45 = 4 := by kernel_rfl
 have c2 : Tryz.prog.cellsOf 43 = 2 := by kernel_rfl
 rw [c4] at hl
 obtain ⟨x, y, z, u, rfl⟩ : ∃ x y z u, cs = [x, y, z, u] := by
  match cs, hl with
  | [x, y, z, u], _ => exact ⟨x, y, z, u, rfl⟩
 have f0 := hfl 0 _ rfl
 have f1 := hfl 1 _ rfl
 simp only [List.getElem_toArray, List.getElem_cons_zero, List.getElem_cons_succ] at f0 f1
 rw [c2] at f0 f1
 have g0 : xs[0]? = some (xs[0]'(by rw [hxl]; decide)) := List.getElem?_eq_getElem _
 have g1 : xs[1]? = some (xs[1]'(by rw [hxl]; decide)) := List.getElem?_eq_getElem _
 rw [g0] at f0
 rw [g1] at f1
 obtain ⟨na, A, n, c, la, e0, h0⟩ := open_wideL f0
 obtain ⟨nb, B, m, d, lb, e1, h1⟩ := open_wideL f1
 simp at e0 e1
 obtain ⟨rfl, rfl⟩ := e0
 obtain ⟨rfl, rfl⟩ := e1
 exact ⟨na, nb, A, B, n, c, m, d, la, lb, rfl, h0, h1⟩

end
end Go.Proofs.YtigdclhagmnopaaGreat

namespace Go.Proofs.YtigdclhagmnopaaGreat
open Go.ChangeShapes Go.WideShapes Go.Deep Go.RowKit

section
variable {H : Type} {enc : TypeId × Value → H} {w : World} {base : Nat} {spare : Nat → Bool} {held : Bool}

set_option maxRecDepth 100000 in
theorem open_fracsL {fuel : Nat} {cs : List Value} {x : DataW H × List MemPlace} (h : DataW.trod enc Tryz.prog w base spare held fuel 40 cs = some x) : ∃ (A : Option Addr) (n c : Nat) (es : List FX), cs = [.slice A n c] ∧ FXL w A n c es := by
 have c4 : Tryz.prog.cellsOf 45 = 4 := by kernel_rfl
 rcases open_slice Tryz.underlying40 h with ⟨hcs, _⟩ | ⟨a, n, c, m, f, D, Pl, hcs, _, hl, hm, hmm, _, hi⟩
 · exact ⟨none, 0, 0, [], hcs, rfl, Nat.le_refl _, Nat.zero_le _, fun e he => (by cases he), fun h => absurd h (by omega)⟩
 · have hlm : n ≤ m := by rw [hmm]; split <;> omega
   rw [c4] at hi
   obtain ⟨es, he1, he2⟩ := list_of (fun i (e : FX) => w.cell? (a.add (i * 4 + 0)) = some (.bool e.na) ∧ w.cell? (a.add (i * 4 + 1)) = some (.slice e.A e.n e.c) ∧ w.cell? (a.add (i * 4 + 2)) = some (.bool e.nb) ∧ w.cell? (a.add (i * 4 + 3)) = some (.slice e.B e.m e.d) ∧ e.in_ w) n (fun i hin => by
    obtain ⟨cs', hc, ht⟩ := hi i (by omega)
    obtain ⟨na, nb, A, B, n1, c1, m1, d1, la, lb, rfl, h1, h2⟩ := open_fracL ht
    obtain ⟨_, _, hat⟩ := World.cells?_some hc
    have g0 := hat 0 (by simp)
    have g1 := hat 1 (by simp)
    have g2 := hat 2 (by simp)
    have g3 := hat 3 (by simp)
    rw [Go.Deep.add_add] at g0 g1 g2 g3
    exact ⟨⟨na, A, n1, c1, la, nb, B, m1, d1, lb⟩, by simpa using g0, by simpa using g1, by simpa using g2, by simpa using g3, h1, h2⟩)
   refine ⟨some a, n, c, es, hcs, he1, hl, hm, fun e he => ?_, fun hn => ?_⟩
   · obtain ⟨k, hk, rfl⟩ := List.getElem_of_mem he
     exact (he2 k _ (List.getElem?_eq_getElem hk)).2.2.2.2
   · obtain ⟨b, o, rfl⟩ : ∃ b o, a = ⟨b, o, none⟩ := by
       have h0 := he2 0 _ (List.getElem?_eq_getElem (by omega))
       have hp := plain_cell h0.1
       obtain ⟨b, o, s⟩ := a
       refine ⟨b, o, ?_⟩
       unfold Addr.add at hp
       split at hp <;> simp_all
     refine ⟨b, o, rfl, fun k e hk => ?_⟩
     have h0 := he2 k e hk
     rw [add_lit, add_lit, add_lit, add_lit] at h0
     exact ⟨h0.1, by rw [Nat.add_assoc]; exact h0.2.1, by rw [Nat.add_assoc]; exact h0.2.2.1, by rw [Nat.add_assoc]; exact h0.2.2.2.1⟩

set_option maxRecDepth 100000 in
theorem open_matL {fuel : Nat} {cs : List Value} {x : DataW H × List MemPlace} (h : DataW.trod enc Tryz.prog w base spare held fuel 22 cs = some x) : ∃ (A : Option Addr) (n c : Nat) (rs : List RX), cs = [.slice A n c] ∧ MXL w A n c rs := by
 have c1 : Tryz.prog.cellsOf 40 = 1 := by kernel_rfl
 rcases open_slice Tryz.underlying22 h with ⟨hcs, _⟩ | ⟨a, n, c, m, f, D, Pl, hcs, _, hl, hm, hmm, _, hi⟩
 · exact ⟨none, 0, 0, [], hcs, rfl, Nat.le_refl _, Nat.zero_le _, fun e he => (by cases he), fun h => absurd h (by omega)⟩
 · have hlm : n ≤ m := by rw [hmm]; split <;> omega
   rw [c1] at hi
   obtain ⟨rs, he1, he2⟩ := list_of (fun i (r : RX) => w.cell? (a.add i) = some (.slice r.A r.n r.c) ∧ FXL w r.A r.n r.c r.es) n (fun i hin => by
    obtain ⟨cs', hc, ht⟩ := hi i (by omega)
    obtain ⟨A, n1, c1, es, rfl, h1⟩ := open_fracsL ht
    obtain ⟨_, _, hat⟩ := World.cells?_some hc
    have g0 := hat 0 (by simp)
    rw [Go.Deep.add_add] at g0
    exact ⟨⟨A, n1, c1, es⟩, by simpa using g0, h1⟩)
   refine ⟨some a, n, c, rs, hcs, he1, hl, hm, fun r hr => ?_, fun hn => ?_⟩
   · obtain ⟨k, hk, rfl⟩ := List.getElem_of_mem hr
     exact (he2 k _ (List.getElem?_eq_getElem hk)).2
   · obtain ⟨b, o, rfl⟩ : ∃ b o, a = ⟨b, o, none⟩ := by
       have h0 := he2 0 _ (List.getElem?_eq_getElem (by omega))
       have hp := plain_cell h0.1
       obtain ⟨b, o, s⟩ := a
       refine ⟨b, o, ?_⟩
       unfold Addr.add at hp
       split at hp <;> simp_all
     refine ⟨b, o, rfl, fun k r hk => ?_⟩
     have h0 := he2 k r hk
     rw [add_lit] at h0
     exact h0.1

set_option maxRecDepth 100000 in
/-- An argument that is a matrix of fractions. -/
theorem open_mat {r : Reach} {b0 : Nat} {v : Value} {d : DataW H} {p : List MemPlace} (hv : Value.okWide Tryz.prog w r b0 22 v) (h : DataW.Trod enc Tryz.prog w base spare held 22 v d p) :
    ∃ (A : Option Addr) (n c : Nat) (rs : List RX), v = .slice A n c ∧ MXL w A n c rs := by
 obtain ⟨A, n, c, rfl⟩ := okWide_slice Tryz.underlying22 hv
 obtain ⟨fuel, hf⟩ := h
 obtain ⟨A', n', c', rs, e, hM⟩ := open_matL hf
 simp [Value.cells] at e
 obtain ⟨rfl, rfl, rfl⟩ := e
 exact ⟨_, _, _, rs, rfl, hM⟩
end
end Go.Proofs.YtigdclhagmnopaaGreat
