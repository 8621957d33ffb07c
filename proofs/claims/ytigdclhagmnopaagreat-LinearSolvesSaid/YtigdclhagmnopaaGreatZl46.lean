/- How great the numbers of the elimination become. Rank and -/
import Derived.RangeFuncNested
import Derived.Test.YtigdclhagmnopaaGreatZl45
set_option maxRecDepth 100000
set_option maxHeartbeats 4000000
set_option linter.unusedSimpArgs false
set_option linter.unusedVariables false
namespace Go.Proofs.YtigdclhagmnopaaGreat
theorem Zii {C C' m : Nat} (hC : C <= C') : ∀ (f c r : Nat) (Z : List (List Int)) (la : Int), okZ C m f c r Z la -> okZ C' m f c r Z la
 | 0, _, _, _, _, h => ⟨⟨h.1.1, fun i j => Nat.lt_of_lt_of_le (h.1.2 i j) hC⟩, h.2.1, Nat.lt_of_lt_of_le h.2.2 hC⟩
 | f + 1, _, _, _, _, h => ⟨⟨h.1.1, fun i j => Nat.lt_of_lt_of_le (h.1.2 i j) hC⟩, ⟨h.2.1.1, Nat.lt_of_lt_of_le h.2.1.2 hC⟩, h.2.2.imp id (fun ⟨h1, h2⟩ => ⟨fun e => Zii hC f _ _ _ _ (h1 e), fun e => Zii hC f _ _ _ _ (h2 e)⟩)⟩
theorem pw_pow (k n : Nat) : pw k ^ n = pw (k * n) := by
 induction n with
 | zero => rfl
 | succ n ih => rw [Nat.pow_succ, ih, Nat.mul_succ, Zdf]
theorem le_pw1 {n : Nat} (h : n <= 900) : n <= pw 1 := by rw [Za6, Zc7]; omega
theorem Zjp {b : Nat} : ∀ n, n <= 900 -> Zay (pw b) n <= pw ((b + 1) * n)
 | 0, _ => Nat.le_refl _
 | n + 1, h => by
  have h1 := Zjp (b := b) n (by omega)
  have h2 : (n + 1) * (pw b * Zay (pw b) n) <= pw 1 * (pw b * pw ((b + 1) * n)) := Nat.mul_le_mul (le_pw1 h) (Nat.mul_le_mul (Nat.le_refl _) h1)
  rw [<- Zdf, <- Zdf] at h2
  rw [show (b + 1) * (n + 1) = 1 + (b + (b + 1) * n) by rw [Nat.mul_succ]; omega]
  exact h2
def SmE (k : Nat) (Q : List (List Rat)) : Prop := ∀ i j, (Zl Q i j).num.natAbs <= pw k /\ (Zl Q i j).den <= pw k
section
variable {k n m : Nat} {Q : List (List Rat)}
theorem SmE.denTo (h : SmE k Q) (i t : Nat) : denTo (Q[i]?.getD []) t <= pw (k * t) := by
 rw [<- pw_pow]; exact Ztr _ (fun j => (h i j).2) t
theorem SmE.denAt (h : SmE k Q) {i : Nat} (hr : (Q[i]?.getD []).length = m) : denAt Q i <= pw (k * m) := by
 have := h.denTo i m
 unfold Go.Proofs.YtigdclhagmnopaaGreat.denAt
 rw [hr]; exact this
theorem Zmy {z : Int} {d : Nat} {q : Rat} (h : (z : Rat) = (d : Nat) * q) : z.natAbs <= d * q.num.natAbs := by
 have h1 : (z : Rat) * ((q.den : Nat) : Rat) = ((d : Nat) : Rat) * ((q.num : Int) : Rat) := by
  have e0 : ((q.num : Int) : Rat) / ((q.den : Nat) : Rat) = q := by have := Rat.num_divInt_den q; rw [Rat.divInt_eq_div, Rat.intCast_natCast] at this; exact this
  have e1 : ((q.den : Nat) : Rat) ≠ 0 := by
   intro h; have : q.den = 0 := by exact_mod_cast h
   have := q.den_pos; omega
  have e2 : ((q.num : Int) : Rat) = q * ((q.den : Nat) : Rat) := by
   have : ((q.num : Int) : Rat) / ((q.den : Nat) : Rat) * ((q.den : Nat) : Rat) = ((q.num : Int) : Rat) := by grind
   rw [e0] at this; exact this.symm
  rw [h, e2]; grind
 have h2 : z * (q.den : Int) = (d : Int) * q.num := by exact_mod_cast h1
 have h3 := congrArg Int.natAbs h2
 rw [Int.natAbs_mul, Int.natAbs_mul, Int.natAbs_natCast, Int.natAbs_natCast] at h3
 rw [<- h3]
 exact Nat.le_mul_of_pos_right _ q.den_pos
theorem SmE.whole (h : SmE k Q) {i : Nat} (hr : (Q[i]?.getD []).length = m) (j : Nat) : (Zaa (Zo Q) i j).natAbs <= pw (k * m + k) := by
 refine Nat.le_trans (Zmy (Zhb Q i j)) ?_
 rw [Zdf]
 exact Nat.mul_le_mul (h.denAt hr) (h i j).1
theorem SmE.byZ (h : SmE k Q) (hrow : ∀ i, i < n -> (Q[i]?.getD []).length = m) : ∀ t, t <= n -> byZ Q t <= pw (k * m * t)
 | 0, _ => Nat.le_refl _
 | t + 1, ht => by
  have h1 := SmE.byZ h hrow t (by omega)
  have h2 := h.denAt (hrow t (by omega))
  rw [Nat.mul_succ, Zdf]
  exact Nat.mul_le_mul h1 h2
theorem SmE.rank (h : SmE k Q) (hl : Q.length = n) (hn : n <= 900) (hrow : ∀ i, i < n -> (Q[i]?.getD []).length = m) (h1 : (k * m + k + 1) * n + k * m < 189) (h2 : k < 189) :
    okZ (pw 200) m m 0 0 (Zo Q) 1 /\ okR (pw 190) (pw 190) m m 0 0 Q /\ rankZ Q m = rankR Q m /\ Zft Q n m := by
 obtain ⟨o1, o2, o3⟩ := Zrm (B := pw (k * m + k)) (S := pw (k * m)) (Zb5 _) (Zb5 _) Q hl hrow (fun i hi => h.denAt (hrow i hi)) (fun i j hi => h.whole (hrow i hi) j) (Nat.le_refl m)
 have hb := Zjp (b := k * m + k) n hn
 have hp : Zay (pw (k * m + k)) n < pw 190 := Nat.lt_of_le_of_lt hb (Zek (by omega))
 have hp2 : Zay (pw (k * m + k)) n * pw (k * m) < pw 190 := by
  refine Nat.lt_of_le_of_lt (Nat.mul_le_mul hb (Nat.le_refl _)) ?_
  rw [<- Zdf]; exact Zek (by omega)
 refine ⟨Zii (Nat.le_trans hp (Zce (by decide))) _ _ _ _ _ o1, Zf0 hp hp2 _ _ _ _ o2, o3, fun i t hi ht => ?_, fun i j => ?_⟩
 ·refine Nat.lt_of_le_of_lt (h.denTo i t) (Zek ?_)
  have : k * t <= k * m := Nat.mul_le_mul (Nat.le_refl _) ht
  omega
 ·exact Nat.lt_of_le_of_lt (h i j).1 (Zek (by omega))
theorem SmE.det (h : SmE k Q) (hl : Q.length = n) (hn : n <= 900) (hrow : ∀ i, i < n -> (Q[i]?.getD []).length = n) (h1 : (k * n + k + 1) * n + k * n < 189) (h2 : k < 189) (h3 : k * n * n < 4096) :
    GoodD Q n /\ okR (pw 190) (pw 190) n n 0 0 Q /\ Zg4 Q = Zai n (Zl Q) := by
 obtain ⟨o1, o2, o3, o4⟩ := h.rank hl hn hrow h1 h2
 obtain ⟨d1, d2, d3⟩ := Zti (B := pw (k * n + k)) (S := pw (k * n)) (Zb5 _) (Zb5 _) Q hl hrow (fun i hi => h.denAt (hrow i hi)) (fun i j hi => h.whole (hrow i hi) j)
 have hb := Zjp (b := k * n + k) n hn
 refine ⟨⟨o1, o4, fun t ht => ?_, Nat.lt_of_le_of_lt (Nat.le_trans d3 hb) (Zek (by omega)), d1⟩, o2, d2⟩
 refine Nat.lt_of_le_of_lt (h.byZ hrow t ht) (Zek ?_)
 have : k * n * t <= k * n * n := Nat.mul_le_mul (Nat.le_refl _) ht
 omega
end
open Go.RowKit
attribute [local go_sem] Zi
theorem Fr.num_lt {w : World} {na : Bool} {A : Option Addr} {n c : Nat} {nb : Bool} {B : Option Addr} {m d : Nat} {r : Rat} (h : Fr w na A n c nb B m d r) : r.num.natAbs < pw n /\ r.den < pw m := by
 have h1 := h.1.2.2.1
 have h2 := h.2.2.2.1
 rw [Int.natAbs_natCast] at h2
 exact ⟨(Zu _ _).1 (Nat.le_of_eq h1), (Zu _ _).1 (Nat.le_of_eq h2)⟩
theorem Zqh {w : World} {A : Option Addr} {n c : Nat} {rs : List RX} (h : MXL w A n c rs) (hE : Zdc rs = 0) (hc : calmM rs) : n <= 5 /\ n0R rs <= 5 /\ SmE 2 (qM rs) := by
 obtain ⟨f1, f2, f3, f4, f5⟩ := Zbg hE
 have hl := h.1
 have hn5 : n <= 5 := by have := hc.1; omega
 obtain ⟨g, o, r0, -, he0, -, -, hr0⟩ := h.gat hE (k := 0) (by omega)
 refine ⟨hn5, ?_, fun i j => ?_⟩
 ·have := (hc.2 0 r0 (by omega) he0).1
  omega
 ·unfold Zl qM
  rw [List.getElem?_map]
  cases hr : rs[i]? with
  | none => exact ⟨Nat.zero_le _, Zb5 _⟩
  | some r =>
   simp only [Option.map_some, Option.getD_some, List.getElem?_map]
   cases he : r.es[j]? with
   | none => exact ⟨Nat.zero_le _, Zb5 _⟩
   | some e =>
    simp only [Option.map_some, Option.getD_some]
    have hrm := List.mem_of_getElem? hr
    have hem := List.mem_of_getElem? he
    have hi := (List.getElem?_eq_some_iff.1 hr).1
    have hF := h.2.2.2.1 r hrm
    have hin := hF.2.2.2.1 e hem
    have hla := (hc.2 i r (by omega) hr).2 e hem
    have hv := (f5 r hrm).2
    unfold Za7 at hv
    rw [List.all_eq_true] at hv
    have hfi := hv e hem
    unfold FX.fine at hfi
    rw [Bool.and_eq_true, decide_eq_true_eq] at hfi
    have hfew : e.few <= 2 := by
     refine Classical.byContradiction fun hx => ?_
     unfold Zcy at hla
     rw [decide_eq_true (by omega : 2 < e.few), decide_eq_true hfi.1] at hla
     cases hla
    unfold FX.few at hfew
    have hfr := (Zj0 hin.1 hin.2 hfi.2).num_lt
    exact ⟨Nat.le_trans (Nat.le_of_lt hfr.1) (Zce (by omega)), Nat.le_trans (Nat.le_of_lt hfr.2) (Zce (by omega))⟩
section
variable {A : Option Addr} {n c : Nat} {rs : List RX} {w : World}
end
theorem Zl6 (na : Bool) (A : Option Addr) (n c : Nat) (la : List Nat) (w : World) (h : Lim w A n c la) (hn : n <= 1000000) :
    Calls Tryz.prog 74 #[.agg #[.bool na, .slice A n c]] w fun e w' => ∃ A' c', e = .returned (.agg #[.bool na, .slice A' n c']) /\ Below w.heap.size w w' /\ Lim w' A' n c' la := by
 have hmx : Tryz.prog.follows .mixedOrders = true := by kernel_rfl
 obtain ⟨i0, hi, hz0, hz1, hz2⟩ := info_parts Zcj
 obtain ⟨W0, hW0, hB0, ⟨q0, q1⟩, s0⟩ := Ziu w 43 #[.bool na, .slice A n c] 43 #[.bool false, .slice none 0 0]
 have hL0 := h.below hB0
 obtain ⟨c0, c1, -, -⟩ := q0.two
 replace hL0 := Za hL0
 go_enter Tryz.func74, Tryz.ntmps74
 go_wp2_with fail
 (try rw [hW0])
 clear hW0
 obtain ⟨X0, hX0⟩ : ∃ X, W0.drew = X := ⟨_, rfl⟩
 have hr1 : Below W0.heap.size W0 X0 := by rw [<- hX0]; exact Zf (Below.refl _ _) 1
 have hSv1 : Hid (∀ wx, Below W0.heap.size W0 wx -> wx.cell? ⟨w.heap.size, 0, none⟩ = some (.bool na) /\ wx.cell? ⟨w.heap.size, 1, none⟩ = some (.slice A n c)) := Za (fun wx hbx => ⟨Zb hbx c0, Zb hbx c1⟩)
 refine wp_heldS [] hmx hSv1 (by rw [hX0]; exact hr1) (fun hxs => ?_)
 rw [hX0]
 refine Zij 4 [0, 1, 3, 4] rfl (by kernel_rfl) (hSv1.out _ hr1) ?_
 iterate 4 (refine tk1 (v := ?_) rfl (Or.inl ⟨by kernel_rfl, ?_⟩) ?_; rotate_left; (· intro W2 hSw; (try dsimp only at hSw); go_simp; try with_reducible rfl); try simp only [Act.put, Zfg, Zfj, Zfc, putG_a, putG_s, putG_z])
 refine tk0 ?_
 obtain ⟨Y1, hY1⟩ : ∃ Y, X0.alloc (.cells #[] 84) = Y := ⟨_, rfl⟩
 obtain ⟨ga, hga⟩ : ∃ g, X0.heap.size = g := ⟨_, rfl⟩
 have hBY : Below X0.heap.size X0 Y1 := by rw [<- hY1]; exact (Below.refl _ _).alloc (Nat.le_refl _) _
 have hr2 : Below W0.heap.size W0 Y1 := hr1.trans (hBY.mono hr1.size)
 have hoe : Y1.ownsRow ga 84 1 (.slice (some ⟨ga, 0, none⟩) 0 0) 0 [] := by rw [<- hY1, <- hga]; exact Zg3 _ _ _
 have hgY : ga <= Y1.heap.size := by rw [<- hga]; exact hBY.size
 have hga0 : W0.heap.size <= ga := by rw [<- hga]; exact hr1.size
 refine Ze (i := 2) rfl (by kernel_rfl) (fun K hK => ?_)
 go_simp
 (try rw [hY1])
 (try rw [hga])
 refine hK.out _ _ (fun _ => hSv1.out _ hr2) ?_
 clear hK K hY1 hga
 try simp only [Act.put, Zfg, Zfj, Zfc]
 refine Ze (i := 5) rfl (by kernel_rfl) (fun K hK => ?_)
 rw [if_pos (by rfl)]
 refine Zg9 _ (.tmp 5) (.tmp 7) 41 rfl ga 84 i0 _ 1 4 Tryz.underlying41 hi hz0 hz1 hz2 rfl (by omega) (.slice (some ⟨ga, 0, none⟩) 0 0) 0 [] rfl hoe _ A n c (la.map limb) rfl (hL0.out.below hr2).reads (Zcw _) (by simp only [maxLen]; omega) (by omega) hgY ?_
 intro v2 Y2 hO2 hg2 _
 have hOL : OwnL 84 Y2 ga v2 ([] ++ la) := OwnL.append (l := []) rfl h.len.symm hO2 Lt32.nil h.lt
 rw [List.nil_append] at hOL
 obtain ⟨nA, nc, rfl, hL2⟩ := hOL.lim
 rw [h.len] at hL2 ⊢
 have hr3 : Below W0.heap.size W0 Y2 := hr2.grown hg2 hr2.size (fun k hk => by
  have : ga = k := by simpa [Value.ownBlock] using hk
  omega)
 refine hK.out _ _ (fun _ => hSv1.out _ hr3) ?_
 clear hK K hOL hO2 hg2 hoe
 try simp only [Act.put, Zfg, Zfj, Zfc]
 refine Zfh 1 [6] rfl (by kernel_rfl) (hSv1.out _ hr3) ?_
 (refine tk1 (v := ?_) rfl (Or.inl ⟨by kernel_rfl, ?_⟩) ?_; rotate_left; (· intro W2 _; go_simp; try with_reducible rfl); try simp only [Act.put, Zfg, Zfj, Zfc, putG_a, putG_s, putG_z])
 refine tk0 ?_
 have q1Y := q1.below hr3 q1.lt
 obtain ⟨d0, d1, z0, z1⟩ := q1Y.two
 obtain ⟨Z, hZ, hBZ, qZ, st⟩ := Zas na nA n nc (hB0.trans (hr3.mono hB0.size)) (show w.heap.size <= w.heap.size + 1 by omega) q1Y
 have q0Y := q0.below hr3 q0.lt
 have q0Z := st.2.1 _ _ _ (by omega) q0Y
 obtain ⟨e0, e1, -, -⟩ := q0Z.two
 have hkZ : Kept (fun k => k = w.heap.size + 1) Y2 Z := by
  rw [<- hZ]
  exact ((Kept.refl (fun k => k = w.heap.size + 1) Y2).set_ (p := ⟨w.heap.size + 1, 0, none⟩) (.inl rfl) _).set_ (p := ⟨w.heap.size + 1, 1, none⟩) (.inl rfl) _
 have hLZ := hkZ.lim hL2 (fun k hk => ⟨_, _, hk ▸ q1Y, Zil (fun k => by simp) (fun k => by simp)⟩)
 obtain ⟨r0, r1, -, -⟩ := qZ.two
 replace hLZ := Za hLZ
 refine Ze (i := 7) rfl (by kernel_rfl) (fun K hK => ?_)
 go_simp
 (try rw [hZ])
 refine hK.out _ _ (fun _ => ⟨e0, e1⟩) ?_
 clear hK K
 try simp only [Act.put, Zfg, Zfj, Zfc]
 refine Zk (by kernel_rfl) ?_ _
 refine OnlyNormal.normal ?_
 clear d0 d1 z0 z1 e0 e1 c0 c1 hxs hSv1 hr1
 go_wp2_with fail
 refine bodyPost_ret (v := .agg #[.bool na, .slice nA n nc]) (by simp [results, Tryz.results74, go_sem, r0, r1]) rfl ?_
 exact ⟨_, _, rfl, hBZ, hLZ.out⟩
theorem Zru (na nb : Bool) (A B : Option Addr) (n c m d : Nat) (la lb : List Nat) (w : World) (ha : Lim w A n c la) (hb : Lim w B m d lb) (hn : n <= 1000000) (hm : m <= 1000000) :
    Calls Tryz.prog 23 #[.agg #[.bool na, .slice A n c, .bool nb, .slice B m d]] w fun e w' => ∃ A' c' B' d', e = .returned (.agg #[.bool na, .slice A' n c', .bool nb, .slice B' m d']) /\ Below w.heap.size w w' /\ Lim w' A' n c' la /\ Lim w' B' m d' lb := by
 have hmx : Tryz.prog.follows .mixedOrders = true := by kernel_rfl
 obtain ⟨W0, hW0, hB0, ⟨q0, q1⟩, s0⟩ := Ziu w 45 #[.bool na, .slice A n c, .bool nb, .slice B m d] 45 #[.bool false, .slice none 0 0, .bool false, .slice none 0 0]
 have hA0 := Za (ha.below hB0)
 have hB1 := Za (hb.below hB0)
 obtain ⟨c0, c1, c2, c3, -⟩ := q0.four
 go_enter Tryz.func23, Tryz.ntmps23
 go_wp2_with fail
 (try rw [hW0])
 clear hW0
 obtain ⟨X0, hX0⟩ : ∃ X, W0.drew = X := ⟨_, rfl⟩
 have hr1 : Below W0.heap.size W0 X0 := by rw [<- hX0]; exact Zf (Below.refl _ _) 1
 have hSv1 : Hid (∀ wx, Below W0.heap.size W0 wx -> wx.cell? ⟨w.heap.size, 0, none⟩ = some (.bool na) /\ wx.cell? ⟨w.heap.size, 1, none⟩ = some (.slice A n c) /\ wx.cell? ⟨w.heap.size, 2, none⟩ = some (.bool nb) /\ wx.cell? ⟨w.heap.size, 3, none⟩ = some (.slice B m d)) := Za (fun wx hbx => ⟨Zb hbx c0, Zb hbx c1, Zb hbx c2, Zb hbx c3⟩)
 refine wp_heldS [] hmx hSv1 (by rw [hX0]; exact hr1) (fun hxs => ?_)
 rw [hX0]
 refine Zij 4 [0, 1, 3, 4] rfl (by kernel_rfl) (hSv1.out _ hr1) ?_
 iterate 4 (refine tk1 (v := ?_) rfl (Or.inl ⟨by kernel_rfl, ?_⟩) ?_; rotate_left; (· intro W2 hSw; (try dsimp only at hSw); go_simp; try with_reducible rfl); try simp only [Act.put, Zfg, Zfj, Zfc, putG_a, putG_s, putG_z])
 refine tk0 ?_
 refine Ze (i := 2) rfl (by kernel_rfl) (fun K hK => ?_)
 go_simp
 refine (Zl6 na A n c la X0 (hA0.out.below hr1) hn).mono ?_
 rintro e w3 ⟨A3, c3', rfl, hb3, hL3⟩
 have hr3 := hr1.trans (hb3.mono hr1.size)
 refine hK.out _ _ (fun _ => hSv1.out _ hr3) ?_
 clear hK K
 try simp only [Act.put, Zfg, Zfj, Zfc]
 refine Ze (i := 5) rfl (by kernel_rfl) (fun K hK => ?_)
 go_simp
 refine (Zl6 nb B m d lb w3 (hB1.out.below hr3) hm).mono ?_
 rintro e w4 ⟨A4, c4', rfl, hb4, hL4⟩
 have hr4 := hr3.trans (hb4.mono hr3.size)
 have hL34 := hL3.below hb4
 refine hK.out _ _ (fun _ => hSv1.out _ hr4) ?_
 clear hK K hL3
 try simp only [Act.put, Zfg, Zfj, Zfc]
 refine Zfh 1 [6] rfl (by kernel_rfl) (hSv1.out _ hr4) ?_
 (refine tk1 (v := ?_) rfl (Or.inl ⟨by kernel_rfl, ?_⟩) ?_; rotate_left; (· intro W2 _; go_simp; try with_reducible rfl); try simp only [Act.put, Zfg, Zfj, Zfc, putG_a, putG_s, putG_z])
 refine tk0 ?_
 have q1Y := q1.below hr4 q1.lt
 obtain ⟨d0, d1, d2, d3, z0, z1, z2, z3⟩ := q1Y.four
 obtain ⟨Z, hZ, hBZ, qZ, kW, kB, -⟩ := Zx na A3 n c3' nb A4 m c4' (hB0.trans (hr4.mono hB0.size)) (show w.heap.size <= w.heap.size + 1 by omega) q1Y
 have q0Z := kB _ _ _ (by omega) (q0.below hr4 q0.lt)
 obtain ⟨e0, e1, e2, e3, -⟩ := q0Z.four
 have hkZ : Kept (fun k => k = w.heap.size + 1) w4 Z := by
  rw [<- hZ]
  exact ((((Kept.refl (fun k => k = w.heap.size + 1) w4).set_ (p := ⟨w.heap.size + 1, 0, none⟩) (.inl rfl) _).set_ (p := ⟨w.heap.size + 1, 1, none⟩) (.inl rfl) _).set_ (p := ⟨w.heap.size + 1, 2, none⟩) (.inl rfl) _).set_ (p := ⟨w.heap.size + 1, 3, none⟩) (.inl rfl) _
 have hG : ∀ k, k = w.heap.size + 1 -> ∃ t cs, Blk w4 k t cs /\ NoLimb cs := fun k hk => ⟨_, _, hk ▸ q1Y, NoLimb.box4 _ _ _ _ _ _ _ _⟩
 have hLZ := Za (hkZ.lim hL34 hG)
 have hMZ := Za (hkZ.lim hL4 hG)
 obtain ⟨r0, r1, r2, r3, -⟩ := qZ.four
 refine Ze (i := 7) rfl (by kernel_rfl) (fun K hK => ?_)
 go_simp
 (try rw [hZ])
 refine hK.out _ _ (fun _ => ⟨e0, e1, e2, e3⟩) ?_
 clear hK K
 try simp only [Act.put, Zfg, Zfj, Zfc]
 refine Zk (by kernel_rfl) ?_ _
 refine OnlyNormal.normal ?_
 clear d0 d1 d2 d3 z0 z1 z2 z3 e0 e1 e2 e3 c0 c1 c2 c3 hxs hSv1 hr1 hr3 hr4
 go_wp2_with fail
 refine bodyPost_ret (v := .agg #[.bool na, .slice A3 n c3', .bool nb, .slice A4 m c4']) (by simp [results, Tryz.results23, go_sem, r0, r1, r2, r3]) rfl ?_
 exact ⟨_, _, _, _, rfl, hBZ, hLZ.out, hMZ.out⟩
open Go.RowKit Go.Shelf
attribute [local go_sem] Oper.semAt_some
def rsAt (es : List RS) (k : Nat) : RS := es[k]?.getD ⟨none, 0, 0⟩
def SL (w : World) (A : Option Addr) (n c : Nat) (es : List RS) : Prop :=
 es.length = n /\ n <= c /\ c <= maxLen /\ (0 < n -> ∃ g o, A = some ⟨g, o, none⟩ /\ ∀ (k : Nat) (e : RS), es[k]? = some e -> w.cell? ⟨g, o + k, none⟩ = some (.slice e.A e.n e.c))
theorem SL.below {w w' : World} {A : Option Addr} {n c : Nat} {es : List RS} (h : SL w A n c es) (hb : Below w.heap.size w w') : SL w' A n c es :=
 ⟨h.1, h.2.1, h.2.2.1, fun hn => by
  obtain ⟨b, o, e, hc⟩ := h.2.2.2 hn
  exact ⟨b, o, e, fun k x hx => Zb hb (hc k x hx)⟩⟩
theorem SL.at_ {w : World} {A : Option Addr} {n c : Nat} {es : List RS} (h : SL w A n c es) {k : Nat} (hk : k < n) : ∃ b o e, A = some ⟨b, o, none⟩ /\ es[k]? = some e /\ w.cell? ⟨b, o + k, none⟩ = some (.slice e.A e.n e.c) := by
 obtain ⟨h1, -, -, h4⟩ := h
 obtain ⟨b, o, e, hc⟩ := h4 (by omega)
 have he := List.getElem?_eq_getElem (l := es) (i := k) (by omega)
 exact ⟨b, o, es[k], e, he, hc k _ he⟩
theorem sl_kept {W W' : World} {row : Option Nat} {A : Option Addr} {n c : Nat} {es : List RS} (h : SL W A n c es) (hg : W.grownBy W' row) (hrow : ∀ r, row = some r -> ∃ o : Obj, W.heap[r]? = some o /\ o.isCells = false) : SL W' A n c es :=
 ⟨h.1, h.2.1, h.2.2.1, fun hn => by
  obtain ⟨b, o, e, hc⟩ := h.2.2.2 hn
  exact ⟨b, o, e, fun k x hx => cell_kept (hc k x hx) hg hrow⟩⟩
def KpR (Bs : Nat) (A : Option Addr) (n c : Nat) (es : List RS) (W W' : World) : Prop :=
 (W.cell? ⟨Bs, 0, none⟩ = some (.slice A n c) -> W'.cell? ⟨Bs, 0, none⟩ = some (.slice A n c)) /\ (SL W A n c es -> SL W' A n c es)
theorem KpR.trans {Bs n c : Nat} {A : Option Addr} {es : List RS} {W1 W2 W3 : World} (h : KpR Bs A n c es W1 W2) (k : KpR Bs A n c es W2 W3) : KpR Bs A n c es W1 W3 := ⟨fun x => k.1 (h.1 x), fun x => k.2 (h.2 x)⟩
theorem KpR.put {Bs n c : Nat} {A : Option Addr} {es : List RS} (W : World) (lp : Nat) (o o' : Obj) (ho : W.heap[lp]? = some o) (hc : o.isCells = false) : KpR Bs A n c es W (W.putObj lp o') :=
 ⟨fun h => cell_kept h (grownBy_putObj' W lp o') (fun r e => by cases e; exact ⟨o, ho, hc⟩), fun h => sl_kept h (grownBy_putObj' W lp o') (fun r e => by cases e; exact ⟨o, ho, hc⟩)⟩
theorem Zr0 (A : Option Addr) (n c : Nat) (w : World) :
    Calls Tryz.prog 116 #[.slice A n c] w fun e w' => e = .returned (.func (.func 155) #[] #[.pointer (some ⟨w.heap.size, 0, none⟩)]) /\ w.alloc (.cells #[.slice A n c] 88) = w' := by
 go_enter Tryz.func116, Tryz.ntmps116
 go_wp2
 go_ret
 exact ⟨rfl, rfl⟩
def Ztz (d : Nat) (P : Program) (gf : Nat) (lb : Array Value) (encs : Nat -> Array Value) (Kp : World -> World -> Prop) (N : Nat) (w : World) : Prop :=
 ∀ (l : Nat) (J : Nat -> World -> Prop) (W : World), Below w.heap.size w W -> AbidesFrom W.heap.size J ->
  (∀ k V, k < N -> J k V -> YieldAt Fence.wide (d - 1) P l (encs k) V fun e V' => e = .returned (.bool true) /\ J (k + 1) V' /\ Kp V V') ->
  J 0 W -> CallsIn Fence.wide d P gf (#[.func (.yield l) #[] #[]] ++ lb) W fun e V' => (∃ v, e = .returned v) /\ J N V'
def goesOn (Kp : World -> World -> Prop) (J : World -> Prop) (W : World) : Exit -> Act -> World -> Prop
 | .normal, _, W' => KeepsOthers W W' /\ Kp W W' /\ J W'
 | .ret, _, _ => False
 | .exit _, _, _ => False
 | .goto _, _, _ => False
 | .panic _, _, _ => False
 | .outgrown, _, _ => False
theorem Zkj {d : Nat} {P : Program} {g : Operand} {ps : Array Tmp} {assign body : Code} {Q : Exit -> Act -> World -> Prop} {a : Act} {w : World} (h1 : 1 <= d) {gf : Nat} {lb : Array Value}
    (hg : a.eval g = .func (.func gf) #[] lb) (eg : ∀ args w, (callFunc gf args).run P w = .ok (.enter gf args) w)
    {encs : Nat -> Array Value} {Kp : World -> World -> Prop} {N : Nat} {w0 : World} (hseq : Ztz (d - 1) P gf lb encs Kp N w0)
    (hKt : ∀ {A B C : World}, Kp A B -> Kp B C -> Kp A C) (hKb : ∀ (W : World) (l : Nat) (o o' : Obj), w.heap.size <= l -> W.heap[l]? = some o -> o.isCells = false -> o.isWalk = false -> Kp W (W.putObj l o')) (hb0 : Below w0.heap.size w0 w) (hps : ∀ k, (encs k).size = ps.size)
    (I : Nat -> World -> Prop) (hI : OwnFrom w.heap.size I) (h0 : I 0 w) (a₁ : Nat -> Act)
    (hassign : ∀ (l k : Nat) (W : World) (K : Act -> World -> Prop), k < N -> K (a₁ k) W ->
     assign.wpIn (Fence.wide.inRound l) (d - 1 - 1) P (Exit.then K (fun _ _ _ => False)) { tmps := (ps.zip (encs k)).foldl (fun t (p, v) => t.setIfInBounds p v) a.tmps, defers := [] } W)
    (hbody : ∀ (l k : Nat) (W : World), k < N -> I k W -> body.wpIn (Fence.wide.inRound l) (d - 1 - 1) P (goesOn Kp (I (k + 1)) W) (a₁ k) W)
    (hdone : ∀ (D : Nat) (W : World), w.heap.size <= D -> I N W -> W.heap[D]? = some (.deferred (some [])) -> Q .normal { a with defers := { target := .collected D, args := #[] } :: a.defers } W) :
    (Code.rangeFunc g ps assign body).wpIn Fence.wide d P Q a w := by
 refine wpIn_rangeFunc fun fn hfn => ?_
 rw [show Fence.wide.round = none from rfl]
 obtain ⟨B, hB⟩ : ∃ B, w.heap.size = B := ⟨_, rfl⟩
 rw [hB] at hI hKb hdone
 obtain ⟨rec, hrec⟩ : ∃ rec : LoopState -> Option Code -> Loop, rec = fun st pe => { state := st, pending := pe, fn, tmps := a.tmps, params := ps, assign, body, defers := B } := ⟨_, rfl⟩
 obtain ⟨W1, hW1⟩ : ∃ V, (w.alloc (.deferred (some []))).alloc (.loop (rec .ready none)) = V := ⟨_, rfl⟩
 have sz : W1.heap.size = B + 1 + 1 := by rw [<- hW1, <- hB]; simp
 have lp : W1.heap[B + 1]? = some (.loop (rec .ready none)) := by
  have h := World.alloc_heap_new (w.alloc (.deferred (some []))) (.loop (rec .ready none))
  rw [World.size_alloc, hB, hW1] at h
  exact h
 have df : W1.heap[B]? = some (.deferred (some [])) := by
  rw [<- hW1, <- hB]
  exact (Below.heap_alloc _ _ _ (by simp)).trans (World.alloc_heap_new w _)
 have i1 : I 0 W1 := by rw [<- hW1]; exact hI.alloc _ (hI.alloc _ h0)
 have b1 : Below w0.heap.size w0 W1 := by
  rw [<- hW1]
  exact hb0.trans (((Below.refl _ w).alloc (Nat.le_refl _) _).trans ((Below.refl _ _).alloc (by simp) _) |>.mono hb0.size)
 obtain ⟨J, hJ⟩ : ∃ J : Nat -> World -> Prop, J = fun k W => I k W /\ W.heap[B + 1]? = some (.loop (rec .ready none)) /\ W.heap[B]? = some (.deferred (some [])) := ⟨_, rfl⟩
 have key := hseq (B + 1) J W1 b1 (fun k X Y row hs hgr hr => by
     rw [hJ] at hs ⊢
     have hr2 : ∀ r, row = some r -> ∃ o : Obj, X.heap[r]? = some o /\ o.isWalk = true := fun r e => (hr r e).2
     refine ⟨hI k X Y row hs.1 hgr (fun r e => ?_), (grownBy_keeps hgr hr2 hs.2.1 rfl).trans hs.2.1, (grownBy_keeps hgr hr2 hs.2.2 rfl).trans hs.2.2⟩
     obtain ⟨hl, o, ho, hw⟩ := hr r e
     exact ⟨by omega, o, ho, Obj.not_cells_of_walk hw⟩)
  (fun k V hk hs => by
   rw [hJ] at hs
   obtain ⟨hi, hl, hd⟩ := hs
   have hlt : B + 1 < V.heap.size := (Array.getElem?_eq_some_iff.1 hl).1
   have hy := run_yield (P := P) (args := encs k) hl (by rw [hrec]; exact hps k)
   rw [hrec] at hy
   obtain ⟨V2, hV2⟩ : ∃ X, V.putObj (B + 1) (.loop { rec .ready none with state := .busy }) = X := ⟨_, rfl⟩
   refine ⟨fn, _, assign, body, hy, roundIn_of_wpIn hfn (hassign _ k V _ hk ⟨V2, by rw [<- hV2]; exact run_beginRound hl (by rw [hrec]), ?_⟩)⟩
   have hl2 : V2.heap[B + 1]? = some (.loop { rec .ready none with state := .busy }) := by rw [<- hV2]; exact World.putObj_heap_same hlt
   have hd2 : V2.heap[B]? = some (.deferred (some [])) := by rw [<- hV2]; exact (World.putObj_heap_other (by omega)).trans hd
   have hp2 : Kp V V2 := by rw [<- hV2]; exact hKb _ _ _ _ (by omega) hl rfl rfl
   have hi2 : I k V2 := by rw [<- hV2]; exact hI.putObj _ hi (by omega) hl rfl
   refine wpIn_mono (hbody _ k V2 hk hi2) fun e a3 V3 hq => ?_
   cases e with
   | normal =>
    obtain ⟨ko, kp, i3⟩ := hq
    have hl3 := ko.same _ _ hl2 rfl
    have hend := run_endRound (P := P) none hl3
    rw [hrec] at hend hl3
    refine ⟨_, _, hend, rfl, ?_, hKt (hKt hp2 kp) (hKb _ _ _ _ (by omega) hl3 rfl rfl)⟩
    rw [hJ]
    refine ⟨hI.putObj _ i3 (by omega) hl3 rfl, ?_, (World.putObj_heap_other (by omega)).trans (ko.same _ _ hd2 rfl)⟩
    rw [hrec]
    exact World.putObj_heap_same (Array.getElem?_eq_some_iff.1 hl3).1
   | ret => exact hq.elim
   | exit id => exact hq.elim
   | goto t => exact hq.elim
   | panic ch => exact hq.elim
   | outgrown => exact hq.elim)
  (by rw [hJ]; exact ⟨i1, lp, df⟩)
 refine ⟨B + 1, [{ target := .collected B, args := #[] }], W1, { target := .fn (.func gf) lb, args := #[.func (.yield (B + 1)) #[] #[]] }, W1, gf, #[.func (.yield (B + 1)) #[] #[]] ++ lb, W1, ?_, ?_, fun _ _ => trivial, ?_, fun _ => h1, ?_⟩
 ·rw [<- hW1, hrec, <- hB]; exact run_enterLoop_outer _ _ _ _ _
 ·simp only [resolve, hg]
  simp [go_sem]
 ·simp [invoke, go_sem, eg]
 ·refine key.mono ?_
  rintro e W2 ⟨⟨v, rfl⟩, hs⟩
  rw [hJ] at hs
  obtain ⟨hi, hl, hd⟩ := hs
  have hend := run_endLoop (P := P) hl (by rw [hrec]; simp)
  rw [hrec] at hend
  exact ⟨none, _, hend, hdone _ _ (Nat.le_refl _) (hI.putObj _ hi (by omega) hl rfl) ((World.putObj_heap_other (by omega)).trans hd)⟩
def Zkp (es : List RS) (n : Nat) (k : Nat) : Array Value := #[.int .i64 ((n - 1 - k : Nat) : Int), RS.val (rsAt es (n - 1 - k))]
theorem Zro (d : Nat) (hd : 1 <= d) (Bs n c : Nat) (A : Option Addr) (es : List RS) (w : World) (hc : w.cell? ⟨Bs, 0, none⟩ = some (.slice A n c)) (hL0 : SL w A n c es) :
    Ztz d Tryz.prog 155 #[.pointer (some ⟨Bs, 0, none⟩)] (Zkp es n) (KpR Bs A n c es) n w := by
 intro lp J W hW _ hY h0
 have hBs : W.cell? ⟨Bs, 0, none⟩ = some (.slice A n c) := (hW.cell (Zr hc)).trans hc
 have hL : SL W A n c es := hL0.below hW
 clear hW hc hL0
 have hnc := hL.2.1
 have hcm := hL.2.2.1
 unfold maxLen at hcm
 refine callsIn_of_wp Tryz.func155 rfl trivial ?_ rfl
 simp only [Tryz.ntmps155, List.size_toArray, List.length_cons, List.length_nil, Nat.reduceAdd, Nat.reduceSub, Array.replicate_succ, Array.replicate_zero, List.push_toArray, List.append_toArray, List.nil_append, List.cons_append]
 gi_wp2
 gi_loopw [3] (fun i wr => ∃ k : Nat, k <= n /\ i = .int .i64 ((n : Int) - 1 - k) /\ J k wr /\ Hid (wr.cell? ⟨Bs, 0, none⟩ = some (.slice A n c)) /\ SL wr A n c es)
  (fun i _ => (intOf i + 1).toNat)
 case atStart => exact ⟨0, Nat.zero_le _, by go_num, h0, hBs, hL⟩
 case round =>
  obtain ⟨k, hk, rfl, hJs, hbx', hLr⟩ := hrel
  have hbx := hbx'.out
  by_cases hlt : k < n
  ·obtain ⟨b, o, e, rfl, he, hc1⟩ := hLr.at_ (k := n - 1 - k) (by omega)
   obtain ⟨fn, tmps, assign, body, hy, hR⟩ := hY k wr hlt hJs
   dsimp only [Zkp, RS.val, rsAt] at hy
   rw [he, Option.getD_some] at hy
   rw [show ((n - 1 - k : Nat) : Int) = (n : Int) - 1 - k by omega] at hy
   gi_wp2
   refine hR.mono ?_
   rintro e W3 ⟨rfl, hJ3, hk3⟩
   have hbx3 := Za (hk3.1 hbx'.out)
   gi_wp2
   go_roundw
   case rel => exact ⟨k + 1, by omega, by go_num, hJ3, hbx3, hk3.2 hLr⟩
   case measure => simp [intOf]; omega
  ·obtain rfl : k = n := by omega
   gi_wp2
   go_end0
   exact ⟨⟨_, rfl⟩, hJs⟩
end Go.Proofs.YtigdclhagmnopaaGreat
