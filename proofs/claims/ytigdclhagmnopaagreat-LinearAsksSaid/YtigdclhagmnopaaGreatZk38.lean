/- The reference of linear: Rank, Posdef. -/
import Derived.Test.YtigdclhagmnopaaGreatZk35
import Derived.Test.YtigdclhagmnopaaGreatZk37
set_option linter.unusedSimpArgs false
set_option linter.unusedVariables false

namespace Go.Proofs.YtigdclhagmnopaaGreat
open Go.RowKit
attribute [local go_sem] add_lit

/-- The fractions of a matrix. -/
def qM (rs : List RX) : List (List Rat) := rs.map fun r => r.es.map FX.q
theorem matE_facts {rs : List RX} (h : matE rs = 0) : 0 < rs.length ∧ rs.length ≤ 12 ∧ 0 < n0R rs ∧ n0R rs ≤ 12 ∧ ∀ r ∈ rs, r.n = n0R rs ∧ vecOk r.es = true := by
 unfold matE at h
 split at h
 · exact absurd h (by decide)
 · rename_i h1
   split at h
   · exact absurd h (by decide)
   · rename_i h2
     split at h
     · rename_i h3
       rw [List.all_eq_true] at h3
       have hf : ∀ r ∈ rs, r.n = n0R rs ∧ vecOk r.es = true := fun r hr => by
        have := h3 r hr
        unfold rowOk at this
        simpa using this
       unfold longM at h1
       simp only [Bool.or_eq_true, decide_eq_true_eq, not_or, Nat.not_lt, Bool.not_eq_true, List.any_eq_false] at h1
       have hne : rs ≠ [] := fun e => h2 (by rw [e]; rfl)
       obtain ⟨r, hr⟩ := List.exists_mem_of_ne_nil rs hne
       have h4 : ¬ 12 < r.n := by have := h1.2 r hr; unfold RX.long at this; simpa using this
       have h5 := hf r hr
       exact ⟨List.length_pos_iff.2 hne, h1.1, by omega, by omega, hf⟩
     · exact absurd h (by decide)
theorem vecOk_ok {es : List FX} (h : vecOk es = true) : ∀ e ∈ es, e.ok = true := fun e he => by
 unfold vecOk at h
 rw [List.all_eq_true] at h
 have := h e he
 unfold FX.fine at this
 rw [Bool.and_eq_true] at this
 exact this.2
section
variable {w : World} {A : Option Addr} {n c : Nat} {rs : List RX}
theorem MXL.good (h : MXL w A n c rs) (hE : matE rs = 0) : MFL w A n c (qM rs) := h.mfl fun r hr => vecOk_ok ((matE_facts hE).2.2.2.2 r hr).2
theorem qM_len (h : MXL w A n c rs) : (qM rs).length = n := by unfold qM; rw [List.length_map]; exact h.1
theorem qM_row (h : MXL w A n c rs) (hE : matE rs = 0) (i : Nat) (hi : i < n) : ((qM rs)[i]?.getD []).length = n0R rs := by
 unfold qM
 have he := List.getElem?_eq_getElem (l := rs) (i := i) (by rw [h.1]; exact hi)
 rw [List.getElem?_map, he]
 simp only [Option.map_some, Option.getD_some, List.length_map]
 have hm := List.getElem_mem (l := rs) (n := i) (by rw [h.1]; exact hi)
 rw [(h.2.2.2.1 _ hm).1, ((matE_facts hE).2.2.2.2 _ hm).1]
end

set_option maxRecDepth 100000 in
set_option maxHeartbeats 1000000 in
theorem rRank_bad (A : Option Addr) (n c : Nat) (rs : List RX) (w : World) (h : MXL w A n c rs) (E : Int) (hE : matE rs = E) (h0 : E ≠ 0) :
    Calls Tryz.prog 12 #[.slice A n c] w fun e w' => e = .returned (.tuple #[.int .i64 0, .int .i64 E]) ∧ Below w.heap.size w w' := by
 have t1 : (E == 0) = false := by simpa using h0
 have t1' : decide (E = 0) = false := by simpa using h0
 replace h0 := hide h0
 go_enter Tryz.func12, Tryz.ntmps12
 go_wp2_with fail
 refine (rCheckM_any A n c rs w h E hE).mono ?_
 rintro e w1 ⟨rfl, hb1⟩
 go_wp2_with fail
 refine (rCheckM_any A n c rs w1 (h.below hb1) E hE).mono ?_
 rintro e w2 ⟨rfl, hb2⟩
 go_wp2_with fail
 go_returns
 exact ⟨rfl, hb1.trans (hb2.mono hb1.size)⟩

set_option maxRecDepth 100000 in
set_option maxHeartbeats 4000000 in
theorem rRank_good (A : Option Addr) (n c : Nat) (rs : List RX) (w : World) (h : MXL w A n c rs) (hE : matE rs = 0) (hok : okR (pw 200) (pw 200) (n0R rs) (n0R rs) 0 0 (qM rs)) :
    Calls Tryz.prog 12 #[.slice A n c] w fun e w' => e = .returned (.tuple #[.int .i64 (rankR (qM rs) (n0R rs) : Nat), .int .i64 0]) ∧ Below w.heap.size w w' := by
 have hmx : Tryz.prog.follows .mixedOrders = true := by kernel_rfl
 have hne : (40 : TypeId) ≠ 45 := by decide
 obtain ⟨f1, f2, f3, f4, f5⟩ := matE_facts hE
 have hl := h.1
 have hn0 : 0 < n := by omega
 have hbn : (0 : Int) < (n : Int) := by omega
 obtain ⟨g, o, r0, rfl, he0, c0, hL0⟩ := h.at_ (k := 0) hn0
 rw [Nat.add_zero] at c0
 have hr0 := n0R_at he0
 obtain ⟨m, hm⟩ : ∃ m, n0R rs = m := ⟨_, rfl⟩
 rw [hm] at hok f3 f4 hr0 ⊢
 obtain ⟨FIN, hFIN⟩ : ∃ X, elimR m 0 0 (qM rs) false = X := ⟨_, rfl⟩
 obtain ⟨E', rk, ng⟩ := FIN
 rw [show rankR (qM rs) m = rk by unfold rankR; rw [hFIN]]
 replace hFIN := hide hFIN
 rw [← hr0] at c0
 have hQl := qM_len h
 have hQr := qM_row h hE
 rw [hm] at hQr
 replace h := hide h
 replace f5 := hide f5
 replace hok := hide hok
 replace hE := hide hE
 replace hm := hide hm
 replace hr0 := hide hr0
 replace he0 := hide he0
 clear hL0
 go_enter Tryz.func12, Tryz.ntmps12
 go_wp2_with fail
 refine (rCheckM_any _ n c rs w h.out 0 hE.out).mono ?_
 rintro e w1 ⟨rfl, hb1⟩
 have k0 := keep_cell hb1 c0
 have hF := (h.out.below hb1).good hE.out
 go_wp2_with fail
 have hSv9 : Hid (∀ wx, Below w1.heap.size w1 wx → wx.cell? ⟨g, o, none⟩ = some (.slice r0.A m r0.c)) := hide (fun wx hbx => keep_cell hbx k0)
 have hr9 : Below w1.heap.size w1 w1.drew := below_dn (Below.refl _ _) 1
 refine wp_held [] (fun wx => wx.cell? ⟨g, o, none⟩ = some (.slice r0.A m r0.c)) hmx (hSv9.out _ hr9) (fun hxs9 => ?_)
 refine wpAnyL_take (i := 0) (v := ?v1) rfl (by kernel_rfl) (by kernel_rfl) (by kernel_rfl) (by kernel_rfl) (by kernel_rfl) (Or.inl ⟨by kernel_rfl, ?hy1⟩) (hSv9.out _ hr9) ?rest1
 case hy1 => (intro W2 hSw; (try dsimp only at hSw); go_simp; try with_reducible rfl)
 try simp only [Act.put, List.setIfInBounds_toArray, List.set_cons_zero, List.set_cons_succ, List.getElem_toArray, List.getElem_cons_succ, List.getElem_cons_zero]
 refine wpAnyL_take (i := 2) (v := ?v2) rfl (by kernel_rfl) (by kernel_rfl) (by kernel_rfl) (by kernel_rfl) (by kernel_rfl) (Or.inl ⟨by kernel_rfl, ?hy2⟩) (hSv9.out _ hr9) ?rest2
 case hy2 => (intro W2 hSw; (try dsimp only at hSw); go_simp; try with_reducible rfl)
 try simp only [Act.put, List.setIfInBounds_toArray, List.set_cons_zero, List.set_cons_succ, List.getElem_toArray, List.getElem_cons_succ, List.getElem_cons_zero]
 refine wpAnyL_take (i := 3) (v := ?v3) rfl (by kernel_rfl) (by kernel_rfl) (by kernel_rfl) (by kernel_rfl) (by kernel_rfl) (Or.inl ⟨by kernel_rfl, ?hy3⟩) (hSv9.out _ hr9) ?rest3
 case hy3 => (intro W2 hSw; (try dsimp only at hSw); go_simp; try with_reducible rfl)
 try simp only [Act.put, List.setIfInBounds_toArray, List.set_cons_zero, List.set_cons_succ, List.getElem_toArray, List.getElem_cons_succ, List.getElem_cons_zero]
 refine wpAnyL_take (i := 4) (v := ?v4) rfl (by kernel_rfl) (by kernel_rfl) (by kernel_rfl) (by kernel_rfl) (by kernel_rfl) (Or.inl ⟨by kernel_rfl, ?hy4⟩) (hSv9.out _ hr9) ?rest4
 case hy4 => (intro W2 hSw; (try dsimp only at hSw); go_simp; try with_reducible rfl)
 try simp only [Act.put, List.setIfInBounds_toArray, List.set_cons_zero, List.set_cons_succ, List.getElem_toArray, List.getElem_cons_succ, List.getElem_cons_zero]
 refine wpAnyL_take (i := 5) (v := ?v5) rfl (by kernel_rfl) (by kernel_rfl) (by kernel_rfl) (by kernel_rfl) (by kernel_rfl) (Or.inl ⟨by kernel_rfl, ?hy5⟩) (hSv9.out _ hr9) ?rest5
 case hy5 => (intro W2 hSw; (try dsimp only at hSw); go_simp; try with_reducible rfl)
 try simp only [Act.put, List.setIfInBounds_toArray, List.set_cons_zero, List.set_cons_succ, List.getElem_toArray, List.getElem_cons_succ, List.getElem_cons_zero]
 refine wpAnyL_one (i := 1) rfl (by kernel_rfl) (fun K hK => ?_)
 go_simp
 refine (rcopied_ok _ n c m (qM rs) w1.drew (hF.below hr9) (by omega) hQr f3 (by omega)).mono ?_
 rintro e w2 ⟨v, L, rfl, hb2, hMO, hLq⟩
 have hr10 := hr9.trans (hb2.mono hr9.size)
 refine hK.out _ _ (fun _ => hSv9.out _ hr10) ?_
 clear hK K
 try simp only [Act.put, List.setIfInBounds_toArray, List.set_cons_zero, List.set_cons_succ]
 have hLl : L.length = n := by rw [← hQl, ← hLq, List.length_map]
 obtain ⟨go, cap, rfl, hc1, hc2, hgo, hM, hgs⟩ := hMO.mat hne (fun e => by rw [e] at hLl; simp at hLl; omega)
 rw [hLl] at hc1 ⊢
 refine wpAnyL_one (i := 6) rfl (by kernel_rfl) (fun K hK => ?_)
 go_simp
 refine (rechelon_ok go n cap L m m w2 hM hLl hn0 (by omega) hc1 hc2 (Nat.le_refl _) (by omega) (by rw [hLq]; exact hok.out)).mono ?_
 rw [hLq, hFIN.out]
 rintro e w3 ⟨L2, rfl, hl2, hg2, hq2, hM2, hK2⟩
 have hgG : ∀ k, (k = go ∨ k ∈ L.map RF.g) → w1.drew.heap.size ≤ k := fun k hk => by
  rcases hk with rfl | hk
  · exact hgo
  · obtain ⟨r, hr, rfl⟩ := List.mem_map.1 hk
    exact hgs r hr
 have hB3 : Below w1.drew.heap.size w1.drew w3 := hb2.trans (hK2.to_below hgG hb2.size)
 have hr11 := hr9.trans (hB3.mono hr9.size)
 refine hK.out _ _ (fun _ => hSv9.out _ hr11) ?_
 clear hK K
 try simp only [Act.put, List.setIfInBounds_toArray, List.set_cons_zero, List.set_cons_succ]
 refine wpAnyL_pure (i := 7) (v := ?v6) rfl (by kernel_rfl) (by kernel_rfl) (by kernel_rfl) (by kernel_rfl) (Or.inl ⟨by kernel_rfl, ?hy6⟩) (fun _ => (hSv9.out _ hr11)) ?rest6
 case hy6 => (intro W2 _; go_simp; try with_reducible rfl)
 try simp only [Act.put, List.setIfInBounds_toArray, List.set_cons_zero, List.set_cons_succ, List.getElem_toArray, List.getElem_cons_succ, List.getElem_cons_zero]
 refine wpAnyL_pure (i := 8) (v := ?v7) rfl (by kernel_rfl) (by kernel_rfl) (by kernel_rfl) (by kernel_rfl) (Or.inl ⟨by kernel_rfl, ?hy7⟩) (fun _ => (hSv9.out _ hr11)) ?rest7
 case hy7 => (intro W2 _; go_simp; try with_reducible rfl)
 try simp only [Act.put, List.setIfInBounds_toArray, List.set_cons_zero, List.set_cons_succ, List.getElem_toArray, List.getElem_cons_succ, List.getElem_cons_zero]
 refine wpAnyL_pure (i := 9) (v := ?v8) rfl (by kernel_rfl) (by kernel_rfl) (by kernel_rfl) (by kernel_rfl) (Or.inl ⟨by kernel_rfl, ?hy8⟩) (fun _ => (hSv9.out _ hr11)) ?rest8
 case hy8 => (intro W2 _; go_simp; try with_reducible rfl)
 try simp only [Act.put, List.setIfInBounds_toArray, List.set_cons_zero, List.set_cons_succ, List.getElem_toArray, List.getElem_cons_succ, List.getElem_cons_zero]
 refine wpAnyL_pure (i := 10) (v := ?v9) rfl (by kernel_rfl) (by kernel_rfl) (by kernel_rfl) (by kernel_rfl) (Or.inl ⟨by kernel_rfl, ?hy9⟩) (fun _ => (hSv9.out _ hr11)) ?rest9
 case hy9 => (intro W2 _; go_simp; try with_reducible rfl)
 try simp only [Act.put, List.setIfInBounds_toArray, List.set_cons_zero, List.set_cons_succ, List.getElem_toArray, List.getElem_cons_succ, List.getElem_cons_zero]
 refine wpAnyL_pure (i := 11) (v := ?v10) rfl (by kernel_rfl) (by kernel_rfl) (by kernel_rfl) (by kernel_rfl) (Or.inl ⟨by kernel_rfl, ?hy10⟩) (fun _ => (hSv9.out _ hr11)) ?rest10
 case hy10 => (intro W2 _; go_simp; try with_reducible rfl)
 try simp only [Act.put, List.setIfInBounds_toArray, List.set_cons_zero, List.set_cons_succ, List.getElem_toArray, List.getElem_cons_succ, List.getElem_cons_zero]
 refine wpAnyL_done (by kernel_rfl) ?_ _
 refine OnlyNormal.normal ?_
 have hBf := hb1.trans (hr11.mono hb1.size)
 clear hSv9 hxs9 hr9 hr10 hr11 hM hM2 hMO k0
 go_wp2_with fail
 go_returns
 exact ⟨rfl, hBf⟩

/-- The first j rows and columns. -/
def subM (Q : List (List Rat)) (j : Nat) : List (List Rat) := (Q.take j).map (List.take j)
/-- Is a square matrix symmetric, and are its first determinants positive? -/
def pdB (Q : List (List Rat)) : Bool := decide (∀ i, i < Q.length → ∀ k, k < i → entR Q i k = entR Q k i) && decide (∀ j, j < Q.length → 0 < detR (subM Q (j + 1)))
theorem pdB_sym {Q : List (List Rat)} {i k : Nat} (hi : i < Q.length) (hk : k < i) (h : entR Q i k ≠ entR Q k i) : pdB Q = false := by
 unfold pdB
 rw [decide_eq_false (fun e => h (e i hi k hk))]; rfl
theorem pdB_det {Q : List (List Rat)} {j : Nat} (hj : j < Q.length) (h : ¬ 0 < detR (subM Q (j + 1))) : pdB Q = false := by
 unfold pdB
 rw [decide_eq_false (p := ∀ j, j < Q.length → 0 < detR (subM Q (j + 1))) (fun e => h (e j hj))]; simp
theorem pdB_ok {Q : List (List Rat)} (h1 : ∀ i, i < Q.length → ∀ k, k < i → entR Q i k = entR Q k i) (h2 : ∀ j, j < Q.length → 0 < detR (subM Q (j + 1))) : pdB Q = true := by
 unfold pdB
 rw [decide_eq_true h1, decide_eq_true h2]; rfl
/-- The rows of a part. -/
def partS (rs : List RX) (j i : Nat) : List RS := (rs.take i).map fun r => ⟨r.A, j, r.c⟩
theorem RowS.mfl {tS : TypeId} {w : World} {base : Nat} {v : Value} {rs : List RS} {Q : List (List Rat)} (h : RowS tS w base v rs) (hl : rs.length = Q.length) (hF : ∀ (i : Nat) (r : RS), rs[i]? = some r → FL w r.A r.n r.c (Q[i]?.getD [])) : ∃ A c, v = .slice A rs.length c ∧ MFL w A rs.length c Q := by
 rcases h with ⟨rfl, rfl⟩ | ⟨g, sp, rfl, h2, h3, h4⟩
 · exact ⟨none, 0, rfl, hl.symm, Nat.le_refl _, Nat.zero_le _, fun h => absurd h (by simp)⟩
 · refine ⟨_, _, rfl, hl.symm, by omega, h3, fun _ => ⟨g, 0, rfl, fun k q hq => ?_⟩⟩
   have hk : k < rs.length := by rw [hl]; exact (List.getElem?_eq_some_iff.1 hq).1
   have he := List.getElem?_eq_getElem hk
   refine ⟨rs[k].A, rs[k].n, rs[k].c, ?_, ?_⟩
   · rw [Nat.zero_add, h4.cell]
     exact cellsSA_get (e := rs[k]) (by rw [List.getElem?_append_left hk]; exact he)
   · have := hF k _ he
     rw [hq] at this; exact this
theorem Fr.pos_iff {w : World} {na : Bool} {A : Option Addr} {n c : Nat} {nb : Bool} {B : Option Addr} {m d : Nat} {r : Rat} (h : Fr w na A n c nb B m d r) : (na = false ∧ n ≠ 0) ↔ 0 < r := by
 have h1 := h.1.1
 have h2 := h.zero_iff
 constructor
 · rintro ⟨h3, h4⟩
   rw [h3] at h1
   have h5 : ¬ r.num < 0 := by simpa using h1.symm
   have h6 : r.num ≠ 0 := fun e => h4 (h2.2 (Rat.num_eq_zero.1 e))
   have h7 : 0 ≤ r.num := by omega
   have h8 : 0 ≤ r := Rat.num_nonneg.1 h7
   have h9 : (0 : Rat) ≠ r := fun e => h6 (by rw [← e]; rfl)
   exact Rat.lt_of_le_of_ne h8 h9
 · intro h3
   have h5 := Rat.num_nonneg.2 (Rat.le_of_lt h3)
   refine ⟨by rw [h1]; exact decide_eq_false (by omega), fun e => ?_⟩
   have := h2.1 e
   rw [this] at h3; exact absurd h3 (by decide)

set_option maxRecDepth 100000 in
set_option maxHeartbeats 1000000 in
theorem rPosdef_bad (A : Option Addr) (n c : Nat) (rs : List RX) (w : World) (h : MXL w A n c rs) (E : Int) (hE : sqE rs = E) (h0 : E ≠ 0) :
    Calls Tryz.prog 14 #[.slice A n c] w fun e w' => e = .returned (.tuple #[.bool false, .int .i64 E]) ∧ Below w.heap.size w w' := by
 have t1 : (E == 0) = false := by simpa using h0
 have t1' : decide (E = 0) = false := by simpa using h0
 replace h0 := hide h0
 go_enter Tryz.func14, Tryz.ntmps14
 go_wp2_with fail
 refine (rsquare_any A n c rs w h E hE).mono ?_
 rintro e w1 ⟨rfl, hb1⟩
 go_wp2_with fail
 refine (rsquare_any A n c rs w1 (h.below hb1) E hE).mono ?_
 rintro e w2 ⟨rfl, hb2⟩
 go_wp2_with fail
 go_returns
 exact ⟨rfl, hb1.trans (hb2.mono hb1.size)⟩
end Go.Proofs.YtigdclhagmnopaaGreat
