/- The reference of linear: Posdef of a good matrix. A matrix of whole numbers in blocks of the call's own, whose elements may be written and whose rows may be exchanged. -/
import Derived.Test.YtigdclhagmnopaaGreatZk38
import Derived.Test.YtigdclhagmnopaaGreatZk33
set_option linter.unusedSimpArgs false
set_option linter.unusedVariables false

namespace Go.Proofs.YtigdclhagmnopaaGreat
open Go.RowKit
attribute [local go_sem] add_lit

theorem MXL.gat {w : World} {A : Option Addr} {n c : Nat} {rs : List RX} (h : MXL w A n c rs) (hE : matE rs = 0) {k : Nat} (hk : k < n) : ∃ g o r, A = some ⟨g, o, none⟩ ∧ rs[k]? = some r ∧ w.cell? ⟨g, o + k, none⟩ = some (.slice r.A r.n r.c) ∧ FL w r.A r.n r.c ((qM rs)[k]?.getD []) ∧ r.n = n0R rs := by
 obtain ⟨g, o, r, h1, h2, h3, h4⟩ := h.at_ hk
 have hm := (matE_facts hE).2.2.2.2 r (List.mem_of_getElem? h2)
 refine ⟨g, o, r, h1, h2, h3, ?_, hm.1⟩
 unfold qM
 rw [List.getElem?_map, h2]
 exact h4.fl (fun e he => vecOk_ok hm.2 e he)
theorem sqE_facts {rs : List RX} (h : sqE rs = 0) : matE rs = 0 ∧ rs.length = n0R rs := by
 unfold sqE at h
 split at h
 · rename_i h1
   split at h
   · exact ⟨h1, by assumption⟩
   · exact absurd h (by decide)
 · rename_i h1; exact absurd h h1
theorem partS_len {rs : List RX} {j i : Nat} (hi : i ≤ rs.length) : (partS rs j i).length = i := by
 unfold partS; rw [List.length_map, List.length_take]; omega
theorem partS_succ {rs : List RX} {j i : Nat} {r : RX} (h : rs[i]? = some r) : partS rs j i ++ [⟨r.A, j, r.c⟩] = partS rs j (i + 1) := by
 unfold partS
 rw [List.take_add_one, h]; simp
theorem subM_len {Q : List (List Rat)} {j : Nat} (h : j ≤ Q.length) : (subM Q j).length = j := by unfold subM; rw [List.length_map, List.length_take]; omega
theorem subM_row {Q : List (List Rat)} {j i : Nat} (h : i < j) (hj : j ≤ Q.length) : (subM Q j)[i]?.getD [] = (Q[i]?.getD []).take j := by
 unfold subM
 rw [List.getElem?_map, List.getElem?_take, if_pos h, List.getElem?_eq_getElem (by omega)]; rfl
/-- The part of j rows and columns lies in memory. -/
theorem part_mfl {w : World} {base : Nat} {v : Value} {A : Option Addr} {n c : Nat} {rs : List RX} (h : MXL w A n c rs) (hE : matE rs = 0) {j : Nat} (hj : j ≤ n) (hj2 : j ≤ n0R rs) (hR : RowS 40 w base v (partS rs j j)) : ∃ A c, v = .slice A j c ∧ MFL w A j c (subM (qM rs) j) := by
 have hl := h.1
 have hq : (qM rs).length = n := qM_len h
 have h1 := partS_len (rs := rs) (j := j) (i := j) (by omega)
 obtain ⟨A', c', e, hM⟩ := hR.mfl (Q := subM (qM rs) j) (by rw [h1, subM_len (by omega)]) (fun i r hr => by
  have hi := (List.getElem?_eq_some_iff.1 hr).1
  rw [h1] at hi
  obtain ⟨g, o, r0, -, h2, -, h4, h5⟩ := h.gat hE (k := i) (by omega)
  unfold partS at hr
  rw [List.getElem?_map, List.getElem?_take, if_pos hi, h2] at hr
  cases hr
  rw [subM_row hi (by omega)]
  exact h4.take (show j ≤ r0.n by omega))
 rw [h1] at e hM
 exact ⟨A', c', e, hM⟩

set_option maxRecDepth 100000 in
set_option maxHeartbeats 8000000 in
theorem rPosdef_good (A : Option Addr) (n c : Nat) (rs : List RX) (w : World) (h : MXL w A n c rs) (hE : sqE rs = 0) (h5 : n ≤ 5) (hok : ∀ j, j < n → okR (pw 190) (pw 190) (j + 1) (j + 1) 0 0 (subM (qM rs) (j + 1))) :
    Calls Tryz.prog 14 #[.slice A n c] w fun e w' => e = .returned (.tuple #[.bool (pdB (qM rs)), .int .i64 0]) ∧ Below w.heap.size w w' := by
 obtain ⟨iS, ki, kz0, kz1, kz2⟩ := info_parts infoRow
 have hmx : Tryz.prog.follows .mixedOrders = true := by kernel_rfl
 obtain ⟨hE1, hE2⟩ := sqE_facts hE
 obtain ⟨f1, f2, f3, f4, -⟩ := matE_facts hE1
 have hl := h.1
 have hn0 : 0 < n := by omega
 have hn0R : n0R rs = n := by omega
 have hQl := hide (qM_len h)
 obtain ⟨pd, hpd⟩ : ∃ b, pdB (qM rs) = b := ⟨_, rfl⟩
 rw [hpd]
 replace hpd := hide hpd
 have hrow := hide (fun (W : World) (hb : Below w.heap.size w W) (k : Nat) (hk : k < n) => (h.below hb).gat hE1 hk)
 have hpart := hide (fun (W : World) (hb : Below w.heap.size w W) (v : Value) (j : Nat) (hj : j ≤ n) (hR : RowS 40 W w.heap.size v (partS rs j j)) => part_mfl (h.below hb) hE1 hj (by omega) hR)
 obtain ⟨g0, o0, r00, hA, -, -, -, -⟩ := h.gat hE1 hn0
 subst hA
 replace h := hide h
 replace hok := hide hok
 replace hE1 := hide hE1
 replace hn0R := hide hn0R
 clear f1 f2 f3 f4 hE2 r00
 have hcap : n ≤ c := h.out.2.1
 have hcm : c ≤ maxLen := h.out.2.2.1
 unfold maxLen at hcm
 go_enter Tryz.func14, Tryz.ntmps14
 go_wp2_with fail
 refine (rsquare_any _ n c rs w h.out 0 hE).mono ?_
 rintro e w1 ⟨rfl, hb1⟩
 replace hE := hide hE
 go_wp2_with fail
 go_loopg [4] n (fun k iv wr => ∃ i : Nat, i + k = n ∧ iv = .int .i64 i ∧ Hid (∀ a, a < i → ∀ b, b < a → entR (qM rs) a b = entR (qM rs) b a) ∧ Below w.heap.size w wr)
 case atStart => exact ⟨0, by omega, rfl, hide (fun a ha => by omega), hb1⟩
 case round =>
  obtain ⟨i, hik, rfl, hsy, hB⟩ := hrel
  cases gk with
  | zero =>
   obtain rfl : i = n := by omega
   have t1 : decide ((i : Int) < (i : Int)) = false := by simp
   go_wp2_with fail
   go_loopg [6] i (fun k iv wr => ∃ j : Nat, j + k = i + 1 ∧ iv = .int .i64 j ∧ 1 ≤ j ∧ Hid (∀ t, t + 1 < j → 0 < detR (subM (qM rs) (t + 1))) ∧ Below w.heap.size w wr)
   case atStart => exact ⟨1, by omega, rfl, by omega, hide (fun t ht => by omega), hB⟩
   case round =>
    obtain ⟨j, hjk, rfl, hj1, hdt, hB2⟩ := hrel
    cases gk with
    | zero =>
     obtain rfl : j = i + 1 := by omega
     have t2 : decide (((i + 1 : Nat) : Int) ≤ (i : Int)) = false := decide_eq_false (by omega)
     have t2' : decide ((i : Int) + 1 ≤ (i : Int)) = false := decide_eq_false (by omega)
     have t2'' : decide (i + 1 ≤ i) = false := decide_eq_false (by omega)
     have hpt : pd = true := by rw [← hpd.out]; exact pdB_ok (by rw [hQl.out]; exact hsy.out) (fun t ht => hdt.out t (by rw [hQl.out] at ht; omega))
     subst hpt
     go_wp2_with fail
     go_returns
     exact ⟨rfl, hB2⟩
    | succ gk' =>
     obtain rfl : gk' = i + 1 - (j + 1) := by omega
     have hji : j ≤ i := by omega
     have t2 : decide ((j : Int) ≤ (i : Int)) = true := decide_eq_true (by omega)
     have t2' : decide (j ≤ i) = true := decide_eq_true hji
     go_wp2_with fail
     go_loopg [8, 7] j (fun k iv pv wr => ∃ t : Nat, t + k = j ∧ iv = .int .i64 t ∧ RowS 40 wr w.heap.size pv (partS rs j t) ∧ Below w.heap.size w wr)
     case atStart => exact ⟨0, by omega, rfl, .inl ⟨rfl, by simp [partS]⟩, hB2⟩
     case round =>
      obtain ⟨t, htk, rfl, hR, hB3⟩ := hrel
      cases gk with
      | zero =>
       obtain rfl : t = j := by omega
       have t3 : decide ((t : Int) < (t : Int)) = false := by simp
       obtain ⟨A2, c2, hpv, hMF⟩ := hpart.out wr hB3 _ t (by omega) hR
       subst hpv
       obtain ⟨t', rfl⟩ : ∃ t', t = t' + 1 := ⟨t - 1, by omega⟩
       have hrowl : Hid (∀ a, a < t' + 1 → ((subM (qM rs) (t' + 1))[a]?.getD []).length = t' + 1) := hide (fun a ha => by
        obtain ⟨_, _, r, _, _, _, hf, hrn⟩ := hrow.out wr hB3 a (by omega)
        have := hf.len
        rw [subM_row ha (by rw [hQl.out]; omega), List.length_take, this, hrn, hn0R.out]; omega)
       clear hR
       go_wp2_with fail
       refine (rdet_ok A2 (t' + 1) c2 _ wr hMF (by omega) (by omega) hrowl.out (hok.out t' (by omega))).mono ?_
       rintro e w3 ⟨hb3, n1, A1, k1, c1, m1, B1, j1, d1, rfl, hf3⟩
       obtain ⟨gd, hgd⟩ : ∃ g, w3.heap.size = g := ⟨_, rfl⟩
       obtain ⟨V, hV, hBV, qv, kW, kB, sV⟩ := new_obj 45 #[.bool n1, .slice A1 k1 c1, .bool m1, .slice B1 j1 d1] hb3 hb3.size
       have hf4 := Fr.keep hf3 kW
       have hps := hf4.pos_iff
       have hk1 := hf4.1.2.1
       rw [hgd] at qv
       have hB4 := hide (hB3.trans (hBV.mono hB3.size))
       clear kW kB hf3 hMF hrowl hB3 hb3
       obtain ⟨y0, y1, y2, y3, -⟩ := qv.four
       by_cases hpos : 0 < detR (subM (qM rs) (t' + 1))
       case neg =>
        have hpt : pd = false := by rw [← hpd.out]; exact pdB_det (j := t') (by rw [hQl.out]; omega) hpos
        subst hpt
        have hnp : ¬ (n1 = false ∧ k1 ≠ 0) := fun e => hpos (hps.1 e)
        replace hpos := hide hpos
        clear hps
        cases n1 with
        | true =>
         clear hnp
         go_wp2_with fail
         (try rw [hV])
         go_wp2_with fail
         go_returns
         exact ⟨rfl, hB4.out⟩
        | false =>
         have hk0 : k1 = 0 := Classical.byContradiction fun e => hnp ⟨rfl, e⟩
         have t4 : ((k1 : Int) == 0) = true := by simp [hk0]
         have t4' : decide (k1 = 0) = true := by simpa using hk0
         replace hk0 := hide hk0
         clear hnp
         go_wp2_with fail
         (try rw [hV])
         go_wp2_with fail
         go_returns
         exact ⟨rfl, hB4.out⟩
       obtain ⟨hn1, hk0⟩ := hps.2 hpos
       subst hn1
       have t4 : ((k1 : Int) == 0) = false := by simp; omega
       have t4' : decide (k1 = 0) = false := by simpa using hk0
       replace hk0 := hide hk0
       have hdt2 : Hid (∀ s, s + 1 < t' + 1 + 1 → 0 < detR (subM (qM rs) (s + 1))) := hide (fun s hs => by
        by_cases he : s = t'
        · rw [he]; exact hpos
        · exact hdt.out s (by omega))
       replace hpos := hide hpos
       clear hps
       go_wp2_with fail
       (try rw [hV])
       go_wp2_with fail
       go_roundg (i + 1 - (t' + 1 + 1))
       case measure => omega
       case rel => exact ⟨t' + 1 + 1, by omega, by go_num, by omega, hdt2, hB4.out⟩
      | succ gk' =>
       obtain rfl : gk' = j - (t + 1) := by omega
       have htj : t < j := by omega
       have t3 : decide ((t : Int) < (j : Int)) = true := decide_eq_true (by omega)
       have bt : (t : Int) < (i : Int) := by omega
       obtain ⟨g, o, r, hA, hre, k0, hF, hrn⟩ := hrow.out wr hB3 t (by omega)
       cases hA
       have hc2 := hF.cap
       rw [hrn, hn0R.out] at hc2
       rw [hrn, hn0R.out] at k0
       unfold maxLen at hc2
       have b1 : (j : Int) ≤ (r.c : Int) := by omega
       have b2 : j ≤ r.c := by omega
       have b3 : (0 : Int) ≤ (j : Int) := by omega
       have hll : (partS rs j t).length + 1 ≤ 1000 := by rw [partS_len (by omega)]; omega
       have hbA : Below wr.heap.size wr (wr.alloc (.cells #[.slice r.A j r.c] 40)) := (Below.refl _ _).alloc (Nat.le_refl _) _
       have hown := hR.kept hbA
       have hRA := reads_row wr r.A j r.c 40
       have hbs : w.heap.size ≤ (wr.alloc (.cells #[.slice r.A j r.c] 40)).heap.size := Nat.le_trans hB3.size hbA.size
       have hsu := hide (partS_succ (j := j) hre)
       have hB4 := hide (hB3.trans (hbA.mono hB3.size))
       clear hF hre hbA
       go_wp2_with (at_builtin; refine wpList_append_row _ rfl (.tmp 53) (.tmp 60) 22 rfl w.heap.size 40 iS Tryz.underlying22 ki kz0 kz1 kz2 _ _ rfl hown _ _ 1 1 [⟨r.A, j, r.c⟩] rfl hRA rfl hll hbs ?_; intro v5 w5 hO5 hg5 hk5)
       rw [hsu.out] at hO5
       have hB5 := hB4.out.grown hg5 hbs (fun k hk => hown.row_ge k hk)
       go_roundg (j - (t + 1))
       case measure => omega
       case rel => exact ⟨t + 1, by omega, by go_num, hO5, hB5⟩
  | succ gk' =>
   obtain rfl : gk' = n - (i + 1) := by omega
   have hin : i < n := by omega
   have t1 : decide ((i : Int) < (n : Int)) = true := decide_eq_true (by omega)
   have bi : (i : Int) < (n : Int) := by omega
   go_wp2_with fail
   go_loopg [5] i (fun k iv wr => ∃ j : Nat, j + k = i ∧ iv = .int .i64 j ∧ Hid (∀ b, b < j → entR (qM rs) i b = entR (qM rs) b i) ∧ Below w.heap.size w wr)
   case atStart => exact ⟨0, by omega, rfl, hide (fun b hb => by omega), hB⟩
   case round =>
    clear hB
    obtain ⟨j, hjk, rfl, hsj, hB⟩ := hrel
    cases gk with
    | zero =>
     obtain rfl : j = i := by omega
     have t2 : decide ((j : Int) < (j : Int)) = false := by simp
     have hsy2 : Hid (∀ a, a < j + 1 → ∀ b, b < a → entR (qM rs) a b = entR (qM rs) b a) := hide (fun a ha b hb => by
      by_cases he : a = j
      · subst he; exact hsj.out b hb
      · exact hsy.out a (by omega) b hb)
     go_wp2_with fail
     go_roundg (n - (j + 1))
     case measure => omega
     case rel => exact ⟨j + 1, by omega, by go_num, hsy2, hB⟩
    | succ gk' =>
     obtain rfl : gk' = i - (j + 1) := by omega
     have hji : j < i := by omega
     have t2 : decide ((j : Int) < (i : Int)) = true := decide_eq_true (by omega)
     have bj : (j : Int) < (n : Int) := by omega
     obtain ⟨g, o, r, hA, -, k0, hF, hrn⟩ := hrow.out wr hB i hin
     cases hA
     obtain ⟨g, o, r', hA, -, k0', hF', hrn'⟩ := hrow.out wr hB j (by omega)
     cases hA
     rw [hn0R.out] at hrn hrn'
     obtain ⟨g1, o1, n1, A1, k1, c1, m1, B1, j1, d1, hA1, ⟨p0, p1, p2, p3⟩, hf1⟩ := hF.at_ (k := j) (by omega)
     obtain ⟨g2, o2, n2, A2, k2, c2, m2, B2, j2, d2, hA2, ⟨q0, q1, q2, q3⟩, hf2⟩ := hF'.at_ (k := i) (by omega)
     have hc1 := hF.cap
     have hc2 := hF'.cap
     rw [hrn] at hc1
     rw [hrn'] at hc2
     unfold maxLen at hc1 hc2
     rw [hrn, hA1] at k0
     rw [hrn', hA2] at k0'
     have hf1 : Fr wr n1 A1 k1 c1 m1 B1 j1 d1 (entR (qM rs) i j) := hf1
     have hf2 : Fr wr n2 A2 k2 c2 m2 B2 j2 d2 (entR (qM rs) j i) := hf2
     obtain ⟨rc, hrc⟩ : ∃ x, r.c = x := ⟨_, rfl⟩
     obtain ⟨rc', hrc'⟩ : ∃ x, r'.c = x := ⟨_, rfl⟩
     rw [hrc] at k0 hc1
     rw [hrc'] at k0' hc2
     obtain ⟨s, hs⟩ : ∃ s, decide (entR (qM rs) i j = entR (qM rs) j i) = s := ⟨_, rfl⟩
     replace hrc := hide hrc
     replace hrc' := hide hrc'
     replace hs := hide hs
     clear hF hF' hrn hrn' hA1 hA2
     go_wp2_with fail
     have hSv9 : Hid (∀ wx, Below wr.heap.size wr wx → wx.cell? ⟨g0, o0 + i, none⟩ = some (.slice (some ⟨g1, o1, none⟩) n rc) ∧ wx.cell? ⟨g1, o1 + j * 4, none⟩ = some (.bool n1) ∧ wx.cell? ⟨g1, o1 + j * 4 + 1, none⟩ = some (.slice A1 k1 c1) ∧ wx.cell? ⟨g1, o1 + j * 4 + 2, none⟩ = some (.bool m1) ∧ wx.cell? ⟨g1, o1 + j * 4 + 3, none⟩ = some (.slice B1 j1 d1) ∧ wx.cell? ⟨g0, o0 + j, none⟩ = some (.slice (some ⟨g2, o2, none⟩) n rc') ∧ wx.cell? ⟨g2, o2 + i * 4, none⟩ = some (.bool n2) ∧ wx.cell? ⟨g2, o2 + i * 4 + 1, none⟩ = some (.slice A2 k2 c2) ∧ wx.cell? ⟨g2, o2 + i * 4 + 2, none⟩ = some (.bool m2) ∧ wx.cell? ⟨g2, o2 + i * 4 + 3, none⟩ = some (.slice B2 j2 d2)) := hide (fun wx hbx => ⟨keep_cell hbx k0, keep_cell hbx p0, keep_cell hbx p1, keep_cell hbx p2, keep_cell hbx p3, keep_cell hbx k0', keep_cell hbx q0, keep_cell hbx q1, keep_cell hbx q2, keep_cell hbx q3⟩)
     have hr9 : Below wr.heap.size wr wr.drew := below_dn (Below.refl _ _) 1
     refine wp_held [] (fun wx => wx.cell? ⟨g0, o0 + i, none⟩ = some (.slice (some ⟨g1, o1, none⟩) n rc) ∧ wx.cell? ⟨g1, o1 + j * 4, none⟩ = some (.bool n1) ∧ wx.cell? ⟨g1, o1 + j * 4 + 1, none⟩ = some (.slice A1 k1 c1) ∧ wx.cell? ⟨g1, o1 + j * 4 + 2, none⟩ = some (.bool m1) ∧ wx.cell? ⟨g1, o1 + j * 4 + 3, none⟩ = some (.slice B1 j1 d1) ∧ wx.cell? ⟨g0, o0 + j, none⟩ = some (.slice (some ⟨g2, o2, none⟩) n rc') ∧ wx.cell? ⟨g2, o2 + i * 4, none⟩ = some (.bool n2) ∧ wx.cell? ⟨g2, o2 + i * 4 + 1, none⟩ = some (.slice A2 k2 c2) ∧ wx.cell? ⟨g2, o2 + i * 4 + 2, none⟩ = some (.bool m2) ∧ wx.cell? ⟨g2, o2 + i * 4 + 3, none⟩ = some (.slice B2 j2 d2)) hmx (hSv9.out _ hr9) (fun hxs9 => ?_)
     refine wpAnyL_take (i := 0) (v := ?v1) rfl (by kernel_rfl) (by kernel_rfl) (by kernel_rfl) (by kernel_rfl) (by kernel_rfl) (Or.inl ⟨by kernel_rfl, ?hy1⟩) (hSv9.out _ hr9) ?rest1
     case hy1 => (intro W2 hSw; (try dsimp only at hSw); go_simp; try with_reducible rfl)
     try simp only [Act.put, List.setIfInBounds_toArray, List.set_cons_zero, List.set_cons_succ, List.getElem_toArray, List.getElem_cons_succ, List.getElem_cons_zero]
     refine wpAnyL_take (i := 1) (v := ?v2) rfl (by kernel_rfl) (by kernel_rfl) (by kernel_rfl) (by kernel_rfl) (by kernel_rfl) (Or.inl ⟨by kernel_rfl, ?hy2⟩) (hSv9.out _ hr9) ?rest2
     case hy2 => (intro W2 hSw; (try dsimp only at hSw); go_simp; try with_reducible rfl)
     try simp only [Act.put, List.setIfInBounds_toArray, List.set_cons_zero, List.set_cons_succ, List.getElem_toArray, List.getElem_cons_succ, List.getElem_cons_zero]
     refine wpAnyL_take (i := 2) (v := ?v3) rfl (by kernel_rfl) (by kernel_rfl) (by kernel_rfl) (by kernel_rfl) (by kernel_rfl) (Or.inl ⟨by kernel_rfl, ?hy3⟩) (hSv9.out _ hr9) ?rest3
     case hy3 => (intro W2 hSw; (try dsimp only at hSw); go_simp; try with_reducible rfl)
     try simp only [Act.put, List.setIfInBounds_toArray, List.set_cons_zero, List.set_cons_succ, List.getElem_toArray, List.getElem_cons_succ, List.getElem_cons_zero]
     refine wpAnyL_take (i := 3) (v := ?v4) rfl (by kernel_rfl) (by kernel_rfl) (by kernel_rfl) (by kernel_rfl) (by kernel_rfl) (Or.inl ⟨by kernel_rfl, ?hy4⟩) (hSv9.out _ hr9) ?rest4
     case hy4 => (intro W2 hSw; (try dsimp only at hSw); go_simp; try with_reducible rfl)
     try simp only [Act.put, List.setIfInBounds_toArray, List.set_cons_zero, List.set_cons_succ, List.getElem_toArray, List.getElem_cons_succ, List.getElem_cons_zero]
     refine wpAnyL_take (i := 4) (v := ?v5) rfl (by kernel_rfl) (by kernel_rfl) (by kernel_rfl) (by kernel_rfl) (by kernel_rfl) (Or.inl ⟨by kernel_rfl, ?hy5⟩) (hSv9.out _ hr9) ?rest5
     case hy5 => (intro W2 hSw; (try dsimp only at hSw); go_simp; try with_reducible rfl)
     try simp only [Act.put, List.setIfInBounds_toArray, List.set_cons_zero, List.set_cons_succ, List.getElem_toArray, List.getElem_cons_succ, List.getElem_cons_zero]
     refine wpAnyL_take (i := 5) (v := ?v6) rfl (by kernel_rfl) (by kernel_rfl) (by kernel_rfl) (by kernel_rfl) (by kernel_rfl) (Or.inl ⟨by kernel_rfl, ?hy6⟩) (hSv9.out _ hr9) ?rest6
     case hy6 => (intro W2 hSw; (try dsimp only at hSw); go_simp; try with_reducible rfl)
     try simp only [Act.put, List.setIfInBounds_toArray, List.set_cons_zero, List.set_cons_succ, List.getElem_toArray, List.getElem_cons_succ, List.getElem_cons_zero]
     refine wpAnyL_take (i := 6) (v := ?v7) rfl (by kernel_rfl) (by kernel_rfl) (by kernel_rfl) (by kernel_rfl) (by kernel_rfl) (Or.inl ⟨by kernel_rfl, ?hy7⟩) (hSv9.out _ hr9) ?rest7
     case hy7 => (intro W2 hSw; (try dsimp only at hSw); go_simp; try with_reducible rfl)
     try simp only [Act.put, List.setIfInBounds_toArray, List.set_cons_zero, List.set_cons_succ, List.getElem_toArray, List.getElem_cons_succ, List.getElem_cons_zero]
     refine wpAnyL_take (i := 7) (v := ?v8) rfl (by kernel_rfl) (by kernel_rfl) (by kernel_rfl) (by kernel_rfl) (by kernel_rfl) (Or.inl ⟨by kernel_rfl, ?hy8⟩) (hSv9.out _ hr9) ?rest8
     case hy8 => (intro W2 hSw; (try dsimp only at hSw); go_simp; try with_reducible rfl)
     try simp only [Act.put, List.setIfInBounds_toArray, List.set_cons_zero, List.set_cons_succ, List.getElem_toArray, List.getElem_cons_succ, List.getElem_cons_zero]
     refine wpAnyL_take (i := 8) (v := ?v9) rfl (by kernel_rfl) (by kernel_rfl) (by kernel_rfl) (by kernel_rfl) (by kernel_rfl) (Or.inl ⟨by kernel_rfl, ?hy9⟩) (hSv9.out _ hr9) ?rest9
     case hy9 => (intro W2 hSw; (try dsimp only at hSw); go_simp; try with_reducible rfl)
     try simp only [Act.put, List.setIfInBounds_toArray, List.set_cons_zero, List.set_cons_succ, List.getElem_toArray, List.getElem_cons_succ, List.getElem_cons_zero]
     refine wpAnyL_take (i := 9) (v := ?v10) rfl (by kernel_rfl) (by kernel_rfl) (by kernel_rfl) (by kernel_rfl) (by kernel_rfl) (Or.inl ⟨by kernel_rfl, ?hy10⟩) (hSv9.out _ hr9) ?rest10
     case hy10 => (intro W2 hSw; (try dsimp only at hSw); go_simp; try with_reducible rfl)
     try simp only [Act.put, List.setIfInBounds_toArray, List.set_cons_zero, List.set_cons_succ, List.getElem_toArray, List.getElem_cons_succ, List.getElem_cons_zero]
     refine wpAnyL_take (i := 10) (v := ?v11) rfl (by kernel_rfl) (by kernel_rfl) (by kernel_rfl) (by kernel_rfl) (by kernel_rfl) (Or.inl ⟨by kernel_rfl, ?hy11⟩) (hSv9.out _ hr9) ?rest11
     case hy11 => (intro W2 hSw; (try dsimp only at hSw); go_simp; try with_reducible rfl)
     try simp only [Act.put, List.setIfInBounds_toArray, List.set_cons_zero, List.set_cons_succ, List.getElem_toArray, List.getElem_cons_succ, List.getElem_cons_zero]
     refine wpAnyL_take (i := 11) (v := ?v12) rfl (by kernel_rfl) (by kernel_rfl) (by kernel_rfl) (by kernel_rfl) (by kernel_rfl) (Or.inl ⟨by kernel_rfl, ?hy12⟩) (hSv9.out _ hr9) ?rest12
     case hy12 => (intro W2 hSw; (try dsimp only at hSw); go_simp; try with_reducible rfl)
     try simp only [Act.put, List.setIfInBounds_toArray, List.set_cons_zero, List.set_cons_succ, List.getElem_toArray, List.getElem_cons_succ, List.getElem_cons_zero]
     refine wpAnyL_take (i := 12) (v := ?v13) rfl (by kernel_rfl) (by kernel_rfl) (by kernel_rfl) (by kernel_rfl) (by kernel_rfl) (Or.inl ⟨by kernel_rfl, ?hy13⟩) (hSv9.out _ hr9) ?rest13
     case hy13 => (intro W2 hSw; (try dsimp only at hSw); go_simp; try with_reducible rfl)
     try simp only [Act.put, List.setIfInBounds_toArray, List.set_cons_zero, List.set_cons_succ, List.getElem_toArray, List.getElem_cons_succ, List.getElem_cons_zero]
     refine wpAnyL_take (i := 13) (v := ?v14) rfl (by kernel_rfl) (by kernel_rfl) (by kernel_rfl) (by kernel_rfl) (by kernel_rfl) (Or.inl ⟨by kernel_rfl, ?hy14⟩) (hSv9.out _ hr9) ?rest14
     case hy14 => (intro W2 hSw; (try dsimp only at hSw); go_simp; try with_reducible rfl)
     try simp only [Act.put, List.setIfInBounds_toArray, List.set_cons_zero, List.set_cons_succ, List.getElem_toArray, List.getElem_cons_succ, List.getElem_cons_zero]
     refine wpAnyL_one (i := 14) rfl (by kernel_rfl) (fun K hK => ?_)
     go_simp
     refine (rfSame_any n1 m1 n2 m2 A1 B1 A2 B2 k1 c1 j1 d1 k2 c2 j2 d2 _ _ wr.drew (hf1.below hr9) (hf2.below hr9) s hs.out).mono ?_
     rintro e w5 ⟨rfl, hb5⟩
     have hr10 := hr9.trans (hb5.mono hr9.size)
     refine hK.out _ _ (fun _ => hSv9.out _ hr10) ?_
     clear hK K
     try simp only [Act.put, List.setIfInBounds_toArray, List.set_cons_zero, List.set_cons_succ]
     refine wpAnyL_pure (i := 15) (v := ?v15) rfl (by kernel_rfl) (by kernel_rfl) (by kernel_rfl) (by kernel_rfl) (Or.inl ⟨by kernel_rfl, ?hy15⟩) (fun _ => (hSv9.out _ hr10)) ?rest15
     case hy15 => (intro W2 _; go_simp; try with_reducible rfl)
     try simp only [Act.put, List.setIfInBounds_toArray, List.set_cons_zero, List.set_cons_succ, List.getElem_toArray, List.getElem_cons_succ, List.getElem_cons_zero]
     refine wpAnyL_done (by kernel_rfl) ?_ _
     refine OnlyNormal.normal ?_
     have hBf := hide (hB.trans (hr10.mono hB.size))
     clear hSv9 hxs9 hr9 hr10 hb5 k0 k0' p0 p1 p2 p3 q0 q1 q2 q3 hf1 hf2
     cases s with
     | false =>
      have hpt : pd = false := by rw [← hpd.out]; exact pdB_sym (i := i) (k := j) (by rw [hQl.out]; exact hin) hji (by simpa using hs.out)
      subst hpt
      go_wp2_with fail
      go_returns
      exact ⟨rfl, hBf.out⟩
     | true =>
      have hsj2 : Hid (∀ b, b < j + 1 → entR (qM rs) i b = entR (qM rs) b i) := hide (fun b hb => by
       by_cases he : b = j
       · rw [he]; simpa using hs.out
       · exact hsj.out b (by omega))
      go_wp2_with fail
      go_roundg (i - (j + 1))
      case measure => omega
      case rel => exact ⟨j + 1, by omega, by go_num, hsj2, hBf.out⟩
end Go.Proofs.YtigdclhagmnopaaGreat

namespace Go.Proofs.YtigdclhagmnopaaGreat
open Go.RowKit

/-- A row of numbers in a block of the call's own. -/
structure RZ where
 g : Nat
 q : List Int
def RZ.rs (r : RZ) : RS := ⟨some ⟨r.g, 0, none⟩, r.q.length, r.q.length⟩
def MatZ (tS tF : TypeId) (w : World) (go : Nat) (L : List RZ) : Prop :=
 (∃ zs, Blk w go tS (cellsSA (L.map RZ.rs ++ zs))) ∧ (∀ r ∈ L, POwn tF w r.g r.q ∧ r.q.length ≤ maxLen) ∧ (go :: L.map RZ.g).Nodup
section
variable {tS tF : TypeId} {w w' : World} {go : Nat} {L : List RZ}
theorem MatZ.below (h : MatZ tS tF w go L) (hb : Below w.heap.size w w') : MatZ tS tF w' go L := by
 obtain ⟨⟨zs, h1⟩, h2, h3⟩ := h
 exact ⟨⟨zs, keep_blk hb h1⟩, fun r hr => ⟨(h2 r hr).1.below hb, (h2 r hr).2⟩, h3⟩
theorem MatZ.cell (h : MatZ tS tF w go L) {i : Nat} {r : RZ} (hr : L[i]? = some r) : w.cell? ⟨go, i, none⟩ = some (.slice (some ⟨r.g, 0, none⟩) r.q.length r.q.length) ∧ w.frozen? ⟨go, i, none⟩ = false := by
 obtain ⟨⟨zs, h1⟩, -, -⟩ := h
 refine ⟨?_, h1.frozen i⟩
 rw [h1.cell]
 refine cellsSA_get (e := r.rs) ?_
 have hi := (List.getElem?_eq_some_iff.1 hr).1
 rw [List.getElem?_append_left (by simpa using hi), List.getElem?_map, hr]; rfl
theorem MatZ.row (h : MatZ tS tF w go L) {i : Nat} {r : RZ} (hr : L[i]? = some r) : POwn tF w r.g r.q ∧ r.q.length ≤ maxLen := h.2.1 r (List.mem_of_getElem? hr)
theorem MatZ.ne (h : MatZ tS tF w go L) {i : Nat} {r : RZ} (hr : L[i]? = some r) : go ≠ r.g := fun e => by
 have := (List.nodup_cons.1 h.2.2).1
 exact this (List.mem_map.2 ⟨r, List.mem_of_getElem? hr, e.symm⟩)
theorem MatZ.ne2 (h : MatZ tS tF w go L) {i j : Nat} {r s : RZ} (hr : L[i]? = some r) (hs : L[j]? = some s) (hij : i ≠ j) : r.g ≠ s.g := fun e => by
 have hn := (List.nodup_cons.1 h.2.2).2
 have h1 : (L.map RZ.g)[i]? = some r.g := by rw [List.getElem?_map, hr]; rfl
 have h2 : (L.map RZ.g)[j]? = some r.g := by rw [List.getElem?_map, hs, e]; rfl
 exact hij ((List.getElem?_inj (by have := (List.getElem?_eq_some_iff.1 h1).1; exact this) hn).1 (h1.trans h2.symm))
theorem MatZ.boxes (h : MatZ tS tF w go L) : ∀ k, (k = go ∨ k ∈ L.map RZ.g) → ∃ t cs, Blk w k t cs ∧ NoLimb cs := by
 intro k hk
 obtain ⟨⟨zs, h1⟩, h2, -⟩ := h
 rcases hk with rfl | hk
 · exact ⟨tS, _, h1, cellsSA_noLimb _⟩
 · obtain ⟨r, hr, rfl⟩ := List.mem_map.1 hk
   exact (h2 r hr).1.box
/-- A store of an element. -/
theorem MatZ.set_ (h : MatZ tS tF w go L) {i : Nat} {r : RZ} (hr : L[i]? = some r) {k : Nat} (hk : k < r.q.length) {na : Bool} {A : Option Addr} {n c : Nat} {x : Int} (hf : Wd w na A n c x) :
    MatZ tS tF ((w.setCell ⟨r.g, k * 2, none⟩ (.bool na)).setCell ⟨r.g, k * 2 + 1, none⟩ (.slice A n c)) go (L.set i ⟨r.g, r.q.set k x⟩) := by
 have hne := h.ne hr
 have hne2 := fun {j : Nat} {s : RZ} (hs : L[j]? = some s) (hij : j ≠ i) => h.ne2 hs hr hij
 have hrow := h.row hr
 have hi := (List.getElem?_eq_some_iff.1 hr).1
 obtain ⟨⟨zs, h1⟩, h2, h3⟩ := h
 refine ⟨⟨zs, ?_⟩, fun s hs => ?_, ?_⟩
 · have e : (L.set i ⟨r.g, r.q.set k x⟩).map RZ.rs = L.map RZ.rs := by
     rw [List.map_set]
     apply List.ext_getElem?
     intro j
     rw [List.getElem?_set]
     by_cases hij : i = j
     · subst hij
       rw [if_pos rfl, if_pos (by simpa using hi), List.getElem?_map, hr]
       simp [RZ.rs]
     · rw [if_neg hij]
   rw [e]
   exact (h1.far hne _).far hne _
 · obtain ⟨j, hj, hjs⟩ := List.getElem_of_mem hs
   have hs2 : (L.set i ⟨r.g, r.q.set k x⟩)[j]? = some s := by rw [List.getElem?_eq_getElem hj, hjs]
   rw [List.getElem?_set] at hs2
   by_cases hij : i = j
   · subst hij
     rw [if_pos rfl, if_pos hi] at hs2
     cases hs2
     exact ⟨hrow.1.set_ hk hf, by simpa using hrow.2⟩
   · rw [if_neg hij] at hs2
     have := h2 s (List.mem_of_getElem? hs2)
     exact ⟨this.1.other hrow.1 (hne2 hs2 (Ne.symm hij)) _ _ _ _ _, this.2⟩
 · have e : (L.set i ⟨r.g, r.q.set k x⟩).map RZ.g = L.map RZ.g := by
     rw [List.map_set]
     apply List.ext_getElem?
     intro j
     rw [List.getElem?_set]
     by_cases hij : i = j
     · subst hij
       rw [if_pos rfl, if_pos (by simpa using hi), List.getElem?_map, hr]; rfl
     · rw [if_neg hij]
   rw [e]; exact h3
/-- Two rows are exchanged. -/
theorem MatZ.swap (h : MatZ tS tF w go L) {i j : Nat} {r s : RZ} (hr : L[i]? = some r) (hs : L[j]? = some s) :
    MatZ tS tF ((w.setCell ⟨go, i, none⟩ (.slice (some ⟨s.g, 0, none⟩) s.q.length s.q.length)).setCell ⟨go, j, none⟩ (.slice (some ⟨r.g, 0, none⟩) r.q.length r.q.length)) go (swapL L i j) := by
 have hi := (List.getElem?_eq_some_iff.1 hr).1
 have hj := (List.getElem?_eq_some_iff.1 hs).1
 have hne := fun {j : Nat} {s : RZ} (hs : L[j]? = some s) => h.ne hs
 obtain ⟨⟨zs, h1⟩, h2, h3⟩ := h
 have hb1 := h1.set_ i (.slice (some ⟨s.g, 0, none⟩) s.q.length s.q.length)
 have hn1 : NoLimb ((cellsSA (L.map RZ.rs ++ zs)).setIfInBounds i (.slice (some ⟨s.g, 0, none⟩) s.q.length s.q.length)) := noLimb_set (cellsSA_noLimb _) i (fun x => by simp)
 have hb2 := hb1.set_ j (.slice (some ⟨r.g, 0, none⟩) r.q.length r.q.length)
 have hk : ∀ (A : Option Addr) (n c : Nat) (l : List Nat), Lim w A n c l → Lim ((w.setCell ⟨go, i, none⟩ (.slice (some ⟨s.g, 0, none⟩) s.q.length s.q.length)).setCell ⟨go, j, none⟩ (.slice (some ⟨r.g, 0, none⟩) r.q.length r.q.length)) A n c l :=
  fun A n c l hl => (hl.set_box h1 (cellsSA_noLimb _) _ _).set_box hb1 hn1 _ _
 refine ⟨⟨zs, ?_⟩, fun x hx => ?_, ?_⟩
 · have e : cellsSA ((swapL L i j).map RZ.rs ++ zs) = ((cellsSA (L.map RZ.rs ++ zs)).setIfInBounds i (.slice (some ⟨s.g, 0, none⟩) s.q.length s.q.length)).setIfInBounds j (.slice (some ⟨r.g, 0, none⟩) r.q.length r.q.length) := by
     have e1 := cellsSA_set (es := L.map RZ.rs ++ zs) (i := i) s.rs
     have e2 := cellsSA_set (es := (L.map RZ.rs ++ zs).set i s.rs) (i := j) r.rs
     simp only [RZ.rs] at e1 e2
     rw [e1, e2, swapL_eq hr hs]
     congr 1
     rw [List.map_set, List.map_set, List.set_append_left _ _ (by simpa using hi), List.set_append_left _ _ (by simpa using hj)]
     rfl
   rw [e]
   exact hb2
 · have hx2 := swapL_perm L i j x hx
   obtain ⟨es, q1, q2, q3⟩ := (h2 x hx2).1
   obtain ⟨k, hk1, hk2⟩ := List.getElem_of_mem hx2
   have hgx : x.g ≠ go := Ne.symm (hne (j := k) (s := x) (by rw [List.getElem?_eq_getElem hk1, hk2]))
   exact ⟨⟨es, (q1.far hgx _).far hgx _, fun e he => ⟨hk _ _ _ _ (q2 e he).1, (q2 e he).2⟩, q3⟩, (h2 x hx2).2⟩
 · rw [List.nodup_cons] at h3 ⊢
   rw [swapL_map]
   refine ⟨fun hm => h3.1 (swapL_perm _ _ _ _ hm), swapL_nodup h3.2 (by simpa using hi) (by simpa using hj)⟩
theorem MatZ.keptG {G : Nat → Prop} (h : MatZ tS tF w go L) (hk : Kept G w w') (hg : ¬ G go) (hgs : ∀ r ∈ L, ¬ G r.g) (hG : ∀ k, G k → ∃ t cs, Blk w k t cs ∧ NoLimb cs) : MatZ tS tF w' go L := by
 obtain ⟨⟨zs, h1⟩, h2, h3⟩ := h
 refine ⟨⟨zs, hk.blk h1 hg⟩, fun r hr => ⟨?_, (h2 r hr).2⟩, h3⟩
 obtain ⟨es, q1, q2, q3⟩ := (h2 r hr).1
 exact ⟨es, hk.blk q1 (hgs r hr), fun e he => ⟨hk.lim (q2 e he).1 hG, (q2 e he).2⟩, q3⟩
end


/-- The row i of a matrix. -/
def rowZQ (L : List RZ) (i : Nat) : List Int := (L[i]?.map RZ.q).getD []
theorem rowZQ_of {L : List RZ} {i : Nat} {r : RZ} (h : L[i]? = some r) : rowZQ L i = r.q := by unfold rowZQ; rw [h]; rfl
theorem entZ_row (L : List RZ) (i j : Nat) : entZ (L.map RZ.q) i j = (rowZQ L i)[j]?.getD 0 := by unfold entZ rowZQ; rw [List.getElem?_map]
theorem rowZQ_map (L : List RZ) (i : Nat) : rowZQ L i = (L.map RZ.q)[i]?.getD [] := by unfold rowZQ; rw [List.getElem?_map]
theorem rowZQ_set {L : List RZ} {i j : Nat} {r : RZ} (hi : i < L.length) : rowZQ (L.set i r) j = if j = i then r.q else rowZQ L j := by
 unfold rowZQ
 rw [List.getElem?_set]
 by_cases h : i = j
 · subst h; rw [if_pos rfl, if_pos hi, if_pos rfl]; rfl
 · rw [if_neg h, if_neg (Ne.symm h)]
theorem map_z_of {L : List RZ} {R : List (List Int)} (hl : L.length = R.length) (h : ∀ i, i < R.length → rowZQ L i = R[i]?.getD []) : L.map RZ.q = R := by
 apply List.ext_getElem?
 intro i
 rw [List.getElem?_map]
 by_cases hi : i < R.length
 · have := h i hi
   unfold rowZQ at this
   rw [List.getElem?_eq_getElem (show i < L.length by omega), List.getElem?_eq_getElem hi] at this ⊢
   simp only [Option.map_some, Option.getD_some] at this ⊢
   rw [this]
 · rw [List.getElem?_eq_none (by omega), List.getElem?_eq_none (by omega)]; rfl
theorem clearZ_get {R : List (List Int)} {r col i : Nat} {last : Int} (hi : i < R.length) : (clearZ R r col last)[i]?.getD [] = if i ≤ r then R[i]?.getD [] else rowZ (R[r]?.getD []) (R[i]?.getD []) col (entZ R r col) last := by
 unfold clearZ
 rw [List.getElem?_map, List.getElem?_range hi]; rfl
theorem rowZ_eq {p row q : List Int} {col : Nat} {piv last : Int} (hl : q.length = row.length) (h : ∀ t, q[t]?.getD 0 = if t < row.length then Int.fdiv (row[t]?.getD 0 * piv - row[col]?.getD 0 * p[t]?.getD 0) last else row[t]?.getD 0) : q = rowZ p row col piv last := by
 apply List.ext_getElem?
 intro t
 unfold rowZ
 rw [List.getElem?_map]
 have := h t
 by_cases ht : t < row.length
 · rw [List.getElem?_range ht]
   rw [List.getElem?_eq_getElem (show t < q.length by omega)] at this ⊢
   simp only [Option.map_some, Option.getD_some] at this ⊢
   rw [this, if_pos ht]
 · rw [List.getElem?_eq_none (by omega), List.getElem?_eq_none (l := List.range _) (by simpa using ht)]; rfl
theorem rowz_step {row q : List Int} {k : Nat} {x : Int} {f : Nat → Int} (hl : q.length = row.length) (hkl : k < row.length) (hx : x = f k) (h : ∀ t, q[t]?.getD 0 = if t < k then f t else row[t]?.getD 0) :
    ∀ t, (q.set k x)[t]?.getD 0 = if t < k + 1 then f t else row[t]?.getD 0 := by
 intro t
 rw [List.getElem?_set]
 by_cases ht : k = t
 · subst ht
   rw [if_pos rfl, if_pos (by omega), if_pos (by omega), hx]; rfl
 · rw [if_neg ht, h t]
   by_cases h1 : t < k
   · rw [if_pos h1, if_pos (by omega)]
   · rw [if_neg h1, if_neg (by omega)]
end Go.Proofs.YtigdclhagmnopaaGreat
