/- The reference of layer 4: Times, Mul. -/
import Derived.Test.YtljocgdhdilglaaS4
namespace Go.Proofs.Ytljocgdhdilglaa
open Go.RowKit
attribute [local go_sem] add_lit

theorem trimP_length (xs : List Int) : (trimP xs).length ≤ xs.length := by
  induction xs with
  | nil => simp [trimP]
  | cons x l ih =>
    rw [trimP]
    cases h : trimP l with
    | nil => dsimp only; split <;> simp
    | cons y m => rw [h] at ih; simpa using ih
theorem mulP_zero {xs ys : List Int} (h : xs.length = 0 ∨ ys.length = 0) : trimP (mulP xs ys) = [] := by
  have hz : ∀ j, 0 ≤ j → (mulP xs ys)[j]?.getD 0 = 0 := fun j _ => by
    unfold mulP
    rw [List.getElem?_map]
    rcases Option.eq_none_or_eq_some (List.range (xs.length + ys.length - 1))[j]? with h' | ⟨v, h'⟩
    · rw [h']; rfl
    · rw [h']
      show coP xs ys v = 0
      unfold coP
      refine psum_zero fun i _ => ?_
      rcases h with h | h
      · rw [List.eq_nil_of_length_eq_zero h]; simp
      · rw [List.eq_nil_of_length_eq_zero h]; simp
  rw [trimP_take hz (.inl rfl), List.take_zero]

set_option maxRecDepth 100000 in
set_option maxHeartbeats 2000000 in
theorem sTimes_any (A B : Option Addr) (n c m d : Nat) (ps qs : List WE) (w : World) (hp : WL w A n c ps) (hq : WL w B m d qs) (kp : pOk ps = true) (kq : pOk qs = true) :
    Calls Try.prog 32 #[.slice A n c, .slice B m d] w (OutP w (trimP (mulP (ps.map WE.num) (qs.map WE.num)))) := by
  obtain ⟨iw, hi, hz0, hz1, hz2⟩ := info_parts infoW
  obtain ⟨hn9, hpk⟩ := pOk_parts kp
  obtain ⟨hm9, hqk⟩ := pOk_parts kq
  have hpo := hide (fun e he => (hpk e he).1)
  have hqo := hide (fun e he => (hqk e he).1)
  clear hpk hqk
  have hxb := hide (pOk_small hp kp)
  have hyb := hide (pOk_small hq kq)
  rw [hp.len] at hn9
  rw [hq.len] at hm9
  have hxl : Hid ((ps.map WE.num).length = n) := by unfold Hid; rw [List.length_map]; exact hp.len
  have hyl : Hid ((qs.map WE.num).length = m) := by unfold Hid; rw [List.length_map]; exact hq.len
  clear kp kq
  obtain ⟨xs, hxs⟩ : ∃ xs, ps.map WE.num = xs := ⟨_, rfl⟩
  obtain ⟨ys, hys⟩ : ∃ ys, qs.map WE.num = ys := ⟨_, rfl⟩
  rw [hxs] at hxb hxl ⊢
  rw [hys] at hyb hyl ⊢
  have hsx : Hid (ps.map WE.num = xs) := hxs
  have hsy : Hid (qs.map WE.num = ys) := hys
  clear hxs hys
  have hsat : Hid (∀ (W : World) (i : Nat), WL W A n c ps → i ≤ 1000 → Calls Try.prog 26 #[.slice A n c, .int .i64 i] W (NumW W (xs[i]?.getD 0))) := fun W i h hi => by rw [← hsx.out]; exact sat_any A n c i ps W h hpo.out hi
  have hsat' : Hid (∀ (W : World) (i k : Nat), WL W B m d qs → i ≤ 1000 → k ≤ i → Calls Try.prog 26 #[.slice B m d, .int .i64 ((i : Int) - (k : Int))] W (NumW W (ys[i - k]?.getD 0))) := fun W i k h hi hk => by rw [← hsy.out, show (i : Int) - (k : Int) = ((i - k : Nat) : Int) by omega]; exact sat_any B m d (i - k) qs W h hqo.out (by omega)
  go_enter Try.func32, Try.ntmps32
  go_wp2_with fail
  go_loopw [6, 5] (fun iv ov wr => ∃ i : Nat, i ≤ 17 ∧ iv = .int .i64 i ∧ Hid ((0 < n ∧ 0 < m ∧ i ≤ n + m - 1) ∨ ((n = 0 ∨ m = 0) ∧ i = 0)) ∧ OwnP 36 wr w.heap.size ov ((List.range i).map (coP xs ys)) ∧ Below w.heap.size w wr) (fun iv _ _ => 17 - (intOf iv).toNat)
  case atStart => exact ⟨0, Nat.zero_le _, rfl, by unfold Hid; omega, OwnP.nil _ _ _, Below.refl _ _⟩
  case round =>
    obtain ⟨i, hik, rfl, hcase, hown, hB⟩ := hrel
    have hsz := hB.size
    by_cases hlive : 0 < n ∧ 0 < m ∧ i < n + m - 1
    · obtain ⟨h0n, h0m, hiN⟩ := hlive
      have d1 : decide ((i : Int) < (n : Int) + (m : Int) - 1) = true := by simp; omega
      have d2 : decide ((0 : Int) < (n : Int)) = true := by simp; omega
      have d3 : decide ((0 : Int) < (m : Int)) = true := by simp; omega
      clear hcase
      have hBz := Blk.new wr 36 #[.bool false, .slice none 0 0]
      replace hBz := hide hBz
      obtain ⟨wo, rfl⟩ : ∃ wo : World, wo = wr := ⟨_, rfl⟩
      have hBo : Below wo.heap.size wo (wo.alloc (.cells #[.bool false, .slice none 0 0] 36)) := (Below.refl _ _).alloc (Nat.le_refl _) _
      go_wp2_with fail
      clear d1 d2 d3
      go_loopw [8] (fun kv wr => ∃ k : Nat, k ≤ i + 1 ∧ kv = .int .i64 k ∧ ∃ negs As ns cs, Hid (Blk wr wo.heap.size 36 #[.bool negs, .slice As ns cs]) ∧ Wd wr negs As ns cs (psum (fun a => xs[a]?.getD 0 * ys[i - a]?.getD 0) k) ∧ Below wo.heap.size wo wr) (fun kv _ => i + 1 - (intOf kv).toNat)
      case atStart => exact ⟨0, Nat.zero_le _, rfl, _, _, _, _, hBz, Wd.zero _, hBo⟩
      case round =>
        obtain ⟨k, hkm, rfl, negs, As, ns, cs, hBz, hWs, hBr⟩ := hrel
        have hg := hBz.out.lt
        have g0 : wr.cell? ⟨wo.heap.size, 0, none⟩ = some (.bool negs) := hBz.out.cell 0
        have g1 : wr.cell? ⟨wo.heap.size, 1, none⟩ = some (.slice As ns cs) := hBz.out.cell 1
        have hBw := hB.trans (hBr.mono hsz)
        by_cases hki : k ≤ i
        · have d4 : decide ((k : Int) ≤ (i : Int)) = true := by simp; omega
          have hM : (xs[k]?.getD 0 * ys[i - k]?.getD 0).natAbs < pw 4096 := pw_bound (i := 0) (by omega) (by rw [Nat.zero_add, Nat.one_mul]; exact natAbs_mul_lt (hxb.out k) (hyb.out (i - k)))
          have hMS : (psum (fun a => xs[a]?.getD 0 * ys[i - a]?.getD 0) k + xs[k]?.getD 0 * ys[i - k]?.getD 0).natAbs < pw 4096 := pw_bound (i := k) (by omega) (psum_le (f := fun a => xs[a]?.getD 0 * ys[i - a]?.getD 0) (n := k + 1) fun a _ => natAbs_mul_lt (hxb.out a) (hyb.out (i - a)))
          go_wp2_with fail
          refine (hsat.out _ k (hp.below hBw) (by omega)).mono ?_
          rintro e w1 ⟨hb1, neg1, A1, n1, c1, rfl, hW1⟩
          have hB1 := hBr.trans (hb1.mono hBr.size)
          have hBw1 := hBw.trans (hb1.mono hBw.size)
          have hz1 := keep_blk hb1 hBz.out
          have hs1 := hWs.below hb1
          replace hz1 := hide hz1
          go_wp2_with fail
          refine (hsat'.out _ i k (hq.below hBw1) (by omega) hki).mono ?_
          rintro e w2 ⟨hb2, neg2, A2, n2, c2, rfl, hW2⟩
          have hB2 := hB1.trans (hb2.mono hB1.size)
          have hz2 := keep_blk hb2 hz1.out
          have hs2 := hs1.below hb2
          have hW1' := hW1.below hb2
          replace hz2 := hide hz2
          go_wp2_with fail
          refine (rMul_ok _ _ _ _ _ _ _ _ _ _ _ hW1' hW2).mono ?_
          rintro e w3 ⟨hb3, neg3, A3, n3, c3, code3, rfl, hR3⟩
          have hW3 := hR3.small hM
          have hB3 := hB2.trans (hb3.mono hB2.size)
          have hz3 := keep_blk hb3 hz2.out
          have hs3 := hs2.below hb3
          have p0 : w3.cell? ⟨wo.heap.size, 0, none⟩ = some (.bool negs) := hz3.cell 0
          have p1 : w3.cell? ⟨wo.heap.size, 1, none⟩ = some (.slice As ns cs) := hz3.cell 1
          have pz := hz3.lt
          replace hz3 := hide hz3
          clear hR3 hW1 hW1' hW2 hz1 hz2 hs1 hs2 hWs g0 g1 hBz
          go_wp2_with fail
          refine (rAdd_ok _ _ _ _ _ _ _ _ _ _ _ (hs3.alloc (.cells #[.bool neg3, .slice A3 n3 c3] 36)) (hW3.alloc _)).mono ?_
          rintro e w5 ⟨hb5, neg5, A5, n5, c5, code5, rfl, hR5⟩
          have hW5 := hR5.small hMS
          have hB5 := (hB3.alloc hB3.size (.cells #[.bool neg3, .slice A3 n3 c3] 36)).trans (hb5.mono (Nat.le_trans hB3.size (by simp)))
          have hz5 := keep_blk hb5 (hz3.out.alloc _)
          have q0 : w5.cell? ⟨wo.heap.size, 0, none⟩ = some (.bool negs) := hz5.cell 0
          have q1 : w5.cell? ⟨wo.heap.size, 1, none⟩ = some (.slice As ns cs) := hz5.cell 1
          have q2 := hz5.frozen 0
          have q3 := hz5.frozen 1
          replace hz5 := hide hz5
          clear hR5
          go_wp2_with fail
          obtain ⟨W, hWe, hDB, hDK, hDW⟩ := done_set hB5 (Nat.le_refl _) hz5.out hW5
          rw [hWe]
          go_roundw
          case rel => exact ⟨k + 1, by omega, by go_num, _, _, _, _, hDK, hDW, hDB⟩
          case measure => simp [intOf]; omega
        · obtain rfl : k = i + 1 := by omega
          have d4 : decide (((i + 1 : Nat) : Int) ≤ (i : Int)) = false := by simp; omega
          have d4' : decide ((i : Int) + 1 ≤ (i : Int)) = false := by simp; omega
          have hownW := hown.kept hBr
          have hco : Hid (psum (fun a => xs[a]?.getD 0 * ys[i - a]?.getD 0) (i + 1) = coP xs ys i) := rfl
          rw [hco.out] at hWs
          clear hown
          go_wp2_with (at_builtin; refine wpList_append_num _ rfl (.tmp 55) (.tmp 57) 22 rfl w.heap.size 36 iw Try.underlying22 hi hz0 hz1 hz2 _ _ rfl (by exact hownW.alloc _) _ _ 1 1 [⟨negs, As, ns, cs, digits (coP xs ys i).natAbs⟩] rfl (reads_num _ _ _ _ _ _ _) rfl (List.forall_mem_singleton.2 ⟨hWs.2.2.alloc _, hWs.ok⟩) (by rw [List.length_map, List.length_range]; omega) (by have := hBw.size; simp; omega) ?_; intro v7 w7 hown7 hg7 hk7)
          have hB7 := (hBw.alloc hBw.size _).grown hg7 (by have := hBw.size; simp; omega) hownW.row_ge
          have hown8 := hown7.snoc hWs
          rw [map_range_snoc (coP xs ys)] at hown8
          go_roundw
          case rel => exact ⟨i + 1, by omega, by go_num, by unfold Hid; omega, hown8, hB7⟩
          case measure => simp [intOf]; omega
    · obtain ⟨A9, c9, rfl, hP9⟩ := hown.poly
      have hlen : ((List.range i).map (coP xs ys)).length = i := by simp
      have hJ : Hid (trimP ((List.range i).map (coP xs ys)) = trimP (mulP xs ys)) := by
        rcases hcase.out with ⟨h1, h2, h3⟩ | ⟨h1, rfl⟩
        · unfold Hid mulP; rw [hxl.out, hyl.out, show i = n + m - 1 by omega]
        · unfold Hid; rw [mulP_zero (by rw [hxl.out, hyl.out]; exact h1)]; rfl
      have hc' := hcase.out
      by_cases hs : (i : Int) < (n : Int) + (m : Int) - 1
      · have d1 : decide ((i : Int) < (n : Int) + (m : Int) - 1) = true := by simpa using hs
        by_cases h0n : 0 < n
        · have d2 : decide ((0 : Int) < (n : Int)) = true := by simp; omega
          have d3 : decide ((0 : Int) < (m : Int)) = false := by simp; omega
          have d3' : decide (0 < m) = false := by simp; omega
          clear hc' hlive hcase
          rw [hlen] at hP9 ⊢
          clear hown
          go_wp2_with fail
          refine (strim_any _ _ _ _ _ hP9 (by omega)).mono ?_
          rintro e w4 ⟨A4, n4, c4, rfl, hP4, hb4⟩
          rw [hJ.out] at hP4
          replace hP4 := hide hP4
          go_wp2_with fail
          go_returns
          exact ⟨_, _, _, rfl, hP4.out, hB.trans (hb4.mono hB.size)⟩
        · have d2 : decide ((0 : Int) < (n : Int)) = false := by simp; omega
          have d2' : decide (0 < n) = false := by simp; omega
          clear hc' hlive hcase
          rw [hlen] at hP9 ⊢
          clear hown
          go_wp2_with fail
          refine (strim_any _ _ _ _ _ hP9 (by omega)).mono ?_
          rintro e w4 ⟨A4, n4, c4, rfl, hP4, hb4⟩
          rw [hJ.out] at hP4
          replace hP4 := hide hP4
          go_wp2_with fail
          go_returns
          exact ⟨_, _, _, rfl, hP4.out, hB.trans (hb4.mono hB.size)⟩
      · have d1 : decide ((i : Int) < (n : Int) + (m : Int) - 1) = false := by simpa using hs
        clear hc' hlive hcase
        rw [hlen] at hP9 ⊢
        clear hown
        go_wp2_with fail
        refine (strim_any _ _ _ _ _ hP9 (by omega)).mono ?_
        rintro e w4 ⟨A4, n4, c4, rfl, hP4, hb4⟩
        rw [hJ.out] at hP4
        replace hP4 := hide hP4
        go_wp2_with fail
        go_returns
        exact ⟨_, _, _, rfl, hP4.out, hB.trans (hb4.mono hB.size)⟩

set_option maxRecDepth 100000 in
set_option maxHeartbeats 400000 in
theorem sMul_ok (A B : Option Addr) (n c m d : Nat) (ps qs : List WE) (w : World) (hp : WL w A n c ps) (hq : WL w B m d qs) (kp : pOk ps = true) (kq : pOk qs = true) :
    Calls Try.prog 11 #[.slice A n c, .slice B m d] w (ResPoly w (mulP (ps.map WE.num) (qs.map WE.num))) := by
  have hT := fun W hp hq => hide (sTimes_any A B n c m d ps qs W hp hq kp kq)
  have hlen : Hid ((trimP (mulP (ps.map WE.num) (qs.map WE.num))).length ≤ 900) := by
    have h1 := (pOk_parts kp).1
    have h2 := (pOk_parts kq).1
    have h3 := trimP_length (mulP (ps.map WE.num) (qs.map WE.num))
    have h4 : (mulP (ps.map WE.num) (qs.map WE.num)).length = ps.length + qs.length - 1 := by unfold mulP; simp
    unfold Hid; omega
  replace kp : Hid (errOf (pOk ps && pOk qs) = 0) := by unfold Hid; rw [kp, kq]; rfl
  clear kq
  go_enter Try.func11, Try.ntmps11
  go_wp2_with fail
  refine (sboth_any _ _ _ _ _ _ _ _ _ hp hq).mono ?_
  rintro e w1 ⟨he1, hb1⟩
  rw [kp.out] at he1
  subst he1
  go_wp2_with fail
  refine (hT w1 (hp.below hb1) (hq.below hb1)).out.mono ?_
  rintro e w3 ⟨A3, n3, c3, rfl, hP3, hb3⟩
  have hB3 := hb1.trans (hb3.mono hb1.size)
  clear hT
  go_wp2_with fail
  refine (smade_any _ _ _ _ _ hP3 (by rw [← hP3.len]; exact hlen.out)).mono ?_
  rintro e w4 ⟨hb4, A4, n4, c4, code4, rfl, hR4⟩
  rw [trimP_idem] at hR4
  replace hR4 := hide hR4
  go_wp2_with fail
  go_returns
  exact ⟨hB3.trans (hb4.mono hB3.size), A4, n4, c4, code4, rfl, hR4.out⟩

set_option maxHeartbeats 400000 in
theorem sMul_bad (A B : Option Addr) (n c m d : Nat) (ps qs : List WE) (w : World) (hp : WL w A n c ps) (hq : WL w B m d qs) (hk : (pOk ps && pOk qs) = false) :
    Calls Try.prog 11 #[.slice A n c, .slice B m d] w (BadPoly w) := by
  replace hk : Hid (errOf (pOk ps && pOk qs) = 8) := by unfold Hid; rw [hk]; rfl
  go_enter Try.func11, Try.ntmps11
  go_wp2_with fail
  refine (sboth_any _ _ _ _ _ _ _ _ _ hp hq).mono ?_
  rintro e w1 ⟨he1, hb1⟩
  rw [hk.out] at he1
  subst he1
  go_wp2_with fail
  refine (sboth_any _ _ _ _ _ _ _ _ _ (hp.below hb1) (hq.below hb1)).mono ?_
  rintro e w2 ⟨he2, hb2⟩
  rw [hk.out] at he2
  subst he2
  go_wp2_with fail
  go_returns
  exact ⟨hb1.trans (hb2.mono hb1.size), none, rfl⟩
end Go.Proofs.Ytljocgdhdilglaa
