/- The reference of layer 4: Add, Sub. -/
import Derived.Test.YtljocgdhdilglaaS2
namespace Go.Proofs.Ytljocgdhdilglaa
open Go.RowKit
attribute [local go_sem] add_lit

theorem pOk_small {w : World} {A : Option Addr} {n c : Nat} {ps : List WE} (hp : WL w A n c ps) (kp : pOk ps = true) : ∀ i : Nat, ((ps.map WE.num)[i]?.getD 0).natAbs < pw 40 := fun i => by
  obtain ⟨_, hpk⟩ := pOk_parts kp
  rw [List.getElem?_map]
  rcases Option.eq_none_or_eq_some ps[i]? with h | ⟨e, h⟩
  · rw [h]; exact pw_pos 40
  · rw [h]; exact WE.small (hp.2.2.2.2 e (List.mem_of_getElem? h)) (hpk e (List.mem_of_getElem? h)).1 (hpk e (List.mem_of_getElem? h)).2
theorem map_range_snoc (f : Nat → Int) (i : Nat) : (List.range i).map f ++ [f i] = (List.range (i + 1)).map f := by rw [List.range_succ, List.map_append]; rfl

set_option maxRecDepth 100000 in
set_option maxHeartbeats 600000 in
theorem sAdd_ok (A B : Option Addr) (n c m d : Nat) (ps qs : List WE) (w : World) (hp : WL w A n c ps) (hq : WL w B m d qs) (kp : pOk ps = true) (kq : pOk qs = true) :
    Calls Try.prog 7 #[.slice A n c, .slice B m d] w (ResPoly w (joinP (fun a b => a + b) (ps.map WE.num) (qs.map WE.num))) := by
  obtain ⟨iw, hi, hz0, hz1, hz2⟩ := info_parts infoW
  obtain ⟨hn9, hpk⟩ := pOk_parts kp
  obtain ⟨hm9, hqk⟩ := pOk_parts kq
  have hpo := hide (fun e he => (hpk e he).1)
  have hqo := hide (fun e he => (hqk e he).1)
  clear hpk hqk
  have hxb := hide (pOk_small hp kp)
  have hyb := hide (pOk_small hq kq)
  rw [hp.len] at hn9
  rw [hq.len] at hm9
  have hxl : Hid ((ps.map WE.num).length = n) := by unfold Hid; rw [List.length_map]; exact hp.len
  have hyl : Hid ((qs.map WE.num).length = m) := by unfold Hid; rw [List.length_map]; exact hq.len
  have kb : Hid (errOf (pOk ps && pOk qs) = 0) := by unfold Hid; rw [kp, kq]; rfl
  clear kp kq
  obtain ⟨xs, hxs⟩ : ∃ xs, ps.map WE.num = xs := ⟨_, rfl⟩
  obtain ⟨ys, hys⟩ : ∃ ys, qs.map WE.num = ys := ⟨_, rfl⟩
  rw [hxs] at hxb hxl ⊢
  rw [hys] at hyb hyl ⊢
  have hsx : Hid (ps.map WE.num = xs) := hxs
  have hsy : Hid (qs.map WE.num = ys) := hys
  clear hxs hys
  have hsat : Hid (∀ (W : World) (i : Nat), WL W A n c ps → i ≤ 1000 → Calls Try.prog 26 #[.slice A n c, .int .i64 i] W (NumW W (xs[i]?.getD 0))) := fun W i h hi => by rw [← hsx.out]; exact sat_any A n c i ps W h hpo.out hi
  have hsat' : Hid (∀ (W : World) (i : Nat), WL W B m d qs → i ≤ 1000 → Calls Try.prog 26 #[.slice B m d, .int .i64 i] W (NumW W (ys[i]?.getD 0))) := fun W i h hi => by rw [← hsy.out]; exact sat_any B m d i qs W h hqo.out hi
  go_enter Try.func7, Try.ntmps7
  go_wp2_with fail
  refine (sboth_any _ _ _ _ _ _ _ _ _ hp hq).mono ?_
  rintro e w0 ⟨he0, hb0⟩
  rw [kb.out] at he0
  subst he0
  go_wp2_with fail
  go_loopw [7, 6] (fun iv ov wr => ∃ i : Nat, i ≤ max n m ∧ iv = .int .i64 i ∧ OwnP 36 wr w.heap.size ov ((List.range i).map (fun j => xs[j]?.getD 0 + ys[j]?.getD 0)) ∧ Below w.heap.size w wr) (fun iv _ _ => max n m - (intOf iv).toNat)
  case atStart => exact ⟨0, Nat.zero_le _, rfl, OwnP.nil _ _ _, hb0⟩
  case round =>
    obtain ⟨i, hik, rfl, hown, hB⟩ := hrel
    by_cases hin : i < n
    · have d1 : decide ((i : Int) < (n : Int)) = true := by simp; omega
      go_wp2_with fail
      refine (hsat.out _ i (hp.below hB) (by omega)).mono ?_
      rintro e w1 ⟨hb1, neg1, A1, n1, c1, rfl, hW1⟩
      have hB1 := hB.trans (hb1.mono hB.size)
      go_wp2_with fail
      refine (hsat'.out _ i (hq.below hB1) (by omega)).mono ?_
      rintro e w2 ⟨hb2, neg2, A2, n2, c2, rfl, hW2⟩
      have hB2 := hB1.trans (hb2.mono hB1.size)
      have hW1' := hW1.below hb2
      have hM := (pw40_2 (hxb.out i) (hyb.out i)).1
      go_wp2_with fail
      refine (rAdd_ok _ _ _ _ _ _ _ _ _ _ _ hW1' hW2).mono ?_
      rintro e w3 ⟨hb3, neg3, A3, n3, c3, code3, rfl, hR3⟩
      have hB3 := hB2.trans (hb3.mono hB2.size)
      have hW3 := hR3.small hM
      have hown3 := ((hown.kept hb1).kept hb2).kept hb3
      clear hR3 hW1 hW1' hW2 hown
      go_wp2_with (at_builtin; refine wpList_append_num _ rfl (.tmp 39) (.tmp 41) 22 rfl w.heap.size 36 iw Try.underlying22 hi hz0 hz1 hz2 _ _ rfl (by exact (hown3.alloc _).alloc _) _ _ 1 1 [⟨neg3, A3, n3, c3, digits (xs[i]?.getD 0 + ys[i]?.getD 0).natAbs⟩] rfl (reads_num2 _ _ _ _ _ _ _ _) rfl (List.forall_mem_singleton.2 ⟨(hW3.2.2.alloc _).alloc _, hW3.ok⟩) (by rw [List.length_map, List.length_range]; omega) (by have := hB3.size; simp; omega) ?_; intro v7 w7 hown7 hg7 hk7)
      have hB7 := ((hB3.alloc hB3.size _).alloc (by have := hB3.size; simp; omega) _).grown hg7 (by have := hB3.size; simp; omega) hown3.row_ge
      have hown8 := hown7.snoc hW3
      rw [map_range_snoc (fun j => xs[j]?.getD 0 + ys[j]?.getD 0)] at hown8
      go_roundw
      case rel => exact ⟨i + 1, by omega, by go_num, hown8, hB7⟩
      case measure => simp [intOf]; omega
    · have d1 : decide ((i : Int) < (n : Int)) = false := by simp; omega
      by_cases him : i < m
      · have d2 : decide ((i : Int) < (m : Int)) = true := by simp; omega
        go_wp2_with fail
        refine (hsat.out _ i (hp.below hB) (by omega)).mono ?_
        rintro e w1 ⟨hb1, neg1, A1, n1, c1, rfl, hW1⟩
        have hB1 := hB.trans (hb1.mono hB.size)
        go_wp2_with fail
        refine (hsat'.out _ i (hq.below hB1) (by omega)).mono ?_
        rintro e w2 ⟨hb2, neg2, A2, n2, c2, rfl, hW2⟩
        have hB2 := hB1.trans (hb2.mono hB1.size)
        have hW1' := hW1.below hb2
        have hM := (pw40_2 (hxb.out i) (hyb.out i)).1
        go_wp2_with fail
        refine (rAdd_ok _ _ _ _ _ _ _ _ _ _ _ hW1' hW2).mono ?_
        rintro e w3 ⟨hb3, neg3, A3, n3, c3, code3, rfl, hR3⟩
        have hB3 := hB2.trans (hb3.mono hB2.size)
        have hW3 := hR3.small hM
        have hown3 := ((hown.kept hb1).kept hb2).kept hb3
        clear hR3 hW1 hW1' hW2 hown
        go_wp2_with (at_builtin; refine wpList_append_num _ rfl (.tmp 39) (.tmp 41) 22 rfl w.heap.size 36 iw Try.underlying22 hi hz0 hz1 hz2 _ _ rfl (by exact (hown3.alloc _).alloc _) _ _ 1 1 [⟨neg3, A3, n3, c3, digits (xs[i]?.getD 0 + ys[i]?.getD 0).natAbs⟩] rfl (reads_num2 _ _ _ _ _ _ _ _) rfl (List.forall_mem_singleton.2 ⟨(hW3.2.2.alloc _).alloc _, hW3.ok⟩) (by rw [List.length_map, List.length_range]; omega) (by have := hB3.size; simp; omega) ?_; intro v7 w7 hown7 hg7 hk7)
        have hB7 := ((hB3.alloc hB3.size _).alloc (by have := hB3.size; simp; omega) _).grown hg7 (by have := hB3.size; simp; omega) hown3.row_ge
        have hown8 := hown7.snoc hW3
        rw [map_range_snoc (fun j => xs[j]?.getD 0 + ys[j]?.getD 0)] at hown8
        go_roundw
        case rel => exact ⟨i + 1, by omega, by go_num, hown8, hB7⟩
        case measure => simp [intOf]; omega
      · have d2 : decide ((i : Int) < (m : Int)) = false := by simp; omega
        obtain ⟨A9, c9, rfl, hP9⟩ := hown.poly
        have hJ : (List.range i).map (fun j => xs[j]?.getD 0 + ys[j]?.getD 0) = joinP (fun a b => a + b) xs ys := by unfold joinP; rw [hxl.out, hyl.out, ← show i = max n m by omega]
        have hlen : ((List.range i).map (fun j => xs[j]?.getD 0 + ys[j]?.getD 0)).length = i := by simp
        rw [hlen] at hP9 ⊢
        rw [hJ] at hP9
        clear hJ hown
        go_wp2_with fail
        refine (smade_any _ _ _ _ _ hP9 (by omega)).mono ?_
        rintro e w4 ⟨hb4, A4, n4, c4, code4, rfl, hR4⟩
        replace hR4 := hide hR4
        go_wp2_with fail
        go_returns
        exact ⟨hB.trans (hb4.mono hB.size), A4, n4, c4, code4, rfl, hR4.out⟩

set_option maxHeartbeats 400000 in
theorem sAdd_bad (A B : Option Addr) (n c m d : Nat) (ps qs : List WE) (w : World) (hp : WL w A n c ps) (hq : WL w B m d qs) (hk : (pOk ps && pOk qs) = false) :
    Calls Try.prog 7 #[.slice A n c, .slice B m d] w (BadPoly w) := by
  replace hk : Hid (errOf (pOk ps && pOk qs) = 8) := by unfold Hid; rw [hk]; rfl
  go_enter Try.func7, Try.ntmps7
  go_wp2_with fail
  refine (sboth_any _ _ _ _ _ _ _ _ _ hp hq).mono ?_
  rintro e w1 ⟨he1, hb1⟩
  rw [hk.out] at he1
  subst he1
  go_wp2_with fail
  refine (sboth_any _ _ _ _ _ _ _ _ _ (hp.below hb1) (hq.below hb1)).mono ?_
  rintro e w2 ⟨he2, hb2⟩
  rw [hk.out] at he2
  subst he2
  go_wp2_with fail
  go_returns
  exact ⟨hb1.trans (hb2.mono hb1.size), none, rfl⟩

set_option maxRecDepth 100000 in
set_option maxHeartbeats 600000 in
theorem sSub_ok (A B : Option Addr) (n c m d : Nat) (ps qs : List WE) (w : World) (hp : WL w A n c ps) (hq : WL w B m d qs) (kp : pOk ps = true) (kq : pOk qs = true) :
    Calls Try.prog 9 #[.slice A n c, .slice B m d] w (ResPoly w (joinP (fun a b => a - b) (ps.map WE.num) (qs.map WE.num))) := by
  obtain ⟨iw, hi, hz0, hz1, hz2⟩ := info_parts infoW
  obtain ⟨hn9, hpk⟩ := pOk_parts kp
  obtain ⟨hm9, hqk⟩ := pOk_parts kq
  have hpo := hide (fun e he => (hpk e he).1)
  have hqo := hide (fun e he => (hqk e he).1)
  clear hpk hqk
  have hxb := hide (pOk_small hp kp)
  have hyb := hide (pOk_small hq kq)
  rw [hp.len] at hn9
  rw [hq.len] at hm9
  have hxl : Hid ((ps.map WE.num).length = n) := by unfold Hid; rw [List.length_map]; exact hp.len
  have hyl : Hid ((qs.map WE.num).length = m) := by unfold Hid; rw [List.length_map]; exact hq.len
  have kb : Hid (errOf (pOk ps && pOk qs) = 0) := by unfold Hid; rw [kp, kq]; rfl
  clear kp kq
  obtain ⟨xs, hxs⟩ : ∃ xs, ps.map WE.num = xs := ⟨_, rfl⟩
  obtain ⟨ys, hys⟩ : ∃ ys, qs.map WE.num = ys := ⟨_, rfl⟩
  rw [hxs] at hxb hxl ⊢
  rw [hys] at hyb hyl ⊢
  have hsx : Hid (ps.map WE.num = xs) := hxs
  have hsy : Hid (qs.map WE.num = ys) := hys
  clear hxs hys
  have hsat : Hid (∀ (W : World) (i : Nat), WL W A n c ps → i ≤ 1000 → Calls Try.prog 26 #[.slice A n c, .int .i64 i] W (NumW W (xs[i]?.getD 0))) := fun W i h hi => by rw [← hsx.out]; exact sat_any A n c i ps W h hpo.out hi
  have hsat' : Hid (∀ (W : World) (i : Nat), WL W B m d qs → i ≤ 1000 → Calls Try.prog 26 #[.slice B m d, .int .i64 i] W (NumW W (ys[i]?.getD 0))) := fun W i h hi => by rw [← hsy.out]; exact sat_any B m d i qs W h hqo.out hi
  go_enter Try.func9, Try.ntmps9
  go_wp2_with fail
  refine (sboth_any _ _ _ _ _ _ _ _ _ hp hq).mono ?_
  rintro e w0 ⟨he0, hb0⟩
  rw [kb.out] at he0
  subst he0
  go_wp2_with fail
  go_loopw [7, 6] (fun iv ov wr => ∃ i : Nat, i ≤ max n m ∧ iv = .int .i64 i ∧ OwnP 36 wr w.heap.size ov ((List.range i).map (fun j => xs[j]?.getD 0 - ys[j]?.getD 0)) ∧ Below w.heap.size w wr) (fun iv _ _ => max n m - (intOf iv).toNat)
  case atStart => exact ⟨0, Nat.zero_le _, rfl, OwnP.nil _ _ _, hb0⟩
  case round =>
    obtain ⟨i, hik, rfl, hown, hB⟩ := hrel
    by_cases hin : i < n
    · have d1 : decide ((i : Int) < (n : Int)) = true := by simp; omega
      go_wp2_with fail
      refine (hsat.out _ i (hp.below hB) (by omega)).mono ?_
      rintro e w1 ⟨hb1, neg1, A1, n1, c1, rfl, hW1⟩
      have hB1 := hB.trans (hb1.mono hB.size)
      go_wp2_with fail
      refine (hsat'.out _ i (hq.below hB1) (by omega)).mono ?_
      rintro e w2 ⟨hb2, neg2, A2, n2, c2, rfl, hW2⟩
      have hB2 := hB1.trans (hb2.mono hB1.size)
      have hW1' := hW1.below hb2
      have hM := (pw40_2 (hxb.out i) (hyb.out i)).2
      go_wp2_with fail
      refine (rSub_ok _ _ _ _ _ _ _ _ _ _ _ hW1' hW2).mono ?_
      rintro e w3 ⟨hb3, neg3, A3, n3, c3, code3, rfl, hR3⟩
      have hB3 := hB2.trans (hb3.mono hB2.size)
      have hW3 := hR3.small hM
      have hown3 := ((hown.kept hb1).kept hb2).kept hb3
      clear hR3 hW1 hW1' hW2 hown
      go_wp2_with (at_builtin; refine wpList_append_num _ rfl (.tmp 39) (.tmp 41) 22 rfl w.heap.size 36 iw Try.underlying22 hi hz0 hz1 hz2 _ _ rfl (by exact (hown3.alloc _).alloc _) _ _ 1 1 [⟨neg3, A3, n3, c3, digits (xs[i]?.getD 0 - ys[i]?.getD 0).natAbs⟩] rfl (reads_num2 _ _ _ _ _ _ _ _) rfl (List.forall_mem_singleton.2 ⟨(hW3.2.2.alloc _).alloc _, hW3.ok⟩) (by rw [List.length_map, List.length_range]; omega) (by have := hB3.size; simp; omega) ?_; intro v7 w7 hown7 hg7 hk7)
      have hB7 := ((hB3.alloc hB3.size _).alloc (by have := hB3.size; simp; omega) _).grown hg7 (by have := hB3.size; simp; omega) hown3.row_ge
      have hown8 := hown7.snoc hW3
      rw [map_range_snoc (fun j => xs[j]?.getD 0 - ys[j]?.getD 0)] at hown8
      go_roundw
      case rel => exact ⟨i + 1, by omega, by go_num, hown8, hB7⟩
      case measure => simp [intOf]; omega
    · have d1 : decide ((i : Int) < (n : Int)) = false := by simp; omega
      by_cases him : i < m
      · have d2 : decide ((i : Int) < (m : Int)) = true := by simp; omega
        go_wp2_with fail
        refine (hsat.out _ i (hp.below hB) (by omega)).mono ?_
        rintro e w1 ⟨hb1, neg1, A1, n1, c1, rfl, hW1⟩
        have hB1 := hB.trans (hb1.mono hB.size)
        go_wp2_with fail
        refine (hsat'.out _ i (hq.below hB1) (by omega)).mono ?_
        rintro e w2 ⟨hb2, neg2, A2, n2, c2, rfl, hW2⟩
        have hB2 := hB1.trans (hb2.mono hB1.size)
        have hW1' := hW1.below hb2
        have hM := (pw40_2 (hxb.out i) (hyb.out i)).2
        go_wp2_with fail
        refine (rSub_ok _ _ _ _ _ _ _ _ _ _ _ hW1' hW2).mono ?_
        rintro e w3 ⟨hb3, neg3, A3, n3, c3, code3, rfl, hR3⟩
        have hB3 := hB2.trans (hb3.mono hB2.size)
        have hW3 := hR3.small hM
        have hown3 := ((hown.kept hb1).kept hb2).kept hb3
        clear hR3 hW1 hW1' hW2 hown
        go_wp2_with (at_builtin; refine wpList_append_num _ rfl (.tmp 39) (.tmp 41) 22 rfl w.heap.size 36 iw Try.underlying22 hi hz0 hz1 hz2 _ _ rfl (by exact (hown3.alloc _).alloc _) _ _ 1 1 [⟨neg3, A3, n3, c3, digits (xs[i]?.getD 0 - ys[i]?.getD 0).natAbs⟩] rfl (reads_num2 _ _ _ _ _ _ _ _) rfl (List.forall_mem_singleton.2 ⟨(hW3.2.2.alloc _).alloc _, hW3.ok⟩) (by rw [List.length_map, List.length_range]; omega) (by have := hB3.size; simp; omega) ?_; intro v7 w7 hown7 hg7 hk7)
        have hB7 := ((hB3.alloc hB3.size _).alloc (by have := hB3.size; simp; omega) _).grown hg7 (by have := hB3.size; simp; omega) hown3.row_ge
        have hown8 := hown7.snoc hW3
        rw [map_range_snoc (fun j => xs[j]?.getD 0 - ys[j]?.getD 0)] at hown8
        go_roundw
        case rel => exact ⟨i + 1, by omega, by go_num, hown8, hB7⟩
        case measure => simp [intOf]; omega
      · have d2 : decide ((i : Int) < (m : Int)) = false := by simp; omega
        obtain ⟨A9, c9, rfl, hP9⟩ := hown.poly
        have hJ : (List.range i).map (fun j => xs[j]?.getD 0 - ys[j]?.getD 0) = joinP (fun a b => a - b) xs ys := by unfold joinP; rw [hxl.out, hyl.out, ← show i = max n m by omega]
        have hlen : ((List.range i).map (fun j => xs[j]?.getD 0 - ys[j]?.getD 0)).length = i := by simp
        rw [hlen] at hP9 ⊢
        rw [hJ] at hP9
        clear hJ hown
        go_wp2_with fail
        refine (smade_any _ _ _ _ _ hP9 (by omega)).mono ?_
        rintro e w4 ⟨hb4, A4, n4, c4, code4, rfl, hR4⟩
        replace hR4 := hide hR4
        go_wp2_with fail
        go_returns
        exact ⟨hB.trans (hb4.mono hB.size), A4, n4, c4, code4, rfl, hR4.out⟩

set_option maxHeartbeats 400000 in
theorem sSub_bad (A B : Option Addr) (n c m d : Nat) (ps qs : List WE) (w : World) (hp : WL w A n c ps) (hq : WL w B m d qs) (hk : (pOk ps && pOk qs) = false) :
    Calls Try.prog 9 #[.slice A n c, .slice B m d] w (BadPoly w) := by
  replace hk : Hid (errOf (pOk ps && pOk qs) = 8) := by unfold Hid; rw [hk]; rfl
  go_enter Try.func9, Try.ntmps9
  go_wp2_with fail
  refine (sboth_any _ _ _ _ _ _ _ _ _ hp hq).mono ?_
  rintro e w1 ⟨he1, hb1⟩
  rw [hk.out] at he1
  subst he1
  go_wp2_with fail
  refine (sboth_any _ _ _ _ _ _ _ _ _ (hp.below hb1) (hq.below hb1)).mono ?_
  rintro e w2 ⟨he2, hb2⟩
  rw [hk.out] at he2
  subst he2
  go_wp2_with fail
  go_returns
  exact ⟨hb1.trans (hb2.mono hb1.size), none, rfl⟩
end Go.Proofs.Ytljocgdhdilglaa
