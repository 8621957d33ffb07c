/- The law PolyNames as a call: it returns true. -/
import Derived.Deep.LoopGhost
import Derived.Test.YtljocgdhdilglaaGreatZs01
import Derived.Test.YtljocgdhdilglaaGreatZr49
import Derived.Test.YtljocgdhdilglaaGreatZr35
set_option linter.unusedSimpArgs false
set_option linter.unusedVariables false

namespace Go.Proofs.YtljocgdhdilglaaGreat
open Go.RowKit
attribute [local go_sem] add_lit

def names10 (B0 : Nat) (c5 : Array Value) (i : Nat) (v : Value) (w : World) : Prop :=
  match i with
  | 0 => ∃ g, v = .slice (some ⟨g, 0, none⟩) 65 65 ∧ B0 ≤ g ∧ Blk w g 52 c5
  | 1 => ∃ g, v = .agg #[.bool false, .slice (some ⟨g, 0, none⟩) 65 65] ∧ B0 ≤ g ∧ Blk w g 52 c5
  | 2 => ∃ nb Y ny cy, v = .agg #[.bool nb, .slice Y ny cy] ∧ Wd w nb Y ny cy 1
  | 3 => ∃ g nb Y ny cy, v = .agg #[.bool false, .slice (some ⟨g, 0, none⟩) 65 65, .bool nb, .slice Y ny cy] ∧ B0 ≤ g ∧ Blk w g 52 c5 ∧ Wd w nb Y ny cy 1
  | 4 => ∃ g, v = .pointer (some ⟨g, 0, none⟩) ∧ B0 ≤ g ∧ Blk w g 27 #[.bool false, .slice none 0 0, .bool false, .slice none 0 0]
  | _ => True
theorem digits_1 : digits (Int.natAbs 1) = [1] := by decide +kernel
theorem lim_one_far {w : World} {Y : Option Addr} {n c : Nat} (h : Lim w Y n c [1]) {g k : Nat} {t : TypeId} (hb : Blk w g t (cells32 (List.replicate k 0))) (i : Nat) (u : Value) : Lim (w.setCell ⟨g, i, none⟩ u) Y n c [1] := by
  refine ⟨h.1, h.2.1, h.2.2.1, h.2.2.2.1, fun hn => ?_⟩
  obtain ⟨b, o, e, hc⟩ := h.2.2.2.2 hn
  have hn1 : n = 1 := h.1.symm
  refine ⟨b, o, e, fun j hj => ?_⟩
  have h0 := hc j hj
  obtain rfl : j = 0 := by omega
  refine (World.cell?_of_block (w := w) (Below.heap_setCell w _ u b (fun hbg => ?_))).trans h0
  have hbg' : b = g := hbg
  subst hbg'
  rw [hb.cell] at h0
  by_cases hlt : o + 0 < k
  · rw [cells32_get _ _ (by simpa using hlt)] at h0
    simp at h0
    rw [List.getElem?_replicate, if_pos (by simpa using hlt)] at h0
    simp at h0
  · rw [Array.getElem?_eq_none (by simp [cells32]; omega)] at h0
    cases h0
theorem fill_step {i : Nat} (h : i < 40) : (List.replicate i 4294967295 ++ List.replicate (40 - i) 0).set i 4294967295 = List.replicate (i + 1) 4294967295 ++ List.replicate (40 - (i + 1)) 0 := by
  obtain ⟨k, hk⟩ : ∃ k, 40 - i = k + 1 := ⟨39 - i, by omega⟩
  rw [hk, show 40 - (i + 1) = k by omega, List.set_append_right _ _ (by simp)]
  simp only [List.length_replicate, Nat.sub_self, List.replicate_succ (n := k), List.set_cons_zero, List.replicate_succ' (n := i), List.append_assoc, List.cons_append, List.nil_append]

set_option maxRecDepth 100000 in
set_option maxHeartbeats 8000000 in
theorem law_names (w : World) :
    Calls Tryz.prog 6 #[] w fun e w' => e = .returned (.bool true) ∧ Below w.heap.size w w' := by
  have hmx : Tryz.prog.follows .mixedOrders = true := by kernel_rfl
  have hB : Below w.heap.size w w := Below.refl _ _
  obtain ⟨iu, u1, u2, u3, u4⟩ := info_parts info32
  obtain ⟨iw, v1, v2, v3, v4⟩ := info_parts infoW
  go_enter Tryz.func6, Tryz.ntmps6
  obtain ⟨Vni, hVni, hXni, yni, -, -, -⟩ := new_obj 2 #[.int .i64 0, .int .i64 0, .int .i64 0, .int .i64 0, .int .i64 0, .int .i64 0, .int .i64 0, .int .i64 0, .int .i64 1] (Below.refl w.heap.size w) (Nat.le_refl _)
  replace hB := hB.trans (hXni.mono hB.size)
  have hl := hide (LimI.of_blkP (l := [0, 0, 0, 0, 0, 0, 0, 0, 1]) yni rfl (by decide) (by decide))
  go_wp2_with fail
  clear hVni
  refine (Ints_ok _ 9 9 [0, 0, 0, 0, 0, 0, 0, 0, 1] Vni hl.out (by omega)).mono ?_
  rintro e w1 ⟨niA, nin, nic, rfl, ni, hb⟩
  replace hB := hB.trans (hb.mono hB.size)
  clear hb hl yni
  rw [show trimP [0, 0, 0, 0, 0, 0, 0, 0, 1] = [0, 0, 0, 0, 0, 0, 0, 0, 1] by decide +kernel] at ni
  replace ni := hide ni
  obtain rfl : nin = 9 := ni.out.len.symm
  obtain ⟨ninc, -⟩ := ni.out.cap
  have ninc2 : (9 : Int) ≤ (nic : Int) := by omega
  have hmka := make32 (P := Tryz.prog) 23 52 Tryz.underlying23 u1 u2 u3 u4 41 41 rfl (by omega)
  obtain ⟨ga, hga⟩ : ∃ g, w1.heap.size = g := ⟨_, rfl⟩
  obtain ⟨ca, hca⟩ : ∃ c, cells32 (List.replicate 41 0) = c := ⟨_, rfl⟩
  rw [hca] at hmka
  replace hca := hide hca
  obtain ⟨Va, hVa, hXa, ya, -, -, sza⟩ := new_obj 52 ca (Below.refl w1.heap.size w1) (Nat.le_refl _)
  obtain ⟨Vab, hVab, hXab, yab, -, kb, -⟩ := new_obj 25 #[.bool false, .slice none 0 0] hXa hXa.size
  replace ya := kb _ _ _ ya
  obtain ⟨ia0, ia1, ia2, ia3⟩ := yab.two
  obtain ⟨Ya, hYa, hya, ba, st⟩ := set_num false (some ⟨w1.heap.size, 0, none⟩) 41 41 hXab hXa.size yab
  replace ya := st.2.1 _ _ _ (by omega) ya
  clear st kb yab
  have hgba : w1.heap.size ≤ ga := by omega
  rw [sza] at ba ia0 ia1 ia2 ia3 hYa
  rw [hga] at ya ba hYa ia0 ia1 ia2 ia3
  rw [← hca.out] at ya
  obtain ⟨ba0, ba1, ba2, ba3⟩ := ba.two
  have yla := ya.lt
  have ysa : Ya.cell? ⟨ga, 40, none⟩ = some (limb 0) := by rw [ya.cell, cells32_get _ _ (by simp)]; simp
  have yfa := ya.frozen 40
  replace ya := ya.set_ 40 (limb 1)
  rw [cells32_set] at ya
  replace ba := ba.far (p := ⟨ga, 40, none⟩) (by show ga + 1 ≠ ga; omega) (limb 1)
  have hza := hya.setCell (p := ⟨ga, 40, none⟩) hgba (limb 1)
  obtain ⟨Za, hZa⟩ : ∃ Z, Ya.setCell ⟨ga, 40, none⟩ (.int .u32 1) = Z := ⟨_, rfl⟩
  replace ya : Hid (Blk Za ga 52 (cells32 ((List.replicate 41 0).set 40 1))) := by rw [← hZa]; exact hide ya
  replace ba : Hid (Blk Za (ga + 1) 25 #[.bool false, .slice (some ⟨ga, 0, none⟩) 41 41]) := by rw [← hZa]; exact hide ba
  replace hza : Below w1.heap.size w1 Za := by rw [← hZa]; exact hza
  replace hB := hB.trans (hza.mono hB.size)
  replace ni := hide (ni.out.below hza)
  have hmkt := make32 (P := Tryz.prog) 23 52 Tryz.underlying23 u1 u2 u3 u4 40 40 rfl (by omega)
  obtain ⟨gt, hgt⟩ : ∃ g, Za.heap.size = g := ⟨_, rfl⟩
  obtain ⟨ct, hct⟩ : ∃ c, cells32 (List.replicate 40 0) = c := ⟨_, rfl⟩
  rw [hct] at hmkt
  replace hct := hide hct
  obtain ⟨Vt, hVt, hXt, yt, -, -, szt⟩ := new_obj 52 ct (Below.refl Za.heap.size Za) (Nat.le_refl _)
  obtain ⟨Vtb, hVtb, hXtb, ytb, -, kb, -⟩ := new_obj 25 #[.bool false, .slice none 0 0] hXt hXt.size
  replace yt := kb _ _ _ yt
  obtain ⟨it0, it1, it2, it3⟩ := ytb.two
  obtain ⟨Yt, hYt, hyt, bt, st⟩ := set_num false (some ⟨Za.heap.size, 0, none⟩) 40 40 hXtb hXt.size ytb
  replace yt := st.2.1 _ _ _ (by omega) yt
  clear st kb ytb
  have hgbt : Za.heap.size ≤ gt := by omega
  rw [szt] at bt it0 it1 it2 it3 hYt
  rw [hgt] at yt bt hYt it0 it1 it2 it3
  rw [← hct.out] at yt
  obtain ⟨bt0, bt1, bt2, bt3⟩ := bt.two
  have ylt := yt.lt
  replace yt := hide yt
  replace bt := hide bt
  go_wp2_with fail
  clear hmka hVa hVab ia0 ia1 ia2 ia3 hYa ba0 ba1 ba2 ba3 yla hXa hXab ysa yfa hZa hmkt hVt hVtb it0 it1 it2 it3 hYt bt0 bt1 bt2 bt3 ylt hXt hXtb
  go_loopg [4] 40 (fun k iv wr => ∃ i : Nat, i + k = 40 ∧ iv = .int .i64 i ∧ Blk wr gt 52 (cells32 (List.replicate i 4294967295 ++ List.replicate (40 - i) 0)) ∧ Kept (fun g => g = gt) Yt wr)
  case atStart => exact ⟨0, rfl, rfl, yt.out, Kept.refl _ _⟩
  case round =>
    obtain ⟨i, hik, rfl, yk, hK⟩ := hrel
    obtain ⟨b0, b1, b2, b3⟩ := (hK.blk bt.out (by omega)).two
    by_cases hi40 : i < 40
    case pos =>
      have t40 : decide ((i : Int) < 40) = true := by simp; omega
      have ys : wr.cell? ⟨gt, i, none⟩ = some (limb 0) := by
        rw [yk.cell, cells32_get _ _ (by simp; omega), List.getElem?_append_right (by simp)]
        rw [List.getElem?_replicate, if_pos (by simp; omega)]; rfl
      have yf := yk.frozen i
      have yl := yk.lt
      have hil : (i : Int) < 40 := by omega
      have yk2 := yk.set_ i (limb 4294967295)
      rw [cells32_set, fill_step hi40] at yk2
      have hK2 := hK.set_ (p := ⟨gt, i, none⟩) (.inl rfl) (limb 4294967295)
      replace yk2 := hide yk2
      replace hK2 := hide hK2
      go_wp2_with fail
      go_roundg (40 - (i + 1))
      case measure => omega
      case rel => exact ⟨i + 1, by omega, by go_num, yk2.out, hK2.out⟩
    have t40 : decide ((i : Int) < 40) = false := by simp; omega
    obtain rfl : i = 40 := by omega
    have hT : Below Za.heap.size Za wr := hyt.trans (hK.to_below (fun k hk => by subst hk; exact hgbt) hyt.size)
    replace bt := hide (hK.blk bt.out (by omega))
    replace yt : Hid (Blk wr gt 52 (cells32 (List.replicate 40 4294967295))) := hide yk
    clear yk hK b0 b1 b2 b3
    replace hB := hB.trans (hT.mono hB.size)
    replace ni := hide (ni.out.below hT)
    replace ya := hide (keep_blk hT ya.out)
    replace ba := hide (keep_blk hT ba.out)
    go_wp2_with fail
    refine (rOf_pos (1) 1 wr (by decide) (by decide) (by decide) (by decide)).mono ?_
    rintro e w2 ⟨hb, onn, onA, onk, onc, onm, onB, onj, ond, rfl, onf⟩
    replace hB := hB.trans (hb.mono hB.size)
    replace ni := hide (ni.out.below hb)
    replace ya := hide (keep_blk hb ya.out)
    replace ba := hide (keep_blk hb ba.out)
    replace yt := hide (keep_blk hb yt.out)
    replace bt := hide (keep_blk hb bt.out)
    clear hb
    replace onf := hide onf
    obtain ⟨Xon, hXon, hxon, zon, -, -, -⟩ := new_obj 27 #[.bool false, .slice none 0 0, .bool false, .slice none 0 0] (Below.refl w2.heap.size w2) (Nat.le_refl _)
    obtain ⟨on0, on1, on2, on3, on4, on5, on6, on7⟩ := zon.four
    obtain ⟨Yon, hYon, hyon, onb, -⟩ := set_frac onn onA onk onc onm onB onj ond hxon (Nat.le_refl _) zon
    replace onf := hide (onf.out.below hyon)
    replace hB := hB.trans (hyon.mono hB.size)
    replace ni := hide (ni.out.below hyon)
    replace ya := hide (keep_blk hyon ya.out)
    replace ba := hide (keep_blk hyon ba.out)
    replace yt := hide (keep_blk hyon yt.out)
    replace bt := hide (keep_blk hyon bt.out)
    replace onb := hide onb
    go_wp2_with fail
    clear hXon hxon zon hYon hyon on0 on1 on2 on3 on4 on5 on6 on7
    have hmk5 := make32 (P := Tryz.prog) 23 52 Tryz.underlying23 u1 u2 u3 u4 65 65 rfl (by omega)
    obtain ⟨c5, hc5⟩ : ∃ c, cells32 (List.replicate 65 0) = c := ⟨_, rfl⟩
    rw [hc5] at hmk5
    replace hc5 := hide hc5
    refine wp_held [] (fun _ => True) hmx trivial (fun _ => ?_)
    refine wpAnyL_allP [(0, 53), (1, 54), (2, 55), (3, 56), (4, 7)] (names10 Yon.heap.size c5) 1 (by kernel_rfl) ?hst (fun _ _ => trivial) ?hop ?hfin
    case hst =>
      intro p hp
      simp only [List.mem_cons, List.not_mem_nil, or_false] at hp
      rcases hp with rfl | rfl | rfl | rfl | rfl
      · rintro v w1 w2 hb ⟨g, rfl, h1, h2⟩; exact ⟨g, rfl, h1, keep_blk hb h2⟩
      · rintro v w1 w2 hb ⟨g, rfl, h1, h2⟩; exact ⟨g, rfl, h1, keep_blk hb h2⟩
      · rintro v w1 w2 hb ⟨nb, Y, ny, cy, rfl, h2⟩; exact ⟨nb, Y, ny, cy, rfl, h2.below hb⟩
      · rintro v w1 w2 hb ⟨g, nb, Y, ny, cy, rfl, h1, h2, h3⟩; exact ⟨g, nb, Y, ny, cy, rfl, h1, keep_blk hb h2, h3.below hb⟩
      · rintro v w1 w2 hb ⟨g, rfl, h1, h2⟩; exact ⟨g, rfl, h1, keep_blk hb h2⟩
    case hop =>
      intro p hp
      simp only [List.mem_cons, List.not_mem_nil, or_false] at hp
      simp only [List.map_cons, List.map_nil, putsR, Act.put, List.setIfInBounds_toArray, List.set_cons_zero, List.set_cons_succ]
      rcases hp with rfl | rfl | rfl | rfl | rfl
      · intro ν wx hb hP
        refine wpOp_shut (i := 0) rfl (fun K hK => ?_)
        go_simp
        exact hK.out _ _ ⟨_, rfl, ⟨_, rfl, hb.size, Blk.new _ _ _⟩, (Below.refl _ _).alloc (Nat.le_refl _) _⟩
      · intro ν wx hb hP
        obtain ⟨g0, hν0, k0, q0⟩ := hP (0, 53) (by simp) (by kernel_rfl)
        dsimp only at hν0
        rw [hν0]
        refine wpOp_shut (i := 1) rfl (fun K hK => ?_)
        go_simp
        exact hK.out _ _ ⟨_, rfl, ⟨_, rfl, k0, q0⟩, Below.refl _ _⟩
      · intro ν wx hb hP
        refine wpOp_shut (i := 2) rfl (fun K hK => ?_)
        go_simp
        refine (rFrom_any 1 wx (by omega) (by omega)).mono ?_
        rintro e w5 ⟨hb5, neg5, A5, n5, c6, rfl, hW5⟩
        exact hK.out _ _ ⟨_, rfl, ⟨_, _, _, _, rfl, hW5⟩, hb5⟩
      · intro ν wx hb hP
        obtain ⟨g1, hν1, k1, q1⟩ := hP (1, 54) (by simp) (by kernel_rfl)
        obtain ⟨nb, Y, ny, cy, hν2, q2⟩ := hP (2, 55) (by simp) (by kernel_rfl)
        dsimp only at hν1 hν2
        rw [hν1, hν2]
        refine wpOp_shut (i := 3) rfl (fun K hK => ?_)
        go_simp
        exact hK.out _ _ ⟨_, rfl, ⟨_, _, _, _, _, rfl, k1, q1, q2⟩, Below.refl _ _⟩
      · intro ν wx hb hP
        refine wpOp_shut (i := 4) rfl (fun K hK => ?_)
        go_simp
        exact hK.out _ _ ⟨_, rfl, ⟨_, rfl, hb.size, Blk.new _ _ _⟩, (Below.refl _ _).alloc (Nat.le_refl _) _⟩
    case hfin =>
      intro ν wx hb hP
      have h0 := hP (0, 53) (by simp)
      have h1 := hP (1, 54) (by simp)
      have h2 := hP (2, 55) (by simp)
      obtain ⟨gm, nb, Y, ny, cy, h3, km, qm, wdY⟩ := hP (3, 56) (by simp)
      obtain ⟨gv, h4, kv, qv⟩ := hP (4, 7) (by simp)
      obtain ⟨g0, h0, -, -⟩ := h0
      obtain ⟨g1, h1, -, -⟩ := h1
      obtain ⟨x2, y2, z2, t2, h2, -⟩ := h2
      dsimp only at h0 h1 h2 h3 h4
      simp only [List.map_cons, List.map_nil, putsR, Act.put, List.setIfInBounds_toArray, List.set_cons_zero, List.set_cons_succ]
      rw [h0, h1, h2, h3, h4]
      clear h0 h1 h2 h3 h4 hP ν
      have hgne : gm ≠ gv := by
        intro h
        subst h
        have := qm.symm.trans qv
        simp only [Option.some.injEq, Obj.cells.injEq] at this
        have hc := congrArg Array.size this.1
        rw [← hc5.out] at hc
        simp [cells32] at hc
      have qv4 := qv.four
      obtain rfl : nb = false := wdY.1
      refine (set_frac false (some ⟨gm, 0, none⟩) 65 65 false Y ny cy hb kv qv).elim (fun Z5 hq => ?_)
      have c0 := qv4.1
      have c1' := qv4.2.1
      have c2 := qv4.2.2.1
      have c3 := qv4.2.2.2.1
      have f0 := qv4.2.2.2.2.1
      have f1 := qv4.2.2.2.2.2.1
      have f2 := qv4.2.2.2.2.2.2.1
      have f3 := qv4.2.2.2.2.2.2.2
      have hZ := hq.1
      refine wpAnyL_one (i := 5) rfl (by kernel_rfl) (fun K hK => ?_)
      go_simp
      (try rw [hZ])
      refine hK.out _ _ (fun _ => trivial) ?_
      clear hK K
      try simp only [Act.put, List.setIfInBounds_toArray, List.set_cons_zero, List.set_cons_succ]
      refine wpAnyL_done (by kernel_rfl) ?_ _
      refine OnlyNormal.normal ?_
      have hBZ := hq.2.1
      have fb := hide hq.2.2.1
      replace qm := hq.2.2.2.2.1 _ _ _ hgne qm
      have wd1 := hide (hq.2.2.2.1 _ _ _ _ _ wdY)
      clear hq hZ c0 c1' c2 c3 f0 f1 f2 f3 qv4 qv wdY hb
      rw [← hc5.out] at qm
      have ysm : Z5.cell? ⟨gm, 64, none⟩ = some (limb 0) := by rw [qm.cell, cells32_get _ _ (by simp)]; simp
      have yfm := qm.frozen 64
      have ylm := qm.lt
      have lY1 : Lim Z5 Y ny cy [1] := by have h := wd1.out.2.2; rw [digits_1] at h; exact h
      have lY2 := lim_one_far lY1 qm 64 (limb 1)
      replace qm := qm.set_ 64 (limb 1)
      rw [cells32_set] at qm
      have fb2 := fb.out.far (p := ⟨gm, 64, none⟩) (Ne.symm hgne) (limb 1)
      have hz5 := (Below.refl Yon.heap.size Z5).setCell (p := ⟨gm, 64, none⟩) km (limb 1)
      obtain ⟨Z6, hZ6⟩ : ∃ Z, Z5.setCell ⟨gm, 64, none⟩ (.int .u32 1) = Z := ⟨_, rfl⟩
      replace qm : Blk Z6 gm 52 (cells32 ((List.replicate 65 0).set 64 1)) := by rw [← hZ6]; exact qm
      replace lY2 : Hid (Lim Z6 Y ny cy [1]) := by rw [← hZ6]; exact hide lY2
      replace fb2 : Hid (Blk Z6 gv 27 #[.bool false, .slice (some ⟨gm, 0, none⟩) 65 65, .bool false, .slice Y ny cy]) := by rw [← hZ6]; exact hide fb2
      replace hz5 : Below Yon.heap.size Z5 Z6 := by rw [← hZ6]; exact hz5
      have lX := hide (Lim.of_blk qm (fun x hx => by rcases List.mem_or_eq_of_mem_set hx with h | h; exact (by rw [(List.mem_replicate.1 h).2]; omega); omega) (by simp [maxLen]))
      have gv4 := fb.out.four
      replace hBZ := (below_drewL hBZ).trans hz5
      replace hB := hB.trans (hBZ.mono hB.size)
      replace ni := hide (ni.out.below hBZ)
      replace onf := hide (onf.out.below hBZ)
      replace ya := hide (keep_blk hBZ ya.out)
      replace ba := hide (keep_blk hBZ ba.out)
      replace yt := hide (keep_blk hBZ yt.out)
      replace bt := hide (keep_blk hBZ bt.out)
      replace onb := hide (keep_blk hBZ onb.out)
      clear fb wd1 lY1 hz5 qm
      obtain ⟨gv0, gv1, gv2, gv3, -⟩ := gv4
      replace fb2 := fb2
      go_wp2_with fail
      clear ysm yfm ylm hZ6 gv0 gv1 gv2 gv3 hmk5
      obtain ⟨es9, hL9, he9, ok9⟩ := pl_ok ni.out (by decide +kernel) (by decide +kernel)
      replace hL9 := hide hL9
      replace ok9 := hide ok9
      clear he9
      have la := hide (Lim.of_blk ya.out (fun x hx => by rcases List.mem_or_eq_of_mem_set hx with h | h; exact (by rw [(List.mem_replicate.1 h).2]; omega); omega) (by simp [maxLen]))
      have hSv : Hid (∀ wx, Below Z6.heap.size Z6 wx → wx.cell? ⟨ga + 1, 0, none⟩ = some (.bool false) ∧ wx.cell? ⟨ga + 1, 1, none⟩ = some (.slice (some ⟨ga, 0, none⟩) 41 41)) := hide (fun wx hbx => by have v := (keep_blk hbx ba.out).two; exact ⟨v.1, v.2.1⟩)
      have hr0 : Below Z6.heap.size Z6 Z6.drew := below_dn (Below.refl _ _) 1
      refine wp_held [] (fun wx => wx.cell? ⟨ga + 1, 0, none⟩ = some (.bool false) ∧ wx.cell? ⟨ga + 1, 1, none⟩ = some (.slice (some ⟨ga, 0, none⟩) 41 41)) hmx (hSv.out _ hr0) (fun _ => ?_)
      refine wpAnyL_pure (i := 0) (v := ?v1) rfl (by kernel_rfl) (by kernel_rfl) (by kernel_rfl) (by kernel_rfl) (Or.inl ⟨by kernel_rfl, ?hy1⟩) (fun _ => (hSv.out _ hr0)) ?rest1
      case hy1 => (intro W2 _; go_simp; try with_reducible rfl)
      try simp only [Act.put, List.setIfInBounds_toArray, List.set_cons_zero, List.set_cons_succ, List.getElem_toArray, List.getElem_cons_succ, List.getElem_cons_zero]
      refine (new_obj 25 #[.bool false, .slice none 0 0] (Below.refl Z6.drew.heap.size Z6.drew) (Nat.le_refl _)).elim (fun Vr1 hq => ?_)
      refine wpAnyL_one (i := 1) rfl (by kernel_rfl) (fun K hK => ?_)
      go_simp
      (try rw [hq.1])
      have hbr1 := hq.2.1
      have yr1 := hide hq.2.2.1
      clear hq
      have hr1 := hr0.trans (hbr1.mono hr0.size)
      refine hK.out _ _ (fun _ => (hSv.out _ hr1)) ?_
      clear hK K
      try simp only [Act.put, List.setIfInBounds_toArray, List.set_cons_zero, List.set_cons_succ]
      refine wpAnyL_one (i := 2) rfl (by kernel_rfl) (fun K hK => ?_)
      go_simp
      refine (pCheck_any _ 1 1 [⟨false, none, 0, 0, []⟩] Vr1 (WL.single yr1.out (Lim.nil _ _ _ (Nat.zero_le _)))).mono ?_
      rintro e w3 ⟨he, hbq⟩
      rw [show errOf (pOk [⟨false, none, 0, 0, []⟩]) = 8 by kernel_rfl] at he
      subst he
      have hr2 := hr1.trans (hbq.mono hr1.size)
      refine hK.out _ _ (fun _ => (hSv.out _ hr2)) ?_
      clear hK K
      try simp only [Act.put, List.setIfInBounds_toArray, List.set_cons_zero, List.set_cons_succ]
      refine wpAnyL_pure (i := 3) (v := ?v2) rfl (by kernel_rfl) (by kernel_rfl) (by kernel_rfl) (by kernel_rfl) (Or.inl ⟨by kernel_rfl, ?hy2⟩) (fun _ => (hSv.out _ hr2)) ?rest2
      case hy2 => (intro W2 _; go_simp; try with_reducible rfl)
      try simp only [Act.put, List.setIfInBounds_toArray, List.set_cons_zero, List.set_cons_succ, List.getElem_toArray, List.getElem_cons_succ, List.getElem_cons_zero]
      refine wpAnyL_pure (i := 4) (v := ?v3) rfl (by kernel_rfl) (by kernel_rfl) (by kernel_rfl) (by kernel_rfl) (Or.inl ⟨by kernel_rfl, ?hy3⟩) (fun _ => (hSv.out _ hr2)) ?rest3
      case hy3 => (intro W2 _; go_simp; try with_reducible rfl)
      try simp only [Act.put, List.setIfInBounds_toArray, List.set_cons_zero, List.set_cons_succ, List.getElem_toArray, List.getElem_cons_succ, List.getElem_cons_zero]
      refine wpAnyL_take (i := 5) (v := ?v4) rfl (by kernel_rfl) (by kernel_rfl) (by kernel_rfl) (by kernel_rfl) (by kernel_rfl) (Or.inl ⟨by kernel_rfl, ?hy4⟩) (hSv.out _ hr2) ?rest4
      case hy4 => (intro W2 hSw; (try dsimp only at hSw); go_simp; try with_reducible rfl)
      try simp only [Act.put, List.setIfInBounds_toArray, List.set_cons_zero, List.set_cons_succ, List.getElem_toArray, List.getElem_cons_succ, List.getElem_cons_zero]
      refine (new_obj 25 #[.bool false, .slice (some ⟨ga, 0, none⟩) 41 41] (Below.refl w3.heap.size w3) (Nat.le_refl _)).elim (fun Vr2 hq => ?_)
      refine wpAnyL_one (i := 6) rfl (by kernel_rfl) (fun K hK => ?_)
      go_simp
      (try rw [hq.1])
      have hbr2 := hq.2.1
      have yr2 := hide hq.2.2.1
      clear hq
      have hr3 := hr2.trans (hbr2.mono hr2.size)
      refine hK.out _ _ (fun _ => (hSv.out _ hr3)) ?_
      clear hK K
      try simp only [Act.put, List.setIfInBounds_toArray, List.set_cons_zero, List.set_cons_succ]
      refine wpAnyL_one (i := 7) rfl (by kernel_rfl) (fun K hK => ?_)
      go_simp
      refine (pCheck_any _ 1 1 [⟨false, some ⟨ga, 0, none⟩, 41, 41, (List.replicate 41 0).set 40 1⟩] Vr2 (WL.single yr2.out (la.out.below hr3))).mono ?_
      rintro e w4 ⟨he, hbq⟩
      rw [show errOf (pOk [⟨false, some ⟨ga, 0, none⟩, 41, 41, (List.replicate 41 0).set 40 1⟩]) = 8 by kernel_rfl] at he
      subst he
      have hr4 := hr3.trans (hbq.mono hr3.size)
      refine hK.out _ _ (fun _ => (hSv.out _ hr4)) ?_
      clear hK K
      try simp only [Act.put, List.setIfInBounds_toArray, List.set_cons_zero, List.set_cons_succ]
      refine wpAnyL_pure (i := 8) (v := ?v5) rfl (by kernel_rfl) (by kernel_rfl) (by kernel_rfl) (by kernel_rfl) (Or.inl ⟨by kernel_rfl, ?hy5⟩) (fun _ => (hSv.out _ hr4)) ?rest5
      case hy5 => (intro W2 _; go_simp; try with_reducible rfl)
      try simp only [Act.put, List.setIfInBounds_toArray, List.set_cons_zero, List.set_cons_succ, List.getElem_toArray, List.getElem_cons_succ, List.getElem_cons_zero]
      refine wpAnyL_pure (i := 9) (v := ?v6) rfl (by kernel_rfl) (by kernel_rfl) (by kernel_rfl) (by kernel_rfl) (Or.inl ⟨by kernel_rfl, ?hy6⟩) (fun _ => (hSv.out _ hr4)) ?rest6
      case hy6 => (intro W2 _; go_simp; try with_reducible rfl)
      try simp only [Act.put, List.setIfInBounds_toArray, List.set_cons_zero, List.set_cons_succ, List.getElem_toArray, List.getElem_cons_succ, List.getElem_cons_zero]
      refine wpAnyL_pure (i := 10) (v := ?v7) rfl (by kernel_rfl) (by kernel_rfl) (by kernel_rfl) (by kernel_rfl) (Or.inl ⟨by kernel_rfl, ?hy7⟩) (fun _ => (hSv.out _ hr4)) ?rest7
      case hy7 => (intro W2 _; go_simp; try with_reducible rfl)
      try simp only [Act.put, List.setIfInBounds_toArray, List.set_cons_zero, List.set_cons_succ, List.getElem_toArray, List.getElem_cons_succ, List.getElem_cons_zero]
      refine wpAnyL_pure (i := 11) (v := ?v8) rfl (by kernel_rfl) (by kernel_rfl) (by kernel_rfl) (by kernel_rfl) (Or.inl ⟨by kernel_rfl, ?hy8⟩) (fun _ => (hSv.out _ hr4)) ?rest8
      case hy8 => (intro W2 _; go_simp; try with_reducible rfl)
      try simp only [Act.put, List.setIfInBounds_toArray, List.set_cons_zero, List.set_cons_succ, List.getElem_toArray, List.getElem_cons_succ, List.getElem_cons_zero]
      refine wpAnyL_pure (i := 12) (v := ?v9) rfl (by kernel_rfl) (by kernel_rfl) (by kernel_rfl) (by kernel_rfl) (Or.inl ⟨by kernel_rfl, ?hy9⟩) (fun _ => (hSv.out _ hr4)) ?rest9
      case hy9 => (intro W2 _; go_simp; try with_reducible rfl)
      try simp only [Act.put, List.setIfInBounds_toArray, List.set_cons_zero, List.set_cons_succ, List.getElem_toArray, List.getElem_cons_succ, List.getElem_cons_zero]
      refine wpAnyL_one (i := 13) rfl (by kernel_rfl) (fun K hK => ?_)
      go_simp
      refine (rFrom_any 1 w4 (by omega) (by omega)).mono ?_
      rintro e w5 ⟨hbq, n1, A1, k1, c1, rfl, wd1⟩
      replace wd1 := hide wd1
      have hr5 := hr4.trans (hbq.mono hr4.size)
      refine hK.out _ _ (fun _ => (hSv.out _ hr5)) ?_
      clear hK K
      try simp only [Act.put, List.setIfInBounds_toArray, List.set_cons_zero, List.set_cons_succ]
      refine (new_obj 25 #[.bool n1, .slice A1 k1 c1] (Below.refl w5.heap.size w5) (Nat.le_refl _)).elim (fun Vr3 hq => ?_)
      refine wpAnyL_one (i := 14) rfl (by kernel_rfl) (fun K hK => ?_)
      go_simp
      (try rw [hq.1])
      have hbr3 := hq.2.1
      have yr3 := hide hq.2.2.1
      clear hq
      have hr6 := hr5.trans (hbr3.mono hr5.size)
      refine hK.out _ _ (fun _ => (hSv.out _ hr6)) ?_
      clear hK K
      try simp only [Act.put, List.setIfInBounds_toArray, List.set_cons_zero, List.set_cons_succ]
      have lf := WL.single yr3.out (wd1.out.below hbr3).2.2
      have l9 := hL9.out.below hr6
      refine wpAnyL_one (i := 15) rfl (by kernel_rfl) (fun K hK => ?_)
      rw [if_pos (by kernel_rfl)]
      refine wp_append_full Vr3 (.tmp 73) (.tmp 75) 22 rfl 25 iw Tryz.underlying22 v1 v2 v3 v4 niA 9 es9 rfl ⟨l9.1, Nat.le_refl _, by unfold maxLen; omega, l9.2.2.2⟩ (by omega) _ 1 1 _ rfl lf (by omega) (by omega) (fun A10 c10 w10 hL10 hb10 => ?_)
      clear lf l9
      have hr7 := hr6.trans (hb10.mono hr6.size)
      refine hK.out _ _ (fun _ => (hSv.out _ hr7)) ?_
      clear hK K
      try simp only [Act.put, List.setIfInBounds_toArray, List.set_cons_zero, List.set_cons_succ]
      refine wpAnyL_one (i := 16) rfl (by kernel_rfl) (fun K hK => ?_)
      go_simp
      refine (pCheck_any A10 10 c10 _ w10 hL10).mono ?_
      rintro e w6 ⟨he, hbq⟩
      rw [pOk_long (by rw [List.length_append, hL9.out.1]; simp), show errOf false = 8 from rfl] at he
      subst he
      have hr8 := hr7.trans (hbq.mono hr7.size)
      refine hK.out _ _ (fun _ => (hSv.out _ hr8)) ?_
      clear hK K
      try simp only [Act.put, List.setIfInBounds_toArray, List.set_cons_zero, List.set_cons_succ]
      refine wpAnyL_pure (i := 17) (v := ?v10) rfl (by kernel_rfl) (by kernel_rfl) (by kernel_rfl) (by kernel_rfl) (Or.inl ⟨by kernel_rfl, ?hy10⟩) (fun _ => (hSv.out _ hr8)) ?rest10
      case hy10 => (intro W2 _; go_simp; try with_reducible rfl)
      try simp only [Act.put, List.setIfInBounds_toArray, List.set_cons_zero, List.set_cons_succ, List.getElem_toArray, List.getElem_cons_succ, List.getElem_cons_zero]
      refine wpAnyL_pure (i := 18) (v := ?v11) rfl (by kernel_rfl) (by kernel_rfl) (by kernel_rfl) (by kernel_rfl) (Or.inl ⟨by kernel_rfl, ?hy11⟩) (fun _ => (hSv.out _ hr8)) ?rest11
      case hy11 => (intro W2 _; go_simp; try with_reducible rfl)
      try simp only [Act.put, List.setIfInBounds_toArray, List.set_cons_zero, List.set_cons_succ, List.getElem_toArray, List.getElem_cons_succ, List.getElem_cons_zero]
      refine wpAnyL_pure (i := 19) (v := ?v12) rfl (by kernel_rfl) (by kernel_rfl) (by kernel_rfl) (by kernel_rfl) (Or.inl ⟨by kernel_rfl, ?hy12⟩) (fun _ => (hSv.out _ hr8)) ?rest12
      case hy12 => (intro W2 _; go_simp; try with_reducible rfl)
      try simp only [Act.put, List.setIfInBounds_toArray, List.set_cons_zero, List.set_cons_succ, List.getElem_toArray, List.getElem_cons_succ, List.getElem_cons_zero]
      refine wpAnyL_pure (i := 20) (v := ?v13) rfl (by kernel_rfl) (by kernel_rfl) (by kernel_rfl) (by kernel_rfl) (Or.inl ⟨by kernel_rfl, ?hy13⟩) (fun _ => (hSv.out _ hr8)) ?rest13
      case hy13 => (intro W2 _; go_simp; try with_reducible rfl)
      try simp only [Act.put, List.setIfInBounds_toArray, List.set_cons_zero, List.set_cons_succ, List.getElem_toArray, List.getElem_cons_succ, List.getElem_cons_zero]
      refine wpAnyL_one (i := 21) rfl (by kernel_rfl) (fun K hK => ?_)
      go_simp
      refine (pCheck_any niA 9 nic es9 w6 (hL9.out.below hr8)).mono ?_
      rintro e w7 ⟨he, hbq⟩
      rw [ok9.out, show errOf true = 0 from rfl] at he
      subst he
      have hr9 := hr8.trans (hbq.mono hr8.size)
      refine hK.out _ _ (fun _ => (hSv.out _ hr9)) ?_
      clear hK K
      try simp only [Act.put, List.setIfInBounds_toArray, List.set_cons_zero, List.set_cons_succ]
      refine wpAnyL_pure (i := 22) (v := ?v14) rfl (by kernel_rfl) (by kernel_rfl) (by kernel_rfl) (by kernel_rfl) (Or.inl ⟨by kernel_rfl, ?hy14⟩) (fun _ => (hSv.out _ hr9)) ?rest14
      case hy14 => (intro W2 _; go_simp; try with_reducible rfl)
      try simp only [Act.put, List.setIfInBounds_toArray, List.set_cons_zero, List.set_cons_succ, List.getElem_toArray, List.getElem_cons_succ, List.getElem_cons_zero]
      refine wpAnyL_pure (i := 23) (v := ?v15) rfl (by kernel_rfl) (by kernel_rfl) (by kernel_rfl) (by kernel_rfl) (Or.inl ⟨by kernel_rfl, ?hy15⟩) (fun _ => (hSv.out _ hr9)) ?rest15
      case hy15 => (intro W2 _; go_simp; try with_reducible rfl)
      try simp only [Act.put, List.setIfInBounds_toArray, List.set_cons_zero, List.set_cons_succ, List.getElem_toArray, List.getElem_cons_succ, List.getElem_cons_zero]
      refine wpAnyL_pure (i := 24) (v := ?v16) rfl (by kernel_rfl) (by kernel_rfl) (by kernel_rfl) (by kernel_rfl) (Or.inl ⟨by kernel_rfl, ?hy16⟩) (fun _ => (hSv.out _ hr9)) ?rest16
      case hy16 => (intro W2 _; go_simp; try with_reducible rfl)
      try simp only [Act.put, List.setIfInBounds_toArray, List.set_cons_zero, List.set_cons_succ, List.getElem_toArray, List.getElem_cons_succ, List.getElem_cons_zero]
      refine wpAnyL_one (i := 25) rfl (by kernel_rfl) (fun K hK => ?_)
      go_simp
      refine (pCheck_any none 0 0 [] w7 (WL.nil _ _ _ (Nat.zero_le _))).mono ?_
      rintro e w8 ⟨he, hbq⟩
      rw [show errOf (pOk []) = 0 by kernel_rfl] at he
      subst he
      have hr10 := hr9.trans (hbq.mono hr9.size)
      refine hK.out _ _ (fun _ => (hSv.out _ hr10)) ?_
      clear hK K
      try simp only [Act.put, List.setIfInBounds_toArray, List.set_cons_zero, List.set_cons_succ]
      refine wpAnyL_pure (i := 26) (v := ?v17) rfl (by kernel_rfl) (by kernel_rfl) (by kernel_rfl) (by kernel_rfl) (Or.inl ⟨by kernel_rfl, ?hy17⟩) (fun _ => (hSv.out _ hr10)) ?rest17
      case hy17 => (intro W2 _; go_simp; try with_reducible rfl)
      try simp only [Act.put, List.setIfInBounds_toArray, List.set_cons_zero, List.set_cons_succ, List.getElem_toArray, List.getElem_cons_succ, List.getElem_cons_zero]
      refine wpAnyL_pure (i := 27) (v := ?v18) rfl (by kernel_rfl) (by kernel_rfl) (by kernel_rfl) (by kernel_rfl) (Or.inl ⟨by kernel_rfl, ?hy18⟩) (fun _ => (hSv.out _ hr10)) ?rest18
      case hy18 => (intro W2 _; go_simp; try with_reducible rfl)
      try simp only [Act.put, List.setIfInBounds_toArray, List.set_cons_zero, List.set_cons_succ, List.getElem_toArray, List.getElem_cons_succ, List.getElem_cons_zero]
      refine wpAnyL_pure (i := 28) (v := ?v19) rfl (by kernel_rfl) (by kernel_rfl) (by kernel_rfl) (by kernel_rfl) (Or.inl ⟨by kernel_rfl, ?hy19⟩) (fun _ => (hSv.out _ hr10)) ?rest19
      case hy19 => (intro W2 _; go_simp; try with_reducible rfl)
      try simp only [Act.put, List.setIfInBounds_toArray, List.set_cons_zero, List.set_cons_succ, List.getElem_toArray, List.getElem_cons_succ, List.getElem_cons_zero]
      refine wpAnyL_done (by kernel_rfl) ?_ _
      refine OnlyNormal.normal ?_
      have hrE := hr10
      clear hr0 hr1 hr2 hr3 hr4 hr5 hr6 hr7 hr8 hr9 hr10 hSv
      replace hB := hB.trans (hrE.mono hB.size)
      replace ni := hide (ni.out.below hrE)
      replace onf := hide (onf.out.below hrE)
      replace ya := hide (keep_blk hrE ya.out)
      replace ba := hide (keep_blk hrE ba.out)
      replace yt := hide (keep_blk hrE yt.out)
      replace bt := hide (keep_blk hrE bt.out)
      replace onb := hide (keep_blk hrE onb.out)
      replace fb2 := hide (keep_blk hrE fb2.out)
      replace lY2 := hide (lY2.out.below hrE)
      replace lX := hide (lX.out.below hrE)
      replace hL9 := hide (hL9.out.below hrE)
      replace la := hide (la.out.below hrE)
      clear hrE
      obtain ⟨Vzo, hVzo, hXzo, yzo, -, -, -⟩ := new_obj 2 #[.int .i64 0, .int .i64 1] (Below.refl w8.heap.size w8) (Nat.le_refl _)
      replace hB := hB.trans (hXzo.mono hB.size)
      replace ni := hide (ni.out.below hXzo)
      replace onf := hide (onf.out.below hXzo)
      replace ya := hide (keep_blk hXzo ya.out)
      replace ba := hide (keep_blk hXzo ba.out)
      replace yt := hide (keep_blk hXzo yt.out)
      replace bt := hide (keep_blk hXzo bt.out)
      replace onb := hide (keep_blk hXzo onb.out)
      replace fb2 := hide (keep_blk hXzo fb2.out)
      replace lY2 := hide (lY2.out.below hXzo)
      replace lX := hide (lX.out.below hXzo)
      replace hL9 := hide (hL9.out.below hXzo)
      replace la := hide (la.out.below hXzo)
      have hl := hide (LimI.of_blkP (l := [0, 1]) yzo rfl (by decide) (by decide))
      go_wp2_with fail
      clear hVzo
      refine (Ints_ok _ 2 2 [0, 1] Vzo hl.out (by omega)).mono ?_
      rintro e w9 ⟨zoA, zon, zoc, rfl, zo, hb⟩
      replace hB := hB.trans (hb.mono hB.size)
      replace ni := hide (ni.out.below hb)
      replace onf := hide (onf.out.below hb)
      replace ya := hide (keep_blk hb ya.out)
      replace ba := hide (keep_blk hb ba.out)
      replace yt := hide (keep_blk hb yt.out)
      replace bt := hide (keep_blk hb bt.out)
      replace onb := hide (keep_blk hb onb.out)
      replace fb2 := hide (keep_blk hb fb2.out)
      replace lY2 := hide (lY2.out.below hb)
      replace lX := hide (lX.out.below hb)
      replace hL9 := hide (hL9.out.below hb)
      replace la := hide (la.out.below hb)
      clear hb hl yzo
      rw [show trimP [0, 1] = [0, 1] by decide +kernel] at zo
      replace zo := hide zo
      go_wp2_with fail
      refine (Mul_range niA zoA 9 nic zon zoc _ _ w9 ni.out zo.out (by decide +kernel) (by decide +kernel) (by decide +kernel) (by decide +kernel) (by decide +kernel)).mono ?_
      rintro e w10 ⟨hb, mrA, rfl⟩
      replace hB := hB.trans (hb.mono hB.size)
      replace ni := hide (ni.out.below hb)
      replace zo := hide (zo.out.below hb)
      replace onf := hide (onf.out.below hb)
      replace ya := hide (keep_blk hb ya.out)
      replace ba := hide (keep_blk hb ba.out)
      replace yt := hide (keep_blk hb yt.out)
      replace bt := hide (keep_blk hb bt.out)
      replace onb := hide (keep_blk hb onb.out)
      replace fb2 := hide (keep_blk hb fb2.out)
      replace lY2 := hide (lY2.out.below hb)
      replace lX := hide (lX.out.below hb)
      replace hL9 := hide (hL9.out.below hb)
      replace la := hide (la.out.below hb)
      clear hb
      clear zo
      go_wp2_with fail
      obtain ⟨tc0, tc1, -, -⟩ := bt.out.two
      refine wp_held [] (fun wx => wx.cell? ⟨gt + 1, 0, none⟩ = some (.bool false) ∧ wx.cell? ⟨gt + 1, 1, none⟩ = some (.slice (some ⟨gt, 0, none⟩) 40 40)) hmx ⟨tc0, tc1⟩ (fun _ => ?_)
      refine wpAnyL_take (i := 0) (v := ?v20) rfl (by kernel_rfl) (by kernel_rfl) (by kernel_rfl) (by kernel_rfl) (by kernel_rfl) (Or.inl ⟨by kernel_rfl, ?hy20⟩) ⟨tc0, tc1⟩ ?rest20
      case hy20 => (intro W2 hSw; (try dsimp only at hSw); go_simp; try with_reducible rfl)
      try simp only [Act.put, List.setIfInBounds_toArray, List.set_cons_zero, List.set_cons_succ, List.getElem_toArray, List.getElem_cons_succ, List.getElem_cons_zero]
      have hS4 : Hid (∀ wx, Below w10.drew.heap.size w10.drew wx → wx.cell? ⟨gt + 1, 0, none⟩ = some (.bool false) ∧ wx.cell? ⟨gt + 1, 1, none⟩ = some (.slice (some ⟨gt, 0, none⟩) 40 40)) := hide (fun wx hbx => ⟨keep_cell hbx tc0, keep_cell hbx tc1⟩)
      clear tc0 tc1
      refine wpAnyL_allP [(1, 98), (2, 99), (3, 100)] (names14 gt) 6 (by kernel_rfl) ?hst4 (fun _ h => hS4.out _ h) ?hop4 ?hfin4
      case hst4 =>
        intro p hp
        simp only [List.mem_cons, List.not_mem_nil, or_false] at hp
        rcases hp with rfl | rfl | rfl
        · rintro v w1 w2 hb ⟨g, rfl, h2⟩; exact ⟨g, rfl, keep_blk hb h2⟩
        · rintro v w1 w2 hb ⟨g, rfl, h2⟩; exact ⟨g, rfl, keep_blk hb h2⟩
        · rintro v w1 w2 hb ⟨A, n, c, rfl, h2⟩; exact ⟨A, n, c, rfl, h2.below hb⟩
      case hop4 =>
        intro p hp
        simp only [List.mem_cons, List.not_mem_nil, or_false] at hp
        simp only [List.map_cons, List.map_nil, putsR, Act.put, List.setIfInBounds_toArray, List.set_cons_zero, List.set_cons_succ]
        rcases hp with rfl | rfl | rfl
        · intro ν wx hb hP
          refine wpOp_shut (i := 1) rfl (fun K hK => ?_)
          go_simp
          exact hK.out _ _ ⟨_, rfl, ⟨_, rfl, Blk.new _ _ _⟩, (Below.refl _ _).alloc (Nat.le_refl _) _⟩
        · intro ν wx hb hP
          refine wpOp_shut (i := 2) rfl (fun K hK => ?_)
          go_simp
          exact hK.out _ _ ⟨_, rfl, ⟨_, rfl, Blk.new _ _ _⟩, (Below.refl _ _).alloc (Nat.le_refl _) _⟩
        · intro ν wx hb hP
          obtain ⟨g0, hν0, q0⟩ := hP (2, 99) (by simp) (by kernel_rfl)
          dsimp only at hν0
          rw [hν0]
          have hl := hide (LimI.of_blkP (l := [1]) q0 rfl (by decide) (by decide))
          refine wpOp_shut (i := 3) rfl (fun K hK => ?_)
          go_simp
          refine (Ints_ok _ 1 1 [1] wx hl.out (by omega)).mono ?_
          rintro e w5 ⟨A5, n5, c6, rfl, hW5, hb5⟩
          rw [show trimP [1] = [1] by decide +kernel] at hW5
          exact hK.out _ _ ⟨_, rfl, ⟨_, _, _, rfl, hW5⟩, hb5⟩
      case hfin4 =>
        intro ν wx hb hP
        obtain ⟨g1, h1, q1⟩ := hP (1, 98) (by simp)
        obtain ⟨g2, h2, -⟩ := hP (2, 99) (by simp)
        obtain ⟨A3, n3, c3, h3, q3⟩ := hP (3, 100) (by simp)
        dsimp only at h1 h2 h3
        simp only [List.map_cons, List.map_nil, putsR, Act.put, List.setIfInBounds_toArray, List.set_cons_zero, List.set_cons_succ]
        rw [h1, h2, h3]
        clear h1 h2 h3 hP ν
        have lt : Hid (Lim wx (some ⟨gt, 0, none⟩) 40 40 (List.replicate 40 4294967295)) := hide (Lim.of_blk (keep_blk (below_drewL hb) yt.out) (fun x hx => by rw [(List.mem_replicate.1 hx).2]; omega) (by simp [maxLen]))
        refine wpAnyL_one (i := 4) rfl (by kernel_rfl) (fun K hK => ?_)
        go_simp
        refine (Add_range _ A3 1 1 n3 c3 [1] wx [⟨false, some ⟨gt, 0, none⟩, 40, 40, List.replicate 40 4294967295⟩] (WL.single q1 lt.out) q3 (by kernel_rfl) (by decide +kernel) (by decide +kernel) top_big).mono ?_
        rintro e w11 ⟨hbq, arA, rfl⟩
        have hr1 := hb.trans (hbq.mono hb.size)
        refine hK.out _ _ (fun _ => hS4.out _ hr1) ?_
        clear hK K
        try simp only [Act.put, List.setIfInBounds_toArray, List.set_cons_zero, List.set_cons_succ]
        refine wpAnyL_pure (i := 5) (v := ?v21) rfl (by kernel_rfl) (by kernel_rfl) (by kernel_rfl) (by kernel_rfl) (Or.inl ⟨by kernel_rfl, ?hy21⟩) (fun _ => (hS4.out _ hr1)) ?rest21
        case hy21 => (intro W2 _; go_simp; try with_reducible rfl)
        try simp only [Act.put, List.setIfInBounds_toArray, List.set_cons_zero, List.set_cons_succ, List.getElem_toArray, List.getElem_cons_succ, List.getElem_cons_zero]
        refine wpAnyL_pure (i := 6) (v := ?v22) rfl (by kernel_rfl) (by kernel_rfl) (by kernel_rfl) (by kernel_rfl) (Or.inl ⟨by kernel_rfl, ?hy22⟩) (fun _ => (hS4.out _ hr1)) ?rest22
        case hy22 => (intro W2 _; go_simp; try with_reducible rfl)
        try simp only [Act.put, List.setIfInBounds_toArray, List.set_cons_zero, List.set_cons_succ, List.getElem_toArray, List.getElem_cons_succ, List.getElem_cons_zero]
        refine wpAnyL_pure (i := 7) (v := ?v23) rfl (by kernel_rfl) (by kernel_rfl) (by kernel_rfl) (by kernel_rfl) (Or.inl ⟨by kernel_rfl, ?hy23⟩) (fun _ => (hS4.out _ hr1)) ?rest23
        case hy23 => (intro W2 _; go_simp; try with_reducible rfl)
        try simp only [Act.put, List.setIfInBounds_toArray, List.set_cons_zero, List.set_cons_succ, List.getElem_toArray, List.getElem_cons_succ, List.getElem_cons_zero]
        refine wpAnyL_pure (i := 8) (v := ?v24) rfl (by kernel_rfl) (by kernel_rfl) (by kernel_rfl) (by kernel_rfl) (Or.inl ⟨by kernel_rfl, ?hy24⟩) (fun _ => (hS4.out _ hr1)) ?rest24
        case hy24 => (intro W2 _; go_simp; try with_reducible rfl)
        try simp only [Act.put, List.setIfInBounds_toArray, List.set_cons_zero, List.set_cons_succ, List.getElem_toArray, List.getElem_cons_succ, List.getElem_cons_zero]
        refine wpAnyL_pure (i := 9) (v := ?v25) rfl (by kernel_rfl) (by kernel_rfl) (by kernel_rfl) (by kernel_rfl) (Or.inl ⟨by kernel_rfl, ?hy25⟩) (fun _ => (hS4.out _ hr1)) ?rest25
        case hy25 => (intro W2 _; go_simp; try with_reducible rfl)
        try simp only [Act.put, List.setIfInBounds_toArray, List.set_cons_zero, List.set_cons_succ, List.getElem_toArray, List.getElem_cons_succ, List.getElem_cons_zero]
        refine wpAnyL_done (by kernel_rfl) ?_ _
        refine OnlyNormal.normal ?_
        have hrE := below_drewL hr1
        clear hr1 hS4 hb hbq lt q1 q3
        replace hB := hB.trans (hrE.mono hB.size)
        replace ni := hide (ni.out.below hrE)
        replace onf := hide (onf.out.below hrE)
        replace ya := hide (keep_blk hrE ya.out)
        replace ba := hide (keep_blk hrE ba.out)
        replace yt := hide (keep_blk hrE yt.out)
        replace bt := hide (keep_blk hrE bt.out)
        replace onb := hide (keep_blk hrE onb.out)
        replace fb2 := hide (keep_blk hrE fb2.out)
        replace lY2 := hide (lY2.out.below hrE)
        replace lX := hide (lX.out.below hrE)
        replace hL9 := hide (hL9.out.below hrE)
        replace la := hide (la.out.below hrE)
        clear hrE
        obtain ⟨fv0, fv1, fv2, fv3, -⟩ := fb2.out.four
        go_wp2_with fail
        clear fv0 fv1 fv2 fv3
        refine (Eval_many niA 9 nic es9 false false (some ⟨gm, 0, none⟩) Y 65 65 ny cy _ _ w11 hL9.out ok9.out lX.out lY2.out far_ok (by omega)).mono ?_
        rintro e w12 ⟨rfl, hb⟩
        replace hB := hB.trans (hb.mono hB.size)
        replace ni := hide (ni.out.below hb)
        replace onf := hide (onf.out.below hb)
        replace ya := hide (keep_blk hb ya.out)
        replace ba := hide (keep_blk hb ba.out)
        replace yt := hide (keep_blk hb yt.out)
        replace bt := hide (keep_blk hb bt.out)
        replace onb := hide (keep_blk hb onb.out)
        replace fb2 := hide (keep_blk hb fb2.out)
        replace lY2 := hide (lY2.out.below hb)
        replace lX := hide (lX.out.below hb)
        replace hL9 := hide (hL9.out.below hb)
        replace la := hide (la.out.below hb)
        clear hb
        obtain ⟨Xef, hXef, hxef, zef, -, -, -⟩ := new_obj 27 #[.bool false, .slice none 0 0, .bool false, .slice none 0 0] (Below.refl w12.heap.size w12) (Nat.le_refl _)
        obtain ⟨ef0, ef1, ef2, ef3, ef4, ef5, ef6, ef7⟩ := zef.four
        obtain ⟨Yef, hYef, hyef, efb, -⟩ := set_frac false none 0 0 false none 0 0 hxef (Nat.le_refl _) zef
        replace hB := hB.trans (hyef.mono hB.size)
        replace ni := hide (ni.out.below hyef)
        replace onf := hide (onf.out.below hyef)
        replace ya := hide (keep_blk hyef ya.out)
        replace ba := hide (keep_blk hyef ba.out)
        replace yt := hide (keep_blk hyef yt.out)
        replace bt := hide (keep_blk hyef bt.out)
        replace onb := hide (keep_blk hyef onb.out)
        replace fb2 := hide (keep_blk hyef fb2.out)
        replace lY2 := hide (lY2.out.below hyef)
        replace lX := hide (lX.out.below hyef)
        replace hL9 := hide (hL9.out.below hyef)
        replace la := hide (la.out.below hyef)
        obtain ⟨oz0, oz1, oz2, oz3, -⟩ := onb.out.four
        go_wp2_with fail
        clear oz0 oz1 oz2 oz3 hXef hxef zef hYef hyef efb ef0 ef1 ef2 ef3 ef4 ef5 ef6 ef7
        refine (Eval_bp none 0 0 [] Yef (i := 0) (M := 1) onn onm onA onB onk onc onj ond (Rat.divInt 1 1) (PolyL.nil _ _ _ (Nat.zero_le _)) (by decide +kernel) ⟨Nat.le_refl _, fun i => by simp; exact pw_pos _⟩ (by omega) (by omega) onf.out (wd_len onf.out.1 (by decide +kernel)) (wd_len onf.out.2 (by decide +kernel))).mono ?_
        rintro e w13 ⟨hb, evn, evA, evk, evc, evm, evB, evj, evd, rfl, evf⟩
        replace hB := hB.trans (hb.mono hB.size)
        replace ni := hide (ni.out.below hb)
        replace onf := hide (onf.out.below hb)
        replace ya := hide (keep_blk hb ya.out)
        replace ba := hide (keep_blk hb ba.out)
        replace yt := hide (keep_blk hb yt.out)
        replace bt := hide (keep_blk hb bt.out)
        replace onb := hide (keep_blk hb onb.out)
        replace fb2 := hide (keep_blk hb fb2.out)
        replace lY2 := hide (lY2.out.below hb)
        replace lX := hide (lX.out.below hb)
        replace hL9 := hide (hL9.out.below hb)
        replace la := hide (la.out.below hb)
        clear hb
        replace evf := hide evf
        obtain ⟨Xev, hXev, hxev, zev, -, -, -⟩ := new_obj 27 #[.bool false, .slice none 0 0, .bool false, .slice none 0 0] (Below.refl w13.heap.size w13) (Nat.le_refl _)
        obtain ⟨ev0, ev1, ev2, ev3, ev4, ev5, ev6, ev7⟩ := zev.four
        obtain ⟨Yev, hYev, hyev, evb, -⟩ := set_frac evn evA evk evc evm evB evj evd hxev (Nat.le_refl _) zev
        replace evf := hide (evf.out.below hyev)
        replace hB := hB.trans (hyev.mono hB.size)
        replace ni := hide (ni.out.below hyev)
        replace onf := hide (onf.out.below hyev)
        replace ya := hide (keep_blk hyev ya.out)
        replace ba := hide (keep_blk hyev ba.out)
        replace yt := hide (keep_blk hyev yt.out)
        replace bt := hide (keep_blk hyev bt.out)
        replace onb := hide (keep_blk hyev onb.out)
        replace fb2 := hide (keep_blk hyev fb2.out)
        replace lY2 := hide (lY2.out.below hyev)
        replace lX := hide (lX.out.below hyev)
        replace hL9 := hide (hL9.out.below hyev)
        replace la := hide (la.out.below hyev)
        replace evb := hide evb
        obtain rfl : evk = 0 := by have h := evf.out.1.2.2.len; rw [show digits ((evalQ [] (Rat.divInt 1 1)).num.natAbs) = [] by decide +kernel] at h; exact h.symm
        go_wp2_with fail
        clear hXev hxev zev hYev hyev ev0 ev1 ev2 ev3 ev4 ev5 ev6 ev7
        have hSv : Hid (∀ wx, Below Yev.heap.size Yev wx → wx.cell? ⟨w2.heap.size, 0, none⟩ = some (.bool onn) ∧ wx.cell? ⟨w2.heap.size, 1, none⟩ = some (.slice onA onk onc) ∧ wx.cell? ⟨w2.heap.size, 2, none⟩ = some (.bool onm) ∧ wx.cell? ⟨w2.heap.size, 3, none⟩ = some (.slice onB onj ond)) := hide (fun wx hbx => by have v := (keep_blk hbx onb.out).four; exact ⟨v.1, v.2.1, v.2.2.1, v.2.2.2.1⟩)
        have hr0 : Below Yev.heap.size Yev Yev.drew := below_dn (Below.refl _ _) 1
        refine wp_held [] (fun wx => wx.cell? ⟨w2.heap.size, 0, none⟩ = some (.bool onn) ∧ wx.cell? ⟨w2.heap.size, 1, none⟩ = some (.slice onA onk onc) ∧ wx.cell? ⟨w2.heap.size, 2, none⟩ = some (.bool onm) ∧ wx.cell? ⟨w2.heap.size, 3, none⟩ = some (.slice onB onj ond)) hmx (hSv.out _ hr0) (fun _ => ?_)
        refine wpAnyL_take (i := 2) (v := ?v26) rfl (by kernel_rfl) (by kernel_rfl) (by kernel_rfl) (by kernel_rfl) (by kernel_rfl) (Or.inl ⟨by kernel_rfl, ?hy26⟩) (hSv.out _ hr0) ?rest26
        case hy26 => (intro W2 hSw; (try dsimp only at hSw); go_simp; try with_reducible rfl)
        try simp only [Act.put, List.setIfInBounds_toArray, List.set_cons_zero, List.set_cons_succ, List.getElem_toArray, List.getElem_cons_succ, List.getElem_cons_zero]
        refine (new_obj 2 #[.int .i64 (-1), .int .i64 1] (Below.refl Yev.drew.heap.size Yev.drew) (Nat.le_refl _)).elim (fun Vr17 hq => ?_)
        refine wpAnyL_one (i := 0) rfl (by kernel_rfl) (fun K hK => ?_)
        go_simp
        (try rw [hq.1])
        have hbr17 := hq.2.1
        have yr17 := hide hq.2.2.1
        clear hq
        have hr1 := hr0.trans (hbr17.mono hr0.size)
        refine hK.out _ _ (fun _ => (hSv.out _ hr1)) ?_
        clear hK K
        try simp only [Act.put, List.setIfInBounds_toArray, List.set_cons_zero, List.set_cons_succ]
        have hl := hide (LimI.of_blkP (l := [-1, 1]) yr17.out rfl (by decide) (by decide))
        refine wpAnyL_one (i := 1) rfl (by kernel_rfl) (fun K hK => ?_)
        go_simp
        refine (Ints_ok _ 2 2 [-1, 1] Vr17 hl.out (by omega)).mono ?_
        rintro e w14 ⟨sgA, sgn, sgc, rfl, sg, hbq⟩
        rw [show trimP [-1, 1] = [-1, 1] by decide +kernel] at sg
        replace sg := hide sg
        have hr2 := hr1.trans (hbq.mono hr1.size)
        refine hK.out _ _ (fun _ => (hSv.out _ hr2)) ?_
        clear hK K
        try simp only [Act.put, List.setIfInBounds_toArray, List.set_cons_zero, List.set_cons_succ]
        refine wpAnyL_one (i := 3) rfl (by kernel_rfl) (fun K hK => ?_)
        go_simp
        refine (Sign_pl sgA sgn sgc [-1, 1] w14 onn onm onA onB onk onc onj ond _ sg.out (by decide +kernel) (by decide +kernel) (onf.out.below hr2) (wd_len onf.out.1 (by decide +kernel)) (wd_len onf.out.2 (by decide +kernel)) 0 (by decide +kernel)).mono ?_
        rintro e w15 ⟨rfl, hbq⟩
        have hr3 := hr2.trans (hbq.mono hr2.size)
        refine hK.out _ _ (fun _ => (hSv.out _ hr3)) ?_
        clear hK K
        try simp only [Act.put, List.setIfInBounds_toArray, List.set_cons_zero, List.set_cons_succ]
        refine wpAnyL_pure (i := 4) (v := ?v27) rfl (by kernel_rfl) (by kernel_rfl) (by kernel_rfl) (by kernel_rfl) (Or.inl ⟨by kernel_rfl, ?hy27⟩) (fun _ => (hSv.out _ hr3)) ?rest27
        case hy27 => (intro W2 _; go_simp; try with_reducible rfl)
        try simp only [Act.put, List.setIfInBounds_toArray, List.set_cons_zero, List.set_cons_succ, List.getElem_toArray, List.getElem_cons_succ, List.getElem_cons_zero]
        refine wpAnyL_pure (i := 5) (v := ?v28) rfl (by kernel_rfl) (by kernel_rfl) (by kernel_rfl) (by kernel_rfl) (Or.inl ⟨by kernel_rfl, ?hy28⟩) (fun _ => (hSv.out _ hr3)) ?rest28
        case hy28 => (intro W2 _; go_simp; try with_reducible rfl)
        try simp only [Act.put, List.setIfInBounds_toArray, List.set_cons_zero, List.set_cons_succ, List.getElem_toArray, List.getElem_cons_succ, List.getElem_cons_zero]
        refine wpAnyL_pure (i := 6) (v := ?v29) rfl (by kernel_rfl) (by kernel_rfl) (by kernel_rfl) (by kernel_rfl) (Or.inl ⟨by kernel_rfl, ?hy29⟩) (fun _ => (hSv.out _ hr3)) ?rest29
        case hy29 => (intro W2 _; go_simp; try with_reducible rfl)
        try simp only [Act.put, List.setIfInBounds_toArray, List.set_cons_zero, List.set_cons_succ, List.getElem_toArray, List.getElem_cons_succ, List.getElem_cons_zero]
        refine wpAnyL_pure (i := 7) (v := ?v30) rfl (by kernel_rfl) (by kernel_rfl) (by kernel_rfl) (by kernel_rfl) (Or.inl ⟨by kernel_rfl, ?hy30⟩) (fun _ => (hSv.out _ hr3)) ?rest30
        case hy30 => (intro W2 _; go_simp; try with_reducible rfl)
        try simp only [Act.put, List.setIfInBounds_toArray, List.set_cons_zero, List.set_cons_succ, List.getElem_toArray, List.getElem_cons_succ, List.getElem_cons_zero]
        refine wpAnyL_pure (i := 8) (v := ?v31) rfl (by kernel_rfl) (by kernel_rfl) (by kernel_rfl) (by kernel_rfl) (Or.inl ⟨by kernel_rfl, ?hy31⟩) (fun _ => (hSv.out _ hr3)) ?rest31
        case hy31 => (intro W2 _; go_simp; try with_reducible rfl)
        try simp only [Act.put, List.setIfInBounds_toArray, List.set_cons_zero, List.set_cons_succ, List.getElem_toArray, List.getElem_cons_succ, List.getElem_cons_zero]
        refine wpAnyL_done (by kernel_rfl) ?_ _
        refine OnlyNormal.normal ?_
        have hrE := hr3
        clear hr0 hr1 hr2 hr3 hSv
        replace hB := hB.trans (hrE.mono hB.size)
        replace ni := hide (ni.out.below hrE)
        replace onf := hide (onf.out.below hrE)
        replace ya := hide (keep_blk hrE ya.out)
        replace ba := hide (keep_blk hrE ba.out)
        replace yt := hide (keep_blk hrE yt.out)
        replace bt := hide (keep_blk hrE bt.out)
        replace onb := hide (keep_blk hrE onb.out)
        replace fb2 := hide (keep_blk hrE fb2.out)
        replace evb := hide (keep_blk hrE evb.out)
        replace lY2 := hide (lY2.out.below hrE)
        replace lX := hide (lX.out.below hrE)
        replace hL9 := hide (hL9.out.below hrE)
        replace la := hide (la.out.below hrE)
        clear hrE
        clear sg hl yr17
        go_wp2_with fail
        refine (Gcd_pl none none 0 0 0 0 [] [] w15 [] (PolyL.nil _ _ _ (Nat.zero_le _)) (PolyL.nil _ _ _ (Nat.zero_le _)) (by decide +kernel) (by decide +kernel) (by decide +kernel) (by decide +kernel) (by decide +kernel) (by decide +kernel) (by decide +kernel)).mono ?_
        rintro e w16 ⟨hb, gnA, gnn, gnc, rfl, gn⟩
        replace hB := hB.trans (hb.mono hB.size)
        replace ni := hide (ni.out.below hb)
        replace onf := hide (onf.out.below hb)
        replace ya := hide (keep_blk hb ya.out)
        replace ba := hide (keep_blk hb ba.out)
        replace yt := hide (keep_blk hb yt.out)
        replace bt := hide (keep_blk hb bt.out)
        replace onb := hide (keep_blk hb onb.out)
        replace fb2 := hide (keep_blk hb fb2.out)
        replace evb := hide (keep_blk hb evb.out)
        replace lY2 := hide (lY2.out.below hb)
        replace lX := hide (lX.out.below hb)
        replace hL9 := hide (hL9.out.below hb)
        replace la := hide (la.out.below hb)
        clear hb
        obtain rfl : gnn = 0 := gn.len.symm
        clear gn
        obtain ⟨Vpa, hVpa, hXpa, ypa, -, -, -⟩ := new_obj 2 #[.int .i64 6, .int .i64 (-4)] (Below.refl w16.heap.size w16) (Nat.le_refl _)
        replace hB := hB.trans (hXpa.mono hB.size)
        replace ni := hide (ni.out.below hXpa)
        replace onf := hide (onf.out.below hXpa)
        replace ya := hide (keep_blk hXpa ya.out)
        replace ba := hide (keep_blk hXpa ba.out)
        replace yt := hide (keep_blk hXpa yt.out)
        replace bt := hide (keep_blk hXpa bt.out)
        replace onb := hide (keep_blk hXpa onb.out)
        replace fb2 := hide (keep_blk hXpa fb2.out)
        replace evb := hide (keep_blk hXpa evb.out)
        replace lY2 := hide (lY2.out.below hXpa)
        replace lX := hide (lX.out.below hXpa)
        replace hL9 := hide (hL9.out.below hXpa)
        replace la := hide (la.out.below hXpa)
        have hl := hide (LimI.of_blkP (l := [6, -4]) ypa rfl (by decide) (by decide))
        go_wp2_with fail
        clear hVpa
        refine (Ints_ok _ 2 2 [6, -4] Vpa hl.out (by omega)).mono ?_
        rintro e w17 ⟨paA, pan, pac, rfl, pa, hb⟩
        replace hB := hB.trans (hb.mono hB.size)
        replace ni := hide (ni.out.below hb)
        replace onf := hide (onf.out.below hb)
        replace ya := hide (keep_blk hb ya.out)
        replace ba := hide (keep_blk hb ba.out)
        replace yt := hide (keep_blk hb yt.out)
        replace bt := hide (keep_blk hb bt.out)
        replace onb := hide (keep_blk hb onb.out)
        replace fb2 := hide (keep_blk hb fb2.out)
        replace evb := hide (keep_blk hb evb.out)
        replace lY2 := hide (lY2.out.below hb)
        replace lX := hide (lX.out.below hb)
        replace hL9 := hide (hL9.out.below hb)
        replace la := hide (la.out.below hb)
        clear hb hl ypa
        rw [show trimP [6, -4] = [6, -4] by decide +kernel] at pa
        replace pa := hide pa
        go_wp2_with fail
        refine (Primitive_pl paA pan pac _ w17 [-3, 2] pa.out (by decide +kernel) (by decide +kernel) (by decide +kernel) (by decide +kernel)).mono ?_
        rintro e w18 ⟨hb, prA, prn, prc, rfl, pr⟩
        replace hB := hB.trans (hb.mono hB.size)
        replace ni := hide (ni.out.below hb)
        replace pa := hide (pa.out.below hb)
        replace onf := hide (onf.out.below hb)
        replace ya := hide (keep_blk hb ya.out)
        replace ba := hide (keep_blk hb ba.out)
        replace yt := hide (keep_blk hb yt.out)
        replace bt := hide (keep_blk hb bt.out)
        replace onb := hide (keep_blk hb onb.out)
        replace fb2 := hide (keep_blk hb fb2.out)
        replace evb := hide (keep_blk hb evb.out)
        replace lY2 := hide (lY2.out.below hb)
        replace lX := hide (lX.out.below hb)
        replace hL9 := hide (hL9.out.below hb)
        replace la := hide (la.out.below hb)
        clear hb pa
        replace pr := hide pr
        obtain ⟨Vpb, hVpb, hXpb, ypb, -, -, -⟩ := new_obj 2 #[.int .i64 6, .int .i64 (-4)] (Below.refl w18.heap.size w18) (Nat.le_refl _)
        replace hB := hB.trans (hXpb.mono hB.size)
        replace ni := hide (ni.out.below hXpb)
        replace pr := hide (pr.out.below hXpb)
        replace onf := hide (onf.out.below hXpb)
        replace ya := hide (keep_blk hXpb ya.out)
        replace ba := hide (keep_blk hXpb ba.out)
        replace yt := hide (keep_blk hXpb yt.out)
        replace bt := hide (keep_blk hXpb bt.out)
        replace onb := hide (keep_blk hXpb onb.out)
        replace fb2 := hide (keep_blk hXpb fb2.out)
        replace evb := hide (keep_blk hXpb evb.out)
        replace lY2 := hide (lY2.out.below hXpb)
        replace lX := hide (lX.out.below hXpb)
        replace hL9 := hide (hL9.out.below hXpb)
        replace la := hide (la.out.below hXpb)
        have hl := hide (LimI.of_blkP (l := [6, -4]) ypb rfl (by decide) (by decide))
        go_wp2_with fail
        clear hVpb
        refine (Ints_ok _ 2 2 [6, -4] Vpb hl.out (by omega)).mono ?_
        rintro e w19 ⟨pbA, pbn, pbc, rfl, pb, hb⟩
        replace hB := hB.trans (hb.mono hB.size)
        replace ni := hide (ni.out.below hb)
        replace pr := hide (pr.out.below hb)
        replace onf := hide (onf.out.below hb)
        replace ya := hide (keep_blk hb ya.out)
        replace ba := hide (keep_blk hb ba.out)
        replace yt := hide (keep_blk hb yt.out)
        replace bt := hide (keep_blk hb bt.out)
        replace onb := hide (keep_blk hb onb.out)
        replace fb2 := hide (keep_blk hb fb2.out)
        replace evb := hide (keep_blk hb evb.out)
        replace lY2 := hide (lY2.out.below hb)
        replace lX := hide (lX.out.below hb)
        replace hL9 := hide (hL9.out.below hb)
        replace la := hide (la.out.below hb)
        clear hb hl ypb
        rw [show trimP [6, -4] = [6, -4] by decide +kernel] at pb
        replace pb := hide pb
        go_wp2_with fail
        refine (Content_pl pbA pbn pbc _ w19 2 pb.out (by decide +kernel) (by decide +kernel) (by decide +kernel) (by decide +kernel)).mono ?_
        rintro e w20 ⟨hb, ctn, ctA, ctk, ctc, rfl, ctw⟩
        replace hB := hB.trans (hb.mono hB.size)
        replace ni := hide (ni.out.below hb)
        replace pr := hide (pr.out.below hb)
        replace pb := hide (pb.out.below hb)
        replace onf := hide (onf.out.below hb)
        replace ya := hide (keep_blk hb ya.out)
        replace ba := hide (keep_blk hb ba.out)
        replace yt := hide (keep_blk hb yt.out)
        replace bt := hide (keep_blk hb bt.out)
        replace onb := hide (keep_blk hb onb.out)
        replace fb2 := hide (keep_blk hb fb2.out)
        replace evb := hide (keep_blk hb evb.out)
        replace lY2 := hide (lY2.out.below hb)
        replace lX := hide (lX.out.below hb)
        replace hL9 := hide (hL9.out.below hb)
        replace la := hide (la.out.below hb)
        clear hb pb
        replace ctw := hide ctw
        obtain ⟨Xct, hXct, hxct, zct, stc, -, -⟩ := new_obj 25 #[.bool false, .slice none 0 0] (Below.refl w20.heap.size w20) (Nat.le_refl _)
        obtain ⟨ct0, ct1, ct2, ct3⟩ := zct.two
        obtain ⟨Yct, hYct, hyct, ctb, -⟩ := set_num ctn ctA ctk ctc hxct (Nat.le_refl _) zct
        replace hB := hB.trans (hyct.mono hB.size)
        replace ni := hide (ni.out.below hyct)
        replace pr := hide (pr.out.below hyct)
        replace onf := hide (onf.out.below hyct)
        replace ya := hide (keep_blk hyct ya.out)
        replace ba := hide (keep_blk hyct ba.out)
        replace yt := hide (keep_blk hyct yt.out)
        replace bt := hide (keep_blk hyct bt.out)
        replace onb := hide (keep_blk hyct onb.out)
        replace fb2 := hide (keep_blk hyct fb2.out)
        replace evb := hide (keep_blk hyct evb.out)
        replace lY2 := hide (lY2.out.below hyct)
        replace lX := hide (lX.out.below hyct)
        replace hL9 := hide (hL9.out.below hyct)
        replace la := hide (la.out.below hyct)
        replace ctw := hide (ctw.out.below hyct)
        replace ctb := hide ctb
        obtain ⟨Vpf, hVpf, hXpf, ypf, -, -, -⟩ := new_obj 2 #[.int .i64 (-5)] (Below.refl Yct.heap.size Yct) (Nat.le_refl _)
        replace hB := hB.trans (hXpf.mono hB.size)
        replace ni := hide (ni.out.below hXpf)
        replace pr := hide (pr.out.below hXpf)
        replace onf := hide (onf.out.below hXpf)
        replace ya := hide (keep_blk hXpf ya.out)
        replace ba := hide (keep_blk hXpf ba.out)
        replace yt := hide (keep_blk hXpf yt.out)
        replace bt := hide (keep_blk hXpf bt.out)
        replace onb := hide (keep_blk hXpf onb.out)
        replace fb2 := hide (keep_blk hXpf fb2.out)
        replace evb := hide (keep_blk hXpf evb.out)
        replace ctb := hide (keep_blk hXpf ctb.out)
        replace lY2 := hide (lY2.out.below hXpf)
        replace lX := hide (lX.out.below hXpf)
        replace hL9 := hide (hL9.out.below hXpf)
        replace la := hide (la.out.below hXpf)
        replace ctw := hide (ctw.out.below hXpf)
        have hl := hide (LimI.of_blkP (l := [-5]) ypf rfl (by decide) (by decide))
        go_wp2_with fail
        clear hXct hxct zct hYct hyct stc ct0 ct1 ct2 ct3 hVpf
        refine (Ints_ok _ 1 1 [-5] Vpf hl.out (by omega)).mono ?_
        rintro e w21 ⟨pfA, pfn, pfc, rfl, pf, hb⟩
        replace hB := hB.trans (hb.mono hB.size)
        replace ni := hide (ni.out.below hb)
        replace pr := hide (pr.out.below hb)
        replace onf := hide (onf.out.below hb)
        replace ya := hide (keep_blk hb ya.out)
        replace ba := hide (keep_blk hb ba.out)
        replace yt := hide (keep_blk hb yt.out)
        replace bt := hide (keep_blk hb bt.out)
        replace onb := hide (keep_blk hb onb.out)
        replace fb2 := hide (keep_blk hb fb2.out)
        replace evb := hide (keep_blk hb evb.out)
        replace ctb := hide (keep_blk hb ctb.out)
        replace lY2 := hide (lY2.out.below hb)
        replace lX := hide (lX.out.below hb)
        replace hL9 := hide (hL9.out.below hb)
        replace la := hide (la.out.below hb)
        replace ctw := hide (ctw.out.below hb)
        clear hb hl ypf
        rw [show trimP [-5] = [-5] by decide +kernel] at pf
        replace pf := hide pf
        go_wp2_with fail
        refine (Free_pl pfA pfn pfc _ w21 [1] pf.out (by decide +kernel) (by decide +kernel) (by decide) (.inl (by decide +kernel)) (by decide +kernel) (by decide +kernel) (by decide +kernel) (by decide +kernel)).mono ?_
        rintro e w22 ⟨hb, frA, frn, frc, rfl, fr⟩
        replace hB := hB.trans (hb.mono hB.size)
        replace ni := hide (ni.out.below hb)
        replace pr := hide (pr.out.below hb)
        replace pf := hide (pf.out.below hb)
        replace onf := hide (onf.out.below hb)
        replace ya := hide (keep_blk hb ya.out)
        replace ba := hide (keep_blk hb ba.out)
        replace yt := hide (keep_blk hb yt.out)
        replace bt := hide (keep_blk hb bt.out)
        replace onb := hide (keep_blk hb onb.out)
        replace fb2 := hide (keep_blk hb fb2.out)
        replace evb := hide (keep_blk hb evb.out)
        replace ctb := hide (keep_blk hb ctb.out)
        replace lY2 := hide (lY2.out.below hb)
        replace lX := hide (lX.out.below hb)
        replace hL9 := hide (hL9.out.below hb)
        replace la := hide (la.out.below hb)
        replace ctw := hide (ctw.out.below hb)
        clear hb pf
        replace fr := hide fr
        have bp9 : ∀ i : Nat, (([0, 0, 0, 0, 0, 0, 0, 0, 1] : List Int)[i]?.getD 0).natAbs < pw 1 := by intro i; rcases i with _ | _ | _ | _ | _ | _ | _ | _ | _ | i <;> simp <;> decide +kernel
        go_wp2_with fail
        refine (Sub_pl niA niA 9 nic 9 nic _ _ w22 (i := 9) (M := 1) (j := 9) (M' := 1) ni.out ni.out (by decide +kernel) (by decide +kernel) ⟨by decide, bp9⟩ ⟨by decide, bp9⟩ (by omega) (by omega) (by omega) (by omega)).mono ?_
        rintro e w23 ⟨hb, sbA, sbn, sbc, rfl, sb⟩
        replace hB := hB.trans (hb.mono hB.size)
        replace ni := hide (ni.out.below hb)
        replace pr := hide (pr.out.below hb)
        replace fr := hide (fr.out.below hb)
        replace onf := hide (onf.out.below hb)
        replace ya := hide (keep_blk hb ya.out)
        replace ba := hide (keep_blk hb ba.out)
        replace yt := hide (keep_blk hb yt.out)
        replace bt := hide (keep_blk hb bt.out)
        replace onb := hide (keep_blk hb onb.out)
        replace fb2 := hide (keep_blk hb fb2.out)
        replace evb := hide (keep_blk hb evb.out)
        replace ctb := hide (keep_blk hb ctb.out)
        replace lY2 := hide (lY2.out.below hb)
        replace lX := hide (lX.out.below hb)
        replace hL9 := hide (hL9.out.below hb)
        replace la := hide (la.out.below hb)
        replace ctw := hide (ctw.out.below hb)
        clear hb
        obtain rfl : sbn = 0 := by have h := sb.len; rw [show trimP (joinP (fun a b => a - b) [0, 0, 0, 0, 0, 0, 0, 0, 1] [0, 0, 0, 0, 0, 0, 0, 0, 1]) = [] by decide +kernel] at h; exact h.symm
        clear sb
        go_wp2_with fail
        refine (Sign_bad none 0 0 [] false false none none 0 0 0 0 [] [] w23 (WL.nil _ _ _ (Nat.zero_le _)) (by decide +kernel) (Lim.nil _ _ _ (Nat.zero_le _)) (Lim.nil _ _ _ (Nat.zero_le _)) (by decide +kernel)).mono ?_
        rintro e w24 ⟨rfl, hb⟩
        replace hB := hB.trans (hb.mono hB.size)
        replace ni := hide (ni.out.below hb)
        replace pr := hide (pr.out.below hb)
        replace fr := hide (fr.out.below hb)
        replace onf := hide (onf.out.below hb)
        replace ya := hide (keep_blk hb ya.out)
        replace ba := hide (keep_blk hb ba.out)
        replace yt := hide (keep_blk hb yt.out)
        replace bt := hide (keep_blk hb bt.out)
        replace onb := hide (keep_blk hb onb.out)
        replace fb2 := hide (keep_blk hb fb2.out)
        replace evb := hide (keep_blk hb evb.out)
        replace ctb := hide (keep_blk hb ctb.out)
        replace lY2 := hide (lY2.out.below hb)
        replace lX := hide (lX.out.below hb)
        replace hL9 := hide (hL9.out.below hb)
        replace la := hide (la.out.below hb)
        replace ctw := hide (ctw.out.below hb)
        clear hb
        go_wp2_with fail
        refine (alive4_ok divide_ok w24).mono ?_
        rintro e w25 ⟨rfl, hb⟩
        replace hB := hB.trans (hb.mono hB.size)
        replace ni := hide (ni.out.below hb)
        replace pr := hide (pr.out.below hb)
        replace fr := hide (fr.out.below hb)
        replace onf := hide (onf.out.below hb)
        replace ya := hide (keep_blk hb ya.out)
        replace ba := hide (keep_blk hb ba.out)
        replace yt := hide (keep_blk hb yt.out)
        replace bt := hide (keep_blk hb bt.out)
        replace onb := hide (keep_blk hb onb.out)
        replace fb2 := hide (keep_blk hb fb2.out)
        replace evb := hide (keep_blk hb evb.out)
        replace ctb := hide (keep_blk hb ctb.out)
        replace lY2 := hide (lY2.out.below hb)
        replace lX := hide (lX.out.below hb)
        replace hL9 := hide (hL9.out.below hb)
        replace la := hide (la.out.below hb)
        replace ctw := hide (ctw.out.below hb)
        clear hb
        obtain ⟨ez0, ez1, ez2, ez3, -⟩ := evb.out.four
        go_wp2_with fail
        clear ez0 ez1 ez2 ez3
        have hSv : Hid (∀ wx, Below w25.heap.size w25 wx → wx.cell? ⟨w20.heap.size, 0, none⟩ = some (.bool ctn) ∧ wx.cell? ⟨w20.heap.size, 1, none⟩ = some (.slice ctA ctk ctc)) := hide (fun wx hbx => by have v := (keep_blk hbx ctb.out).two; exact ⟨v.1, v.2.1⟩)
        have hr0 : Below w25.heap.size w25 w25.drew := below_dn (Below.refl _ _) 1
        refine wp_held [] (fun wx => wx.cell? ⟨w20.heap.size, 0, none⟩ = some (.bool ctn) ∧ wx.cell? ⟨w20.heap.size, 1, none⟩ = some (.slice ctA ctk ctc)) hmx (hSv.out _ hr0) (fun _ => ?_)
        refine wpAnyL_pure (i := 0) (v := ?v32) rfl (by kernel_rfl) (by kernel_rfl) (by kernel_rfl) (by kernel_rfl) (Or.inl ⟨by kernel_rfl, ?hy32⟩) (fun _ => (hSv.out _ hr0)) ?rest32
        case hy32 => (intro W2 _; go_simp; try with_reducible rfl)
        try simp only [Act.put, List.setIfInBounds_toArray, List.set_cons_zero, List.set_cons_succ, List.getElem_toArray, List.getElem_cons_succ, List.getElem_cons_zero]
        refine wpAnyL_pure (i := 1) (v := ?v33) rfl (by kernel_rfl) (by kernel_rfl) (by kernel_rfl) (by kernel_rfl) (Or.inl ⟨by kernel_rfl, ?hy33⟩) (fun _ => (hSv.out _ hr0)) ?rest33
        case hy33 => (intro W2 _; go_simp; try with_reducible rfl)
        try simp only [Act.put, List.setIfInBounds_toArray, List.set_cons_zero, List.set_cons_succ, List.getElem_toArray, List.getElem_cons_succ, List.getElem_cons_zero]
        refine wpAnyL_pure (i := 2) (v := ?v34) rfl (by kernel_rfl) (by kernel_rfl) (by kernel_rfl) (by kernel_rfl) (Or.inl ⟨by kernel_rfl, ?hy34⟩) (fun _ => (hSv.out _ hr0)) ?rest34
        case hy34 => (intro W2 _; go_simp; try with_reducible rfl)
        try simp only [Act.put, List.setIfInBounds_toArray, List.set_cons_zero, List.set_cons_succ, List.getElem_toArray, List.getElem_cons_succ, List.getElem_cons_zero]
        refine wpAnyL_pure (i := 3) (v := ?v35) rfl (by kernel_rfl) (by kernel_rfl) (by kernel_rfl) (by kernel_rfl) (Or.inl ⟨by kernel_rfl, ?hy35⟩) (fun _ => (hSv.out _ hr0)) ?rest35
        case hy35 => (intro W2 _; go_simp; try with_reducible rfl)
        try simp only [Act.put, List.setIfInBounds_toArray, List.set_cons_zero, List.set_cons_succ, List.getElem_toArray, List.getElem_cons_succ, List.getElem_cons_zero]
        refine (new_obj 2 #[.int .i64 (-3), .int .i64 2] (Below.refl w25.drew.heap.size w25.drew) (Nat.le_refl _)).elim (fun Vr25 hq => ?_)
        refine wpAnyL_one (i := 4) rfl (by kernel_rfl) (fun K hK => ?_)
        go_simp
        (try rw [hq.1])
        have hbr25 := hq.2.1
        have yr25 := hide hq.2.2.1
        clear hq
        have hr1 := hr0.trans (hbr25.mono hr0.size)
        refine hK.out _ _ (fun _ => (hSv.out _ hr1)) ?_
        clear hK K
        try simp only [Act.put, List.setIfInBounds_toArray, List.set_cons_zero, List.set_cons_succ]
        have hl := hide (LimI.of_blkP (l := [-3, 2]) yr25.out rfl (by decide) (by decide))
        refine wpAnyL_one (i := 5) rfl (by kernel_rfl) (fun K hK => ?_)
        go_simp
        refine (same_ok prA prn prc _ 2 2 [-3, 2] Vr25 (by rw [show trimP [-3, 2] = [-3, 2] by decide +kernel]; exact pr.out.below hr1) hl.out (by omega)).mono ?_
        rintro e w26 ⟨rfl, hbq⟩
        have hr2 := hr1.trans (hbq.mono hr1.size)
        refine hK.out _ _ (fun _ => (hSv.out _ hr2)) ?_
        clear hK K
        try simp only [Act.put, List.setIfInBounds_toArray, List.set_cons_zero, List.set_cons_succ]
        refine wpAnyL_pure (i := 6) (v := ?v36) rfl (by kernel_rfl) (by kernel_rfl) (by kernel_rfl) (by kernel_rfl) (Or.inl ⟨by kernel_rfl, ?hy36⟩) (fun _ => (hSv.out _ hr2)) ?rest36
        case hy36 => (intro W2 _; go_simp; try with_reducible rfl)
        try simp only [Act.put, List.setIfInBounds_toArray, List.set_cons_zero, List.set_cons_succ, List.getElem_toArray, List.getElem_cons_succ, List.getElem_cons_zero]
        refine wpAnyL_pure (i := 7) (v := ?v37) rfl (by kernel_rfl) (by kernel_rfl) (by kernel_rfl) (by kernel_rfl) (Or.inl ⟨by kernel_rfl, ?hy37⟩) (fun _ => (hSv.out _ hr2)) ?rest37
        case hy37 => (intro W2 _; go_simp; try with_reducible rfl)
        try simp only [Act.put, List.setIfInBounds_toArray, List.set_cons_zero, List.set_cons_succ, List.getElem_toArray, List.getElem_cons_succ, List.getElem_cons_zero]
        refine wpAnyL_pure (i := 8) (v := ?v38) rfl (by kernel_rfl) (by kernel_rfl) (by kernel_rfl) (by kernel_rfl) (Or.inl ⟨by kernel_rfl, ?hy38⟩) (fun _ => (hSv.out _ hr2)) ?rest38
        case hy38 => (intro W2 _; go_simp; try with_reducible rfl)
        try simp only [Act.put, List.setIfInBounds_toArray, List.set_cons_zero, List.set_cons_succ, List.getElem_toArray, List.getElem_cons_succ, List.getElem_cons_zero]
        refine wpAnyL_pure (i := 9) (v := ?v39) rfl (by kernel_rfl) (by kernel_rfl) (by kernel_rfl) (by kernel_rfl) (Or.inl ⟨by kernel_rfl, ?hy39⟩) (fun _ => (hSv.out _ hr2)) ?rest39
        case hy39 => (intro W2 _; go_simp; try with_reducible rfl)
        try simp only [Act.put, List.setIfInBounds_toArray, List.set_cons_zero, List.set_cons_succ, List.getElem_toArray, List.getElem_cons_succ, List.getElem_cons_zero]
        refine wpAnyL_pure (i := 10) (v := ?v40) rfl (by kernel_rfl) (by kernel_rfl) (by kernel_rfl) (by kernel_rfl) (Or.inl ⟨by kernel_rfl, ?hy40⟩) (fun _ => (hSv.out _ hr2)) ?rest40
        case hy40 => (intro W2 _; go_simp; try with_reducible rfl)
        try simp only [Act.put, List.setIfInBounds_toArray, List.set_cons_zero, List.set_cons_succ, List.getElem_toArray, List.getElem_cons_succ, List.getElem_cons_zero]
        refine wpAnyL_pure (i := 11) (v := ?v41) rfl (by kernel_rfl) (by kernel_rfl) (by kernel_rfl) (by kernel_rfl) (Or.inl ⟨by kernel_rfl, ?hy41⟩) (fun _ => (hSv.out _ hr2)) ?rest41
        case hy41 => (intro W2 _; go_simp; try with_reducible rfl)
        try simp only [Act.put, List.setIfInBounds_toArray, List.set_cons_zero, List.set_cons_succ, List.getElem_toArray, List.getElem_cons_succ, List.getElem_cons_zero]
        refine wpAnyL_take (i := 12) (v := ?v42) rfl (by kernel_rfl) (by kernel_rfl) (by kernel_rfl) (by kernel_rfl) (by kernel_rfl) (Or.inl ⟨by kernel_rfl, ?hy42⟩) (hSv.out _ hr2) ?rest42
        case hy42 => (intro W2 hSw; (try dsimp only at hSw); go_simp; try with_reducible rfl)
        try simp only [Act.put, List.setIfInBounds_toArray, List.set_cons_zero, List.set_cons_succ, List.getElem_toArray, List.getElem_cons_succ, List.getElem_cons_zero]
        refine wpAnyL_one (i := 13) rfl (by kernel_rfl) (fun K hK => ?_)
        go_simp
        refine (rFrom_any 2 w26 (by omega) (by omega)).mono ?_
        rintro e w27 ⟨hbq, n2, A2, k2, c2, rfl, wd2⟩
        replace wd2 := hide wd2
        have hr3 := hr2.trans (hbq.mono hr2.size)
        refine hK.out _ _ (fun _ => (hSv.out _ hr3)) ?_
        clear hK K
        try simp only [Act.put, List.setIfInBounds_toArray, List.set_cons_zero, List.set_cons_succ]
        refine wpAnyL_one (i := 14) rfl (by kernel_rfl) (fun K hK => ?_)
        go_simp
        refine (rSame_any ctn n2 ctA A2 ctk ctc k2 c2 _ _ w27 (ctw.out.below hr3).2.2 wd2.out.2.2).mono ?_
        rintro e w28 ⟨he, hbq⟩
        rw [show sameB ctn n2 (digits (Int.natAbs 2)) (digits (Int.natAbs 2)) = true by rw [ctw.out.1, wd2.out.1]; decide +kernel] at he
        subst he
        have hr4 := hr3.trans (hbq.mono hr3.size)
        refine hK.out _ _ (fun _ => (hSv.out _ hr4)) ?_
        clear hK K
        try simp only [Act.put, List.setIfInBounds_toArray, List.set_cons_zero, List.set_cons_succ]
        refine wpAnyL_pure (i := 15) (v := ?v43) rfl (by kernel_rfl) (by kernel_rfl) (by kernel_rfl) (by kernel_rfl) (Or.inl ⟨by kernel_rfl, ?hy43⟩) (fun _ => (hSv.out _ hr4)) ?rest43
        case hy43 => (intro W2 _; go_simp; try with_reducible rfl)
        try simp only [Act.put, List.setIfInBounds_toArray, List.set_cons_zero, List.set_cons_succ, List.getElem_toArray, List.getElem_cons_succ, List.getElem_cons_zero]
        refine wpAnyL_pure (i := 16) (v := ?v44) rfl (by kernel_rfl) (by kernel_rfl) (by kernel_rfl) (by kernel_rfl) (Or.inl ⟨by kernel_rfl, ?hy44⟩) (fun _ => (hSv.out _ hr4)) ?rest44
        case hy44 => (intro W2 _; go_simp; try with_reducible rfl)
        try simp only [Act.put, List.setIfInBounds_toArray, List.set_cons_zero, List.set_cons_succ, List.getElem_toArray, List.getElem_cons_succ, List.getElem_cons_zero]
        refine wpAnyL_pure (i := 17) (v := ?v45) rfl (by kernel_rfl) (by kernel_rfl) (by kernel_rfl) (by kernel_rfl) (Or.inl ⟨by kernel_rfl, ?hy45⟩) (fun _ => (hSv.out _ hr4)) ?rest45
        case hy45 => (intro W2 _; go_simp; try with_reducible rfl)
        try simp only [Act.put, List.setIfInBounds_toArray, List.set_cons_zero, List.set_cons_succ, List.getElem_toArray, List.getElem_cons_succ, List.getElem_cons_zero]
        refine wpAnyL_pure (i := 18) (v := ?v46) rfl (by kernel_rfl) (by kernel_rfl) (by kernel_rfl) (by kernel_rfl) (Or.inl ⟨by kernel_rfl, ?hy46⟩) (fun _ => (hSv.out _ hr4)) ?rest46
        case hy46 => (intro W2 _; go_simp; try with_reducible rfl)
        try simp only [Act.put, List.setIfInBounds_toArray, List.set_cons_zero, List.set_cons_succ, List.getElem_toArray, List.getElem_cons_succ, List.getElem_cons_zero]
        refine (new_obj 2 #[.int .i64 1] (Below.refl w28.heap.size w28) (Nat.le_refl _)).elim (fun Vr26 hq => ?_)
        refine wpAnyL_one (i := 19) rfl (by kernel_rfl) (fun K hK => ?_)
        go_simp
        (try rw [hq.1])
        have hbr26 := hq.2.1
        have yr26 := hide hq.2.2.1
        clear hq
        have hr5 := hr4.trans (hbr26.mono hr4.size)
        refine hK.out _ _ (fun _ => (hSv.out _ hr5)) ?_
        clear hK K
        try simp only [Act.put, List.setIfInBounds_toArray, List.set_cons_zero, List.set_cons_succ]
        have hl2 := hide (LimI.of_blkP (l := [1]) yr26.out rfl (by decide) (by decide))
        refine wpAnyL_one (i := 20) rfl (by kernel_rfl) (fun K hK => ?_)
        go_simp
        refine (same_ok frA frn frc _ 1 1 [1] Vr26 (by rw [show trimP [1] = [1] by decide +kernel]; exact fr.out.below hr5) hl2.out (by omega)).mono ?_
        rintro e w29 ⟨rfl, hbq⟩
        have hr6 := hr5.trans (hbq.mono hr5.size)
        refine hK.out _ _ (fun _ => (hSv.out _ hr6)) ?_
        clear hK K
        try simp only [Act.put, List.setIfInBounds_toArray, List.set_cons_zero, List.set_cons_succ]
        refine wpAnyL_pure (i := 21) (v := ?v47) rfl (by kernel_rfl) (by kernel_rfl) (by kernel_rfl) (by kernel_rfl) (Or.inl ⟨by kernel_rfl, ?hy47⟩) (fun _ => (hSv.out _ hr6)) ?rest47
        case hy47 => (intro W2 _; go_simp; try with_reducible rfl)
        try simp only [Act.put, List.setIfInBounds_toArray, List.set_cons_zero, List.set_cons_succ, List.getElem_toArray, List.getElem_cons_succ, List.getElem_cons_zero]
        refine wpAnyL_pure (i := 22) (v := ?v48) rfl (by kernel_rfl) (by kernel_rfl) (by kernel_rfl) (by kernel_rfl) (Or.inl ⟨by kernel_rfl, ?hy48⟩) (fun _ => (hSv.out _ hr6)) ?rest48
        case hy48 => (intro W2 _; go_simp; try with_reducible rfl)
        try simp only [Act.put, List.setIfInBounds_toArray, List.set_cons_zero, List.set_cons_succ, List.getElem_toArray, List.getElem_cons_succ, List.getElem_cons_zero]
        refine wpAnyL_pure (i := 23) (v := ?v49) rfl (by kernel_rfl) (by kernel_rfl) (by kernel_rfl) (by kernel_rfl) (Or.inl ⟨by kernel_rfl, ?hy49⟩) (fun _ => (hSv.out _ hr6)) ?rest49
        case hy49 => (intro W2 _; go_simp; try with_reducible rfl)
        try simp only [Act.put, List.setIfInBounds_toArray, List.set_cons_zero, List.set_cons_succ, List.getElem_toArray, List.getElem_cons_succ, List.getElem_cons_zero]
        refine wpAnyL_pure (i := 24) (v := ?v50) rfl (by kernel_rfl) (by kernel_rfl) (by kernel_rfl) (by kernel_rfl) (Or.inl ⟨by kernel_rfl, ?hy50⟩) (fun _ => (hSv.out _ hr6)) ?rest50
        case hy50 => (intro W2 _; go_simp; try with_reducible rfl)
        try simp only [Act.put, List.setIfInBounds_toArray, List.set_cons_zero, List.set_cons_succ, List.getElem_toArray, List.getElem_cons_succ, List.getElem_cons_zero]
        refine wpAnyL_pure (i := 25) (v := ?v51) rfl (by kernel_rfl) (by kernel_rfl) (by kernel_rfl) (by kernel_rfl) (Or.inl ⟨by kernel_rfl, ?hy51⟩) (fun _ => (hSv.out _ hr6)) ?rest51
        case hy51 => (intro W2 _; go_simp; try with_reducible rfl)
        try simp only [Act.put, List.setIfInBounds_toArray, List.set_cons_zero, List.set_cons_succ, List.getElem_toArray, List.getElem_cons_succ, List.getElem_cons_zero]
        refine wpAnyL_pure (i := 26) (v := ?v52) rfl (by kernel_rfl) (by kernel_rfl) (by kernel_rfl) (by kernel_rfl) (Or.inl ⟨by kernel_rfl, ?hy52⟩) (fun _ => (hSv.out _ hr6)) ?rest52
        case hy52 => (intro W2 _; go_simp; try with_reducible rfl)
        try simp only [Act.put, List.setIfInBounds_toArray, List.set_cons_zero, List.set_cons_succ, List.getElem_toArray, List.getElem_cons_succ, List.getElem_cons_zero]
        refine wpAnyL_pure (i := 27) (v := ?v53) rfl (by kernel_rfl) (by kernel_rfl) (by kernel_rfl) (by kernel_rfl) (Or.inl ⟨by kernel_rfl, ?hy53⟩) (fun _ => (hSv.out _ hr6)) ?rest53
        case hy53 => (intro W2 _; go_simp; try with_reducible rfl)
        try simp only [Act.put, List.setIfInBounds_toArray, List.set_cons_zero, List.set_cons_succ, List.getElem_toArray, List.getElem_cons_succ, List.getElem_cons_zero]
        refine wpAnyL_pure (i := 28) (v := ?v54) rfl (by kernel_rfl) (by kernel_rfl) (by kernel_rfl) (by kernel_rfl) (Or.inl ⟨by kernel_rfl, ?hy54⟩) (fun _ => (hSv.out _ hr6)) ?rest54
        case hy54 => (intro W2 _; go_simp; try with_reducible rfl)
        try simp only [Act.put, List.setIfInBounds_toArray, List.set_cons_zero, List.set_cons_succ, List.getElem_toArray, List.getElem_cons_succ, List.getElem_cons_zero]
        refine wpAnyL_pure (i := 29) (v := ?v55) rfl (by kernel_rfl) (by kernel_rfl) (by kernel_rfl) (by kernel_rfl) (Or.inl ⟨by kernel_rfl, ?hy55⟩) (fun _ => (hSv.out _ hr6)) ?rest55
        case hy55 => (intro W2 _; go_simp; try with_reducible rfl)
        try simp only [Act.put, List.setIfInBounds_toArray, List.set_cons_zero, List.set_cons_succ, List.getElem_toArray, List.getElem_cons_succ, List.getElem_cons_zero]
        refine wpAnyL_pure (i := 30) (v := ?v56) rfl (by kernel_rfl) (by kernel_rfl) (by kernel_rfl) (by kernel_rfl) (Or.inl ⟨by kernel_rfl, ?hy56⟩) (fun _ => (hSv.out _ hr6)) ?rest56
        case hy56 => (intro W2 _; go_simp; try with_reducible rfl)
        try simp only [Act.put, List.setIfInBounds_toArray, List.set_cons_zero, List.set_cons_succ, List.getElem_toArray, List.getElem_cons_succ, List.getElem_cons_zero]
        refine wpAnyL_pure (i := 31) (v := ?v57) rfl (by kernel_rfl) (by kernel_rfl) (by kernel_rfl) (by kernel_rfl) (Or.inl ⟨by kernel_rfl, ?hy57⟩) (fun _ => (hSv.out _ hr6)) ?rest57
        case hy57 => (intro W2 _; go_simp; try with_reducible rfl)
        try simp only [Act.put, List.setIfInBounds_toArray, List.set_cons_zero, List.set_cons_succ, List.getElem_toArray, List.getElem_cons_succ, List.getElem_cons_zero]
        refine wpAnyL_pure (i := 32) (v := ?v58) rfl (by kernel_rfl) (by kernel_rfl) (by kernel_rfl) (by kernel_rfl) (Or.inl ⟨by kernel_rfl, ?hy58⟩) (fun _ => (hSv.out _ hr6)) ?rest58
        case hy58 => (intro W2 _; go_simp; try with_reducible rfl)
        try simp only [Act.put, List.setIfInBounds_toArray, List.set_cons_zero, List.set_cons_succ, List.getElem_toArray, List.getElem_cons_succ, List.getElem_cons_zero]
        refine wpAnyL_pure (i := 33) (v := ?v59) rfl (by kernel_rfl) (by kernel_rfl) (by kernel_rfl) (by kernel_rfl) (Or.inl ⟨by kernel_rfl, ?hy59⟩) (fun _ => (hSv.out _ hr6)) ?rest59
        case hy59 => (intro W2 _; go_simp; try with_reducible rfl)
        try simp only [Act.put, List.setIfInBounds_toArray, List.set_cons_zero, List.set_cons_succ, List.getElem_toArray, List.getElem_cons_succ, List.getElem_cons_zero]
        refine wpAnyL_pure (i := 34) (v := ?v60) rfl (by kernel_rfl) (by kernel_rfl) (by kernel_rfl) (by kernel_rfl) (Or.inl ⟨by kernel_rfl, ?hy60⟩) (fun _ => (hSv.out _ hr6)) ?rest60
        case hy60 => (intro W2 _; go_simp; try with_reducible rfl)
        try simp only [Act.put, List.setIfInBounds_toArray, List.set_cons_zero, List.set_cons_succ, List.getElem_toArray, List.getElem_cons_succ, List.getElem_cons_zero]
        refine wpAnyL_pure (i := 35) (v := ?v61) rfl (by kernel_rfl) (by kernel_rfl) (by kernel_rfl) (by kernel_rfl) (Or.inl ⟨by kernel_rfl, ?hy61⟩) (fun _ => (hSv.out _ hr6)) ?rest61
        case hy61 => (intro W2 _; go_simp; try with_reducible rfl)
        try simp only [Act.put, List.setIfInBounds_toArray, List.set_cons_zero, List.set_cons_succ, List.getElem_toArray, List.getElem_cons_succ, List.getElem_cons_zero]
        refine wpAnyL_done (by kernel_rfl) ?_ _
        refine OnlyNormal.normal ?_
        have hrE := hr6
        clear hr0 hr1 hr2 hr3 hr4 hr5 hr6 hSv
        replace hB := hB.trans (hrE.mono hB.size)
        replace ni := hide (ni.out.below hrE)
        replace pr := hide (pr.out.below hrE)
        replace fr := hide (fr.out.below hrE)
        replace onf := hide (onf.out.below hrE)
        replace ya := hide (keep_blk hrE ya.out)
        replace ba := hide (keep_blk hrE ba.out)
        replace yt := hide (keep_blk hrE yt.out)
        replace bt := hide (keep_blk hrE bt.out)
        replace onb := hide (keep_blk hrE onb.out)
        replace fb2 := hide (keep_blk hrE fb2.out)
        replace evb := hide (keep_blk hrE evb.out)
        replace ctb := hide (keep_blk hrE ctb.out)
        replace lY2 := hide (lY2.out.below hrE)
        replace lX := hide (lX.out.below hrE)
        replace hL9 := hide (hL9.out.below hrE)
        replace la := hide (la.out.below hrE)
        replace ctw := hide (ctw.out.below hrE)
        clear hrE
        go_wp2_with fail
        go_ret
        exact ⟨rfl, hB⟩
end Go.Proofs.YtljocgdhdilglaaGreat
