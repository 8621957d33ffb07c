/- alive of law 4: it returns true, out of a contract of divide (DivC). -/
import Derived.Test.YtljocgdhdilglaaGreatZr34
import Derived.Test.YtljocgdhdilglaaGreatZr47
import Derived.Test.YtljocgdhdilglaaGreatZr48
set_option linter.unusedSimpArgs false
set_option linter.unusedVariables false

namespace Go.Proofs.YtljocgdhdilglaaGreat
open Go.RowKit
attribute [local go_sem] add_lit

instance decI64P (x : Int) : Decidable (I64 x) := by unfold I64; exact inferInstance
theorem LimI.of_blkP {w : World} {g : Nat} {t : TypeId} {l : List Int} {cs : Array Value} (h : Blk w g t cs) (hc : cs = (l.map (fun x => Value.int .i64 x)).toArray) (hl : ∀ x ∈ l, I64 x) (hn : l.length ≤ 1000) : LimI w (some ⟨g, 0, none⟩) l.length l.length l := by
  subst hc
  refine ⟨rfl, Nat.le_refl _, by unfold maxLen; omega, hl, fun _ => ⟨g, 0, rfl, fun k hk => ?_⟩⟩
  rw [Nat.zero_add, h.cell]
  simp [List.getElem?_eq_getElem hk]
def endOk (xs : List Int) : Bool := match xs.getLast? with | some x => decide (x ≠ 0) | none => true
theorem poly_ok {w : World} {A : Option Addr} {n c : Nat} {xs : List Int} (h : PolyL w A n c xs) (hk : okP xs = true) (hl : endOk xs = true) : ∃ es, WL w A n c es ∧ es.map WE.num = xs ∧ pOk es = true := by
  obtain ⟨es, h1, h2, h3⟩ := h
  refine ⟨es, h1, h2, ?_⟩
  rw [PolyL.pok h1 h3 (by
    rw [h2]
    intro x hx
    unfold endOk at hl
    rw [hx] at hl
    simpa using hl), h2]
  exact hk
theorem pGcd_pl (hD : DivC) (A B : Option Addr) (n c m d : Nat) (xs ys : List Int) (w : World) (hp : PolyL w A n c xs) (hq : PolyL w B m d ys) (k1 : okP xs = true) (e1 : endOk xs = true) (k2 : okP ys = true) (e2 : endOk ys = true) (hok : okCom ((partP ys).length + 1) (partP xs) (partP ys) = true) :
    Calls Tryz.prog 16 #[.slice A n c, .slice B m d] w (ResPoly w (comP xs ys)) := by
  obtain ⟨es, h1, rfl, h3⟩ := poly_ok hp k1 e1
  obtain ⟨fs, g1, rfl, g3⟩ := poly_ok hq k2 e2
  exact pGcd_ok hD A B n c m d es fs w h1 g1 h3 g3 hok
theorem pFree_pl (hD : DivC) (A : Option Addr) (n c : Nat) (xs : List Int) (w : World) (hp : PolyL w A n c xs) (k1 : okP xs = true) (e1 : endOk xs = true) (h0 : 0 < xs.length) (sd : signP (derP xs) ≠ 0)
    (hok : okCom ((partP (derP xs)).length + 1) (partP xs) (partP (derP xs)) = true) (hok2 : okDivP xs (comP xs (derP xs)) = true) :
    Calls Tryz.prog 12 #[.slice A n c] w (ResPoly w (freeP xs)) := by
  have hl := hp.len
  obtain ⟨es, h1, rfl, h3⟩ := poly_ok hp k1 e1
  exact pFree_ok hD A n c es w h1 h3 (by omega) (.inr sd) hok hok2
theorem Eval_pl (A : Option Addr) (n c : Nat) (xs : List Int) (na nb : Bool) (Ax Bx : Option Addr) (nx cx mx dx : Nat) (r : Rat) (w : World) (hp : PolyL w A n c xs) (k1 : okP xs = true) (e1 : endOk xs = true) (hx : Fr w na Ax nx cx nb Bx mx dx r) (h1 : nx ≤ 64) (h2 : mx ≤ 64) :
    Calls Tryz.prog 23 #[.slice A n c, .agg #[.bool na, .slice Ax nx cx, .bool nb, .slice Bx mx dx]] w (FracE w (evalQ xs r)) := by
  obtain ⟨es, g1, rfl, g3⟩ := poly_ok hp k1 e1
  exact Eval_ok A n c es na nb Ax Bx nx cx mx dx r w g1 g3 hx h1 h2
theorem wd_len {w : World} {neg : Bool} {A : Option Addr} {n c : Nat} {z : Int} (h : Wd w neg A n c z) (hz : z.natAbs < pw 64) : n ≤ 64 := by rw [← h.2.2.len]; exact (length_digits_le _ _).2 hz
theorem LimI.belowP {w w' : World} {A : Option Addr} {n c : Nat} {l : List Int} (h : LimI w A n c l) (hb : Below w.heap.size w w') : LimI w' A n c l :=
  ⟨h.1, h.2.1, h.2.2.1, h.2.2.2.1, fun hn => by
    obtain ⟨b, o, e, hc⟩ := h.2.2.2.2 hn
    exact ⟨b, o, e, fun k hk => (hb.cell (lt_of_cell (hc k hk))).trans (hc k hk)⟩⟩
theorem ex_val : evalQ [0, -1, 1] (Rat.divInt 1 2) = Rat.divInt (-1) 4 := by decide +kernel

set_option maxRecDepth 100000 in
set_option maxHeartbeats 4000000 in
theorem alive4_ok (hD : DivC) (w : World) :
    Calls Tryz.prog 7 #[] w fun e w' => e = .returned (.bool true) ∧ Below w.heap.size w w' := by
  have hmx : Tryz.prog.follows .mixedOrders = true := by kernel_rfl
  have hB : Below w.heap.size w w := Below.refl _ _
  go_enter Tryz.func7, Tryz.ntmps7
  obtain ⟨V1, hV1, hX1, y1, -, -, -⟩ := new_obj 2 #[.int .i64 (-2), .int .i64 0, .int .i64 2] (Below.refl w.heap.size w) (Nat.le_refl _)
  replace hB := hB.trans (hX1.mono hB.size)
  have hl := hide (LimI.of_blkP (l := [-2, 0, 2]) y1 rfl (by decide) (by decide))
  go_wp2_with fail
  refine (Ints_ok _ 3 3 [-2, 0, 2] V1 hl.out (by omega)).mono ?_
  rintro e w1 ⟨paA, pan, pac, rfl, pa, hbpa⟩
  clear hV1 hX1 y1 hl
  replace hB := hB.trans (hbpa.mono hB.size)
  rw [show trimP [-2, 0, 2] = [-2, 0, 2] by decide +kernel] at pa
  replace pa := hide pa
  obtain ⟨V2, hV2, hX2, y2, -, -, -⟩ := new_obj 2 #[.int .i64 3, .int .i64 3] (Below.refl w1.heap.size w1) (Nat.le_refl _)
  replace hB := hB.trans (hX2.mono hB.size)
  replace pa := hide (pa.out.below hX2)
  have hl := hide (LimI.of_blkP (l := [3, 3]) y2 rfl (by decide) (by decide))
  go_wp2_with fail
  refine (Ints_ok _ 2 2 [3, 3] V2 hl.out (by omega)).mono ?_
  rintro e w2 ⟨pbA, pbn, pbc, rfl, pb, hbpb⟩
  clear hV2 hX2 y2 hl
  replace hB := hB.trans (hbpb.mono hB.size)
  replace pa := hide (pa.out.below hbpb)
  rw [show trimP [3, 3] = [3, 3] by decide +kernel] at pb
  replace pb := hide pb
  go_wp2_with fail
  refine (pGcd_pl hD paA pbA pan pac pbn pbc [-2, 0, 2] [3, 3] w2 pa.out pb.out (by decide +kernel) (by decide +kernel) (by decide +kernel) (by decide +kernel) ex_gcd_ok).mono ?_
  rintro e w3 ⟨hb3, gA, gn, gc, code, rfl, hR⟩
  replace hB := hB.trans (hb3.mono hB.size)
  replace pa := hide (pa.out.below hb3)
  replace pb := hide (pb.out.below hb3)
  clear pa pb
  rw [ex_gcd] at hR
  obtain ⟨-, rfl, pg⟩ := hR.resolve_right (fun h => by have h1 := h.1; revert h1; decide +kernel)
  rw [show trimP [1, 1] = [1, 1] by decide +kernel] at pg
  replace pg := hide pg
  clear hR
  obtain ⟨V3, hV3, hX3, y3, -, -, -⟩ := new_obj 2 #[.int .i64 0, .int .i64 (-4), .int .i64 8, .int .i64 (-4)] (Below.refl w3.heap.size w3) (Nat.le_refl _)
  replace hB := hB.trans (hX3.mono hB.size)
  replace pg := hide (pg.out.below hX3)
  have hl := hide (LimI.of_blkP (l := [0, -4, 8, -4]) y3 rfl (by decide) (by decide))
  go_wp2_with fail
  refine (Ints_ok _ 4 4 [0, -4, 8, -4] V3 hl.out (by omega)).mono ?_
  rintro e w4 ⟨pcA, pcn, pcc, rfl, pc, hbpc⟩
  clear hV3 hX3 y3 hl
  replace hB := hB.trans (hbpc.mono hB.size)
  replace pg := hide (pg.out.below hbpc)
  rw [show trimP [0, -4, 8, -4] = [0, -4, 8, -4] by decide +kernel] at pc
  replace pc := hide pc
  go_wp2_with fail
  refine (pFree_pl hD pcA pcn pcc [0, -4, 8, -4] w4 pc.out (by decide +kernel) (by decide +kernel) (by decide) (by decide +kernel) ex_free_ok ex_free_div).mono ?_
  rintro e w5 ⟨hb5, fA, fn, fc, code, rfl, hR⟩
  replace hB := hB.trans (hb5.mono hB.size)
  replace pg := hide (pg.out.below hb5)
  replace pc := hide (pc.out.below hb5)
  clear pc
  rw [ex_free] at hR
  obtain ⟨-, rfl, pf⟩ := hR.resolve_right (fun h => by have h1 := h.1; revert h1; decide +kernel)
  rw [show trimP [0, -1, 1] = [0, -1, 1] by decide +kernel] at pf
  replace pf := hide pf
  clear hR
  go_wp2_with fail
  refine (rOf_pos (1) 2 w5 (by decide) (by decide) (by decide) (by decide)).mono ?_
  rintro e w6 ⟨hbha, han, haA, hak, hac, ham, haB, haj, had, rfl, haf⟩
  replace hB := hB.trans (hbha.mono hB.size)
  replace pg := hide (pg.out.below hbha)
  replace pf := hide (pf.out.below hbha)
  replace haf := hide haf
  obtain ⟨Xha, hXha, hxha, zha, -, -, -⟩ := new_obj 27 #[.bool false, .slice none 0 0, .bool false, .slice none 0 0] (Below.refl w6.heap.size w6) (Nat.le_refl _)
  obtain ⟨ha0, ha1, ha2, ha3, ha4, ha5, ha6, ha7⟩ := zha.four
  obtain ⟨Yha, hYha, hyha, hab, -⟩ := set_frac han haA hak hac ham haB haj had hxha (Nat.le_refl _) zha
  replace haf := hide (haf.out.below hyha)
  replace hB := hB.trans (hyha.mono hB.size)
  replace pg := hide (pg.out.below hyha)
  replace pf := hide (pf.out.below hyha)
  go_wp2_with fail
  refine (rOf_pos (-1) 4 Yha (by decide) (by decide) (by decide) (by decide)).mono ?_
  rintro e w7 ⟨hbqu, qun, quA, quk, quc, qum, quB, quj, qud, rfl, quf⟩
  clear hXha hxha zha hYha hyha ha0 ha1 ha2 ha3 ha4 ha5 ha6 ha7
  replace hB := hB.trans (hbqu.mono hB.size)
  replace pg := hide (pg.out.below hbqu)
  replace pf := hide (pf.out.below hbqu)
  replace hab := keep_blk hbqu hab
  replace haf := hide (haf.out.below hbqu)
  replace quf := hide quf
  obtain ⟨Xqu, hXqu, hxqu, zqu, -, -, -⟩ := new_obj 27 #[.bool false, .slice none 0 0, .bool false, .slice none 0 0] (Below.refl w7.heap.size w7) (Nat.le_refl _)
  obtain ⟨qu0, qu1, qu2, qu3, qu4, qu5, qu6, qu7⟩ := zqu.four
  obtain ⟨Yqu, hYqu, hyqu, qub, -⟩ := set_frac qun quA quk quc qum quB quj qud hxqu (Nat.le_refl _) zqu
  replace quf := hide (quf.out.below hyqu)
  replace hB := hB.trans (hyqu.mono hB.size)
  replace pg := hide (pg.out.below hyqu)
  replace pf := hide (pf.out.below hyqu)
  replace hab := keep_blk hyqu hab
  replace haf := hide (haf.out.below hyqu)
  go_wp2_with fail
  clear hXqu hxqu zqu hYqu hyqu qu0 qu1 qu2 qu3 qu4 qu5 qu6 qu7
  have hk64 : hak ≤ 64 := wd_len haf.out.1 (by decide +kernel)
  have hj64 : haj ≤ 64 := wd_len haf.out.2 (by decide +kernel)
  have hS : Hid (∀ wx, Below Yqu.heap.size Yqu wx → wx.cell? ⟨w6.heap.size, 0, none⟩ = some (.bool han) ∧ wx.cell? ⟨w6.heap.size, 1, none⟩ = some (.slice haA hak hac) ∧ wx.cell? ⟨w6.heap.size, 2, none⟩ = some (.bool ham) ∧ wx.cell? ⟨w6.heap.size, 3, none⟩ = some (.slice haB haj had)) := hide (fun wx hbx => by
    have v := (keep_blk hbx hab).four
    exact ⟨v.1, v.2.1, v.2.2.1, v.2.2.2.1⟩)
  have hb : Below Yqu.heap.size Yqu Yqu.drew := below_dn (Below.refl _ _) 1
  refine wp_held [] (fun wx => wx.cell? ⟨w6.heap.size, 0, none⟩ = some (.bool han) ∧ wx.cell? ⟨w6.heap.size, 1, none⟩ = some (.slice haA hak hac) ∧ wx.cell? ⟨w6.heap.size, 2, none⟩ = some (.bool ham) ∧ wx.cell? ⟨w6.heap.size, 3, none⟩ = some (.slice haB haj had)) hmx (hS.out _ hb) (fun _ => ?_)
  refine wpAnyL_take (i := 2) (v := ?v1) rfl (by kernel_rfl) (by kernel_rfl) (by kernel_rfl) (by kernel_rfl) (by kernel_rfl) (Or.inl ⟨by rfl, ?hy1⟩) (hS.out _ hb) ?rest1
  case hy1 => (intro W2 hSw; (try dsimp only at hSw); go_simp; try with_reducible rfl)
  try simp only [Act.put, List.setIfInBounds_toArray, List.set_cons_zero, List.set_cons_succ]
  refine wpAnyL_free1 7 9 4 27 #[.bool false, .slice none 0 0, .bool false, .slice none 0 0] [0, 1, 3, 4] (by kernel_rfl) (by simp) (fun wx hbx => hS.out _ (hb.trans (hbx.mono hb.size))) ?hA ?_
  case hA => (intro K a w h; refine wpOp_shut (i := 7) rfl (fun K2 hK2 => ?_); go_simp; exact hK2.out _ _ h)
  refine chainO_cons (fun u1 wa hba => ?_)
  refine (new_obj 2 #[.int .i64 0, .int .i64 (-1), .int .i64 1] (Below.refl wa.heap.size wa) (Nat.le_refl _)).elim (fun V5 hq => ?_)
  refine wpOp_shut (i := 0) rfl (fun K hK => ?_)
  try simp only [Act.put, List.setIfInBounds_toArray, List.set_cons_zero, List.set_cons_succ]
  go_simp
  (try rw [hq.1])
  refine hK.out _ _ ⟨⟨rfl, hq.2.1⟩, ?_⟩
  have hl5 := hide (LimI.of_blkP (l := [0, -1, 1]) hq.2.2.1 rfl (by decide) (by decide))
  have hb4 := hb.trans (hba.mono hb.size)
  have hb5 := hb4.trans (hq.2.1.mono hb4.size)
  clear hK K hq hb4
  try simp only [Act.put, List.setIfInBounds_toArray, List.set_cons_zero, List.set_cons_succ]
  refine chainO_cons (fun u2 wb hbb => ?_)
  refine wpOp_shut (i := 1) rfl (fun K hK => ?_)
  try simp only [Act.put, List.setIfInBounds_toArray, List.set_cons_zero, List.set_cons_succ]
  go_simp
  refine (Ints_ok _ 3 3 [0, -1, 1] wb (hl5.out.belowP hbb) (by omega)).mono ?_
  rintro e wc ⟨A9, n9, c9, rfl, hP9, hbc⟩
  refine hK.out _ _ ⟨⟨rfl, hbc⟩, ?_⟩
  have hb6 := hb5.trans (hbb.mono hb5.size)
  have hb7 := hb6.trans (hbc.mono hb6.size)
  rw [show trimP [0, -1, 1] = [0, -1, 1] by decide +kernel] at hP9
  replace hP9 := hide hP9
  clear hK K hb6
  try simp only [Act.put, List.setIfInBounds_toArray, List.set_cons_zero, List.set_cons_succ]
  refine chainO_cons (fun u3 wd hbd => ?_)
  refine wpOp_shut (i := 3) rfl (fun K hK => ?_)
  try simp only [Act.put, List.setIfInBounds_toArray, List.set_cons_zero, List.set_cons_succ]
  go_simp
  refine (Eval_pl A9 n9 c9 [0, -1, 1] han ham haA haB hak hac haj had (Rat.divInt 1 2) wd (hP9.out.below hbd) (by decide +kernel) (by decide +kernel) (haf.out.below (hb7.trans (hbd.mono hb7.size))) hk64 hj64).mono ?_
  rintro e we ⟨hbe, vn, vA, vk, vc, vm, vB, vj, vd, rfl, vf⟩
  rw [ex_val] at vf
  replace vf := hide vf
  refine hK.out _ _ ⟨⟨rfl, hbe⟩, ?_⟩
  have hb8 := hb7.trans (hbd.mono hb7.size)
  have hb9 := hb8.trans (hbe.mono hb8.size)
  clear hK K hb8
  try simp only [Act.put, List.setIfInBounds_toArray, List.set_cons_zero, List.set_cons_succ]
  refine chainO_cons (fun u4 wf hbf => ?_)
  refine wpOp_shut (i := 4) rfl (fun K hK => ?_)
  try simp only [Act.put, List.setIfInBounds_toArray, List.set_cons_zero, List.set_cons_succ]
  go_simp
  refine hK.out _ _ ⟨⟨rfl, Below.refl _ _⟩, ?_⟩
  clear hK K
  try simp only [Act.put, List.setIfInBounds_toArray, List.set_cons_zero, List.set_cons_succ]
  replace vf := hide (vf.out.below hbf)
  have hb10 := hb9.trans (hbf.mono hb9.size)
  have hBbase := hB
  have pgb := pg
  have pfb := pf
  clear pg pf
  refine chainO_nil (fun u5 wg hbg => ?_) (fun gv wg hbg kv jv => ?_)
  ·
    try simp only [c1, if_true, Act.put, List.setIfInBounds_toArray, List.set_cons_zero, List.set_cons_succ]
    have hbz := hb10.trans (hbg.mono hb10.size)
    replace vf := hide (vf.out.below hbg)
    refine wpAnyL_take (i := 5) (v := ?v2) rfl (by kernel_rfl) (by kernel_rfl) (by kernel_rfl) (by kernel_rfl) (by kernel_rfl) (Or.inl ⟨by rfl, ?hy2⟩) (hS.out _ hbz) ?rest2
    case hy2 => (intro W2 hSw; (try dsimp only at hSw); go_simp; try with_reducible rfl)
    try simp only [Act.put, List.setIfInBounds_toArray, List.set_cons_zero, List.set_cons_succ]
    refine wpAnyL_take (i := 6) (v := ?v3) rfl (by kernel_rfl) (by kernel_rfl) (by kernel_rfl) (by kernel_rfl) (by kernel_rfl) (Or.inl ⟨by rfl, ?hy3⟩) (hS.out _ hbz) ?rest3
    case hy3 => (intro W2 hSw; (try dsimp only at hSw); go_simp; try with_reducible rfl)
    try simp only [Act.put, List.setIfInBounds_toArray, List.set_cons_zero, List.set_cons_succ]
    have jv0 : Yqu.drew.heap.size ≤ wg.heap.size := hbz.size
    refine (new_obj 27 #[.bool false, .slice none 0 0, .bool false, .slice none 0 0] hbz hbz.size).elim (fun Vv hq => ?_)
    refine wpAnyL_one (i := 7) rfl (by kernel_rfl) (fun K hK => ?_)
    go_simp
    (try rw [hq.1])
    refine hK.out _ _ (fun _ => hS.out _ hq.2.1) ?_
    clear hK K
    try simp only [Act.put, List.setIfInBounds_toArray, List.set_cons_zero, List.set_cons_succ]
    replace hbz := hq.2.1
    have kv := hq.2.2.1
    have jv := jv0
    replace vf := hide (vf.out.below ((Below.refl wg.heap.size wg).alloc (Nat.le_refl _) (.cells #[.bool false, .slice none 0 0, .bool false, .slice none 0 0] 27)))
    rw [hq.1] at vf
    clear hq
    have kc := kv.four
    refine (set_frac vn vA vk vc vm vB vj vd hbz (Nat.le_trans hb.size jv) kv).elim (fun Z hq => ?_)
    have c0 := kc.1
    have c1' := kc.2.1
    have c2 := kc.2.2.1
    have c3 := kc.2.2.2.1
    have f0 := kc.2.2.2.2.1
    have f1 := kc.2.2.2.2.2.1
    have f2 := kc.2.2.2.2.2.2.1
    have f3 := kc.2.2.2.2.2.2.2
    have vg : Hid (Fr Z vn vA vk vc vm vB vj vd (Rat.divInt (-1) 4)) := hide ⟨hq.2.2.2.1 _ _ _ _ _ vf.out.1, hq.2.2.2.1 _ _ _ _ _ vf.out.2⟩
    have hZ := hq.1
    have hBZ := hq.2.1
    have kZ := hq.2.2.1
    clear hq kc vf
    refine wpAnyL_one (i := 8) rfl (by kernel_rfl) (fun K hK => ?_)
    go_simp
    (try rw [hZ])
    refine hK.out _ _ (fun _ => hS.out _ hBZ) ?_
    clear hK K
    try simp only [Act.put, List.setIfInBounds_toArray, List.set_cons_zero, List.set_cons_succ]
    refine wpAnyL_one (i := 9) rfl (by kernel_rfl) (fun K hK => ?_)
    go_simp
    refine hK.out _ _ (fun _ => hS.out _ hBZ) ?_
    clear hK K
    try simp only [Act.put, List.setIfInBounds_toArray, List.set_cons_zero, List.set_cons_succ]
    refine wpAnyL_done (by kernel_rfl) ?_ _
    refine OnlyNormal.normal ?_
    clear c0 c1' c2 c3 f0 f1 f2 f3 hZ kv
    have pg := pgb
    have pf := pfb
    replace hB := hB.trans (hBZ.mono hB.size)
    replace pg := hide (pg.out.below hBZ)
    replace pf := hide (pf.out.below hBZ)
    replace qub := keep_blk hBZ qub
    replace quf := hide (quf.out.below hBZ)
    clear hab haf hS
    replace kZ := hide kZ
    obtain ⟨V4, hV4, hX4, y4, -, -, -⟩ := new_obj 2 #[.int .i64 1, .int .i64 1] (Below.refl Z.heap.size Z) (Nat.le_refl _)
    replace hB := hB.trans (hX4.mono hB.size)
    replace pg := hide (pg.out.below hX4)
    replace pf := hide (pf.out.below hX4)
    replace qub := keep_blk hX4 qub
    replace quf := hide (quf.out.below hX4)
    have hl := hide (LimI.of_blkP (l := [1, 1]) y4 rfl (by decide) (by decide))
    replace kZ := hide (keep_blk hX4 kZ.out)
    replace vg := hide (vg.out.below hX4)
    go_wp2_with fail
    refine (same_ok gA gn gc _ 2 2 [1, 1] V4 (by rw [show trimP [1, 1] = [1, 1] by decide +kernel]; exact pg.out) hl.out (by omega)).mono ?_
    rintro e wu ⟨rfl, hs1⟩
    clear hV4 hX4 y4 hl
    replace hB := hB.trans (hs1.mono hB.size)
    replace pg := hide (pg.out.below hs1)
    replace pf := hide (pf.out.below hs1)
    replace qub := keep_blk hs1 qub
    replace quf := hide (quf.out.below hs1)
    replace kZ := hide (keep_blk hs1 kZ.out)
    replace vg := hide (vg.out.below hs1)
    obtain ⟨V5, hV5, hX5, y5, -, -, -⟩ := new_obj 2 #[.int .i64 0, .int .i64 (-1), .int .i64 1] (Below.refl wu.heap.size wu) (Nat.le_refl _)
    replace hB := hB.trans (hX5.mono hB.size)
    replace pg := hide (pg.out.below hX5)
    replace pf := hide (pf.out.below hX5)
    replace qub := keep_blk hX5 qub
    replace quf := hide (quf.out.below hX5)
    have hl := hide (LimI.of_blkP (l := [0, -1, 1]) y5 rfl (by decide) (by decide))
    replace kZ := hide (keep_blk hX5 kZ.out)
    replace vg := hide (vg.out.below hX5)
    go_wp2_with fail
    refine (same_ok fA fn fc _ 3 3 [0, -1, 1] V5 (by rw [show trimP [0, -1, 1] = [0, -1, 1] by decide +kernel]; exact pf.out) hl.out (by omega)).mono ?_
    rintro e wv ⟨rfl, hs2⟩
    clear hV5 hX5 y5 hl
    replace hB := hB.trans (hs2.mono hB.size)
    replace pg := hide (pg.out.below hs2)
    replace pf := hide (pf.out.below hs2)
    replace qub := keep_blk hs2 qub
    replace quf := hide (quf.out.below hs2)
    replace kZ := hide (keep_blk hs2 kZ.out)
    replace vg := hide (vg.out.below hs2)
    have a := kZ.out.four
    have b := qub.four
    have a0 := a.1
    have a1 := a.2.1
    have a2 := a.2.2.1
    have a3 := a.2.2.2.1
    have b0 := b.1
    have b1 := b.2.1
    have b2 := b.2.2.1
    have b3 := b.2.2.2.1
    clear a b
    go_wp2_with fail
    refine (rfSame_fz vn vm qun qum vA vB quA quB vk vc vj vd quk quc quj qud (prQ (Rat.divInt (-1) 4)) (prQ (Rat.divInt (-1) 4)) wv vg.out.fz quf.out.fz true (by simp)).mono ?_
    rintro e wx ⟨rfl, hs3⟩
    replace hB := hB.trans (hs3.mono hB.size)
    go_wp2_with fail
    go_ret
    exact ⟨rfl, hB⟩
  ·
    try simp only [c1, if_true, Act.put, List.setIfInBounds_toArray, List.set_cons_zero, List.set_cons_succ]
    have hbz := hb10.trans (hbg.mono hb10.size)
    replace vf := hide (vf.out.below hbg)
    refine wpAnyL_take (i := 5) (v := ?v4) rfl (by kernel_rfl) (by kernel_rfl) (by kernel_rfl) (by kernel_rfl) (by kernel_rfl) (Or.inl ⟨by rfl, ?hy4⟩) (hS.out _ hbz) ?rest4
    case hy4 => (intro W2 hSw; (try dsimp only at hSw); go_simp; try with_reducible rfl)
    try simp only [Act.put, List.setIfInBounds_toArray, List.set_cons_zero, List.set_cons_succ]
    refine wpAnyL_take (i := 6) (v := ?v5) rfl (by kernel_rfl) (by kernel_rfl) (by kernel_rfl) (by kernel_rfl) (by kernel_rfl) (Or.inl ⟨by rfl, ?hy5⟩) (hS.out _ hbz) ?rest5
    case hy5 => (intro W2 hSw; (try dsimp only at hSw); go_simp; try with_reducible rfl)
    try simp only [Act.put, List.setIfInBounds_toArray, List.set_cons_zero, List.set_cons_succ]
    have kc := kv.four
    refine (set_frac vn vA vk vc vm vB vj vd hbz (Nat.le_trans hb.size jv) kv).elim (fun Z hq => ?_)
    have c0 := kc.1
    have c1' := kc.2.1
    have c2 := kc.2.2.1
    have c3 := kc.2.2.2.1
    have f0 := kc.2.2.2.2.1
    have f1 := kc.2.2.2.2.2.1
    have f2 := kc.2.2.2.2.2.2.1
    have f3 := kc.2.2.2.2.2.2.2
    have vg : Hid (Fr Z vn vA vk vc vm vB vj vd (Rat.divInt (-1) 4)) := hide ⟨hq.2.2.2.1 _ _ _ _ _ vf.out.1, hq.2.2.2.1 _ _ _ _ _ vf.out.2⟩
    have hZ := hq.1
    have hBZ := hq.2.1
    have kZ := hq.2.2.1
    clear hq kc vf
    refine wpAnyL_one (i := 8) rfl (by kernel_rfl) (fun K hK => ?_)
    go_simp
    (try rw [hZ])
    refine hK.out _ _ (fun _ => hS.out _ hBZ) ?_
    clear hK K
    try simp only [Act.put, List.setIfInBounds_toArray, List.set_cons_zero, List.set_cons_succ]
    refine wpAnyL_one (i := 9) rfl (by kernel_rfl) (fun K hK => ?_)
    go_simp
    refine hK.out _ _ (fun _ => hS.out _ hBZ) ?_
    clear hK K
    try simp only [Act.put, List.setIfInBounds_toArray, List.set_cons_zero, List.set_cons_succ]
    refine wpAnyL_done (by kernel_rfl) ?_ _
    refine OnlyNormal.normal ?_
    clear c0 c1' c2 c3 f0 f1 f2 f3 hZ kv
    have pg := pgb
    have pf := pfb
    replace hB := hB.trans (hBZ.mono hB.size)
    replace pg := hide (pg.out.below hBZ)
    replace pf := hide (pf.out.below hBZ)
    replace qub := keep_blk hBZ qub
    replace quf := hide (quf.out.below hBZ)
    clear hab haf hS
    replace kZ := hide kZ
    obtain ⟨V6, hV6, hX6, y6, -, -, -⟩ := new_obj 2 #[.int .i64 1, .int .i64 1] (Below.refl Z.heap.size Z) (Nat.le_refl _)
    replace hB := hB.trans (hX6.mono hB.size)
    replace pg := hide (pg.out.below hX6)
    replace pf := hide (pf.out.below hX6)
    replace qub := keep_blk hX6 qub
    replace quf := hide (quf.out.below hX6)
    have hl := hide (LimI.of_blkP (l := [1, 1]) y6 rfl (by decide) (by decide))
    replace kZ := hide (keep_blk hX6 kZ.out)
    replace vg := hide (vg.out.below hX6)
    go_wp2_with fail
    refine (same_ok gA gn gc _ 2 2 [1, 1] V6 (by rw [show trimP [1, 1] = [1, 1] by decide +kernel]; exact pg.out) hl.out (by omega)).mono ?_
    rintro e wu ⟨rfl, hs1⟩
    clear hV6 hX6 y6 hl
    replace hB := hB.trans (hs1.mono hB.size)
    replace pg := hide (pg.out.below hs1)
    replace pf := hide (pf.out.below hs1)
    replace qub := keep_blk hs1 qub
    replace quf := hide (quf.out.below hs1)
    replace kZ := hide (keep_blk hs1 kZ.out)
    replace vg := hide (vg.out.below hs1)
    obtain ⟨V7, hV7, hX7, y7, -, -, -⟩ := new_obj 2 #[.int .i64 0, .int .i64 (-1), .int .i64 1] (Below.refl wu.heap.size wu) (Nat.le_refl _)
    replace hB := hB.trans (hX7.mono hB.size)
    replace pg := hide (pg.out.below hX7)
    replace pf := hide (pf.out.below hX7)
    replace qub := keep_blk hX7 qub
    replace quf := hide (quf.out.below hX7)
    have hl := hide (LimI.of_blkP (l := [0, -1, 1]) y7 rfl (by decide) (by decide))
    replace kZ := hide (keep_blk hX7 kZ.out)
    replace vg := hide (vg.out.below hX7)
    go_wp2_with fail
    refine (same_ok fA fn fc _ 3 3 [0, -1, 1] V7 (by rw [show trimP [0, -1, 1] = [0, -1, 1] by decide +kernel]; exact pf.out) hl.out (by omega)).mono ?_
    rintro e wv ⟨rfl, hs2⟩
    clear hV7 hX7 y7 hl
    replace hB := hB.trans (hs2.mono hB.size)
    replace pg := hide (pg.out.below hs2)
    replace pf := hide (pf.out.below hs2)
    replace qub := keep_blk hs2 qub
    replace quf := hide (quf.out.below hs2)
    replace kZ := hide (keep_blk hs2 kZ.out)
    replace vg := hide (vg.out.below hs2)
    have a := kZ.out.four
    have b := qub.four
    have a0 := a.1
    have a1 := a.2.1
    have a2 := a.2.2.1
    have a3 := a.2.2.2.1
    have b0 := b.1
    have b1 := b.2.1
    have b2 := b.2.2.1
    have b3 := b.2.2.2.1
    clear a b
    go_wp2_with fail
    refine (rfSame_fz vn vm qun qum vA vB quA quB vk vc vj vd quk quc quj qud (prQ (Rat.divInt (-1) 4)) (prQ (Rat.divInt (-1) 4)) wv vg.out.fz quf.out.fz true (by simp)).mono ?_
    rintro e wx ⟨rfl, hs3⟩
    replace hB := hB.trans (hs3.mono hB.size)
    go_wp2_with fail
    go_ret
    exact ⟨rfl, hB⟩
end Go.Proofs.YtljocgdhdilglaaGreat
