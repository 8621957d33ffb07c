/- The reference of frac: Neg; the reference of linear: det. -/
import Derived.Test.YtigdclhagmnopaaGreatZl33
set_option maxRecDepth 100000
set_option maxHeartbeats 4000000
set_option linter.unusedSimpArgs false
set_option linter.unusedVariables false
namespace Go.Proofs.YtigdclhagmnopaaGreat
open Go.RowKit
attribute [local go_sem] Zi
theorem Ztd (na nb : Bool) (A B : Option Addr) (n c m d : Nat) (a : Rat) (w : World) (ha : Fr w na A n c nb B m d a) :
    Calls Tryz.prog 38 #[.agg #[.bool na, .slice A n c, .bool nb, .slice B m d]] w (Ze0 w (-a)) := by
 obtain ⟨W0, hW0, hB0, ⟨q0, q1⟩, s0⟩ := Ziu w 45 #[.bool na, .slice A n c, .bool nb, .slice B m d] 45 #[.bool false, .slice none 0 0, .bool false, .slice none 0 0]
 have hA := Za (ha.below hB0)
 have hsm : Hid ((-a.num).natAbs < pw 4096) := Za (by rw [Int.natAbs_neg]; exact ha.1.small)
 clear ha
 obtain ⟨a0, a1, a2, a3, -⟩ := q0.four
 have hq := Za (And.intro q0 q1)
 clear q0 q1
 go_enter Tryz.func38, Tryz.ntmps38
 go_wp2_with fail
 refine (Zkg na nb A B n c m d a W0 hA.out).mono ?_
 rintro e w1 ⟨rfl, hb1⟩
 have hB1 := hB0.trans (hb1.mono hB0.size)
 have s1 := hb1.size
 replace hA := Za (hA.out.below hb1)
 obtain ⟨q0, q1⟩ := hq.out
 replace q0 := Zc hb1 q0
 replace q1 := Zc hb1 q1
 clear hW0 hb1 a0 a1 a2 a3 hq hB0
 obtain ⟨a0, a1, a2, a3, -⟩ := q0.four
 have hq := Za (And.intro q0 q1)
 clear q0 q1
 go_wp2_with fail
 refine (Zqv na A n c a.num w1 hA.out.1).mono ?_
 rintro e w2 ⟨hb2, n2, A2, k2, c2, code, rfl, hR⟩
 have hN := hR.small hsm.out
 have hcode := hR.code0 hsm.out
 subst hcode
 have hB2 := hB1.trans (hb2.mono hB1.size)
 have s2 := hb2.size
 replace hA := Za (hA.out.below hb2)
 obtain ⟨q0, q1⟩ := hq.out
 replace q0 := Zc hb2 q0
 replace q1 := Zc hb2 q1
 clear hb2 a0 a1 a2 a3 hq hB1 hR
 obtain ⟨V, hV, hBV, qv, kW, kB, sV⟩ := Zn 43 #[.bool n2, .slice A2 k2 c2] hB2 hB2.size
 replace q0 := kB _ _ _ q0
 replace q1 := kB _ _ _ q1
 replace hN := Za (kW _ _ _ _ _ hN)
 have hD := Za (kW _ _ _ _ _ hA.out.2)
 clear kW kB hA hB2
 obtain ⟨a0, a1, a2, a3, -⟩ := q0.four
 obtain ⟨v0, v1, v2, v3⟩ := qv.two
 obtain ⟨r0, r1, r2, r3, r4, r5, r6, r7⟩ := q1.four
 go_wp2_with fail
 obtain ⟨W7, hW7, hB7, q3, kW, -, s7⟩ := Zx n2 A2 k2 c2 nb B m d hBV (by omega) q1
 rw [hW7]
 obtain ⟨r0, r1, r2, r3, -⟩ := q3.four
 refine bodyPost_ret (v := .tuple #[.agg #[.bool n2, .slice A2 k2 c2, .bool nb, .slice B m d], .int .i64 0]) (by simp [results, Tryz.results38, go_sem, r0, r1, r2, r3]) rfl ?_
 exact ⟨hB7, _, _, _, _, _, _, _, _, rfl, kW _ _ _ _ _ hN.out, kW _ _ _ _ _ hD.out⟩
theorem SmN.one : SmN 1 1 1 := ⟨by rw [show (1 : Rat).num.natAbs = 1 from rfl]; exact Zdk, by rw [show (1 : Rat).den = 1 from rfl]; exact Zdk⟩
theorem Zlo {f : Nat -> Rat} (h : ∀ i, SmN 190 190 (f i)) : ∀ n, SmN (190 * n + 1) (190 * n + 1) (Zab n f)
 | 0 => SmN.one
 | n + 1 => by
  have := (Zlo h n).mulN (h n)
  rw [show 190 * n + 1 + 190 = 190 * (n + 1) + 1 by omega] at this
  exact this
theorem Zgz {C D m : Nat} : ∀ (f c r : Nat) (R : List (List Rat)) (ng : Bool), okR C D m f c r R -> BdR C D m (Zs f c r R ng).1
 | 0, _, _, _, _, h => h
 | f + 1, c, r, R, ng, h => by
  by_cases h0 : r = R.length
  ·rw [Zhq h0]; exact h.1
  ·obtain ⟨q, hq⟩ : ∃ q, Zaq (fun i => Zl R i c == 0) R.length R.length r = q := ⟨_, rfl⟩
   by_cases hn : q = R.length
   ·rw [Zhc h0 hq hn]; exact Zgz f _ _ _ _ (Zod h h0 hq hn)
   ·rw [Zhj h0 hq hn]; exact Zgz f _ _ _ _ (Znx h h0 hq hn)
theorem Zhp : ∀ (f c r : Nat) (R : List (List Rat)) (ng : Bool), r <= R.length -> (Zs f c r R ng).2.1 <= R.length
 | 0, _, _, _, _, h => h
 | f + 1, c, r, R, ng, h => by
  by_cases h0 : r = R.length
  ·rw [Zhq h0]; exact h
  ·obtain ⟨q, hq⟩ : ∃ q, Zaq (fun i => Zl R i c == 0) R.length R.length r = q := ⟨_, rfl⟩
   by_cases hn : q = R.length
   ·rw [Zhc h0 hq hn]; exact Zhp f _ _ _ _ h
   ·rw [Zhj h0 hq hn]
    have h1 := Zhp f (c + 1) (r + 1) (Zbh (Zy R q r) r c) (ng != decide (q ≠ r)) (by rw [Zdb, Zb9]; omega)
    rw [Zdb, Zb9] at h1
    exact h1
theorem BdR.mono {C D C' D' m : Nat} {R : List (List Rat)} (h : BdR C D m R) (hC : C <= C') (hD : D <= D') : BdR C' D' m R := ⟨h.1, fun i j => ⟨Nat.lt_of_lt_of_le (h.2 i j).1 hC, Nat.lt_of_lt_of_le (h.2 i j).2 hD⟩⟩
theorem Zf0 {C D C' D' m : Nat} (hC : C <= C') (hD : D <= D') : ∀ (f c r : Nat) (R : List (List Rat)), okR C D m f c r R -> okR C' D' m f c r R
 | 0, _, _, _, h => BdR.mono h hC hD
 | f + 1, c, r, R, h => ⟨h.1.mono hC hD, h.2.imp id (fun ⟨h1, h2⟩ => ⟨fun e => Zf0 hC hD f _ _ _ (h1 e), fun e => Zf0 hC hD f _ _ _ (h2 e)⟩)⟩
theorem rdet_ok (A : Option Addr) (n c : Nat) (Q : List (List Rat)) (w : World) (h : MFL w A n c Q) (hn0 : 0 < n) (hn5 : n <= 5) (hm : ∀ i, i < n -> (Q[i]?.getD []).length = n) (hok : okR (pw 190) (pw 190) n n 0 0 Q) :
    Calls Tryz.prog 59 #[.slice A n c] w (Zik w (Zg4 Q)) := by
 have hmx : Tryz.prog.follows .mixedOrders = true := by kernel_rfl
 have hne : (40 : TypeId) ≠ 45 := by decide
 have hQl := Za h.1
 obtain ⟨W0, hW0, hB0, q0, s0⟩ := Za8 w 45 #[.bool false, .slice none 0 0, .bool false, .slice none 0 0]
 replace h := h.below hB0
 go_enter Tryz.func59, Tryz.ntmps59
 go_wp2_with fail
 refine (Zht A n c n Q W0 h (by omega) hm hn0 (by omega)).mono ?_
 rintro e w1 ⟨v, L, rfl, hb1, hMO, hLq⟩
 have hLl : L.length = n := by rw [<- hQl.out, <- hLq, List.length_map]
 obtain ⟨go, cap, rfl, hc1, hc2, hgo, hM, hgs⟩ := hMO.mat hne (fun e => by rw [e] at hLl; simp at hLl; omega)
 rw [hLl] at hc1 ⊢
 replace hLl := Za hLl
 have hok1 := Za (Zf0 (Zce (by decide : 190 <= 200)) (Zce (by decide : 190 <= 200)) n 0 0 Q hok)
 have hfin : Hid (BdR (pw 190) (pw 190) n (Zs n 0 0 Q false).1) := Za (Zgz n 0 0 Q false hok)
 clear hMO h hok
 unfold maxLen at hc2
 go_wp2_with fail
 refine (Zgg go n cap L n n w1 hM hLl.out hn0 (by omega) hc1 (by unfold maxLen; exact hc2) (Nat.le_refl _) (by omega) (by rw [hLq]; exact hok1.out)).mono ?_
 rw [hLq]
 rintro e w2 ⟨L2, rfl, hl2, hg2, hq2, hM2, hK2⟩
 obtain ⟨FIN, hFIN⟩ : ∃ X, Zs n 0 0 Q false = X := ⟨_, rfl⟩
 obtain ⟨E, rank, neg⟩ := FIN
 rw [hFIN] at hq2 hfin ⊢
 simp only at hq2 hfin ⊢
 clear hM
 have hgG : ∀ k, (k = go \/ k ∈ L.map RF.g) -> W0.heap.size <= k := fun k hk => by
  rcases hk with rfl | hk
  ·exact hgo
  ·obtain ⟨r, hr, rfl⟩ := List.mem_map.1 hk
   exact hgs r hr
 have hB2 : Below W0.heap.size W0 w2 := hb1.trans (hK2.to_below hgG hb1.size)
 have hBw2 := hB0.trans (hB2.mono hB0.size)
 replace q0 := Zc hB2 q0
 clear hK2 hgG hgs hg2 hb1 hW0
 have hdet : Hid (Zg4 Q = if rank < n then 0 else sgB neg * Zab n (fun i => Zl E i i)) := Za (by unfold Zg4; rw [hQl.out, hFIN])
 replace hFIN := Za hFIN
 have sw : w.heap.size < w2.heap.size := by have := hB2.size; omega
 replace q0 := Za q0
 replace hM2 := Za hM2
 go_wp2_with fail
 refine (Zgv 1 w2 (by decide) (by decide)).mono ?_
 rintro e w3 ⟨hb3, n1, A1, k1, c1, m1, B1, j1, d1, rfl, hf3⟩
 obtain ⟨gd, hgd⟩ : ∃ g, w3.heap.size = g := ⟨_, rfl⟩
 obtain ⟨V, hV, hBV, qv, kW, kB, sV⟩ := Zn 45 #[.bool n1, .slice A1 k1 c1, .bool m1, .slice B1 j1 d1] hb3 hb3.size
 have hf4 : Fr V n1 A1 k1 c1 m1 B1 j1 d1 1 := Fr.keep (by simpa using hf3) kW
 rw [hgd] at qv
 have hgd2 : w2.heap.size <= gd := by rw [<- hgd]; exact hb3.size
 clear kW kB hf3
 by_cases hr : rank < n
 case pos =>
  have t1 : decide ((rank : Int) < (n : Int)) = true := decide_eq_true (by omega)
  have t1' : decide (rank < n) = true := decide_eq_true hr
  have hd0 : Hid (Zg4 Q = 0) := Za (by rw [hdet.out, if_pos hr])
  clear hfin hdet
  replace hr := Za hr
  go_wp2_with fail
  (try rw [hV])
  refine (Zgv 0 V (by decide) (by decide)).mono ?_
  rintro e w4 ⟨hb4, n2, A2, k2, c2, m2, B2, j2, d2, rfl, hf5⟩
  have hB4 := hBw2.trans ((hBV.trans (hb4.mono hBV.size)).mono hBw2.size)
  have q4 := q0.out.below (hBV.trans (hb4.mono hBV.size)) sw
  obtain ⟨x0, x1, x2, x3, x4, x5, x6, x7⟩ := q4.four
  go_wp2_with fail
  obtain ⟨W7, hW7, hB7, q3, kW, -, s7⟩ := Zx n2 A2 k2 c2 m2 B2 j2 d2 hB4 (Nat.le_refl _) q4
  (try rw [hW7])
  obtain ⟨r0, r1, r2, r3, -⟩ := q3.four
  refine bodyPost_ret (v := .agg #[.bool n2, .slice A2 k2 c2, .bool m2, .slice B2 j2 d2]) (by simp [results, Tryz.results59, go_sem, r0, r1, r2, r3]) rfl ?_
  have hf6 : Fr w4 n2 A2 k2 c2 m2 B2 j2 d2 (Zg4 Q) := by rw [hd0.out]; simpa using hf5
  exact ⟨hB7, _, _, _, _, _, _, _, _, rfl, kW _ _ _ _ _ hf6.1, kW _ _ _ _ _ hf6.2⟩
 have t1 : decide ((rank : Int) < (n : Int)) = false := decide_eq_false (by omega)
 have t1' : decide (rank < n) = false := decide_eq_false hr
 have hrank : rank <= n := by
  have h1 := Zhp n 0 0 Q false (Nat.zero_le _)
  rw [hFIN.out, hQl.out] at h1
  exact h1
 obtain rfl : rank = n := by omega
 have hE0 : ∀ i, SmN 190 190 (Zl E i i) := fun i => ⟨(hfin.out.2 i i).1, (hfin.out.2 i i).2⟩
 replace hE0 := Za hE0
 have hEl : Hid (E.length = rank) := Za (by rw [<- hq2, List.length_map]; exact hl2)
 have hdet2 : Hid (Zg4 Q = sgB neg * Zab rank (fun i => Zl E i i)) := Za (by rw [hdet.out, if_neg hr])
 replace hr := Za hr
 clear hdet
 have hBV3 : Below w2.heap.size w2 V := hBV
 replace hf4 := Za hf4
 replace qv := Za qv
 go_wp2_with fail
 (try rw [hV])
 clear hV
 go_loopg [7] rank (fun k iv wr => ∃ (i : Nat) (xn : Bool) (xA : Option Addr) (xk xc : Nat) (xm : Bool) (xB : Option Addr) (xj xd : Nat), i + k = rank /\ iv = .int .i64 i /\ Blk wr gd 45 #[.bool xn, .slice xA xk xc, .bool xm, .slice xB xj xd] /\ Fr wr xn xA xk xc xm xB xj xd (Zab i (fun t => Zl E t t)) /\ Below w2.heap.size w2 wr)
 case atStart => exact ⟨0, n1, A1, k1, c1, m1, B1, j1, d1, by omega, rfl, qv.out, hf4.out, hBV3⟩
 case round =>
  clear qv hf4
  obtain ⟨i, xn, xA, xk, xc, xm, xB, xj, xd, hik, rfl, qd, hfx, hbr⟩ := hrel
  cases gk with
  | zero =>
   obtain rfl : i = rank := by omega
   have t2 : decide ((i : Int) < (i : Int)) = false := by simp
   have hBr := hBw2.trans (hbr.mono hBw2.size)
   have q4 := q0.out.below hbr sw
   have hgne : gd ≠ w.heap.size := by omega
   obtain ⟨y0, y1, y2, y3, y4, y5, y6, y7⟩ := qd.four
   cases neg with
   | false =>
    have hd1 : Hid (Fr wr xn xA xk xc xm xB xj xd (Zg4 Q)) := Za (by
     rw [hdet2.out]
     have : sgB false * Zab i (fun t => Zl E t t) = Zab i (fun t => Zl E t t) := by simp only [sgB]; simp
     rw [this]; exact hfx)
    obtain ⟨x0, x1, x2, x3, x4, x5, x6, x7⟩ := q4.four
    go_wp2_with fail
    obtain ⟨W7, hW7, hB7, q3, kW, -, s7⟩ := Zx xn xA xk xc xm xB xj xd hBr (Nat.le_refl _) q4
    (try rw [hW7])
    obtain ⟨r0, r1, r2, r3, -⟩ := q3.four
    refine bodyPost_ret (v := .agg #[.bool xn, .slice xA xk xc, .bool xm, .slice xB xj xd]) (by simp [results, Tryz.results59, go_sem, r0, r1, r2, r3]) rfl ?_
    exact ⟨hB7, _, _, _, _, _, _, _, _, rfl, kW _ _ _ _ _ hd1.out.1, kW _ _ _ _ _ hd1.out.2⟩
   | true =>
    replace qd := Za qd
    replace q4 := Za q4
    go_wp2_with fail
    refine (Ztd xn xm xA xB xk xc xj xd _ wr hfx).mono ?_
    rintro e w4 ⟨hb4, n2, A2, k2, c2, m2, B2, j2, d2, rfl, hf5⟩
    have hd1 : Hid (Fr w4 n2 A2 k2 c2 m2 B2 j2 d2 (Zg4 Q)) := Za (by
     rw [hdet2.out]
     have : sgB true * Zab i (fun t => Zl E t t) = - Zab i (fun t => Zl E t t) := by simp only [sgB]; simp; grind
     rw [this]; exact hf5)
    have q5 := Zc hb4 q4.out
    have qd5 := Zc hb4 qd.out
    have hB4 := hBr.trans (hb4.mono hBr.size)
    obtain ⟨x0, x1, x2, x3, x4, x5, x6, x7⟩ := qd5.four
    obtain ⟨W6, hW6, hB6, q6, kW6, -, s6⟩ := Zx n2 A2 k2 c2 m2 B2 j2 d2 hB4 (by omega) qd5
    have q7 : Blk W6 w.heap.size 45 #[.bool false, .slice none 0 0, .bool false, .slice none 0 0] := by
     rw [<- hW6]
     exact (((q5.far (Ne.symm hgne) _).far (Ne.symm hgne) _).far (Ne.symm hgne) _).far (Ne.symm hgne) _
    have hd2 := Za (Fr.keep hd1.out kW6)
    clear y0 y1 y2 y3 y4 y5 y6 y7 kW6
    obtain ⟨y0, y1, y2, y3, y4, y5, y6, y7⟩ := q6.four
    obtain ⟨v0, v1, v2, v3, v4, v5, v6, v7⟩ := q7.four
    go_wp2_with fail
    (try rw [hW6])
    go_wp2_with fail
    obtain ⟨W7, hW7, hB7, q3, kW, -, s7⟩ := Zx n2 A2 k2 c2 m2 B2 j2 d2 hB6 (Nat.le_refl _) q7
    (try rw [hW7])
    obtain ⟨r0, r1, r2, r3, -⟩ := q3.four
    refine bodyPost_ret (v := .agg #[.bool n2, .slice A2 k2 c2, .bool m2, .slice B2 j2 d2]) (by simp [results, Tryz.results59, go_sem, r0, r1, r2, r3]) rfl ?_
    exact ⟨hB7, _, _, _, _, _, _, _, _, rfl, kW _ _ _ _ _ hd2.out.1, kW _ _ _ _ _ hd2.out.2⟩
  | succ j =>
   obtain rfl : j = rank - (i + 1) := by omega
   have hin : i < rank := by omega
   have t2 : decide ((i : Int) < (rank : Int)) = true := decide_eq_true (by omega)
   have bi : (i : Int) < (rank : Int) := by omega
   have hM3 := hM2.out.below hbr
   obtain ⟨x, hx⟩ := Zat (L := L2) (i := i) (by omega)
   have hlx : x.q.length = rank := by
    have := hfin.out.1 i (by rw [hEl.out]; exact hin)
    rw [<- hq2, List.getElem?_map, hx] at this
    exact this
   obtain ⟨cx, -⟩ := hM3.cell hx
   obtain ⟨fx, kx1, kx2⟩ := hM3.row hx
   rw [hlx] at cx kx1
   unfold maxLen at kx2
   obtain ⟨n5, A5, k5, c5, m5, B5, j5, d5, p0, p1, p2, p3, hf1⟩ := fx.at_ (i := i) (by rw [hlx]; exact hin)
   have hex : Zl E i i = x.q[i]?.getD 0 := by rw [<- hq2, Zew, Zel hx]
   rw [<- hex] at hf1
   obtain ⟨y0, y1, y2, y3, y4, y5, y6, y7⟩ := qd.four
   have sc1 : Sm (Zab i (fun t => Zl E t t)) := (Zlo hE0.out i).sm (by omega) (by omega)
   have sc2 := (hE0.out i).sm (by decide) (by decide)
   clear fx hM3
   replace qd := Za qd
   go_wp2_with fail
   have hSv9 : Hid (∀ wx, Below wr.heap.size wr wx -> wx.cell? ⟨gd, 0, none⟩ = some (.bool xn) /\ wx.cell? ⟨gd, 1, none⟩ = some (.slice xA xk xc) /\ wx.cell? ⟨gd, 2, none⟩ = some (.bool xm) /\ wx.cell? ⟨gd, 3, none⟩ = some (.slice xB xj xd) /\ wx.cell? ⟨go, i, none⟩ = some (.slice (some ⟨x.g, 0, none⟩) rank x.c) /\ wx.cell? ⟨x.g, i * 4, none⟩ = some (.bool n5) /\ wx.cell? ⟨x.g, i * 4 + 1, none⟩ = some (.slice A5 k5 c5) /\ wx.cell? ⟨x.g, i * 4 + 2, none⟩ = some (.bool m5) /\ wx.cell? ⟨x.g, i * 4 + 3, none⟩ = some (.slice B5 j5 d5)) := Za (fun wx hbx => ⟨Zb hbx y0, Zb hbx y1, Zb hbx y2, Zb hbx y3, Zb hbx cx, Zb hbx p0, Zb hbx p1, Zb hbx p2, Zb hbx p3⟩)
   have hr9 : Below wr.heap.size wr wr.drew := Zf (Below.refl _ _) 1
   refine wp_heldS [12] hmx hSv9 hr9 (fun hxs9 => ?_)
   refine Zij 8 [0, 1, 2, 3, 4, 5, 6, 7] rfl (by kernel_rfl) (hSv9.out _ hr9) ?_
   iterate 8 (refine tk1 (v := ?_) rfl (Or.inl ⟨by kernel_rfl, ?_⟩) ?_; rotate_left; (· intro W2 hSw; (try dsimp only at hSw); go_simp; try with_reducible rfl); try simp only [Act.put, Zfg, Zfj, Zfc, putG_a, putG_s, putG_z])
   refine tk0 ?_
   refine Ze (i := 8) rfl (by kernel_rfl) (fun K hK => ?_)
   go_simp
   refine (Ziw xn xm n5 m5 xA xB A5 B5 xk xc xj xd k5 c5 j5 d5 _ _ wr.drew (hfx.below hr9) (hf1.below hr9) sc1 sc2).mono ?_
   rintro e w5 ⟨hb5, n6, A6, k6, c6, m6, B6, j6, d6, rfl, hf6⟩
   have hr10 := hr9.trans (hb5.mono hr9.size)
   refine hK.out _ _ (fun _ => hSv9.out _ hr10) ?_
   clear hK K
   try simp only [Act.put, Zfg, Zfj, Zfc]
   refine Zfh 3 [9, 10, 11] rfl (by kernel_rfl) (hSv9.out _ hr10) ?_
   iterate 3 (refine tk1 (v := ?_) rfl (Or.inl ⟨by kernel_rfl, ?_⟩) ?_; rotate_left; (· intro W2 _; go_simp; try with_reducible rfl); try simp only [Act.put, Zfg, Zfj, Zfc, putG_a, putG_s, putG_z])
   refine tk0 ?_
   have hb5' : Below wr.heap.size wr w5 := Zq hb5
   have hb6 := hbr.trans (hb5'.mono hbr.size)
   have qd5 := Zc hb5' qd.out
   obtain ⟨W6, hW6, hB6, q6, kW6, -, s6⟩ := Zx n6 A6 k6 c6 m6 B6 j6 d6 hb6 hgd2 qd5
   have hf7 := Za (Fr.keep hf6 kW6)
   obtain ⟨g0, g1, g2, g3, f0, f1, f2, f3⟩ := qd5.four
   refine Zt (i := 12) rfl (by kernel_rfl) (by kernel_rfl) (fun K hK => ?_)
   go_simp
   (try rw [hW6])
   refine hK.out _ _ ?_
   clear hK K
   try simp only [Act.put, Zfg, Zfj, Zfc]
   refine Zk (by kernel_rfl) ?_ _
   refine OnlyNormal.normal ?_
   clear hW6 g0 g1 g2 g3 f0 f1 f2 f3 hb5 hb5' hr9 hr10 hSv9 hxs9 y0 y1 y2 y3 y4 y5 y6 y7 p0 p1 p2 p3 cx kW6 hf6 hf1 hfx
   go_wp2_with fail
   go_roundg (rank - (i + 1))
   case measure => omega
   case rel => exact ⟨i + 1, n6, A6, k6, c6, m6, B6, j6, d6, by omega, by go_num, q6, by rw [Zab]; exact hf7.out, hB6⟩
end Go.Proofs.YtigdclhagmnopaaGreat
