/- Reference of centroid: second. -/
import Derived.Deep.CutBlock
import Derived.Deep.DeepCutAuto
import Derived.Test.YtkippclhbkjbmaaGreatZh37
import Derived.Test.YtkippclhbkjbmaaGreatZh34
set_option linter.unusedSimpArgs false
set_option linter.unusedVariables false

namespace Go.Proofs.YtkippclhbkjbmaaGreat
open Go.RowKit
attribute [local go_sem] add_lit

/-- The two operations that may come up. -/
theorem wpAnyL_two {P : Program} {ops : Array Oper} {Q : Exit → Act → World → Prop} {md : Region.Mode} {L : List Nat} {S : World → Prop} {i j : Nat} {oi oj : Oper} {fuel : Nat} {listed : Array Bool} {a : Act} {w : World} (hi : ops[i]? = some oi) (hj : ops[j]? = some oj) (hr : Region.ready md ops listed = [i, j])
    (h1 : ∀ K' : Act → World → Prop, Shut (∀ a w, (noneOf L (listed.setIfInBounds i true) = true → S w) → wpAnyL P md ops Q L S fuel (listed.setIfInBounds i true) a w → K' a w) → if Region.wanted oi (yielded ops a.tmps) = true then Oper.wp P oi a w K' Q else K' (a.put oi.dst undef) w)
    (h2 : ∀ K' : Act → World → Prop, Shut (∀ a w, (noneOf L (listed.setIfInBounds j true) = true → S w) → wpAnyL P md ops Q L S fuel (listed.setIfInBounds j true) a w → K' a w) → if Region.wanted oj (yielded ops a.tmps) = true then Oper.wp P oj a w K' Q else K' (a.put oj.dst undef) w) :
    wpAnyL P md ops Q L S (fuel + 1) listed a w :=
  ⟨(fun h0 => by rw [h0] at hr; cases hr), fun k hk => by
    rw [hr] at hk
    rcases List.mem_cons.1 hk with e | e
    · subst e; exact wpOp_step hi (fun K' hK => h1 K' (fun a w hS hW => hK a w ⟨hS, hW⟩))
    · rw [List.mem_singleton] at e; subst e; exact wpOp_step hj (fun K' hK => h2 K' (fun a w hS hW => hK a w ⟨hS, hW⟩))⟩

/-- A variable that holds a fraction. -/
def FracV (w : World) (g : Nat) (r : Rat) : Prop :=
  ∃ na A n c nb B m d, Blk w g 32 #[.bool na, .slice A n c, .bool nb, .slice B m d] ∧ Fr w na A n c nb B m d r
theorem FracV.below {w w' : World} {g : Nat} {r : Rat} (h : FracV w g r) (hb : Below w.heap.size w w') : FracV w' g r := by
  obtain ⟨na, A, n, c, nb, B, m, d, h1, h2⟩ := h
  exact ⟨na, A, n, c, nb, B, m, d, keep_blk hb h1, h2.below hb⟩
theorem FracV.lt {w : World} {g : Nat} {r : Rat} (h : FracV w g r) : g < w.heap.size := by
  obtain ⟨na, A, n, c, nb, B, m, d, h1, h2⟩ := h
  exact (Array.getElem?_eq_some_iff.1 h1).1
theorem FracV.keep {w W : World} {g : Nat} {r : Rat} (h : FracV w g r) (hk : ∀ na A n c z, Wd w na A n c z → Wd W na A n c z) (hb : ∀ cs, Blk w g 32 cs → Blk W g 32 cs) : FracV W g r := by
  obtain ⟨na, A, n, c, nb, B, m, d, h1, h2⟩ := h
  exact ⟨na, A, n, c, nb, B, m, d, hb _ h1, h2.keep hk⟩
theorem i64_pw {s : Int} (h0 : 0 < s) (h1 : s ≤ 9223372036854775807) : s.natAbs < pw 2 := by
  refine Nat.lt_of_le_of_lt (m := 9223372036854775807) (by omega) ?_
  rw [pw_succ, pw_succ, pw_zero]; decide
theorem pw_gt_one_any {k : Nat} (h : 1 ≤ k) : 1 < pw k := Nat.lt_of_lt_of_le pw_gt_one (pw_le h)
theorem plc_pw {row : Bool} {W H : Int} {ps l : List Int} {n k : Nat} (hf : 1 ≤ W ∧ W ≤ 100 ∧ 1 ≤ H ∧ H ≤ 100 ∧ (n : Int) = W * H) (h : 0 ≤ l[k]?.getD 0 ∧ l[k]?.getD 0 < n ∧ -8589934592 ≤ pix ps (l[k]?.getD 0) ∧ pix ps (l[k]?.getD 0) ≤ 8589934592) : (plc row W (l[k]?.getD 0)).natAbs < pw 1 := by
  have h3 := plc_bound (row := row) hf h.1 h.2.1
  refine Nat.lt_of_le_of_lt (m := 99) (by omega) ?_
  rw [pw_succ, pw_zero]; decide
theorem pix_pw {ps l : List Int} {n k : Nat} (h : 0 ≤ l[k]?.getD 0 ∧ l[k]?.getD 0 < n ∧ -8589934592 ≤ pix ps (l[k]?.getD 0) ∧ pix ps (l[k]?.getD 0) ≤ 8589934592) : (pix ps (l[k]?.getD 0)).natAbs < pw 2 := by
  refine Nat.lt_of_le_of_lt (m := 8589934592) (by omega) ?_
  rw [pw_succ, pw_succ, pw_zero]; decide
theorem FracV.alloc {w : World} {g : Nat} {r : Rat} (h : FracV w g r) (o : Obj) : FracV (w.alloc o) g r := h.below ((Below.refl _ _).alloc (Nat.le_refl _) _)


set_option maxRecDepth 100000 in
set_option maxHeartbeats 4000000 in
theorem second_ok (W H : Int) (A : Option Addr) (n c : Nat) (B : Option Addr) (m d : Nat) (ps l : List Int) (ra rb : Bool) (s : Int) (nax nbx nay nby : Bool) (Ax Bx Ay By : Option Addr) (nx cx mx dx ny cy my dy : Nat) (X Y : Rat) (w : World) (hp : LimI w A n c ps) (hl : LimI w B m d l) (hf : 1 ≤ W ∧ W ≤ 100 ∧ 1 ≤ H ∧ H ≤ 100 ∧ (n : Int) = W * H) (h8 : m ≤ 40) (hr : Rng ps l n m) (hX : Fr w nax Ax nx cx nbx Bx mx dx X) (hY : Fr w nay Ay ny cy nby By my dy Y) (sX : SmN 2 2 X) (sY : SmN 2 2 Y) (s0 : 0 < s) (s1 : s ≤ 9223372036854775807) :
    Calls Tryz.prog 36 #[.agg #[.int .i64 W, .int .i64 H, .slice A n c], .slice B m d, .bool ra, .bool rb, .agg #[.bool nax, .slice Ax nx cx, .bool nbx, .slice Bx mx dx], .agg #[.bool nay, .slice Ay ny cy, .bool nby, .slice By my dy], .int .i64 s] w (FracW w (secK (plc ra W) (plc rb W) (pix ps) X Y l m / (s : Rat))) := by
  have hmx : Tryz.prog.follows .mixedOrders = true := by kernel_rfl
  have h9 : n ≤ 10000 := by
    have : W * H ≤ 100 * 100 := Int.mul_le_mul hf.2.1 hf.2.2.2.1 (by omega) (by omega)
    omega
  replace hf := hide hf
  replace hr := hide hr
  obtain ⟨W0, hW0, hB, ⟨q0, qx, qy, q9⟩, sz⟩ := alloc4 w 24 #[.int .i64 W, .int .i64 H, .slice A n c] 32 #[.bool nax, .slice Ax nx cx, .bool nbx, .slice Bx mx dx] 32 #[.bool nay, .slice Ay ny cy, .bool nby, .slice By my dy] 32 #[.bool false, .slice none 0 0, .bool false, .slice none 0 0]
  replace hp := hide (hp.below hB)
  replace hl := hide (hl.below hB)
  replace hX := hide (hX.below hB)
  replace hY := hide (hY.below hB)
  go_enter Tryz.func36, Tryz.ntmps36
  go_wp2_with fail
  refine (rWhole_ok 0 W0 (by omega) (by omega)).mono ?_
  rintro e w1 ⟨hb1, na1, A1, n1, c1, nb1, B1, m1, d1, rfl, hN0⟩
  clear hW0
  have s1w := hb1.size
  obtain ⟨w2, hw2, hB2, qn, hk, hk2, sz2⟩ := new_obj 32 #[.bool false, .slice none 0 0, .bool false, .slice none 0 0] hb1 hb1.size
  replace hN0 := hide (hN0.keep hk)
  obtain ⟨y0, y1, y2, y3, z0, z1, z2, z3⟩ := qn.four
  go_wp2_with fail
  obtain ⟨w3, hw3, hbr, qn, hst⟩ := set_frac na1 A1 n1 c1 nb1 B1 m1 d1 hB2 hb1.size qn
  rw [hw3]
  have hN : FracV w3 w1.heap.size (secK (plc ra W) (plc rb W) (pix ps) X Y l 0) := ⟨_, _, _, _, _, _, _, _, qn, hN0.out.keep hst.1⟩
  clear hN0 hw3 hw2 hk hk2 y0 y1 y2 y3 z0 z1 z2 z3 qn hst hB2 hb1
  have hg15 : W0.heap.size ≤ w1.heap.size := s1w
  generalize w1.heap.size = g15 at *
  go_loopw [16] (fun i wr => ∃ k : Nat, k ≤ m ∧ i = .int .i64 k ∧ Below W0.heap.size W0 wr ∧ FracV wr g15 (secK (plc ra W) (plc rb W) (pix ps) X Y l k)) (fun i _ => m - (intOf i).toNat)
  case atStart => exact ⟨0, by omega, rfl, hbr, hN⟩
  case round =>
    clear hbr hN
    obtain ⟨k, h1, rfl, hbr, hN⟩ := hrel
    replace hN := hide hN
    by_cases hk : k < m
    case neg =>
      obtain rfl : k = m := by omega
      have htk : decide ((k : Int) < (k : Int)) = false := by simp
      have sR := (secK_small (k := k) (u := plc ra W) (v := plc rb W) (p := pix ps) l sX sY (fun j hj => plc_pw hf.out (hr.out j (by omega))) (fun j hj => plc_pw hf.out (hr.out j (by omega))) (fun j hj => pix_pw (hr.out j (by omega)))).sm (by omega) (by omega)
      have sS : Sm (s : Rat) := ⟨Nat.lt_of_lt_of_le (m := pw 2) (by simp only [Rat.num_intCast]; exact i64_pw s0 s1) (pw_le (by omega)), by rw [Rat.den_intCast]; exact pw_gt_one_any (by omega)⟩
      have pS : 0 < (s : Rat).num := by simpa using s0
      have hSr : secK (plc ra W) (plc rb W) (pix ps) X Y l k = secK (plc ra W) (plc rb W) (pix ps) X Y l k := rfl
      generalize secK (plc ra W) (plc rb W) (pix ps) X Y l k = R at *
      clear hSr
      obtain ⟨na4, A4, n4, c4, nb4, B4, m4, d4, qn, hNf⟩ := hN.out
      replace hNf := hide hNf
      have hSv : ∀ wx, Below wr.heap.size wr wx → wx.cell? ⟨g15, 0, none⟩ = some (.bool na4) ∧ wx.cell? ⟨g15, 1, none⟩ = some (.slice A4 n4 c4) ∧ wx.cell? ⟨g15, 2, none⟩ = some (.bool nb4) ∧ wx.cell? ⟨g15, 3, none⟩ = some (.slice B4 m4 d4) := fun wx hbx => by
        obtain ⟨e0, e1, e2, e3, -⟩ := (keep_blk hbx qn).four
        exact ⟨e0, e1, e2, e3⟩
      clear hN q0 qx qy hp hl hX hY hf hr
      go_wp2_with fail
      refine wp_held [] (fun wx => wx.cell? ⟨g15, 0, none⟩ = some (.bool na4) ∧ wx.cell? ⟨g15, 1, none⟩ = some (.slice A4 n4 c4) ∧ wx.cell? ⟨g15, 2, none⟩ = some (.bool nb4) ∧ wx.cell? ⟨g15, 3, none⟩ = some (.slice B4 m4 d4)) hmx (hSv _ (below_dn (Below.refl _ _) 1)) (fun _ => ?_)
      have hb6 : Below wr.heap.size wr wr.drew := below_dn (Below.refl _ _) 1
      refine wpAnyL_take (i := 0) (v := ?v15) rfl (by kernel_rfl) (by kernel_rfl) (by kernel_rfl) (by kernel_rfl) (by kernel_rfl) (Or.inl ⟨by rfl, ?hy15⟩) (hSv _ hb6) ?rest15
      case hy15 => (intro W2 hSw; (try dsimp only at hSw); go_simp; try with_reducible rfl)
      try simp only [Act.put, List.setIfInBounds_toArray, List.set_cons_zero, List.set_cons_succ]
      refine wpAnyL_take (i := 1) (v := ?v16) rfl (by kernel_rfl) (by kernel_rfl) (by kernel_rfl) (by kernel_rfl) (by kernel_rfl) (Or.inl ⟨by rfl, ?hy16⟩) (hSv _ hb6) ?rest16
      case hy16 => (intro W2 hSw; (try dsimp only at hSw); go_simp; try with_reducible rfl)
      try simp only [Act.put, List.setIfInBounds_toArray, List.set_cons_zero, List.set_cons_succ]
      refine wpAnyL_two (i := 2) (j := 7) rfl rfl (by kernel_rfl) (fun K hK => ?_) (fun K hK => ?_)
      · go_simp
        refine (rWhole_ok _ _ (by omega) (by omega)).mono ?_
        rintro e wb ⟨hbb, na1, A1, n1, c1, nb1, B1, m1, d1, rfl, hU⟩
        replace hb6 := hb6.trans (hbb.mono hb6.size)
        replace hU := hide hU
        refine hK.out _ _ (fun _ => hSv _ hb6) ?_
        clear hK K
        try simp only [Act.put, List.setIfInBounds_toArray, List.set_cons_zero, List.set_cons_succ]
        refine wpAnyL_two (i := 3) (j := 7) rfl rfl (by kernel_rfl) (fun K hK => ?_) (fun K hK => ?_)
        · have hN6 := hNf.out.below hb6
          go_simp
          refine (rfDiv_ok _ _ _ _ _ _ _ _ _ _ _ _ _ _ _ _ _ _ _ hN6 hU.out sR sS pS).mono ?_
          rintro e wd ⟨hbd, na2, A2, n2, c2, nb2, B2, m2, d2, rfl, hD⟩
          clear hN6 hU
          replace hb6 := hb6.trans (hbd.mono hb6.size)
          replace hD := hide hD
          refine hK.out _ _ (fun _ => hSv _ hb6) ?_
          clear hK K
          try simp only [Act.put, List.setIfInBounds_toArray, List.set_cons_zero, List.set_cons_succ]
          refine wpAnyL_take (i := 4) (v := ?v17) rfl (by kernel_rfl) (by kernel_rfl) (by kernel_rfl) (by kernel_rfl) (by kernel_rfl) (Or.inl ⟨by rfl, ?hy17⟩) (hSv _ hb6) ?rest17
          case hy17 => (intro W2 hSw; (try dsimp only at hSw); go_simp; try with_reducible rfl)
          try simp only [Act.put, List.setIfInBounds_toArray, List.set_cons_zero, List.set_cons_succ]
          refine wpAnyL_take (i := 5) (v := ?v18) rfl (by kernel_rfl) (by kernel_rfl) (by kernel_rfl) (by kernel_rfl) (by kernel_rfl) (Or.inl ⟨by rfl, ?hy18⟩) (hSv _ hb6) ?rest18
          case hy18 => (intro W2 hSw; (try dsimp only at hSw); go_simp; try with_reducible rfl)
          try simp only [Act.put, List.setIfInBounds_toArray, List.set_cons_zero, List.set_cons_succ]
          refine wpAnyL_take (i := 6) (v := ?v19) rfl (by kernel_rfl) (by kernel_rfl) (by kernel_rfl) (by kernel_rfl) (by kernel_rfl) (Or.inl ⟨by rfl, ?hy19⟩) (hSv _ hb6) ?rest19
          case hy19 => (intro W2 hSw; (try dsimp only at hSw); go_simp; try with_reducible rfl)
          try simp only [Act.put, List.setIfInBounds_toArray, List.set_cons_zero, List.set_cons_succ]
          refine wpAnyL_one (i := 7) rfl (by kernel_rfl) (fun K hK => ?_)
          go_simp
          obtain ⟨V, hVe, hBV, hV, hk1, hk2, sV⟩ := new_obj 32 #[.bool false, .slice none 0 0, .bool false, .slice none 0 0] hb6 hb6.size
          have hgV := hb6.size
          rw [hVe]
          replace hD := hide (hD.out.keep hk1)
          replace hb6 := hBV
          clear hVe hBV hk1 hk2 sV
          refine hK.out _ _ (fun _ => hSv _ hb6) ?_
          clear hK K
          try simp only [Act.put, List.setIfInBounds_toArray, List.set_cons_zero, List.set_cons_succ]
          obtain ⟨y0, y1, y2, y3, z0, z1, z2, z3⟩ := hV.four
          refine wpAnyL_one (i := 8) rfl (by kernel_rfl) (fun K hK => ?_)
          go_simp
          obtain ⟨V2, hV2, hB2, q4, hst⟩ := set_frac na2 A2 n2 c2 nb2 B2 m2 d2 hb6 hgV hV
          rw [hV2]
          replace hD := hide (hD.out.keep hst.1)
          replace hb6 := hB2
          clear hV2 hB2 hst y0 y1 y2 y3 z0 z1 z2 z3
          refine hK.out _ _ (fun _ => hSv _ hb6) ?_
          clear hK K
          try simp only [Act.put, List.setIfInBounds_toArray, List.set_cons_zero, List.set_cons_succ]
          refine wpAnyL_take (i := 9) (v := ?v20) rfl (by kernel_rfl) (by kernel_rfl) (by kernel_rfl) (by kernel_rfl) (by kernel_rfl) (Or.inl ⟨by rfl, ?hy20⟩) (hSv _ hb6) ?rest20
          case hy20 => (intro W2 hSw; (try dsimp only at hSw); go_simp; try with_reducible rfl)
          try simp only [Act.put, List.setIfInBounds_toArray, List.set_cons_zero, List.set_cons_succ]
          refine wpAnyL_done (by kernel_rfl) ?_ _
          refine OnlyNormal.normal ?_
          try simp only [Act.put, List.setIfInBounds_toArray, List.set_cons_zero, List.set_cons_succ, List.getElem_toArray, List.getElem_cons_succ, List.getElem_cons_zero]
          obtain ⟨y0, y1, y2, y3, -⟩ := q4.four
          have q9 := keep_blk hb6 (keep_blk hbr q9)
          have hBf := hB.trans ((hbr.trans (hb6.mono hbr.size)).mono hB.size)
          obtain ⟨x0, x1, x2, x3, z0, z1, z2, z3⟩ := q9.four
          go_wp2_with fail
          obtain ⟨V3, hV3, hB5, q5, hst5⟩ := set_frac na2 A2 n2 c2 nb2 B2 m2 d2 hBf (by omega) q9
          rw [hV3]
          replace hD := hD.out.keep hst5.1
          obtain ⟨r0, r1, r2, r3, -⟩ := q5.four
          refine bodyPost_ret (v := .agg #[.bool na2, .slice A2 n2 c2, .bool nb2, .slice B2 m2 d2]) (by simp [results, Tryz.results36, go_sem, r0, r1, r2, r3]) rfl ?_
          exact ⟨hB5, _, _, _, _, _, _, _, _, rfl, hD⟩
        · go_simp
          obtain ⟨V, hVe, hBV, hV, hk1, hk2, sV⟩ := new_obj 32 #[.bool false, .slice none 0 0, .bool false, .slice none 0 0] hb6 hb6.size
          have hgV := hb6.size
          rw [hVe]
          replace hU := hide (hU.out.keep hk1)
          replace hb6 := hBV
          clear hVe hBV hk1 hk2 sV
          refine hK.out _ _ (fun _ => hSv _ hb6) ?_
          clear hK K
          try simp only [Act.put, List.setIfInBounds_toArray, List.set_cons_zero, List.set_cons_succ]
          refine wpAnyL_one (i := 3) rfl (by kernel_rfl) (fun K hK => ?_)
          have hN6 := hNf.out.below hb6
          go_simp
          refine (rfDiv_ok _ _ _ _ _ _ _ _ _ _ _ _ _ _ _ _ _ _ _ hN6 hU.out sR sS pS).mono ?_
          rintro e wd ⟨hbd, na2, A2, n2, c2, nb2, B2, m2, d2, rfl, hD⟩
          clear hN6 hU
          replace hb6 := hb6.trans (hbd.mono hb6.size)
          replace hD := hide hD
          replace hV := keep_blk hbd hV
          refine hK.out _ _ (fun _ => hSv _ hb6) ?_
          clear hK K
          try simp only [Act.put, List.setIfInBounds_toArray, List.set_cons_zero, List.set_cons_succ]
          refine wpAnyL_take (i := 4) (v := ?v21) rfl (by kernel_rfl) (by kernel_rfl) (by kernel_rfl) (by kernel_rfl) (by kernel_rfl) (Or.inl ⟨by rfl, ?hy21⟩) (hSv _ hb6) ?rest21
          case hy21 => (intro W2 hSw; (try dsimp only at hSw); go_simp; try with_reducible rfl)
          try simp only [Act.put, List.setIfInBounds_toArray, List.set_cons_zero, List.set_cons_succ]
          refine wpAnyL_take (i := 5) (v := ?v22) rfl (by kernel_rfl) (by kernel_rfl) (by kernel_rfl) (by kernel_rfl) (by kernel_rfl) (Or.inl ⟨by rfl, ?hy22⟩) (hSv _ hb6) ?rest22
          case hy22 => (intro W2 hSw; (try dsimp only at hSw); go_simp; try with_reducible rfl)
          try simp only [Act.put, List.setIfInBounds_toArray, List.set_cons_zero, List.set_cons_succ]
          refine wpAnyL_take (i := 6) (v := ?v23) rfl (by kernel_rfl) (by kernel_rfl) (by kernel_rfl) (by kernel_rfl) (by kernel_rfl) (Or.inl ⟨by rfl, ?hy23⟩) (hSv _ hb6) ?rest23
          case hy23 => (intro W2 hSw; (try dsimp only at hSw); go_simp; try with_reducible rfl)
          try simp only [Act.put, List.setIfInBounds_toArray, List.set_cons_zero, List.set_cons_succ]
          obtain ⟨y0, y1, y2, y3, z0, z1, z2, z3⟩ := hV.four
          refine wpAnyL_one (i := 8) rfl (by kernel_rfl) (fun K hK => ?_)
          go_simp
          obtain ⟨V2, hV2, hB2, q4, hst⟩ := set_frac na2 A2 n2 c2 nb2 B2 m2 d2 hb6 hgV hV
          rw [hV2]
          replace hD := hide (hD.out.keep hst.1)
          replace hb6 := hB2
          clear hV2 hB2 hst y0 y1 y2 y3 z0 z1 z2 z3
          refine hK.out _ _ (fun _ => hSv _ hb6) ?_
          clear hK K
          try simp only [Act.put, List.setIfInBounds_toArray, List.set_cons_zero, List.set_cons_succ]
          refine wpAnyL_take (i := 9) (v := ?v24) rfl (by kernel_rfl) (by kernel_rfl) (by kernel_rfl) (by kernel_rfl) (by kernel_rfl) (Or.inl ⟨by rfl, ?hy24⟩) (hSv _ hb6) ?rest24
          case hy24 => (intro W2 hSw; (try dsimp only at hSw); go_simp; try with_reducible rfl)
          try simp only [Act.put, List.setIfInBounds_toArray, List.set_cons_zero, List.set_cons_succ]
          refine wpAnyL_done (by kernel_rfl) ?_ _
          refine OnlyNormal.normal ?_
          try simp only [Act.put, List.setIfInBounds_toArray, List.set_cons_zero, List.set_cons_succ, List.getElem_toArray, List.getElem_cons_succ, List.getElem_cons_zero]
          obtain ⟨y0, y1, y2, y3, -⟩ := q4.four
          have q9 := keep_blk hb6 (keep_blk hbr q9)
          have hBf := hB.trans ((hbr.trans (hb6.mono hbr.size)).mono hB.size)
          obtain ⟨x0, x1, x2, x3, z0, z1, z2, z3⟩ := q9.four
          go_wp2_with fail
          obtain ⟨V3, hV3, hB5, q5, hst5⟩ := set_frac na2 A2 n2 c2 nb2 B2 m2 d2 hBf (by omega) q9
          rw [hV3]
          replace hD := hD.out.keep hst5.1
          obtain ⟨r0, r1, r2, r3, -⟩ := q5.four
          refine bodyPost_ret (v := .agg #[.bool na2, .slice A2 n2 c2, .bool nb2, .slice B2 m2 d2]) (by simp [results, Tryz.results36, go_sem, r0, r1, r2, r3]) rfl ?_
          exact ⟨hB5, _, _, _, _, _, _, _, _, rfl, hD⟩
      · go_simp
        obtain ⟨V, hVe, hBV, hV, hk1, hk2, sV⟩ := new_obj 32 #[.bool false, .slice none 0 0, .bool false, .slice none 0 0] (Below.refl wr.heap.size wr) (Nat.le_refl _)
        have hgV := Nat.le_refl wr.heap.size
        rw [hVe]
        replace hb6 : Below wr.heap.size wr V.drew := below_dn hBV 1
        replace hV : Blk V.drew wr.heap.size 32 #[.bool false, .slice none 0 0, .bool false, .slice none 0 0] := hV
        clear hVe hBV hk1 hk2 sV
        refine hK.out _ _ (fun _ => hSv _ hb6) ?_
        clear hK K
        try simp only [Act.put, List.setIfInBounds_toArray, List.set_cons_zero, List.set_cons_succ]
        refine wpAnyL_one (i := 2) rfl (by kernel_rfl) (fun K hK => ?_)
        go_simp
        refine (rWhole_ok _ _ (by omega) (by omega)).mono ?_
        rintro e wb ⟨hbb, na1, A1, n1, c1, nb1, B1, m1, d1, rfl, hU⟩
        replace hb6 := hb6.trans (hbb.mono hb6.size)
        replace hU := hide hU
        replace hV := keep_blk hbb hV
        refine hK.out _ _ (fun _ => hSv _ hb6) ?_
        clear hK K
        try simp only [Act.put, List.setIfInBounds_toArray, List.set_cons_zero, List.set_cons_succ]
        refine wpAnyL_one (i := 3) rfl (by kernel_rfl) (fun K hK => ?_)
        have hN6 := hNf.out.below hb6
        go_simp
        refine (rfDiv_ok _ _ _ _ _ _ _ _ _ _ _ _ _ _ _ _ _ _ _ hN6 hU.out sR sS pS).mono ?_
        rintro e wd ⟨hbd, na2, A2, n2, c2, nb2, B2, m2, d2, rfl, hD⟩
        clear hN6 hU
        replace hb6 := hb6.trans (hbd.mono hb6.size)
        replace hD := hide hD
        replace hV := keep_blk hbd hV
        refine hK.out _ _ (fun _ => hSv _ hb6) ?_
        clear hK K
        try simp only [Act.put, List.setIfInBounds_toArray, List.set_cons_zero, List.set_cons_succ]
        refine wpAnyL_take (i := 4) (v := ?v25) rfl (by kernel_rfl) (by kernel_rfl) (by kernel_rfl) (by kernel_rfl) (by kernel_rfl) (Or.inl ⟨by rfl, ?hy25⟩) (hSv _ hb6) ?rest25
        case hy25 => (intro W2 hSw; (try dsimp only at hSw); go_simp; try with_reducible rfl)
        try simp only [Act.put, List.setIfInBounds_toArray, List.set_cons_zero, List.set_cons_succ]
        refine wpAnyL_take (i := 5) (v := ?v26) rfl (by kernel_rfl) (by kernel_rfl) (by kernel_rfl) (by kernel_rfl) (by kernel_rfl) (Or.inl ⟨by rfl, ?hy26⟩) (hSv _ hb6) ?rest26
        case hy26 => (intro W2 hSw; (try dsimp only at hSw); go_simp; try with_reducible rfl)
        try simp only [Act.put, List.setIfInBounds_toArray, List.set_cons_zero, List.set_cons_succ]
        refine wpAnyL_take (i := 6) (v := ?v27) rfl (by kernel_rfl) (by kernel_rfl) (by kernel_rfl) (by kernel_rfl) (by kernel_rfl) (Or.inl ⟨by rfl, ?hy27⟩) (hSv _ hb6) ?rest27
        case hy27 => (intro W2 hSw; (try dsimp only at hSw); go_simp; try with_reducible rfl)
        try simp only [Act.put, List.setIfInBounds_toArray, List.set_cons_zero, List.set_cons_succ]
        obtain ⟨y0, y1, y2, y3, z0, z1, z2, z3⟩ := hV.four
        refine wpAnyL_one (i := 8) rfl (by kernel_rfl) (fun K hK => ?_)
        go_simp
        obtain ⟨V2, hV2, hB2, q4, hst⟩ := set_frac na2 A2 n2 c2 nb2 B2 m2 d2 hb6 hgV hV
        rw [hV2]
        replace hD := hide (hD.out.keep hst.1)
        replace hb6 := hB2
        clear hV2 hB2 hst y0 y1 y2 y3 z0 z1 z2 z3
        refine hK.out _ _ (fun _ => hSv _ hb6) ?_
        clear hK K
        try simp only [Act.put, List.setIfInBounds_toArray, List.set_cons_zero, List.set_cons_succ]
        refine wpAnyL_take (i := 9) (v := ?v28) rfl (by kernel_rfl) (by kernel_rfl) (by kernel_rfl) (by kernel_rfl) (by kernel_rfl) (Or.inl ⟨by rfl, ?hy28⟩) (hSv _ hb6) ?rest28
        case hy28 => (intro W2 hSw; (try dsimp only at hSw); go_simp; try with_reducible rfl)
        try simp only [Act.put, List.setIfInBounds_toArray, List.set_cons_zero, List.set_cons_succ]
        refine wpAnyL_done (by kernel_rfl) ?_ _
        refine OnlyNormal.normal ?_
        try simp only [Act.put, List.setIfInBounds_toArray, List.set_cons_zero, List.set_cons_succ, List.getElem_toArray, List.getElem_cons_succ, List.getElem_cons_zero]
        obtain ⟨y0, y1, y2, y3, -⟩ := q4.four
        have q9 := keep_blk hb6 (keep_blk hbr q9)
        have hBf := hB.trans ((hbr.trans (hb6.mono hbr.size)).mono hB.size)
        obtain ⟨x0, x1, x2, x3, z0, z1, z2, z3⟩ := q9.four
        go_wp2_with fail
        obtain ⟨V3, hV3, hB5, q5, hst5⟩ := set_frac na2 A2 n2 c2 nb2 B2 m2 d2 hBf (by omega) q9
        rw [hV3]
        replace hD := hD.out.keep hst5.1
        obtain ⟨r0, r1, r2, r3, -⟩ := q5.four
        refine bodyPost_ret (v := .agg #[.bool na2, .slice A2 n2 c2, .bool nb2, .slice B2 m2 d2]) (by simp [results, Tryz.results36, go_sem, r0, r1, r2, r3]) rfl ?_
        exact ⟨hB5, _, _, _, _, _, _, _, _, rfl, hD⟩
    have htk : decide ((k : Int) < (m : Int)) = true := by simp; omega
    obtain ⟨g, o, rfl, hc⟩ := hl.out.2.2.2.2 (by omega)
    have hck := hc k hk
    clear hc
    have hx4 := hr.out k hk
    obtain ⟨g', o', rfl, hc'⟩ := hp.out.2.2.2.2 (by omega)
    have hS : secK (plc ra W) (plc rb W) (pix ps) X Y l (k + 1) = secK (plc ra W) (plc rb W) (pix ps) X Y l k + ((plc ra W (l[k]?.getD 0) : Rat) - X) * ((plc rb W (l[k]?.getD 0) : Rat) - Y) * (pix ps (l[k]?.getD 0) : Rat) := rfl
    have hsmN : SmN (14 * k + 1) (14 * k + 1) (secK (plc ra W) (plc rb W) (pix ps) X Y l k) := secK_small l k sX sY (fun j hj => plc_pw hf.out (hr.out j (by omega))) (fun j hj => plc_pw hf.out (hr.out j (by omega))) (fun j hj => pix_pw (hr.out j (by omega)))
    have hsP := pix_pw (hr.out k hk)
    have hsA := plc_pw (row := ra) hf.out (hr.out k hk)
    have hsB := plc_pw (row := rb) hf.out (hr.out k hk)
    obtain ⟨j, hj⟩ : ∃ j : Nat, l[k]?.getD 0 = j := ⟨(l[k]?.getD 0).toNat, by omega⟩
    have hcj := hc' j (by omega)
    have hpj : pix ps (j : Int) = ps[j]?.getD 0 := by simp [pix]
    rw [hj] at hck hS hx4 hsP hsA hsB
    rw [← hpj] at hcj
    have hjn : j < n := by omega
    have hpa := plc_bound (row := ra) hf.out hx4.1 hx4.2.1
    have hpb := plc_bound (row := rb) hf.out hx4.1 hx4.2.1
    have hpl := hide (fun w => place_ok W H (some ⟨g', o', none⟩) n c (j : Int) ra w (by omega) (by omega) hf.out.1 hf.out.2.1)
    have hpl2 := hide (fun w => place_ok W H (some ⟨g', o', none⟩) n c (j : Int) rb w (by omega) (by omega) hf.out.1 hf.out.2.1)
    generalize pix ps (j : Int) = x at *
    generalize plc ra W (j : Int) = pa at *
    generalize plc rb W (j : Int) = pb at *
    generalize secK (plc ra W) (plc rb W) (pix ps) X Y l k = R at *
    replace hS := hide hS
    replace hx4 := hide hx4
    replace hj := hide hj
    replace hsmN := hide hsmN
    replace hsP := hide hsP
    have uA := (SmN.int hsA).sub sX
    have uB := (SmN.int hsB).sub sY
    have hsU := (SmN.int hsA).sm (by omega) (by omega)
    have hsV := (SmN.int hsB).sm (by omega) (by omega)
    have sX' := sX.sm (by omega) (by omega)
    have sY' := sY.sm (by omega) (by omega)
    clear hc' hpj
    have hSf : ∀ wx, Below W0.heap.size W0 wx → wx.cell? ⟨w.heap.size, 0, none⟩ = some (.int .i64 W) ∧ wx.cell? ⟨w.heap.size, 1, none⟩ = some (.int .i64 H) ∧ wx.cell? ⟨w.heap.size, 2, none⟩ = some (.slice (some ⟨g', o', none⟩) n c) ∧ wx.cell? ⟨g, o + k, none⟩ = some (.int .i64 j) := fun wx hbx => by
      have e0 := (keep_blk hbx q0).cell 0
      have e1 := (keep_blk hbx q0).cell 1
      have e2 := (keep_blk hbx q0).cell 2
      simp at e0 e1 e2
      exact ⟨e0, e1, e2, (hbx.cell (lt_of_cell hck)).trans hck⟩
    have hSx : ∀ wx, Below W0.heap.size W0 wx → wx.cell? ⟨w.heap.size + 1, 0, none⟩ = some (.bool nax) ∧ wx.cell? ⟨w.heap.size + 1, 1, none⟩ = some (.slice Ax nx cx) ∧ wx.cell? ⟨w.heap.size + 1, 2, none⟩ = some (.bool nbx) ∧ wx.cell? ⟨w.heap.size + 1, 3, none⟩ = some (.slice Bx mx dx) := fun wx hbx => by
      obtain ⟨e0, e1, e2, e3, -⟩ := (keep_blk hbx qx).four
      exact ⟨e0, e1, e2, e3⟩
    have hSy : ∀ wx, Below W0.heap.size W0 wx → wx.cell? ⟨w.heap.size + 1 + 1, 0, none⟩ = some (.bool nay) ∧ wx.cell? ⟨w.heap.size + 1 + 1, 1, none⟩ = some (.slice Ay ny cy) ∧ wx.cell? ⟨w.heap.size + 1 + 1, 2, none⟩ = some (.bool nby) ∧ wx.cell? ⟨w.heap.size + 1 + 1, 3, none⟩ = some (.slice By my dy) := fun wx hbx => by
      obtain ⟨e0, e1, e2, e3, -⟩ := (keep_blk hbx qy).four
      exact ⟨e0, e1, e2, e3⟩
    go_upto_region 5 with fail
    go_cut [17, 18] from 26 to 83 (fun pv cv wx => ∃ gu : Nat, pv = .pointer (some ⟨gu, 0, none⟩) ∧ cv = .int .i64 0 ∧ Below W0.heap.size W0 wx ∧ FracV wx g15 R ∧ FracV wx gu ((pa : Rat) - X) ∧ gu ≠ g15)
    case first =>
      have hSv := fun wx hbx => And.intro (hSf wx hbx) (hSx wx hbx)
      replace hSf := hide hSf
      replace hSx := hide hSx
      replace hSy := hide hSy
      refine wp_held [] (fun wx => (wx.cell? ⟨w.heap.size, 0, none⟩ = some (.int .i64 W) ∧ wx.cell? ⟨w.heap.size, 1, none⟩ = some (.int .i64 H) ∧ wx.cell? ⟨w.heap.size, 2, none⟩ = some (.slice (some ⟨g', o', none⟩) n c) ∧ wx.cell? ⟨g, o + k, none⟩ = some (.int .i64 j)) ∧ wx.cell? ⟨w.heap.size + 1, 0, none⟩ = some (.bool nax) ∧ wx.cell? ⟨w.heap.size + 1, 1, none⟩ = some (.slice Ax nx cx) ∧ wx.cell? ⟨w.heap.size + 1, 2, none⟩ = some (.bool nbx) ∧ wx.cell? ⟨w.heap.size + 1, 3, none⟩ = some (.slice Bx mx dx)) hmx (hSv _ (below_dn hbr 1)) (fun _ => ?_)
      have hbrW := hbr
      replace hbr : Below W0.heap.size W0 wr.drew := below_dn hbr 1
      replace hN : Hid (FracV wr.drew g15 R) := hN
      refine wpAnyL_take (i := 0) (v := ?v29) rfl (by kernel_rfl) (by kernel_rfl) (by kernel_rfl) (by kernel_rfl) (by kernel_rfl) (Or.inl ⟨by rfl, ?hy29⟩) (hSv _ hbr) ?rest29
      case hy29 => (intro W2 hSw; (try dsimp only at hSw); go_simp; try with_reducible rfl)
      try simp only [Act.put, List.setIfInBounds_toArray, List.set_cons_zero, List.set_cons_succ]
      refine wpAnyL_take (i := 1) (v := ?v30) rfl (by kernel_rfl) (by kernel_rfl) (by kernel_rfl) (by kernel_rfl) (by kernel_rfl) (Or.inl ⟨by rfl, ?hy30⟩) (hSv _ hbr) ?rest30
      case hy30 => (intro W2 hSw; (try dsimp only at hSw); go_simp; try with_reducible rfl)
      try simp only [Act.put, List.setIfInBounds_toArray, List.set_cons_zero, List.set_cons_succ]
      refine wpAnyL_take (i := 2) (v := ?v31) rfl (by kernel_rfl) (by kernel_rfl) (by kernel_rfl) (by kernel_rfl) (by kernel_rfl) (Or.inl ⟨by rfl, ?hy31⟩) (hSv _ hbr) ?rest31
      case hy31 => (intro W2 hSw; (try dsimp only at hSw); go_simp; try with_reducible rfl)
      try simp only [Act.put, List.setIfInBounds_toArray, List.set_cons_zero, List.set_cons_succ]
      refine wpAnyL_take (i := 3) (v := ?v32) rfl (by kernel_rfl) (by kernel_rfl) (by kernel_rfl) (by kernel_rfl) (by kernel_rfl) (Or.inl ⟨by rfl, ?hy32⟩) (hSv _ hbr) ?rest32
      case hy32 => (intro W2 hSw; (try dsimp only at hSw); go_simp; try with_reducible rfl)
      try simp only [Act.put, List.setIfInBounds_toArray, List.set_cons_zero, List.set_cons_succ]
      refine wpAnyL_take (i := 4) (v := ?v33) rfl (by kernel_rfl) (by kernel_rfl) (by kernel_rfl) (by kernel_rfl) (by kernel_rfl) (Or.inl ⟨by rfl, ?hy33⟩) (hSv _ hbr) ?rest33
      case hy33 => (intro W2 hSw; (try dsimp only at hSw); go_simp; try with_reducible rfl)
      try simp only [Act.put, List.setIfInBounds_toArray, List.set_cons_zero, List.set_cons_succ]
      refine wpAnyL_take (i := 5) (v := ?v34) rfl (by kernel_rfl) (by kernel_rfl) (by kernel_rfl) (by kernel_rfl) (by kernel_rfl) (Or.inl ⟨by rfl, ?hy34⟩) (hSv _ hbr) ?rest34
      case hy34 => (intro W2 hSw; (try dsimp only at hSw); go_simp; try with_reducible rfl)
      try simp only [Act.put, List.setIfInBounds_toArray, List.set_cons_zero, List.set_cons_succ]
      refine wpAnyL_take (i := 8) (v := ?v35) rfl (by kernel_rfl) (by kernel_rfl) (by kernel_rfl) (by kernel_rfl) (by kernel_rfl) (Or.inl ⟨by rfl, ?hy35⟩) (hSv _ hbr) ?rest35
      case hy35 => (intro W2 hSw; (try dsimp only at hSw); go_simp; try with_reducible rfl)
      try simp only [Act.put, List.setIfInBounds_toArray, List.set_cons_zero, List.set_cons_succ]
      refine wpAnyL_two (i := 6) (j := 13) rfl rfl (by kernel_rfl) (fun K hK => ?_) (fun K hK => ?_)
      · go_simp
        refine (hpl.out _).mono ?_
        rintro e wa ⟨rfl, hba⟩
        have hbr := hbr.trans (hba.mono hbr.size)
        have hN := hide (hN.out.below hba)
        refine hK.out _ _ (fun _ => hSv _ hbr) ?_
        clear hK K
        try simp only [Act.put, List.setIfInBounds_toArray, List.set_cons_zero, List.set_cons_succ]
        refine wpAnyL_two (i := 7) (j := 13) rfl rfl (by kernel_rfl) (fun K hK => ?_) (fun K hK => ?_)
        · go_simp
          refine (rWhole_ok _ _ (by omega) (by omega)).mono ?_
          rintro e wb ⟨hbb, na1, A1, n1, c1, nb1, B1, m1, d1, rfl, hU⟩
          have hbr := hbr.trans (hbb.mono hbr.size)
          have hN := hide (hN.out.below hbb)
          replace hU := hide hU
          refine hK.out _ _ (fun _ => hSv _ hbr) ?_
          clear hK K
          try simp only [Act.put, List.setIfInBounds_toArray, List.set_cons_zero, List.set_cons_succ]
          refine wpAnyL_two (i := 9) (j := 13) rfl rfl (by kernel_rfl) (fun K hK => ?_) (fun K hK => ?_)
          · go_simp
            refine (rfSub_ok _ _ _ _ _ _ _ _ _ _ _ _ _ _ _ _ _ _ _ hU.out (hX.out.below hbr) hsU sX').mono ?_
            rintro e wd ⟨hbd, na2, A2, n2, c2, nb2, B2, m2, d2, rfl, hD⟩
            have hbr := hbr.trans (hbd.mono hbr.size)
            have hN := hide (hN.out.below hbd)
            replace hD := hide hD
            refine hK.out _ _ (fun _ => hSv _ hbr) ?_
            clear hK K
            try simp only [Act.put, List.setIfInBounds_toArray, List.set_cons_zero, List.set_cons_succ]
            refine wpAnyL_take (i := 10) (v := ?v36) rfl (by kernel_rfl) (by kernel_rfl) (by kernel_rfl) (by kernel_rfl) (by kernel_rfl) (Or.inl ⟨by rfl, ?hy36⟩) (hSv _ hbr) ?rest36
            case hy36 => (intro W2 hSw; (try dsimp only at hSw); go_simp; try with_reducible rfl)
            try simp only [Act.put, List.setIfInBounds_toArray, List.set_cons_zero, List.set_cons_succ]
            refine wpAnyL_take (i := 11) (v := ?v37) rfl (by kernel_rfl) (by kernel_rfl) (by kernel_rfl) (by kernel_rfl) (by kernel_rfl) (Or.inl ⟨by rfl, ?hy37⟩) (hSv _ hbr) ?rest37
            case hy37 => (intro W2 hSw; (try dsimp only at hSw); go_simp; try with_reducible rfl)
            try simp only [Act.put, List.setIfInBounds_toArray, List.set_cons_zero, List.set_cons_succ]
            refine wpAnyL_take (i := 12) (v := ?v38) rfl (by kernel_rfl) (by kernel_rfl) (by kernel_rfl) (by kernel_rfl) (by kernel_rfl) (Or.inl ⟨by rfl, ?hy38⟩) (hSv _ hbr) ?rest38
            case hy38 => (intro W2 hSw; (try dsimp only at hSw); go_simp; try with_reducible rfl)
            try simp only [Act.put, List.setIfInBounds_toArray, List.set_cons_zero, List.set_cons_succ]
            refine wpAnyL_one (i := 13) rfl (by kernel_rfl) (fun K hK => ?_)
            go_simp
            have hl15 := hN.out.lt
            obtain ⟨V, hVe, hBV, hV, hk, hk2, sV⟩ := new_obj 32 #[.bool false, .slice none 0 0, .bool false, .slice none 0 0] hbr hbr.size
            have hgV := hbr.size
            rw [hVe]
            have hN := hide (hN.out.keep hk (fun cs => hk2 _ _ _))
            replace hD := hide (hD.out.keep hk)
            replace hbr := hBV
            clear hVe hBV hk hk2
            refine hK.out _ _ (fun _ => hSv _ hbr) ?_
            clear hK K
            try simp only [Act.put, List.setIfInBounds_toArray, List.set_cons_zero, List.set_cons_succ]
            obtain ⟨y0, y1, y2, y3, z0, z1, z2, z3⟩ := hV.four
            refine wpAnyL_one (i := 14) rfl (by kernel_rfl) (fun K hK => ?_)
            go_simp
            have hlt := hN.out.lt
            obtain ⟨V2, hV2, hB2, q4, hst⟩ := set_frac na2 A2 n2 c2 nb2 B2 m2 d2 hbr hgV hV
            rw [hV2]
            have hN := hide (hN.out.keep hst.1 (fun cs => hst.2.1 _ _ _ (by omega)))
            replace hD := hide (hD.out.keep hst.1)
            replace hbr := hB2
            clear hV2 hB2 hst y0 y1 y2 y3 z0 z1 z2 z3
            refine hK.out _ _ (fun _ => hSv _ hbr) ?_
            clear hK K
            try simp only [Act.put, List.setIfInBounds_toArray, List.set_cons_zero, List.set_cons_succ]
            refine wpAnyL_take (i := 15) (v := ?v39) rfl (by kernel_rfl) (by kernel_rfl) (by kernel_rfl) (by kernel_rfl) (by kernel_rfl) (Or.inl ⟨by rfl, ?hy39⟩) (hSv _ hbr) ?rest39
            case hy39 => (intro W2 hSw; (try dsimp only at hSw); go_simp; try with_reducible rfl)
            try simp only [Act.put, List.setIfInBounds_toArray, List.set_cons_zero, List.set_cons_succ]
            refine wpAnyL_done (by kernel_rfl) ?_ _
            refine OnlyNormal.normal ?_
            try simp only [Act.put, List.setIfInBounds_toArray, List.set_cons_zero, List.set_cons_succ, List.getElem_toArray, List.getElem_cons_succ, List.getElem_cons_zero]
            go_simp
            go_wp2_with fail
            go_meet
            exact ⟨_, rfl, rfl, hbr, hN.out, ⟨_, _, _, _, _, _, _, _, q4, hD.out⟩, by omega⟩
          · go_simp
            have hl15 := hN.out.lt
            obtain ⟨V, hVe, hBV, hV, hk, hk2, sV⟩ := new_obj 32 #[.bool false, .slice none 0 0, .bool false, .slice none 0 0] hbr hbr.size
            have hgV := hbr.size
            rw [hVe]
            have hN := hide (hN.out.keep hk (fun cs => hk2 _ _ _))
            replace hU := hide (hU.out.keep hk)
            replace hbr := hBV
            clear hVe hBV hk hk2
            refine hK.out _ _ (fun _ => hSv _ hbr) ?_
            clear hK K
            try simp only [Act.put, List.setIfInBounds_toArray, List.set_cons_zero, List.set_cons_succ]
            refine wpAnyL_one (i := 9) rfl (by kernel_rfl) (fun K hK => ?_)
            go_simp
            refine (rfSub_ok _ _ _ _ _ _ _ _ _ _ _ _ _ _ _ _ _ _ _ hU.out (hX.out.below hbr) hsU sX').mono ?_
            rintro e wd ⟨hbd, na2, A2, n2, c2, nb2, B2, m2, d2, rfl, hD⟩
            have hbr := hbr.trans (hbd.mono hbr.size)
            have hN := hide (hN.out.below hbd)
            replace hD := hide hD
            have hV := keep_blk hbd hV
            refine hK.out _ _ (fun _ => hSv _ hbr) ?_
            clear hK K
            try simp only [Act.put, List.setIfInBounds_toArray, List.set_cons_zero, List.set_cons_succ]
            refine wpAnyL_take (i := 10) (v := ?v40) rfl (by kernel_rfl) (by kernel_rfl) (by kernel_rfl) (by kernel_rfl) (by kernel_rfl) (Or.inl ⟨by rfl, ?hy40⟩) (hSv _ hbr) ?rest40
            case hy40 => (intro W2 hSw; (try dsimp only at hSw); go_simp; try with_reducible rfl)
            try simp only [Act.put, List.setIfInBounds_toArray, List.set_cons_zero, List.set_cons_succ]
            refine wpAnyL_take (i := 11) (v := ?v41) rfl (by kernel_rfl) (by kernel_rfl) (by kernel_rfl) (by kernel_rfl) (by kernel_rfl) (Or.inl ⟨by rfl, ?hy41⟩) (hSv _ hbr) ?rest41
            case hy41 => (intro W2 hSw; (try dsimp only at hSw); go_simp; try with_reducible rfl)
            try simp only [Act.put, List.setIfInBounds_toArray, List.set_cons_zero, List.set_cons_succ]
            refine wpAnyL_take (i := 12) (v := ?v42) rfl (by kernel_rfl) (by kernel_rfl) (by kernel_rfl) (by kernel_rfl) (by kernel_rfl) (Or.inl ⟨by rfl, ?hy42⟩) (hSv _ hbr) ?rest42
            case hy42 => (intro W2 hSw; (try dsimp only at hSw); go_simp; try with_reducible rfl)
            try simp only [Act.put, List.setIfInBounds_toArray, List.set_cons_zero, List.set_cons_succ]
            obtain ⟨y0, y1, y2, y3, z0, z1, z2, z3⟩ := hV.four
            refine wpAnyL_one (i := 14) rfl (by kernel_rfl) (fun K hK => ?_)
            go_simp
            have hlt := hN.out.lt
            obtain ⟨V2, hV2, hB2, q4, hst⟩ := set_frac na2 A2 n2 c2 nb2 B2 m2 d2 hbr hgV hV
            rw [hV2]
            have hN := hide (hN.out.keep hst.1 (fun cs => hst.2.1 _ _ _ (by omega)))
            replace hD := hide (hD.out.keep hst.1)
            replace hbr := hB2
            clear hV2 hB2 hst y0 y1 y2 y3 z0 z1 z2 z3
            refine hK.out _ _ (fun _ => hSv _ hbr) ?_
            clear hK K
            try simp only [Act.put, List.setIfInBounds_toArray, List.set_cons_zero, List.set_cons_succ]
            refine wpAnyL_take (i := 15) (v := ?v43) rfl (by kernel_rfl) (by kernel_rfl) (by kernel_rfl) (by kernel_rfl) (by kernel_rfl) (Or.inl ⟨by rfl, ?hy43⟩) (hSv _ hbr) ?rest43
            case hy43 => (intro W2 hSw; (try dsimp only at hSw); go_simp; try with_reducible rfl)
            try simp only [Act.put, List.setIfInBounds_toArray, List.set_cons_zero, List.set_cons_succ]
            refine wpAnyL_done (by kernel_rfl) ?_ _
            refine OnlyNormal.normal ?_
            try simp only [Act.put, List.setIfInBounds_toArray, List.set_cons_zero, List.set_cons_succ, List.getElem_toArray, List.getElem_cons_succ, List.getElem_cons_zero]
            go_simp
            go_wp2_with fail
            go_meet
            exact ⟨_, rfl, rfl, hbr, hN.out, ⟨_, _, _, _, _, _, _, _, q4, hD.out⟩, by omega⟩
        · go_simp
          have hl15 := hN.out.lt
          obtain ⟨V, hVe, hBV, hV, hk, hk2, sV⟩ := new_obj 32 #[.bool false, .slice none 0 0, .bool false, .slice none 0 0] hbr hbr.size
          have hgV := hbr.size
          rw [hVe]
          have hN := hide (hN.out.keep hk (fun cs => hk2 _ _ _))
          replace hbr := hBV
          clear hVe hBV hk hk2
          refine hK.out _ _ (fun _ => hSv _ hbr) ?_
          clear hK K
          try simp only [Act.put, List.setIfInBounds_toArray, List.set_cons_zero, List.set_cons_succ]
          refine wpAnyL_one (i := 7) rfl (by kernel_rfl) (fun K hK => ?_)
          go_simp
          refine (rWhole_ok _ _ (by omega) (by omega)).mono ?_
          rintro e wb ⟨hbb, na1, A1, n1, c1, nb1, B1, m1, d1, rfl, hU⟩
          have hbr := hbr.trans (hbb.mono hbr.size)
          have hN := hide (hN.out.below hbb)
          replace hU := hide hU
          have hV := keep_blk hbb hV
          refine hK.out _ _ (fun _ => hSv _ hbr) ?_
          clear hK K
          try simp only [Act.put, List.setIfInBounds_toArray, List.set_cons_zero, List.set_cons_succ]
          refine wpAnyL_one (i := 9) rfl (by kernel_rfl) (fun K hK => ?_)
          go_simp
          refine (rfSub_ok _ _ _ _ _ _ _ _ _ _ _ _ _ _ _ _ _ _ _ hU.out (hX.out.below hbr) hsU sX').mono ?_
          rintro e wd ⟨hbd, na2, A2, n2, c2, nb2, B2, m2, d2, rfl, hD⟩
          have hbr := hbr.trans (hbd.mono hbr.size)
          have hN := hide (hN.out.below hbd)
          replace hD := hide hD
          have hV := keep_blk hbd hV
          refine hK.out _ _ (fun _ => hSv _ hbr) ?_
          clear hK K
          try simp only [Act.put, List.setIfInBounds_toArray, List.set_cons_zero, List.set_cons_succ]
          refine wpAnyL_take (i := 10) (v := ?v44) rfl (by kernel_rfl) (by kernel_rfl) (by kernel_rfl) (by kernel_rfl) (by kernel_rfl) (Or.inl ⟨by rfl, ?hy44⟩) (hSv _ hbr) ?rest44
          case hy44 => (intro W2 hSw; (try dsimp only at hSw); go_simp; try with_reducible rfl)
          try simp only [Act.put, List.setIfInBounds_toArray, List.set_cons_zero, List.set_cons_succ]
          refine wpAnyL_take (i := 11) (v := ?v45) rfl (by kernel_rfl) (by kernel_rfl) (by kernel_rfl) (by kernel_rfl) (by kernel_rfl) (Or.inl ⟨by rfl, ?hy45⟩) (hSv _ hbr) ?rest45
          case hy45 => (intro W2 hSw; (try dsimp only at hSw); go_simp; try with_reducible rfl)
          try simp only [Act.put, List.setIfInBounds_toArray, List.set_cons_zero, List.set_cons_succ]
          refine wpAnyL_take (i := 12) (v := ?v46) rfl (by kernel_rfl) (by kernel_rfl) (by kernel_rfl) (by kernel_rfl) (by kernel_rfl) (Or.inl ⟨by rfl, ?hy46⟩) (hSv _ hbr) ?rest46
          case hy46 => (intro W2 hSw; (try dsimp only at hSw); go_simp; try with_reducible rfl)
          try simp only [Act.put, List.setIfInBounds_toArray, List.set_cons_zero, List.set_cons_succ]
          obtain ⟨y0, y1, y2, y3, z0, z1, z2, z3⟩ := hV.four
          refine wpAnyL_one (i := 14) rfl (by kernel_rfl) (fun K hK => ?_)
          go_simp
          have hlt := hN.out.lt
          obtain ⟨V2, hV2, hB2, q4, hst⟩ := set_frac na2 A2 n2 c2 nb2 B2 m2 d2 hbr hgV hV
          rw [hV2]
          have hN := hide (hN.out.keep hst.1 (fun cs => hst.2.1 _ _ _ (by omega)))
          replace hD := hide (hD.out.keep hst.1)
          replace hbr := hB2
          clear hV2 hB2 hst y0 y1 y2 y3 z0 z1 z2 z3
          refine hK.out _ _ (fun _ => hSv _ hbr) ?_
          clear hK K
          try simp only [Act.put, List.setIfInBounds_toArray, List.set_cons_zero, List.set_cons_succ]
          refine wpAnyL_take (i := 15) (v := ?v47) rfl (by kernel_rfl) (by kernel_rfl) (by kernel_rfl) (by kernel_rfl) (by kernel_rfl) (Or.inl ⟨by rfl, ?hy47⟩) (hSv _ hbr) ?rest47
          case hy47 => (intro W2 hSw; (try dsimp only at hSw); go_simp; try with_reducible rfl)
          try simp only [Act.put, List.setIfInBounds_toArray, List.set_cons_zero, List.set_cons_succ]
          refine wpAnyL_done (by kernel_rfl) ?_ _
          refine OnlyNormal.normal ?_
          try simp only [Act.put, List.setIfInBounds_toArray, List.set_cons_zero, List.set_cons_succ, List.getElem_toArray, List.getElem_cons_succ, List.getElem_cons_zero]
          go_simp
          go_wp2_with fail
          go_meet
          exact ⟨_, rfl, rfl, hbr, hN.out, ⟨_, _, _, _, _, _, _, _, q4, hD.out⟩, by omega⟩
      · go_simp
        have hl15 := hN.out.lt
        obtain ⟨V, hVe, hBV, hV, hk, hk2, sV⟩ := new_obj 32 #[.bool false, .slice none 0 0, .bool false, .slice none 0 0] hbrW hbrW.size
        have hgV := hbrW.size
        rw [hVe]
        have hN : Hid (FracV V.drew g15 R) := hide ((FracV.keep (W := V) (w := wr) hN.out hk (fun cs => hk2 _ _ _)))
        replace hbr : Below W0.heap.size W0 V.drew := below_dn hBV 1
        replace hV : Blk V.drew wr.heap.size 32 #[.bool false, .slice none 0 0, .bool false, .slice none 0 0] := hV
        have hl15 : g15 < wr.heap.size := hl15
        clear hVe hBV hk hk2
        refine hK.out _ _ (fun _ => hSv _ hbr) ?_
        clear hK K
        try simp only [Act.put, List.setIfInBounds_toArray, List.set_cons_zero, List.set_cons_succ]
        refine wpAnyL_one (i := 6) rfl (by kernel_rfl) (fun K hK => ?_)
        go_simp
        refine (hpl.out _).mono ?_
        rintro e wa ⟨rfl, hba⟩
        have hbr := hbr.trans (hba.mono hbr.size)
        have hN := hide (hN.out.below hba)
        have hV := keep_blk hba hV
        refine hK.out _ _ (fun _ => hSv _ hbr) ?_
        clear hK K
        try simp only [Act.put, List.setIfInBounds_toArray, List.set_cons_zero, List.set_cons_succ]
        refine wpAnyL_one (i := 7) rfl (by kernel_rfl) (fun K hK => ?_)
        go_simp
        refine (rWhole_ok _ _ (by omega) (by omega)).mono ?_
        rintro e wb ⟨hbb, na1, A1, n1, c1, nb1, B1, m1, d1, rfl, hU⟩
        have hbr := hbr.trans (hbb.mono hbr.size)
        have hN := hide (hN.out.below hbb)
        replace hU := hide hU
        have hV := keep_blk hbb hV
        refine hK.out _ _ (fun _ => hSv _ hbr) ?_
        clear hK K
        try simp only [Act.put, List.setIfInBounds_toArray, List.set_cons_zero, List.set_cons_succ]
        refine wpAnyL_one (i := 9) rfl (by kernel_rfl) (fun K hK => ?_)
        go_simp
        refine (rfSub_ok _ _ _ _ _ _ _ _ _ _ _ _ _ _ _ _ _ _ _ hU.out (hX.out.below hbr) hsU sX').mono ?_
        rintro e wd ⟨hbd, na2, A2, n2, c2, nb2, B2, m2, d2, rfl, hD⟩
        have hbr := hbr.trans (hbd.mono hbr.size)
        have hN := hide (hN.out.below hbd)
        replace hD := hide hD
        have hV := keep_blk hbd hV
        refine hK.out _ _ (fun _ => hSv _ hbr) ?_
        clear hK K
        try simp only [Act.put, List.setIfInBounds_toArray, List.set_cons_zero, List.set_cons_succ]
        refine wpAnyL_take (i := 10) (v := ?v48) rfl (by kernel_rfl) (by kernel_rfl) (by kernel_rfl) (by kernel_rfl) (by kernel_rfl) (Or.inl ⟨by rfl, ?hy48⟩) (hSv _ hbr) ?rest48
        case hy48 => (intro W2 hSw; (try dsimp only at hSw); go_simp; try with_reducible rfl)
        try simp only [Act.put, List.setIfInBounds_toArray, List.set_cons_zero, List.set_cons_succ]
        refine wpAnyL_take (i := 11) (v := ?v49) rfl (by kernel_rfl) (by kernel_rfl) (by kernel_rfl) (by kernel_rfl) (by kernel_rfl) (Or.inl ⟨by rfl, ?hy49⟩) (hSv _ hbr) ?rest49
        case hy49 => (intro W2 hSw; (try dsimp only at hSw); go_simp; try with_reducible rfl)
        try simp only [Act.put, List.setIfInBounds_toArray, List.set_cons_zero, List.set_cons_succ]
        refine wpAnyL_take (i := 12) (v := ?v50) rfl (by kernel_rfl) (by kernel_rfl) (by kernel_rfl) (by kernel_rfl) (by kernel_rfl) (Or.inl ⟨by rfl, ?hy50⟩) (hSv _ hbr) ?rest50
        case hy50 => (intro W2 hSw; (try dsimp only at hSw); go_simp; try with_reducible rfl)
        try simp only [Act.put, List.setIfInBounds_toArray, List.set_cons_zero, List.set_cons_succ]
        obtain ⟨y0, y1, y2, y3, z0, z1, z2, z3⟩ := hV.four
        refine wpAnyL_one (i := 14) rfl (by kernel_rfl) (fun K hK => ?_)
        go_simp
        have hlt := hN.out.lt
        obtain ⟨V2, hV2, hB2, q4, hst⟩ := set_frac na2 A2 n2 c2 nb2 B2 m2 d2 hbr hgV hV
        rw [hV2]
        have hN := hide (hN.out.keep hst.1 (fun cs => hst.2.1 _ _ _ (by omega)))
        replace hD := hide (hD.out.keep hst.1)
        replace hbr := hB2
        clear hV2 hB2 hst y0 y1 y2 y3 z0 z1 z2 z3
        refine hK.out _ _ (fun _ => hSv _ hbr) ?_
        clear hK K
        try simp only [Act.put, List.setIfInBounds_toArray, List.set_cons_zero, List.set_cons_succ]
        refine wpAnyL_take (i := 15) (v := ?v51) rfl (by kernel_rfl) (by kernel_rfl) (by kernel_rfl) (by kernel_rfl) (by kernel_rfl) (Or.inl ⟨by rfl, ?hy51⟩) (hSv _ hbr) ?rest51
        case hy51 => (intro W2 hSw; (try dsimp only at hSw); go_simp; try with_reducible rfl)
        try simp only [Act.put, List.setIfInBounds_toArray, List.set_cons_zero, List.set_cons_succ]
        refine wpAnyL_done (by kernel_rfl) ?_ _
        refine OnlyNormal.normal ?_
        try simp only [Act.put, List.setIfInBounds_toArray, List.set_cons_zero, List.set_cons_succ, List.getElem_toArray, List.getElem_cons_succ, List.getElem_cons_zero]
        go_simp
        go_wp2_with fail
        go_meet
        exact ⟨_, rfl, rfl, hbr, hN.out, ⟨_, _, _, _, _, _, _, _, q4, hD.out⟩, by omega⟩
    case rest =>
      clear hbr hN
      obtain ⟨gu, rfl, rfl, hbr, hN, hM, hne⟩ := hcut
      replace hN := hide hN
      replace hM := hide hM
      go_upto_region 6 with fail
      go_cut [19, 20] from 26 to 83 (fun pv cv wx => ∃ gv : Nat, pv = .pointer (some ⟨gv, 0, none⟩) ∧ cv = .int .i64 0 ∧ Below W0.heap.size W0 wx ∧ FracV wx g15 R ∧ FracV wx gu ((pa : Rat) - X) ∧ FracV wx gv ((pb : Rat) - Y) ∧ gv ≠ g15)
      case first =>
        have hSv := fun wx hbx => And.intro (hSf wx hbx) (hSy wx hbx)
        replace hSf := hide hSf
        replace hSx := hide hSx
        replace hSy := hide hSy
        refine wp_held [] (fun wx => (wx.cell? ⟨w.heap.size, 0, none⟩ = some (.int .i64 W) ∧ wx.cell? ⟨w.heap.size, 1, none⟩ = some (.int .i64 H) ∧ wx.cell? ⟨w.heap.size, 2, none⟩ = some (.slice (some ⟨g', o', none⟩) n c) ∧ wx.cell? ⟨g, o + k, none⟩ = some (.int .i64 j)) ∧ wx.cell? ⟨w.heap.size + 1 + 1, 0, none⟩ = some (.bool nay) ∧ wx.cell? ⟨w.heap.size + 1 + 1, 1, none⟩ = some (.slice Ay ny cy) ∧ wx.cell? ⟨w.heap.size + 1 + 1, 2, none⟩ = some (.bool nby) ∧ wx.cell? ⟨w.heap.size + 1 + 1, 3, none⟩ = some (.slice By my dy)) hmx (hSv _ (below_dn hbr 1)) (fun _ => ?_)
        have hbrW := hbr
        replace hbr : Below W0.heap.size W0 wc.drew := below_dn hbr 1
        replace hN : Hid (FracV wc.drew g15 R) := hN
        replace hM : Hid (FracV wc.drew gu ((pa : Rat) - X)) := hM
        refine wpAnyL_take (i := 0) (v := ?v52) rfl (by kernel_rfl) (by kernel_rfl) (by kernel_rfl) (by kernel_rfl) (by kernel_rfl) (Or.inl ⟨by rfl, ?hy52⟩) (hSv _ hbr) ?rest52
        case hy52 => (intro W2 hSw; (try dsimp only at hSw); go_simp; try with_reducible rfl)
        try simp only [Act.put, List.setIfInBounds_toArray, List.set_cons_zero, List.set_cons_succ]
        refine wpAnyL_take (i := 1) (v := ?v53) rfl (by kernel_rfl) (by kernel_rfl) (by kernel_rfl) (by kernel_rfl) (by kernel_rfl) (Or.inl ⟨by rfl, ?hy53⟩) (hSv _ hbr) ?rest53
        case hy53 => (intro W2 hSw; (try dsimp only at hSw); go_simp; try with_reducible rfl)
        try simp only [Act.put, List.setIfInBounds_toArray, List.set_cons_zero, List.set_cons_succ]
        refine wpAnyL_take (i := 2) (v := ?v54) rfl (by kernel_rfl) (by kernel_rfl) (by kernel_rfl) (by kernel_rfl) (by kernel_rfl) (Or.inl ⟨by rfl, ?hy54⟩) (hSv _ hbr) ?rest54
        case hy54 => (intro W2 hSw; (try dsimp only at hSw); go_simp; try with_reducible rfl)
        try simp only [Act.put, List.setIfInBounds_toArray, List.set_cons_zero, List.set_cons_succ]
        refine wpAnyL_take (i := 3) (v := ?v55) rfl (by kernel_rfl) (by kernel_rfl) (by kernel_rfl) (by kernel_rfl) (by kernel_rfl) (Or.inl ⟨by rfl, ?hy55⟩) (hSv _ hbr) ?rest55
        case hy55 => (intro W2 hSw; (try dsimp only at hSw); go_simp; try with_reducible rfl)
        try simp only [Act.put, List.setIfInBounds_toArray, List.set_cons_zero, List.set_cons_succ]
        refine wpAnyL_take (i := 4) (v := ?v56) rfl (by kernel_rfl) (by kernel_rfl) (by kernel_rfl) (by kernel_rfl) (by kernel_rfl) (Or.inl ⟨by rfl, ?hy56⟩) (hSv _ hbr) ?rest56
        case hy56 => (intro W2 hSw; (try dsimp only at hSw); go_simp; try with_reducible rfl)
        try simp only [Act.put, List.setIfInBounds_toArray, List.set_cons_zero, List.set_cons_succ]
        refine wpAnyL_take (i := 5) (v := ?v57) rfl (by kernel_rfl) (by kernel_rfl) (by kernel_rfl) (by kernel_rfl) (by kernel_rfl) (Or.inl ⟨by rfl, ?hy57⟩) (hSv _ hbr) ?rest57
        case hy57 => (intro W2 hSw; (try dsimp only at hSw); go_simp; try with_reducible rfl)
        try simp only [Act.put, List.setIfInBounds_toArray, List.set_cons_zero, List.set_cons_succ]
        refine wpAnyL_take (i := 8) (v := ?v58) rfl (by kernel_rfl) (by kernel_rfl) (by kernel_rfl) (by kernel_rfl) (by kernel_rfl) (Or.inl ⟨by rfl, ?hy58⟩) (hSv _ hbr) ?rest58
        case hy58 => (intro W2 hSw; (try dsimp only at hSw); go_simp; try with_reducible rfl)
        try simp only [Act.put, List.setIfInBounds_toArray, List.set_cons_zero, List.set_cons_succ]
        refine wpAnyL_two (i := 6) (j := 13) rfl rfl (by kernel_rfl) (fun K hK => ?_) (fun K hK => ?_)
        · go_simp
          refine (hpl2.out _).mono ?_
          rintro e wa ⟨rfl, hba⟩
          have hbr := hbr.trans (hba.mono hbr.size)
          have hN := hide (hN.out.below hba)
          have hM := hide (hM.out.below hba)
          refine hK.out _ _ (fun _ => hSv _ hbr) ?_
          clear hK K
          try simp only [Act.put, List.setIfInBounds_toArray, List.set_cons_zero, List.set_cons_succ]
          refine wpAnyL_two (i := 7) (j := 13) rfl rfl (by kernel_rfl) (fun K hK => ?_) (fun K hK => ?_)
          · go_simp
            refine (rWhole_ok _ _ (by omega) (by omega)).mono ?_
            rintro e wb ⟨hbb, na1, A1, n1, c1, nb1, B1, m1, d1, rfl, hU⟩
            have hbr := hbr.trans (hbb.mono hbr.size)
            have hN := hide (hN.out.below hbb)
            replace hU := hide hU
            have hM := hide (hM.out.below hbb)
            refine hK.out _ _ (fun _ => hSv _ hbr) ?_
            clear hK K
            try simp only [Act.put, List.setIfInBounds_toArray, List.set_cons_zero, List.set_cons_succ]
            refine wpAnyL_two (i := 9) (j := 13) rfl rfl (by kernel_rfl) (fun K hK => ?_) (fun K hK => ?_)
            · go_simp
              refine (rfSub_ok _ _ _ _ _ _ _ _ _ _ _ _ _ _ _ _ _ _ _ hU.out (hY.out.below hbr) hsV sY').mono ?_
              rintro e wd ⟨hbd, na2, A2, n2, c2, nb2, B2, m2, d2, rfl, hD⟩
              have hbr := hbr.trans (hbd.mono hbr.size)
              have hN := hide (hN.out.below hbd)
              replace hD := hide hD
              have hM := hide (hM.out.below hbd)
              refine hK.out _ _ (fun _ => hSv _ hbr) ?_
              clear hK K
              try simp only [Act.put, List.setIfInBounds_toArray, List.set_cons_zero, List.set_cons_succ]
              refine wpAnyL_take (i := 10) (v := ?v59) rfl (by kernel_rfl) (by kernel_rfl) (by kernel_rfl) (by kernel_rfl) (by kernel_rfl) (Or.inl ⟨by rfl, ?hy59⟩) (hSv _ hbr) ?rest59
              case hy59 => (intro W2 hSw; (try dsimp only at hSw); go_simp; try with_reducible rfl)
              try simp only [Act.put, List.setIfInBounds_toArray, List.set_cons_zero, List.set_cons_succ]
              refine wpAnyL_take (i := 11) (v := ?v60) rfl (by kernel_rfl) (by kernel_rfl) (by kernel_rfl) (by kernel_rfl) (by kernel_rfl) (Or.inl ⟨by rfl, ?hy60⟩) (hSv _ hbr) ?rest60
              case hy60 => (intro W2 hSw; (try dsimp only at hSw); go_simp; try with_reducible rfl)
              try simp only [Act.put, List.setIfInBounds_toArray, List.set_cons_zero, List.set_cons_succ]
              refine wpAnyL_take (i := 12) (v := ?v61) rfl (by kernel_rfl) (by kernel_rfl) (by kernel_rfl) (by kernel_rfl) (by kernel_rfl) (Or.inl ⟨by rfl, ?hy61⟩) (hSv _ hbr) ?rest61
              case hy61 => (intro W2 hSw; (try dsimp only at hSw); go_simp; try with_reducible rfl)
              try simp only [Act.put, List.setIfInBounds_toArray, List.set_cons_zero, List.set_cons_succ]
              refine wpAnyL_one (i := 13) rfl (by kernel_rfl) (fun K hK => ?_)
              go_simp
              have hl15 := hN.out.lt
              obtain ⟨V, hVe, hBV, hV, hk, hk2, sV⟩ := new_obj 32 #[.bool false, .slice none 0 0, .bool false, .slice none 0 0] hbr hbr.size
              have hgV := hbr.size
              rw [hVe]
              have hN := hide (hN.out.keep hk (fun cs => hk2 _ _ _))
              have hl17 := hM.out.lt
              have hM := hide (hM.out.keep hk (fun cs => hk2 _ _ _))
              replace hD := hide (hD.out.keep hk)
              replace hbr := hBV
              clear hVe hBV hk hk2
              refine hK.out _ _ (fun _ => hSv _ hbr) ?_
              clear hK K
              try simp only [Act.put, List.setIfInBounds_toArray, List.set_cons_zero, List.set_cons_succ]
              obtain ⟨y0, y1, y2, y3, z0, z1, z2, z3⟩ := hV.four
              refine wpAnyL_one (i := 14) rfl (by kernel_rfl) (fun K hK => ?_)
              go_simp
              have hlt := hN.out.lt
              obtain ⟨V2, hV2, hB2, q4, hst⟩ := set_frac na2 A2 n2 c2 nb2 B2 m2 d2 hbr hgV hV
              rw [hV2]
              have hN := hide (hN.out.keep hst.1 (fun cs => hst.2.1 _ _ _ (by omega)))
              have hM := hide (hM.out.keep hst.1 (fun cs => hst.2.1 _ _ _ (by omega)))
              replace hD := hide (hD.out.keep hst.1)
              replace hbr := hB2
              clear hV2 hB2 hst y0 y1 y2 y3 z0 z1 z2 z3
              refine hK.out _ _ (fun _ => hSv _ hbr) ?_
              clear hK K
              try simp only [Act.put, List.setIfInBounds_toArray, List.set_cons_zero, List.set_cons_succ]
              refine wpAnyL_take (i := 15) (v := ?v62) rfl (by kernel_rfl) (by kernel_rfl) (by kernel_rfl) (by kernel_rfl) (by kernel_rfl) (Or.inl ⟨by rfl, ?hy62⟩) (hSv _ hbr) ?rest62
              case hy62 => (intro W2 hSw; (try dsimp only at hSw); go_simp; try with_reducible rfl)
              try simp only [Act.put, List.setIfInBounds_toArray, List.set_cons_zero, List.set_cons_succ]
              refine wpAnyL_done (by kernel_rfl) ?_ _
              refine OnlyNormal.normal ?_
              try simp only [Act.put, List.setIfInBounds_toArray, List.set_cons_zero, List.set_cons_succ, List.getElem_toArray, List.getElem_cons_succ, List.getElem_cons_zero]
              go_simp
              go_wp2_with fail
              go_meet
              exact ⟨_, rfl, rfl, hbr, hN.out, hM.out, ⟨_, _, _, _, _, _, _, _, q4, hD.out⟩, by omega⟩
            · go_simp
              have hl15 := hN.out.lt
              obtain ⟨V, hVe, hBV, hV, hk, hk2, sV⟩ := new_obj 32 #[.bool false, .slice none 0 0, .bool false, .slice none 0 0] hbr hbr.size
              have hgV := hbr.size
              rw [hVe]
              have hN := hide (hN.out.keep hk (fun cs => hk2 _ _ _))
              have hl17 := hM.out.lt
              have hM := hide (hM.out.keep hk (fun cs => hk2 _ _ _))
              replace hU := hide (hU.out.keep hk)
              replace hbr := hBV
              clear hVe hBV hk hk2
              refine hK.out _ _ (fun _ => hSv _ hbr) ?_
              clear hK K
              try simp only [Act.put, List.setIfInBounds_toArray, List.set_cons_zero, List.set_cons_succ]
              refine wpAnyL_one (i := 9) rfl (by kernel_rfl) (fun K hK => ?_)
              go_simp
              refine (rfSub_ok _ _ _ _ _ _ _ _ _ _ _ _ _ _ _ _ _ _ _ hU.out (hY.out.below hbr) hsV sY').mono ?_
              rintro e wd ⟨hbd, na2, A2, n2, c2, nb2, B2, m2, d2, rfl, hD⟩
              have hbr := hbr.trans (hbd.mono hbr.size)
              have hN := hide (hN.out.below hbd)
              replace hD := hide hD
              have hV := keep_blk hbd hV
              have hM := hide (hM.out.below hbd)
              refine hK.out _ _ (fun _ => hSv _ hbr) ?_
              clear hK K
              try simp only [Act.put, List.setIfInBounds_toArray, List.set_cons_zero, List.set_cons_succ]
              refine wpAnyL_take (i := 10) (v := ?v63) rfl (by kernel_rfl) (by kernel_rfl) (by kernel_rfl) (by kernel_rfl) (by kernel_rfl) (Or.inl ⟨by rfl, ?hy63⟩) (hSv _ hbr) ?rest63
              case hy63 => (intro W2 hSw; (try dsimp only at hSw); go_simp; try with_reducible rfl)
              try simp only [Act.put, List.setIfInBounds_toArray, List.set_cons_zero, List.set_cons_succ]
              refine wpAnyL_take (i := 11) (v := ?v64) rfl (by kernel_rfl) (by kernel_rfl) (by kernel_rfl) (by kernel_rfl) (by kernel_rfl) (Or.inl ⟨by rfl, ?hy64⟩) (hSv _ hbr) ?rest64
              case hy64 => (intro W2 hSw; (try dsimp only at hSw); go_simp; try with_reducible rfl)
              try simp only [Act.put, List.setIfInBounds_toArray, List.set_cons_zero, List.set_cons_succ]
              refine wpAnyL_take (i := 12) (v := ?v65) rfl (by kernel_rfl) (by kernel_rfl) (by kernel_rfl) (by kernel_rfl) (by kernel_rfl) (Or.inl ⟨by rfl, ?hy65⟩) (hSv _ hbr) ?rest65
              case hy65 => (intro W2 hSw; (try dsimp only at hSw); go_simp; try with_reducible rfl)
              try simp only [Act.put, List.setIfInBounds_toArray, List.set_cons_zero, List.set_cons_succ]
              obtain ⟨y0, y1, y2, y3, z0, z1, z2, z3⟩ := hV.four
              refine wpAnyL_one (i := 14) rfl (by kernel_rfl) (fun K hK => ?_)
              go_simp
              have hlt := hN.out.lt
              obtain ⟨V2, hV2, hB2, q4, hst⟩ := set_frac na2 A2 n2 c2 nb2 B2 m2 d2 hbr hgV hV
              rw [hV2]
              have hN := hide (hN.out.keep hst.1 (fun cs => hst.2.1 _ _ _ (by omega)))
              have hM := hide (hM.out.keep hst.1 (fun cs => hst.2.1 _ _ _ (by omega)))
              replace hD := hide (hD.out.keep hst.1)
              replace hbr := hB2
              clear hV2 hB2 hst y0 y1 y2 y3 z0 z1 z2 z3
              refine hK.out _ _ (fun _ => hSv _ hbr) ?_
              clear hK K
              try simp only [Act.put, List.setIfInBounds_toArray, List.set_cons_zero, List.set_cons_succ]
              refine wpAnyL_take (i := 15) (v := ?v66) rfl (by kernel_rfl) (by kernel_rfl) (by kernel_rfl) (by kernel_rfl) (by kernel_rfl) (Or.inl ⟨by rfl, ?hy66⟩) (hSv _ hbr) ?rest66
              case hy66 => (intro W2 hSw; (try dsimp only at hSw); go_simp; try with_reducible rfl)
              try simp only [Act.put, List.setIfInBounds_toArray, List.set_cons_zero, List.set_cons_succ]
              refine wpAnyL_done (by kernel_rfl) ?_ _
              refine OnlyNormal.normal ?_
              try simp only [Act.put, List.setIfInBounds_toArray, List.set_cons_zero, List.set_cons_succ, List.getElem_toArray, List.getElem_cons_succ, List.getElem_cons_zero]
              go_simp
              go_wp2_with fail
              go_meet
              exact ⟨_, rfl, rfl, hbr, hN.out, hM.out, ⟨_, _, _, _, _, _, _, _, q4, hD.out⟩, by omega⟩
          · go_simp
            have hl15 := hN.out.lt
            obtain ⟨V, hVe, hBV, hV, hk, hk2, sV⟩ := new_obj 32 #[.bool false, .slice none 0 0, .bool false, .slice none 0 0] hbr hbr.size
            have hgV := hbr.size
            rw [hVe]
            have hN := hide (hN.out.keep hk (fun cs => hk2 _ _ _))
            have hl17 := hM.out.lt
            have hM := hide (hM.out.keep hk (fun cs => hk2 _ _ _))
            replace hbr := hBV
            clear hVe hBV hk hk2
            refine hK.out _ _ (fun _ => hSv _ hbr) ?_
            clear hK K
            try simp only [Act.put, List.setIfInBounds_toArray, List.set_cons_zero, List.set_cons_succ]
            refine wpAnyL_one (i := 7) rfl (by kernel_rfl) (fun K hK => ?_)
            go_simp
            refine (rWhole_ok _ _ (by omega) (by omega)).mono ?_
            rintro e wb ⟨hbb, na1, A1, n1, c1, nb1, B1, m1, d1, rfl, hU⟩
            have hbr := hbr.trans (hbb.mono hbr.size)
            have hN := hide (hN.out.below hbb)
            replace hU := hide hU
            have hV := keep_blk hbb hV
            have hM := hide (hM.out.below hbb)
            refine hK.out _ _ (fun _ => hSv _ hbr) ?_
            clear hK K
            try simp only [Act.put, List.setIfInBounds_toArray, List.set_cons_zero, List.set_cons_succ]
            refine wpAnyL_one (i := 9) rfl (by kernel_rfl) (fun K hK => ?_)
            go_simp
            refine (rfSub_ok _ _ _ _ _ _ _ _ _ _ _ _ _ _ _ _ _ _ _ hU.out (hY.out.below hbr) hsV sY').mono ?_
            rintro e wd ⟨hbd, na2, A2, n2, c2, nb2, B2, m2, d2, rfl, hD⟩
            have hbr := hbr.trans (hbd.mono hbr.size)
            have hN := hide (hN.out.below hbd)
            replace hD := hide hD
            have hV := keep_blk hbd hV
            have hM := hide (hM.out.below hbd)
            refine hK.out _ _ (fun _ => hSv _ hbr) ?_
            clear hK K
            try simp only [Act.put, List.setIfInBounds_toArray, List.set_cons_zero, List.set_cons_succ]
            refine wpAnyL_take (i := 10) (v := ?v67) rfl (by kernel_rfl) (by kernel_rfl) (by kernel_rfl) (by kernel_rfl) (by kernel_rfl) (Or.inl ⟨by rfl, ?hy67⟩) (hSv _ hbr) ?rest67
            case hy67 => (intro W2 hSw; (try dsimp only at hSw); go_simp; try with_reducible rfl)
            try simp only [Act.put, List.setIfInBounds_toArray, List.set_cons_zero, List.set_cons_succ]
            refine wpAnyL_take (i := 11) (v := ?v68) rfl (by kernel_rfl) (by kernel_rfl) (by kernel_rfl) (by kernel_rfl) (by kernel_rfl) (Or.inl ⟨by rfl, ?hy68⟩) (hSv _ hbr) ?rest68
            case hy68 => (intro W2 hSw; (try dsimp only at hSw); go_simp; try with_reducible rfl)
            try simp only [Act.put, List.setIfInBounds_toArray, List.set_cons_zero, List.set_cons_succ]
            refine wpAnyL_take (i := 12) (v := ?v69) rfl (by kernel_rfl) (by kernel_rfl) (by kernel_rfl) (by kernel_rfl) (by kernel_rfl) (Or.inl ⟨by rfl, ?hy69⟩) (hSv _ hbr) ?rest69
            case hy69 => (intro W2 hSw; (try dsimp only at hSw); go_simp; try with_reducible rfl)
            try simp only [Act.put, List.setIfInBounds_toArray, List.set_cons_zero, List.set_cons_succ]
            obtain ⟨y0, y1, y2, y3, z0, z1, z2, z3⟩ := hV.four
            refine wpAnyL_one (i := 14) rfl (by kernel_rfl) (fun K hK => ?_)
            go_simp
            have hlt := hN.out.lt
            obtain ⟨V2, hV2, hB2, q4, hst⟩ := set_frac na2 A2 n2 c2 nb2 B2 m2 d2 hbr hgV hV
            rw [hV2]
            have hN := hide (hN.out.keep hst.1 (fun cs => hst.2.1 _ _ _ (by omega)))
            have hM := hide (hM.out.keep hst.1 (fun cs => hst.2.1 _ _ _ (by omega)))
            replace hD := hide (hD.out.keep hst.1)
            replace hbr := hB2
            clear hV2 hB2 hst y0 y1 y2 y3 z0 z1 z2 z3
            refine hK.out _ _ (fun _ => hSv _ hbr) ?_
            clear hK K
            try simp only [Act.put, List.setIfInBounds_toArray, List.set_cons_zero, List.set_cons_succ]
            refine wpAnyL_take (i := 15) (v := ?v70) rfl (by kernel_rfl) (by kernel_rfl) (by kernel_rfl) (by kernel_rfl) (by kernel_rfl) (Or.inl ⟨by rfl, ?hy70⟩) (hSv _ hbr) ?rest70
            case hy70 => (intro W2 hSw; (try dsimp only at hSw); go_simp; try with_reducible rfl)
            try simp only [Act.put, List.setIfInBounds_toArray, List.set_cons_zero, List.set_cons_succ]
            refine wpAnyL_done (by kernel_rfl) ?_ _
            refine OnlyNormal.normal ?_
            try simp only [Act.put, List.setIfInBounds_toArray, List.set_cons_zero, List.set_cons_succ, List.getElem_toArray, List.getElem_cons_succ, List.getElem_cons_zero]
            go_simp
            go_wp2_with fail
            go_meet
            exact ⟨_, rfl, rfl, hbr, hN.out, hM.out, ⟨_, _, _, _, _, _, _, _, q4, hD.out⟩, by omega⟩
        · go_simp
          have hl15 := hN.out.lt
          obtain ⟨V, hVe, hBV, hV, hk, hk2, sV⟩ := new_obj 32 #[.bool false, .slice none 0 0, .bool false, .slice none 0 0] hbrW hbrW.size
          have hgV := hbrW.size
          rw [hVe]
          have hN : Hid (FracV V.drew g15 R) := hide ((FracV.keep (W := V) (w := wc) hN.out hk (fun cs => hk2 _ _ _)))
          have hl17 := hM.out.lt
          have hM : Hid (FracV V.drew gu ((pa : Rat) - X)) := hide ((FracV.keep (W := V) (w := wc) hM.out hk (fun cs => hk2 _ _ _)))
          replace hl17 : gu < wc.heap.size := hl17
          replace hbr : Below W0.heap.size W0 V.drew := below_dn hBV 1
          replace hV : Blk V.drew wc.heap.size 32 #[.bool false, .slice none 0 0, .bool false, .slice none 0 0] := hV
          have hl15 : g15 < wc.heap.size := hl15
          clear hVe hBV hk hk2
          refine hK.out _ _ (fun _ => hSv _ hbr) ?_
          clear hK K
          try simp only [Act.put, List.setIfInBounds_toArray, List.set_cons_zero, List.set_cons_succ]
          refine wpAnyL_one (i := 6) rfl (by kernel_rfl) (fun K hK => ?_)
          go_simp
          refine (hpl2.out _).mono ?_
          rintro e wa ⟨rfl, hba⟩
          have hbr := hbr.trans (hba.mono hbr.size)
          have hN := hide (hN.out.below hba)
          have hV := keep_blk hba hV
          have hM := hide (hM.out.below hba)
          refine hK.out _ _ (fun _ => hSv _ hbr) ?_
          clear hK K
          try simp only [Act.put, List.setIfInBounds_toArray, List.set_cons_zero, List.set_cons_succ]
          refine wpAnyL_one (i := 7) rfl (by kernel_rfl) (fun K hK => ?_)
          go_simp
          refine (rWhole_ok _ _ (by omega) (by omega)).mono ?_
          rintro e wb ⟨hbb, na1, A1, n1, c1, nb1, B1, m1, d1, rfl, hU⟩
          have hbr := hbr.trans (hbb.mono hbr.size)
          have hN := hide (hN.out.below hbb)
          replace hU := hide hU
          have hV := keep_blk hbb hV
          have hM := hide (hM.out.below hbb)
          refine hK.out _ _ (fun _ => hSv _ hbr) ?_
          clear hK K
          try simp only [Act.put, List.setIfInBounds_toArray, List.set_cons_zero, List.set_cons_succ]
          refine wpAnyL_one (i := 9) rfl (by kernel_rfl) (fun K hK => ?_)
          go_simp
          refine (rfSub_ok _ _ _ _ _ _ _ _ _ _ _ _ _ _ _ _ _ _ _ hU.out (hY.out.below hbr) hsV sY').mono ?_
          rintro e wd ⟨hbd, na2, A2, n2, c2, nb2, B2, m2, d2, rfl, hD⟩
          have hbr := hbr.trans (hbd.mono hbr.size)
          have hN := hide (hN.out.below hbd)
          replace hD := hide hD
          have hV := keep_blk hbd hV
          have hM := hide (hM.out.below hbd)
          refine hK.out _ _ (fun _ => hSv _ hbr) ?_
          clear hK K
          try simp only [Act.put, List.setIfInBounds_toArray, List.set_cons_zero, List.set_cons_succ]
          refine wpAnyL_take (i := 10) (v := ?v71) rfl (by kernel_rfl) (by kernel_rfl) (by kernel_rfl) (by kernel_rfl) (by kernel_rfl) (Or.inl ⟨by rfl, ?hy71⟩) (hSv _ hbr) ?rest71
          case hy71 => (intro W2 hSw; (try dsimp only at hSw); go_simp; try with_reducible rfl)
          try simp only [Act.put, List.setIfInBounds_toArray, List.set_cons_zero, List.set_cons_succ]
          refine wpAnyL_take (i := 11) (v := ?v72) rfl (by kernel_rfl) (by kernel_rfl) (by kernel_rfl) (by kernel_rfl) (by kernel_rfl) (Or.inl ⟨by rfl, ?hy72⟩) (hSv _ hbr) ?rest72
          case hy72 => (intro W2 hSw; (try dsimp only at hSw); go_simp; try with_reducible rfl)
          try simp only [Act.put, List.setIfInBounds_toArray, List.set_cons_zero, List.set_cons_succ]
          refine wpAnyL_take (i := 12) (v := ?v73) rfl (by kernel_rfl) (by kernel_rfl) (by kernel_rfl) (by kernel_rfl) (by kernel_rfl) (Or.inl ⟨by rfl, ?hy73⟩) (hSv _ hbr) ?rest73
          case hy73 => (intro W2 hSw; (try dsimp only at hSw); go_simp; try with_reducible rfl)
          try simp only [Act.put, List.setIfInBounds_toArray, List.set_cons_zero, List.set_cons_succ]
          obtain ⟨y0, y1, y2, y3, z0, z1, z2, z3⟩ := hV.four
          refine wpAnyL_one (i := 14) rfl (by kernel_rfl) (fun K hK => ?_)
          go_simp
          have hlt := hN.out.lt
          obtain ⟨V2, hV2, hB2, q4, hst⟩ := set_frac na2 A2 n2 c2 nb2 B2 m2 d2 hbr hgV hV
          rw [hV2]
          have hN := hide (hN.out.keep hst.1 (fun cs => hst.2.1 _ _ _ (by omega)))
          have hM := hide (hM.out.keep hst.1 (fun cs => hst.2.1 _ _ _ (by omega)))
          replace hD := hide (hD.out.keep hst.1)
          replace hbr := hB2
          clear hV2 hB2 hst y0 y1 y2 y3 z0 z1 z2 z3
          refine hK.out _ _ (fun _ => hSv _ hbr) ?_
          clear hK K
          try simp only [Act.put, List.setIfInBounds_toArray, List.set_cons_zero, List.set_cons_succ]
          refine wpAnyL_take (i := 15) (v := ?v74) rfl (by kernel_rfl) (by kernel_rfl) (by kernel_rfl) (by kernel_rfl) (by kernel_rfl) (Or.inl ⟨by rfl, ?hy74⟩) (hSv _ hbr) ?rest74
          case hy74 => (intro W2 hSw; (try dsimp only at hSw); go_simp; try with_reducible rfl)
          try simp only [Act.put, List.setIfInBounds_toArray, List.set_cons_zero, List.set_cons_succ]
          refine wpAnyL_done (by kernel_rfl) ?_ _
          refine OnlyNormal.normal ?_
          try simp only [Act.put, List.setIfInBounds_toArray, List.set_cons_zero, List.set_cons_succ, List.getElem_toArray, List.getElem_cons_succ, List.getElem_cons_zero]
          go_simp
          go_wp2_with fail
          go_meet
          exact ⟨_, rfl, rfl, hbr, hN.out, hM.out, ⟨_, _, _, _, _, _, _, _, q4, hD.out⟩, by omega⟩
      case rest =>
        clear hbr hN hM hpl hpl2 hSx hSy qx qy
        obtain ⟨gv, rfl, rfl, hbr, hN, hM, hL, hne2⟩ := hcut
        obtain ⟨na4, A4, n4, c4, nb4, B4, m4, d4, qu, hU⟩ := hM
        obtain ⟨na5, A5, n5, c5, nb5, B5, m5, d5, qv, hV⟩ := hL
        replace hN := hide hN
        obtain ⟨x0, x1, x2, x3, -⟩ := qu.four
        obtain ⟨y0, y1, y2, y3, -⟩ := qv.four
        go_wp2_with fail
        refine (rfMul_ok _ _ _ _ _ _ _ _ _ _ _ _ _ _ _ _ _ _ _ hU hV (uA.sm (by omega) (by omega)) (uB.sm (by omega) (by omega))).mono ?_
        rintro e w4 ⟨hb4, na6, A6, n6, c6, nb6, B6, m6, d6, rfl, hP⟩
        have uP := uA.mul uB
        have uQ := uP.mul (SmN.int hsP.out)
        replace hbr := hbr.trans (hb4.mono hbr.size)
        replace hN := hide (hN.out.below hb4)
        have hl15 := hN.out.lt
        clear x0 x1 x2 x3 y0 y1 y2 y3 qu qv hU hV hb4
        obtain ⟨V, hVe, hBV, qp, hk3, hk2, sV⟩ := new_obj 32 #[.bool false, .slice none 0 0, .bool false, .slice none 0 0] hbr hbr.size
        replace hP := hide (hP.keep hk3)
        replace hN := hide (hN.out.keep hk3 (fun cs => hk2 _ _ _))
        have hgp := hbr.size
        obtain ⟨y0, y1, y2, y3, z0, z1, z2, z3⟩ := qp.four
        go_wp2_with fail
        obtain ⟨w5, hw5, hb5, qp5, hst⟩ := set_frac na6 A6 n6 c6 nb6 B6 m6 d6 hBV hgp qp
        rw [hw5]
        replace hP := hide (hP.out.keep hst.1)
        replace hN := hide (hN.out.keep hst.1 (fun cs => hst.2.1 _ _ _ (by omega)))
        have hlp : w4.heap.size < w5.heap.size := (Array.getElem?_eq_some_iff.1 qp5).1
        clear hVe hw5 hk3 hk2 hst y0 y1 y2 y3 z0 z1 z2 z3 qp hBV hbr sV
        generalize w4.heap.size = gp at *
        have hbr : Below W0.heap.size W0 w5.drew := below_dn hb5 1
        have hSp : ∀ wx, Below w5.heap.size w5 wx → wx.cell? ⟨gp, 0, none⟩ = some (.bool na6) ∧ wx.cell? ⟨gp, 1, none⟩ = some (.slice A6 n6 c6) ∧ wx.cell? ⟨gp, 2, none⟩ = some (.bool nb6) ∧ wx.cell? ⟨gp, 3, none⟩ = some (.slice B6 m6 d6) := fun wx hbx => by
          obtain ⟨e0, e1, e2, e3, -⟩ := (keep_blk hbx qp5).four
          exact ⟨e0, e1, e2, e3⟩
        have hSq : ∀ wx, Below W0.heap.size W0 wx → wx.cell? ⟨g', o' + j, none⟩ = some (.int .i64 x) := fun wx hbx => (hbx.cell (lt_of_cell hcj)).trans hcj
        have hS5 : ∀ wx, Below w5.heap.size w5 wx → (wx.cell? ⟨w.heap.size, 0, none⟩ = some (.int .i64 W) ∧ wx.cell? ⟨w.heap.size, 1, none⟩ = some (.int .i64 H) ∧ wx.cell? ⟨w.heap.size, 2, none⟩ = some (.slice (some ⟨g', o', none⟩) n c) ∧ wx.cell? ⟨g, o + k, none⟩ = some (.int .i64 j)) ∧ wx.cell? ⟨g', o' + j, none⟩ = some (.int .i64 x) ∧ wx.cell? ⟨gp, 0, none⟩ = some (.bool na6) ∧ wx.cell? ⟨gp, 1, none⟩ = some (.slice A6 n6 c6) ∧ wx.cell? ⟨gp, 2, none⟩ = some (.bool nb6) ∧ wx.cell? ⟨gp, 3, none⟩ = some (.slice B6 m6 d6) := fun wx hbx => ⟨hSf wx (hb5.trans (hbx.mono hb5.size)), hSq wx (hb5.trans (hbx.mono hb5.size)), hSp wx hbx⟩
        replace hSf := hide hSf
        replace hSp := hide hSp
        replace hSq := hide hSq
        refine wp_held [14] (fun wx => (wx.cell? ⟨w.heap.size, 0, none⟩ = some (.int .i64 W) ∧ wx.cell? ⟨w.heap.size, 1, none⟩ = some (.int .i64 H) ∧ wx.cell? ⟨w.heap.size, 2, none⟩ = some (.slice (some ⟨g', o', none⟩) n c) ∧ wx.cell? ⟨g, o + k, none⟩ = some (.int .i64 j)) ∧ wx.cell? ⟨g', o' + j, none⟩ = some (.int .i64 x) ∧ wx.cell? ⟨gp, 0, none⟩ = some (.bool na6) ∧ wx.cell? ⟨gp, 1, none⟩ = some (.slice A6 n6 c6) ∧ wx.cell? ⟨gp, 2, none⟩ = some (.bool nb6) ∧ wx.cell? ⟨gp, 3, none⟩ = some (.slice B6 m6 d6)) hmx (hS5 _ (below_dn (Below.refl _ _) 1)) (fun _ => ?_)
        have hb6 : Below w5.heap.size w5 w5.drew := below_dn (Below.refl _ _) 1
        refine wpAnyL_take (i := 0) (v := ?v75) rfl (by kernel_rfl) (by kernel_rfl) (by kernel_rfl) (by kernel_rfl) (by kernel_rfl) (Or.inl ⟨by rfl, ?hy75⟩) (hS5 _ hb6) ?rest75
        case hy75 => (intro W2 hSw; (try dsimp only at hSw); go_simp; try with_reducible rfl)
        try simp only [Act.put, List.setIfInBounds_toArray, List.set_cons_zero, List.set_cons_succ]
        refine wpAnyL_take (i := 1) (v := ?v76) rfl (by kernel_rfl) (by kernel_rfl) (by kernel_rfl) (by kernel_rfl) (by kernel_rfl) (Or.inl ⟨by rfl, ?hy76⟩) (hS5 _ hb6) ?rest76
        case hy76 => (intro W2 hSw; (try dsimp only at hSw); go_simp; try with_reducible rfl)
        try simp only [Act.put, List.setIfInBounds_toArray, List.set_cons_zero, List.set_cons_succ]
        refine wpAnyL_take (i := 2) (v := ?v77) rfl (by kernel_rfl) (by kernel_rfl) (by kernel_rfl) (by kernel_rfl) (by kernel_rfl) (Or.inl ⟨by rfl, ?hy77⟩) (hS5 _ hb6) ?rest77
        case hy77 => (intro W2 hSw; (try dsimp only at hSw); go_simp; try with_reducible rfl)
        try simp only [Act.put, List.setIfInBounds_toArray, List.set_cons_zero, List.set_cons_succ]
        refine wpAnyL_take (i := 3) (v := ?v78) rfl (by kernel_rfl) (by kernel_rfl) (by kernel_rfl) (by kernel_rfl) (by kernel_rfl) (Or.inl ⟨by rfl, ?hy78⟩) (hS5 _ hb6) ?rest78
        case hy78 => (intro W2 hSw; (try dsimp only at hSw); go_simp; try with_reducible rfl)
        try simp only [Act.put, List.setIfInBounds_toArray, List.set_cons_zero, List.set_cons_succ]
        refine wpAnyL_take (i := 4) (v := ?v79) rfl (by kernel_rfl) (by kernel_rfl) (by kernel_rfl) (by kernel_rfl) (by kernel_rfl) (Or.inl ⟨by rfl, ?hy79⟩) (hS5 _ hb6) ?rest79
        case hy79 => (intro W2 hSw; (try dsimp only at hSw); go_simp; try with_reducible rfl)
        try simp only [Act.put, List.setIfInBounds_toArray, List.set_cons_zero, List.set_cons_succ]
        refine wpAnyL_take (i := 5) (v := ?v80) rfl (by kernel_rfl) (by kernel_rfl) (by kernel_rfl) (by kernel_rfl) (by kernel_rfl) (Or.inl ⟨by rfl, ?hy80⟩) (hS5 _ hb6) ?rest80
        case hy80 => (intro W2 hSw; (try dsimp only at hSw); go_simp; try with_reducible rfl)
        try simp only [Act.put, List.setIfInBounds_toArray, List.set_cons_zero, List.set_cons_succ]
        refine wpAnyL_take (i := 6) (v := ?v81) rfl (by kernel_rfl) (by kernel_rfl) (by kernel_rfl) (by kernel_rfl) (by kernel_rfl) (Or.inl ⟨by rfl, ?hy81⟩) (hS5 _ hb6) ?rest81
        case hy81 => (intro W2 hSw; (try dsimp only at hSw); go_simp; try with_reducible rfl)
        try simp only [Act.put, List.setIfInBounds_toArray, List.set_cons_zero, List.set_cons_succ]
        refine wpAnyL_take (i := 7) (v := ?v82) rfl (by kernel_rfl) (by kernel_rfl) (by kernel_rfl) (by kernel_rfl) (by kernel_rfl) (Or.inl ⟨by rfl, ?hy82⟩) (hS5 _ hb6) ?rest82
        case hy82 => (intro W2 hSw; (try dsimp only at hSw); go_simp; try with_reducible rfl)
        try simp only [Act.put, List.setIfInBounds_toArray, List.set_cons_zero, List.set_cons_succ]
        refine wpAnyL_take (i := 8) (v := ?v83) rfl (by kernel_rfl) (by kernel_rfl) (by kernel_rfl) (by kernel_rfl) (by kernel_rfl) (Or.inl ⟨by rfl, ?hy83⟩) (hS5 _ hb6) ?rest83
        case hy83 => (intro W2 hSw; (try dsimp only at hSw); go_simp; try with_reducible rfl)
        try simp only [Act.put, List.setIfInBounds_toArray, List.set_cons_zero, List.set_cons_succ]
        refine wpAnyL_one (i := 9) rfl (by kernel_rfl) (fun K hK => ?_)
        go_simp
        refine (rWhole_ok _ _ (by have := hx4.out; omega) (by have := hx4.out; omega)).mono ?_
        rintro e wb ⟨hbb, na1, A1, n1, c1, nb1, B1, m1, d1, rfl, hU⟩
        replace hb6 := hb6.trans (hbb.mono hb6.size)
        replace hU := hide hU
        refine hK.out _ _ (fun _ => hS5 _ hb6) ?_
        clear hK K
        try simp only [Act.put, List.setIfInBounds_toArray, List.set_cons_zero, List.set_cons_succ]
        have hP6 := hP.out.below hb6
        refine wpAnyL_one (i := 10) rfl (by kernel_rfl) (fun K hK => ?_)
        go_simp
        refine (rfMul_ok _ _ _ _ _ _ _ _ _ _ _ _ _ _ _ _ _ _ _ hP6 hU.out (uP.sm (by omega) (by omega)) ((SmN.int hsP.out).sm (by omega) (by omega))).mono ?_
        rintro e wd ⟨hbd, na7, A7, n7, c7, nb7, B7, m7, d7, rfl, hD⟩
        replace hb6 := hb6.trans (hbd.mono hb6.size)
        clear hP6 hU
        replace hD := hide hD
        refine hK.out _ _ (fun _ => hS5 _ hb6) ?_
        clear hK K
        try simp only [Act.put, List.setIfInBounds_toArray, List.set_cons_zero, List.set_cons_succ]
        refine wpAnyL_take (i := 11) (v := ?v84) rfl (by kernel_rfl) (by kernel_rfl) (by kernel_rfl) (by kernel_rfl) (by kernel_rfl) (Or.inl ⟨by rfl, ?hy84⟩) (hS5 _ hb6) ?rest84
        case hy84 => (intro W2 hSw; (try dsimp only at hSw); go_simp; try with_reducible rfl)
        try simp only [Act.put, List.setIfInBounds_toArray, List.set_cons_zero, List.set_cons_succ]
        refine wpAnyL_take (i := 12) (v := ?v85) rfl (by kernel_rfl) (by kernel_rfl) (by kernel_rfl) (by kernel_rfl) (by kernel_rfl) (Or.inl ⟨by rfl, ?hy85⟩) (hS5 _ hb6) ?rest85
        case hy85 => (intro W2 hSw; (try dsimp only at hSw); go_simp; try with_reducible rfl)
        try simp only [Act.put, List.setIfInBounds_toArray, List.set_cons_zero, List.set_cons_succ]
        refine wpAnyL_two (i := 13) (j := 14) rfl rfl (by kernel_rfl) (fun K hK => ?_) (fun K hK => ?_)
        · go_simp
          refine hK.out _ _ (fun _ => hS5 _ hb6) ?_
          clear hK K
          try simp only [Act.put, List.setIfInBounds_toArray, List.set_cons_zero, List.set_cons_succ]
          replace hN := hide (hN.out.below hb6)
          have qp6 := keep_blk hb6 qp5
          replace hbr := hb5.trans (hb6.mono hb5.size)
          have hl15 := hN.out.lt
          obtain ⟨y0, y1, y2, y3, z0, z1, z2, z3⟩ := qp6.four
          refine wpAnyL_late (i := 14) rfl (by kernel_rfl) (by kernel_rfl) (fun K hK => ?_)
          go_simp
          obtain ⟨w8, hw8, hb8, q8, hst⟩ := set_frac na7 A7 n7 c7 nb7 B7 m7 d7 hbr hgp qp6
          rw [hw8]
          replace hN := hide (hN.out.keep hst.1 (fun cs => hst.2.1 _ _ _ (by omega)))
          replace hD := hide (hD.out.keep hst.1)
          replace hbr := hb8
          clear hw8 hb8 hst y0 y1 y2 y3 z0 z1 z2 z3 qp6
          refine hK.out _ _ ?_
          clear hK K
          try simp only [Act.put, List.setIfInBounds_toArray, List.set_cons_zero, List.set_cons_succ]
          refine wpAnyL_done (by kernel_rfl) ?_ _
          refine OnlyNormal.normal ?_
          try simp only [Act.put, List.setIfInBounds_toArray, List.set_cons_zero, List.set_cons_succ, List.getElem_toArray, List.getElem_cons_succ, List.getElem_cons_zero]
          obtain ⟨na9, A9, n9, c9, nb9, B9, m9, d9, qn, hNf⟩ := hN.out
          obtain ⟨x0, x1, x2, x3, z0, z1, z2, z3⟩ := qn.four
          obtain ⟨y0, y1, y2, y3, -⟩ := q8.four
          go_wp2_with fail
          refine (rfAdd_ok _ _ _ _ _ _ _ _ _ _ _ _ _ _ _ _ _ _ _ hNf hD.out (hsmN.out.sm (by omega) (by omega)) (uQ.sm (by omega) (by omega))).mono ?_
          rintro e we ⟨hbe, na8, A8, n8, c8, nb8, B8, m8, d8, rfl, hR⟩
          replace hbr := hbr.trans (hbe.mono hbr.size)
          have qn9 := keep_blk hbe qn
          clear x0 x1 x2 x3 y0 y1 y2 y3 z0 z1 z2 z3 q8 qn hNf
          obtain ⟨x0, x1, x2, x3, z0, z1, z2, z3⟩ := qn9.four
          go_wp2_with fail
          obtain ⟨wf, hwf, hbf, qf, hst⟩ := set_frac na8 A8 n8 c8 nb8 B8 m8 d8 hbr hg15 qn9
          rw [hwf]
          rw [← hS.out] at hR
          replace hR := hR.keep hst.1
          go_round
          case rel => exact ⟨k + 1, by omega, by go_num, hbf, ⟨_, _, _, _, _, _, _, _, qf, hR⟩⟩
          case measure => simp [intOf]; omega
        · replace hN := hide (hN.out.below hb6)
          have qp6 := keep_blk hb6 qp5
          replace hbr := hb5.trans (hb6.mono hb5.size)
          have hl15 := hN.out.lt
          obtain ⟨y0, y1, y2, y3, z0, z1, z2, z3⟩ := qp6.four
          go_simp
          obtain ⟨w8, hw8, hb8, q8, hst⟩ := set_frac na7 A7 n7 c7 nb7 B7 m7 d7 hbr hgp qp6
          rw [hw8]
          replace hN := hide (hN.out.keep hst.1 (fun cs => hst.2.1 _ _ _ (by omega)))
          replace hD := hide (hD.out.keep hst.1)
          replace hbr := hb8
          clear hw8 hb8 hst y0 y1 y2 y3 z0 z1 z2 z3 qp6
          refine hK.out _ _ (fun h => absurd h (by decide)) ?_
          clear hK K
          try simp only [Act.put, List.setIfInBounds_toArray, List.set_cons_zero, List.set_cons_succ]
          refine wpAnyL_late (i := 13) rfl (by kernel_rfl) (by kernel_rfl) (fun K hK => ?_)
          go_simp
          refine hK.out _ _ ?_
          clear hK K
          try simp only [Act.put, List.setIfInBounds_toArray, List.set_cons_zero, List.set_cons_succ]
          refine wpAnyL_done (by kernel_rfl) ?_ _
          refine OnlyNormal.normal ?_
          try simp only [Act.put, List.setIfInBounds_toArray, List.set_cons_zero, List.set_cons_succ, List.getElem_toArray, List.getElem_cons_succ, List.getElem_cons_zero]
          obtain ⟨na9, A9, n9, c9, nb9, B9, m9, d9, qn, hNf⟩ := hN.out
          obtain ⟨x0, x1, x2, x3, z0, z1, z2, z3⟩ := qn.four
          obtain ⟨y0, y1, y2, y3, -⟩ := q8.four
          go_wp2_with fail
          refine (rfAdd_ok _ _ _ _ _ _ _ _ _ _ _ _ _ _ _ _ _ _ _ hNf hD.out (hsmN.out.sm (by omega) (by omega)) (uQ.sm (by omega) (by omega))).mono ?_
          rintro e we ⟨hbe, na8, A8, n8, c8, nb8, B8, m8, d8, rfl, hR⟩
          replace hbr := hbr.trans (hbe.mono hbr.size)
          have qn9 := keep_blk hbe qn
          clear x0 x1 x2 x3 y0 y1 y2 y3 z0 z1 z2 z3 q8 qn hNf
          obtain ⟨x0, x1, x2, x3, z0, z1, z2, z3⟩ := qn9.four
          go_wp2_with fail
          obtain ⟨wf, hwf, hbf, qf, hst⟩ := set_frac na8 A8 n8 c8 nb8 B8 m8 d8 hbr hg15 qn9
          rw [hwf]
          rw [← hS.out] at hR
          replace hR := hR.keep hst.1
          go_round
          case rel => exact ⟨k + 1, by omega, by go_num, hbf, ⟨_, _, _, _, _, _, _, _, qf, hR⟩⟩
          case measure => simp [intOf]; omega
end Go.Proofs.YtkippclhbkjbmaaGreat
