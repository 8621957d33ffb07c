/- Package centroid: Moments of a valid field and list. -/
import Derived.Deep.CutBlock
import Derived.Deep.DeepCutAuto
import Derived.Test.YtkippclhbkjbmaaZn45
import Derived.Test.YtkippclhbkjbmaaZn40
set_option linter.unusedSimpArgs false
set_option linter.unusedVariables false

namespace Go.Proofs.Ytkippclhbkjbmaa
open Go.RowKit
attribute [local go_sem] add_lit

theorem pw2_of {a : Int} (h : a.natAbs ≤ 9000000000000000000) : a.natAbs < pw 2 := by
  refine Nat.lt_of_le_of_lt h ?_
  rw [pw_succ, pw_succ, pw_zero]; decide
theorem index6 (cs : Array Value) (r : Nat) (v : Value) (w : World) (hr : r < 6) (hv : cs[r]? = some v) : (Instr.index 56 (.agg cs) (.int .i64 r)).run Try.prog w = .ok v w := by
  have hu : Try.prog.underlying 56 = some (.array 6 2) := by kernel_rfl
  have hs : ∀ w, (sizeOf 2).run Try.prog w = .ok 1 w := fun w => by simp [go_sem]
  have ha : ∀ w, (isAgg 2).run Try.prog w = .ok false w := fun w => by simp [go_sem]
  unfold Instr.index
  simp only [asIntOf, Sem.run_bind, Sem.run_pure, Result.andThen_ok, run_underlying hu]
  rw [if_pos ⟨by omega, by omega⟩]
  simp only [Sem.run_bind, hs, Result.andThen_ok, part, ha, Int.toNat_natCast, Nat.mul_one]
  rw [if_neg (by decide), hv]
  rfl
theorem wpList_index6 {ops : Array Oper} {rest : List Oper} {op : Oper} {a : Act} {w : World} {Q : Exit → Act → World → Prop} (hgd : op.guard = none) (x y : Operand) (ho : op.op = .index 56 x y) (cs : Array Value) (r : Nat) (v : Value) (hx : a.eval x = .agg cs) (hy : a.eval y = .int .i64 r) (hr : r < 6) (hv : cs[r]? = some v)
    (h : wpList Try.prog ops Q rest (a.put op.dst v) w) : wpList Try.prog ops Q (op :: rest) a w :=
  wpList_plain hgd fun _ hK => by
    unfold Oper.wp execOp
    simp only [ho, hx, hy, index6 cs r v w hr hv, Sem.run_bind, Sem.run_pure, Result.andThen_ok]
    exact hK _ _ h

set_option maxRecDepth 100000 in
set_option maxHeartbeats 8000000 in
theorem moments_good (W H : Int) (A : Option Addr) (n c : Nat) (B : Option Addr) (m d : Nat) (ps l : List Int) (w : World) (hp : LimI w A n c ps) (hl : LimI w B m d l) (h8 : m ≤ 40) (iW : I64 W) (iH : I64 H) (hE : startE W H n ps l = 0) :
    Calls Try.prog 6 #[.agg #[.int .i64 W, .int .i64 H, .slice A n c], .slice B m d] w fun e w' => (psum ps l ≤ 0 → MomP w 18 Mom.zero e w') ∧ (0 < psum ps l → MomP w 0 (momOf W ps l) e w') := by
  have hmx : Try.prog.follows .mixedOrders = true := by kernel_rfl
  obtain ⟨hfo, hli⟩ := startE_zero hE
  have hf := fieldOk_size hfo
  have hlm : l.length = m := hl.lenI
  have hr := rng_of hfo hli hlm
  have h9 : n ≤ 10000 := by
    have : W * H ≤ 100 * 100 := Int.mul_le_mul hf.2.1 hf.2.2.2.1 (by omega) (by omega)
    omega
  have hps : psum ps l = sumK (gm W ps 0) l m := by unfold psum; rw [hlm]; rfl
  have hTb : ∀ q k, k ≤ m → (sumK (gm W ps q) l k).natAbs ≤ 40 * (9801 * 8589934592) := fun q k hk => sumK_rng (m := m) (fun j hj => gm_rng (q := q) hf hr hj) hk h8
  replace hf := hide hf
  replace hr := hide hr
  replace hTb := hide hTb
  replace hps := hide hps
  replace hlm := hide hlm
  clear hfo hli
  obtain ⟨W0, hW0, hB, ⟨q0, qm⟩, sz⟩ := alloc2 w 24 #[.int .i64 W, .int .i64 H, .slice A n c] 31 #[.int .i64 0, .bool false, .slice none 0 0, .bool false, .slice none 0 0, .bool false, .slice none 0 0, .bool false, .slice none 0 0, .bool false, .slice none 0 0, .bool false, .slice none 0 0, .bool false, .slice none 0 0, .bool false, .slice none 0 0, .bool false, .slice none 0 0, .bool false, .slice none 0 0]
  have c0 := q0.cell 0
  have c1 := q0.cell 1
  have c2 := q0.cell 2
  simp at c0 c1 c2
  replace hp := hide (hp.below hB)
  replace hl := hide (hl.below hB)
  go_enter Try.func6, Try.ntmps6
  go_wp2_with fail
  refine (start_ok W H A n c B m d ps l W0 hp.out hl.out (by omega) (by omega) iW iH 0 hE).mono ?_
  rintro e w1 ⟨⟨W', H', A', n', c', B', m', d', rfl, hsame⟩, hb1⟩
  obtain ⟨rfl, rfl, rfl, rfl, rfl, rfl, rfl, rfl⟩ := hsame rfl
  clear hW0 c0 c1 c2 hE hsame
  replace hB := hB.trans (hb1.mono hB.size)
  replace q0 := keep_blk hb1 q0
  replace qm := keep_blk hb1 qm
  replace hp := hide (hp.out.below hb1)
  replace hl := hide (hl.out.below hb1)
  have hsz : W0.heap.size ≤ w1.heap.size := hb1.size
  obtain ⟨V1, hV1, hB1, q6, hk1, hk1', sV1⟩ := new_obj 53 #[.int .i64 0, .int .i64 0, .slice none 0 0, .slice none 0 0] (Below.refl w1.heap.size w1) (Nat.le_refl _)
  obtain ⟨V2, hV2, hB2, q6b, hst⟩ := set_src W' H' A' n' c' B' m' d' hB1 (Nat.le_refl _) q6
  have sV2 : V2.heap.size = w1.heap.size + 1 := by rw [← hV2]; simp [sV1]
  obtain ⟨V3, hV3, hB3, q8, hk3, hk3', sV3⟩ := new_obj 56 #[.int .i64 0, .int .i64 0, .int .i64 0, .int .i64 0, .int .i64 0, .int .i64 0] (Below.refl V2.heap.size V2) (Nat.le_refl _)
  obtain ⟨a0, a1, a2, a3, f0, f1, f2, f3⟩ := q6.four
  replace q0 := hst _ _ _ (by omega) (hk1' _ _ _ q0)
  replace qm := hst _ _ _ (by omega) (hk1' _ _ _ qm)
  replace hp := hide (hp.out.below hB2)
  replace hl := hide (hl.out.below hB2)
  replace hB := hB.trans (hB2.mono hB.size)
  go_wp2_with fail
  clear a0 a1 a2 a3 f0 f1 f2 f3 hV1 hV2 hV3 hk1 hk1' q6 hst hk3 hk3' hB1 sV1 hB2 hb1
  generalize w1.heap.size = g6 at *
  rw [sV2] at q8
  generalize hg86 : g6 + 1 = g8 at *
  have hg8 : Hid (V2.heap.size = g8) := hide sV2
  replace hg86 := hide hg86
  go_loopw [33] (fun i wr => ∃ k : Nat, k ≤ m' ∧ i = .int .i64 k ∧ Below V2.heap.size V2 wr ∧ Blk wr g8 56 #[.int .i64 (sumK (gm W' ps 0) l k), .int .i64 (sumK (gm W' ps 1) l k), .int .i64 (sumK (gm W' ps 2) l k), .int .i64 (sumK (gm W' ps 3) l k), .int .i64 (sumK (gm W' ps 4) l k), .int .i64 (sumK (gm W' ps 5) l k)]) (fun i _ => m' - (intOf i).toNat)
  case atStart => exact ⟨0, by omega, rfl, hB3, q8⟩
  case round =>
    clear q8 hB3
    obtain ⟨k, h1, rfl, hbr, q8⟩ := hrel
    by_cases hk : k < m'
    case neg =>
      obtain rfl : k = m' := by omega
      have htk : decide ((k : Int) < (k : Int)) = false := by simp
      have hS0 := hps.out
      have hBr := hB.trans (hbr.mono (Nat.le_trans hB.size (Nat.le_refl _)))
      have qmr := keep_blk hbr qm
      have hT := fun q => hTb.out q k (Nat.le_refl _)
      have b0 := q8.cell 0
      have b1 := q8.cell 1
      have b2 := q8.cell 2
      have b3 := q8.cell 3
      have b4 := q8.cell 4
      have b5 := q8.cell 5
      simp at b0 b1 b2 b3 b4 b5
      generalize hSS : sumK (gm W' ps 0) l k = S at *
      obtain ⟨hT0b, hT0c⟩ : -9000000000000000000 ≤ S ∧ S ≤ 9000000000000000000 := by have := hT 0; rw [hSS] at this; omega
      by_cases hs : S ≤ 0
      · have ts : decide (S ≤ 0) = true := by simpa using hs
        go_wp2_with ((refine wpList_store_mid rfl 31 _ _ rfl (w.heap.size + 1) 0 #[.int .i64 0, .bool false, .slice none 0 0, .bool false, .slice none 0 0, .bool false, .slice none 0 0, .bool false, .slice none 0 0, .bool false, .slice none 0 0, .bool false, .slice none 0 0, .bool false, .slice none 0 0, .bool false, .slice none 0 0, .bool false, .slice none 0 0, .bool false, .slice none 0 0] rfl rfl (qmr.there (by simp)) info_mom (by simp [Value.oneCell']) ?_; obtain ⟨V9, hV9, hB9, qm9, -⟩ := set_all [.int .i64 0, .bool false, .slice none 0 0, .bool false, .slice none 0 0, .bool false, .slice none 0 0, .bool false, .slice none 0 0, .bool false, .slice none 0 0, .bool false, .slice none 0 0, .bool false, .slice none 0 0, .bool false, .slice none 0 0, .bool false, .slice none 0 0, .bool false, .slice none 0 0] [.int .i64 0, .bool false, .slice none 0 0, .bool false, .slice none 0 0, .bool false, .slice none 0 0, .bool false, .slice none 0 0, .bool false, .slice none 0 0, .bool false, .slice none 0 0, .bool false, .slice none 0 0, .bool false, .slice none 0 0, .bool false, .slice none 0 0, .bool false, .slice none 0 0] rfl rfl rfl hBr (by omega) qmr; rw [hV9]))
        obtain ⟨d0, hd1, hd2⟩ := und_mom
        refine bodyPost_ret (results_cell_tmp rfl _ _ (w.heap.size + 1) [.int .i64 0, .bool false, .slice none 0 0, .bool false, .slice none 0 0, .bool false, .slice none 0 0, .bool false, .slice none 0 0, .bool false, .slice none 0 0, .bool false, .slice none 0 0, .bool false, .slice none 0 0, .bool false, .slice none 0 0, .bool false, .slice none 0 0, .bool false, .slice none 0 0] d0 rfl (qm9.rangeAt [] (rest := []) rfl) hd1 hd2 info_mom) rfl ?_
        exact ⟨fun _ => ⟨hB9, _, rfl, MomF.zero _⟩, fun h => absurd h (by rw [hS0]; omega)⟩
      have ts : decide (S ≤ 0) = false := by simpa using hs
      have hs0 : 0 < S := by omega
      have hqS : ∀ q, SmN 2 2 (Rat.divInt (sumK (gm W' ps q) l k) S) := fun q => SmN.div hs0 (pw2_of (Nat.le_trans (hT q) (by omega))) (pw2_of (by omega))
      obtain ⟨V4, hV4, hB4, q16, -, hk4', sV4⟩ := new_obj 59 #[.int .i64 0] (Below.refl wr.heap.size wr) (Nat.le_refl _)
      obtain ⟨V5, hV5, hB5, q17, -, hk5', sV5⟩ := new_obj 60 #[.bool false, .slice none 0 0, .bool false, .slice none 0 0, .bool false, .slice none 0 0, .bool false, .slice none 0 0, .bool false, .slice none 0 0, .bool false, .slice none 0 0, .bool false, .slice none 0 0, .bool false, .slice none 0 0, .bool false, .slice none 0 0, .bool false, .slice none 0 0, .bool false, .slice none 0 0, .bool false, .slice none 0 0] (Below.refl V4.heap.size V4) (Nat.le_refl _)
      replace q8 := hk4' _ _ _ q8
      replace qm := hk4' _ _ _ qmr
      replace hB := hBr.trans (hB4.mono hBr.size)
      go_wp2_with fail
      rw [sV4] at q17
      clear hV4 hV5 hk4' hk5' hbr q6b q0 hp hl hBr qmr b0 b1 b2 b3 b4 b5
      have hg16 : wr.heap.size < V4.heap.size := by omega
      skip
      generalize hg16' : wr.heap.size = g16 at *
      generalize hg17 : g16 + 1 = g17 at *
      replace hg17 : Hid (V4.heap.size = g17) := hide sV4
      go_loopw [78] (fun i wx => ∃ r : Nat, r ≤ 6 ∧ i = .int .i64 r ∧ Below V4.heap.size V4 wx ∧ ∃ (na1 : Nat → Bool) (A1 : Nat → Option Addr) (n1 c1 : Nat → Nat) (nb1 : Nat → Bool) (B1 : Nat → Option Addr) (m1 d1 : Nat → Nat), Blk wx g17 60 #[.bool (na1 0), .slice (A1 0) (n1 0) (c1 0), .bool (nb1 0), .slice (B1 0) (m1 0) (d1 0), .bool (na1 1), .slice (A1 1) (n1 1) (c1 1), .bool (nb1 1), .slice (B1 1) (m1 1) (d1 1), .bool (na1 2), .slice (A1 2) (n1 2) (c1 2), .bool (nb1 2), .slice (B1 2) (m1 2) (d1 2), .bool (na1 3), .slice (A1 3) (n1 3) (c1 3), .bool (nb1 3), .slice (B1 3) (m1 3) (d1 3), .bool (na1 4), .slice (A1 4) (n1 4) (c1 4), .bool (nb1 4), .slice (B1 4) (m1 4) (d1 4), .bool (na1 5), .slice (A1 5) (n1 5) (c1 5), .bool (nb1 5), .slice (B1 5) (m1 5) (d1 5)] ∧ ∀ j, j < r → Fr wx (na1 j) (A1 j) (n1 j) (c1 j) (nb1 j) (B1 j) (m1 j) (d1 j) (Rat.divInt (sumK (gm W' ps j) l k) S)) (fun i _ => 6 - (intOf i).toNat)
      case atStart => exact ⟨0, by omega, rfl, hB5, fun _ => false, fun _ => none, fun _ => 0, fun _ => 0, fun _ => false, fun _ => none, fun _ => 0, fun _ => 0, q17, fun j hj => by omega⟩
      case round =>
        clear q17 hB5
        obtain ⟨r, hr6, rfl, hb7, na1, A1, n1, c1, nb1, B1, m1, d1, q17, hFr⟩ := hrel
        have hS6 : ∀ wx, Below V4.heap.size V4 wx → wx.cell? ⟨g8, 0, none⟩ = some (.int .i64 S) ∧ wx.cell? ⟨g8, 1, none⟩ = some (.int .i64 (sumK (gm W' ps 1) l k)) ∧ wx.cell? ⟨g8, 2, none⟩ = some (.int .i64 (sumK (gm W' ps 2) l k)) ∧ wx.cell? ⟨g8, 3, none⟩ = some (.int .i64 (sumK (gm W' ps 3) l k)) ∧ wx.cell? ⟨g8, 4, none⟩ = some (.int .i64 (sumK (gm W' ps 4) l k)) ∧ wx.cell? ⟨g8, 5, none⟩ = some (.int .i64 (sumK (gm W' ps 5) l k)) := fun wx hbx => by
          have q := keep_blk hbx q8
          have b0 := q.cell 0
          have b1 := q.cell 1
          have b2 := q.cell 2
          have b3 := q.cell 3
          have b4 := q.cell 4
          have b5 := q.cell 5
          simp at b0 b1 b2 b3 b4 b5
          exact ⟨b0, b1, b2, b3, b4, b5⟩
        rcases r with _ | _ | _ | _ | _ | _ | r
        · have hTr := hT 0
          go_wp2_with fail
          refine wp_held [] (fun wx => wx.cell? ⟨g8, 0, none⟩ = some (.int .i64 S) ∧ wx.cell? ⟨g8, 1, none⟩ = some (.int .i64 (sumK (gm W' ps 1) l k)) ∧ wx.cell? ⟨g8, 2, none⟩ = some (.int .i64 (sumK (gm W' ps 2) l k)) ∧ wx.cell? ⟨g8, 3, none⟩ = some (.int .i64 (sumK (gm W' ps 3) l k)) ∧ wx.cell? ⟨g8, 4, none⟩ = some (.int .i64 (sumK (gm W' ps 4) l k)) ∧ wx.cell? ⟨g8, 5, none⟩ = some (.int .i64 (sumK (gm W' ps 5) l k))) hmx (hS6 _ (below_dn hb7 1)) (fun _ => ?_)
          have hb8 : Below V4.heap.size V4 wr.drew := below_dn hb7 1
          have hb9 : Below wr.heap.size wr wr.drew := below_dn (Below.refl _ _) 1
          refine wpAnyL_take (i := 0) (v := ?v13) rfl (by kernel_rfl) (by kernel_rfl) (by kernel_rfl) (by kernel_rfl) (by kernel_rfl) (Or.inl ⟨by rfl, ?hy13⟩) (hS6 _ hb8) ?rest13
          case hy13 => (intro W2 hSw; (try dsimp only at hSw); go_simp; try with_reducible rfl)
          try simp only [Act.put, List.setIfInBounds_toArray, List.set_cons_zero, List.set_cons_succ]
          refine wpAnyL_take (i := 1) (v := ?v14) rfl (by kernel_rfl) (by kernel_rfl) (by kernel_rfl) (by kernel_rfl) (by kernel_rfl) (Or.inl ⟨by rfl, ?hy14⟩) (hS6 _ hb8) ?rest14
          case hy14 => (intro W2 hSw; (try dsimp only at hSw); go_simp; try with_reducible rfl)
          try simp only [Act.put, List.setIfInBounds_toArray, List.set_cons_zero, List.set_cons_succ]
          refine wpAnyL_take (i := 2) (v := ?v15) rfl (by kernel_rfl) (by kernel_rfl) (by kernel_rfl) (by kernel_rfl) (by kernel_rfl) (Or.inl ⟨by rfl, ?hy15⟩) (hS6 _ hb8) ?rest15
          case hy15 => (intro W2 hSw; (try dsimp only at hSw); go_simp; try with_reducible rfl)
          try simp only [Act.put, List.setIfInBounds_toArray, List.set_cons_zero, List.set_cons_succ]
          refine wpAnyL_take (i := 3) (v := ?v16) rfl (by kernel_rfl) (by kernel_rfl) (by kernel_rfl) (by kernel_rfl) (by kernel_rfl) (Or.inl ⟨by rfl, ?hy16⟩) (hS6 _ hb8) ?rest16
          case hy16 => (intro W2 hSw; (try dsimp only at hSw); go_simp; try with_reducible rfl)
          try simp only [Act.put, List.setIfInBounds_toArray, List.set_cons_zero, List.set_cons_succ]
          refine wpAnyL_take (i := 4) (v := ?v17) rfl (by kernel_rfl) (by kernel_rfl) (by kernel_rfl) (by kernel_rfl) (by kernel_rfl) (Or.inl ⟨by rfl, ?hy17⟩) (hS6 _ hb8) ?rest17
          case hy17 => (intro W2 hSw; (try dsimp only at hSw); go_simp; try with_reducible rfl)
          try simp only [Act.put, List.setIfInBounds_toArray, List.set_cons_zero, List.set_cons_succ]
          refine wpAnyL_take (i := 5) (v := ?v18) rfl (by kernel_rfl) (by kernel_rfl) (by kernel_rfl) (by kernel_rfl) (by kernel_rfl) (Or.inl ⟨by rfl, ?hy18⟩) (hS6 _ hb8) ?rest18
          case hy18 => (intro W2 hSw; (try dsimp only at hSw); go_simp; try with_reducible rfl)
          try simp only [Act.put, List.setIfInBounds_toArray, List.set_cons_zero, List.set_cons_succ]
          refine wpAnyL_one (i := 6) rfl (by kernel_rfl) (fun K hK => ?_)
          go_simp
          refine (Of_pos S S wr.drew (by omega) (by omega) hs0 (by omega)).mono ?_
          rintro e wa ⟨hba, na2, A2, n2, c2, nb2, B2, m2, d2, rfl, hF⟩
          replace hb8 := hb8.trans (hba.mono hb8.size)
          replace hb9 := hb9.trans (hba.mono hb9.size)
          replace hF := hide hF
          refine hK.out _ _ (fun _ => hS6 _ hb8) ?_
          clear hK K
          try simp only [Act.put, List.setIfInBounds_toArray, List.set_cons_zero, List.set_cons_succ]
          refine wpAnyL_take (i := 7) (v := ?v19) rfl (by kernel_rfl) (by kernel_rfl) (by kernel_rfl) (by kernel_rfl) (by kernel_rfl) (Or.inl ⟨by rfl, ?hy19⟩) (hS6 _ hb8) ?rest19
          case hy19 => (intro W2 hSw; (try dsimp only at hSw); go_simp; try with_reducible rfl)
          try simp only [Act.put, List.setIfInBounds_toArray, List.set_cons_zero, List.set_cons_succ]
          refine wpAnyL_take (i := 8) (v := ?v20) rfl (by kernel_rfl) (by kernel_rfl) (by kernel_rfl) (by kernel_rfl) (by kernel_rfl) (Or.inl ⟨by rfl, ?hy20⟩) (hS6 _ hb8) ?rest20
          case hy20 => (intro W2 hSw; (try dsimp only at hSw); go_simp; try with_reducible rfl)
          try simp only [Act.put, List.setIfInBounds_toArray, List.set_cons_zero, List.set_cons_succ]
          refine wpAnyL_one (i := 9) rfl (by kernel_rfl) (fun K hK => ?_)
          have q16a := keep_blk hb8 q16
          go_simp
          refine (keep_ok g16 _ na2 nb2 A2 B2 n2 c2 m2 d2 wa q16a).mono ?_
          rintro e wb ⟨rfl, hbb⟩
          replace hb8 := hb8.trans (hbb.mono hb8.size)
          replace hb9 := hb9.trans (hbb.mono hb9.size)
          replace hF := hide (hF.out.below hbb)
          clear q16a
          refine hK.out _ _ (fun _ => hS6 _ hb8) ?_
          clear hK K
          try simp only [Act.put, List.setIfInBounds_toArray, List.set_cons_zero, List.set_cons_succ]
          refine wpAnyL_take (i := 10) (v := ?v21) rfl (by kernel_rfl) (by kernel_rfl) (by kernel_rfl) (by kernel_rfl) (by kernel_rfl) (Or.inl ⟨by rfl, ?hy21⟩) (hS6 _ hb8) ?rest21
          case hy21 => (intro W2 hSw; (try dsimp only at hSw); go_simp; try with_reducible rfl)
          try simp only [Act.put, List.setIfInBounds_toArray, List.set_cons_zero, List.set_cons_succ]
          have q17b := keep_blk hb9 q17
          have y0 := q17b.cell 0
          have y1 := q17b.cell 1
          have y2 := q17b.cell 2
          have y3 := q17b.cell 3
          simp at y0 y1 y2 y3
          have z0 := q17b.frozen 0
          have z1 := q17b.frozen 1
          have z2 := q17b.frozen 2
          have z3 := q17b.frozen 3
          obtain ⟨wc, hwc, hbc, q17c, hst⟩ := set_mid (t := 60) (B := V4.heap.size) (w0 := V4) (g := g17) [.bool (na1 1), .slice (A1 1) (n1 1) (c1 1), .bool (nb1 1), .slice (B1 1) (m1 1) (d1 1), .bool (na1 2), .slice (A1 2) (n1 2) (c1 2), .bool (nb1 2), .slice (B1 2) (m1 2) (d1 2), .bool (na1 3), .slice (A1 3) (n1 3) (c1 3), .bool (nb1 3), .slice (B1 3) (m1 3) (d1 3), .bool (na1 4), .slice (A1 4) (n1 4) (c1 4), .bool (nb1 4), .slice (B1 4) (m1 4) (d1 4), .bool (na1 5), .slice (A1 5) (n1 5) (c1 5), .bool (nb1 5), .slice (B1 5) (m1 5) (d1 5)] [.bool na2, .slice A2 n2 c2, .bool nb2, .slice B2 m2 d2] [.bool (na1 0), .slice (A1 0) (n1 0) (c1 0), .bool (nb1 0), .slice (B1 0) (m1 0) (d1 0)] [] wb 0 rfl rfl rfl rfl hb8 (by rw [hg17.out]; exact Nat.le_refl _) q17b
          simp only [World.setCells, Nat.reduceAdd, Nat.zero_add] at hwc
          have q8c := hst.2.1 _ _ _ (by have := hg17.out; have := (Array.getElem?_eq_some_iff.1 q8).1; omega) (keep_blk hb8 q8)
          refine wpAnyL_one (i := 11) rfl (by kernel_rfl) (fun K hK => ?_)
          go_simp
          (try rw [hwc])
          refine hK.out _ _ (fun _ => hS6 _ hbc) ?_
          clear hK K
          try simp only [Act.put, List.setIfInBounds_toArray, List.set_cons_zero, List.set_cons_succ]
          refine wpAnyL_done (by kernel_rfl) ?_ _
          refine OnlyNormal.normal ?_
          try simp only [Act.put, List.setIfInBounds_toArray, List.set_cons_zero, List.set_cons_succ, List.getElem_toArray, List.getElem_cons_succ, List.getElem_cons_zero]
          go_simp
          go_wp2_with fail
          go_round
          case rel => exact ⟨1, by omega, by go_num, hbc, fun j => if j = 0 then na2 else na1 j, fun j => if j = 0 then A2 else A1 j, fun j => if j = 0 then n2 else n1 j, fun j => if j = 0 then c2 else c1 j, fun j => if j = 0 then nb2 else nb1 j, fun j => if j = 0 then B2 else B1 j, fun j => if j = 0 then m2 else m1 j, fun j => if j = 0 then d2 else d1 j, by simpa using q17c, fun j hj => by
            by_cases e : j = 0
            · subst e; simpa [hSS] using hF.out.keep hst.1
            · simp only [e, if_false]; exact (((hFr j (by omega)).below hb9)).keep hst.1⟩
          case measure => simp [intOf]
        · have hTr := hT 1
          go_wp2_with fail
          refine wp_held [] (fun wx => wx.cell? ⟨g8, 0, none⟩ = some (.int .i64 S) ∧ wx.cell? ⟨g8, 1, none⟩ = some (.int .i64 (sumK (gm W' ps 1) l k)) ∧ wx.cell? ⟨g8, 2, none⟩ = some (.int .i64 (sumK (gm W' ps 2) l k)) ∧ wx.cell? ⟨g8, 3, none⟩ = some (.int .i64 (sumK (gm W' ps 3) l k)) ∧ wx.cell? ⟨g8, 4, none⟩ = some (.int .i64 (sumK (gm W' ps 4) l k)) ∧ wx.cell? ⟨g8, 5, none⟩ = some (.int .i64 (sumK (gm W' ps 5) l k))) hmx (hS6 _ (below_dn hb7 1)) (fun _ => ?_)
          have hb8 : Below V4.heap.size V4 wr.drew := below_dn hb7 1
          have hb9 : Below wr.heap.size wr wr.drew := below_dn (Below.refl _ _) 1
          refine wpAnyL_take (i := 0) (v := ?v22) rfl (by kernel_rfl) (by kernel_rfl) (by kernel_rfl) (by kernel_rfl) (by kernel_rfl) (Or.inl ⟨by rfl, ?hy22⟩) (hS6 _ hb8) ?rest22
          case hy22 => (intro W2 hSw; (try dsimp only at hSw); go_simp; try with_reducible rfl)
          try simp only [Act.put, List.setIfInBounds_toArray, List.set_cons_zero, List.set_cons_succ]
          refine wpAnyL_take (i := 1) (v := ?v23) rfl (by kernel_rfl) (by kernel_rfl) (by kernel_rfl) (by kernel_rfl) (by kernel_rfl) (Or.inl ⟨by rfl, ?hy23⟩) (hS6 _ hb8) ?rest23
          case hy23 => (intro W2 hSw; (try dsimp only at hSw); go_simp; try with_reducible rfl)
          try simp only [Act.put, List.setIfInBounds_toArray, List.set_cons_zero, List.set_cons_succ]
          refine wpAnyL_take (i := 2) (v := ?v24) rfl (by kernel_rfl) (by kernel_rfl) (by kernel_rfl) (by kernel_rfl) (by kernel_rfl) (Or.inl ⟨by rfl, ?hy24⟩) (hS6 _ hb8) ?rest24
          case hy24 => (intro W2 hSw; (try dsimp only at hSw); go_simp; try with_reducible rfl)
          try simp only [Act.put, List.setIfInBounds_toArray, List.set_cons_zero, List.set_cons_succ]
          refine wpAnyL_take (i := 3) (v := ?v25) rfl (by kernel_rfl) (by kernel_rfl) (by kernel_rfl) (by kernel_rfl) (by kernel_rfl) (Or.inl ⟨by rfl, ?hy25⟩) (hS6 _ hb8) ?rest25
          case hy25 => (intro W2 hSw; (try dsimp only at hSw); go_simp; try with_reducible rfl)
          try simp only [Act.put, List.setIfInBounds_toArray, List.set_cons_zero, List.set_cons_succ]
          refine wpAnyL_take (i := 4) (v := ?v26) rfl (by kernel_rfl) (by kernel_rfl) (by kernel_rfl) (by kernel_rfl) (by kernel_rfl) (Or.inl ⟨by rfl, ?hy26⟩) (hS6 _ hb8) ?rest26
          case hy26 => (intro W2 hSw; (try dsimp only at hSw); go_simp; try with_reducible rfl)
          try simp only [Act.put, List.setIfInBounds_toArray, List.set_cons_zero, List.set_cons_succ]
          refine wpAnyL_take (i := 5) (v := ?v27) rfl (by kernel_rfl) (by kernel_rfl) (by kernel_rfl) (by kernel_rfl) (by kernel_rfl) (Or.inl ⟨by rfl, ?hy27⟩) (hS6 _ hb8) ?rest27
          case hy27 => (intro W2 hSw; (try dsimp only at hSw); go_simp; try with_reducible rfl)
          try simp only [Act.put, List.setIfInBounds_toArray, List.set_cons_zero, List.set_cons_succ]
          refine wpAnyL_one (i := 6) rfl (by kernel_rfl) (fun K hK => ?_)
          go_simp
          refine (Of_pos (sumK (gm W' ps 1) l k) S wr.drew (by omega) (by omega) hs0 (by omega)).mono ?_
          rintro e wa ⟨hba, na2, A2, n2, c2, nb2, B2, m2, d2, rfl, hF⟩
          replace hb8 := hb8.trans (hba.mono hb8.size)
          replace hb9 := hb9.trans (hba.mono hb9.size)
          replace hF := hide hF
          refine hK.out _ _ (fun _ => hS6 _ hb8) ?_
          clear hK K
          try simp only [Act.put, List.setIfInBounds_toArray, List.set_cons_zero, List.set_cons_succ]
          refine wpAnyL_take (i := 7) (v := ?v28) rfl (by kernel_rfl) (by kernel_rfl) (by kernel_rfl) (by kernel_rfl) (by kernel_rfl) (Or.inl ⟨by rfl, ?hy28⟩) (hS6 _ hb8) ?rest28
          case hy28 => (intro W2 hSw; (try dsimp only at hSw); go_simp; try with_reducible rfl)
          try simp only [Act.put, List.setIfInBounds_toArray, List.set_cons_zero, List.set_cons_succ]
          refine wpAnyL_take (i := 8) (v := ?v29) rfl (by kernel_rfl) (by kernel_rfl) (by kernel_rfl) (by kernel_rfl) (by kernel_rfl) (Or.inl ⟨by rfl, ?hy29⟩) (hS6 _ hb8) ?rest29
          case hy29 => (intro W2 hSw; (try dsimp only at hSw); go_simp; try with_reducible rfl)
          try simp only [Act.put, List.setIfInBounds_toArray, List.set_cons_zero, List.set_cons_succ]
          refine wpAnyL_one (i := 9) rfl (by kernel_rfl) (fun K hK => ?_)
          have q16a := keep_blk hb8 q16
          go_simp
          refine (keep_ok g16 _ na2 nb2 A2 B2 n2 c2 m2 d2 wa q16a).mono ?_
          rintro e wb ⟨rfl, hbb⟩
          replace hb8 := hb8.trans (hbb.mono hb8.size)
          replace hb9 := hb9.trans (hbb.mono hb9.size)
          replace hF := hide (hF.out.below hbb)
          clear q16a
          refine hK.out _ _ (fun _ => hS6 _ hb8) ?_
          clear hK K
          try simp only [Act.put, List.setIfInBounds_toArray, List.set_cons_zero, List.set_cons_succ]
          refine wpAnyL_take (i := 10) (v := ?v30) rfl (by kernel_rfl) (by kernel_rfl) (by kernel_rfl) (by kernel_rfl) (by kernel_rfl) (Or.inl ⟨by rfl, ?hy30⟩) (hS6 _ hb8) ?rest30
          case hy30 => (intro W2 hSw; (try dsimp only at hSw); go_simp; try with_reducible rfl)
          try simp only [Act.put, List.setIfInBounds_toArray, List.set_cons_zero, List.set_cons_succ]
          have q17b := keep_blk hb9 q17
          have y0 := q17b.cell 4
          have y1 := q17b.cell 5
          have y2 := q17b.cell 6
          have y3 := q17b.cell 7
          simp at y0 y1 y2 y3
          have z0 := q17b.frozen 4
          have z1 := q17b.frozen 5
          have z2 := q17b.frozen 6
          have z3 := q17b.frozen 7
          obtain ⟨wc, hwc, hbc, q17c, hst⟩ := set_mid (t := 60) (B := V4.heap.size) (w0 := V4) (g := g17) [.bool (na1 2), .slice (A1 2) (n1 2) (c1 2), .bool (nb1 2), .slice (B1 2) (m1 2) (d1 2), .bool (na1 3), .slice (A1 3) (n1 3) (c1 3), .bool (nb1 3), .slice (B1 3) (m1 3) (d1 3), .bool (na1 4), .slice (A1 4) (n1 4) (c1 4), .bool (nb1 4), .slice (B1 4) (m1 4) (d1 4), .bool (na1 5), .slice (A1 5) (n1 5) (c1 5), .bool (nb1 5), .slice (B1 5) (m1 5) (d1 5)] [.bool na2, .slice A2 n2 c2, .bool nb2, .slice B2 m2 d2] [.bool (na1 1), .slice (A1 1) (n1 1) (c1 1), .bool (nb1 1), .slice (B1 1) (m1 1) (d1 1)] [.bool (na1 0), .slice (A1 0) (n1 0) (c1 0), .bool (nb1 0), .slice (B1 0) (m1 0) (d1 0)] wb 4 rfl rfl rfl rfl hb8 (by rw [hg17.out]; exact Nat.le_refl _) q17b
          simp only [World.setCells, Nat.reduceAdd, Nat.zero_add] at hwc
          have q8c := hst.2.1 _ _ _ (by have := hg17.out; have := (Array.getElem?_eq_some_iff.1 q8).1; omega) (keep_blk hb8 q8)
          refine wpAnyL_one (i := 11) rfl (by kernel_rfl) (fun K hK => ?_)
          go_simp
          (try rw [hwc])
          refine hK.out _ _ (fun _ => hS6 _ hbc) ?_
          clear hK K
          try simp only [Act.put, List.setIfInBounds_toArray, List.set_cons_zero, List.set_cons_succ]
          refine wpAnyL_done (by kernel_rfl) ?_ _
          refine OnlyNormal.normal ?_
          try simp only [Act.put, List.setIfInBounds_toArray, List.set_cons_zero, List.set_cons_succ, List.getElem_toArray, List.getElem_cons_succ, List.getElem_cons_zero]
          go_simp
          go_wp2_with fail
          go_round
          case rel => exact ⟨2, by omega, by go_num, hbc, fun j => if j = 1 then na2 else na1 j, fun j => if j = 1 then A2 else A1 j, fun j => if j = 1 then n2 else n1 j, fun j => if j = 1 then c2 else c1 j, fun j => if j = 1 then nb2 else nb1 j, fun j => if j = 1 then B2 else B1 j, fun j => if j = 1 then m2 else m1 j, fun j => if j = 1 then d2 else d1 j, by simpa using q17c, fun j hj => by
            by_cases e : j = 1
            · subst e; simpa [hSS] using hF.out.keep hst.1
            · simp only [e, if_false]; exact (((hFr j (by omega)).below hb9)).keep hst.1⟩
          case measure => simp [intOf]
        · have hTr := hT 2
          go_wp2_with fail
          refine wp_held [] (fun wx => wx.cell? ⟨g8, 0, none⟩ = some (.int .i64 S) ∧ wx.cell? ⟨g8, 1, none⟩ = some (.int .i64 (sumK (gm W' ps 1) l k)) ∧ wx.cell? ⟨g8, 2, none⟩ = some (.int .i64 (sumK (gm W' ps 2) l k)) ∧ wx.cell? ⟨g8, 3, none⟩ = some (.int .i64 (sumK (gm W' ps 3) l k)) ∧ wx.cell? ⟨g8, 4, none⟩ = some (.int .i64 (sumK (gm W' ps 4) l k)) ∧ wx.cell? ⟨g8, 5, none⟩ = some (.int .i64 (sumK (gm W' ps 5) l k))) hmx (hS6 _ (below_dn hb7 1)) (fun _ => ?_)
          have hb8 : Below V4.heap.size V4 wr.drew := below_dn hb7 1
          have hb9 : Below wr.heap.size wr wr.drew := below_dn (Below.refl _ _) 1
          refine wpAnyL_take (i := 0) (v := ?v31) rfl (by kernel_rfl) (by kernel_rfl) (by kernel_rfl) (by kernel_rfl) (by kernel_rfl) (Or.inl ⟨by rfl, ?hy31⟩) (hS6 _ hb8) ?rest31
          case hy31 => (intro W2 hSw; (try dsimp only at hSw); go_simp; try with_reducible rfl)
          try simp only [Act.put, List.setIfInBounds_toArray, List.set_cons_zero, List.set_cons_succ]
          refine wpAnyL_take (i := 1) (v := ?v32) rfl (by kernel_rfl) (by kernel_rfl) (by kernel_rfl) (by kernel_rfl) (by kernel_rfl) (Or.inl ⟨by rfl, ?hy32⟩) (hS6 _ hb8) ?rest32
          case hy32 => (intro W2 hSw; (try dsimp only at hSw); go_simp; try with_reducible rfl)
          try simp only [Act.put, List.setIfInBounds_toArray, List.set_cons_zero, List.set_cons_succ]
          refine wpAnyL_take (i := 2) (v := ?v33) rfl (by kernel_rfl) (by kernel_rfl) (by kernel_rfl) (by kernel_rfl) (by kernel_rfl) (Or.inl ⟨by rfl, ?hy33⟩) (hS6 _ hb8) ?rest33
          case hy33 => (intro W2 hSw; (try dsimp only at hSw); go_simp; try with_reducible rfl)
          try simp only [Act.put, List.setIfInBounds_toArray, List.set_cons_zero, List.set_cons_succ]
          refine wpAnyL_take (i := 3) (v := ?v34) rfl (by kernel_rfl) (by kernel_rfl) (by kernel_rfl) (by kernel_rfl) (by kernel_rfl) (Or.inl ⟨by rfl, ?hy34⟩) (hS6 _ hb8) ?rest34
          case hy34 => (intro W2 hSw; (try dsimp only at hSw); go_simp; try with_reducible rfl)
          try simp only [Act.put, List.setIfInBounds_toArray, List.set_cons_zero, List.set_cons_succ]
          refine wpAnyL_take (i := 4) (v := ?v35) rfl (by kernel_rfl) (by kernel_rfl) (by kernel_rfl) (by kernel_rfl) (by kernel_rfl) (Or.inl ⟨by rfl, ?hy35⟩) (hS6 _ hb8) ?rest35
          case hy35 => (intro W2 hSw; (try dsimp only at hSw); go_simp; try with_reducible rfl)
          try simp only [Act.put, List.setIfInBounds_toArray, List.set_cons_zero, List.set_cons_succ]
          refine wpAnyL_take (i := 5) (v := ?v36) rfl (by kernel_rfl) (by kernel_rfl) (by kernel_rfl) (by kernel_rfl) (by kernel_rfl) (Or.inl ⟨by rfl, ?hy36⟩) (hS6 _ hb8) ?rest36
          case hy36 => (intro W2 hSw; (try dsimp only at hSw); go_simp; try with_reducible rfl)
          try simp only [Act.put, List.setIfInBounds_toArray, List.set_cons_zero, List.set_cons_succ]
          refine wpAnyL_one (i := 6) rfl (by kernel_rfl) (fun K hK => ?_)
          go_simp
          refine (Of_pos (sumK (gm W' ps 2) l k) S wr.drew (by omega) (by omega) hs0 (by omega)).mono ?_
          rintro e wa ⟨hba, na2, A2, n2, c2, nb2, B2, m2, d2, rfl, hF⟩
          replace hb8 := hb8.trans (hba.mono hb8.size)
          replace hb9 := hb9.trans (hba.mono hb9.size)
          replace hF := hide hF
          refine hK.out _ _ (fun _ => hS6 _ hb8) ?_
          clear hK K
          try simp only [Act.put, List.setIfInBounds_toArray, List.set_cons_zero, List.set_cons_succ]
          refine wpAnyL_take (i := 7) (v := ?v37) rfl (by kernel_rfl) (by kernel_rfl) (by kernel_rfl) (by kernel_rfl) (by kernel_rfl) (Or.inl ⟨by rfl, ?hy37⟩) (hS6 _ hb8) ?rest37
          case hy37 => (intro W2 hSw; (try dsimp only at hSw); go_simp; try with_reducible rfl)
          try simp only [Act.put, List.setIfInBounds_toArray, List.set_cons_zero, List.set_cons_succ]
          refine wpAnyL_take (i := 8) (v := ?v38) rfl (by kernel_rfl) (by kernel_rfl) (by kernel_rfl) (by kernel_rfl) (by kernel_rfl) (Or.inl ⟨by rfl, ?hy38⟩) (hS6 _ hb8) ?rest38
          case hy38 => (intro W2 hSw; (try dsimp only at hSw); go_simp; try with_reducible rfl)
          try simp only [Act.put, List.setIfInBounds_toArray, List.set_cons_zero, List.set_cons_succ]
          refine wpAnyL_one (i := 9) rfl (by kernel_rfl) (fun K hK => ?_)
          have q16a := keep_blk hb8 q16
          go_simp
          refine (keep_ok g16 _ na2 nb2 A2 B2 n2 c2 m2 d2 wa q16a).mono ?_
          rintro e wb ⟨rfl, hbb⟩
          replace hb8 := hb8.trans (hbb.mono hb8.size)
          replace hb9 := hb9.trans (hbb.mono hb9.size)
          replace hF := hide (hF.out.below hbb)
          clear q16a
          refine hK.out _ _ (fun _ => hS6 _ hb8) ?_
          clear hK K
          try simp only [Act.put, List.setIfInBounds_toArray, List.set_cons_zero, List.set_cons_succ]
          refine wpAnyL_take (i := 10) (v := ?v39) rfl (by kernel_rfl) (by kernel_rfl) (by kernel_rfl) (by kernel_rfl) (by kernel_rfl) (Or.inl ⟨by rfl, ?hy39⟩) (hS6 _ hb8) ?rest39
          case hy39 => (intro W2 hSw; (try dsimp only at hSw); go_simp; try with_reducible rfl)
          try simp only [Act.put, List.setIfInBounds_toArray, List.set_cons_zero, List.set_cons_succ]
          have q17b := keep_blk hb9 q17
          have y0 := q17b.cell 8
          have y1 := q17b.cell 9
          have y2 := q17b.cell 10
          have y3 := q17b.cell 11
          simp at y0 y1 y2 y3
          have z0 := q17b.frozen 8
          have z1 := q17b.frozen 9
          have z2 := q17b.frozen 10
          have z3 := q17b.frozen 11
          obtain ⟨wc, hwc, hbc, q17c, hst⟩ := set_mid (t := 60) (B := V4.heap.size) (w0 := V4) (g := g17) [.bool (na1 3), .slice (A1 3) (n1 3) (c1 3), .bool (nb1 3), .slice (B1 3) (m1 3) (d1 3), .bool (na1 4), .slice (A1 4) (n1 4) (c1 4), .bool (nb1 4), .slice (B1 4) (m1 4) (d1 4), .bool (na1 5), .slice (A1 5) (n1 5) (c1 5), .bool (nb1 5), .slice (B1 5) (m1 5) (d1 5)] [.bool na2, .slice A2 n2 c2, .bool nb2, .slice B2 m2 d2] [.bool (na1 2), .slice (A1 2) (n1 2) (c1 2), .bool (nb1 2), .slice (B1 2) (m1 2) (d1 2)] [.bool (na1 0), .slice (A1 0) (n1 0) (c1 0), .bool (nb1 0), .slice (B1 0) (m1 0) (d1 0), .bool (na1 1), .slice (A1 1) (n1 1) (c1 1), .bool (nb1 1), .slice (B1 1) (m1 1) (d1 1)] wb 8 rfl rfl rfl rfl hb8 (by rw [hg17.out]; exact Nat.le_refl _) q17b
          simp only [World.setCells, Nat.reduceAdd, Nat.zero_add] at hwc
          have q8c := hst.2.1 _ _ _ (by have := hg17.out; have := (Array.getElem?_eq_some_iff.1 q8).1; omega) (keep_blk hb8 q8)
          refine wpAnyL_one (i := 11) rfl (by kernel_rfl) (fun K hK => ?_)
          go_simp
          (try rw [hwc])
          refine hK.out _ _ (fun _ => hS6 _ hbc) ?_
          clear hK K
          try simp only [Act.put, List.setIfInBounds_toArray, List.set_cons_zero, List.set_cons_succ]
          refine wpAnyL_done (by kernel_rfl) ?_ _
          refine OnlyNormal.normal ?_
          try simp only [Act.put, List.setIfInBounds_toArray, List.set_cons_zero, List.set_cons_succ, List.getElem_toArray, List.getElem_cons_succ, List.getElem_cons_zero]
          go_simp
          go_wp2_with fail
          go_round
          case rel => exact ⟨3, by omega, by go_num, hbc, fun j => if j = 2 then na2 else na1 j, fun j => if j = 2 then A2 else A1 j, fun j => if j = 2 then n2 else n1 j, fun j => if j = 2 then c2 else c1 j, fun j => if j = 2 then nb2 else nb1 j, fun j => if j = 2 then B2 else B1 j, fun j => if j = 2 then m2 else m1 j, fun j => if j = 2 then d2 else d1 j, by simpa using q17c, fun j hj => by
            by_cases e : j = 2
            · subst e; simpa [hSS] using hF.out.keep hst.1
            · simp only [e, if_false]; exact (((hFr j (by omega)).below hb9)).keep hst.1⟩
          case measure => simp [intOf]
        · have hTr := hT 3
          go_wp2_with fail
          refine wp_held [] (fun wx => wx.cell? ⟨g8, 0, none⟩ = some (.int .i64 S) ∧ wx.cell? ⟨g8, 1, none⟩ = some (.int .i64 (sumK (gm W' ps 1) l k)) ∧ wx.cell? ⟨g8, 2, none⟩ = some (.int .i64 (sumK (gm W' ps 2) l k)) ∧ wx.cell? ⟨g8, 3, none⟩ = some (.int .i64 (sumK (gm W' ps 3) l k)) ∧ wx.cell? ⟨g8, 4, none⟩ = some (.int .i64 (sumK (gm W' ps 4) l k)) ∧ wx.cell? ⟨g8, 5, none⟩ = some (.int .i64 (sumK (gm W' ps 5) l k))) hmx (hS6 _ (below_dn hb7 1)) (fun _ => ?_)
          have hb8 : Below V4.heap.size V4 wr.drew := below_dn hb7 1
          have hb9 : Below wr.heap.size wr wr.drew := below_dn (Below.refl _ _) 1
          refine wpAnyL_take (i := 0) (v := ?v40) rfl (by kernel_rfl) (by kernel_rfl) (by kernel_rfl) (by kernel_rfl) (by kernel_rfl) (Or.inl ⟨by rfl, ?hy40⟩) (hS6 _ hb8) ?rest40
          case hy40 => (intro W2 hSw; (try dsimp only at hSw); go_simp; try with_reducible rfl)
          try simp only [Act.put, List.setIfInBounds_toArray, List.set_cons_zero, List.set_cons_succ]
          refine wpAnyL_take (i := 1) (v := ?v41) rfl (by kernel_rfl) (by kernel_rfl) (by kernel_rfl) (by kernel_rfl) (by kernel_rfl) (Or.inl ⟨by rfl, ?hy41⟩) (hS6 _ hb8) ?rest41
          case hy41 => (intro W2 hSw; (try dsimp only at hSw); go_simp; try with_reducible rfl)
          try simp only [Act.put, List.setIfInBounds_toArray, List.set_cons_zero, List.set_cons_succ]
          refine wpAnyL_take (i := 2) (v := ?v42) rfl (by kernel_rfl) (by kernel_rfl) (by kernel_rfl) (by kernel_rfl) (by kernel_rfl) (Or.inl ⟨by rfl, ?hy42⟩) (hS6 _ hb8) ?rest42
          case hy42 => (intro W2 hSw; (try dsimp only at hSw); go_simp; try with_reducible rfl)
          try simp only [Act.put, List.setIfInBounds_toArray, List.set_cons_zero, List.set_cons_succ]
          refine wpAnyL_take (i := 3) (v := ?v43) rfl (by kernel_rfl) (by kernel_rfl) (by kernel_rfl) (by kernel_rfl) (by kernel_rfl) (Or.inl ⟨by rfl, ?hy43⟩) (hS6 _ hb8) ?rest43
          case hy43 => (intro W2 hSw; (try dsimp only at hSw); go_simp; try with_reducible rfl)
          try simp only [Act.put, List.setIfInBounds_toArray, List.set_cons_zero, List.set_cons_succ]
          refine wpAnyL_take (i := 4) (v := ?v44) rfl (by kernel_rfl) (by kernel_rfl) (by kernel_rfl) (by kernel_rfl) (by kernel_rfl) (Or.inl ⟨by rfl, ?hy44⟩) (hS6 _ hb8) ?rest44
          case hy44 => (intro W2 hSw; (try dsimp only at hSw); go_simp; try with_reducible rfl)
          try simp only [Act.put, List.setIfInBounds_toArray, List.set_cons_zero, List.set_cons_succ]
          refine wpAnyL_take (i := 5) (v := ?v45) rfl (by kernel_rfl) (by kernel_rfl) (by kernel_rfl) (by kernel_rfl) (by kernel_rfl) (Or.inl ⟨by rfl, ?hy45⟩) (hS6 _ hb8) ?rest45
          case hy45 => (intro W2 hSw; (try dsimp only at hSw); go_simp; try with_reducible rfl)
          try simp only [Act.put, List.setIfInBounds_toArray, List.set_cons_zero, List.set_cons_succ]
          refine wpAnyL_one (i := 6) rfl (by kernel_rfl) (fun K hK => ?_)
          go_simp
          refine (Of_pos (sumK (gm W' ps 3) l k) S wr.drew (by omega) (by omega) hs0 (by omega)).mono ?_
          rintro e wa ⟨hba, na2, A2, n2, c2, nb2, B2, m2, d2, rfl, hF⟩
          replace hb8 := hb8.trans (hba.mono hb8.size)
          replace hb9 := hb9.trans (hba.mono hb9.size)
          replace hF := hide hF
          refine hK.out _ _ (fun _ => hS6 _ hb8) ?_
          clear hK K
          try simp only [Act.put, List.setIfInBounds_toArray, List.set_cons_zero, List.set_cons_succ]
          refine wpAnyL_take (i := 7) (v := ?v46) rfl (by kernel_rfl) (by kernel_rfl) (by kernel_rfl) (by kernel_rfl) (by kernel_rfl) (Or.inl ⟨by rfl, ?hy46⟩) (hS6 _ hb8) ?rest46
          case hy46 => (intro W2 hSw; (try dsimp only at hSw); go_simp; try with_reducible rfl)
          try simp only [Act.put, List.setIfInBounds_toArray, List.set_cons_zero, List.set_cons_succ]
          refine wpAnyL_take (i := 8) (v := ?v47) rfl (by kernel_rfl) (by kernel_rfl) (by kernel_rfl) (by kernel_rfl) (by kernel_rfl) (Or.inl ⟨by rfl, ?hy47⟩) (hS6 _ hb8) ?rest47
          case hy47 => (intro W2 hSw; (try dsimp only at hSw); go_simp; try with_reducible rfl)
          try simp only [Act.put, List.setIfInBounds_toArray, List.set_cons_zero, List.set_cons_succ]
          refine wpAnyL_one (i := 9) rfl (by kernel_rfl) (fun K hK => ?_)
          have q16a := keep_blk hb8 q16
          go_simp
          refine (keep_ok g16 _ na2 nb2 A2 B2 n2 c2 m2 d2 wa q16a).mono ?_
          rintro e wb ⟨rfl, hbb⟩
          replace hb8 := hb8.trans (hbb.mono hb8.size)
          replace hb9 := hb9.trans (hbb.mono hb9.size)
          replace hF := hide (hF.out.below hbb)
          clear q16a
          refine hK.out _ _ (fun _ => hS6 _ hb8) ?_
          clear hK K
          try simp only [Act.put, List.setIfInBounds_toArray, List.set_cons_zero, List.set_cons_succ]
          refine wpAnyL_take (i := 10) (v := ?v48) rfl (by kernel_rfl) (by kernel_rfl) (by kernel_rfl) (by kernel_rfl) (by kernel_rfl) (Or.inl ⟨by rfl, ?hy48⟩) (hS6 _ hb8) ?rest48
          case hy48 => (intro W2 hSw; (try dsimp only at hSw); go_simp; try with_reducible rfl)
          try simp only [Act.put, List.setIfInBounds_toArray, List.set_cons_zero, List.set_cons_succ]
          have q17b := keep_blk hb9 q17
          have y0 := q17b.cell 12
          have y1 := q17b.cell 13
          have y2 := q17b.cell 14
          have y3 := q17b.cell 15
          simp at y0 y1 y2 y3
          have z0 := q17b.frozen 12
          have z1 := q17b.frozen 13
          have z2 := q17b.frozen 14
          have z3 := q17b.frozen 15
          obtain ⟨wc, hwc, hbc, q17c, hst⟩ := set_mid (t := 60) (B := V4.heap.size) (w0 := V4) (g := g17) [.bool (na1 4), .slice (A1 4) (n1 4) (c1 4), .bool (nb1 4), .slice (B1 4) (m1 4) (d1 4), .bool (na1 5), .slice (A1 5) (n1 5) (c1 5), .bool (nb1 5), .slice (B1 5) (m1 5) (d1 5)] [.bool na2, .slice A2 n2 c2, .bool nb2, .slice B2 m2 d2] [.bool (na1 3), .slice (A1 3) (n1 3) (c1 3), .bool (nb1 3), .slice (B1 3) (m1 3) (d1 3)] [.bool (na1 0), .slice (A1 0) (n1 0) (c1 0), .bool (nb1 0), .slice (B1 0) (m1 0) (d1 0), .bool (na1 1), .slice (A1 1) (n1 1) (c1 1), .bool (nb1 1), .slice (B1 1) (m1 1) (d1 1), .bool (na1 2), .slice (A1 2) (n1 2) (c1 2), .bool (nb1 2), .slice (B1 2) (m1 2) (d1 2)] wb 12 rfl rfl rfl rfl hb8 (by rw [hg17.out]; exact Nat.le_refl _) q17b
          simp only [World.setCells, Nat.reduceAdd, Nat.zero_add] at hwc
          have q8c := hst.2.1 _ _ _ (by have := hg17.out; have := (Array.getElem?_eq_some_iff.1 q8).1; omega) (keep_blk hb8 q8)
          refine wpAnyL_one (i := 11) rfl (by kernel_rfl) (fun K hK => ?_)
          go_simp
          (try rw [hwc])
          refine hK.out _ _ (fun _ => hS6 _ hbc) ?_
          clear hK K
          try simp only [Act.put, List.setIfInBounds_toArray, List.set_cons_zero, List.set_cons_succ]
          refine wpAnyL_done (by kernel_rfl) ?_ _
          refine OnlyNormal.normal ?_
          try simp only [Act.put, List.setIfInBounds_toArray, List.set_cons_zero, List.set_cons_succ, List.getElem_toArray, List.getElem_cons_succ, List.getElem_cons_zero]
          go_simp
          go_wp2_with fail
          go_round
          case rel => exact ⟨4, by omega, by go_num, hbc, fun j => if j = 3 then na2 else na1 j, fun j => if j = 3 then A2 else A1 j, fun j => if j = 3 then n2 else n1 j, fun j => if j = 3 then c2 else c1 j, fun j => if j = 3 then nb2 else nb1 j, fun j => if j = 3 then B2 else B1 j, fun j => if j = 3 then m2 else m1 j, fun j => if j = 3 then d2 else d1 j, by simpa using q17c, fun j hj => by
            by_cases e : j = 3
            · subst e; simpa [hSS] using hF.out.keep hst.1
            · simp only [e, if_false]; exact (((hFr j (by omega)).below hb9)).keep hst.1⟩
          case measure => simp [intOf]
        · have hTr := hT 4
          go_wp2_with fail
          refine wp_held [] (fun wx => wx.cell? ⟨g8, 0, none⟩ = some (.int .i64 S) ∧ wx.cell? ⟨g8, 1, none⟩ = some (.int .i64 (sumK (gm W' ps 1) l k)) ∧ wx.cell? ⟨g8, 2, none⟩ = some (.int .i64 (sumK (gm W' ps 2) l k)) ∧ wx.cell? ⟨g8, 3, none⟩ = some (.int .i64 (sumK (gm W' ps 3) l k)) ∧ wx.cell? ⟨g8, 4, none⟩ = some (.int .i64 (sumK (gm W' ps 4) l k)) ∧ wx.cell? ⟨g8, 5, none⟩ = some (.int .i64 (sumK (gm W' ps 5) l k))) hmx (hS6 _ (below_dn hb7 1)) (fun _ => ?_)
          have hb8 : Below V4.heap.size V4 wr.drew := below_dn hb7 1
          have hb9 : Below wr.heap.size wr wr.drew := below_dn (Below.refl _ _) 1
          refine wpAnyL_take (i := 0) (v := ?v49) rfl (by kernel_rfl) (by kernel_rfl) (by kernel_rfl) (by kernel_rfl) (by kernel_rfl) (Or.inl ⟨by rfl, ?hy49⟩) (hS6 _ hb8) ?rest49
          case hy49 => (intro W2 hSw; (try dsimp only at hSw); go_simp; try with_reducible rfl)
          try simp only [Act.put, List.setIfInBounds_toArray, List.set_cons_zero, List.set_cons_succ]
          refine wpAnyL_take (i := 1) (v := ?v50) rfl (by kernel_rfl) (by kernel_rfl) (by kernel_rfl) (by kernel_rfl) (by kernel_rfl) (Or.inl ⟨by rfl, ?hy50⟩) (hS6 _ hb8) ?rest50
          case hy50 => (intro W2 hSw; (try dsimp only at hSw); go_simp; try with_reducible rfl)
          try simp only [Act.put, List.setIfInBounds_toArray, List.set_cons_zero, List.set_cons_succ]
          refine wpAnyL_take (i := 2) (v := ?v51) rfl (by kernel_rfl) (by kernel_rfl) (by kernel_rfl) (by kernel_rfl) (by kernel_rfl) (Or.inl ⟨by rfl, ?hy51⟩) (hS6 _ hb8) ?rest51
          case hy51 => (intro W2 hSw; (try dsimp only at hSw); go_simp; try with_reducible rfl)
          try simp only [Act.put, List.setIfInBounds_toArray, List.set_cons_zero, List.set_cons_succ]
          refine wpAnyL_take (i := 3) (v := ?v52) rfl (by kernel_rfl) (by kernel_rfl) (by kernel_rfl) (by kernel_rfl) (by kernel_rfl) (Or.inl ⟨by rfl, ?hy52⟩) (hS6 _ hb8) ?rest52
          case hy52 => (intro W2 hSw; (try dsimp only at hSw); go_simp; try with_reducible rfl)
          try simp only [Act.put, List.setIfInBounds_toArray, List.set_cons_zero, List.set_cons_succ]
          refine wpAnyL_take (i := 4) (v := ?v53) rfl (by kernel_rfl) (by kernel_rfl) (by kernel_rfl) (by kernel_rfl) (by kernel_rfl) (Or.inl ⟨by rfl, ?hy53⟩) (hS6 _ hb8) ?rest53
          case hy53 => (intro W2 hSw; (try dsimp only at hSw); go_simp; try with_reducible rfl)
          try simp only [Act.put, List.setIfInBounds_toArray, List.set_cons_zero, List.set_cons_succ]
          refine wpAnyL_take (i := 5) (v := ?v54) rfl (by kernel_rfl) (by kernel_rfl) (by kernel_rfl) (by kernel_rfl) (by kernel_rfl) (Or.inl ⟨by rfl, ?hy54⟩) (hS6 _ hb8) ?rest54
          case hy54 => (intro W2 hSw; (try dsimp only at hSw); go_simp; try with_reducible rfl)
          try simp only [Act.put, List.setIfInBounds_toArray, List.set_cons_zero, List.set_cons_succ]
          refine wpAnyL_one (i := 6) rfl (by kernel_rfl) (fun K hK => ?_)
          go_simp
          refine (Of_pos (sumK (gm W' ps 4) l k) S wr.drew (by omega) (by omega) hs0 (by omega)).mono ?_
          rintro e wa ⟨hba, na2, A2, n2, c2, nb2, B2, m2, d2, rfl, hF⟩
          replace hb8 := hb8.trans (hba.mono hb8.size)
          replace hb9 := hb9.trans (hba.mono hb9.size)
          replace hF := hide hF
          refine hK.out _ _ (fun _ => hS6 _ hb8) ?_
          clear hK K
          try simp only [Act.put, List.setIfInBounds_toArray, List.set_cons_zero, List.set_cons_succ]
          refine wpAnyL_take (i := 7) (v := ?v55) rfl (by kernel_rfl) (by kernel_rfl) (by kernel_rfl) (by kernel_rfl) (by kernel_rfl) (Or.inl ⟨by rfl, ?hy55⟩) (hS6 _ hb8) ?rest55
          case hy55 => (intro W2 hSw; (try dsimp only at hSw); go_simp; try with_reducible rfl)
          try simp only [Act.put, List.setIfInBounds_toArray, List.set_cons_zero, List.set_cons_succ]
          refine wpAnyL_take (i := 8) (v := ?v56) rfl (by kernel_rfl) (by kernel_rfl) (by kernel_rfl) (by kernel_rfl) (by kernel_rfl) (Or.inl ⟨by rfl, ?hy56⟩) (hS6 _ hb8) ?rest56
          case hy56 => (intro W2 hSw; (try dsimp only at hSw); go_simp; try with_reducible rfl)
          try simp only [Act.put, List.setIfInBounds_toArray, List.set_cons_zero, List.set_cons_succ]
          refine wpAnyL_one (i := 9) rfl (by kernel_rfl) (fun K hK => ?_)
          have q16a := keep_blk hb8 q16
          go_simp
          refine (keep_ok g16 _ na2 nb2 A2 B2 n2 c2 m2 d2 wa q16a).mono ?_
          rintro e wb ⟨rfl, hbb⟩
          replace hb8 := hb8.trans (hbb.mono hb8.size)
          replace hb9 := hb9.trans (hbb.mono hb9.size)
          replace hF := hide (hF.out.below hbb)
          clear q16a
          refine hK.out _ _ (fun _ => hS6 _ hb8) ?_
          clear hK K
          try simp only [Act.put, List.setIfInBounds_toArray, List.set_cons_zero, List.set_cons_succ]
          refine wpAnyL_take (i := 10) (v := ?v57) rfl (by kernel_rfl) (by kernel_rfl) (by kernel_rfl) (by kernel_rfl) (by kernel_rfl) (Or.inl ⟨by rfl, ?hy57⟩) (hS6 _ hb8) ?rest57
          case hy57 => (intro W2 hSw; (try dsimp only at hSw); go_simp; try with_reducible rfl)
          try simp only [Act.put, List.setIfInBounds_toArray, List.set_cons_zero, List.set_cons_succ]
          have q17b := keep_blk hb9 q17
          have y0 := q17b.cell 16
          have y1 := q17b.cell 17
          have y2 := q17b.cell 18
          have y3 := q17b.cell 19
          simp at y0 y1 y2 y3
          have z0 := q17b.frozen 16
          have z1 := q17b.frozen 17
          have z2 := q17b.frozen 18
          have z3 := q17b.frozen 19
          obtain ⟨wc, hwc, hbc, q17c, hst⟩ := set_mid (t := 60) (B := V4.heap.size) (w0 := V4) (g := g17) [.bool (na1 5), .slice (A1 5) (n1 5) (c1 5), .bool (nb1 5), .slice (B1 5) (m1 5) (d1 5)] [.bool na2, .slice A2 n2 c2, .bool nb2, .slice B2 m2 d2] [.bool (na1 4), .slice (A1 4) (n1 4) (c1 4), .bool (nb1 4), .slice (B1 4) (m1 4) (d1 4)] [.bool (na1 0), .slice (A1 0) (n1 0) (c1 0), .bool (nb1 0), .slice (B1 0) (m1 0) (d1 0), .bool (na1 1), .slice (A1 1) (n1 1) (c1 1), .bool (nb1 1), .slice (B1 1) (m1 1) (d1 1), .bool (na1 2), .slice (A1 2) (n1 2) (c1 2), .bool (nb1 2), .slice (B1 2) (m1 2) (d1 2), .bool (na1 3), .slice (A1 3) (n1 3) (c1 3), .bool (nb1 3), .slice (B1 3) (m1 3) (d1 3)] wb 16 rfl rfl rfl rfl hb8 (by rw [hg17.out]; exact Nat.le_refl _) q17b
          simp only [World.setCells, Nat.reduceAdd, Nat.zero_add] at hwc
          have q8c := hst.2.1 _ _ _ (by have := hg17.out; have := (Array.getElem?_eq_some_iff.1 q8).1; omega) (keep_blk hb8 q8)
          refine wpAnyL_one (i := 11) rfl (by kernel_rfl) (fun K hK => ?_)
          go_simp
          (try rw [hwc])
          refine hK.out _ _ (fun _ => hS6 _ hbc) ?_
          clear hK K
          try simp only [Act.put, List.setIfInBounds_toArray, List.set_cons_zero, List.set_cons_succ]
          refine wpAnyL_done (by kernel_rfl) ?_ _
          refine OnlyNormal.normal ?_
          try simp only [Act.put, List.setIfInBounds_toArray, List.set_cons_zero, List.set_cons_succ, List.getElem_toArray, List.getElem_cons_succ, List.getElem_cons_zero]
          go_simp
          go_wp2_with fail
          go_round
          case rel => exact ⟨5, by omega, by go_num, hbc, fun j => if j = 4 then na2 else na1 j, fun j => if j = 4 then A2 else A1 j, fun j => if j = 4 then n2 else n1 j, fun j => if j = 4 then c2 else c1 j, fun j => if j = 4 then nb2 else nb1 j, fun j => if j = 4 then B2 else B1 j, fun j => if j = 4 then m2 else m1 j, fun j => if j = 4 then d2 else d1 j, by simpa using q17c, fun j hj => by
            by_cases e : j = 4
            · subst e; simpa [hSS] using hF.out.keep hst.1
            · simp only [e, if_false]; exact (((hFr j (by omega)).below hb9)).keep hst.1⟩
          case measure => simp [intOf]
        · have hTr := hT 5
          go_wp2_with fail
          refine wp_held [] (fun wx => wx.cell? ⟨g8, 0, none⟩ = some (.int .i64 S) ∧ wx.cell? ⟨g8, 1, none⟩ = some (.int .i64 (sumK (gm W' ps 1) l k)) ∧ wx.cell? ⟨g8, 2, none⟩ = some (.int .i64 (sumK (gm W' ps 2) l k)) ∧ wx.cell? ⟨g8, 3, none⟩ = some (.int .i64 (sumK (gm W' ps 3) l k)) ∧ wx.cell? ⟨g8, 4, none⟩ = some (.int .i64 (sumK (gm W' ps 4) l k)) ∧ wx.cell? ⟨g8, 5, none⟩ = some (.int .i64 (sumK (gm W' ps 5) l k))) hmx (hS6 _ (below_dn hb7 1)) (fun _ => ?_)
          have hb8 : Below V4.heap.size V4 wr.drew := below_dn hb7 1
          have hb9 : Below wr.heap.size wr wr.drew := below_dn (Below.refl _ _) 1
          refine wpAnyL_take (i := 0) (v := ?v58) rfl (by kernel_rfl) (by kernel_rfl) (by kernel_rfl) (by kernel_rfl) (by kernel_rfl) (Or.inl ⟨by rfl, ?hy58⟩) (hS6 _ hb8) ?rest58
          case hy58 => (intro W2 hSw; (try dsimp only at hSw); go_simp; try with_reducible rfl)
          try simp only [Act.put, List.setIfInBounds_toArray, List.set_cons_zero, List.set_cons_succ]
          refine wpAnyL_take (i := 1) (v := ?v59) rfl (by kernel_rfl) (by kernel_rfl) (by kernel_rfl) (by kernel_rfl) (by kernel_rfl) (Or.inl ⟨by rfl, ?hy59⟩) (hS6 _ hb8) ?rest59
          case hy59 => (intro W2 hSw; (try dsimp only at hSw); go_simp; try with_reducible rfl)
          try simp only [Act.put, List.setIfInBounds_toArray, List.set_cons_zero, List.set_cons_succ]
          refine wpAnyL_take (i := 2) (v := ?v60) rfl (by kernel_rfl) (by kernel_rfl) (by kernel_rfl) (by kernel_rfl) (by kernel_rfl) (Or.inl ⟨by rfl, ?hy60⟩) (hS6 _ hb8) ?rest60
          case hy60 => (intro W2 hSw; (try dsimp only at hSw); go_simp; try with_reducible rfl)
          try simp only [Act.put, List.setIfInBounds_toArray, List.set_cons_zero, List.set_cons_succ]
          refine wpAnyL_take (i := 3) (v := ?v61) rfl (by kernel_rfl) (by kernel_rfl) (by kernel_rfl) (by kernel_rfl) (by kernel_rfl) (Or.inl ⟨by rfl, ?hy61⟩) (hS6 _ hb8) ?rest61
          case hy61 => (intro W2 hSw; (try dsimp only at hSw); go_simp; try with_reducible rfl)
          try simp only [Act.put, List.setIfInBounds_toArray, List.set_cons_zero, List.set_cons_succ]
          refine wpAnyL_take (i := 4) (v := ?v62) rfl (by kernel_rfl) (by kernel_rfl) (by kernel_rfl) (by kernel_rfl) (by kernel_rfl) (Or.inl ⟨by rfl, ?hy62⟩) (hS6 _ hb8) ?rest62
          case hy62 => (intro W2 hSw; (try dsimp only at hSw); go_simp; try with_reducible rfl)
          try simp only [Act.put, List.setIfInBounds_toArray, List.set_cons_zero, List.set_cons_succ]
          refine wpAnyL_take (i := 5) (v := ?v63) rfl (by kernel_rfl) (by kernel_rfl) (by kernel_rfl) (by kernel_rfl) (by kernel_rfl) (Or.inl ⟨by rfl, ?hy63⟩) (hS6 _ hb8) ?rest63
          case hy63 => (intro W2 hSw; (try dsimp only at hSw); go_simp; try with_reducible rfl)
          try simp only [Act.put, List.setIfInBounds_toArray, List.set_cons_zero, List.set_cons_succ]
          refine wpAnyL_one (i := 6) rfl (by kernel_rfl) (fun K hK => ?_)
          go_simp
          refine (Of_pos (sumK (gm W' ps 5) l k) S wr.drew (by omega) (by omega) hs0 (by omega)).mono ?_
          rintro e wa ⟨hba, na2, A2, n2, c2, nb2, B2, m2, d2, rfl, hF⟩
          replace hb8 := hb8.trans (hba.mono hb8.size)
          replace hb9 := hb9.trans (hba.mono hb9.size)
          replace hF := hide hF
          refine hK.out _ _ (fun _ => hS6 _ hb8) ?_
          clear hK K
          try simp only [Act.put, List.setIfInBounds_toArray, List.set_cons_zero, List.set_cons_succ]
          refine wpAnyL_take (i := 7) (v := ?v64) rfl (by kernel_rfl) (by kernel_rfl) (by kernel_rfl) (by kernel_rfl) (by kernel_rfl) (Or.inl ⟨by rfl, ?hy64⟩) (hS6 _ hb8) ?rest64
          case hy64 => (intro W2 hSw; (try dsimp only at hSw); go_simp; try with_reducible rfl)
          try simp only [Act.put, List.setIfInBounds_toArray, List.set_cons_zero, List.set_cons_succ]
          refine wpAnyL_take (i := 8) (v := ?v65) rfl (by kernel_rfl) (by kernel_rfl) (by kernel_rfl) (by kernel_rfl) (by kernel_rfl) (Or.inl ⟨by rfl, ?hy65⟩) (hS6 _ hb8) ?rest65
          case hy65 => (intro W2 hSw; (try dsimp only at hSw); go_simp; try with_reducible rfl)
          try simp only [Act.put, List.setIfInBounds_toArray, List.set_cons_zero, List.set_cons_succ]
          refine wpAnyL_one (i := 9) rfl (by kernel_rfl) (fun K hK => ?_)
          have q16a := keep_blk hb8 q16
          go_simp
          refine (keep_ok g16 _ na2 nb2 A2 B2 n2 c2 m2 d2 wa q16a).mono ?_
          rintro e wb ⟨rfl, hbb⟩
          replace hb8 := hb8.trans (hbb.mono hb8.size)
          replace hb9 := hb9.trans (hbb.mono hb9.size)
          replace hF := hide (hF.out.below hbb)
          clear q16a
          refine hK.out _ _ (fun _ => hS6 _ hb8) ?_
          clear hK K
          try simp only [Act.put, List.setIfInBounds_toArray, List.set_cons_zero, List.set_cons_succ]
          refine wpAnyL_take (i := 10) (v := ?v66) rfl (by kernel_rfl) (by kernel_rfl) (by kernel_rfl) (by kernel_rfl) (by kernel_rfl) (Or.inl ⟨by rfl, ?hy66⟩) (hS6 _ hb8) ?rest66
          case hy66 => (intro W2 hSw; (try dsimp only at hSw); go_simp; try with_reducible rfl)
          try simp only [Act.put, List.setIfInBounds_toArray, List.set_cons_zero, List.set_cons_succ]
          have q17b := keep_blk hb9 q17
          have y0 := q17b.cell 20
          have y1 := q17b.cell 21
          have y2 := q17b.cell 22
          have y3 := q17b.cell 23
          simp at y0 y1 y2 y3
          have z0 := q17b.frozen 20
          have z1 := q17b.frozen 21
          have z2 := q17b.frozen 22
          have z3 := q17b.frozen 23
          obtain ⟨wc, hwc, hbc, q17c, hst⟩ := set_mid (t := 60) (B := V4.heap.size) (w0 := V4) (g := g17) [] [.bool na2, .slice A2 n2 c2, .bool nb2, .slice B2 m2 d2] [.bool (na1 5), .slice (A1 5) (n1 5) (c1 5), .bool (nb1 5), .slice (B1 5) (m1 5) (d1 5)] [.bool (na1 0), .slice (A1 0) (n1 0) (c1 0), .bool (nb1 0), .slice (B1 0) (m1 0) (d1 0), .bool (na1 1), .slice (A1 1) (n1 1) (c1 1), .bool (nb1 1), .slice (B1 1) (m1 1) (d1 1), .bool (na1 2), .slice (A1 2) (n1 2) (c1 2), .bool (nb1 2), .slice (B1 2) (m1 2) (d1 2), .bool (na1 3), .slice (A1 3) (n1 3) (c1 3), .bool (nb1 3), .slice (B1 3) (m1 3) (d1 3), .bool (na1 4), .slice (A1 4) (n1 4) (c1 4), .bool (nb1 4), .slice (B1 4) (m1 4) (d1 4)] wb 20 rfl rfl rfl rfl hb8 (by rw [hg17.out]; exact Nat.le_refl _) q17b
          simp only [World.setCells, Nat.reduceAdd, Nat.zero_add] at hwc
          have q8c := hst.2.1 _ _ _ (by have := hg17.out; have := (Array.getElem?_eq_some_iff.1 q8).1; omega) (keep_blk hb8 q8)
          refine wpAnyL_one (i := 11) rfl (by kernel_rfl) (fun K hK => ?_)
          go_simp
          (try rw [hwc])
          refine hK.out _ _ (fun _ => hS6 _ hbc) ?_
          clear hK K
          try simp only [Act.put, List.setIfInBounds_toArray, List.set_cons_zero, List.set_cons_succ]
          refine wpAnyL_done (by kernel_rfl) ?_ _
          refine OnlyNormal.normal ?_
          try simp only [Act.put, List.setIfInBounds_toArray, List.set_cons_zero, List.set_cons_succ, List.getElem_toArray, List.getElem_cons_succ, List.getElem_cons_zero]
          go_simp
          go_wp2_with fail
          go_round
          case rel => exact ⟨6, by omega, by go_num, hbc, fun j => if j = 5 then na2 else na1 j, fun j => if j = 5 then A2 else A1 j, fun j => if j = 5 then n2 else n1 j, fun j => if j = 5 then c2 else c1 j, fun j => if j = 5 then nb2 else nb1 j, fun j => if j = 5 then B2 else B1 j, fun j => if j = 5 then m2 else m1 j, fun j => if j = 5 then d2 else d1 j, by simpa using q17c, fun j hj => by
            by_cases e : j = 5
            · subst e; simpa [hSS] using hF.out.keep hst.1
            · simp only [e, if_false]; exact (((hFr j (by omega)).below hb9)).keep hst.1⟩
          case measure => simp [intOf]
        · obtain rfl : r = 0 := by omega
          simp only [Nat.zero_add, Nat.reduceAdd] at q17 hFr
          have hF1 := hide (hFr 1 (by omega))
          have hF2 := hide (hFr 2 (by omega))
          have hF3 := hide (hFr 3 (by omega))
          have hF4 := hide (hFr 4 (by omega))
          have hF5 := hide (hFr 5 (by omega))
          clear hFr
          have hS7 : ∀ wx, Below wr.heap.size wr wx → wx.cell? ⟨g8, 0, none⟩ = some (.int .i64 S) ∧ wx.cell? ⟨g17, 4, none⟩ = some (.bool (na1 1)) ∧ wx.cell? ⟨g17, 5, none⟩ = some (.slice (A1 1) (n1 1) (c1 1)) ∧ wx.cell? ⟨g17, 6, none⟩ = some (.bool (nb1 1)) ∧ wx.cell? ⟨g17, 7, none⟩ = some (.slice (B1 1) (m1 1) (d1 1)) ∧ wx.cell? ⟨g17, 8, none⟩ = some (.bool (na1 2)) ∧ wx.cell? ⟨g17, 9, none⟩ = some (.slice (A1 2) (n1 2) (c1 2)) ∧ wx.cell? ⟨g17, 10, none⟩ = some (.bool (nb1 2)) ∧ wx.cell? ⟨g17, 11, none⟩ = some (.slice (B1 2) (m1 2) (d1 2)) ∧ wx.cell? ⟨g17, 12, none⟩ = some (.bool (na1 3)) ∧ wx.cell? ⟨g17, 13, none⟩ = some (.slice (A1 3) (n1 3) (c1 3)) ∧ wx.cell? ⟨g17, 14, none⟩ = some (.bool (nb1 3)) ∧ wx.cell? ⟨g17, 15, none⟩ = some (.slice (B1 3) (m1 3) (d1 3)) ∧ wx.cell? ⟨g17, 16, none⟩ = some (.bool (na1 4)) ∧ wx.cell? ⟨g17, 17, none⟩ = some (.slice (A1 4) (n1 4) (c1 4)) ∧ wx.cell? ⟨g17, 18, none⟩ = some (.bool (nb1 4)) ∧ wx.cell? ⟨g17, 19, none⟩ = some (.slice (B1 4) (m1 4) (d1 4)) ∧ wx.cell? ⟨g17, 20, none⟩ = some (.bool (na1 5)) ∧ wx.cell? ⟨g17, 21, none⟩ = some (.slice (A1 5) (n1 5) (c1 5)) ∧ wx.cell? ⟨g17, 22, none⟩ = some (.bool (nb1 5)) ∧ wx.cell? ⟨g17, 23, none⟩ = some (.slice (B1 5) (m1 5) (d1 5)) := fun wx hbx => by
            have q := keep_blk hbx (keep_blk hb7 q8)
            have b0 := q.cell 0
            simp at b0
            have q := keep_blk hbx q17
            have b4 := q.cell 4
            have b5 := q.cell 5
            have b6 := q.cell 6
            have b7 := q.cell 7
            have b8 := q.cell 8
            have b9 := q.cell 9
            have b10 := q.cell 10
            have b11 := q.cell 11
            have b12 := q.cell 12
            have b13 := q.cell 13
            have b14 := q.cell 14
            have b15 := q.cell 15
            have b16 := q.cell 16
            have b17 := q.cell 17
            have b18 := q.cell 18
            have b19 := q.cell 19
            have b20 := q.cell 20
            have b21 := q.cell 21
            have b22 := q.cell 22
            have b23 := q.cell 23
            simp at b4 b5 b6 b7 b8 b9 b10 b11 b12 b13 b14 b15 b16 b17 b18 b19 b20 b21 b22 b23
            exact ⟨b0, b4, b5, b6, b7, b8, b9, b10, b11, b12, b13, b14, b15, b16, b17, b18, b19, b20, b21, b22, b23⟩
          clear hS6
          have q16r := keep_blk hb7 q16
          have qmr := keep_blk hb7 qm
          have hBr := hB.trans (hb7.mono hB.size)
          have hgm := (Array.getElem?_eq_some_iff.1 qmr).1
          have hg16r := (Array.getElem?_eq_some_iff.1 q16r).1
          go_upto_region 25 with fail
          go_cut [20] from 94 to 124 (fun pv wx => ∃ g20 : Nat, pv = .pointer (some ⟨g20, 0, none⟩) ∧ Below wr.heap.size wr wx ∧ ∃ (na1r : Bool) (A1r : Option Addr) (n1r c1r : Nat) (nb1r : Bool) (B1r : Option Addr) (m1r d1r : Nat) (na2r : Bool) (A2r : Option Addr) (n2r c2r : Nat) (nb2r : Bool) (B2r : Option Addr) (m2r d2r : Nat) (na3r : Bool) (A3r : Option Addr) (n3r c3r : Nat) (nb3r : Bool) (B3r : Option Addr) (m3r d3r : Nat), Blk wx g20 31 #[.int .i64 S, .bool (na1 1), .slice (A1 1) (n1 1) (c1 1), .bool (nb1 1), .slice (B1 1) (m1 1) (d1 1), .bool (na1 2), .slice (A1 2) (n1 2) (c1 2), .bool (nb1 2), .slice (B1 2) (m1 2) (d1 2), .bool na1r, .slice A1r n1r c1r, .bool nb1r, .slice B1r m1r d1r, .bool na2r, .slice A2r n2r c2r, .bool nb2r, .slice B2r m2r d2r, .bool na3r, .slice A3r n3r c3r, .bool nb3r, .slice B3r m3r d3r] ∧ Fr wx na1r A1r n1r c1r nb1r B1r m1r d1r (Rat.divInt (sumK (gm W' ps 3) l k) S - Rat.divInt (sumK (gm W' ps 1) l k) S * Rat.divInt (sumK (gm W' ps 1) l k) S) ∧ Fr wx na2r A2r n2r c2r nb2r B2r m2r d2r (Rat.divInt (sumK (gm W' ps 4) l k) S - Rat.divInt (sumK (gm W' ps 1) l k) S * Rat.divInt (sumK (gm W' ps 2) l k) S) ∧ Fr wx na3r A3r n3r c3r nb3r B3r m3r d3r (Rat.divInt (sumK (gm W' ps 5) l k) S - Rat.divInt (sumK (gm W' ps 2) l k) S * Rat.divInt (sumK (gm W' ps 2) l k) S))
          case first =>
            refine wp_held [] (fun wx => wx.cell? ⟨g8, 0, none⟩ = some (.int .i64 S) ∧ wx.cell? ⟨g17, 4, none⟩ = some (.bool (na1 1)) ∧ wx.cell? ⟨g17, 5, none⟩ = some (.slice (A1 1) (n1 1) (c1 1)) ∧ wx.cell? ⟨g17, 6, none⟩ = some (.bool (nb1 1)) ∧ wx.cell? ⟨g17, 7, none⟩ = some (.slice (B1 1) (m1 1) (d1 1)) ∧ wx.cell? ⟨g17, 8, none⟩ = some (.bool (na1 2)) ∧ wx.cell? ⟨g17, 9, none⟩ = some (.slice (A1 2) (n1 2) (c1 2)) ∧ wx.cell? ⟨g17, 10, none⟩ = some (.bool (nb1 2)) ∧ wx.cell? ⟨g17, 11, none⟩ = some (.slice (B1 2) (m1 2) (d1 2)) ∧ wx.cell? ⟨g17, 12, none⟩ = some (.bool (na1 3)) ∧ wx.cell? ⟨g17, 13, none⟩ = some (.slice (A1 3) (n1 3) (c1 3)) ∧ wx.cell? ⟨g17, 14, none⟩ = some (.bool (nb1 3)) ∧ wx.cell? ⟨g17, 15, none⟩ = some (.slice (B1 3) (m1 3) (d1 3)) ∧ wx.cell? ⟨g17, 16, none⟩ = some (.bool (na1 4)) ∧ wx.cell? ⟨g17, 17, none⟩ = some (.slice (A1 4) (n1 4) (c1 4)) ∧ wx.cell? ⟨g17, 18, none⟩ = some (.bool (nb1 4)) ∧ wx.cell? ⟨g17, 19, none⟩ = some (.slice (B1 4) (m1 4) (d1 4)) ∧ wx.cell? ⟨g17, 20, none⟩ = some (.bool (na1 5)) ∧ wx.cell? ⟨g17, 21, none⟩ = some (.slice (A1 5) (n1 5) (c1 5)) ∧ wx.cell? ⟨g17, 22, none⟩ = some (.bool (nb1 5)) ∧ wx.cell? ⟨g17, 23, none⟩ = some (.slice (B1 5) (m1 5) (d1 5))) hmx (hS7 _ (below_dn (Below.refl _ _) 1)) (fun _ => ?_)
            have hb8 : Below wr.heap.size wr wr.drew := below_dn (Below.refl _ _) 1
            refine wpAnyL_take (i := 0) (v := ?v67) rfl (by kernel_rfl) (by kernel_rfl) (by kernel_rfl) (by kernel_rfl) (by kernel_rfl) (Or.inl ⟨by rfl, ?hy67⟩) (hS7 _ hb8) ?rest67
            case hy67 => (intro W2 hSw; (try dsimp only at hSw); go_simp; try with_reducible rfl)
            try simp only [Act.put, List.setIfInBounds_toArray, List.set_cons_zero, List.set_cons_succ]
            refine wpAnyL_take (i := 1) (v := ?v68) rfl (by kernel_rfl) (by kernel_rfl) (by kernel_rfl) (by kernel_rfl) (by kernel_rfl) (Or.inl ⟨by rfl, ?hy68⟩) (hS7 _ hb8) ?rest68
            case hy68 => (intro W2 hSw; (try dsimp only at hSw); go_simp; try with_reducible rfl)
            try simp only [Act.put, List.setIfInBounds_toArray, List.set_cons_zero, List.set_cons_succ]
            refine wpAnyL_take (i := 2) (v := ?v69) rfl (by kernel_rfl) (by kernel_rfl) (by kernel_rfl) (by kernel_rfl) (by kernel_rfl) (Or.inl ⟨by rfl, ?hy69⟩) (hS7 _ hb8) ?rest69
            case hy69 => (intro W2 hSw; (try dsimp only at hSw); go_simp; try with_reducible rfl)
            try simp only [Act.put, List.setIfInBounds_toArray, List.set_cons_zero, List.set_cons_succ]
            refine wpAnyL_take (i := 3) (v := ?v70) rfl (by kernel_rfl) (by kernel_rfl) (by kernel_rfl) (by kernel_rfl) (by kernel_rfl) (Or.inl ⟨by rfl, ?hy70⟩) (hS7 _ hb8) ?rest70
            case hy70 => (intro W2 hSw; (try dsimp only at hSw); go_simp; try with_reducible rfl)
            try simp only [Act.put, List.setIfInBounds_toArray, List.set_cons_zero, List.set_cons_succ]
            refine wpAnyL_take (i := 4) (v := ?v71) rfl (by kernel_rfl) (by kernel_rfl) (by kernel_rfl) (by kernel_rfl) (by kernel_rfl) (Or.inl ⟨by rfl, ?hy71⟩) (hS7 _ hb8) ?rest71
            case hy71 => (intro W2 hSw; (try dsimp only at hSw); go_simp; try with_reducible rfl)
            try simp only [Act.put, List.setIfInBounds_toArray, List.set_cons_zero, List.set_cons_succ]
            refine wpAnyL_take (i := 5) (v := ?v72) rfl (by kernel_rfl) (by kernel_rfl) (by kernel_rfl) (by kernel_rfl) (by kernel_rfl) (Or.inl ⟨by rfl, ?hy72⟩) (hS7 _ hb8) ?rest72
            case hy72 => (intro W2 hSw; (try dsimp only at hSw); go_simp; try with_reducible rfl)
            try simp only [Act.put, List.setIfInBounds_toArray, List.set_cons_zero, List.set_cons_succ]
            refine wpAnyL_take (i := 6) (v := ?v73) rfl (by kernel_rfl) (by kernel_rfl) (by kernel_rfl) (by kernel_rfl) (by kernel_rfl) (Or.inl ⟨by rfl, ?hy73⟩) (hS7 _ hb8) ?rest73
            case hy73 => (intro W2 hSw; (try dsimp only at hSw); go_simp; try with_reducible rfl)
            try simp only [Act.put, List.setIfInBounds_toArray, List.set_cons_zero, List.set_cons_succ]
            refine wpAnyL_take (i := 7) (v := ?v74) rfl (by kernel_rfl) (by kernel_rfl) (by kernel_rfl) (by kernel_rfl) (by kernel_rfl) (Or.inl ⟨by rfl, ?hy74⟩) (hS7 _ hb8) ?rest74
            case hy74 => (intro W2 hSw; (try dsimp only at hSw); go_simp; try with_reducible rfl)
            try simp only [Act.put, List.setIfInBounds_toArray, List.set_cons_zero, List.set_cons_succ]
            refine wpAnyL_take (i := 8) (v := ?v75) rfl (by kernel_rfl) (by kernel_rfl) (by kernel_rfl) (by kernel_rfl) (by kernel_rfl) (Or.inl ⟨by rfl, ?hy75⟩) (hS7 _ hb8) ?rest75
            case hy75 => (intro W2 hSw; (try dsimp only at hSw); go_simp; try with_reducible rfl)
            try simp only [Act.put, List.setIfInBounds_toArray, List.set_cons_zero, List.set_cons_succ]
            refine wpAnyL_take (i := 9) (v := ?v76) rfl (by kernel_rfl) (by kernel_rfl) (by kernel_rfl) (by kernel_rfl) (by kernel_rfl) (Or.inl ⟨by rfl, ?hy76⟩) (hS7 _ hb8) ?rest76
            case hy76 => (intro W2 hSw; (try dsimp only at hSw); go_simp; try with_reducible rfl)
            try simp only [Act.put, List.setIfInBounds_toArray, List.set_cons_zero, List.set_cons_succ]
            refine wpAnyL_take (i := 10) (v := ?v77) rfl (by kernel_rfl) (by kernel_rfl) (by kernel_rfl) (by kernel_rfl) (by kernel_rfl) (Or.inl ⟨by rfl, ?hy77⟩) (hS7 _ hb8) ?rest77
            case hy77 => (intro W2 hSw; (try dsimp only at hSw); go_simp; try with_reducible rfl)
            try simp only [Act.put, List.setIfInBounds_toArray, List.set_cons_zero, List.set_cons_succ]
            refine wpAnyL_take (i := 11) (v := ?v78) rfl (by kernel_rfl) (by kernel_rfl) (by kernel_rfl) (by kernel_rfl) (by kernel_rfl) (Or.inl ⟨by rfl, ?hy78⟩) (hS7 _ hb8) ?rest78
            case hy78 => (intro W2 hSw; (try dsimp only at hSw); go_simp; try with_reducible rfl)
            try simp only [Act.put, List.setIfInBounds_toArray, List.set_cons_zero, List.set_cons_succ]
            refine wpAnyL_take (i := 12) (v := ?v79) rfl (by kernel_rfl) (by kernel_rfl) (by kernel_rfl) (by kernel_rfl) (by kernel_rfl) (Or.inl ⟨by rfl, ?hy79⟩) (hS7 _ hb8) ?rest79
            case hy79 => (intro W2 hSw; (try dsimp only at hSw); go_simp; try with_reducible rfl)
            try simp only [Act.put, List.setIfInBounds_toArray, List.set_cons_zero, List.set_cons_succ]
            refine wpAnyL_take (i := 14) (v := ?v80) rfl (by kernel_rfl) (by kernel_rfl) (by kernel_rfl) (by kernel_rfl) (by kernel_rfl) (Or.inl ⟨by rfl, ?hy80⟩) (hS7 _ hb8) ?rest80
            case hy80 => (intro W2 hSw; (try dsimp only at hSw); go_simp; try with_reducible rfl)
            try simp only [Act.put, List.setIfInBounds_toArray, List.set_cons_zero, List.set_cons_succ]
            refine wpAnyL_take (i := 15) (v := ?v81) rfl (by kernel_rfl) (by kernel_rfl) (by kernel_rfl) (by kernel_rfl) (by kernel_rfl) (Or.inl ⟨by rfl, ?hy81⟩) (hS7 _ hb8) ?rest81
            case hy81 => (intro W2 hSw; (try dsimp only at hSw); go_simp; try with_reducible rfl)
            try simp only [Act.put, List.setIfInBounds_toArray, List.set_cons_zero, List.set_cons_succ]
            refine wpAnyL_take (i := 16) (v := ?v82) rfl (by kernel_rfl) (by kernel_rfl) (by kernel_rfl) (by kernel_rfl) (by kernel_rfl) (Or.inl ⟨by rfl, ?hy82⟩) (hS7 _ hb8) ?rest82
            case hy82 => (intro W2 hSw; (try dsimp only at hSw); go_simp; try with_reducible rfl)
            try simp only [Act.put, List.setIfInBounds_toArray, List.set_cons_zero, List.set_cons_succ]
            refine wpAnyL_take (i := 17) (v := ?v83) rfl (by kernel_rfl) (by kernel_rfl) (by kernel_rfl) (by kernel_rfl) (by kernel_rfl) (Or.inl ⟨by rfl, ?hy83⟩) (hS7 _ hb8) ?rest83
            case hy83 => (intro W2 hSw; (try dsimp only at hSw); go_simp; try with_reducible rfl)
            try simp only [Act.put, List.setIfInBounds_toArray, List.set_cons_zero, List.set_cons_succ]
            refine wpAnyL_take (i := 18) (v := ?v84) rfl (by kernel_rfl) (by kernel_rfl) (by kernel_rfl) (by kernel_rfl) (by kernel_rfl) (Or.inl ⟨by rfl, ?hy84⟩) (hS7 _ hb8) ?rest84
            case hy84 => (intro W2 hSw; (try dsimp only at hSw); go_simp; try with_reducible rfl)
            try simp only [Act.put, List.setIfInBounds_toArray, List.set_cons_zero, List.set_cons_succ]
            refine wpAnyL_take (i := 19) (v := ?v85) rfl (by kernel_rfl) (by kernel_rfl) (by kernel_rfl) (by kernel_rfl) (by kernel_rfl) (Or.inl ⟨by rfl, ?hy85⟩) (hS7 _ hb8) ?rest85
            case hy85 => (intro W2 hSw; (try dsimp only at hSw); go_simp; try with_reducible rfl)
            try simp only [Act.put, List.setIfInBounds_toArray, List.set_cons_zero, List.set_cons_succ]
            refine wpAnyL_take (i := 20) (v := ?v86) rfl (by kernel_rfl) (by kernel_rfl) (by kernel_rfl) (by kernel_rfl) (by kernel_rfl) (Or.inl ⟨by rfl, ?hy86⟩) (hS7 _ hb8) ?rest86
            case hy86 => (intro W2 hSw; (try dsimp only at hSw); go_simp; try with_reducible rfl)
            try simp only [Act.put, List.setIfInBounds_toArray, List.set_cons_zero, List.set_cons_succ]
            refine wpAnyL_take (i := 22) (v := ?v87) rfl (by kernel_rfl) (by kernel_rfl) (by kernel_rfl) (by kernel_rfl) (by kernel_rfl) (Or.inl ⟨by rfl, ?hy87⟩) (hS7 _ hb8) ?rest87
            case hy87 => (intro W2 hSw; (try dsimp only at hSw); go_simp; try with_reducible rfl)
            try simp only [Act.put, List.setIfInBounds_toArray, List.set_cons_zero, List.set_cons_succ]
            refine wpAnyL_take (i := 23) (v := ?v88) rfl (by kernel_rfl) (by kernel_rfl) (by kernel_rfl) (by kernel_rfl) (by kernel_rfl) (Or.inl ⟨by rfl, ?hy88⟩) (hS7 _ hb8) ?rest88
            case hy88 => (intro W2 hSw; (try dsimp only at hSw); go_simp; try with_reducible rfl)
            try simp only [Act.put, List.setIfInBounds_toArray, List.set_cons_zero, List.set_cons_succ]
            refine wpAnyL_take (i := 24) (v := ?v89) rfl (by kernel_rfl) (by kernel_rfl) (by kernel_rfl) (by kernel_rfl) (by kernel_rfl) (Or.inl ⟨by rfl, ?hy89⟩) (hS7 _ hb8) ?rest89
            case hy89 => (intro W2 hSw; (try dsimp only at hSw); go_simp; try with_reducible rfl)
            try simp only [Act.put, List.setIfInBounds_toArray, List.set_cons_zero, List.set_cons_succ]
            refine wpAnyL_take (i := 25) (v := ?v90) rfl (by kernel_rfl) (by kernel_rfl) (by kernel_rfl) (by kernel_rfl) (by kernel_rfl) (Or.inl ⟨by rfl, ?hy90⟩) (hS7 _ hb8) ?rest90
            case hy90 => (intro W2 hSw; (try dsimp only at hSw); go_simp; try with_reducible rfl)
            try simp only [Act.put, List.setIfInBounds_toArray, List.set_cons_zero, List.set_cons_succ]
            refine wpAnyL_take (i := 26) (v := ?v91) rfl (by kernel_rfl) (by kernel_rfl) (by kernel_rfl) (by kernel_rfl) (by kernel_rfl) (Or.inl ⟨by rfl, ?hy91⟩) (hS7 _ hb8) ?rest91
            case hy91 => (intro W2 hSw; (try dsimp only at hSw); go_simp; try with_reducible rfl)
            try simp only [Act.put, List.setIfInBounds_toArray, List.set_cons_zero, List.set_cons_succ]
            refine wpAnyL_take (i := 27) (v := ?v92) rfl (by kernel_rfl) (by kernel_rfl) (by kernel_rfl) (by kernel_rfl) (by kernel_rfl) (Or.inl ⟨by rfl, ?hy92⟩) (hS7 _ hb8) ?rest92
            case hy92 => (intro W2 hSw; (try dsimp only at hSw); go_simp; try with_reducible rfl)
            try simp only [Act.put, List.setIfInBounds_toArray, List.set_cons_zero, List.set_cons_succ]
            refine wpAnyL_take (i := 28) (v := ?v93) rfl (by kernel_rfl) (by kernel_rfl) (by kernel_rfl) (by kernel_rfl) (by kernel_rfl) (Or.inl ⟨by rfl, ?hy93⟩) (hS7 _ hb8) ?rest93
            case hy93 => (intro W2 hSw; (try dsimp only at hSw); go_simp; try with_reducible rfl)
            try simp only [Act.put, List.setIfInBounds_toArray, List.set_cons_zero, List.set_cons_succ]
            refine wpAnyL_two (i := 13) (j := 31) rfl rfl (by kernel_rfl) (fun K hK => ?_) (fun K hK => ?_)
            · have hq := keep_blk hb8 q16r
              have f1 := hF3.out.below hb8
              have f2 := hF1.out.below hb8
              have f3 := hF1.out.below hb8
              go_simp
              refine (about_ok g16 _ (na1 3) (nb1 3) (na1 1) (nb1 1) (na1 1) (nb1 1) (A1 3) (B1 3) (A1 1) (B1 1) (A1 1) (B1 1) (n1 3) (c1 3) (m1 3) (d1 3) (n1 1) (c1 1) (m1 1) (d1 1) (n1 1) (c1 1) (m1 1) (d1 1) _ _ _ _ hq f1 f2 f3 ((hqS 3).sm (by omega) (by omega)) ((hqS 1).sm (by omega) (by omega)) ((hqS 1).sm (by omega) (by omega)) (((hqS 1).mul (hqS 1)).sm (by omega) (by omega))).mono ?_
              rintro e w1c ⟨hbc, na1r, A1r, n1r, c1r, nb1r, B1r, m1r, d1r, rfl, hR1⟩
              clear hq f1 f2 f3
              replace hb8 := hb8.trans (hbc.mono hb8.size)
              replace hR1 := hide hR1
              clear hbc
              refine hK.out _ _ (fun _ => hS7 _ hb8) ?_
              clear hK K
              try simp only [Act.put, List.setIfInBounds_toArray, List.set_cons_zero, List.set_cons_succ]
              refine wpAnyL_two (i := 21) (j := 31) rfl rfl (by kernel_rfl) (fun K hK => ?_) (fun K hK => ?_)
              · have hq := keep_blk hb8 q16r
                have f1 := hF4.out.below hb8
                have f2 := hF1.out.below hb8
                have f3 := hF2.out.below hb8
                go_simp
                refine (about_ok g16 _ (na1 4) (nb1 4) (na1 1) (nb1 1) (na1 2) (nb1 2) (A1 4) (B1 4) (A1 1) (B1 1) (A1 2) (B1 2) (n1 4) (c1 4) (m1 4) (d1 4) (n1 1) (c1 1) (m1 1) (d1 1) (n1 2) (c1 2) (m1 2) (d1 2) _ _ _ _ hq f1 f2 f3 ((hqS 4).sm (by omega) (by omega)) ((hqS 1).sm (by omega) (by omega)) ((hqS 2).sm (by omega) (by omega)) (((hqS 1).mul (hqS 2)).sm (by omega) (by omega))).mono ?_
                rintro e w2c ⟨hbc, na2r, A2r, n2r, c2r, nb2r, B2r, m2r, d2r, rfl, hR2⟩
                clear hq f1 f2 f3
                replace hb8 := hb8.trans (hbc.mono hb8.size)
                replace hR2 := hide hR2
                replace hR1 := hide (hR1.out.below hbc)
                clear hbc
                refine hK.out _ _ (fun _ => hS7 _ hb8) ?_
                clear hK K
                try simp only [Act.put, List.setIfInBounds_toArray, List.set_cons_zero, List.set_cons_succ]
                refine wpAnyL_two (i := 29) (j := 31) rfl rfl (by kernel_rfl) (fun K hK => ?_) (fun K hK => ?_)
                · have hq := keep_blk hb8 q16r
                  have f1 := hF5.out.below hb8
                  have f2 := hF2.out.below hb8
                  have f3 := hF2.out.below hb8
                  go_simp
                  refine (about_ok g16 _ (na1 5) (nb1 5) (na1 2) (nb1 2) (na1 2) (nb1 2) (A1 5) (B1 5) (A1 2) (B1 2) (A1 2) (B1 2) (n1 5) (c1 5) (m1 5) (d1 5) (n1 2) (c1 2) (m1 2) (d1 2) (n1 2) (c1 2) (m1 2) (d1 2) _ _ _ _ hq f1 f2 f3 ((hqS 5).sm (by omega) (by omega)) ((hqS 2).sm (by omega) (by omega)) ((hqS 2).sm (by omega) (by omega)) (((hqS 2).mul (hqS 2)).sm (by omega) (by omega))).mono ?_
                  rintro e w3c ⟨hbc, na3r, A3r, n3r, c3r, nb3r, B3r, m3r, d3r, rfl, hR3⟩
                  clear hq f1 f2 f3
                  replace hb8 := hb8.trans (hbc.mono hb8.size)
                  replace hR3 := hide hR3
                  replace hR1 := hide (hR1.out.below hbc)
                  replace hR2 := hide (hR2.out.below hbc)
                  clear hbc
                  refine hK.out _ _ (fun _ => hS7 _ hb8) ?_
                  clear hK K
                  try simp only [Act.put, List.setIfInBounds_toArray, List.set_cons_zero, List.set_cons_succ]
                  refine wpAnyL_take (i := 30) (v := ?v94) rfl (by kernel_rfl) (by kernel_rfl) (by kernel_rfl) (by kernel_rfl) (by kernel_rfl) (Or.inl ⟨by rfl, ?hy94⟩) (hS7 _ hb8) ?rest94
                  case hy94 => (intro W2 hSw; (try dsimp only at hSw); go_simp; try with_reducible rfl)
                  try simp only [Act.put, List.setIfInBounds_toArray, List.set_cons_zero, List.set_cons_succ]
                  refine wpAnyL_one (i := 31) rfl (by kernel_rfl) (fun K hK => ?_)
                  go_simp
                  obtain ⟨V, hVe, hBV, hV, hk1, hk2, sV⟩ := new_obj 31 #[.int .i64 0, .bool false, .slice none 0 0, .bool false, .slice none 0 0, .bool false, .slice none 0 0, .bool false, .slice none 0 0, .bool false, .slice none 0 0, .bool false, .slice none 0 0, .bool false, .slice none 0 0, .bool false, .slice none 0 0, .bool false, .slice none 0 0, .bool false, .slice none 0 0] hb8 hb8.size
                  have hgV := hb8.size
                  rw [hVe]
                  replace hR1 := hide (hR1.out.keep hk1)
                  replace hR2 := hide (hR2.out.keep hk1)
                  replace hR3 := hide (hR3.out.keep hk1)
                  replace hb8 := hBV
                  clear hVe hBV hk1 hk2 sV
                  refine hK.out _ _ (fun _ => hS7 _ hb8) ?_
                  clear hK K
                  try simp only [Act.put, List.setIfInBounds_toArray, List.set_cons_zero, List.set_cons_succ]
                  refine wpAnyL_one (i := 32) rfl (by kernel_rfl) (fun K hK => ?_)
                  refine wp_store_mid 31 _ _ rfl _ 0 #[.int .i64 S, .bool (na1 1), .slice (A1 1) (n1 1) (c1 1), .bool (nb1 1), .slice (B1 1) (m1 1) (d1 1), .bool (na1 2), .slice (A1 2) (n1 2) (c1 2), .bool (nb1 2), .slice (B1 2) (m1 2) (d1 2), .bool na1r, .slice A1r n1r c1r, .bool nb1r, .slice B1r m1r d1r, .bool na2r, .slice A2r n2r c2r, .bool nb2r, .slice B2r m2r d2r, .bool na3r, .slice A3r n3r c3r, .bool nb3r, .slice B3r m3r d3r] rfl rfl (hV.there (by simp)) info_mom (by simp [Value.oneCell']) ?_
                  obtain ⟨w9, hw9, hb9, q20, hst⟩ := set_all [.int .i64 S, .bool (na1 1), .slice (A1 1) (n1 1) (c1 1), .bool (nb1 1), .slice (B1 1) (m1 1) (d1 1), .bool (na1 2), .slice (A1 2) (n1 2) (c1 2), .bool (nb1 2), .slice (B1 2) (m1 2) (d1 2), .bool na1r, .slice A1r n1r c1r, .bool nb1r, .slice B1r m1r d1r, .bool na2r, .slice A2r n2r c2r, .bool nb2r, .slice B2r m2r d2r, .bool na3r, .slice A3r n3r c3r, .bool nb3r, .slice B3r m3r d3r] [.int .i64 0, .bool false, .slice none 0 0, .bool false, .slice none 0 0, .bool false, .slice none 0 0, .bool false, .slice none 0 0, .bool false, .slice none 0 0, .bool false, .slice none 0 0, .bool false, .slice none 0 0, .bool false, .slice none 0 0, .bool false, .slice none 0 0, .bool false, .slice none 0 0] rfl rfl rfl hb8 hgV hV
                  rw [hw9]
                  replace hR1 := hide (hR1.out.keep hst.1)
                  replace hR2 := hide (hR2.out.keep hst.1)
                  replace hR3 := hide (hR3.out.keep hst.1)
                  replace hb8 := hb9
                  clear hw9 hb9 hst
                  refine hK.out _ _ (fun _ => hS7 _ hb8) ?_
                  clear hK K
                  try simp only [Act.put, List.setIfInBounds_toArray, List.set_cons_zero, List.set_cons_succ]
                  refine wpAnyL_done (by kernel_rfl) ?_ _
                  refine OnlyNormal.normal ?_
                  try simp only [Act.put, List.setIfInBounds_toArray, List.set_cons_zero, List.set_cons_succ, List.getElem_toArray, List.getElem_cons_succ, List.getElem_cons_zero]
                  go_simp
                  go_wp2_with fail
                  go_meet
                  exact ⟨_, rfl, hb8, _, _, _, _, _, _, _, _, _, _, _, _, _, _, _, _, _, _, _, _, _, _, _, _, q20, hR1.out, hR2.out, hR3.out⟩
                · go_simp
                  obtain ⟨V, hVe, hBV, hV, hk1, hk2, sV⟩ := new_obj 31 #[.int .i64 0, .bool false, .slice none 0 0, .bool false, .slice none 0 0, .bool false, .slice none 0 0, .bool false, .slice none 0 0, .bool false, .slice none 0 0, .bool false, .slice none 0 0, .bool false, .slice none 0 0, .bool false, .slice none 0 0, .bool false, .slice none 0 0, .bool false, .slice none 0 0] hb8 hb8.size
                  have hgV := hb8.size
                  rw [hVe]
                  replace hR1 := hide (hR1.out.keep hk1)
                  replace hR2 := hide (hR2.out.keep hk1)
                  replace hb8 := hBV
                  clear hVe hBV hk1 hk2 sV
                  refine hK.out _ _ (fun _ => hS7 _ hb8) ?_
                  clear hK K
                  try simp only [Act.put, List.setIfInBounds_toArray, List.set_cons_zero, List.set_cons_succ]
                  refine wpAnyL_one (i := 29) rfl (by kernel_rfl) (fun K hK => ?_)
                  have hq := keep_blk hb8 q16r
                  have f1 := hF5.out.below hb8
                  have f2 := hF2.out.below hb8
                  have f3 := hF2.out.below hb8
                  go_simp
                  refine (about_ok g16 _ (na1 5) (nb1 5) (na1 2) (nb1 2) (na1 2) (nb1 2) (A1 5) (B1 5) (A1 2) (B1 2) (A1 2) (B1 2) (n1 5) (c1 5) (m1 5) (d1 5) (n1 2) (c1 2) (m1 2) (d1 2) (n1 2) (c1 2) (m1 2) (d1 2) _ _ _ _ hq f1 f2 f3 ((hqS 5).sm (by omega) (by omega)) ((hqS 2).sm (by omega) (by omega)) ((hqS 2).sm (by omega) (by omega)) (((hqS 2).mul (hqS 2)).sm (by omega) (by omega))).mono ?_
                  rintro e w3c ⟨hbc, na3r, A3r, n3r, c3r, nb3r, B3r, m3r, d3r, rfl, hR3⟩
                  clear hq f1 f2 f3
                  replace hb8 := hb8.trans (hbc.mono hb8.size)
                  replace hR3 := hide hR3
                  replace hR1 := hide (hR1.out.below hbc)
                  replace hR2 := hide (hR2.out.below hbc)
                  replace hV := keep_blk hbc hV
                  clear hbc
                  refine hK.out _ _ (fun _ => hS7 _ hb8) ?_
                  clear hK K
                  try simp only [Act.put, List.setIfInBounds_toArray, List.set_cons_zero, List.set_cons_succ]
                  refine wpAnyL_take (i := 30) (v := ?v95) rfl (by kernel_rfl) (by kernel_rfl) (by kernel_rfl) (by kernel_rfl) (by kernel_rfl) (Or.inl ⟨by rfl, ?hy95⟩) (hS7 _ hb8) ?rest95
                  case hy95 => (intro W2 hSw; (try dsimp only at hSw); go_simp; try with_reducible rfl)
                  try simp only [Act.put, List.setIfInBounds_toArray, List.set_cons_zero, List.set_cons_succ]
                  refine wpAnyL_one (i := 32) rfl (by kernel_rfl) (fun K hK => ?_)
                  refine wp_store_mid 31 _ _ rfl _ 0 #[.int .i64 S, .bool (na1 1), .slice (A1 1) (n1 1) (c1 1), .bool (nb1 1), .slice (B1 1) (m1 1) (d1 1), .bool (na1 2), .slice (A1 2) (n1 2) (c1 2), .bool (nb1 2), .slice (B1 2) (m1 2) (d1 2), .bool na1r, .slice A1r n1r c1r, .bool nb1r, .slice B1r m1r d1r, .bool na2r, .slice A2r n2r c2r, .bool nb2r, .slice B2r m2r d2r, .bool na3r, .slice A3r n3r c3r, .bool nb3r, .slice B3r m3r d3r] rfl rfl (hV.there (by simp)) info_mom (by simp [Value.oneCell']) ?_
                  obtain ⟨w9, hw9, hb9, q20, hst⟩ := set_all [.int .i64 S, .bool (na1 1), .slice (A1 1) (n1 1) (c1 1), .bool (nb1 1), .slice (B1 1) (m1 1) (d1 1), .bool (na1 2), .slice (A1 2) (n1 2) (c1 2), .bool (nb1 2), .slice (B1 2) (m1 2) (d1 2), .bool na1r, .slice A1r n1r c1r, .bool nb1r, .slice B1r m1r d1r, .bool na2r, .slice A2r n2r c2r, .bool nb2r, .slice B2r m2r d2r, .bool na3r, .slice A3r n3r c3r, .bool nb3r, .slice B3r m3r d3r] [.int .i64 0, .bool false, .slice none 0 0, .bool false, .slice none 0 0, .bool false, .slice none 0 0, .bool false, .slice none 0 0, .bool false, .slice none 0 0, .bool false, .slice none 0 0, .bool false, .slice none 0 0, .bool false, .slice none 0 0, .bool false, .slice none 0 0, .bool false, .slice none 0 0] rfl rfl rfl hb8 hgV hV
                  rw [hw9]
                  replace hR1 := hide (hR1.out.keep hst.1)
                  replace hR2 := hide (hR2.out.keep hst.1)
                  replace hR3 := hide (hR3.out.keep hst.1)
                  replace hb8 := hb9
                  clear hw9 hb9 hst
                  refine hK.out _ _ (fun _ => hS7 _ hb8) ?_
                  clear hK K
                  try simp only [Act.put, List.setIfInBounds_toArray, List.set_cons_zero, List.set_cons_succ]
                  refine wpAnyL_done (by kernel_rfl) ?_ _
                  refine OnlyNormal.normal ?_
                  try simp only [Act.put, List.setIfInBounds_toArray, List.set_cons_zero, List.set_cons_succ, List.getElem_toArray, List.getElem_cons_succ, List.getElem_cons_zero]
                  go_simp
                  go_wp2_with fail
                  go_meet
                  exact ⟨_, rfl, hb8, _, _, _, _, _, _, _, _, _, _, _, _, _, _, _, _, _, _, _, _, _, _, _, _, q20, hR1.out, hR2.out, hR3.out⟩
              · go_simp
                obtain ⟨V, hVe, hBV, hV, hk1, hk2, sV⟩ := new_obj 31 #[.int .i64 0, .bool false, .slice none 0 0, .bool false, .slice none 0 0, .bool false, .slice none 0 0, .bool false, .slice none 0 0, .bool false, .slice none 0 0, .bool false, .slice none 0 0, .bool false, .slice none 0 0, .bool false, .slice none 0 0, .bool false, .slice none 0 0, .bool false, .slice none 0 0] hb8 hb8.size
                have hgV := hb8.size
                rw [hVe]
                replace hR1 := hide (hR1.out.keep hk1)
                replace hb8 := hBV
                clear hVe hBV hk1 hk2 sV
                refine hK.out _ _ (fun _ => hS7 _ hb8) ?_
                clear hK K
                try simp only [Act.put, List.setIfInBounds_toArray, List.set_cons_zero, List.set_cons_succ]
                refine wpAnyL_one (i := 21) rfl (by kernel_rfl) (fun K hK => ?_)
                have hq := keep_blk hb8 q16r
                have f1 := hF4.out.below hb8
                have f2 := hF1.out.below hb8
                have f3 := hF2.out.below hb8
                go_simp
                refine (about_ok g16 _ (na1 4) (nb1 4) (na1 1) (nb1 1) (na1 2) (nb1 2) (A1 4) (B1 4) (A1 1) (B1 1) (A1 2) (B1 2) (n1 4) (c1 4) (m1 4) (d1 4) (n1 1) (c1 1) (m1 1) (d1 1) (n1 2) (c1 2) (m1 2) (d1 2) _ _ _ _ hq f1 f2 f3 ((hqS 4).sm (by omega) (by omega)) ((hqS 1).sm (by omega) (by omega)) ((hqS 2).sm (by omega) (by omega)) (((hqS 1).mul (hqS 2)).sm (by omega) (by omega))).mono ?_
                rintro e w2c ⟨hbc, na2r, A2r, n2r, c2r, nb2r, B2r, m2r, d2r, rfl, hR2⟩
                clear hq f1 f2 f3
                replace hb8 := hb8.trans (hbc.mono hb8.size)
                replace hR2 := hide hR2
                replace hR1 := hide (hR1.out.below hbc)
                replace hV := keep_blk hbc hV
                clear hbc
                refine hK.out _ _ (fun _ => hS7 _ hb8) ?_
                clear hK K
                try simp only [Act.put, List.setIfInBounds_toArray, List.set_cons_zero, List.set_cons_succ]
                refine wpAnyL_one (i := 29) rfl (by kernel_rfl) (fun K hK => ?_)
                have hq := keep_blk hb8 q16r
                have f1 := hF5.out.below hb8
                have f2 := hF2.out.below hb8
                have f3 := hF2.out.below hb8
                go_simp
                refine (about_ok g16 _ (na1 5) (nb1 5) (na1 2) (nb1 2) (na1 2) (nb1 2) (A1 5) (B1 5) (A1 2) (B1 2) (A1 2) (B1 2) (n1 5) (c1 5) (m1 5) (d1 5) (n1 2) (c1 2) (m1 2) (d1 2) (n1 2) (c1 2) (m1 2) (d1 2) _ _ _ _ hq f1 f2 f3 ((hqS 5).sm (by omega) (by omega)) ((hqS 2).sm (by omega) (by omega)) ((hqS 2).sm (by omega) (by omega)) (((hqS 2).mul (hqS 2)).sm (by omega) (by omega))).mono ?_
                rintro e w3c ⟨hbc, na3r, A3r, n3r, c3r, nb3r, B3r, m3r, d3r, rfl, hR3⟩
                clear hq f1 f2 f3
                replace hb8 := hb8.trans (hbc.mono hb8.size)
                replace hR3 := hide hR3
                replace hR1 := hide (hR1.out.below hbc)
                replace hR2 := hide (hR2.out.below hbc)
                replace hV := keep_blk hbc hV
                clear hbc
                refine hK.out _ _ (fun _ => hS7 _ hb8) ?_
                clear hK K
                try simp only [Act.put, List.setIfInBounds_toArray, List.set_cons_zero, List.set_cons_succ]
                refine wpAnyL_take (i := 30) (v := ?v96) rfl (by kernel_rfl) (by kernel_rfl) (by kernel_rfl) (by kernel_rfl) (by kernel_rfl) (Or.inl ⟨by rfl, ?hy96⟩) (hS7 _ hb8) ?rest96
                case hy96 => (intro W2 hSw; (try dsimp only at hSw); go_simp; try with_reducible rfl)
                try simp only [Act.put, List.setIfInBounds_toArray, List.set_cons_zero, List.set_cons_succ]
                refine wpAnyL_one (i := 32) rfl (by kernel_rfl) (fun K hK => ?_)
                refine wp_store_mid 31 _ _ rfl _ 0 #[.int .i64 S, .bool (na1 1), .slice (A1 1) (n1 1) (c1 1), .bool (nb1 1), .slice (B1 1) (m1 1) (d1 1), .bool (na1 2), .slice (A1 2) (n1 2) (c1 2), .bool (nb1 2), .slice (B1 2) (m1 2) (d1 2), .bool na1r, .slice A1r n1r c1r, .bool nb1r, .slice B1r m1r d1r, .bool na2r, .slice A2r n2r c2r, .bool nb2r, .slice B2r m2r d2r, .bool na3r, .slice A3r n3r c3r, .bool nb3r, .slice B3r m3r d3r] rfl rfl (hV.there (by simp)) info_mom (by simp [Value.oneCell']) ?_
                obtain ⟨w9, hw9, hb9, q20, hst⟩ := set_all [.int .i64 S, .bool (na1 1), .slice (A1 1) (n1 1) (c1 1), .bool (nb1 1), .slice (B1 1) (m1 1) (d1 1), .bool (na1 2), .slice (A1 2) (n1 2) (c1 2), .bool (nb1 2), .slice (B1 2) (m1 2) (d1 2), .bool na1r, .slice A1r n1r c1r, .bool nb1r, .slice B1r m1r d1r, .bool na2r, .slice A2r n2r c2r, .bool nb2r, .slice B2r m2r d2r, .bool na3r, .slice A3r n3r c3r, .bool nb3r, .slice B3r m3r d3r] [.int .i64 0, .bool false, .slice none 0 0, .bool false, .slice none 0 0, .bool false, .slice none 0 0, .bool false, .slice none 0 0, .bool false, .slice none 0 0, .bool false, .slice none 0 0, .bool false, .slice none 0 0, .bool false, .slice none 0 0, .bool false, .slice none 0 0, .bool false, .slice none 0 0] rfl rfl rfl hb8 hgV hV
                rw [hw9]
                replace hR1 := hide (hR1.out.keep hst.1)
                replace hR2 := hide (hR2.out.keep hst.1)
                replace hR3 := hide (hR3.out.keep hst.1)
                replace hb8 := hb9
                clear hw9 hb9 hst
                refine hK.out _ _ (fun _ => hS7 _ hb8) ?_
                clear hK K
                try simp only [Act.put, List.setIfInBounds_toArray, List.set_cons_zero, List.set_cons_succ]
                refine wpAnyL_done (by kernel_rfl) ?_ _
                refine OnlyNormal.normal ?_
                try simp only [Act.put, List.setIfInBounds_toArray, List.set_cons_zero, List.set_cons_succ, List.getElem_toArray, List.getElem_cons_succ, List.getElem_cons_zero]
                go_simp
                go_wp2_with fail
                go_meet
                exact ⟨_, rfl, hb8, _, _, _, _, _, _, _, _, _, _, _, _, _, _, _, _, _, _, _, _, _, _, _, _, q20, hR1.out, hR2.out, hR3.out⟩
            · go_simp
              obtain ⟨V, hVe, hBV, hV, hk1, hk2, sV⟩ := new_obj 31 #[.int .i64 0, .bool false, .slice none 0 0, .bool false, .slice none 0 0, .bool false, .slice none 0 0, .bool false, .slice none 0 0, .bool false, .slice none 0 0, .bool false, .slice none 0 0, .bool false, .slice none 0 0, .bool false, .slice none 0 0, .bool false, .slice none 0 0, .bool false, .slice none 0 0] (Below.refl wr.heap.size wr) (Nat.le_refl _)
              have hgV := Nat.le_refl wr.heap.size
              rw [hVe]
              replace hb8 : Below wr.heap.size wr V.drew := below_dn hBV 1
              replace hV : Blk V.drew wr.heap.size 31 #[.int .i64 0, .bool false, .slice none 0 0, .bool false, .slice none 0 0, .bool false, .slice none 0 0, .bool false, .slice none 0 0, .bool false, .slice none 0 0, .bool false, .slice none 0 0, .bool false, .slice none 0 0, .bool false, .slice none 0 0, .bool false, .slice none 0 0, .bool false, .slice none 0 0] := hV
              clear hVe hBV hk1 hk2 sV
              refine hK.out _ _ (fun _ => hS7 _ hb8) ?_
              clear hK K
              try simp only [Act.put, List.setIfInBounds_toArray, List.set_cons_zero, List.set_cons_succ]
              refine wpAnyL_one (i := 13) rfl (by kernel_rfl) (fun K hK => ?_)
              have hq := keep_blk hb8 q16r
              have f1 := hF3.out.below hb8
              have f2 := hF1.out.below hb8
              have f3 := hF1.out.below hb8
              go_simp
              refine (about_ok g16 _ (na1 3) (nb1 3) (na1 1) (nb1 1) (na1 1) (nb1 1) (A1 3) (B1 3) (A1 1) (B1 1) (A1 1) (B1 1) (n1 3) (c1 3) (m1 3) (d1 3) (n1 1) (c1 1) (m1 1) (d1 1) (n1 1) (c1 1) (m1 1) (d1 1) _ _ _ _ hq f1 f2 f3 ((hqS 3).sm (by omega) (by omega)) ((hqS 1).sm (by omega) (by omega)) ((hqS 1).sm (by omega) (by omega)) (((hqS 1).mul (hqS 1)).sm (by omega) (by omega))).mono ?_
              rintro e w1c ⟨hbc, na1r, A1r, n1r, c1r, nb1r, B1r, m1r, d1r, rfl, hR1⟩
              clear hq f1 f2 f3
              replace hb8 := hb8.trans (hbc.mono hb8.size)
              replace hR1 := hide hR1
              replace hV := keep_blk hbc hV
              clear hbc
              refine hK.out _ _ (fun _ => hS7 _ hb8) ?_
              clear hK K
              try simp only [Act.put, List.setIfInBounds_toArray, List.set_cons_zero, List.set_cons_succ]
              refine wpAnyL_one (i := 21) rfl (by kernel_rfl) (fun K hK => ?_)
              have hq := keep_blk hb8 q16r
              have f1 := hF4.out.below hb8
              have f2 := hF1.out.below hb8
              have f3 := hF2.out.below hb8
              go_simp
              refine (about_ok g16 _ (na1 4) (nb1 4) (na1 1) (nb1 1) (na1 2) (nb1 2) (A1 4) (B1 4) (A1 1) (B1 1) (A1 2) (B1 2) (n1 4) (c1 4) (m1 4) (d1 4) (n1 1) (c1 1) (m1 1) (d1 1) (n1 2) (c1 2) (m1 2) (d1 2) _ _ _ _ hq f1 f2 f3 ((hqS 4).sm (by omega) (by omega)) ((hqS 1).sm (by omega) (by omega)) ((hqS 2).sm (by omega) (by omega)) (((hqS 1).mul (hqS 2)).sm (by omega) (by omega))).mono ?_
              rintro e w2c ⟨hbc, na2r, A2r, n2r, c2r, nb2r, B2r, m2r, d2r, rfl, hR2⟩
              clear hq f1 f2 f3
              replace hb8 := hb8.trans (hbc.mono hb8.size)
              replace hR2 := hide hR2
              replace hR1 := hide (hR1.out.below hbc)
              replace hV := keep_blk hbc hV
              clear hbc
              refine hK.out _ _ (fun _ => hS7 _ hb8) ?_
              clear hK K
              try simp only [Act.put, List.setIfInBounds_toArray, List.set_cons_zero, List.set_cons_succ]
              refine wpAnyL_one (i := 29) rfl (by kernel_rfl) (fun K hK => ?_)
              have hq := keep_blk hb8 q16r
              have f1 := hF5.out.below hb8
              have f2 := hF2.out.below hb8
              have f3 := hF2.out.below hb8
              go_simp
              refine (about_ok g16 _ (na1 5) (nb1 5) (na1 2) (nb1 2) (na1 2) (nb1 2) (A1 5) (B1 5) (A1 2) (B1 2) (A1 2) (B1 2) (n1 5) (c1 5) (m1 5) (d1 5) (n1 2) (c1 2) (m1 2) (d1 2) (n1 2) (c1 2) (m1 2) (d1 2) _ _ _ _ hq f1 f2 f3 ((hqS 5).sm (by omega) (by omega)) ((hqS 2).sm (by omega) (by omega)) ((hqS 2).sm (by omega) (by omega)) (((hqS 2).mul (hqS 2)).sm (by omega) (by omega))).mono ?_
              rintro e w3c ⟨hbc, na3r, A3r, n3r, c3r, nb3r, B3r, m3r, d3r, rfl, hR3⟩
              clear hq f1 f2 f3
              replace hb8 := hb8.trans (hbc.mono hb8.size)
              replace hR3 := hide hR3
              replace hR1 := hide (hR1.out.below hbc)
              replace hR2 := hide (hR2.out.below hbc)
              replace hV := keep_blk hbc hV
              clear hbc
              refine hK.out _ _ (fun _ => hS7 _ hb8) ?_
              clear hK K
              try simp only [Act.put, List.setIfInBounds_toArray, List.set_cons_zero, List.set_cons_succ]
              refine wpAnyL_take (i := 30) (v := ?v97) rfl (by kernel_rfl) (by kernel_rfl) (by kernel_rfl) (by kernel_rfl) (by kernel_rfl) (Or.inl ⟨by rfl, ?hy97⟩) (hS7 _ hb8) ?rest97
              case hy97 => (intro W2 hSw; (try dsimp only at hSw); go_simp; try with_reducible rfl)
              try simp only [Act.put, List.setIfInBounds_toArray, List.set_cons_zero, List.set_cons_succ]
              refine wpAnyL_one (i := 32) rfl (by kernel_rfl) (fun K hK => ?_)
              refine wp_store_mid 31 _ _ rfl _ 0 #[.int .i64 S, .bool (na1 1), .slice (A1 1) (n1 1) (c1 1), .bool (nb1 1), .slice (B1 1) (m1 1) (d1 1), .bool (na1 2), .slice (A1 2) (n1 2) (c1 2), .bool (nb1 2), .slice (B1 2) (m1 2) (d1 2), .bool na1r, .slice A1r n1r c1r, .bool nb1r, .slice B1r m1r d1r, .bool na2r, .slice A2r n2r c2r, .bool nb2r, .slice B2r m2r d2r, .bool na3r, .slice A3r n3r c3r, .bool nb3r, .slice B3r m3r d3r] rfl rfl (hV.there (by simp)) info_mom (by simp [Value.oneCell']) ?_
              obtain ⟨w9, hw9, hb9, q20, hst⟩ := set_all [.int .i64 S, .bool (na1 1), .slice (A1 1) (n1 1) (c1 1), .bool (nb1 1), .slice (B1 1) (m1 1) (d1 1), .bool (na1 2), .slice (A1 2) (n1 2) (c1 2), .bool (nb1 2), .slice (B1 2) (m1 2) (d1 2), .bool na1r, .slice A1r n1r c1r, .bool nb1r, .slice B1r m1r d1r, .bool na2r, .slice A2r n2r c2r, .bool nb2r, .slice B2r m2r d2r, .bool na3r, .slice A3r n3r c3r, .bool nb3r, .slice B3r m3r d3r] [.int .i64 0, .bool false, .slice none 0 0, .bool false, .slice none 0 0, .bool false, .slice none 0 0, .bool false, .slice none 0 0, .bool false, .slice none 0 0, .bool false, .slice none 0 0, .bool false, .slice none 0 0, .bool false, .slice none 0 0, .bool false, .slice none 0 0, .bool false, .slice none 0 0] rfl rfl rfl hb8 hgV hV
              rw [hw9]
              replace hR1 := hide (hR1.out.keep hst.1)
              replace hR2 := hide (hR2.out.keep hst.1)
              replace hR3 := hide (hR3.out.keep hst.1)
              replace hb8 := hb9
              clear hw9 hb9 hst
              refine hK.out _ _ (fun _ => hS7 _ hb8) ?_
              clear hK K
              try simp only [Act.put, List.setIfInBounds_toArray, List.set_cons_zero, List.set_cons_succ]
              refine wpAnyL_done (by kernel_rfl) ?_ _
              refine OnlyNormal.normal ?_
              try simp only [Act.put, List.setIfInBounds_toArray, List.set_cons_zero, List.set_cons_succ, List.getElem_toArray, List.getElem_cons_succ, List.getElem_cons_zero]
              go_simp
              go_wp2_with fail
              go_meet
              exact ⟨_, rfl, hb8, _, _, _, _, _, _, _, _, _, _, _, _, _, _, _, _, _, _, _, _, _, _, _, _, q20, hR1.out, hR2.out, hR3.out⟩
          case rest =>
            obtain ⟨g20, rfl, hb8, na1r, A1r, n1r, c1r, nb1r, B1r, m1r, d1r, na2r, A2r, n2r, c2r, nb2r, B2r, m2r, d2r, na3r, A3r, n3r, c3r, nb3r, B3r, m3r, d3r, q20, hR1, hR2, hR3⟩ := hcut
            have q16z := keep_blk hb8 q16r
            have e0 := q16z.cell 0
            simp at e0
            have qmz := keep_blk hb8 qmr
            have hBz := hBr.trans (hb8.mono hBr.size)
            clear hS7
            obtain ⟨d0, hd1, hd2⟩ := und_mom
            go_wp2_with (first | (refine wpList_load_mid rfl 31 _ rfl _ 0 rfl [.int .i64 S, .bool (na1 1), .slice (A1 1) (n1 1) (c1 1), .bool (nb1 1), .slice (B1 1) (m1 1) (d1 1), .bool (na1 2), .slice (A1 2) (n1 2) (c1 2), .bool (nb1 2), .slice (B1 2) (m1 2) (d1 2), .bool na1r, .slice A1r n1r c1r, .bool nb1r, .slice B1r m1r d1r, .bool na2r, .slice A2r n2r c2r, .bool nb2r, .slice B2r m2r d2r, .bool na3r, .slice A3r n3r c3r, .bool nb3r, .slice B3r m3r d3r] d0 (q20.rangeAt [] (rest := []) rfl) hd1 hd2 info_mom ?_) | (refine wpList_store_mid rfl 31 _ _ rfl (w.heap.size + 1) 0 #[.int .i64 S, .bool (na1 1), .slice (A1 1) (n1 1) (c1 1), .bool (nb1 1), .slice (B1 1) (m1 1) (d1 1), .bool (na1 2), .slice (A1 2) (n1 2) (c1 2), .bool (nb1 2), .slice (B1 2) (m1 2) (d1 2), .bool na1r, .slice A1r n1r c1r, .bool nb1r, .slice B1r m1r d1r, .bool na2r, .slice A2r n2r c2r, .bool nb2r, .slice B2r m2r d2r, .bool na3r, .slice A3r n3r c3r, .bool nb3r, .slice B3r m3r d3r] rfl rfl (qmz.there (by simp)) info_mom (by simp [Value.oneCell']) ?_; obtain ⟨V9, hV9, hB9, qm9, hst⟩ := set_all [.int .i64 S, .bool (na1 1), .slice (A1 1) (n1 1) (c1 1), .bool (nb1 1), .slice (B1 1) (m1 1) (d1 1), .bool (na1 2), .slice (A1 2) (n1 2) (c1 2), .bool (nb1 2), .slice (B1 2) (m1 2) (d1 2), .bool na1r, .slice A1r n1r c1r, .bool nb1r, .slice B1r m1r d1r, .bool na2r, .slice A2r n2r c2r, .bool nb2r, .slice B2r m2r d2r, .bool na3r, .slice A3r n3r c3r, .bool nb3r, .slice B3r m3r d3r] [.int .i64 0, .bool false, .slice none 0 0, .bool false, .slice none 0 0, .bool false, .slice none 0 0, .bool false, .slice none 0 0, .bool false, .slice none 0 0, .bool false, .slice none 0 0, .bool false, .slice none 0 0, .bool false, .slice none 0 0, .bool false, .slice none 0 0, .bool false, .slice none 0 0] rfl rfl rfl hBz (by omega) qmz; rw [hV9]))
            refine bodyPost_ret (results_cell_tmp rfl _ _ (w.heap.size + 1) [.int .i64 S, .bool (na1 1), .slice (A1 1) (n1 1) (c1 1), .bool (nb1 1), .slice (B1 1) (m1 1) (d1 1), .bool (na1 2), .slice (A1 2) (n1 2) (c1 2), .bool (nb1 2), .slice (B1 2) (m1 2) (d1 2), .bool na1r, .slice A1r n1r c1r, .bool nb1r, .slice B1r m1r d1r, .bool na2r, .slice A2r n2r c2r, .bool nb2r, .slice B2r m2r d2r, .bool na3r, .slice A3r n3r c3r, .bool nb3r, .slice B3r m3r d3r] d0 rfl (qm9.rangeAt [] (rest := []) rfl) hd1 hd2 info_mom) rfl ?_
            have hMo : momOf W' ps l = ⟨S, prQ (Rat.divInt (sumK (gm W' ps 1) l k) S), prQ (Rat.divInt (sumK (gm W' ps 2) l k) S), prQ (Rat.divInt (sumK (gm W' ps 3) l k) S - Rat.divInt (sumK (gm W' ps 1) l k) S * Rat.divInt (sumK (gm W' ps 1) l k) S), prQ (Rat.divInt (sumK (gm W' ps 4) l k) S - Rat.divInt (sumK (gm W' ps 1) l k) S * Rat.divInt (sumK (gm W' ps 2) l k) S), prQ (Rat.divInt (sumK (gm W' ps 5) l k) S - Rat.divInt (sumK (gm W' ps 2) l k) S * Rat.divInt (sumK (gm W' ps 2) l k) S)⟩ := by
              unfold momOf central mean1 mean2
              rw [hS0, hlm.out]
              rfl
            refine ⟨fun h => absurd h (by rw [hS0]; omega), fun _ => ⟨hB9, _, rfl, ?_⟩⟩
            rw [hMo]
            exact ⟨_, _, _, _, _, _, _, _, _, _, _, _, _, _, _, _, _, _, _, _, _, _, _, _, _, _, _, _, _, _, _, _, _, _, _, _, _, _, _, _, rfl, ((hF1.out.below hb8).keep hst.1).fz, ((hF2.out.below hb8).keep hst.1).fz, (hR1.keep hst.1).fz, (hR2.keep hst.1).fz, (hR3.keep hst.1).fz⟩
    have htk : decide ((k : Int) < (m' : Int)) = true := by simp; omega
    obtain ⟨g, o, rfl, hc⟩ := hl.out.2.2.2.2 (by omega)
    have hck := hc k hk
    clear hc
    have hx4 := hr.out k hk
    have hT0 := fun q => hTb.out q k (by omega)
    have hT1 := fun q => hTb.out q (k + 1) (by omega)
    have hS : ∀ q, sumK (gm W' ps q) l (k + 1) = sumK (gm W' ps q) l k + gm W' ps q (l[k]?.getD 0) := fun q => rfl
    obtain ⟨g', o', rfl, hc'⟩ := hp.out.2.2.2.2 (by omega)
    obtain ⟨j, hj⟩ : ∃ j : Nat, l[k]?.getD 0 = j := ⟨(l[k]?.getD 0).toNat, by omega⟩
    have hcj := hc' j (by omega)
    have hpj : pix ps (j : Int) = ps[j]?.getD 0 := by simp [pix]
    rw [hj] at hck hS hx4
    rw [← hpj] at hcj
    have hjn : j < n' := by omega
    have hcb := colv_bound hf.out hx4.1 hx4.2.1
    have hrb := rowv_bound hf.out hx4.1 hx4.2.1
    have g0 : gm W' ps 0 (j : Int) = pix ps j := rfl
    have g1 : gm W' ps 1 (j : Int) = colv W' j * pix ps j := rfl
    have g2 : gm W' ps 2 (j : Int) = rowv W' j * pix ps j := rfl
    have g3 : gm W' ps 3 (j : Int) = colv W' j * colv W' j * pix ps j := rfl
    have g4 : gm W' ps 4 (j : Int) = colv W' j * rowv W' j * pix ps j := rfl
    have g5 : gm W' ps 5 (j : Int) = rowv W' j * rowv W' j * pix ps j := rfl
    have e0 := hS 0
    have e1 := hS 1
    have e2 := hS 2
    have e3 := hS 3
    have e4 := hS 4
    have e5 := hS 5
    rw [g0] at e0
    rw [g1] at e1
    rw [g2] at e2
    rw [g3] at e3
    rw [g4] at e4
    rw [g5] at e5
    have hcl := hide (fun w => column_ok W' H' (some ⟨g', o', none⟩) n' c' (some ⟨g, o, none⟩) m' d' (j : Int) w (by omega) (by omega) hf.out.1 hf.out.2.1)
    have hrw := hide (fun w => row_ok W' H' (some ⟨g', o', none⟩) n' c' (some ⟨g, o, none⟩) m' d' (j : Int) w (by omega) (by omega) hf.out.1 hf.out.2.1)
    clear g0 g1 g2 g3 g4 g5 hS hc' hpj
    generalize pix ps (j : Int) = x at *
    generalize colv W' (j : Int) = cv at *
    generalize rowv W' (j : Int) = rv at *
    have hcc : (cv * cv).natAbs ≤ 99 * 99 := imul_rng (by omega) (by omega)
    have hcr : (cv * rv).natAbs ≤ 99 * 99 := imul_rng (by omega) (by omega)
    have hrr : (rv * rv).natAbs ≤ 99 * 99 := imul_rng (by omega) (by omega)
    have hxb : x.natAbs ≤ 8589934592 := by omega
    have p1 := imul_rng (a := cv) (M := 99) (by omega) hxb
    have p2 := imul_rng (a := rv) (M := 99) (by omega) hxb
    have p3 := imul_rng hcc hxb
    have p4 := imul_rng hcr hxb
    have p5 := imul_rng hrr hxb
    have m3 : wrap64 (cv * cv) = cv * cv := wrap_small (by omega)
    have m4 : wrap64 (cv * rv) = cv * rv := wrap_small (by omega)
    have m5 : wrap64 (rv * rv) = rv * rv := wrap_small (by omega)
    have n0 : wrap64 x = x := wrap_small (by omega)
    have n1 : wrap64 (cv * x) = cv * x := wrap_small (by omega)
    have n2 : wrap64 (rv * x) = rv * x := wrap_small (by omega)
    have n3 : wrap64 (cv * cv * x) = cv * cv * x := wrap_small (by omega)
    have n4 : wrap64 (cv * rv * x) = cv * rv * x := wrap_small (by omega)
    have n5 : wrap64 (rv * rv * x) = rv * rv * x := wrap_small (by omega)
    have u0 : wrap64 (sumK (gm W' ps 0) l k + x) = sumK (gm W' ps 0) l (k + 1) := by rw [← e0]; exact wrap_small (Nat.le_trans (hT1 0) (by omega))
    have u1 : wrap64 (sumK (gm W' ps 1) l k + cv * x) = sumK (gm W' ps 1) l (k + 1) := by rw [← e1]; exact wrap_small (Nat.le_trans (hT1 1) (by omega))
    have u2 : wrap64 (sumK (gm W' ps 2) l k + rv * x) = sumK (gm W' ps 2) l (k + 1) := by rw [← e2]; exact wrap_small (Nat.le_trans (hT1 2) (by omega))
    have u3 : wrap64 (sumK (gm W' ps 3) l k + cv * cv * x) = sumK (gm W' ps 3) l (k + 1) := by rw [← e3]; exact wrap_small (Nat.le_trans (hT1 3) (by omega))
    have u4 : wrap64 (sumK (gm W' ps 4) l k + cv * rv * x) = sumK (gm W' ps 4) l (k + 1) := by rw [← e4]; exact wrap_small (Nat.le_trans (hT1 4) (by omega))
    have u5 : wrap64 (sumK (gm W' ps 5) l k + rv * rv * x) = sumK (gm W' ps 5) l (k + 1) := by rw [← e5]; exact wrap_small (Nat.le_trans (hT1 5) (by omega))
    clear hT0 hT1 e0 e1 e2 e3 e4 e5 p1 p2 p3 p4 p5 hcc hcr hrr hxb
    replace hx4 := hide hx4
    replace hj := hide hj
    replace hcb := hide hcb
    replace hrb := hide hrb
    have q0r := keep_blk hbr q0
    have q6r := keep_blk hbr q6b
    have hckr := (hbr.cell (lt_of_cell hck)).trans hck
    have hcjr := (hbr.cell (lt_of_cell hcj)).trans hcj
    have hSv : ∀ wx, Below V2.heap.size V2 wx → (wx.cell? ⟨g6, 0, none⟩ = some (.int .i64 W') ∧ wx.cell? ⟨g6, 1, none⟩ = some (.int .i64 H') ∧ wx.cell? ⟨g6, 2, none⟩ = some (.slice (some ⟨g', o', none⟩) n' c') ∧ wx.cell? ⟨g6, 3, none⟩ = some (.slice (some ⟨g, o, none⟩) m' d')) ∧ wx.cell? ⟨w.heap.size, 2, none⟩ = some (.slice (some ⟨g', o', none⟩) n' c') ∧ wx.cell? ⟨g', o' + j, none⟩ = some (.int .i64 x) := fun wx hbx => by
      obtain ⟨e0, e1, e2, e3, -⟩ := (keep_blk hbx q6b).four
      have d2 := (keep_blk hbx q0).cell 2
      simp at d2
      exact ⟨⟨e0, e1, e2, e3⟩, d2, (hbx.cell (lt_of_cell hcj)).trans hcj⟩
    clear q0r q6r hcjr
    replace hbr := hide hbr
    replace q8 := hide q8
    go_wp2_with fail
    refine wp_held [] (fun wx => (wx.cell? ⟨g6, 0, none⟩ = some (.int .i64 W') ∧ wx.cell? ⟨g6, 1, none⟩ = some (.int .i64 H') ∧ wx.cell? ⟨g6, 2, none⟩ = some (.slice (some ⟨g', o', none⟩) n' c') ∧ wx.cell? ⟨g6, 3, none⟩ = some (.slice (some ⟨g, o, none⟩) m' d')) ∧ wx.cell? ⟨w.heap.size, 2, none⟩ = some (.slice (some ⟨g', o', none⟩) n' c') ∧ wx.cell? ⟨g', o' + j, none⟩ = some (.int .i64 x)) hmx (hSv _ (below_dn hbr.out 1)) (fun _ => ?_)
    have hb6 : Below V2.heap.size V2 wr.drew := below_dn hbr.out 1
    replace q8 : Hid (Blk wr.drew g8 56 #[.int .i64 (sumK (gm W' ps 0) l k), .int .i64 (sumK (gm W' ps 1) l k), .int .i64 (sumK (gm W' ps 2) l k), .int .i64 (sumK (gm W' ps 3) l k), .int .i64 (sumK (gm W' ps 4) l k), .int .i64 (sumK (gm W' ps 5) l k)]) := q8
    refine wpAnyL_take (i := 0) (v := ?v1) rfl (by kernel_rfl) (by kernel_rfl) (by kernel_rfl) (by kernel_rfl) (by kernel_rfl) (Or.inl ⟨by rfl, ?hy1⟩) (hSv _ hb6) ?rest1
    case hy1 => (intro W2 hSw; (try dsimp only at hSw); go_simp; try with_reducible rfl)
    try simp only [Act.put, List.setIfInBounds_toArray, List.set_cons_zero, List.set_cons_succ]
    refine wpAnyL_take (i := 1) (v := ?v2) rfl (by kernel_rfl) (by kernel_rfl) (by kernel_rfl) (by kernel_rfl) (by kernel_rfl) (Or.inl ⟨by rfl, ?hy2⟩) (hSv _ hb6) ?rest2
    case hy2 => (intro W2 hSw; (try dsimp only at hSw); go_simp; try with_reducible rfl)
    try simp only [Act.put, List.setIfInBounds_toArray, List.set_cons_zero, List.set_cons_succ]
    refine wpAnyL_take (i := 3) (v := ?v3) rfl (by kernel_rfl) (by kernel_rfl) (by kernel_rfl) (by kernel_rfl) (by kernel_rfl) (Or.inl ⟨by rfl, ?hy3⟩) (hSv _ hb6) ?rest3
    case hy3 => (intro W2 hSw; (try dsimp only at hSw); go_simp; try with_reducible rfl)
    try simp only [Act.put, List.setIfInBounds_toArray, List.set_cons_zero, List.set_cons_succ]
    refine wpAnyL_take (i := 4) (v := ?v4) rfl (by kernel_rfl) (by kernel_rfl) (by kernel_rfl) (by kernel_rfl) (by kernel_rfl) (Or.inl ⟨by rfl, ?hy4⟩) (hSv _ hb6) ?rest4
    case hy4 => (intro W2 hSw; (try dsimp only at hSw); go_simp; try with_reducible rfl)
    try simp only [Act.put, List.setIfInBounds_toArray, List.set_cons_zero, List.set_cons_succ]
    refine wpAnyL_take (i := 6) (v := ?v5) rfl (by kernel_rfl) (by kernel_rfl) (by kernel_rfl) (by kernel_rfl) (by kernel_rfl) (Or.inl ⟨by rfl, ?hy5⟩) (hSv _ hb6) ?rest5
    case hy5 => (intro W2 hSw; (try dsimp only at hSw); go_simp; try with_reducible rfl)
    try simp only [Act.put, List.setIfInBounds_toArray, List.set_cons_zero, List.set_cons_succ]
    refine wpAnyL_take (i := 7) (v := ?v6) rfl (by kernel_rfl) (by kernel_rfl) (by kernel_rfl) (by kernel_rfl) (by kernel_rfl) (Or.inl ⟨by rfl, ?hy6⟩) (hSv _ hb6) ?rest6
    case hy6 => (intro W2 hSw; (try dsimp only at hSw); go_simp; try with_reducible rfl)
    try simp only [Act.put, List.setIfInBounds_toArray, List.set_cons_zero, List.set_cons_succ]
    refine wpAnyL_take (i := 8) (v := ?v7) rfl (by kernel_rfl) (by kernel_rfl) (by kernel_rfl) (by kernel_rfl) (by kernel_rfl) (Or.inl ⟨by rfl, ?hy7⟩) (hSv _ hb6) ?rest7
    case hy7 => (intro W2 hSw; (try dsimp only at hSw); go_simp; try with_reducible rfl)
    try simp only [Act.put, List.setIfInBounds_toArray, List.set_cons_zero, List.set_cons_succ]
    refine wpAnyL_take (i := 9) (v := ?v8) rfl (by kernel_rfl) (by kernel_rfl) (by kernel_rfl) (by kernel_rfl) (by kernel_rfl) (Or.inl ⟨by rfl, ?hy8⟩) (hSv _ hb6) ?rest8
    case hy8 => (intro W2 hSw; (try dsimp only at hSw); go_simp; try with_reducible rfl)
    try simp only [Act.put, List.setIfInBounds_toArray, List.set_cons_zero, List.set_cons_succ]
    refine wpAnyL_take (i := 10) (v := ?v9) rfl (by kernel_rfl) (by kernel_rfl) (by kernel_rfl) (by kernel_rfl) (by kernel_rfl) (Or.inl ⟨by rfl, ?hy9⟩) (hSv _ hb6) ?rest9
    case hy9 => (intro W2 hSw; (try dsimp only at hSw); go_simp; try with_reducible rfl)
    try simp only [Act.put, List.setIfInBounds_toArray, List.set_cons_zero, List.set_cons_succ]
    refine wpAnyL_one (i := 2) rfl (by kernel_rfl) (fun K hK => ?_)
    go_simp
    refine (hcl.out _).mono ?_
    rintro e w2a ⟨rfl, hba⟩
    replace hb6 := hb6.trans (hba.mono hb6.size)
    replace q8 := hide (keep_blk hba q8.out)
    refine hK.out _ _ (fun _ => hSv _ hb6) ?_
    clear hK K
    try simp only [Act.put, List.setIfInBounds_toArray, List.set_cons_zero, List.set_cons_succ]
    refine wpAnyL_one (i := 5) rfl (by kernel_rfl) (fun K hK => ?_)
    go_simp
    refine (hrw.out _).mono ?_
    rintro e w5a ⟨rfl, hbb⟩
    replace hb6 := hb6.trans (hbb.mono hb6.size)
    replace q8 := hide (keep_blk hbb q8.out)
    refine hK.out _ _ (fun _ => hSv _ hb6) ?_
    clear hK K
    try simp only [Act.put, List.setIfInBounds_toArray, List.set_cons_zero, List.set_cons_succ]
    refine wpAnyL_take (i := 11) (v := ?v10) rfl (by kernel_rfl) (by kernel_rfl) (by kernel_rfl) (by kernel_rfl) (by kernel_rfl) (Or.inl ⟨by rfl, ?hy10⟩) (hSv _ hb6) ?rest10
    case hy10 => (intro W2 hSw; (try dsimp only at hSw); go_simp; try with_reducible rfl)
    try simp only [Act.put, List.setIfInBounds_toArray, List.set_cons_zero, List.set_cons_succ]
    refine wpAnyL_take (i := 12) (v := ?v11) rfl (by kernel_rfl) (by kernel_rfl) (by kernel_rfl) (by kernel_rfl) (by kernel_rfl) (Or.inl ⟨by rfl, ?hy11⟩) (hSv _ hb6) ?rest11
    case hy11 => (intro W2 hSw; (try dsimp only at hSw); go_simp; try with_reducible rfl)
    try simp only [Act.put, List.setIfInBounds_toArray, List.set_cons_zero, List.set_cons_succ]
    refine wpAnyL_take (i := 13) (v := ?v12) rfl (by kernel_rfl) (by kernel_rfl) (by kernel_rfl) (by kernel_rfl) (by kernel_rfl) (Or.inl ⟨by rfl, ?hy12⟩) (hSv _ hb6) ?rest12
    case hy12 => (intro W2 hSw; (try dsimp only at hSw); go_simp; try with_reducible rfl)
    try simp only [Act.put, List.setIfInBounds_toArray, List.set_cons_zero, List.set_cons_succ]
    refine wpAnyL_done (by kernel_rfl) ?_ _
    refine OnlyNormal.normal ?_
    replace q8 := q8.out
    clear hSv hcl hrw hbr hck hckr hcj
    try simp only [Act.put, List.setIfInBounds_toArray, List.set_cons_zero, List.set_cons_succ, List.getElem_toArray, List.getElem_cons_succ, List.getElem_cons_zero]
    go_simp
    go_wp2_with fail
    simp only [m3, m4, m5]
    generalize w5a = w5 at *
    go_loopw [60] (fun i wr => ∃ r : Nat, r ≤ 6 ∧ i = .int .i64 r ∧ Below V2.heap.size V2 wr ∧ Blk wr g8 56 #[.int .i64 (if 0 < r then sumK (gm W' ps 0) l (k + 1) else sumK (gm W' ps 0) l k), .int .i64 (if 1 < r then sumK (gm W' ps 1) l (k + 1) else sumK (gm W' ps 1) l k), .int .i64 (if 2 < r then sumK (gm W' ps 2) l (k + 1) else sumK (gm W' ps 2) l k), .int .i64 (if 3 < r then sumK (gm W' ps 3) l (k + 1) else sumK (gm W' ps 3) l k), .int .i64 (if 4 < r then sumK (gm W' ps 4) l (k + 1) else sumK (gm W' ps 4) l k), .int .i64 (if 5 < r then sumK (gm W' ps 5) l (k + 1) else sumK (gm W' ps 5) l k)]) (fun i _ => 6 - (intOf i).toNat)
    case atStart => exact ⟨0, by omega, rfl, hb6, by simpa using q8⟩
    case round =>
      clear q8 hb6
      obtain ⟨r, hr6, rfl, hb7, q8⟩ := hrel
      rcases r with _ | _ | _ | _ | _ | _ | r
      · simp only [Nat.lt_irrefl, Nat.not_lt_zero, Nat.zero_add, Nat.reduceAdd, Nat.reduceLT, if_true, if_false] at q8
        have b0 := q8.cell 0
        have b1 := q8.cell 1
        have b2 := q8.cell 2
        have b3 := q8.cell 3
        have b4 := q8.cell 4
        have b5 := q8.cell 5
        simp at b0 b1 b2 b3 b4 b5
        have fz := q8.frozen 0
        go_wp2_with (refine wpList_index6 rfl _ _ rfl _ 0 (.int .i64 (1)) rfl rfl (by omega) rfl ?_)
        have q9 := q8.set_ 0 (.int .i64 (sumK (gm W' ps 0) l (k + 1)))
        simp at q9
        go_round
        case rel => exact ⟨1, by omega, by go_num, hb7.setCell (p := ⟨g8, 0, none⟩) (by rw [hg8.out]; exact Nat.le_refl _) _, by simpa using q9⟩
        case measure => simp [intOf]
      · simp only [Nat.lt_irrefl, Nat.not_lt_zero, Nat.zero_add, Nat.reduceAdd, Nat.reduceLT, if_true, if_false] at q8
        have b0 := q8.cell 0
        have b1 := q8.cell 1
        have b2 := q8.cell 2
        have b3 := q8.cell 3
        have b4 := q8.cell 4
        have b5 := q8.cell 5
        simp at b0 b1 b2 b3 b4 b5
        have fz := q8.frozen 1
        go_wp2_with (refine wpList_index6 rfl _ _ rfl _ 1 (.int .i64 (cv)) rfl rfl (by omega) rfl ?_)
        have q9 := q8.set_ 1 (.int .i64 (sumK (gm W' ps 1) l (k + 1)))
        simp at q9
        go_round
        case rel => exact ⟨2, by omega, by go_num, hb7.setCell (p := ⟨g8, 1, none⟩) (by rw [hg8.out]; exact Nat.le_refl _) _, by simpa using q9⟩
        case measure => simp [intOf]
      · simp only [Nat.lt_irrefl, Nat.not_lt_zero, Nat.zero_add, Nat.reduceAdd, Nat.reduceLT, if_true, if_false] at q8
        have b0 := q8.cell 0
        have b1 := q8.cell 1
        have b2 := q8.cell 2
        have b3 := q8.cell 3
        have b4 := q8.cell 4
        have b5 := q8.cell 5
        simp at b0 b1 b2 b3 b4 b5
        have fz := q8.frozen 2
        go_wp2_with (refine wpList_index6 rfl _ _ rfl _ 2 (.int .i64 (rv)) rfl rfl (by omega) rfl ?_)
        have q9 := q8.set_ 2 (.int .i64 (sumK (gm W' ps 2) l (k + 1)))
        simp at q9
        go_round
        case rel => exact ⟨3, by omega, by go_num, hb7.setCell (p := ⟨g8, 2, none⟩) (by rw [hg8.out]; exact Nat.le_refl _) _, by simpa using q9⟩
        case measure => simp [intOf]
      · simp only [Nat.lt_irrefl, Nat.not_lt_zero, Nat.zero_add, Nat.reduceAdd, Nat.reduceLT, if_true, if_false] at q8
        have b0 := q8.cell 0
        have b1 := q8.cell 1
        have b2 := q8.cell 2
        have b3 := q8.cell 3
        have b4 := q8.cell 4
        have b5 := q8.cell 5
        simp at b0 b1 b2 b3 b4 b5
        have fz := q8.frozen 3
        go_wp2_with (refine wpList_index6 rfl _ _ rfl _ 3 (.int .i64 (cv * cv)) rfl rfl (by omega) rfl ?_)
        have q9 := q8.set_ 3 (.int .i64 (sumK (gm W' ps 3) l (k + 1)))
        simp at q9
        go_round
        case rel => exact ⟨4, by omega, by go_num, hb7.setCell (p := ⟨g8, 3, none⟩) (by rw [hg8.out]; exact Nat.le_refl _) _, by simpa using q9⟩
        case measure => simp [intOf]
      · simp only [Nat.lt_irrefl, Nat.not_lt_zero, Nat.zero_add, Nat.reduceAdd, Nat.reduceLT, if_true, if_false] at q8
        have b0 := q8.cell 0
        have b1 := q8.cell 1
        have b2 := q8.cell 2
        have b3 := q8.cell 3
        have b4 := q8.cell 4
        have b5 := q8.cell 5
        simp at b0 b1 b2 b3 b4 b5
        have fz := q8.frozen 4
        go_wp2_with (refine wpList_index6 rfl _ _ rfl _ 4 (.int .i64 (cv * rv)) rfl rfl (by omega) rfl ?_)
        have q9 := q8.set_ 4 (.int .i64 (sumK (gm W' ps 4) l (k + 1)))
        simp at q9
        go_round
        case rel => exact ⟨5, by omega, by go_num, hb7.setCell (p := ⟨g8, 4, none⟩) (by rw [hg8.out]; exact Nat.le_refl _) _, by simpa using q9⟩
        case measure => simp [intOf]
      · simp only [Nat.lt_irrefl, Nat.not_lt_zero, Nat.zero_add, Nat.reduceAdd, Nat.reduceLT, if_true, if_false] at q8
        have b0 := q8.cell 0
        have b1 := q8.cell 1
        have b2 := q8.cell 2
        have b3 := q8.cell 3
        have b4 := q8.cell 4
        have b5 := q8.cell 5
        simp at b0 b1 b2 b3 b4 b5
        have fz := q8.frozen 5
        go_wp2_with (refine wpList_index6 rfl _ _ rfl _ 5 (.int .i64 (rv * rv)) rfl rfl (by omega) rfl ?_)
        have q9 := q8.set_ 5 (.int .i64 (sumK (gm W' ps 5) l (k + 1)))
        simp at q9
        go_round
        case rel => exact ⟨6, by omega, by go_num, hb7.setCell (p := ⟨g8, 5, none⟩) (by rw [hg8.out]; exact Nat.le_refl _) _, by simpa using q9⟩
        case measure => simp [intOf]
      · obtain rfl : r = 0 := by omega
        simp only [Nat.zero_add, Nat.reduceAdd, Nat.reduceLT, if_true] at q8
        go_wp2_with fail
        go_round
        case rel => exact ⟨k + 1, by omega, by go_num, hb7, by simpa using q8⟩
        case measure => simp [intOf]; omega
end Go.Proofs.Ytkippclhbkjbmaa
