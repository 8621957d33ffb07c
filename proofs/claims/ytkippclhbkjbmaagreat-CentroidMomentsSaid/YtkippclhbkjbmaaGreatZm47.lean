/- Package centroid: Moments. -/
import Derived.Test.YtkippclhbkjbmaaGreatZm46
import Derived.Test.YtkippclhbkjbmaaGreatZm45
import Derived.Test.YtkippclhbkjbmaaGreatZm25
set_option linter.unusedSimpArgs false
set_option linter.unusedVariables false

namespace Go.Proofs.YtkippclhbkjbmaaGreat
open Go.RowKit
attribute [local go_sem] add_lit

theorem imul_rng {a b : Int} {M N : Nat} (h1 : a.natAbs ≤ M) (h2 : b.natAbs ≤ N) : (a * b).natAbs ≤ M * N := by
  rw [Int.natAbs_mul]; exact Nat.mul_le_mul h1 h2
theorem sumK_rng {g : Int → Int} {l : List Int} {m k N : Nat} (h : ∀ j, j < m → (g (l[j]?.getD 0)).natAbs ≤ N) (hk : k ≤ m) (hm : m ≤ 40) : (sumK g l k).natAbs ≤ 40 * N :=
  Nat.le_trans (sumK_le l k (fun j hj => h j (by omega))) (Nat.mul_le_mul_right N (by omega))
theorem wrap_small {x : Int} (h : x.natAbs ≤ 9000000000000000000) : wrap64 x = x := by unfold wrap64; omega

/-- The six summands. -/
def gm (W : Int) (ps : List Int) : Nat → Int → Int
  | 0, i => pix ps i
  | 1, i => colv W i * pix ps i
  | 2, i => rowv W i * pix ps i
  | 3, i => colv W i * colv W i * pix ps i
  | 4, i => colv W i * rowv W i * pix ps i
  | _, i => rowv W i * rowv W i * pix ps i
theorem gm_rng {W H : Int} {ps l : List Int} {n m j q : Nat} (hf : 1 ≤ W ∧ W ≤ 100 ∧ 1 ≤ H ∧ H ≤ 100 ∧ (n : Int) = W * H) (hr : Rng ps l n m) (hj : j < m) : (gm W ps q (l[j]?.getD 0)).natAbs ≤ 9801 * 8589934592 := by
  have h := hr j hj
  have a := colv_bound hf h.1 h.2.1
  have b := rowv_bound hf h.1 h.2.1
  have c : (pix ps (l[j]?.getD 0)).natAbs ≤ 8589934592 := by omega
  have e1 : (colv W (l[j]?.getD 0)).natAbs ≤ 99 := by omega
  have e2 : (rowv W (l[j]?.getD 0)).natAbs ≤ 99 := by omega
  have cc := Nat.le_trans (imul_rng (imul_rng e1 e1) c) (show 99 * 99 * 8589934592 ≤ 9801 * 8589934592 by omega)
  have cr := Nat.le_trans (imul_rng (imul_rng e1 e2) c) (show 99 * 99 * 8589934592 ≤ 9801 * 8589934592 by omega)
  have rr := Nat.le_trans (imul_rng (imul_rng e2 e2) c) (show 99 * 99 * 8589934592 ≤ 9801 * 8589934592 by omega)
  have c1 := Nat.le_trans (imul_rng e1 c) (show 99 * 8589934592 ≤ 9801 * 8589934592 by omega)
  have r1 := Nat.le_trans (imul_rng e2 c) (show 99 * 8589934592 ≤ 9801 * 8589934592 by omega)
  match q with
  | 0 => exact Nat.le_trans c (by omega)
  | 1 => exact c1
  | 2 => exact r1
  | 3 => exact cc
  | 4 => exact cr
  | _ + 5 => exact rr
theorem rng_of {W H : Int} {n m : Nat} {ps l : List Int} (hf : fieldOk W H n ps = true) (hl : listed l n = true) (hm : l.length = m) : Rng ps l n m := fun k hk => by
  have h := listed_in hl (k := k) (by omega)
  have h2 := fieldOk_pix hf h.1 h.2
  exact ⟨h.1, h.2, by omega, by omega⟩


set_option maxRecDepth 100000 in
set_option maxHeartbeats 4000000 in
theorem moments_bad (W H : Int) (A : Option Addr) (n c : Nat) (B : Option Addr) (m d : Nat) (ps l : List Int) (w : World) (hp : LimI w A n c ps) (hl : LimI w B m d l) (h9 : n ≤ 1000000000) (h8 : m ≤ 1000000000) (iW : I64 W) (iH : I64 H) (E : Int) (hE : startE W H n ps l = E) (hE0 : E ≠ 0) :
    Calls Tryz.prog 9 #[.agg #[.int .i64 W, .int .i64 H, .slice A n c], .slice B m d] w (MomP w E Mom.zero) := by
  obtain ⟨W0, hW0, hB, ⟨q0, qm⟩, sz⟩ := alloc2 w 24 #[.int .i64 W, .int .i64 H, .slice A n c] 34 #[.int .i64 0, .bool false, .slice none 0 0, .bool false, .slice none 0 0, .bool false, .slice none 0 0, .bool false, .slice none 0 0, .bool false, .slice none 0 0, .bool false, .slice none 0 0, .bool false, .slice none 0 0, .bool false, .slice none 0 0, .bool false, .slice none 0 0, .bool false, .slice none 0 0]
  have c0 := q0.cell 0
  have c1 := q0.cell 1
  have c2 := q0.cell 2
  simp at c0 c1 c2
  replace hp := hide (hp.below hB)
  replace hl := hide (hl.below hB)
  have hEb : (E == 0) = false := by simpa using hE0
  go_enter Tryz.func9, Tryz.ntmps9
  go_wp2_with fail
  refine (start_ok W H A n c B m d ps l W0 hp.out hl.out h9 h8 iW iH E hE).mono ?_
  rintro e w1 ⟨⟨W', H', A', n', c', B', m', d', rfl, -⟩, hb1⟩
  clear hW0 c0 c1 c2
  replace hB := hB.trans (hb1.mono hB.size)
  replace qm := keep_blk hb1 qm
  obtain ⟨V1, hV1, hB1, q6, hk1, hk1', sV1⟩ := new_obj 64 #[.int .i64 0, .int .i64 0, .slice none 0 0, .slice none 0 0] hB hB.size
  obtain ⟨V2, hV2, hB2, q6b, hst⟩ := set_src W' H' A' n' c' B' m' d' hB1 hB.size q6
  have hsz := hb1.size
  replace qm := hst _ _ _ (by omega) (hk1' _ _ _ qm)
  obtain ⟨a0, a1, a2, a3, f0, f1, f2, f3⟩ := q6.four
  go_wp2_with ((refine wpList_store_mid rfl 34 _ _ rfl (w.heap.size + 1) 0 #[.int .i64 0, .bool false, .slice none 0 0, .bool false, .slice none 0 0, .bool false, .slice none 0 0, .bool false, .slice none 0 0, .bool false, .slice none 0 0, .bool false, .slice none 0 0, .bool false, .slice none 0 0, .bool false, .slice none 0 0, .bool false, .slice none 0 0, .bool false, .slice none 0 0] rfl rfl (qm.there (by simp)) info_mom (by simp [Value.oneCell']) ?_; obtain ⟨V3, hV3, hB3, qm3, -⟩ := set_all [.int .i64 0, .bool false, .slice none 0 0, .bool false, .slice none 0 0, .bool false, .slice none 0 0, .bool false, .slice none 0 0, .bool false, .slice none 0 0, .bool false, .slice none 0 0, .bool false, .slice none 0 0, .bool false, .slice none 0 0, .bool false, .slice none 0 0, .bool false, .slice none 0 0] [.int .i64 0, .bool false, .slice none 0 0, .bool false, .slice none 0 0, .bool false, .slice none 0 0, .bool false, .slice none 0 0, .bool false, .slice none 0 0, .bool false, .slice none 0 0, .bool false, .slice none 0 0, .bool false, .slice none 0 0, .bool false, .slice none 0 0, .bool false, .slice none 0 0] rfl rfl rfl hB2 (by omega) qm; rw [hV3]))
  obtain ⟨d0, hd1, hd2⟩ := und_mom
  refine bodyPost_ret (results_cell_tmp rfl _ _ (w.heap.size + 1) [.int .i64 0, .bool false, .slice none 0 0, .bool false, .slice none 0 0, .bool false, .slice none 0 0, .bool false, .slice none 0 0, .bool false, .slice none 0 0, .bool false, .slice none 0 0, .bool false, .slice none 0 0, .bool false, .slice none 0 0, .bool false, .slice none 0 0, .bool false, .slice none 0 0] d0 rfl (qm3.rangeAt [] (rest := []) rfl) hd1 hd2 info_mom) rfl ?_
  exact ⟨hB3, _, rfl, MomF.zero _⟩

end Go.Proofs.YtkippclhbkjbmaaGreat
