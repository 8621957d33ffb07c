/- The reference of linear: clear. -/
import Derived.Deep.LoopGhost
import Derived.Test.YtigdclhagmnopaaGreatZk31
set_option linter.unusedSimpArgs false
set_option linter.unusedVariables false

namespace Go.Proofs.YtigdclhagmnopaaGreat
open Go.RowKit
attribute [local go_sem] add_lit

theorem entR_row (L : List RF) (i j : Nat) : entR (L.map RF.q) i j = (rowQ L i)[j]?.getD 0 := by unfold entR rowQ; rw [List.getElem?_map]
theorem list_at {α : Type} {L : List α} {i : Nat} (h : i < L.length) : ∃ r, L[i]? = some r := ⟨_, List.getElem?_eq_getElem h⟩
theorem map_set_same {α β : Type} {f : α → β} {L : List α} {i : Nat} {r s : α} (hr : L[i]? = some r) (h : f s = f r) : (L.set i s).map f = L.map f := by
 rw [List.map_set]
 apply List.ext_getElem?
 intro j
 rw [List.getElem?_set]
 split
 · rename_i hij
   subst hij
   have hi := (List.getElem?_eq_some_iff.1 hr).1
   rw [if_pos (by simpa using hi), List.getElem?_map, hr, h]; rfl
 · rfl
theorem rowQ_set {L : List RF} {i j : Nat} {r : RF} (hi : i < L.length) : rowQ (L.set i r) j = if j = i then r.q else rowQ L j := by
 unfold rowQ
 rw [List.getElem?_set]
 by_cases h : i = j
 · subst h; rw [if_pos rfl, if_pos hi, if_pos rfl]; rfl
 · rw [if_neg h, if_neg (Ne.symm h)]
/-- The rows are cleared up to row i. -/
def ClrTo (L L2 : List RF) (r col i : Nat) : Prop := ∀ j, j < L.length → rowQ L2 j = if j ≤ r ∨ i ≤ j then rowQ L j else rowR (rowQ L r) (rowQ L j) col
theorem ClrTo.step {L L2 : List RF} {r col i : Nat} {x : RF} (h : ClrTo L L2 r col i) (hl : L2.length = L.length) (hi : i < L.length) (hri : r < i) (hx : x.q = rowR (rowQ L r) (rowQ L i) col) : ClrTo L (L2.set i x) r col (i + 1) := by
 intro j hj
 rw [rowQ_set (by omega), h j hj]
 by_cases hji : j = i
 · subst hji; rw [if_pos rfl, hx, if_neg (by omega)]
 · rw [if_neg hji]
   by_cases h1 : j ≤ r ∨ i ≤ j
   · rw [if_pos h1, if_pos (by omega)]
   · rw [if_neg h1, if_neg (by omega)]
theorem ClrTo.skip {L L2 : List RF} {r col i : Nat} (h : ClrTo L L2 r col i) (hri : r < i) (hx : (rowQ L i)[col]?.getD 0 = 0) : ClrTo L L2 r col (i + 1) := by
 intro j hj
 rw [h j hj]
 by_cases hji : j = i
 · subst hji; rw [if_pos (by omega), if_neg (by omega), rowR_zero hx]
 · by_cases h1 : j ≤ r ∨ i ≤ j
   · rw [if_pos h1, if_pos (by omega)]
   · rw [if_neg h1, if_neg (by omega)]
theorem ClrTo.done {L L2 : List RF} {r col : Nat} (h : ClrTo L L2 r col L.length) (hl : L2.length = L.length) : L2.map RF.q = clearR (L.map RF.q) r col := by
 refine map_q_of (by rw [clearR_len]; simpa using hl) (fun i hi => ?_)
 rw [clearR_len, List.length_map] at hi
 rw [h i hi, clearR_get (by simpa using hi), ← rowQ_map, ← rowQ_map]
 by_cases h1 : i ≤ r
 · rw [if_pos (Or.inl h1), if_pos h1]
 · rw [if_neg (by omega), if_neg h1]

set_option maxRecDepth 100000 in
set_option maxHeartbeats 8000000 in
theorem rclear_ok (go n cap : Nat) (L : List RF) (m r col : Nat) (w : World) (hM : MatB 40 45 w go L) (hn : L.length = n) (hn9 : n ≤ 1000) (hcap : n ≤ cap) (hcm : cap ≤ maxLen) (hm : ∀ x ∈ L, x.q.length = m) (hm9 : m ≤ 1000) (hr : r < n) (hc : col < m)
    (hp : entR (L.map RF.q) r col ≠ 0) (hB : ∀ i j, SmN 200 200 (entR (L.map RF.q) i j)) :
    Calls Tryz.prog 101 #[.slice (some ⟨go, 0, none⟩) n cap, .int .i64 r, .int .i64 col] w fun e w' => e = .returned (.tuple #[]) ∧
     ∃ L2, L2.length = n ∧ L2.map RF.g = L.map RF.g ∧ L2.map RF.c = L.map RF.c ∧ L2.map RF.q = clearR (L.map RF.q) r col ∧ MatB 40 45 w' go L2 ∧ Kept (fun g => g ∈ L.map RF.g) w w' := by
 have hmx : Tryz.prog.follows .mixedOrders = true := by kernel_rfl
 unfold maxLen at hcm
 have hgo := hide (lt_of_cell (hM.cell (list_at (L := L) (i := 0) (by omega)).choose_spec).1)
 have hGX : Hid (∀ k, k ∈ L.map RF.g → ∃ t cs, Blk w k t cs ∧ NoLimb cs) := hide (fun k hk => hM.boxes k (.inr hk))
 obtain ⟨rr, hrr⟩ := list_at (L := L) (i := r) (by omega)
 have hnR : Hid (∀ i x, L[i]? = some x → x.q = rowQ L i) := hide (fun i x hx => (rowQ_of hx).symm)
 have hmQ : Hid (∀ i, i < n → (rowQ L i).length = m) := hide (fun i hi => by
  obtain ⟨x, hx⟩ := list_at (L := L) (i := i) (by omega)
  rw [rowQ_of hx]; exact hm x (List.mem_of_getElem? hx))
 have hBq : Hid (∀ i j, SmN 200 200 ((rowQ L i)[j]?.getD 0)) := hide (fun i j => by rw [← entR_row]; exact hB i j)
 have hpq : Hid ((rowQ L r)[col]?.getD 0 ≠ 0) := hide (by rw [← entR_row]; exact hp)
 have hgoL : Hid (go ∉ L.map RF.g) := hide (List.nodup_cons.1 hM.2.2).1
 have hr1 : IntKind.i64.wrap ((r : Int) + 1) = ((r + 1 : Nat) : Int) := by rw [IntKind.wrap_i64]; omega
 replace hn := hide hn
 clear hB hp hm
 go_enter Tryz.func101, Tryz.ntmps101
 go_wp2_with fail
 go_loopg [6] (n - (r + 1)) (fun k iv wr => ∃ (i : Nat) (L2 : List RF), i + k = n ∧ iv = .int .i64 i ∧ r + 1 ≤ i ∧ MatB 40 45 wr go L2 ∧ Hid (L2.length = n) ∧ Hid (L2.map RF.g = L.map RF.g) ∧ Hid (L2.map RF.c = L.map RF.c) ∧ Hid (ClrTo L L2 r col i) ∧ Kept (fun g => g ∈ L.map RF.g) w wr)
 case atStart => exact ⟨r + 1, L, by omega, by go_num, Nat.le_refl _, hM, hn, hide rfl, hide rfl, hide (fun j hj => by by_cases h1 : j ≤ r ∨ r + 1 ≤ j; rw [if_pos h1]; exact absurd h1 (by omega)), Kept.refl _ _⟩
 case round =>
  clear hM
  obtain ⟨i, L2, hik, rfl, hri, hM, hl2, hg2, hc2, hcl, hK⟩ := hrel
  cases gk with
  | zero =>
   obtain rfl : i = n := by omega
   have t1 : decide ((i : Int) < (i : Int)) = false := by simp
   have hfin : Hid (L2.map RF.q = clearR (L.map RF.q) r col) := hide (ClrTo.done (by rw [hn.out]; exact hcl.out) (by rw [hl2.out, hn.out]))
   replace hM := hide hM
   replace hK := hide hK
   go_wp2_with fail
   go_returns
   exact ⟨rfl, L2, hl2.out, hg2.out, hc2.out, hfin.out, hM.out, hK.out⟩
  | succ j =>
   obtain rfl : j = n - (i + 1) := by omega
   have hin : i < n := by omega
   have t1 : decide ((i : Int) < (n : Int)) = true := decide_eq_true (by omega)
   have bi : (i : Int) < (n : Int) := by omega
   have br : (r : Int) < (n : Int) := by omega
   obtain ⟨ri, hri2⟩ := list_at (L := L2) (i := i) (by rw [hl2.out]; exact hin)
   obtain ⟨r2, hr2⟩ := list_at (L := L2) (i := r) (by rw [hl2.out]; exact hr)
   have hqi : ri.q = rowQ L i := by
    have := hcl.out i (by rw [hn.out]; exact hin)
    rw [rowQ_of hri2, if_pos (Or.inr (Nat.le_refl i))] at this; exact this
   have hqr : r2.q = rowQ L r := by
    have := hcl.out r (by rw [hn.out]; exact hr)
    rw [rowQ_of hr2, if_pos (Or.inl (Nat.le_refl r))] at this; exact this
   have hli : ri.q.length = m := by rw [hqi]; exact hmQ.out i hin
   have hlr : r2.q.length = m := by rw [hqr]; exact hmQ.out r hr
   obtain ⟨ci, zi⟩ := hM.cell hri2
   obtain ⟨cr, zr⟩ := hM.cell hr2
   obtain ⟨fi, ki1, ki2⟩ := hM.row hri2
   obtain ⟨fr, kr1, kr2⟩ := hM.row hr2
   rw [hli] at ci ki1
   rw [hlr] at cr kr1
   unfold maxLen at ki2 kr2
   have hne := hM.ne2 hri2 hr2 (by omega)
   have bc : (col : Int) < (m : Int) := by omega
   obtain ⟨n1, A1, k1, c1, m1, B1, j1, d1, p0, p1, p2, p3, hf1⟩ := fi.at_ (i := col) (by rw [hli]; exact hc)
   have hk1 := hf1.1.2.1
   by_cases hz : k1 = 0
   case pos =>
    have t2 : ((k1 : Int) == 0) = true := by simp [hz]
    have t2' : decide (k1 = 0) = true := by simpa using hz
    have hq0 : (rowQ L i)[col]?.getD 0 = 0 := by rw [← hqi]; exact hf1.zero_iff.1 hz
    have hcl2 : Hid (ClrTo L L2 r col (i + 1)) := hide (hcl.out.skip (by omega) hq0)
    replace hM := hide hM
    replace hK := hide hK
    replace hz := hide hz
    clear hq0 hf1 fi fr cr zr zi p0 p2 p3 hqi hqr hli hlr hri2 hr2 hne
    go_wp2_with fail
    go_roundg (n - (i + 1))
    case measure => omega
    case rel => exact ⟨i + 1, L2, by omega, by go_num, by omega, hM.out, hl2, hg2, hc2, hcl2, hK.out⟩
   have t2 : ((k1 : Int) == 0) = false := by simp; omega
   have t2' : decide (k1 = 0) = false := by simpa using hz
   have hnz : (rowQ L i)[col]?.getD 0 ≠ 0 := by rw [← hqi]; exact fun e => hz (hf1.zero_iff.2 e)
   replace hz := hide hz
   obtain ⟨n2, A2, k2, c2, m2, B2, j2, d2, q0, q1, q2, q3, hf2⟩ := fr.at_ (i := col) (by rw [hlr]; exact hc)
   rw [hqi] at hf1
   rw [hqr] at hf2
   obtain ⟨by_, hby⟩ : ∃ q : Rat, (rowQ L i)[col]?.getD 0 / (rowQ L r)[col]?.getD 0 = q := ⟨_, rfl⟩
   have hbyS : Hid (SmN 400 400 by_) := hide (by rw [← hby]; exact (hBq.out i col).divN (hBq.out r col) hpq.out)
   have sc1 := (hBq.out i col).sm (by decide) (by decide)
   have sc2 := (hBq.out r col).sm (by decide) (by decide)
   replace hby := hide hby
   replace hnz := hide hnz
   have hboxi := hide fi.box
   have fiH := hide fi
   have frH := hide fr
   clear fi fr
   replace hM := hide hM
   replace hK := hide hK
   go_wp2_with fail
   have hSv1 : Hid (∀ wx, Below wr.heap.size wr wx → wx.cell? ⟨go, i, none⟩ = some (.slice (some ⟨ri.g, 0, none⟩) m ri.c) ∧ wx.cell? ⟨go, r, none⟩ = some (.slice (some ⟨r2.g, 0, none⟩) m r2.c) ∧ wx.cell? ⟨ri.g, col * 4, none⟩ = some (.bool n1) ∧ wx.cell? ⟨ri.g, col * 4 + 1, none⟩ = some (.slice A1 k1 c1) ∧ wx.cell? ⟨ri.g, col * 4 + 2, none⟩ = some (.bool m1) ∧ wx.cell? ⟨ri.g, col * 4 + 3, none⟩ = some (.slice B1 j1 d1) ∧ wx.cell? ⟨r2.g, col * 4, none⟩ = some (.bool n2) ∧ wx.cell? ⟨r2.g, col * 4 + 1, none⟩ = some (.slice A2 k2 c2) ∧ wx.cell? ⟨r2.g, col * 4 + 2, none⟩ = some (.bool m2) ∧ wx.cell? ⟨r2.g, col * 4 + 3, none⟩ = some (.slice B2 j2 d2)) := hide (fun wx hbx => ⟨keep_cell hbx ci, keep_cell hbx cr, keep_cell hbx p0, keep_cell hbx p1, keep_cell hbx p2, keep_cell hbx p3, keep_cell hbx q0, keep_cell hbx q1, keep_cell hbx q2, keep_cell hbx q3⟩)
   have hr1 : Below wr.heap.size wr wr.drew := below_dn (Below.refl _ _) 1
   refine wp_held [] (fun wx => wx.cell? ⟨go, i, none⟩ = some (.slice (some ⟨ri.g, 0, none⟩) m ri.c) ∧ wx.cell? ⟨go, r, none⟩ = some (.slice (some ⟨r2.g, 0, none⟩) m r2.c) ∧ wx.cell? ⟨ri.g, col * 4, none⟩ = some (.bool n1) ∧ wx.cell? ⟨ri.g, col * 4 + 1, none⟩ = some (.slice A1 k1 c1) ∧ wx.cell? ⟨ri.g, col * 4 + 2, none⟩ = some (.bool m1) ∧ wx.cell? ⟨ri.g, col * 4 + 3, none⟩ = some (.slice B1 j1 d1) ∧ wx.cell? ⟨r2.g, col * 4, none⟩ = some (.bool n2) ∧ wx.cell? ⟨r2.g, col * 4 + 1, none⟩ = some (.slice A2 k2 c2) ∧ wx.cell? ⟨r2.g, col * 4 + 2, none⟩ = some (.bool m2) ∧ wx.cell? ⟨r2.g, col * 4 + 3, none⟩ = some (.slice B2 j2 d2)) hmx (hSv1.out _ hr1) (fun hxs1 => ?_)
   refine wpAnyL_take (i := 0) (v := ?v1) rfl (by kernel_rfl) (by kernel_rfl) (by kernel_rfl) (by kernel_rfl) (by kernel_rfl) (Or.inl ⟨by kernel_rfl, ?hy1⟩) (hSv1.out _ hr1) ?rest1
   case hy1 => (intro W2 hSw; (try dsimp only at hSw); go_simp; try with_reducible rfl)
   try simp only [Act.put, List.setIfInBounds_toArray, List.set_cons_zero, List.set_cons_succ, List.getElem_toArray, List.getElem_cons_succ, List.getElem_cons_zero]
   refine wpAnyL_take (i := 1) (v := ?v2) rfl (by kernel_rfl) (by kernel_rfl) (by kernel_rfl) (by kernel_rfl) (by kernel_rfl) (Or.inl ⟨by kernel_rfl, ?hy2⟩) (hSv1.out _ hr1) ?rest2
   case hy2 => (intro W2 hSw; (try dsimp only at hSw); go_simp; try with_reducible rfl)
   try simp only [Act.put, List.setIfInBounds_toArray, List.set_cons_zero, List.set_cons_succ, List.getElem_toArray, List.getElem_cons_succ, List.getElem_cons_zero]
   refine wpAnyL_take (i := 2) (v := ?v3) rfl (by kernel_rfl) (by kernel_rfl) (by kernel_rfl) (by kernel_rfl) (by kernel_rfl) (Or.inl ⟨by kernel_rfl, ?hy3⟩) (hSv1.out _ hr1) ?rest3
   case hy3 => (intro W2 hSw; (try dsimp only at hSw); go_simp; try with_reducible rfl)
   try simp only [Act.put, List.setIfInBounds_toArray, List.set_cons_zero, List.set_cons_succ, List.getElem_toArray, List.getElem_cons_succ, List.getElem_cons_zero]
   refine wpAnyL_take (i := 3) (v := ?v4) rfl (by kernel_rfl) (by kernel_rfl) (by kernel_rfl) (by kernel_rfl) (by kernel_rfl) (Or.inl ⟨by kernel_rfl, ?hy4⟩) (hSv1.out _ hr1) ?rest4
   case hy4 => (intro W2 hSw; (try dsimp only at hSw); go_simp; try with_reducible rfl)
   try simp only [Act.put, List.setIfInBounds_toArray, List.set_cons_zero, List.set_cons_succ, List.getElem_toArray, List.getElem_cons_succ, List.getElem_cons_zero]
   refine wpAnyL_take (i := 4) (v := ?v5) rfl (by kernel_rfl) (by kernel_rfl) (by kernel_rfl) (by kernel_rfl) (by kernel_rfl) (Or.inl ⟨by kernel_rfl, ?hy5⟩) (hSv1.out _ hr1) ?rest5
   case hy5 => (intro W2 hSw; (try dsimp only at hSw); go_simp; try with_reducible rfl)
   try simp only [Act.put, List.setIfInBounds_toArray, List.set_cons_zero, List.set_cons_succ, List.getElem_toArray, List.getElem_cons_succ, List.getElem_cons_zero]
   refine wpAnyL_take (i := 5) (v := ?v6) rfl (by kernel_rfl) (by kernel_rfl) (by kernel_rfl) (by kernel_rfl) (by kernel_rfl) (Or.inl ⟨by kernel_rfl, ?hy6⟩) (hSv1.out _ hr1) ?rest6
   case hy6 => (intro W2 hSw; (try dsimp only at hSw); go_simp; try with_reducible rfl)
   try simp only [Act.put, List.setIfInBounds_toArray, List.set_cons_zero, List.set_cons_succ, List.getElem_toArray, List.getElem_cons_succ, List.getElem_cons_zero]
   refine wpAnyL_take (i := 6) (v := ?v7) rfl (by kernel_rfl) (by kernel_rfl) (by kernel_rfl) (by kernel_rfl) (by kernel_rfl) (Or.inl ⟨by kernel_rfl, ?hy7⟩) (hSv1.out _ hr1) ?rest7
   case hy7 => (intro W2 hSw; (try dsimp only at hSw); go_simp; try with_reducible rfl)
   try simp only [Act.put, List.setIfInBounds_toArray, List.set_cons_zero, List.set_cons_succ, List.getElem_toArray, List.getElem_cons_succ, List.getElem_cons_zero]
   refine wpAnyL_take (i := 7) (v := ?v8) rfl (by kernel_rfl) (by kernel_rfl) (by kernel_rfl) (by kernel_rfl) (by kernel_rfl) (Or.inl ⟨by kernel_rfl, ?hy8⟩) (hSv1.out _ hr1) ?rest8
   case hy8 => (intro W2 hSw; (try dsimp only at hSw); go_simp; try with_reducible rfl)
   try simp only [Act.put, List.setIfInBounds_toArray, List.set_cons_zero, List.set_cons_succ, List.getElem_toArray, List.getElem_cons_succ, List.getElem_cons_zero]
   refine wpAnyL_take (i := 8) (v := ?v9) rfl (by kernel_rfl) (by kernel_rfl) (by kernel_rfl) (by kernel_rfl) (by kernel_rfl) (Or.inl ⟨by kernel_rfl, ?hy9⟩) (hSv1.out _ hr1) ?rest9
   case hy9 => (intro W2 hSw; (try dsimp only at hSw); go_simp; try with_reducible rfl)
   try simp only [Act.put, List.setIfInBounds_toArray, List.set_cons_zero, List.set_cons_succ, List.getElem_toArray, List.getElem_cons_succ, List.getElem_cons_zero]
   refine wpAnyL_take (i := 9) (v := ?v10) rfl (by kernel_rfl) (by kernel_rfl) (by kernel_rfl) (by kernel_rfl) (by kernel_rfl) (Or.inl ⟨by kernel_rfl, ?hy10⟩) (hSv1.out _ hr1) ?rest10
   case hy10 => (intro W2 hSw; (try dsimp only at hSw); go_simp; try with_reducible rfl)
   try simp only [Act.put, List.setIfInBounds_toArray, List.set_cons_zero, List.set_cons_succ, List.getElem_toArray, List.getElem_cons_succ, List.getElem_cons_zero]
   refine wpAnyL_take (i := 10) (v := ?v11) rfl (by kernel_rfl) (by kernel_rfl) (by kernel_rfl) (by kernel_rfl) (by kernel_rfl) (Or.inl ⟨by kernel_rfl, ?hy11⟩) (hSv1.out _ hr1) ?rest11
   case hy11 => (intro W2 hSw; (try dsimp only at hSw); go_simp; try with_reducible rfl)
   try simp only [Act.put, List.setIfInBounds_toArray, List.set_cons_zero, List.set_cons_succ, List.getElem_toArray, List.getElem_cons_succ, List.getElem_cons_zero]
   refine wpAnyL_take (i := 11) (v := ?v12) rfl (by kernel_rfl) (by kernel_rfl) (by kernel_rfl) (by kernel_rfl) (by kernel_rfl) (Or.inl ⟨by kernel_rfl, ?hy12⟩) (hSv1.out _ hr1) ?rest12
   case hy12 => (intro W2 hSw; (try dsimp only at hSw); go_simp; try with_reducible rfl)
   try simp only [Act.put, List.setIfInBounds_toArray, List.set_cons_zero, List.set_cons_succ, List.getElem_toArray, List.getElem_cons_succ, List.getElem_cons_zero]
   refine wpAnyL_take (i := 12) (v := ?v13) rfl (by kernel_rfl) (by kernel_rfl) (by kernel_rfl) (by kernel_rfl) (by kernel_rfl) (Or.inl ⟨by kernel_rfl, ?hy13⟩) (hSv1.out _ hr1) ?rest13
   case hy13 => (intro W2 hSw; (try dsimp only at hSw); go_simp; try with_reducible rfl)
   try simp only [Act.put, List.setIfInBounds_toArray, List.set_cons_zero, List.set_cons_succ, List.getElem_toArray, List.getElem_cons_succ, List.getElem_cons_zero]
   refine wpAnyL_take (i := 13) (v := ?v14) rfl (by kernel_rfl) (by kernel_rfl) (by kernel_rfl) (by kernel_rfl) (by kernel_rfl) (Or.inl ⟨by kernel_rfl, ?hy14⟩) (hSv1.out _ hr1) ?rest14
   case hy14 => (intro W2 hSw; (try dsimp only at hSw); go_simp; try with_reducible rfl)
   try simp only [Act.put, List.setIfInBounds_toArray, List.set_cons_zero, List.set_cons_succ, List.getElem_toArray, List.getElem_cons_succ, List.getElem_cons_zero]
   refine wpAnyL_allU [(14, 46), (15, 31), (16, 47), (18, 7)] (fun i => match i with | 15 => [17] | _ => []) [(14, 46), (15, 31), (17, 48), (16, 47), (18, 7)] (callG wr.heap.size ((rowQ L i)[col]?.getD 0 / (rowQ L r)[col]?.getD 0) 14 15 16 17 18 17) 2 (by kernel_rfl) (fun _ _ _ _ _ hb h => callG_stays hb h) (fun wx h => hSv1.out _ (hr1.trans (h.mono hr1.size))) ?hop1 ?hfin1
   case hop1 =>
    intro p hp
    simp only [List.mem_cons, List.not_mem_nil, or_false] at hp
    simp only [List.map_cons, List.map_nil, putsR, Act.put, List.setIfInBounds_toArray, List.set_cons_zero, List.set_cons_succ]
    rcases hp with rfl | rfl | rfl | rfl
    · intro ν wx hb hP
      have hbx := hr1.trans (hb.mono hr1.size)
      refine wpOp_shut (i := 14) rfl (fun K hK => ?_)
      go_simp
      refine (rOver_ok n1 m1 n2 m2 A1 B1 A2 B2 k1 c1 j1 d1 k2 c2 j2 d2 _ _ wx (hf1.below hbx) (hf2.below hbx) sc1 sc2 hpq.out).mono ?_
      rintro e w5 ⟨hb5, na5, A5, k5, c5, nb5, B5, m5, d5, rfl, hf5⟩
      exact hK.out _ _ ⟨_, rfl, (by simp only [callG]; exact ⟨_, _, _, _, _, _, _, _, rfl, hf5⟩), hb5, trivial⟩
    · intro ν wx hb hP
      have h0 := hP (14, 46) (by simp) (by kernel_rfl)
      simp only [callG] at h0
      obtain ⟨na5, A5, k5, c5, nb5, B5, m5, d5, hν, hf5⟩ := h0
      rw [hν]
      refine wpOp_shut (i := 15) rfl (fun K hK => ?_)
      go_simp
      refine hK.out _ _ ⟨_, rfl, (by simp only [callG]; exact ⟨_, _, _, _, _, _, _, _, rfl, hf5⟩), Below.refl _ _, ?_⟩
      exact ⟨_, .int .i64 0, rfl, Or.inl ⟨by kernel_rfl, fun W2 _ => by go_simp⟩, by simp [callG], trivial⟩
    · intro ν wx hb hP
      have h0 := hP (15, 31) (by simp) (by kernel_rfl)
      simp only [callG] at h0
      obtain ⟨na5, A5, k5, c5, nb5, B5, m5, d5, hν, hf5⟩ := h0
      rw [hν]
      refine wpOp_shut (i := 16) rfl (fun K hK => ?_)
      go_simp
      exact hK.out _ _ ⟨_, rfl, (by simp only [callG]; exact ⟨_, _, _, _, _, _, _, _, rfl, hf5⟩), Below.refl _ _, trivial⟩
    · intro ν wx hb hP
      refine wpOp_shut (i := 18) rfl (fun K hK => ?_)
      go_simp
      exact hK.out _ _ ⟨_, rfl, (by simp only [callG]; exact ⟨_, rfl, hb.size, Blk.new _ _ _⟩), (Below.refl _ _).alloc (Nat.le_refl _) _, trivial⟩
   case hfin1 =>
    intro ν wx hb hP
    have h0 := hP (14, 46) (by simp)
    have h1 := hP (15, 31) (by simp)
    have h2 := hP (16, 47) (by simp)
    have h3 := hP (17, 48) (by simp)
    have h4 := hP (18, 7) (by simp)
    simp only [callG] at h0 h1 h2 h4
    obtain ⟨a0, a1, a2, a3, a4, a5, a6, a7, h0, -⟩ := h0
    obtain ⟨b0', b1', b2', b3', b4', b5', b6', b7', h1, -⟩ := h1
    obtain ⟨bbn, bbA, bbk, bbc, bbm, bbB, bbj, bbd, h2, bbf⟩ := h2
    obtain ⟨gbb, h4, kv, qv⟩ := h4
    simp only [List.map_cons, List.map_nil, putsR, Act.put, List.setIfInBounds_toArray, List.set_cons_zero, List.set_cons_succ]
    rw [h0, h1, h2, (show ν 48 = Value.int .i64 0 by simpa [callG] using h3), h4]
    clear h0 h1 h2 h3 h4 hP ν
    have hbx := hr1.trans (hb.mono hr1.size)
    have qv4 := qv.four
    have kv2 : wr.heap.size ≤ gbb := kv
    refine (set_frac bbn bbA bbk bbc bbm bbB bbj bbd hbx kv2 qv).elim (fun Zbb hq => ?_)
    have c0 := qv4.1
    have c1' := qv4.2.1
    have c2' := qv4.2.2.1
    have c3 := qv4.2.2.2.1
    have f0 := qv4.2.2.2.2.1
    have f1 := qv4.2.2.2.2.2.1
    have f2 := qv4.2.2.2.2.2.2.1
    have f3 := qv4.2.2.2.2.2.2.2
    have hZ := hq.1
    refine wpAnyL_one (i := 19) rfl (by kernel_rfl) (fun K hK => ?_)
    go_simp
    (try rw [hZ])
    refine hK.out _ _ (fun _ => hSv1.out _ hq.2.1) ?_
    clear hK K
    try simp only [Act.put, List.setIfInBounds_toArray, List.set_cons_zero, List.set_cons_succ]
    refine wpAnyL_pure (i := 20) (v := ?v15) rfl (by kernel_rfl) (by kernel_rfl) (by kernel_rfl) (by kernel_rfl) (Or.inl ⟨by kernel_rfl, ?hy15⟩) (fun _ => (hSv1.out _ hq.2.1)) ?rest15
    case hy15 => (intro W2 _; go_simp; try with_reducible rfl)
    try simp only [Act.put, List.setIfInBounds_toArray, List.set_cons_zero, List.set_cons_succ, List.getElem_toArray, List.getElem_cons_succ, List.getElem_cons_zero]
    refine wpAnyL_done (by kernel_rfl) ?_ _
    refine OnlyNormal.normal ?_
    have hbZbb := hq.2.1
    have bbb := hide hq.2.2.1
    replace bbf := hide (Fr.keep bbf hq.2.2.2.1)
    clear hq hZ c0 c1' c2' c3 f0 f1 f2 f3 qv4 qv kv hbx hb hr1 hSv1 hxs1
    rw [hby.out] at bbf
    have hM2 := hM.out.below hbZbb
    have hK2 : Kept (fun g => g ∈ L.map RF.g) w Zbb := hK.out.below hbZbb
    have hgb : Hid (gbb ∉ L.map RF.g) := hide (fun hmem => by
     obtain ⟨t, cs, hb, -⟩ := hGX.out gbb hmem
     have := hb.lt
     have := hK.out.size
     omega)
    have hGZ : Hid (∀ k, k ∈ L.map RF.g → ∃ t cs, Blk Zbb k t cs ∧ NoLimb cs) := hide (fun k hk => hM2.boxes k (.inr (by rw [hg2.out]; exact hk)))
    have hgi : Hid (ri.g ∈ L.map RF.g) := hide (by rw [← hg2.out]; exact List.mem_map.2 ⟨ri, List.mem_of_getElem? hri2, rfl⟩)
    have hgr : Hid (r2.g ∈ L.map RF.g) := hide (by rw [← hg2.out]; exact List.mem_map.2 ⟨r2, List.mem_of_getElem? hr2, rfl⟩)
    clear hK hM p0 p1 p2 p3 q0 q1 q2 q3 sc1 sc2 hf1 hf2 t1 t2 t2' ci cr zi zr hbZbb
    replace hK2 := hide hK2
    go_wp2_with fail
    go_loopg [9] (m - col) (fun k iv wr => ∃ (j : Nat) (q3 : List Rat), j + k = m ∧ iv = .int .i64 j ∧ col ≤ j ∧ MatB 40 45 wr go (L2.set i ⟨ri.g, ri.c, q3⟩) ∧ Hid (q3.length = m) ∧ Hid (∀ t, q3[t]?.getD 0 = if col ≤ t ∧ t < j then (rowQ L i)[t]?.getD 0 - by_ * (rowQ L r)[t]?.getD 0 else (rowQ L i)[t]?.getD 0) ∧ Kept (fun g => g ∈ L.map RF.g) Zbb wr)
    case atStart =>
     refine ⟨col, ri.q, by omega, rfl, Nat.le_refl _, ?_, hide hli, hide (fun t => by rw [if_neg (by omega), hqi]), Kept.refl _ _⟩
     have e : L2.set i ⟨ri.g, ri.c, ri.q⟩ = L2 := by
      apply List.ext_getElem?
      intro t
      rw [List.getElem?_set]
      split
      · rename_i h; subst h; rw [if_pos (by rw [hl2.out]; exact hin), hri2]
      · rfl
     rw [e]; exact hM2
    case round =>
     clear hM2
     obtain ⟨j, q3, hjk, rfl, hcj, hM3, hl3, hq3, hK3⟩ := hrel
     obtain ⟨c0, z0⟩ := hM3.cell (i := i) (r := ⟨ri.g, ri.c, q3⟩) (by rw [List.getElem?_set, if_pos rfl, if_pos (by rw [hl2.out]; exact hin)])
     simp only [hl3.out] at c0
     cases gk with
     | zero =>
      obtain rfl : j = m := by omega
      have t3 : decide ((j : Int) < (j : Int)) = false := by simp
      have hrel2 : Hid ((L2.set i ⟨ri.g, ri.c, q3⟩).length = n ∧ (L2.set i ⟨ri.g, ri.c, q3⟩).map RF.g = L.map RF.g ∧ (L2.set i ⟨ri.g, ri.c, q3⟩).map RF.c = L.map RF.c ∧ ClrTo L (L2.set i ⟨ri.g, ri.c, q3⟩) r col (i + 1)) := hide (by
       refine ⟨by rw [List.length_set]; exact hl2.out, ?_, ?_, ?_⟩
       · rw [map_set_same (s := ⟨ri.g, ri.c, q3⟩) hri2 rfl]; exact hg2.out
       · rw [map_set_same (s := ⟨ri.g, ri.c, q3⟩) hri2 rfl]; exact hc2.out
       · refine hcl.out.step (by rw [hl2.out, hn.out]) (by rw [hn.out]; exact hin) (by omega) ?_
         refine rowR_eq (by rw [hl3.out, hmQ.out i hin]) (fun t => ?_)
         rw [hq3.out t, hby.out, hmQ.out i hin])
      have hK6 : Hid (Kept (fun g => g ∈ L.map RF.g) w wr) := hide (hK2.out.trans hK3)
      replace hM3 := hide hM3
      clear hK3
      go_wp2_with fail
      go_roundg (n - (i + 1))
      case measure => omega
      case rel => exact ⟨i + 1, _, by omega, by go_num, by omega, hM3.out, hide hrel2.out.1, hide hrel2.out.2.1, hide hrel2.out.2.2.1, hide hrel2.out.2.2.2, hK6.out⟩
     | succ gk' =>
      obtain rfl : gk' = m - (j + 1) := by omega
      have hjm : j < m := by omega
      have t3 : decide ((j : Int) < (m : Int)) = true := decide_eq_true (by omega)
      have bj : (j : Int) < (m : Int) := by omega
      obtain ⟨c1', z1⟩ := hM3.cell (i := r) (r := r2) (by rw [List.getElem?_set, if_neg (by omega)]; exact hr2)
      rw [hlr] at c1'
      obtain ⟨f3, -, -⟩ := hM3.row (i := i) (r := ⟨ri.g, ri.c, q3⟩) (by rw [List.getElem?_set, if_pos rfl, if_pos (by rw [hl2.out]; exact hin)])
      obtain ⟨f4, -, -⟩ := hM3.row (i := r) (r := r2) (by rw [List.getElem?_set, if_neg (by omega)]; exact hr2)
      obtain ⟨n4, A4, k4, c4, m4, B4, j4, d4, q0, q1, q2, q3', hf4⟩ := f4.at_ (i := j) (by rw [hlr]; exact hjm)
      rw [hqr] at hf4
      have hbb := hK3.blk bbb.out hgb.out
      obtain ⟨x0, x1, x2, x3, -⟩ := hbb.four
      have hfb : Fr wr bbn bbA bbk bbc bbm bbB bbj bbd by_ := ⟨hK3.wd bbf.out.1 hGZ.out, hK3.wd bbf.out.2 hGZ.out⟩
      have sc1 := hbyS.out.sm (by decide) (by decide)
      have sc2 := (hBq.out r j).sm (by decide) (by decide)
      have hww : Hid (SmN 600 600 (by_ * (rowQ L r)[j]?.getD 0)) := hide (hbyS.out.mulN (hBq.out r j))
      replace hM3 := hide hM3
      replace hK3 := hide hK3
      replace f3 := hide f3
      clear f4 hbb
      go_wp2_with fail
      have hSv2 : Hid (∀ wx, Below wr.heap.size wr wx → wx.cell? ⟨gbb, 0, none⟩ = some (.bool bbn) ∧ wx.cell? ⟨gbb, 1, none⟩ = some (.slice bbA bbk bbc) ∧ wx.cell? ⟨gbb, 2, none⟩ = some (.bool bbm) ∧ wx.cell? ⟨gbb, 3, none⟩ = some (.slice bbB bbj bbd) ∧ wx.cell? ⟨go, r, none⟩ = some (.slice (some ⟨r2.g, 0, none⟩) m r2.c) ∧ wx.cell? ⟨r2.g, j * 4, none⟩ = some (.bool n4) ∧ wx.cell? ⟨r2.g, j * 4 + 1, none⟩ = some (.slice A4 k4 c4) ∧ wx.cell? ⟨r2.g, j * 4 + 2, none⟩ = some (.bool m4) ∧ wx.cell? ⟨r2.g, j * 4 + 3, none⟩ = some (.slice B4 j4 d4)) := hide (fun wx hbx => ⟨keep_cell hbx x0, keep_cell hbx x1, keep_cell hbx x2, keep_cell hbx x3, keep_cell hbx c1', keep_cell hbx q0, keep_cell hbx q1, keep_cell hbx q2, keep_cell hbx q3'⟩)
      have hr2 : Below wr.heap.size wr wr.drew := below_dn (Below.refl _ _) 1
      refine wp_held [] (fun wx => wx.cell? ⟨gbb, 0, none⟩ = some (.bool bbn) ∧ wx.cell? ⟨gbb, 1, none⟩ = some (.slice bbA bbk bbc) ∧ wx.cell? ⟨gbb, 2, none⟩ = some (.bool bbm) ∧ wx.cell? ⟨gbb, 3, none⟩ = some (.slice bbB bbj bbd) ∧ wx.cell? ⟨go, r, none⟩ = some (.slice (some ⟨r2.g, 0, none⟩) m r2.c) ∧ wx.cell? ⟨r2.g, j * 4, none⟩ = some (.bool n4) ∧ wx.cell? ⟨r2.g, j * 4 + 1, none⟩ = some (.slice A4 k4 c4) ∧ wx.cell? ⟨r2.g, j * 4 + 2, none⟩ = some (.bool m4) ∧ wx.cell? ⟨r2.g, j * 4 + 3, none⟩ = some (.slice B4 j4 d4)) hmx (hSv2.out _ hr2) (fun hxs2 => ?_)
      refine wpAnyL_take (i := 0) (v := ?v16) rfl (by kernel_rfl) (by kernel_rfl) (by kernel_rfl) (by kernel_rfl) (by kernel_rfl) (Or.inl ⟨by kernel_rfl, ?hy16⟩) (hSv2.out _ hr2) ?rest16
      case hy16 => (intro W2 hSw; (try dsimp only at hSw); go_simp; try with_reducible rfl)
      try simp only [Act.put, List.setIfInBounds_toArray, List.set_cons_zero, List.set_cons_succ, List.getElem_toArray, List.getElem_cons_succ, List.getElem_cons_zero]
      refine wpAnyL_take (i := 1) (v := ?v17) rfl (by kernel_rfl) (by kernel_rfl) (by kernel_rfl) (by kernel_rfl) (by kernel_rfl) (Or.inl ⟨by kernel_rfl, ?hy17⟩) (hSv2.out _ hr2) ?rest17
      case hy17 => (intro W2 hSw; (try dsimp only at hSw); go_simp; try with_reducible rfl)
      try simp only [Act.put, List.setIfInBounds_toArray, List.set_cons_zero, List.set_cons_succ, List.getElem_toArray, List.getElem_cons_succ, List.getElem_cons_zero]
      refine wpAnyL_take (i := 2) (v := ?v18) rfl (by kernel_rfl) (by kernel_rfl) (by kernel_rfl) (by kernel_rfl) (by kernel_rfl) (Or.inl ⟨by kernel_rfl, ?hy18⟩) (hSv2.out _ hr2) ?rest18
      case hy18 => (intro W2 hSw; (try dsimp only at hSw); go_simp; try with_reducible rfl)
      try simp only [Act.put, List.setIfInBounds_toArray, List.set_cons_zero, List.set_cons_succ, List.getElem_toArray, List.getElem_cons_succ, List.getElem_cons_zero]
      refine wpAnyL_take (i := 3) (v := ?v19) rfl (by kernel_rfl) (by kernel_rfl) (by kernel_rfl) (by kernel_rfl) (by kernel_rfl) (Or.inl ⟨by kernel_rfl, ?hy19⟩) (hSv2.out _ hr2) ?rest19
      case hy19 => (intro W2 hSw; (try dsimp only at hSw); go_simp; try with_reducible rfl)
      try simp only [Act.put, List.setIfInBounds_toArray, List.set_cons_zero, List.set_cons_succ, List.getElem_toArray, List.getElem_cons_succ, List.getElem_cons_zero]
      refine wpAnyL_take (i := 4) (v := ?v20) rfl (by kernel_rfl) (by kernel_rfl) (by kernel_rfl) (by kernel_rfl) (by kernel_rfl) (Or.inl ⟨by kernel_rfl, ?hy20⟩) (hSv2.out _ hr2) ?rest20
      case hy20 => (intro W2 hSw; (try dsimp only at hSw); go_simp; try with_reducible rfl)
      try simp only [Act.put, List.setIfInBounds_toArray, List.set_cons_zero, List.set_cons_succ, List.getElem_toArray, List.getElem_cons_succ, List.getElem_cons_zero]
      refine wpAnyL_take (i := 5) (v := ?v21) rfl (by kernel_rfl) (by kernel_rfl) (by kernel_rfl) (by kernel_rfl) (by kernel_rfl) (Or.inl ⟨by kernel_rfl, ?hy21⟩) (hSv2.out _ hr2) ?rest21
      case hy21 => (intro W2 hSw; (try dsimp only at hSw); go_simp; try with_reducible rfl)
      try simp only [Act.put, List.setIfInBounds_toArray, List.set_cons_zero, List.set_cons_succ, List.getElem_toArray, List.getElem_cons_succ, List.getElem_cons_zero]
      refine wpAnyL_take (i := 6) (v := ?v22) rfl (by kernel_rfl) (by kernel_rfl) (by kernel_rfl) (by kernel_rfl) (by kernel_rfl) (Or.inl ⟨by kernel_rfl, ?hy22⟩) (hSv2.out _ hr2) ?rest22
      case hy22 => (intro W2 hSw; (try dsimp only at hSw); go_simp; try with_reducible rfl)
      try simp only [Act.put, List.setIfInBounds_toArray, List.set_cons_zero, List.set_cons_succ, List.getElem_toArray, List.getElem_cons_succ, List.getElem_cons_zero]
      refine wpAnyL_take (i := 7) (v := ?v23) rfl (by kernel_rfl) (by kernel_rfl) (by kernel_rfl) (by kernel_rfl) (by kernel_rfl) (Or.inl ⟨by kernel_rfl, ?hy23⟩) (hSv2.out _ hr2) ?rest23
      case hy23 => (intro W2 hSw; (try dsimp only at hSw); go_simp; try with_reducible rfl)
      try simp only [Act.put, List.setIfInBounds_toArray, List.set_cons_zero, List.set_cons_succ, List.getElem_toArray, List.getElem_cons_succ, List.getElem_cons_zero]
      refine wpAnyL_allU [(8, 68), (9, 59), (10, 69), (12, 10)] (fun i => match i with | 9 => [11] | _ => []) [(8, 68), (9, 59), (11, 70), (10, 69), (12, 10)] (callG wr.heap.size (by_ * (rowQ L r)[j]?.getD 0) 8 9 10 11 12 11) 2 (by kernel_rfl) (fun _ _ _ _ _ hb h => callG_stays hb h) (fun wx h => hSv2.out _ (hr2.trans (h.mono hr2.size))) ?hop2 ?hfin2
      case hop2 =>
       intro p hp
       simp only [List.mem_cons, List.not_mem_nil, or_false] at hp
       simp only [List.map_cons, List.map_nil, putsR, Act.put, List.setIfInBounds_toArray, List.set_cons_zero, List.set_cons_succ]
       rcases hp with rfl | rfl | rfl | rfl
       · intro ν wx hb hP
         have hbx := hr2.trans (hb.mono hr2.size)
         refine wpOp_shut (i := 8) rfl (fun K hK => ?_)
         go_simp
         refine (rTimes_ok bbn bbm n4 m4 bbA bbB A4 B4 bbk bbc bbj bbd k4 c4 j4 d4 _ _ wx (hfb.below hbx) (hf4.below hbx) sc1 sc2).mono ?_
         rintro e w5 ⟨hb5, na5, A5, k5, c5, nb5, B5, m5, d5, rfl, hf5⟩
         exact hK.out _ _ ⟨_, rfl, (by simp only [callG]; exact ⟨_, _, _, _, _, _, _, _, rfl, hf5⟩), hb5, trivial⟩
       · intro ν wx hb hP
         have h0 := hP (8, 68) (by simp) (by kernel_rfl)
         simp only [callG] at h0
         obtain ⟨na5, A5, k5, c5, nb5, B5, m5, d5, hν, hf5⟩ := h0
         rw [hν]
         refine wpOp_shut (i := 9) rfl (fun K hK => ?_)
         go_simp
         refine hK.out _ _ ⟨_, rfl, (by simp only [callG]; exact ⟨_, _, _, _, _, _, _, _, rfl, hf5⟩), Below.refl _ _, ?_⟩
         exact ⟨_, .int .i64 0, rfl, Or.inl ⟨by kernel_rfl, fun W2 _ => by go_simp⟩, by simp [callG], trivial⟩
       · intro ν wx hb hP
         have h0 := hP (9, 59) (by simp) (by kernel_rfl)
         simp only [callG] at h0
         obtain ⟨na5, A5, k5, c5, nb5, B5, m5, d5, hν, hf5⟩ := h0
         rw [hν]
         refine wpOp_shut (i := 10) rfl (fun K hK => ?_)
         go_simp
         exact hK.out _ _ ⟨_, rfl, (by simp only [callG]; exact ⟨_, _, _, _, _, _, _, _, rfl, hf5⟩), Below.refl _ _, trivial⟩
       · intro ν wx hb hP
         refine wpOp_shut (i := 12) rfl (fun K hK => ?_)
         go_simp
         exact hK.out _ _ ⟨_, rfl, (by simp only [callG]; exact ⟨_, rfl, hb.size, Blk.new _ _ _⟩), (Below.refl _ _).alloc (Nat.le_refl _) _, trivial⟩
      case hfin2 =>
       intro ν wx hb hP
       have h0 := hP (8, 68) (by simp)
       have h1 := hP (9, 59) (by simp)
       have h2 := hP (10, 69) (by simp)
       have h3 := hP (11, 70) (by simp)
       have h4 := hP (12, 10) (by simp)
       simp only [callG] at h0 h1 h2 h4
       obtain ⟨a0, a1, a2, a3, a4, a5, a6, a7, h0, -⟩ := h0
       obtain ⟨b0', b1', b2', b3', b4', b5', b6', b7', h1, -⟩ := h1
       obtain ⟨wwn, wwA, wwk, wwc, wwm, wwB, wwj, wwd, h2, wwf⟩ := h2
       obtain ⟨gww, h4, kv, qv⟩ := h4
       simp only [List.map_cons, List.map_nil, putsR, Act.put, List.setIfInBounds_toArray, List.set_cons_zero, List.set_cons_succ]
       rw [h0, h1, h2, (show ν 70 = Value.int .i64 0 by simpa [callG] using h3), h4]
       clear h0 h1 h2 h3 h4 hP ν
       have hbx := hr2.trans (hb.mono hr2.size)
       have qv4 := qv.four
       have kv2 : wr.heap.size ≤ gww := kv
       refine (set_frac wwn wwA wwk wwc wwm wwB wwj wwd hbx kv2 qv).elim (fun Zww hq => ?_)
       have c0 := qv4.1
       have c1' := qv4.2.1
       have c2' := qv4.2.2.1
       have c3 := qv4.2.2.2.1
       have f0 := qv4.2.2.2.2.1
       have f1 := qv4.2.2.2.2.2.1
       have f2 := qv4.2.2.2.2.2.2.1
       have f3 := qv4.2.2.2.2.2.2.2
       have hZ := hq.1
       refine wpAnyL_one (i := 13) rfl (by kernel_rfl) (fun K hK => ?_)
       go_simp
       (try rw [hZ])
       refine hK.out _ _ (fun _ => hSv2.out _ hq.2.1) ?_
       clear hK K
       try simp only [Act.put, List.setIfInBounds_toArray, List.set_cons_zero, List.set_cons_succ]
       refine wpAnyL_pure (i := 14) (v := ?v24) rfl (by kernel_rfl) (by kernel_rfl) (by kernel_rfl) (by kernel_rfl) (Or.inl ⟨by kernel_rfl, ?hy24⟩) (fun _ => (hSv2.out _ hq.2.1)) ?rest24
       case hy24 => (intro W2 _; go_simp; try with_reducible rfl)
       try simp only [Act.put, List.setIfInBounds_toArray, List.set_cons_zero, List.set_cons_succ, List.getElem_toArray, List.getElem_cons_succ, List.getElem_cons_zero]
       refine wpAnyL_done (by kernel_rfl) ?_ _
       refine OnlyNormal.normal ?_
       have hbZww := hq.2.1
       have wwb := hide hq.2.2.1
       replace wwf := hide (Fr.keep wwf hq.2.2.2.1)
       clear hq hZ c0 c1' c2' c3 f0 f1 f2 f3 qv4 qv kv hbx hb hr2 hSv2 hxs2
       have hbx0 := hbZww
       have hM4 := hM3.out.below hbx0
       have hK4 := hK3.out.below hbx0
       have f5 := f3.out.below hbx0
       have hl3' := hl3.out
       obtain ⟨n5, A5, k5, c5, m5, B5, j5, d5, u0', u1', u2', u3', hf5⟩ := f5.at_ (i := j) (by rw [hl3']; exact hjm)
       have hf5c : q3[j]?.getD 0 = (rowQ L i)[j]?.getD 0 := by
        have h1 := hq3.out j
        rw [if_neg (by omega)] at h1
        exact h1
       simp only [hf5c] at hf5
       have v0 := f5.frozen (j * 4)
       have v1 := f5.frozen (j * 4 + 1)
       have v2 := f5.frozen (j * 4 + 2)
       have v3 := f5.frozen (j * 4 + 3)
       have c0' := keep_cell hbx0 c0
       obtain ⟨y0, y1, y2, y3, -⟩ := wwb.out.four
       have sc3 := (hBq.out i j).sm (by decide) (by decide)
       have sc4 := hww.out.sm (by decide) (by decide)
       replace hM4 := hide hM4
       replace hK4 := hide hK4
       clear hf5c hl3' hbx0 q0 q1 q2 q3' x0 x1 x2 x3 hf4 hfb sc1 sc2 hM3 hK3 f3 f5 c0 c1' z0 z1
       go_wp2_with fail
       have hSv9 : Hid (∀ wx, Below Zww.heap.size Zww wx → wx.cell? ⟨go, i, none⟩ = some (.slice (some ⟨ri.g, 0, none⟩) m ri.c) ∧ wx.cell? ⟨ri.g, j * 4, none⟩ = some (.bool n5) ∧ wx.cell? ⟨ri.g, j * 4 + 1, none⟩ = some (.slice A5 k5 c5) ∧ wx.cell? ⟨ri.g, j * 4 + 2, none⟩ = some (.bool m5) ∧ wx.cell? ⟨ri.g, j * 4 + 3, none⟩ = some (.slice B5 j5 d5) ∧ wx.cell? ⟨gww, 0, none⟩ = some (.bool wwn) ∧ wx.cell? ⟨gww, 1, none⟩ = some (.slice wwA wwk wwc) ∧ wx.cell? ⟨gww, 2, none⟩ = some (.bool wwm) ∧ wx.cell? ⟨gww, 3, none⟩ = some (.slice wwB wwj wwd)) := hide (fun wx hbx => ⟨keep_cell hbx c0', keep_cell hbx u0', keep_cell hbx u1', keep_cell hbx u2', keep_cell hbx u3', keep_cell hbx y0, keep_cell hbx y1, keep_cell hbx y2, keep_cell hbx y3⟩)
       have hr9 : Below Zww.heap.size Zww Zww.drew := below_dn (Below.refl _ _) 1
       refine wp_held [18] (fun wx => wx.cell? ⟨go, i, none⟩ = some (.slice (some ⟨ri.g, 0, none⟩) m ri.c) ∧ wx.cell? ⟨ri.g, j * 4, none⟩ = some (.bool n5) ∧ wx.cell? ⟨ri.g, j * 4 + 1, none⟩ = some (.slice A5 k5 c5) ∧ wx.cell? ⟨ri.g, j * 4 + 2, none⟩ = some (.bool m5) ∧ wx.cell? ⟨ri.g, j * 4 + 3, none⟩ = some (.slice B5 j5 d5) ∧ wx.cell? ⟨gww, 0, none⟩ = some (.bool wwn) ∧ wx.cell? ⟨gww, 1, none⟩ = some (.slice wwA wwk wwc) ∧ wx.cell? ⟨gww, 2, none⟩ = some (.bool wwm) ∧ wx.cell? ⟨gww, 3, none⟩ = some (.slice wwB wwj wwd)) hmx (hSv9.out _ hr9) (fun hxs9 => ?_)
       refine wpAnyL_take (i := 0) (v := ?v25) rfl (by kernel_rfl) (by kernel_rfl) (by kernel_rfl) (by kernel_rfl) (by kernel_rfl) (Or.inl ⟨by kernel_rfl, ?hy25⟩) (hSv9.out _ hr9) ?rest25
       case hy25 => (intro W2 hSw; (try dsimp only at hSw); go_simp; try with_reducible rfl)
       try simp only [Act.put, List.setIfInBounds_toArray, List.set_cons_zero, List.set_cons_succ, List.getElem_toArray, List.getElem_cons_succ, List.getElem_cons_zero]
       refine wpAnyL_take (i := 1) (v := ?v26) rfl (by kernel_rfl) (by kernel_rfl) (by kernel_rfl) (by kernel_rfl) (by kernel_rfl) (Or.inl ⟨by kernel_rfl, ?hy26⟩) (hSv9.out _ hr9) ?rest26
       case hy26 => (intro W2 hSw; (try dsimp only at hSw); go_simp; try with_reducible rfl)
       try simp only [Act.put, List.setIfInBounds_toArray, List.set_cons_zero, List.set_cons_succ, List.getElem_toArray, List.getElem_cons_succ, List.getElem_cons_zero]
       refine wpAnyL_take (i := 2) (v := ?v27) rfl (by kernel_rfl) (by kernel_rfl) (by kernel_rfl) (by kernel_rfl) (by kernel_rfl) (Or.inl ⟨by kernel_rfl, ?hy27⟩) (hSv9.out _ hr9) ?rest27
       case hy27 => (intro W2 hSw; (try dsimp only at hSw); go_simp; try with_reducible rfl)
       try simp only [Act.put, List.setIfInBounds_toArray, List.set_cons_zero, List.set_cons_succ, List.getElem_toArray, List.getElem_cons_succ, List.getElem_cons_zero]
       refine wpAnyL_take (i := 3) (v := ?v28) rfl (by kernel_rfl) (by kernel_rfl) (by kernel_rfl) (by kernel_rfl) (by kernel_rfl) (Or.inl ⟨by kernel_rfl, ?hy28⟩) (hSv9.out _ hr9) ?rest28
       case hy28 => (intro W2 hSw; (try dsimp only at hSw); go_simp; try with_reducible rfl)
       try simp only [Act.put, List.setIfInBounds_toArray, List.set_cons_zero, List.set_cons_succ, List.getElem_toArray, List.getElem_cons_succ, List.getElem_cons_zero]
       refine wpAnyL_take (i := 4) (v := ?v29) rfl (by kernel_rfl) (by kernel_rfl) (by kernel_rfl) (by kernel_rfl) (by kernel_rfl) (Or.inl ⟨by kernel_rfl, ?hy29⟩) (hSv9.out _ hr9) ?rest29
       case hy29 => (intro W2 hSw; (try dsimp only at hSw); go_simp; try with_reducible rfl)
       try simp only [Act.put, List.setIfInBounds_toArray, List.set_cons_zero, List.set_cons_succ, List.getElem_toArray, List.getElem_cons_succ, List.getElem_cons_zero]
       refine wpAnyL_take (i := 5) (v := ?v30) rfl (by kernel_rfl) (by kernel_rfl) (by kernel_rfl) (by kernel_rfl) (by kernel_rfl) (Or.inl ⟨by kernel_rfl, ?hy30⟩) (hSv9.out _ hr9) ?rest30
       case hy30 => (intro W2 hSw; (try dsimp only at hSw); go_simp; try with_reducible rfl)
       try simp only [Act.put, List.setIfInBounds_toArray, List.set_cons_zero, List.set_cons_succ, List.getElem_toArray, List.getElem_cons_succ, List.getElem_cons_zero]
       refine wpAnyL_take (i := 6) (v := ?v31) rfl (by kernel_rfl) (by kernel_rfl) (by kernel_rfl) (by kernel_rfl) (by kernel_rfl) (Or.inl ⟨by kernel_rfl, ?hy31⟩) (hSv9.out _ hr9) ?rest31
       case hy31 => (intro W2 hSw; (try dsimp only at hSw); go_simp; try with_reducible rfl)
       try simp only [Act.put, List.setIfInBounds_toArray, List.set_cons_zero, List.set_cons_succ, List.getElem_toArray, List.getElem_cons_succ, List.getElem_cons_zero]
       refine wpAnyL_take (i := 7) (v := ?v32) rfl (by kernel_rfl) (by kernel_rfl) (by kernel_rfl) (by kernel_rfl) (by kernel_rfl) (Or.inl ⟨by kernel_rfl, ?hy32⟩) (hSv9.out _ hr9) ?rest32
       case hy32 => (intro W2 hSw; (try dsimp only at hSw); go_simp; try with_reducible rfl)
       try simp only [Act.put, List.setIfInBounds_toArray, List.set_cons_zero, List.set_cons_succ, List.getElem_toArray, List.getElem_cons_succ, List.getElem_cons_zero]
       refine wpAnyL_take (i := 8) (v := ?v33) rfl (by kernel_rfl) (by kernel_rfl) (by kernel_rfl) (by kernel_rfl) (by kernel_rfl) (Or.inl ⟨by kernel_rfl, ?hy33⟩) (hSv9.out _ hr9) ?rest33
       case hy33 => (intro W2 hSw; (try dsimp only at hSw); go_simp; try with_reducible rfl)
       try simp only [Act.put, List.setIfInBounds_toArray, List.set_cons_zero, List.set_cons_succ, List.getElem_toArray, List.getElem_cons_succ, List.getElem_cons_zero]
       refine wpAnyL_take (i := 9) (v := ?v34) rfl (by kernel_rfl) (by kernel_rfl) (by kernel_rfl) (by kernel_rfl) (by kernel_rfl) (Or.inl ⟨by kernel_rfl, ?hy34⟩) (hSv9.out _ hr9) ?rest34
       case hy34 => (intro W2 hSw; (try dsimp only at hSw); go_simp; try with_reducible rfl)
       try simp only [Act.put, List.setIfInBounds_toArray, List.set_cons_zero, List.set_cons_succ, List.getElem_toArray, List.getElem_cons_succ, List.getElem_cons_zero]
       refine wpAnyL_take (i := 10) (v := ?v35) rfl (by kernel_rfl) (by kernel_rfl) (by kernel_rfl) (by kernel_rfl) (by kernel_rfl) (Or.inl ⟨by kernel_rfl, ?hy35⟩) (hSv9.out _ hr9) ?rest35
       case hy35 => (intro W2 hSw; (try dsimp only at hSw); go_simp; try with_reducible rfl)
       try simp only [Act.put, List.setIfInBounds_toArray, List.set_cons_zero, List.set_cons_succ, List.getElem_toArray, List.getElem_cons_succ, List.getElem_cons_zero]
       refine wpAnyL_take (i := 11) (v := ?v36) rfl (by kernel_rfl) (by kernel_rfl) (by kernel_rfl) (by kernel_rfl) (by kernel_rfl) (Or.inl ⟨by kernel_rfl, ?hy36⟩) (hSv9.out _ hr9) ?rest36
       case hy36 => (intro W2 hSw; (try dsimp only at hSw); go_simp; try with_reducible rfl)
       try simp only [Act.put, List.setIfInBounds_toArray, List.set_cons_zero, List.set_cons_succ, List.getElem_toArray, List.getElem_cons_succ, List.getElem_cons_zero]
       refine wpAnyL_take (i := 12) (v := ?v37) rfl (by kernel_rfl) (by kernel_rfl) (by kernel_rfl) (by kernel_rfl) (by kernel_rfl) (Or.inl ⟨by kernel_rfl, ?hy37⟩) (hSv9.out _ hr9) ?rest37
       case hy37 => (intro W2 hSw; (try dsimp only at hSw); go_simp; try with_reducible rfl)
       try simp only [Act.put, List.setIfInBounds_toArray, List.set_cons_zero, List.set_cons_succ, List.getElem_toArray, List.getElem_cons_succ, List.getElem_cons_zero]
       refine wpAnyL_one (i := 13) rfl (by kernel_rfl) (fun K hK => ?_)
       go_simp
       refine (rMinus_ok n5 m5 wwn wwm A5 B5 wwA wwB k5 c5 j5 d5 wwk wwc wwj wwd _ _ Zww.drew (hf5.below hr9) (wwf.out.below hr9) sc3 sc4).mono ?_
       rintro e w5 ⟨hb5, n6, A6, k6, c6, m6, B6, j6, d6, rfl, hf6⟩
       have hr10 := hr9.trans (hb5.mono hr9.size)
       refine hK.out _ _ (fun _ => hSv9.out _ hr10) ?_
       clear hK K
       try simp only [Act.put, List.setIfInBounds_toArray, List.set_cons_zero, List.set_cons_succ]
       refine wpAnyL_pure (i := 14) (v := ?v38) rfl (by kernel_rfl) (by kernel_rfl) (by kernel_rfl) (by kernel_rfl) (Or.inl ⟨by kernel_rfl, ?hy38⟩) (fun _ => (hSv9.out _ hr10)) ?rest38
       case hy38 => (intro W2 _; go_simp; try with_reducible rfl)
       try simp only [Act.put, List.setIfInBounds_toArray, List.set_cons_zero, List.set_cons_succ, List.getElem_toArray, List.getElem_cons_succ, List.getElem_cons_zero]
       refine wpAnyL_pure (i := 15) (v := ?v39) rfl (by kernel_rfl) (by kernel_rfl) (by kernel_rfl) (by kernel_rfl) (Or.inl ⟨by kernel_rfl, ?hy39⟩) (fun _ => (hSv9.out _ hr10)) ?rest39
       case hy39 => (intro W2 _; go_simp; try with_reducible rfl)
       try simp only [Act.put, List.setIfInBounds_toArray, List.set_cons_zero, List.set_cons_succ, List.getElem_toArray, List.getElem_cons_succ, List.getElem_cons_zero]
       refine wpAnyL_pure (i := 16) (v := ?v40) rfl (by kernel_rfl) (by kernel_rfl) (by kernel_rfl) (by kernel_rfl) (Or.inl ⟨by kernel_rfl, ?hy40⟩) (fun _ => (hSv9.out _ hr10)) ?rest40
       case hy40 => (intro W2 _; go_simp; try with_reducible rfl)
       try simp only [Act.put, List.setIfInBounds_toArray, List.set_cons_zero, List.set_cons_succ, List.getElem_toArray, List.getElem_cons_succ, List.getElem_cons_zero]
       refine wpAnyL_pure (i := 17) (v := ?v41) rfl (by kernel_rfl) (by kernel_rfl) (by kernel_rfl) (by kernel_rfl) (Or.inl ⟨by kernel_rfl, ?hy41⟩) (fun _ => (hSv9.out _ hr10)) ?rest41
       case hy41 => (intro W2 _; go_simp; try with_reducible rfl)
       try simp only [Act.put, List.setIfInBounds_toArray, List.set_cons_zero, List.set_cons_succ, List.getElem_toArray, List.getElem_cons_succ, List.getElem_cons_zero]
       have hb5' : Below Zww.heap.size Zww w5 := below_drewL hb5
       have hM5 := hM4.out.below hb5'
       obtain ⟨Z9, hZ9⟩ : ∃ W, setF w5 ri.g j n6 A6 k6 c6 m6 B6 j6 d6 = W := ⟨_, rfl⟩
       have hZ9' := hZ9
       unfold setF at hZ9'
       have hK9 : Hid (Kept (fun g => g ∈ L.map RF.g) Zbb Z9) := hide (by rw [← hZ9]; exact setF_kept (hK4.out.below hb5') (.inl hgi.out))
       have hM9 : Hid (MatB 40 45 Z9 go (L2.set i ⟨ri.g, ri.c, q3.set j ((rowQ L i)[j]?.getD 0 - by_ * (rowQ L r)[j]?.getD 0)⟩)) := hide (by
        have h1 := hM5.set_ (i := i) (r := ⟨ri.g, ri.c, q3⟩) (by rw [List.getElem?_set, if_pos rfl, if_pos (by rw [hl2.out]; exact hin)]) (k := j) (by rw [show RF.q ⟨ri.g, ri.c, q3⟩ = q3 from rfl, hl3.out]; exact hjm) hf6
        rw [List.set_set] at h1
        rw [← hZ9]; exact h1)
       have f0 := keep_frozen hb5' u0' v0
       have f1 := keep_frozen hb5' u1' v1
       have f2 := keep_frozen hb5' u2' v2
       have f3 := keep_frozen hb5' u3' v3
       have g0 := keep_cell hb5' u0'
       have g1 := keep_cell hb5' u1'
       have g2 := keep_cell hb5' u2'
       have g3 := keep_cell hb5' u3'
       clear hM5 hZ9
       refine wpAnyL_late (i := 18) rfl (by kernel_rfl) (by kernel_rfl) (fun K hK => ?_)
       go_simp
       (try rw [hZ9'])
       refine hK.out _ _ ?_
       clear hK K
       try simp only [Act.put, List.setIfInBounds_toArray, List.set_cons_zero, List.set_cons_succ]
       refine wpAnyL_done (by kernel_rfl) ?_ _
       refine OnlyNormal.normal ?_
       clear hZ9' f0 f1 f2 f3 g0 g1 g2 g3 hb5 hb5' hr9 hr10 hSv9 hxs9 u0' u1' u2' u3' y0 y1 y2 y3 v0 v1 v2 v3 hf6 hf5 hM4 hK4 c0'
       go_wp2_with fail
       go_roundg (m - (j + 1))
       case measure => omega
       case rel => exact ⟨j + 1, _, by omega, by go_num, by omega, hM9.out, hide (by rw [List.length_set]; exact hl3.out), hide (row_step (by rw [hl3.out, hmQ.out i hin]) hcj (by rw [hmQ.out i hin]; exact hjm) rfl hq3.out), hK9.out⟩
end Go.Proofs.YtigdclhagmnopaaGreat
