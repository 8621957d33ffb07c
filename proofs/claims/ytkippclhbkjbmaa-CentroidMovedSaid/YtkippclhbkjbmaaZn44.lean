/- Package centroid: ends. -/
import Derived.Test.YtkippclhbkjbmaaZn43
import Derived.Test.YtkippclhbkjbmaaZn27
set_option linter.unusedSimpArgs false
set_option linter.unusedVariables false

namespace Go.Proofs.Ytkippclhbkjbmaa
open Go.RowKit
attribute [local go_sem] add_lit

set_option maxRecDepth 100000 in
set_option maxHeartbeats 2000000 in
theorem ends1_ok (gc g4 : Nat) (t t4 : TypeId) (na nb na' nb' : Bool) (A B A' B' : Option Addr) (n c m d n' c' m' d' : Nat) (a b : Rat) (w : World) (hq : Blk w gc t #[.int .i64 0]) (h4 : Blk w g4 t4 #[.pointer (some ⟨gc, 0, none⟩)]) (ha : Fr w na A n c nb B m d a) (hb : Fr w na' A' n' c' nb' B' m' d' b) (sa : Sm a) (sb : Sm b) :
    Calls Try.prog 41 #[.agg #[.bool na, .slice A n c, .bool nb, .slice B m d], .agg #[.bool na', .slice A' n' c', .bool nb', .slice B' m' d'], .pointer (some ⟨g4, 0, none⟩)] w fun e w' => e = .returned (.int .i64 (cmpQ b a)) ∧ Below w.heap.size w w' := by
  obtain ⟨W0, hW0, hB, ⟨qx, qy⟩, sz⟩ := alloc2 w 29 #[.bool na, .slice A n c, .bool nb, .slice B m d] 29 #[.bool na', .slice A' n' c', .bool nb', .slice B' m' d']
  replace hq := keep_blk hB hq
  replace h4 := keep_blk hB h4
  replace ha := hide (ha.below hB)
  replace hb := hide (hb.below hB)
  obtain ⟨a0, a1, a2, a3, -⟩ := qx.four
  obtain ⟨b0, b1, b2, b3, -⟩ := qy.four
  have p0 := h4.cell 0
  simp at p0
  go_enter Try.func41, Try.ntmps41
  go_wp2_with fail
  refine (compare_ok gc t na' nb' na nb A' B' A B n' c' m' d' n c m d b a W0 hq hb.out ha.out sb sa).mono ?_
  rintro e w1 ⟨rfl, hb1⟩
  replace hB := hB.trans (hb1.mono hB.size)
  go_wp2_with fail
  go_ret
  exact ⟨rfl, hB⟩

theorem FL.at_ {w : World} {A : Option Addr} {n c : Nat} {qs : List Rat} (h : FL w A n c qs) {k : Nat} (hk : k < n) : ∃ g o na A' n' c' nb B' m' d', A = some ⟨g, o, none⟩ ∧ w.cell? ⟨g, o + k * 4, none⟩ = some (.bool na) ∧ w.cell? ⟨g, o + k * 4 + 1, none⟩ = some (.slice A' n' c') ∧ w.cell? ⟨g, o + k * 4 + 2, none⟩ = some (.bool nb) ∧ w.cell? ⟨g, o + k * 4 + 3, none⟩ = some (.slice B' m' d') ∧ Fr w na A' n' c' nb B' m' d' (qs[k]?.getD 0) := by
  obtain ⟨es, e1, e2, e3, e4, e5, e6⟩ := h
  obtain ⟨g, o, rfl, hc⟩ := e6 (by omega)
  obtain ⟨x, hx⟩ : ∃ x, es[k]? = some x := ⟨_, List.getElem?_eq_getElem (by omega)⟩
  obtain ⟨p0, p1, p2, p3⟩ := hc k x hx
  rw [← Nat.add_assoc] at p1 p2 p3
  have hxq : qs[k]?.getD 0 = x.q := by rw [← e5, List.getElem?_map, hx]; rfl
  exact ⟨g, o, _, _, _, _, _, _, _, _, rfl, p0, p1, p2, p3, by rw [hxq]; exact e4 x (List.mem_of_getElem? hx)⟩
theorem OwnF.step {t : TypeId} {w W : World} {base g : Nat} {v : Value} {qs : List Rat} (h : OwnF t w base v qs) (hst : StepN w W g) (hg : g < base) : OwnF t W base v qs := by
  obtain ⟨es, h1, h2, h3⟩ := h
  refine ⟨es, ?_, fun e he => (h2 e he).keep hst.1, h3⟩
  rcases h1 with h1 | ⟨g', sp, r1, r4, r5, r6⟩
  · exact .inl h1
  · exact .inr ⟨g', sp, r1, r4, r5, hst.2.1 _ _ _ (by omega) r6⟩
theorem OwnF.fl2 {t : TypeId} {w : World} {base n c : Nat} {A : Option Addr} {qs : List Rat} (h : OwnF t w base (.slice A n c) qs) : FL w A n c qs := by
  obtain ⟨A', c', he, hF⟩ := h.fl
  injection he with e1 e2 e3
  subst e1 e2 e3
  exact hF
theorem FL.cap {w : World} {A : Option Addr} {n c : Nat} {qs : List Rat} (h : FL w A n c qs) : n ≤ c := by
  obtain ⟨es, e1, e2, e3⟩ := h
  exact e2
theorem FL.tail {w : World} {g o n c : Nat} {qs : List Rat} (h : FL w (some ⟨g, o, none⟩) (n + 1) c qs) : FL w (some ⟨g, o + 4, none⟩) n (c - 1) qs.tail := by
  obtain ⟨es, e1, e2, e3, e4, e5, e6⟩ := h
  obtain ⟨x, l, rfl⟩ : ∃ x l, es = x :: l := by
    cases es with
    | nil => simp at e1
    | cons x l => exact ⟨x, l, rfl⟩
  refine ⟨l, by simpa using e1, by omega, by omega, fun e he => e4 e (List.mem_cons_of_mem _ he), by rw [← e5]; rfl, fun hn => ⟨g, o + 4, rfl, fun k e hk => ?_⟩⟩
  obtain ⟨g', o', he, hc⟩ := e6 (by omega)
  have hgo : g' = g ∧ o' = o := by injection he with he; injection he with h1 h2; exact ⟨h1.symm, h2.symm⟩
  obtain ⟨rfl, rfl⟩ := hgo
  have := hc (k + 1) e (by simpa using hk)
  rw [show o' + 4 + k * 4 = o' + (k + 1) * 4 by omega, show o' + 4 + (k * 4 + 1) = o' + ((k + 1) * 4 + 1) by omega, show o' + 4 + (k * 4 + 2) = o' + ((k + 1) * 4 + 2) by omega, show o' + 4 + (k * 4 + 3) = o' + ((k + 1) * 4 + 3) by omega]
  exact this

/-- The tilted means. -/
def tqs (u : Int → Int) (ps l : List Int) (off : Int) : List Rat := (List.range 101).map fun f => tq u ps l (f : Nat) off
def leastQ (u : Int → Int) (ps l : List Int) (off : Int) : Rat := firstQ cmpQ (tqs u ps l (-off)).tail ((tqs u ps l (-off))[0]?.getD 0) 100
def mostQ (u : Int → Int) (ps l : List Int) (off : Int) : Rat := firstQ (fun a b => cmpQ b a) (tqs u ps l off).tail ((tqs u ps l off)[0]?.getD 0) 100
theorem tqs_get (u : Int → Int) (ps l : List Int) (off : Int) {k : Nat} (hk : k < 101) : (tqs u ps l off)[k]?.getD 0 = tq u ps l (k : Nat) off := by
  unfold tqs
  rw [List.getElem?_map, List.getElem?_range hk]
  rfl
theorem tqs_tail (u : Int → Int) (ps l : List Int) (off : Int) {k : Nat} (hk : k < 100) : (tqs u ps l off).tail[k]?.getD 0 = tq u ps l ((k + 1 : Nat) : Int) off := by
  rw [List.getElem?_tail, tqs_get u ps l off (by omega)]
theorem tqs_length (u : Int → Int) (ps l : List Int) (off : Int) : (tqs u ps l off).length = 101 := by simp [tqs]


set_option maxRecDepth 100000 in
set_option maxHeartbeats 4000000 in
theorem ends_ok (gc : Nat) (t : TypeId) (fn : FuncId) (pre post : Array Value) (u : Int → Int) (W H : Int) (A : Option Addr) (n c : Nat) (B : Option Addr) (m d : Nat) (ps l : List Int) (off : Int) (w : World) (hq : Blk w gc t #[.int .i64 0]) (hp : LimI w A n c ps) (hl : LimI w B m d l) (h9 : n ≤ 10000) (h8 : m ≤ 40) (hr : Rng ps l n m)
    (hu : ∀ j, j < m → 0 ≤ u (l[j]?.getD 0) ∧ u (l[j]?.getD 0) ≤ 99) (ho : off.natAbs ≤ 4294967296) (hD : ∀ f : Nat, f < 101 → 0 < tden u ps l f off m) (hD' : ∀ f : Nat, f < 101 → 0 < tden u ps l f (-off) m) (hsq : ∀ f : Nat, f < 101 → Sm (tq u ps l f off)) (hsq' : ∀ f : Nat, f < 101 → Sm (tq u ps l f (-off)))
    (hcf : ∀ (x : Value) (W : World), (callFunc fn (pre.push x ++ post)).run Try.prog W = .ok (.enter fn (pre.push x ++ post)) W)
    (hcall : ∀ (j : Nat) (W : World), j < m → Calls Try.prog fn (pre.push (.int .i64 (l[j]?.getD 0)) ++ post) W fun e w' => e = .returned (.int .i64 (u (l[j]?.getD 0))) ∧ Below W.heap.size W w') :
    Calls Try.prog 23 #[.pointer (some ⟨gc, 0, none⟩), .agg #[.int .i64 W, .int .i64 H, .slice A n c, .slice B m d], .func (.func fn) pre post, .int .i64 off] w fun e w' => Below w.heap.size w w' ∧ ∃ na1 A1 n1 c1 nb1 B1 m1 d1 na2 A2 n2 c2 nb2 B2 m2 d2, e = .returned (.tuple #[.agg #[.bool na1, .slice A1 n1 c1, .bool nb1, .slice B1 m1 d1], .agg #[.bool na2, .slice A2 n2 c2, .bool nb2, .slice B2 m2 d2]]) ∧ Fr w' na1 A1 n1 c1 nb1 B1 m1 d1 (leastQ u ps l off) ∧ Fr w' na2 A2 n2 c2 nb2 B2 m2 d2 (mostQ u ps l off) := by
  have hmx : Try.prog.follows .mixedOrders = true := by kernel_rfl
  have hgc : gc < w.heap.size := (Array.getElem?_eq_some_iff.1 hq).1
  obtain ⟨W0, hW0, hB, ⟨q4, q5, q8, q9⟩, sz⟩ := alloc4 w 80 #[.pointer (some ⟨gc, 0, none⟩)] 53 #[.int .i64 W, .int .i64 H, .slice A n c, .slice B m d] 29 #[.bool false, .slice none 0 0, .bool false, .slice none 0 0] 29 #[.bool false, .slice none 0 0, .bool false, .slice none 0 0]
  replace hq := keep_blk hB hq
  replace hp := hide (hp.below hB)
  replace hl := hide (hl.below hB)
  replace hr := hide hr
  replace hu := hide hu
  replace hD := hide hD
  replace hD' := hide hD'
  replace hsq := hide hsq
  replace hsq' := hide hsq'
  have hcf' := hide hcf
  clear hcf
  replace hcall := hide hcall
  have hneg : IntKind.i64.wrap (-off) = -off := by rw [IntKind.wrap_i64]; omega
  go_enter Try.func23, Try.ntmps23
  go_wp2_with fail
  clear hW0
  have hS : ∀ wx, Below W0.heap.size W0 wx → wx.cell? ⟨w.heap.size, 0, none⟩ = some (.pointer (some ⟨gc, 0, none⟩)) ∧ wx.cell? ⟨w.heap.size + 1, 0, none⟩ = some (.int .i64 W) ∧ wx.cell? ⟨w.heap.size + 1, 1, none⟩ = some (.int .i64 H) ∧ wx.cell? ⟨w.heap.size + 1, 2, none⟩ = some (.slice A n c) ∧ wx.cell? ⟨w.heap.size + 1, 3, none⟩ = some (.slice B m d) := fun wx hbx => by
    have p0 := (keep_blk hbx q4).cell 0
    simp at p0
    obtain ⟨s0, s1, s2, s3, -⟩ := (keep_blk hbx q5).four
    exact ⟨p0, s0, s1, s2, s3⟩
  refine wp_held [] (fun wx => wx.cell? ⟨w.heap.size, 0, none⟩ = some (.pointer (some ⟨gc, 0, none⟩)) ∧ wx.cell? ⟨w.heap.size + 1, 0, none⟩ = some (.int .i64 W) ∧ wx.cell? ⟨w.heap.size + 1, 1, none⟩ = some (.int .i64 H) ∧ wx.cell? ⟨w.heap.size + 1, 2, none⟩ = some (.slice A n c) ∧ wx.cell? ⟨w.heap.size + 1, 3, none⟩ = some (.slice B m d)) hmx (hS _ (below_dn (Below.refl _ _) 1)) (fun _ => ?_)
  have hb8 : Below W0.heap.size W0 W0.drew := below_dn (Below.refl _ _) 1
  refine wpAnyL_take (i := 0) (v := ?v1) rfl (by kernel_rfl) (by kernel_rfl) (by kernel_rfl) (by kernel_rfl) (by kernel_rfl) (Or.inl ⟨by rfl, ?hy1⟩) (hS _ hb8) ?rest1
  case hy1 => (intro W2 hSw; (try dsimp only at hSw); go_simp; try with_reducible rfl)
  try simp only [Act.put, List.setIfInBounds_toArray, List.set_cons_zero, List.set_cons_succ]
  refine wpAnyL_take (i := 1) (v := ?v2) rfl (by kernel_rfl) (by kernel_rfl) (by kernel_rfl) (by kernel_rfl) (by kernel_rfl) (Or.inl ⟨by rfl, ?hy2⟩) (hS _ hb8) ?rest2
  case hy2 => (intro W2 hSw; (try dsimp only at hSw); go_simp; try with_reducible rfl)
  try simp only [Act.put, List.setIfInBounds_toArray, List.set_cons_zero, List.set_cons_succ]
  refine wpAnyL_take (i := 2) (v := ?v3) rfl (by kernel_rfl) (by kernel_rfl) (by kernel_rfl) (by kernel_rfl) (by kernel_rfl) (Or.inl ⟨by rfl, ?hy3⟩) (hS _ hb8) ?rest3
  case hy3 => (intro W2 hSw; (try dsimp only at hSw); go_simp; try with_reducible rfl)
  try simp only [Act.put, List.setIfInBounds_toArray, List.set_cons_zero, List.set_cons_succ]
  refine wpAnyL_take (i := 3) (v := ?v4) rfl (by kernel_rfl) (by kernel_rfl) (by kernel_rfl) (by kernel_rfl) (by kernel_rfl) (Or.inl ⟨by rfl, ?hy4⟩) (hS _ hb8) ?rest4
  case hy4 => (intro W2 hSw; (try dsimp only at hSw); go_simp; try with_reducible rfl)
  try simp only [Act.put, List.setIfInBounds_toArray, List.set_cons_zero, List.set_cons_succ]
  refine wpAnyL_take (i := 4) (v := ?v5) rfl (by kernel_rfl) (by kernel_rfl) (by kernel_rfl) (by kernel_rfl) (by kernel_rfl) (Or.inl ⟨by rfl, ?hy5⟩) (hS _ hb8) ?rest5
  case hy5 => (intro W2 hSw; (try dsimp only at hSw); go_simp; try with_reducible rfl)
  try simp only [Act.put, List.setIfInBounds_toArray, List.set_cons_zero, List.set_cons_succ]
  refine wpAnyL_take (i := 6) (v := ?v6) rfl (by kernel_rfl) (by kernel_rfl) (by kernel_rfl) (by kernel_rfl) (by kernel_rfl) (Or.inl ⟨by rfl, ?hy6⟩) (hS _ hb8) ?rest6
  case hy6 => (intro W2 hSw; (try dsimp only at hSw); go_simp; try with_reducible rfl)
  try simp only [Act.put, List.setIfInBounds_toArray, List.set_cons_zero, List.set_cons_succ]
  refine wpAnyL_take (i := 7) (v := ?v7) rfl (by kernel_rfl) (by kernel_rfl) (by kernel_rfl) (by kernel_rfl) (by kernel_rfl) (Or.inl ⟨by rfl, ?hy7⟩) (hS _ hb8) ?rest7
  case hy7 => (intro W2 hSw; (try dsimp only at hSw); go_simp; try with_reducible rfl)
  try simp only [Act.put, List.setIfInBounds_toArray, List.set_cons_zero, List.set_cons_succ]
  refine wpAnyL_take (i := 8) (v := ?v8) rfl (by kernel_rfl) (by kernel_rfl) (by kernel_rfl) (by kernel_rfl) (by kernel_rfl) (Or.inl ⟨by rfl, ?hy8⟩) (hS _ hb8) ?rest8
  case hy8 => (intro W2 hSw; (try dsimp only at hSw); go_simp; try with_reducible rfl)
  try simp only [Act.put, List.setIfInBounds_toArray, List.set_cons_zero, List.set_cons_succ]
  refine wpAnyL_take (i := 9) (v := ?v9) rfl (by kernel_rfl) (by kernel_rfl) (by kernel_rfl) (by kernel_rfl) (by kernel_rfl) (Or.inl ⟨by rfl, ?hy9⟩) (hS _ hb8) ?rest9
  case hy9 => (intro W2 hSw; (try dsimp only at hSw); go_simp; try with_reducible rfl)
  try simp only [Act.put, List.setIfInBounds_toArray, List.set_cons_zero, List.set_cons_succ]
  refine wpAnyL_one (i := 5) rfl (by kernel_rfl) (fun K hK => ?_)
  have hq1 := keep_blk hb8 hq
  go_simp
  (try rw [hneg])
  refine (tilted_ok gc t fn pre post u W H A n c B m d ps l (-off) W0.drew hq1 (hp.out.below hb8) (hl.out.below hb8) h9 h8 hr.out hu.out (by omega) hD'.out hcf'.out hcall.out).mono ?_
  rintro e w1 ⟨vd, rfl, hOd, hbd⟩
  replace hb8 := hb8.trans (hbd.mono hb8.size)
  replace hOd := hide hOd
  have hsz1 := hb8.size
  clear hq1
  refine hK.out _ _ (fun _ => hS _ hb8) ?_
  clear hK K
  try simp only [Act.put, List.setIfInBounds_toArray, List.set_cons_zero, List.set_cons_succ]
  refine wpAnyL_one (i := 10) rfl (by kernel_rfl) (fun K hK => ?_)
  have hq1 := keep_blk hb8 hq
  go_simp
  refine (tilted_ok gc t fn pre post u W H A n c B m d ps l off w1 hq1 (hp.out.below hb8) (hl.out.below hb8) h9 h8 hr.out hu.out ho hD.out hcf'.out hcall.out).mono ?_
  rintro e w2 ⟨vu, rfl, hOu, hbu⟩
  replace hb8 := hb8.trans (hbu.mono hb8.size)
  replace hOu := hide hOu
  replace hOd := hide (hOd.out.kept hbu)
  clear hq1
  refine hK.out _ _ (fun _ => hS _ hb8) ?_
  clear hK K
  try simp only [Act.put, List.setIfInBounds_toArray, List.set_cons_zero, List.set_cons_succ]
  refine wpAnyL_take (i := 11) (v := ?v10) rfl (by kernel_rfl) (by kernel_rfl) (by kernel_rfl) (by kernel_rfl) (by kernel_rfl) (Or.inl ⟨by rfl, ?hy10⟩) (hS _ hb8) ?rest10
  case hy10 => (intro W2 hSw; (try dsimp only at hSw); go_simp; try with_reducible rfl)
  try simp only [Act.put, List.setIfInBounds_toArray, List.set_cons_zero, List.set_cons_succ]
  refine wpAnyL_take (i := 12) (v := ?v11) rfl (by kernel_rfl) (by kernel_rfl) (by kernel_rfl) (by kernel_rfl) (by kernel_rfl) (Or.inl ⟨by rfl, ?hy11⟩) (hS _ hb8) ?rest11
  case hy11 => (intro W2 hSw; (try dsimp only at hSw); go_simp; try with_reducible rfl)
  try simp only [Act.put, List.setIfInBounds_toArray, List.set_cons_zero, List.set_cons_succ]
  refine wpAnyL_done (by kernel_rfl) ?_ _
  refine OnlyNormal.normal ?_
  try simp only [Act.put, List.setIfInBounds_toArray, List.set_cons_zero, List.set_cons_succ, List.getElem_toArray, List.getElem_cons_succ, List.getElem_cons_zero]
  go_simp
  obtain ⟨Ad, cd, rfl, hFd⟩ := hOd.out.fl
  obtain ⟨Au, cu, rfl, hFu⟩ := hOu.out.fl
  simp only [List.length_map, List.length_range] at hFd hFu
  simp only [List.length_map, List.length_range]
  clear hOd
  obtain ⟨gd, od, n1, A1, k1, c1, m1, B1, j1, d1, rfl, x0, x1, x2, x3, hxF⟩ := hFd.at_ (k := 0) (by omega)
  have hTd := hFd.tail
  have hcd1 : ¬ cd = 1 := by have := hFd.cap; omega
  have hcu1 : ¬ cu = 1 := by have := hFu.cap; omega
  simp only [Nat.zero_mul, Nat.add_zero] at x0 x1 x2 x3
  replace hTd := hide hTd
  replace hFu := hide hFu
  replace hxF := hide hxF
  have hcmp1 : ∀ (x y : Value) (W : World), (callFunc 25 (#[Value.pointer (some ⟨gc, 0, none⟩)] ++ (#[x, y] ++ #[]))).run Try.prog W = .ok (.enter 25 (#[Value.pointer (some ⟨gc, 0, none⟩)] ++ (#[x, y] ++ #[]))) W := fun x y W => by simp [go_sem]
  have hcmp2 : ∀ (x y : Value) (W : World), (callFunc 41 (#[] ++ (#[x, y] ++ #[Value.pointer (some ⟨w.heap.size, 0, none⟩)]))).run Try.prog W = .ok (.enter 41 (#[] ++ (#[x, y] ++ #[Value.pointer (some ⟨w.heap.size, 0, none⟩)]))) W := fun x y W => by simp [go_sem]
  replace hcmp1 := hide hcmp1
  replace hcmp2 := hide hcmp2
  go_wp2_with fail
  have hS2 : ∀ wx, Below w2.heap.size w2 wx → (wx.cell? ⟨w.heap.size, 0, none⟩ = some (.pointer (some ⟨gc, 0, none⟩))) ∧ wx.cell? ⟨gd, od, none⟩ = some (.bool n1) ∧ wx.cell? ⟨gd, od + 1, none⟩ = some (.slice A1 k1 c1) ∧ wx.cell? ⟨gd, od + 2, none⟩ = some (.bool m1) ∧ wx.cell? ⟨gd, od + 3, none⟩ = some (.slice B1 j1 d1) := fun wx hbx => by
    have p0 := (keep_blk (hb8.trans (hbx.mono hb8.size)) q4).cell 0
    simp at p0
    exact ⟨p0, (hbx.cell (lt_of_cell x0)).trans x0, (hbx.cell (lt_of_cell x1)).trans x1, (hbx.cell (lt_of_cell x2)).trans x2, (hbx.cell (lt_of_cell x3)).trans x3⟩
  refine wp_held [8] (fun wx => (wx.cell? ⟨w.heap.size, 0, none⟩ = some (.pointer (some ⟨gc, 0, none⟩))) ∧ wx.cell? ⟨gd, od, none⟩ = some (.bool n1) ∧ wx.cell? ⟨gd, od + 1, none⟩ = some (.slice A1 k1 c1) ∧ wx.cell? ⟨gd, od + 2, none⟩ = some (.bool m1) ∧ wx.cell? ⟨gd, od + 3, none⟩ = some (.slice B1 j1 d1)) hmx (hS2 _ (below_dn (Below.refl _ _) 1)) (fun _ => ?_)
  have hb9 : Below w2.heap.size w2 w2.drew := below_dn (Below.refl _ _) 1
  refine wpAnyL_take (i := 0) (v := ?v12) rfl (by kernel_rfl) (by kernel_rfl) (by kernel_rfl) (by kernel_rfl) (by kernel_rfl) (Or.inl ⟨by rfl, ?hy12⟩) (hS2 _ hb9) ?rest12
  case hy12 => (intro W2 hSw; (try dsimp only at hSw); go_simp; try with_reducible rfl)
  try simp only [Act.put, List.setIfInBounds_toArray, List.set_cons_zero, List.set_cons_succ]
  refine wpAnyL_take (i := 1) (v := ?v13) rfl (by kernel_rfl) (by kernel_rfl) (by kernel_rfl) (by kernel_rfl) (by kernel_rfl) (Or.inl ⟨by rfl, ?hy13⟩) (hS2 _ hb9) ?rest13
  case hy13 => (intro W2 hSw; (try dsimp only at hSw); go_simp; try with_reducible rfl)
  try simp only [Act.put, List.setIfInBounds_toArray, List.set_cons_zero, List.set_cons_succ]
  refine wpAnyL_take (i := 2) (v := ?v14) rfl (by kernel_rfl) (by kernel_rfl) (by kernel_rfl) (by kernel_rfl) (by kernel_rfl) (Or.inl ⟨by rfl, ?hy14⟩) (hS2 _ hb9) ?rest14
  case hy14 => (intro W2 hSw; (try dsimp only at hSw); go_simp; try with_reducible rfl)
  try simp only [Act.put, List.setIfInBounds_toArray, List.set_cons_zero, List.set_cons_succ]
  refine wpAnyL_take (i := 3) (v := ?v15) rfl (by kernel_rfl) (by kernel_rfl) (by kernel_rfl) (by kernel_rfl) (by kernel_rfl) (Or.inl ⟨by rfl, ?hy15⟩) (hS2 _ hb9) ?rest15
  case hy15 => (intro W2 hSw; (try dsimp only at hSw); go_simp; try with_reducible rfl)
  try simp only [Act.put, List.setIfInBounds_toArray, List.set_cons_zero, List.set_cons_succ]
  refine wpAnyL_take (i := 4) (v := ?v16) rfl (by kernel_rfl) (by kernel_rfl) (by kernel_rfl) (by kernel_rfl) (by kernel_rfl) (Or.inl ⟨by rfl, ?hy16⟩) (hS2 _ hb9) ?rest16
  case hy16 => (intro W2 hSw; (try dsimp only at hSw); go_simp; try with_reducible rfl)
  try simp only [Act.put, List.setIfInBounds_toArray, List.set_cons_zero, List.set_cons_succ]
  refine wpAnyL_take (i := 5) (v := ?v17) rfl (by kernel_rfl) (by kernel_rfl) (by kernel_rfl) (by kernel_rfl) (by kernel_rfl) (Or.inl ⟨by rfl, ?hy17⟩) (hS2 _ hb9) ?rest17
  case hy17 => (intro W2 hSw; (try dsimp only at hSw); go_simp; try with_reducible rfl)
  try simp only [Act.put, List.setIfInBounds_toArray, List.set_cons_zero, List.set_cons_succ]
  refine wpAnyL_take (i := 6) (v := ?v18) rfl (by kernel_rfl) (by kernel_rfl) (by kernel_rfl) (by kernel_rfl) (by kernel_rfl) (Or.inl ⟨by rfl, ?hy18⟩) (hS2 _ hb9) ?rest18
  case hy18 => (intro W2 hSw; (try dsimp only at hSw); go_simp; try with_reducible rfl)
  try simp only [Act.put, List.setIfInBounds_toArray, List.set_cons_zero, List.set_cons_succ]
  refine wpAnyL_one (i := 7) rfl (by kernel_rfl) (fun K hK => ?_)
  go_simp
  (try rw [if_neg hcd1])
  have hw2 : Blk w2.drew gc t #[.int .i64 0] := keep_blk (hb8.trans (hb9.mono hb8.size)) hq
  refine (first_ok 25 #[.pointer (some ⟨gc, 0, none⟩)] #[] cmpQ (fun W => Blk W gc t #[.int .i64 0]) (fun _ _ h hb => keep_blk hb h) hcmp1.out (fun na nb na' nb' A B A' B' n c m d n' c' m' d' a b W hI ha hb sa sb => by simpa using compare_ok gc t na nb na' nb' A B A' B' n c m d n' c' m' d' a b W hI ha hb sa sb) n1 m1 A1 B1 k1 c1 j1 d1 _ _ 100 _ _ w2.drew hw2 (hxF.out.below hb9) (hTd.out.below hb9) ?_ ?_ (by omega)).mono ?_
  case refine_2 => exact fun j hj => by have := hsq'.out (j + 1) (by omega); rw [← tqs_tail u ps l (-off) hj] at this; exact this
  case refine_1 => exact by have := hsq'.out 0 (by omega); rw [← tqs_get u ps l (-off) (by omega)] at this; exact this
  rintro e w5 ⟨hb5, na1, A2, n2, c2, nb1, B2, m2, d2, rfl, hL⟩
  replace hL : Hid (Fr w5 na1 A2 n2 c2 nb1 B2 m2 d2 (leastQ u ps l off)) := hide hL
  replace hb9 := hb9.trans (hb5.mono hb9.size)
  refine hK.out _ _ (fun _ => hS2 _ hb9) ?_
  clear hK K
  try simp only [Act.put, List.setIfInBounds_toArray, List.set_cons_zero, List.set_cons_succ]
  have hb05 := hb8.trans (hb9.mono hb8.size)
  have q8c := keep_blk hb05 q8
  obtain ⟨y0, y1, y2, y3, z0, z1, z2, z3⟩ := q8c.four
  have hB5 := hB.trans (hb05.mono hB.size)
  obtain ⟨V, hV, hBV, q8v, hst⟩ := set_frac na1 A2 n2 c2 nb1 B2 m2 d2 hB5 (by omega) q8c
  have q4v := hst.2.1 _ _ _ (by omega) (keep_blk hb05 q4)
  have q9v := hst.2.1 _ _ _ (by omega) (keep_blk hb05 q9)
  have hqv := hst.2.1 _ _ _ (by omega) (keep_blk hb05 hq)
  have hOv := hide ((hOu.out.kept hb9).step hst (by omega))
  replace hL := hide (hL.out.keep hst.1)
  refine wpAnyL_late (i := 8) rfl (by kernel_rfl) (by kernel_rfl) (fun K hK => ?_)
  go_simp
  (try rw [hV])
  refine hK.out _ _ ?_
  clear hK K
  try simp only [Act.put, List.setIfInBounds_toArray, List.set_cons_zero, List.set_cons_succ]
  refine wpAnyL_done (by kernel_rfl) ?_ _
  refine OnlyNormal.normal ?_
  try simp only [Act.put, List.setIfInBounds_toArray, List.set_cons_zero, List.set_cons_succ, List.getElem_toArray, List.getElem_cons_succ, List.getElem_cons_zero]
  go_simp
  clear hS2 x0 x1 x2 x3 y0 y1 y2 y3 z0 z1 z2 z3 hV q8c hb05 hb9 hb8 hOu hFu hTd hxF hS q4 q5 q8 q9 hq hp hl hB hst
  have hFu := hOv.out.fl2
  simp only [List.length_map, List.length_range] at hFu
  obtain ⟨gu, ou, n3, A3, k3, c3, m3, B3, j3, d3, rfl, x0, x1, x2, x3, hxF⟩ := hFu.at_ (k := 0) (by omega)
  have hTu := hFu.tail
  simp only [Nat.zero_mul, Nat.add_zero] at x0 x1 x2 x3
  replace hTu := hide hTu
  replace hxF := hide hxF
  clear hFu
  go_wp2_with fail
  have hS3 : ∀ wx, Below V.heap.size V wx → (wx.cell? ⟨w.heap.size, 0, none⟩ = some (.pointer (some ⟨gc, 0, none⟩))) ∧ wx.cell? ⟨gu, ou, none⟩ = some (.bool n3) ∧ wx.cell? ⟨gu, ou + 1, none⟩ = some (.slice A3 k3 c3) ∧ wx.cell? ⟨gu, ou + 2, none⟩ = some (.bool m3) ∧ wx.cell? ⟨gu, ou + 3, none⟩ = some (.slice B3 j3 d3) := fun wx hbx => by
    have p0 := (keep_blk hbx q4v).cell 0
    simp at p0
    exact ⟨p0, (hbx.cell (lt_of_cell x0)).trans x0, (hbx.cell (lt_of_cell x1)).trans x1, (hbx.cell (lt_of_cell x2)).trans x2, (hbx.cell (lt_of_cell x3)).trans x3⟩
  refine wp_held [7] (fun wx => (wx.cell? ⟨w.heap.size, 0, none⟩ = some (.pointer (some ⟨gc, 0, none⟩))) ∧ wx.cell? ⟨gu, ou, none⟩ = some (.bool n3) ∧ wx.cell? ⟨gu, ou + 1, none⟩ = some (.slice A3 k3 c3) ∧ wx.cell? ⟨gu, ou + 2, none⟩ = some (.bool m3) ∧ wx.cell? ⟨gu, ou + 3, none⟩ = some (.slice B3 j3 d3)) hmx (hS3 _ (below_dn (Below.refl _ _) 1)) (fun _ => ?_)
  have hb9 : Below V.heap.size V V.drew := below_dn (Below.refl _ _) 1
  refine wpAnyL_take (i := 0) (v := ?v19) rfl (by kernel_rfl) (by kernel_rfl) (by kernel_rfl) (by kernel_rfl) (by kernel_rfl) (Or.inl ⟨by rfl, ?hy19⟩) (hS3 _ hb9) ?rest19
  case hy19 => (intro W2 hSw; (try dsimp only at hSw); go_simp; try with_reducible rfl)
  try simp only [Act.put, List.setIfInBounds_toArray, List.set_cons_zero, List.set_cons_succ]
  refine wpAnyL_take (i := 1) (v := ?v20) rfl (by kernel_rfl) (by kernel_rfl) (by kernel_rfl) (by kernel_rfl) (by kernel_rfl) (Or.inl ⟨by rfl, ?hy20⟩) (hS3 _ hb9) ?rest20
  case hy20 => (intro W2 hSw; (try dsimp only at hSw); go_simp; try with_reducible rfl)
  try simp only [Act.put, List.setIfInBounds_toArray, List.set_cons_zero, List.set_cons_succ]
  refine wpAnyL_take (i := 2) (v := ?v21) rfl (by kernel_rfl) (by kernel_rfl) (by kernel_rfl) (by kernel_rfl) (by kernel_rfl) (Or.inl ⟨by rfl, ?hy21⟩) (hS3 _ hb9) ?rest21
  case hy21 => (intro W2 hSw; (try dsimp only at hSw); go_simp; try with_reducible rfl)
  try simp only [Act.put, List.setIfInBounds_toArray, List.set_cons_zero, List.set_cons_succ]
  refine wpAnyL_take (i := 3) (v := ?v22) rfl (by kernel_rfl) (by kernel_rfl) (by kernel_rfl) (by kernel_rfl) (by kernel_rfl) (Or.inl ⟨by rfl, ?hy22⟩) (hS3 _ hb9) ?rest22
  case hy22 => (intro W2 hSw; (try dsimp only at hSw); go_simp; try with_reducible rfl)
  try simp only [Act.put, List.setIfInBounds_toArray, List.set_cons_zero, List.set_cons_succ]
  refine wpAnyL_take (i := 4) (v := ?v23) rfl (by kernel_rfl) (by kernel_rfl) (by kernel_rfl) (by kernel_rfl) (by kernel_rfl) (Or.inl ⟨by rfl, ?hy23⟩) (hS3 _ hb9) ?rest23
  case hy23 => (intro W2 hSw; (try dsimp only at hSw); go_simp; try with_reducible rfl)
  try simp only [Act.put, List.setIfInBounds_toArray, List.set_cons_zero, List.set_cons_succ]
  refine wpAnyL_take (i := 5) (v := ?v24) rfl (by kernel_rfl) (by kernel_rfl) (by kernel_rfl) (by kernel_rfl) (by kernel_rfl) (Or.inl ⟨by rfl, ?hy24⟩) (hS3 _ hb9) ?rest24
  case hy24 => (intro W2 hSw; (try dsimp only at hSw); go_simp; try with_reducible rfl)
  try simp only [Act.put, List.setIfInBounds_toArray, List.set_cons_zero, List.set_cons_succ]
  refine wpAnyL_one (i := 6) rfl (by kernel_rfl) (fun K hK => ?_)
  go_simp
  (try rw [if_neg hcu1])
  have hw3 : Blk V.drew gc t #[.int .i64 0] ∧ Blk V.drew w.heap.size 80 #[.pointer (some ⟨gc, 0, none⟩)] := ⟨keep_blk hb9 hqv, keep_blk hb9 q4v⟩
  refine (first_ok 41 #[] #[.pointer (some ⟨w.heap.size, 0, none⟩)] (fun a b => cmpQ b a) (fun W => Blk W gc t #[.int .i64 0] ∧ Blk W w.heap.size 80 #[.pointer (some ⟨gc, 0, none⟩)]) (fun _ _ h hb => ⟨keep_blk hb h.1, keep_blk hb h.2⟩) hcmp2.out (fun na nb na' nb' A B A' B' n c m d n' c' m' d' a b W hI ha hb sa sb => by simpa using ends1_ok gc w.heap.size t _ na nb na' nb' A B A' B' n c m d n' c' m' d' a b W hI.1 hI.2 ha hb sa sb) n3 m3 A3 B3 k3 c3 j3 d3 _ _ 100 _ _ V.drew hw3 (hxF.out.below hb9) (hTu.out.below hb9) ?_ ?_ (by omega)).mono ?_
  case refine_2 => exact fun j hj => by have := hsq.out (j + 1) (by omega); rw [← tqs_tail u ps l off hj] at this; exact this
  case refine_1 => exact by have := hsq.out 0 (by omega); rw [← tqs_get u ps l off (by omega)] at this; exact this
  rintro e w6 ⟨hb6, na3, A4, n4, c4, nb3, B4, m4, d4, rfl, hM⟩
  replace hM : Hid (Fr w6 na3 A4 n4 c4 nb3 B4 m4 d4 (mostQ u ps l off)) := hide hM
  replace hb9 := hb9.trans (hb6.mono hb9.size)
  refine hK.out _ _ (fun _ => hS3 _ hb9) ?_
  clear hK K
  try simp only [Act.put, List.setIfInBounds_toArray, List.set_cons_zero, List.set_cons_succ]
  have q9c := keep_blk hb9 q9v
  obtain ⟨y0, y1, y2, y3, z0, z1, z2, z3⟩ := q9c.four
  have hB6 := hBV.trans (hb9.mono hBV.size)
  obtain ⟨U, hU, hBU, q9u, hst⟩ := set_frac na3 A4 n4 c4 nb3 B4 m4 d4 hB6 (by omega) q9c
  have q8u := hst.2.1 _ _ _ (by omega) (keep_blk hb9 q8v)
  replace hL := hide ((hL.out.below hb9).keep hst.1)
  replace hM := hide (hM.out.keep hst.1)
  refine wpAnyL_late (i := 7) rfl (by kernel_rfl) (by kernel_rfl) (fun K hK => ?_)
  go_simp
  (try rw [hU])
  refine hK.out _ _ ?_
  clear hK K
  try simp only [Act.put, List.setIfInBounds_toArray, List.set_cons_zero, List.set_cons_succ]
  refine wpAnyL_done (by kernel_rfl) ?_ _
  refine OnlyNormal.normal ?_
  try simp only [Act.put, List.setIfInBounds_toArray, List.set_cons_zero, List.set_cons_succ, List.getElem_toArray, List.getElem_cons_succ, List.getElem_cons_zero]
  go_simp
  clear hS3 x0 x1 x2 x3 y0 y1 y2 y3 z0 z1 z2 z3 hU q9c hb9 hst hxF hTu hOv q4v q9v q8v hqv
  obtain ⟨a0, a1, a2, a3, fa0, fa1, fa2, fa3⟩ := q8u.four
  obtain ⟨b0, b1, b2, b3, fb0, fb1, fb2, fb3⟩ := q9u.four
  go_wp2_with fail
  refine wp_held [] (fun wx => (wx.cell? ⟨w.heap.size + 1 + 1, 0, none⟩ = some (.bool na1) ∧ wx.cell? ⟨w.heap.size + 1 + 1, 1, none⟩ = some (.slice A2 n2 c2) ∧ wx.cell? ⟨w.heap.size + 1 + 1, 2, none⟩ = some (.bool nb1) ∧ wx.cell? ⟨w.heap.size + 1 + 1, 3, none⟩ = some (.slice B2 m2 d2)) ∧ wx.cell? ⟨w.heap.size + 1 + 1 + 1, 0, none⟩ = some (.bool na3) ∧ wx.cell? ⟨w.heap.size + 1 + 1 + 1, 1, none⟩ = some (.slice A4 n4 c4) ∧ wx.cell? ⟨w.heap.size + 1 + 1 + 1, 2, none⟩ = some (.bool nb3) ∧ wx.cell? ⟨w.heap.size + 1 + 1 + 1, 3, none⟩ = some (.slice B4 m4 d4)) hmx ⟨⟨a0, a1, a2, a3⟩, b0, b1, b2, b3⟩ (fun _ => ?_)
  refine wpAnyL_take (i := 0) (v := ?v25) rfl (by kernel_rfl) (by kernel_rfl) (by kernel_rfl) (by kernel_rfl) (by kernel_rfl) (Or.inl ⟨by rfl, ?hy25⟩) ⟨⟨a0, a1, a2, a3⟩, b0, b1, b2, b3⟩ ?rest25
  case hy25 => (intro W2 hSw; (try dsimp only at hSw); go_simp; try with_reducible rfl)
  try simp only [Act.put, List.setIfInBounds_toArray, List.set_cons_zero, List.set_cons_succ]
  refine wpAnyL_take (i := 1) (v := ?v26) rfl (by kernel_rfl) (by kernel_rfl) (by kernel_rfl) (by kernel_rfl) (by kernel_rfl) (Or.inl ⟨by rfl, ?hy26⟩) ⟨⟨a0, a1, a2, a3⟩, b0, b1, b2, b3⟩ ?rest26
  case hy26 => (intro W2 hSw; (try dsimp only at hSw); go_simp; try with_reducible rfl)
  try simp only [Act.put, List.setIfInBounds_toArray, List.set_cons_zero, List.set_cons_succ]
  obtain ⟨X, hX, hBX, q8x, hst⟩ := set_frac na1 A2 n2 c2 nb1 B2 m2 d2 hBU (by omega) q8u
  have q9x := hst.2.1 _ _ _ (by omega) q9u
  replace hL := hide (hL.out.keep hst.1)
  replace hM := hide (hM.out.keep hst.1)
  refine wpAnyL_one (i := 2) rfl (by kernel_rfl) (fun K hK => ?_)
  go_simp
  (try rw [hX])
  clear a0 a1 a2 a3 b0 b1 b2 b3 fa0 fa1 fa2 fa3 fb0 fb1 fb2 fb3 hX hst
  obtain ⟨a0, a1, a2, a3, -⟩ := q8x.four
  obtain ⟨b0, b1, b2, b3, fb0, fb1, fb2, fb3⟩ := q9x.four
  refine hK.out _ _ (fun _ => ⟨⟨a0, a1, a2, a3⟩, b0, b1, b2, b3⟩) ?_
  clear hK K
  try simp only [Act.put, List.setIfInBounds_toArray, List.set_cons_zero, List.set_cons_succ]
  obtain ⟨Y, hY, hBY, q9y, hst⟩ := set_frac na3 A4 n4 c4 nb3 B4 m4 d4 hBX (by omega) q9x
  have q8y := hst.2.1 _ _ _ (by omega) q8x
  replace hL := hL.out.keep hst.1
  replace hM := hM.out.keep hst.1
  refine wpAnyL_one (i := 3) rfl (by kernel_rfl) (fun K hK => ?_)
  go_simp
  (try rw [hY])
  clear a0 a1 a2 a3 b0 b1 b2 b3 fb0 fb1 fb2 fb3 hY hst
  obtain ⟨a0, a1, a2, a3, -⟩ := q8y.four
  obtain ⟨b0, b1, b2, b3, -⟩ := q9y.four
  refine hK.out _ _ (fun _ => ⟨⟨a0, a1, a2, a3⟩, b0, b1, b2, b3⟩) ?_
  clear hK K
  try simp only [Act.put, List.setIfInBounds_toArray, List.set_cons_zero, List.set_cons_succ]
  refine wpAnyL_done (by kernel_rfl) ?_ _
  refine OnlyNormal.normal ?_
  try simp only [Act.put, List.setIfInBounds_toArray, List.set_cons_zero, List.set_cons_succ, List.getElem_toArray, List.getElem_cons_succ, List.getElem_cons_zero]
  go_simp
  go_wp2_with fail
  refine bodyPost_ret (v := .tuple #[.agg #[.bool na1, .slice A2 n2 c2, .bool nb1, .slice B2 m2 d2], .agg #[.bool na3, .slice A4 n4 c4, .bool nb3, .slice B4 m4 d4]]) (by simp [results, Try.results23, go_sem, a0, a1, a2, a3, b0, b1, b2, b3]) rfl ?_
  exact ⟨below_dn hBY 1, _, _, _, _, _, _, _, _, _, _, _, _, _, _, _, _, rfl, hL, hM⟩
end Go.Proofs.Ytkippclhbkjbmaa
