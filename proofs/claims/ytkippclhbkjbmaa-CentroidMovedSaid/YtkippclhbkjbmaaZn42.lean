/- Package centroid: compare, first. -/
import Derived.Test.YtkippclhbkjbmaaZn33
import Derived.Test.YtkippclhbkjbmaaZn38
import Derived.Test.YtkippclhbkjbmaaZn40
import Derived.Test.YtkippclhbkjbmaaZn41
set_option linter.unusedSimpArgs false
set_option linter.unusedVariables false

namespace Go.Proofs.Ytkippclhbkjbmaa
open Go.RowKit
attribute [local go_sem] add_lit

set_option maxRecDepth 100000 in
set_option maxHeartbeats 2000000 in
theorem compare_ok (gc : Nat) (t : TypeId) (na nb na' nb' : Bool) (A B A' B' : Option Addr) (n c m d n' c' m' d' : Nat) (a b : Rat) (w : World) (hq : Blk w gc t #[.int .i64 0]) (ha : Fr w na A n c nb B m d a) (hb : Fr w na' A' n' c' nb' B' m' d' b) (sa : Sm a) (sb : Sm b) :
    Calls Try.prog 25 #[.pointer (some ⟨gc, 0, none⟩), .agg #[.bool na, .slice A n c, .bool nb, .slice B m d], .agg #[.bool na', .slice A' n' c', .bool nb', .slice B' m' d']] w fun e w' => e = .returned (.int .i64 (cmpQ a b)) ∧ Below w.heap.size w w' := by
  have hgc : gc < w.heap.size := (Array.getElem?_eq_some_iff.1 hq).1
  obtain ⟨W0, hW0, hB, ⟨qx, qy⟩, sz⟩ := alloc2 w 29 #[.bool na, .slice A n c, .bool nb, .slice B m d] 29 #[.bool na', .slice A' n' c', .bool nb', .slice B' m' d']
  replace hq := hq.below hB hgc
  replace ha := hide (ha.below hB)
  replace hb := hide (hb.below hB)
  obtain ⟨a0, a1, a2, a3, -⟩ := qx.four
  obtain ⟨b0, b1, b2, b3, -⟩ := qy.four
  go_enter Try.func25, Try.ntmps25
  go_wp2_with fail
  refine (fCmp_ok na nb na' nb' A B A' B' n c m d n' c' m' d' a b W0 ha.out hb.out sa sb).mono ?_
  rintro e w1 ⟨rfl, hb1⟩
  replace hB := hB.trans (hb1.mono hB.size)
  replace hq := keep_blk hb1 hq
  clear a0 a1 a2 a3 b0 b1 b2 b3 hW0 ha hb
  go_wp2_with fail
  refine (keep_ok gc t false false none none 0 0 0 0 w1 hq).mono ?_
  rintro e w2 ⟨rfl, hb2⟩
  replace hB := hB.trans (hb2.mono hB.size)
  go_wp2_with fail
  go_ret
  exact ⟨rfl, hB⟩

/-- The first of some fractions by a comparison. -/
def firstQ (cmp : Rat → Rat → Int) (qs : List Rat) (r : Rat) : Nat → Rat
  | 0 => r
  | k + 1 => if cmp (qs[k]?.getD 0) (firstQ cmp qs r k) < 0 then qs[k]?.getD 0 else firstQ cmp qs r k
theorem firstQ_sm {cmp : Rat → Rat → Int} {qs : List Rat} {r : Rat} (hr : Sm r) : ∀ k, (∀ j, j < k → Sm (qs[j]?.getD 0)) → Sm (firstQ cmp qs r k)
  | 0, _ => hr
  | k + 1, h => by
    unfold firstQ
    split
    · exact h k (by omega)
    · exact firstQ_sm hr k (fun j hj => h j (by omega))

set_option maxRecDepth 100000 in
set_option maxHeartbeats 2000000 in
theorem first_ok (f : FuncId) (pre post : Array Value) (cmp : Rat → Rat → Int) (I : World → Prop) (hI : ∀ w w', I w → Below w.heap.size w w' → I w')
    (hcf : ∀ (x y : Value) (W : World), (callFunc f (pre ++ (#[x, y] ++ post))).run Try.prog W = .ok (.enter f (pre ++ (#[x, y] ++ post))) W)
    (hcall : ∀ (na nb na' nb' : Bool) (A B A' B' : Option Addr) (n c m d n' c' m' d' : Nat) (a b : Rat) (W : World), I W → Fr W na A n c nb B m d a → Fr W na' A' n' c' nb' B' m' d' b → Sm a → Sm b → Calls Try.prog f (pre ++ (#[.agg #[.bool na, .slice A n c, .bool nb, .slice B m d], .agg #[.bool na', .slice A' n' c', .bool nb', .slice B' m' d']] ++ post)) W fun e w' => e = .returned (.int .i64 (cmp a b)) ∧ Below W.heap.size W w')
    (na nb : Bool) (A B : Option Addr) (n c m d : Nat) (r : Rat) (C : Option Addr) (k0 c0 : Nat) (qs : List Rat) (w : World) (hw : I w) (hr : Fr w na A n c nb B m d r) (hq : FL w C k0 c0 qs) (sr : Sm r) (sq : ∀ j, j < k0 → Sm (qs[j]?.getD 0)) (hk0 : k0 ≤ 1000) :
    Calls Try.prog 40 #[.func (.func f) pre post, .agg #[.bool na, .slice A n c, .bool nb, .slice B m d], .slice C k0 c0] w (FracW w (firstQ cmp qs r k0)) := by
  obtain ⟨W0, hW0, hB, ⟨q0, q9⟩, sz⟩ := alloc2 w 29 #[.bool na, .slice A n c, .bool nb, .slice B m d] 29 #[.bool false, .slice none 0 0, .bool false, .slice none 0 0]
  have hv : FracV W0 w.heap.size r := ⟨_, _, _, _, _, _, _, _, q0, hr.below hB⟩
  replace hI := hide hI
  replace hcall := hide hcall
  replace sq := hide sq
  obtain ⟨es, e1, e2, e3, e4, e5, e6⟩ := hq
  replace e4 := hide e4
  replace e5 := hide e5
  replace e2 := hide e2
  replace e3 := hide e3
  go_enter Try.func40, Try.ntmps40
  go_wp2_with fail
  clear hW0 q0
  go_loopw [11] (fun i wr => ∃ k : Nat, k ≤ k0 ∧ i = .int .i64 k ∧ Below w.heap.size w wr ∧ Blk wr (w.heap.size + 1) 29 #[.bool false, .slice none 0 0, .bool false, .slice none 0 0] ∧ FracV wr w.heap.size (firstQ cmp qs r k)) (fun i _ => k0 - (intOf i).toNat)
  case atStart => exact ⟨0, by omega, rfl, hB, q9, hv⟩
  case round =>
    clear hB q9 hv
    obtain ⟨k, h1, rfl, hB, q9, hv⟩ := hrel
    have hs2 := hv.lt
    have hs3 := (Array.getElem?_eq_some_iff.1 q9).1
    by_cases hk : k < k0
    case neg =>
      obtain rfl : k = k0 := by omega
      have htk : decide ((k : Int) < (k : Int)) = false := by simp
      obtain ⟨na1, A1, n1, c1, nb1, B1, m1, d1, qv, hF⟩ := hv
      obtain ⟨a0, a1, a2, a3, -⟩ := qv.four
      obtain ⟨x0, x1, x2, x3, z0, z1, z2, z3⟩ := q9.four
      go_wp2_with fail
      obtain ⟨V, hV, hB2, q5, hst⟩ := set_frac na1 A1 n1 c1 nb1 B1 m1 d1 hB (by omega) q9
      rw [hV]
      replace hF := hF.keep hst.1
      obtain ⟨r0, r1, r2, r3, -⟩ := q5.four
      refine bodyPost_ret (v := .agg #[.bool na1, .slice A1 n1 c1, .bool nb1, .slice B1 m1 d1]) (by simp [results, Try.results40, go_sem, r0, r1, r2, r3]) rfl ?_
      exact ⟨hB2, _, _, _, _, _, _, _, _, rfl, hF⟩
    have htk : decide ((k : Int) < (k0 : Int)) = true := by simp; omega
    obtain ⟨g, o, rfl, hc⟩ := e6 (by omega)
    obtain ⟨x, hx⟩ : ∃ x, es[k]? = some x := ⟨_, List.getElem?_eq_getElem (by omega)⟩
    obtain ⟨p0, p1, p2, p3⟩ := hc k x hx
    rw [← Nat.add_assoc] at p1 p2 p3
    have hxq : qs[k]?.getD 0 = x.q := by rw [← e5.out, List.getElem?_map, hx]; rfl
    have hxF : Fr w x.na x.A x.n x.c x.nb x.B x.m x.d x.q := e4.out x (List.mem_of_getElem? hx)
    have hlo := lt_of_cell p0
    have P0 := (hB.cell (lt_of_cell p0)).trans p0
    have P1 := (hB.cell (lt_of_cell p1)).trans p1
    have P2 := (hB.cell (lt_of_cell p2)).trans p2
    have P3 := (hB.cell (lt_of_cell p3)).trans p3
    replace hx := hide hx
    clear hc p0 p1 p2 p3
    obtain ⟨V, hV, hB3, q8, hk3, hk3', sV⟩ := new_obj 29 #[.bool false, .slice none 0 0, .bool false, .slice none 0 0] hB hB.size
    obtain ⟨y0, y1, y2, y3, z0, z1, z2, z3⟩ := q8.four
    obtain ⟨V2, hV2, hB4, q8b, hst⟩ := set_frac x.na x.A x.n x.c x.nb x.B x.m x.d hB3 hB.size q8
    replace q9 := hst.2.1 _ _ _ (by omega) (hk3' _ _ _ q9)
    replace hv := (hv.keep hk3 (fun cs => hk3' _ _ _)).keep hst.1 (fun cs => hst.2.1 _ _ _ (by omega))
    obtain ⟨na1, A1, n1, c1, nb1, B1, m1, d1, qv, hF⟩ := hv
    obtain ⟨a0, a1, a2, a3, -⟩ := qv.four
    obtain ⟨b0, b1, b2, b3, -⟩ := q8b.four
    go_wp2_with fail
    have hsx : Sm x.q := by rw [← hxq]; exact sq.out k hk
    have hsb : Sm (firstQ cmp qs r k) := firstQ_sm sr k (fun j hj => sq.out j (by omega))
    have hst1 : firstQ cmp qs r (k + 1) = if cmp x.q (firstQ cmp qs r k) < 0 then x.q else firstQ cmp qs r k := by rw [← hxq]; rfl
    replace hst1 := hide hst1
    replace hxq := hide hxq
    refine (hcall.out x.na x.nb na1 nb1 x.A x.B A1 B1 x.n x.c x.m x.d n1 c1 m1 d1 x.q (firstQ cmp qs r k) V2 (hI.out w V2 hw hB4) (hxF.below hB4) hF hsx hsb).mono ?_
    rintro e w5 ⟨rfl, hb5⟩
    replace q8b := keep_blk hb5 q8b
    replace q9 := keep_blk hb5 q9
    replace qv := keep_blk hb5 qv
    replace hF := hide (hF.below hb5)
    replace hB := hB4.trans (hb5.mono hB4.size)
    have hxF5 := hxF.below hB
    clear hV hV2 hB3 hB4 q8 hk3 hk3' hst a0 a1 a2 a3 b0 b1 b2 b3 y0 y1 y2 y3 z0 z1 z2 z3 P0 P1 P2 P3 hb5
    obtain ⟨a0, a1, a2, a3, z0, z1, z2, z3⟩ := qv.four
    obtain ⟨b0, b1, b2, b3, -⟩ := q8b.four
    by_cases hc : cmp x.q (firstQ cmp qs r k) < 0
    · have hcd : decide (cmp x.q (firstQ cmp qs r k) < 0) = true := by simpa using hc
      go_wp2_with fail
      obtain ⟨V3, hV3, hB6, q6, hst⟩ := set_frac x.na x.A x.n x.c x.nb x.B x.m x.d hB (Nat.le_refl _) qv
      rw [hV3]
      replace q9 := hst.2.1 _ _ _ (by omega) q9
      go_round
      case rel => exact ⟨k + 1, by omega, by go_num, hB6, q9, by rw [hst1.out, if_pos hc]; exact ⟨_, _, _, _, _, _, _, _, q6, hxF5.keep hst.1⟩⟩
      case measure => simp [intOf]; omega
    · have hcd : decide (cmp x.q (firstQ cmp qs r k) < 0) = false := by simpa using hc
      go_wp2_with fail
      go_round
      case rel => exact ⟨k + 1, by omega, by go_num, hB, q9, by rw [hst1.out, if_neg (by omega)]; exact ⟨_, _, _, _, _, _, _, _, qv, hF.out⟩⟩
      case measure => simp [intOf]; omega
end Go.Proofs.Ytkippclhbkjbmaa
