/- Package linear: Inverse. Reference: Same of fractions, -/
import Derived.Test.YtigdclhagmnopaaGreatZm46
import Derived.Test.YtigdclhagmnopaaGreatZm44
set_option maxRecDepth 100000
set_option maxHeartbeats 8000000
set_option linter.unusedSimpArgs false
set_option linter.unusedVariables false
namespace Go.Proofs.YtigdclhagmnopaaGreat
open Go.RowKit
attribute [local go_sem] Zh
section
variable {t : TypeId} {w w' : World} {g rest : Nat} {qs : List Rat}
end
theorem Zk8 (na : Bool) (a : List Nat) : Zkd na na a a = true := by
 unfold Zkd
 have : Zbz a a = 0 := by
  unfold Zbz
  simp
 rw [this]; simp
theorem Zlg (na nb : Bool) (A B A' B' : Option Addr) (n c m d n' c' m' d' : Nat) (la lb : List Nat) (w : World) (ha : Lim w A n c la) (hb : Lim w B m d lb) (ha' : Lim w A' n' c' la) (hb' : Lim w B' m' d' lb) :
    Calls Tryz.prog 22 #[.agg #[.bool na, .slice A n c, .bool nb, .slice B m d], .agg #[.bool na, .slice A' n' c', .bool nb, .slice B' m' d']] w fun e w' => e = .returned (.bool true) /\ Below w.heap.size w w' := by
 obtain ⟨W0, hW0, hB0, ⟨q0, q1⟩, s0⟩ := Zgb w 45 #[.bool na, .slice A n c, .bool nb, .slice B m d] 45 #[.bool na, .slice A' n' c', .bool nb, .slice B' m' d']
 replace ha := Za (ha.below hB0)
 replace hb := Za (hb.below hB0)
 replace ha' := Za (ha'.below hB0)
 replace hb' := Za (hb'.below hB0)
 obtain ⟨a0, a1, a2, a3, -⟩ := q0.four
 obtain ⟨b0, b1, b2, b3, -⟩ := q1.four
 have hq := Za (And.intro q0 q1)
 clear q0 q1
 go_enter Tryz.func22, Tryz.ntmps22
 go_wp2_with fail
 refine (Zl5 na na A A' n c n' c' _ _ W0 ha.out ha'.out).mono ?_
 rw [Zk8]
 rintro e w1 ⟨rfl, hb1⟩
 have hB1 : Below w.heap.size w w1 := hB0.trans (hb1.mono hB0.size)
 obtain ⟨q0, q1⟩ := hq.out
 replace q0 := Zc hb1 q0
 replace q1 := Zc hb1 q1
 clear hW0 a0 a1 a2 a3 b0 b1 b2 b3 hq hB0
 obtain ⟨a0, a1, a2, a3, -⟩ := q0.four
 obtain ⟨b0, b1, b2, b3, -⟩ := q1.four
 clear q0 q1
 go_wp2_with fail
 refine (Zl5 nb nb B B' m d m' d' _ _ w1 (hb.out.below hb1) (hb'.out.below hb1)).mono ?_
 rw [Zk8]
 rintro e w2 ⟨rfl, hb2⟩
 have hB2 : Below w.heap.size w w2 := hB1.trans (hb2.mono hB1.size)
 go_wp2_with fail
 go_ret
 exact ⟨by simp, hB2⟩
structure DF where
 na : Bool
 la : List Nat
 nb : Bool
 lb : List Nat
def XL (w : World) (A : Option Addr) (n c : Nat) (ds : List DF) : Prop :=
 ds.length = n /\ n <= c /\ c <= maxLen /\ ∀ (k : Nat) (d : DF), ds[k]? = some d -> ∃ g o A1 n1 c1 B1 m1 d1, A = some ⟨g, o, none⟩ /\ At4 w g (o + k * 4) d.na A1 n1 c1 d.nb B1 m1 d1 /\ Lim w A1 n1 c1 d.la /\ Lim w B1 m1 d1 d.lb
def XM (w : World) (A : Option Addr) (n c : Nat) (D : List (List DF)) : Prop :=
 D.length = n /\ n <= c /\ c <= maxLen /\ ∀ (k : Nat) (ds : List DF), D[k]? = some ds -> ∃ g o A1 n1 c1, A = some ⟨g, o, none⟩ /\ w.cell? ⟨g, o + k, none⟩ = some (.slice A1 n1 c1) /\ XL w A1 n1 c1 ds
section
variable {w w' : World} {A : Option Addr} {n c : Nat} {ds : List DF} {D : List (List DF)}
theorem XL.below (h : XL w A n c ds) (hb : Below w.heap.size w w') : XL w' A n c ds := by
 obtain ⟨h1, h2, h3, h4⟩ := h
 refine ⟨h1, h2, h3, fun k d hd => ?_⟩
 obtain ⟨g, o, A1, n1, c1, B1, m1, d1, e, a, b, b'⟩ := h4 k d hd
 exact ⟨g, o, A1, n1, c1, B1, m1, d1, e, a.below hb, b.below hb, b'.below hb⟩
theorem XM.below (h : XM w A n c D) (hb : Below w.heap.size w w') : XM w' A n c D := by
 obtain ⟨h1, h2, h3, h4⟩ := h
 refine ⟨h1, h2, h3, fun k d hd => ?_⟩
 obtain ⟨g, o, A1, n1, c1, e, a, b⟩ := h4 k d hd
 exact ⟨g, o, A1, n1, c1, e, Zb hb a, b.below hb⟩
def dfQ (q : Rat) : DF := ⟨decide (q.num < 0), digits q.num.natAbs, false, digits q.den⟩
theorem FL.xl {qs : List Rat} (h : FL w A n c qs) : XL w A n c (qs.map dfQ) := by
 have hl := h.len
 refine ⟨by rw [List.length_map, hl], h.cap.1, h.cap.2, fun k d hd => ?_⟩
 rw [List.getElem?_map] at hd
 obtain ⟨q, hq, rfl⟩ := Option.map_eq_some_iff.1 hd
 have hk : k < n := by have := (List.getElem?_eq_some_iff.1 hq).1; omega
 obtain ⟨g, o, na, A1, n1, c1, nb, B, m, d, e1, e2, e3⟩ := h.at_ hk
 rw [hq, Option.getD_some] at e3
 have h1 := e3.1.1
 have h2 := e3.2.1
 have h3 := e3.2.2.2
 rw [Int.natAbs_natCast] at h3
 have h4 : nb = false := by rw [h2]; exact decide_eq_false (by omega)
 subst h1 h4
 exact ⟨g, o, _, _, _, _, _, _, e1, e2, e3.1.2.2, h3⟩
theorem MFL.xm {Q : List (List Rat)} (h : MFL w A n c Q) : XM w A n c (Q.map fun r => r.map dfQ) := by
 refine ⟨by rw [List.length_map, h.1], h.2.1, h.2.2.1, fun k d hd => ?_⟩
 rw [List.getElem?_map] at hd
 obtain ⟨r, hr, rfl⟩ := Option.map_eq_some_iff.1 hd
 have hk : k < n := by have := (List.getElem?_eq_some_iff.1 hr).1; rw [h.1] at this; exact this
 obtain ⟨g, o, A1, n1, c1, e1, e3, e4⟩ := h.at_ hk
 rw [hr, Option.getD_some] at e4
 exact ⟨g, o, _, _, _, e1, e3, e4.xl⟩
theorem XL.nil (w : World) : XL w none 0 0 [] := ⟨rfl, Nat.le_refl _, Nat.zero_le _, fun k d hd => (by cases hd)⟩
theorem XM.nil (w : World) : XM w none 0 0 [] := ⟨rfl, Nat.le_refl _, Nat.zero_le _, fun k d hd => (by cases hd)⟩
end
theorem Zh7 (A B : Option Addr) (n c d : Nat) (ds : List DF) (w : World) (ha : XL w A n c ds) (hb : XL w B n d ds) :
    Calls Tryz.prog 21 #[.slice A n c, .slice B n d] w fun e w' => e = .returned (.bool true) /\ Below w.heap.size w w' := by
 have hmx : Tryz.prog.follows .mixedOrders = true := by kernel_rfl
 have hl := Za ha.1
 have hc := ha.2.1
 have hcm := ha.2.2.1
 have hd := hb.2.1
 have hdm := hb.2.2.1
 unfold maxLen at hcm hdm
 replace ha := Za ha
 replace hb := Za hb
 have t0 : (((n : Int)) != (n : Int)) = false := by simp
 go_enter Tryz.func21, Tryz.ntmps21
 go_wp2_with fail
 go_loopg [5] n (fun k iv wr => ∃ i : Nat, i + k = n /\ iv = .int .i64 i /\ Below w.heap.size w wr)
 case atStart => exact ⟨0, by omega, rfl, Below.refl _ _⟩
 case round =>
  obtain ⟨i, hik, rfl, hB⟩ := hrel
  cases gk with
  | zero =>
   obtain rfl : i = n := by omega
   have t1 : decide ((i : Int) < (i : Int)) = false := by simp
   go_wp2_with fail
   go_ret
   exact ⟨rfl, hB⟩
  | succ k' =>
   obtain rfl : k' = n - (i + 1) := by omega
   have hin : i < n := by omega
   have t1 : decide ((i : Int) < (n : Int)) = true := decide_eq_true (by omega)
   have bi : (i : Int) < (n : Int) := by omega
   obtain ⟨x, hx⟩ := Zax (L := ds) (i := i) (by rw [hl.out]; exact hin)
   obtain ⟨g, o, A1, n1, c1, B1, m1, d1, rfl, ⟨r0, r1, r2, r3⟩, l1, l2⟩ := (ha.out.below hB).2.2.2 i x hx
   obtain ⟨g', o', A1', n1', c1', B1', m1', d1', rfl, ⟨s0, s1, s2, s3⟩, l1', l2'⟩ := (hb.out.below hB).2.2.2 i x hx
   replace l1 := Za l1
   replace l2 := Za l2
   replace l1' := Za l1'
   replace l2' := Za l2'
   go_wp2_with fail
   obtain ⟨X0, hX0⟩ : ∃ X, wr.drew = X := ⟨_, rfl⟩
   have hr1 : Below wr.heap.size wr X0 := by rw [<- hX0]; exact Ze (Below.refl _ _) 1
   have hSv1 : Hid (∀ wx, Below wr.heap.size wr wx -> wx.cell? ⟨g, o + i * 4, none⟩ = some (.bool x.na) /\ wx.cell? ⟨g, o + i * 4 + 1, none⟩ = some (.slice A1 n1 c1) /\ wx.cell? ⟨g, o + i * 4 + 2, none⟩ = some (.bool x.nb) /\ wx.cell? ⟨g, o + i * 4 + 3, none⟩ = some (.slice B1 m1 d1) /\ wx.cell? ⟨g', o' + i * 4, none⟩ = some (.bool x.na) /\ wx.cell? ⟨g', o' + i * 4 + 1, none⟩ = some (.slice A1' n1' c1') /\ wx.cell? ⟨g', o' + i * 4 + 2, none⟩ = some (.bool x.nb) /\ wx.cell? ⟨g', o' + i * 4 + 3, none⟩ = some (.slice B1' m1' d1')) := Za (fun wx hbx => ⟨Zb hbx r0, Zb hbx r1, Zb hbx r2, Zb hbx r3, Zb hbx s0, Zb hbx s1, Zb hbx s2, Zb hbx s3⟩)
   refine wp_heldS [] hmx hSv1 (by rw [hX0]; exact hr1) (fun hxs => ?_)
   rw [hX0]
   refine Zhz 8 [0, 1, 2, 3, 4, 5, 6, 7] rfl (by kernel_rfl) (hSv1.out _ hr1) ?_
   iterate 8 (refine tk1 (v := ?_) rfl (Or.inl ⟨by kernel_rfl, ?_⟩) ?_; rotate_left; (· intro W2 hSw; (try dsimp only at hSw); go_simp; try with_reducible rfl); try simp only [Act.put, Ze7, Ze8, Zfh, putG_a, putG_s, putG_z])
   refine tk0 ?_
   refine Zg (i := 8) rfl (by kernel_rfl) (fun K hK => ?_)
   go_simp
   refine (Zlg x.na x.nb A1 B1 A1' B1' n1 c1 m1 d1 n1' c1' m1' d1' x.la x.lb X0 (l1.out.below hr1) (l2.out.below hr1) (l1'.out.below hr1) (l2'.out.below hr1)).mono ?_
   rintro e w3 ⟨rfl, hb3⟩
   have hr3 := hr1.trans (hb3.mono hr1.size)
   have hB3 := hB.trans (hr3.mono hB.size)
   refine hK.out _ _ (fun _ => hSv1.out _ hr3) ?_
   clear hK K
   try simp only [Act.put, Ze7, Ze8, Zfh]
   refine Zfo 1 [9] rfl (by kernel_rfl) (hSv1.out _ hr3) ?_
   (refine tk1 (v := ?_) rfl (Or.inl ⟨by kernel_rfl, ?_⟩) ?_; rotate_left; (· intro W2 _; go_simp; try with_reducible rfl); try simp only [Act.put, Ze7, Ze8, Zfh, putG_a, putG_s, putG_z])
   refine tk0 ?_
   refine Zl (by kernel_rfl) ?_ _
   refine OnlyNormal.normal ?_
   clear hxs hSv1
   go_wp2_with fail
   go_roundg (n - (i + 1))
   case measure => omega
   case rel => exact ⟨i + 1, by omega, by go_num, hB3⟩
theorem Zrq (A B : Option Addr) (n c d : Nat) (D : List (List DF)) (w : World) (ha : XM w A n c D) (hb : XM w B n d D) :
    Calls Tryz.prog 20 #[.slice A n c, .slice B n d] w fun e w' => e = .returned (.bool true) /\ Below w.heap.size w w' := by
 have hmx : Tryz.prog.follows .mixedOrders = true := by kernel_rfl
 have hl := Za ha.1
 have hc := ha.2.1
 have hcm := ha.2.2.1
 have hd := hb.2.1
 have hdm := hb.2.2.1
 unfold maxLen at hcm hdm
 replace ha := Za ha
 replace hb := Za hb
 have t0 : (((n : Int)) != (n : Int)) = false := by simp
 go_enter Tryz.func20, Tryz.ntmps20
 go_wp2_with fail
 go_loopg [5] n (fun k iv wr => ∃ i : Nat, i + k = n /\ iv = .int .i64 i /\ Below w.heap.size w wr)
 case atStart => exact ⟨0, by omega, rfl, Below.refl _ _⟩
 case round =>
  obtain ⟨i, hik, rfl, hB⟩ := hrel
  cases gk with
  | zero =>
   obtain rfl : i = n := by omega
   have t1 : decide ((i : Int) < (i : Int)) = false := by simp
   go_wp2_with fail
   go_ret
   exact ⟨rfl, hB⟩
  | succ k' =>
   obtain rfl : k' = n - (i + 1) := by omega
   have hin : i < n := by omega
   have t1 : decide ((i : Int) < (n : Int)) = true := decide_eq_true (by omega)
   have bi : (i : Int) < (n : Int) := by omega
   obtain ⟨x, hx⟩ := Zax (L := D) (i := i) (by rw [hl.out]; exact hin)
   obtain ⟨g, o, A1, n1, c1, rfl, r0, l1⟩ := (ha.out.below hB).2.2.2 i x hx
   obtain ⟨g', o', A1', n1', c1', rfl, s0, l1'⟩ := (hb.out.below hB).2.2.2 i x hx
   obtain rfl : n1' = n1 := by rw [<- l1.1, <- l1'.1]
   replace l1 := Za l1
   replace l1' := Za l1'
   go_wp2_with fail
   obtain ⟨X0, hX0⟩ : ∃ X, wr.drew = X := ⟨_, rfl⟩
   have hr1 : Below wr.heap.size wr X0 := by rw [<- hX0]; exact Ze (Below.refl _ _) 1
   have hSv1 : Hid (∀ wx, Below wr.heap.size wr wx -> wx.cell? ⟨g, o + i, none⟩ = some (.slice A1 n1' c1) /\ wx.cell? ⟨g', o' + i, none⟩ = some (.slice A1' n1' c1')) := Za (fun wx hbx => ⟨Zb hbx r0, Zb hbx s0⟩)
   refine wp_heldS [] hmx hSv1 (by rw [hX0]; exact hr1) (fun hxs => ?_)
   rw [hX0]
   refine Zhz 8 [0, 1, 2, 3, 4, 5, 6, 7] rfl (by kernel_rfl) (hSv1.out _ hr1) ?_
   iterate 8 (refine tk1 (v := ?_) rfl (Or.inl ⟨by kernel_rfl, ?_⟩) ?_; rotate_left; (· intro W2 hSw; (try dsimp only at hSw); go_simp; try with_reducible rfl); try simp only [Act.put, Ze7, Ze8, Zfh, putG_a, putG_s, putG_z])
   refine tk0 ?_
   refine Zg (i := 8) rfl (by kernel_rfl) (fun K hK => ?_)
   go_simp
   refine (Zh7 A1 A1' n1' c1 c1' x X0 (l1.out.below hr1) (l1'.out.below hr1)).mono ?_
   rintro e w3 ⟨rfl, hb3⟩
   have hr3 := hr1.trans (hb3.mono hr1.size)
   have hB3 := hB.trans (hr3.mono hB.size)
   refine hK.out _ _ (fun _ => hSv1.out _ hr3) ?_
   clear hK K
   try simp only [Act.put, Ze7, Ze8, Zfh]
   refine Zfo 1 [9] rfl (by kernel_rfl) (hSv1.out _ hr3) ?_
   (refine tk1 (v := ?_) rfl (Or.inl ⟨by kernel_rfl, ?_⟩) ?_; rotate_left; (· intro W2 _; go_simp; try with_reducible rfl); try simp only [Act.put, Ze7, Ze8, Zfh, putG_a, putG_s, putG_z])
   refine tk0 ?_
   refine Zl (by kernel_rfl) ?_ _
   refine OnlyNormal.normal ?_
   clear hxs hSv1
   go_wp2_with fail
   go_roundg (n - (i + 1))
   case measure => omega
   case rel => exact ⟨i + 1, by omega, by go_num, hB3⟩
theorem Zdp {rs : List RI} {rr ws : List Int} (h : Zcm rs rr ws = 0) : rs.length <= 200 /\ (∀ r ∈ rs, r.n <= 12) /\ n0I rs ≠ 0 /\ ws.length = rs.length /\ rr.length = rs.length /\ Zcx 1 ws = false /\ Zcx (-1099511627776) rr = false /\ ∀ r ∈ rs, r.n = n0I rs /\ Zcx (-1099511627776) r.l = false := by
 unfold Zcm at h
 split at h
 ·cases h
 ·rename_i h1
  split at h
  ·rename_i h2
   simp only [Zcp, Bool.or_eq_true, decide_eq_true_eq, not_or, List.any_eq_true, not_exists, RI.long, not_and] at h1
   simp only [Zkg, Bool.and_eq_true, Bool.not_eq_true', decide_eq_false_iff_not, decide_eq_true_eq, List.all_eq_true, Zd1] at h2
   obtain ⟨a1, a2, a3, a4, a5, a6⟩ := h2
   exact ⟨by omega, fun r hr => by have := h1.2 r hr; omega, a1, a2, a3, a4, a5, a6⟩
  ·cases h
theorem Zq7 {P : Program} (t e : TypeId) {i : TypeInfo} (ht : P.underlying t = some (.slice e)) (hi : P.info? e = some i) (hz : i.zero = some (.int .i64 0)) (hs : i.size = 1) (hb : i.bytes = 8)
    (x : Int) (n : Nat) (hx : x = n) (hn : n <= 1000000000000) (W : World) :
    (Instr.makeSlice t (.int .i64 x) (.int .i64 x)).run P W = .ok (.slice (some ⟨W.heap.size, 0, none⟩) n n) (W.alloc (.cells (madeCells #[.int .i64 0] n) e)) := by
 subst hx
 have hr := run_make (P := P) W t e i _ ht hi hz .i64 .i64 n n (by omega) (by omega) (by rw [hb]; omega) (by omega)
 simp only [Int.toNat_natCast] at hr
 rw [hr, hs, Nat.mul_one]
 rfl
theorem LimI.zeros {w : World} {g : Nat} {t : TypeId} {n : Nat} (h : Blk w g t (madeCells #[.int .i64 0] n)) (hn : n <= maxLen) : LimI w (some ⟨g, 0, none⟩) n n (List.replicate n 0) := by
 refine ⟨by simp, Nat.le_refl _, hn, fun x hx => ?_, fun _ => ⟨g, 0, rfl, fun k hk => ?_⟩⟩
 ·rw [List.eq_of_mem_replicate hx]; unfold I64; decide
 ·rw [Nat.zero_add, h.cell, List.getElem?_replicate, if_pos hk]
  unfold madeCells
  simp [hk, Nat.mod_one]
theorem Zrf : (Tryz.prog.info? 2).map (fun i => (i.zero, i.size, i.bytes)) = some (some (.int .i64 0), 1, 8) := by kernel_rfl
def RS.cut (r : RS) : RS := ⟨r.A, r.n - 1, r.c⟩
def Zg2 (rs : List RS) (i : Nat) : List RS := (rs.take i).map RS.cut ++ rs.drop i
theorem Zr5 (rs : List RS) : Zg2 rs 0 = rs := by simp [Zg2]
theorem Zuo (rs : List RS) : Zg2 rs rs.length = rs.map RS.cut := by simp [Zg2]
theorem Zn1 (rs : List RS) (i : Nat) : (Zg2 rs i).length = rs.length := by simp [Zg2]; omega
theorem Zt5 {rs : List RS} {i : Nat} {r : RS} (h : rs[i]? = some r) (zs : List RS) : (Zg2 rs i ++ zs)[i]? = some r := by
 have hi := (List.getElem?_eq_some_iff.1 h).1
 rw [List.getElem?_append_left (by rw [Zn1]; exact hi)]
 unfold Zg2
 rw [List.getElem?_append_right (by simp; omega)]
 simp only [List.length_map, List.length_take, Nat.min_eq_left (Nat.le_of_lt hi), Nat.sub_self, List.getElem?_drop, Nat.add_zero]
 exact h
theorem Zt0 {rs : List RS} {i : Nat} {r : RS} (h : rs[i]? = some r) (zs : List RS) : (Zg2 rs i ++ zs).set i r.cut = Zg2 rs (i + 1) ++ zs := by
 have hi := (List.getElem?_eq_some_iff.1 h).1
 have hr : rs[i] = r := (List.getElem?_eq_some_iff.1 h).2
 rw [List.set_append_left _ _ (by rw [Zn1]; exact hi)]
 congr 1
 unfold Zg2
 rw [List.set_append_right _ _ (by simp; omega)]
 simp only [List.length_map, List.length_take, Nat.min_eq_left (Nat.le_of_lt hi), Nat.sub_self]
 rw [List.drop_eq_getElem_cons hi, List.set_cons_zero, List.take_add_one, List.getElem?_eq_getElem hi, hr]
 simp
theorem FL.keptS {w w' : World} {A : Option Addr} {n c : Nat} {qs : List Rat} {go : Nat} {tS : TypeId} {rs : List RS} (h : FL w A n c qs) (hk : Kept (fun g => g = go) w w') (hb : Blk w go tS (Z2 rs)) : FL w' A n c qs := by
 have hG : ∀ k, (fun g => g = go) k -> ∃ t cs, Blk w k t cs /\ NoLimb cs := fun k e => by
  cases e; exact ⟨_, _, hb, Zay rs⟩
 obtain ⟨es, h1, h2, h3, h4, h5, h6⟩ := h
 refine ⟨es, h1, h2, h3, fun e he => ⟨hk.wd (h4 e he).1 hG, hk.wd (h4 e he).2 hG⟩, h5, fun hn => ?_⟩
 obtain ⟨g, o, e1, hc⟩ := h6 hn
 refine ⟨g, o, e1, fun k e he => ?_⟩
 obtain ⟨a, b, c', d⟩ := hc k e he
 have hgo : g ≠ go := fun e' => by
  subst e'
  rw [hb.cell] at a
  unfold Z2 at a
  simp only [List.getElem?_toArray, Zb4, List.getElem?_map, Option.map_eq_some_iff] at a
  obtain ⟨r, -, hr⟩ := a
  cases hr
 have hkc : ∀ (j : Nat) (v : Value), w.cell? ⟨g, j, none⟩ = some v -> w'.cell? ⟨g, j, none⟩ = some v := fun j v hv => by
  rw [<- hv]
  exact World.cell?_of_block (hk.block g (Zm hv) hgo)
 exact ⟨hkc _ _ a, hkc _ _ b, hkc _ _ c', hkc _ _ d⟩
theorem Zod (A C : Option Addr) (n c k e0 : Nat) (rs : List RI) (ws : List Int) (w : World) (h : MIL w A n c rs) (hw : LimI w C k e0 ws) (E : Int) (hE : Zcm rs (List.replicate (min n 200) 0) ws = E) (h0 : E ≠ 0) :
    Calls Tryz.prog 16 #[.slice A n c, .slice C k e0] w fun e w' => e = .returned (.tuple #[.slice none 0 0, .int .i64 E]) /\ Below w.heap.size w w' := by
 obtain ⟨iI, ji, jz0, jz1, jz2⟩ := info_parts Zrf
 have hn := Nat.le_trans h.2.1 h.2.2.1
 unfold maxLen at hn
 have hmin : min (n : Int) 200 = ((min n 200 : Nat) : Int) := by omega
 have hk : min n 200 <= 200 := by omega
 obtain ⟨q, hq⟩ : ∃ q, min n 200 = q := ⟨_, rfl⟩
 rw [hq] at hmin hk hE
 have t1 : decide (E ≠ 0) = true := decide_eq_true h0
 have t1' : (E != 0) = true := by simpa using h0
 have t1'' : (E == 0) = false := by simpa using h0
 have hmk := Zq7 (P := Tryz.prog) 34 2 Tryz.underlying34 ji jz0 jz1 jz2 (q : Int) q rfl (by omega) w
 obtain ⟨W0, hW0, hB0, q0, s0⟩ := Zea w 2 (madeCells #[.int .i64 0] q)
 have hC := Za (Zem A (some ⟨w.heap.size, 0, none⟩) C n c q q k e0 rs (List.replicate q 0) ws W0 (h.below hB0) (LimI.zeros q0 (by unfold maxLen; omega)) (hw.below hB0) E hE)
 clear q0 h hw hE hq
 replace h0 := Za h0
 go_enter Tryz.func16, Tryz.ntmps16
 go_wp2_with fail
 (try rw [hW0])
 refine hC.out.mono ?_
 rintro e w1 ⟨rfl, hb1⟩
 go_wp2_with fail
 go_returns
 exact ⟨rfl, hB0.trans (hb1.mono hB0.size)⟩
def Zes (rs : List RI) (ws : List Int) (n m : Nat) : List (List Rat) := (List.range m).map fun i => (List.range m).map fun k => ((Zar ws (Zaa rs i) (Zaa rs k) n : Int) : Rat)
theorem Zta (rs : List RI) (rr ws : List Int) (n m : Nat) : (Zaj rs rr ws n m).map (fun q => q.take m) = Zes rs ws n m := by
 unfold Zaj Zes
 rw [List.map_map]
 refine List.map_congr_left fun i _ => ?_
 show (Zeu rs rr ws n m i).take m = _
 unfold Zeu
 rw [List.take_append_of_le_length (by simp), List.take_of_length_le (by simp)]
theorem Zp9 (A C : Option Addr) (n c e0 m : Nat) (rs : List RI) (ws : List Int) (w : World) (h : MIL w A n c rs) (hw : LimI w C n e0 ws) (hE : Zcm rs (List.replicate n 0) ws = 0) (hm : n0I rs = m) :
    Calls Tryz.prog 16 #[.slice A n c, .slice C n e0] w fun e w' => ∃ go, e = .returned (.tuple #[.slice (some ⟨go, 0, none⟩) m m, .int .i64 0]) /\ Below w.heap.size w w' /\ MFL w' (some ⟨go, 0, none⟩) m m (Zes rs ws n m) := by
 obtain ⟨iI, ji, jz0, jz1, jz2⟩ := info_parts Zrf
 obtain ⟨f1, f2, f3, f4, f5, f6, f7, f8⟩ := Zdp hE
 have hl := h.1
 rw [hl] at f1
 rw [hm] at f3
 have hn0 : 0 < n := by
  rcases Nat.eq_zero_or_pos n with h0 | h0
  ·exfalso
   have : rs = [] := List.eq_nil_of_length_eq_zero (by omega)
   subst this
   exact f3 (by rw [<- hm]; rfl)
  ·exact h0
 have hrow : ∀ r ∈ rs, r.n = m := fun r hr => by rw [(f8 r hr).1, hm]
 have hm12 : m <= 12 := by
  obtain ⟨_, _, r0, _, hr0, _⟩ := h.at_ (i := 0) hn0
  have h1 := List.mem_of_getElem? hr0
  rw [<- hrow r0 h1]
  exact f2 r0 h1
 have hm0 : 0 < m := by omega
 have hmin : min (n : Int) 200 = (n : Int) := by omega
 have hmk := Zq7 (P := Tryz.prog) 34 2 Tryz.underlying34 ji jz0 jz1 jz2 (n : Int) n rfl (by omega) w
 obtain ⟨W0, hW0, hB0, q0, s0⟩ := Zea w 2 (madeCells #[.int .i64 0] n)
 have hZ := Za (LimI.zeros q0 (by unfold maxLen; omega))
 have hM := Za (h.below hB0)
 have hWs := Za (hw.below hB0)
 clear q0 h hw f2 f3 f4 f5 f6 f7 f8
 replace hE := Za hE
 replace hm := Za hm
 replace hl := Za hl
 replace hrow := Za hrow
 go_enter Tryz.func16, Tryz.ntmps16
 go_wp2_with fail
 (try rw [hW0])
 refine (Zem A (some ⟨w.heap.size, 0, none⟩) C n c n n n e0 rs (List.replicate n 0) ws W0 hM.out hZ.out hWs.out 0 hE.out).mono ?_
 rintro e w1 ⟨rfl, hb1⟩
 go_wp2_with fail
 refine (Zj8 A (some ⟨w.heap.size, 0, none⟩) C n c n e0 m rs (List.replicate n 0) ws w1 (hM.out.below hb1) (hZ.out.below hb1) (hWs.out.below hb1) hn0 (by omega) hm0 (by omega) hrow.out).mono ?_
 rintro e w2 ⟨go, rs', rfl, hb2, hrl, base, hbb, hMA⟩
 have hB2 := hB0.trans ((hb1.trans (hb2.mono hb1.size)).mono hB0.size)
 obtain ⟨⟨zs, hbl⟩, hbg, hlen, hown, -⟩ := hMA
 have hrf : ∀ (i : Nat) (r : RS), rs'[i]? = some r -> r.n = m + 1 /\ m + 1 <= r.c /\ r.c <= maxLen /\ FL w2 r.A r.n r.c ((Zaj rs (List.replicate n 0) ws n m)[i]?.getD []) := fun i r hr => by
  have hi : i < m := by rw [<- hrl]; exact (List.getElem?_eq_some_iff.1 hr).1
  obtain ⟨a1, a2⟩ := (hown i r hr).rsn
  have a3 : ((Zaj rs (List.replicate n 0) ws n m)[i]?.getD []).length = m + 1 := by
   unfold Zaj
   rw [List.getElem?_map, List.getElem?_range hi, Option.map_some, Option.getD_some, Zc6]
  rw [a3] at a1
  have a4 := a2.cap
  rw [a1] at a4
  exact ⟨a1, a4.1, a4.2, a2⟩
 have hgoB : w.heap.size <= go := Nat.le_trans (Nat.le_trans (hB0.trans (hb1.mono hB0.size)).size hbb) hbg
 replace hrf := Za hrf
 replace hown := Za hown
 replace hbl := Za hbl
 replace hB2 := Za hB2
 clear hb1 hb2 hB0 hM hWs hZ hmk hbb hbg
 go_wp2_with fail
 go_loopg [28] m (fun k iv wr => ∃ i : Nat, i + k = m /\ iv = .int .i64 i /\ Blk wr go 40 (Z2 (Zg2 rs' i ++ zs)) /\ Kept (fun g => g = go) w2 wr)
 case atStart => exact ⟨0, by omega, rfl, by rw [Zr5]; exact hbl.out, Kept.refl _ _⟩
 case round =>
  obtain ⟨i, hik, rfl, hbr, hK⟩ := hrel
  cases gk with
  | zero =>
   obtain rfl : m = i := by omega
   have t2 : decide ((m : Int) < (m : Int)) = false := by simp
   have hBx := hB2.out.trans (hK.to_below (fun k hk => by rw [hk]; exact hgoB) hB2.out.size)
   have hfin : MFL wr (some ⟨go, 0, none⟩) m m (Zes rs ws n m) := by
    refine ⟨by unfold Zes; simp, Nat.le_refl _, by unfold maxLen; omega, fun _ => ⟨go, 0, rfl, fun j q hq => ?_⟩⟩
    rw [<- Zta rs (List.replicate n 0) ws n m, List.getElem?_map, Option.map_eq_some_iff] at hq
    obtain ⟨q0, hq0, rfl⟩ := hq
    have hj : j < rs'.length := by rw [hlen]; exact (List.getElem?_eq_some_iff.1 hq0).1
    have hr := List.getElem?_eq_getElem hj
    obtain ⟨a1, a2, a3, a4⟩ := hrf.out j _ hr
    rw [hq0, Option.getD_some] at a4
    have a5 := (a4.keptS hK hbl.out).take (k := m) (by omega)
    have hcut : (Zg2 rs' m ++ zs)[j]? = some (rs'[j]).cut := by
     rw [<- hrl, Zuo, List.getElem?_append_left (by simpa using hj), List.getElem?_map, hr]; rfl
    refine ⟨_, _, _, by rw [Nat.zero_add, hbr.cell]; exact Zcd hcut, ?_⟩
    simp only [RS.cut, a1]
    exact a5
   replace hfin := Za hfin
   clear hbr hK
   go_wp2_with fail
   go_returns
   exact ⟨go, rfl, hBx, hfin.out⟩
  | succ k' =>
   obtain rfl : k' = m - (i + 1) := by omega
   have him : i < m := by omega
   have t2 : decide ((i : Int) < (m : Int)) = true := decide_eq_true (by omega)
   have bi : (i : Int) < (m : Int) := by omega
   obtain ⟨r, hr⟩ := Zax (L := rs') (i := i) (by omega)
   obtain ⟨a1, a2, a3, -⟩ := hrf.out i r hr
   have cr := hbr.cell i
   rw [Zcd (Zt5 hr zs), a1] at cr
   have zr := hbr.frozen i
   unfold maxLen at a3
   have hset : Blk (wr.setCell ⟨go, i, none⟩ (.slice r.A m r.c)) go 40 (Z2 (Zg2 rs' (i + 1) ++ zs)) := by
    have := hbr.set_ i (.slice r.A m r.c)
    have hcut : r.cut = ⟨r.A, m, r.c⟩ := by simp only [RS.cut, a1]; rfl
    have e2 : (Zg2 rs' i ++ zs).set i ⟨r.A, m, r.c⟩ = Zg2 rs' (i + 1) ++ zs := by rw [<- hcut, Zt0 hr zs]
    rw [show Value.slice r.A m r.c = Value.slice (RS.mk r.A m r.c).A (RS.mk r.A m r.c).n (RS.mk r.A m r.c).c from rfl, Zch ⟨r.A, m, r.c⟩, e2] at this
    exact this
   have hK2 : Hid (Kept (fun g => g = go) w2 (wr.setCell ⟨go, i, none⟩ (.slice r.A m r.c))) := Za (hK.set_ (p := ⟨go, i, none⟩) (.inl rfl) _)
   replace hset := Za hset
   have s1 : ((m + 1 : Nat) : Int) - 1 = (m : Int) := by omega
   have s2 : (m : Int) <= (r.c : Int) := by omega
   have s3 : m <= r.c := by omega
   clear hbr hK a1
   replace hr := Za hr
   go_wp2_with fail
   go_roundg (m - (i + 1))
   case measure => omega
   case rel => exact ⟨i + 1, by omega, by go_num, hset.out, hK2.out⟩
theorem Zdb (A : Option Addr) (n c : Nat) (l : List Int) (least : Int) (w : World) (h : LimI w A n c l) (b : Bool) (hb : Zcx least l = b) :
    Calls Tryz.prog 89 #[.slice A n c, .int .i64 least] w fun e w' => e = .returned (.bool (!b)) /\ Below w.heap.size w w' := by
 have hl := h.1
 have hnc := h.2.1
 have hcm := h.2.2.1
 unfold maxLen at hcm
 have hg := Za h.2.2.2.2
 clear h
 replace hl := Za hl
 replace hb := Za hb
 go_enter Tryz.func89, Tryz.ntmps89
 go_wp2_with fail
 go_loopw [5] (fun iv wr => ∃ i : Nat, i <= n /\ iv = .int .i64 i /\ Hid (∀ j, j < i -> Zg3 least (l[j]?.getD 0) = false) /\ Below w.heap.size w wr) (fun iv _ => n - (intOf iv).toNat)
 case atStart => exact ⟨0, Nat.zero_le _, rfl, Za (fun j hj => by omega), Below.refl _ _⟩
 case round =>
  obtain ⟨i, hik, rfl, hall, hBp⟩ := hrel
  by_cases hin : i < n
  case neg =>
   obtain rfl : n = i := by omega
   have htk : decide ((n : Int) < (n : Int)) = false := by simp
   obtain rfl : b = false := by
    rw [<- hb.out]
    unfold Zcx
    rw [List.any_eq_false]
    intro e he
    obtain ⟨j, hj, hje⟩ := List.getElem_of_mem he
    have := hall.out j (by rw [hl.out] at hj; exact hj)
    rw [List.getElem?_eq_getElem hj, hje] at this
    simp only [Option.getD_some] at this
    rw [this]; decide
   go_wp2_with fail
   go_ret
   exact ⟨rfl, hBp⟩
  have htk : decide ((i : Int) < (n : Int)) = true := decide_eq_true (by omega)
  obtain ⟨g, o, rfl, hcc⟩ := hg.out (by omega)
  have c0 := (hBp.cell (Zm (hcc i hin))).trans (hcc i hin)
  have hin2 : Zg3 least (l[i]?.getD 0) = true -> b = true := fun hx => by
   rw [<- hb.out]
   unfold Zcx
   rw [List.any_eq_true]
   refine ⟨l[i]?.getD 0, ?_, hx⟩
   have := hl.out
   rw [List.getElem?_eq_getElem (by omega)]
   exact List.getElem_mem _
  have hall1 : Zg3 least (l[i]?.getD 0) = false -> Hid (∀ j, j < i + 1 -> Zg3 least (l[j]?.getD 0) = false) := fun hx => Za (fun j hj => by
   rcases Nat.lt_or_ge j i with h' | h'
   ·exact hall.out j h'
   ·obtain rfl : j = i := by omega
    exact hx)
  clear hcc
  obtain ⟨z, hz⟩ : ∃ z, l[i]?.getD 0 = z := ⟨_, rfl⟩
  rw [hz] at c0 hin2 hall1
  replace hz := Za hz
  replace hin2 := Za hin2
  replace hall1 := Za hall1
  by_cases h1 : z < least
  ·have t1 : decide (z < least) = true := decide_eq_true h1
   obtain rfl : b = true := hin2.out (by unfold Zg3; rw [t1]; rfl)
   go_wp2_with fail
   go_ret
   exact ⟨rfl, hBp⟩
  have t1 : decide (z < least) = false := decide_eq_false h1
  by_cases h2 : 1099511627776 < z
  ·have t2 : decide (1099511627776 < z) = true := decide_eq_true h2
   obtain rfl : b = true := hin2.out (by unfold Zg3; rw [t1, t2]; rfl)
   go_wp2_with fail
   go_ret
   exact ⟨rfl, hBp⟩
  have t2 : decide (1099511627776 < z) = false := decide_eq_false h2
  have hall2 := hall1.out (by unfold Zg3; rw [t1, t2]; rfl)
  clear hall1 hin2
  go_wp2_with fail
  go_roundw
  case rel => exact ⟨i + 1, by omega, by go_num, hall2, (by first | exact hBp | exact Ze hBp _)⟩
  case measure => simp [intOf]; omega
theorem Zqo (A B : Option Addr) (n c m d : Nat) (rs : List RI) (i k : Nat) (w : World) (h : MIL w A n c rs) (hi : i < n) (hk : ∀ r, rs[i]? = some r -> k < r.n) (hn9 : n <= 1000) (hk9 : k <= 1000) :
    Calls Tryz.prog 127 #[.slice A n c, .slice B m d, .int .i64 i, .int .i64 k] w fun e w' => e = .returned (.int .i64 (Zaa rs k i)) /\ Below w.heap.size w w' := by
 obtain ⟨ga, oa, r, rfl, hr, c0, hL⟩ := h.at_ hi
 have hl := hL.1
 have hkn := hk r hr
 have hrl := hL.nlen
 unfold maxLen at hrl
 obtain ⟨gb, ob, hrA, hcc⟩ := hL.2.2.2.2 (by omega)
 have c1 := hcc k hkn
 rw [Zmw hr]
 rw [hrA] at c0
 obtain ⟨z, hz⟩ : ∃ z, r.l[k]?.getD 0 = z := ⟨_, rfl⟩
 rw [hz] at c1 ⊢
 have b1 : (i : Int) < (n : Int) := by omega
 have b2 : (k : Int) < (r.n : Int) := by omega
 have t1 : decide ((k : Int) < 0) = false := decide_eq_false (by omega)
 clear h hL hcc hr hz hk
 go_enter Tryz.func127, Tryz.ntmps127
 go_wp2_with fail
 go_ret
 exact ⟨rfl, by first | exact Below.refl _ _ | exact Ze (Below.refl _ _) _⟩
theorem Zkk (A B : Option Addr) (n c m d : Nat) (rr : List Int) (i : Nat) (w : World) (h : LimI w B m d rr) (hi : i < m) (hm9 : m <= 1000) :
    Calls Tryz.prog 127 #[.slice A n c, .slice B m d, .int .i64 i, .int .i64 (-1)] w fun e w' => e = .returned (.int .i64 (Zac rr i)) /\ Below w.heap.size w w' := by
 obtain ⟨gb, ob, rfl, hcc⟩ := h.2.2.2.2 (by omega)
 have c1 := hcc i hi
 have b1 : (i : Int) < (m : Int) := by omega
 unfold Zac
 clear h hcc
 go_enter Tryz.func127, Tryz.ntmps127
 go_wp2_with fail
 go_ret
 exact ⟨rfl, by first | exact Below.refl _ _ | exact Ze (Below.refl _ _) _⟩
theorem Zm9 (A B C : Option Addr) (n c m d e0 : Nat) (i k : Int) (ws : List Int) (a b : Nat -> Int) (w : World) (hw : LimI w C n e0 ws) (hn9 : n <= 900)
    (ha : ∀ r, r < n -> I64 (a r)) (hb : ∀ r, r < n -> I64 (b r))
    (hA : ∀ (W : World) (r : Nat), Below w.heap.size w W -> r < n -> Calls Tryz.prog 127 #[.slice A n c, .slice B m d, .int .i64 r, .int .i64 i] W fun e W' => e = .returned (.int .i64 (a r)) /\ Below W.heap.size W W')
    (hB : ∀ (W : World) (r : Nat), Below w.heap.size w W -> r < n -> Calls Tryz.prog 127 #[.slice A n c, .slice B m d, .int .i64 r, .int .i64 k] W fun e W' => e = .returned (.int .i64 (b r)) /\ Below W.heap.size W W') :
    Calls Tryz.prog 69 #[.slice A n c, .slice B m d, .slice C n e0, .int .i64 i, .int .i64 k] w (Zh6 w ((Zar ws a b n : Int) : Rat)) := by
 have hmx : Tryz.prog.follows .mixedOrders = true := by kernel_rfl
 have hg := Za hw.2.2.2.2
 have hws := Za hw.2.2.2.1
 have hnc := hw.2.1
 clear hw
 replace hA := Za hA
 replace hB := Za hB
 have haa := Za ha
 have hbb := Za hb
 clear ha hb
 obtain ⟨W0, hW0, hB0, ⟨q0, q1⟩, s0⟩ := Zgb w 45 #[.bool false, .slice none 0 0, .bool false, .slice none 0 0] 43 #[.bool false, .slice none 0 0]
 obtain ⟨gr, hgr'⟩ : ∃ g, w.heap.size = g := ⟨_, rfl⟩
 rw [hgr'] at q0 q1
 obtain ⟨gs, hgs'⟩ : ∃ g, gr + 1 = g := ⟨_, rfl⟩
 rw [hgs'] at q1
 have hgr : w.heap.size <= gr := by omega
 have hgs : w.heap.size <= gs := by omega
 have hgrs : gr ≠ gs := by omega
 obtain ⟨x0, x1, x2, x3⟩ := q1.two
 obtain ⟨V, hV, hBV, qv, kV⟩ := Za3 false none 0 0 hB0 hgs q1
 have qr := kV.2.1 gr _ _ hgrs q0
 clear kV q0
 go_enter Tryz.func69, Tryz.ntmps69
 go_wp2_with fail
 (try rw [hW0])
 (try rw [hV])
 clear hW0 hV x0 x1 x2 x3 s0 q1 hB0
 replace hgr' := Za hgr'
 replace hgs' := Za hgs'
 have hz0 : Wd V false none 0 0 0 := Wd.zero _
 go_loopw [12] (fun iv wr => ∃ (r : Nat) (sn : Bool) (sA : Option Addr) (sk sc : Nat), r <= n /\ iv = .int .i64 r /\ Wd wr sn sA sk sc (Zar ws a b r) /\ Blk wr gs 43 #[.bool sn, .slice sA sk sc] /\ Blk wr gr 45 #[.bool false, .slice none 0 0, .bool false, .slice none 0 0] /\ Below w.heap.size w wr) (fun iv _ => n - (intOf iv).toNat)
 case atStart => exact ⟨0, false, none, 0, 0, Nat.zero_le _, rfl, hz0, qv, qr, hBV⟩
 case round =>
  clear qv qr hBV hz0
  obtain ⟨r, sn, sA, sk, sc, hik, rfl, hs, qs, qr, hBp⟩ := hrel
  obtain ⟨s0, s1, s2, s3⟩ := qs.two
  replace hs := Za hs
  replace qs := Za qs
  replace qr := Za qr
  by_cases hin : r < n
  case neg =>
   obtain rfl : n = r := by omega
   have htk : decide ((n : Int) < (n : Int)) = false := by simp
   generalize Zar ws a b n = D at *
   go_wp2_with fail
   have hSv : Hid (∀ wx, Below wr.heap.size wr wx -> wx.cell? ⟨gs, 0, none⟩ = some (.bool sn) /\ wx.cell? ⟨gs, 1, none⟩ = some (.slice sA sk sc)) := Za (fun wx hbx => ⟨Zb hbx s0, Zb hbx s1⟩)
   have hr : Below wr.heap.size wr wr.drew := Ze (Below.refl _ _) 1
   refine wp_heldS [3] hmx hSv hr (fun hxs => ?_)
   refine Zhz 1 [0] rfl (by kernel_rfl) (hSv.out _ hr) ?_
   (refine tk1 (v := ?_) rfl (Or.inl ⟨by kernel_rfl, ?_⟩) ?_; rotate_left; (· intro W2 hSw; (try dsimp only at hSw); go_simp; try with_reducible rfl); try simp only [Act.put, Ze7, Ze8, Zfh, putG_a, putG_s, putG_z])
   refine tk0 ?_
   refine Zg (i := 1) rfl (by kernel_rfl) (fun K hK => ?_)
   go_simp
   refine (Zev 1 _ (by decide) (by decide)).mono ?_
   rintro e w7 ⟨hb7, n7, A7, k7, c7, rfl, hf8⟩
   have hr7 : Below wr.heap.size wr w7 := hr.trans (hb7.mono hr.size)
   refine hK.out _ _ (fun _ => hSv.out _ hr7) ?_
   clear hK K
   try simp only [Act.put, Ze7, Ze8, Zfh]
   refine Zfo 1 [2] rfl (by kernel_rfl) (hSv.out _ hr7) ?_
   (refine tk1 (v := ?_) rfl (Or.inl ⟨by kernel_rfl, ?_⟩) ?_; rotate_left; (· intro W2 _; go_simp; try with_reducible rfl); try simp only [Act.put, Ze7, Ze8, Zfh, putG_a, putG_s, putG_z])
   refine tk0 ?_
   have qr8 := Zc hr7 qr.out
   have hB8 := hBp.trans (hr7.mono hBp.size)
   have hf9 : Fr w7 sn sA sk sc n7 A7 k7 c7 (D : Rat) := ⟨by rw [Rat.num_intCast]; exact hs.out.below hr7, by rw [Rat.den_intCast]; exact hf8⟩
   obtain ⟨W9, hV9, hW9, q9, k9⟩ := Zz sn sA sk sc n7 A7 k7 c7 hB8 hgr qr8
   have hf10 := Za (Fr.keep hf9 k9.1)
   obtain ⟨y0, y1, y2, y3, y4, y5, y6, y7⟩ := qr8.four
   obtain ⟨z0, z1, z2, z3, -⟩ := q9.four
   refine Zn (i := 3) rfl (by kernel_rfl) (by kernel_rfl) (fun K hK => ?_)
   go_simp
   (try rw [hV9])
   refine hK.out _ _ ?_
   clear hK K
   try simp only [Act.put, Ze7, Ze8, Zfh]
   refine Zl (by kernel_rfl) ?_ _
   refine OnlyNormal.normal ?_
   clear hV9 y0 y1 y2 y3 y4 y5 y6 y7 hr7 hr hSv hxs hf9 qr8 k9 hb7 s0 s1 s2 s3 hB8
   go_wp2_with fail
   refine bodyPost_ret (v := .agg #[.bool sn, .slice sA sk sc, .bool n7, .slice A7 k7 c7]) (by simp [results, Tryz.results69, go_sem, z0, z1, z2, z3]) rfl ?_
   exact ⟨hW9, _, _, _, _, _, _, _, _, rfl, hf10.out⟩
  have htk : decide ((r : Int) < (n : Int)) = true := decide_eq_true (by omega)
  have bi : (r : Int) < (n : Int) := by omega
  obtain ⟨g, o, rfl, hcc⟩ := hg.out (by omega)
  have ci := (hBp.cell (Zm (hcc r hin))).trans (hcc r hin)
  clear hcc
  have hx := Zcv hws.out r
  have ha := haa.out r hin
  have hb0 := hbb.out r hin
  have hsum : (Zar ws a b r + (ws[r]?.getD 0) * (a r * b r)).natAbs < pw 4096 := Zm4 (i := r + 1) hws.out (by omega) (fun j hj => ⟨haa.out j (by omega), hbb.out j (by omega)⟩)
  have hnext : Zar ws a b (r + 1) = Zar ws a b r + (ws[r]?.getD 0) * (a r * b r) := rfl
  obtain ⟨x, hxe⟩ : ∃ x, ws[r]?.getD 0 = x := ⟨_, rfl⟩
  rw [hxe] at hx ci hnext hsum
  replace hsum := Za hsum
  replace hnext := Za hnext
  replace hxe := Za hxe
  go_wp2_with fail
  refine (hA.out wr r hBp hin).mono ?_
  rintro e w1 ⟨rfl, hW1⟩
  go_wp2_with fail
  refine (Zev (a r) w1 ha.1 ha.2).mono ?_
  rintro e w2 ⟨hb2, n2, A2, k2, c2, rfl, hf2⟩
  have hW2 := hW1.trans (hb2.mono hW1.size)
  go_wp2_with fail
  refine (hB.out w2 r (hBp.trans (hW2.mono hBp.size)) hin).mono ?_
  rintro e w3 ⟨rfl, hb3⟩
  go_wp2_with fail
  refine (Zev (b r) w3 hb0.1 hb0.2).mono ?_
  rintro e w4 ⟨hb4, n4, A4, k4, c4, rfl, hf4⟩
  have h24 := hb3.trans (hb4.mono hb3.size)
  have hW4 := hW2.trans (h24.mono hW2.size)
  obtain ⟨W5, hV5, hb5, ⟨p0, p1⟩, s5⟩ := Zgb w4 43 #[.bool n2, .slice A2 k2 c2] 43 #[.bool n4, .slice A4 k4 c4]
  have h25 := h24.trans (hb5.mono h24.size)
  have hW5 := hW4.trans (hb5.mono hW4.size)
  have hab := Zqw ha hb0
  obtain ⟨x0, x1, x2, x3⟩ := p0.two
  obtain ⟨y0, y1, y2, y3⟩ := p1.two
  have habx : (a r * b r * x).natAbs < pw 4096 := by rw [Int.mul_comm]; exact Zkq hx ha hb0
  go_wp2_with fail
  (try rw [hV5])
  refine (Zfs n2 n4 A2 A4 k2 c2 k4 c4 _ _ W5 (hf2.below h25) (hf4.below hb5)).mono ?_
  rintro e w6 ⟨hb6, n6, A6, k6, c6, code, rfl, hR⟩
  have hf6 := hR.small hab
  have hW6 := hW5.trans (hb6.mono hW5.size)
  obtain ⟨V6, hV6, hW7, qv6, kW6, -, sV6⟩ := Z0 43 #[.bool n6, .slice A6 k6 c6] hW6 hW6.size
  obtain ⟨gw, hgw⟩ : ∃ g, w6.heap.size = g := ⟨_, rfl⟩
  rw [hgw] at qv6
  have hf7 := Za (kW6 _ _ _ _ _ hf6)
  have hgwr : wr.heap.size <= gw := by rw [<- hgw]; exact hW6.size
  clear hf6 hf2 hf4 hb2 hb3 hb4 hb5 hb6 h24 h25 hW1 hW2 hW4 hW5 hW6 kW6 hR s5 x0 x1 x2 x3 y0 y1 y2 y3 p0 p1
  go_wp2_with fail
  (try rw [hV6])
  (try rw [hgw])
  replace hgw := Za hgw
  have c1 := Zb hW7 ci
  obtain ⟨x0, x1, x2, x3⟩ := qv6.two
  clear hV6 hV5
  have hSv : Hid (∀ wx, Below V6.heap.size V6 wx -> wx.cell? ⟨gw, 0, none⟩ = some (.bool n6) /\ wx.cell? ⟨gw, 1, none⟩ = some (.slice A6 k6 c6) /\ wx.cell? ⟨g, o + r, none⟩ = some (.int .i64 x)) := Za (fun wx hbx => ⟨Zb hbx x0, Zb hbx x1, Zb hbx c1⟩)
  have hr : Below V6.heap.size V6 V6.drew := Ze (Below.refl _ _) 1
  refine wp_heldS [10] hmx hSv hr (fun hxs => ?_)
  refine Zhz 1 [0] rfl (by kernel_rfl) (hSv.out _ hr) ?_
  (refine tk1 (v := ?_) rfl (Or.inl ⟨by kernel_rfl, ?_⟩) ?_; rotate_left; (· intro W2 hSw; (try dsimp only at hSw); go_simp; try with_reducible rfl); try simp only [Act.put, Ze7, Ze8, Zfh, putG_a, putG_s, putG_z])
  refine tk0 ?_
  refine Zfo 3 [1, 2, 3] rfl (by kernel_rfl) (hSv.out _ hr) ?_
  iterate 3 (refine tk1 (v := ?_) rfl (Or.inl ⟨by kernel_rfl, ?_⟩) ?_; rotate_left; (· intro W2 _; go_simp; try with_reducible rfl); try simp only [Act.put, Ze7, Ze8, Zfh, putG_a, putG_s, putG_z])
  refine tk0 ?_
  refine Zhz 1 [4] rfl (by kernel_rfl) (hSv.out _ hr) ?_
  (refine tk1 (v := ?_) rfl (Or.inl ⟨by kernel_rfl, ?_⟩) ?_; rotate_left; (· intro W2 hSw; (try dsimp only at hSw); go_simp; try with_reducible rfl); try simp only [Act.put, Ze7, Ze8, Zfh, putG_a, putG_s, putG_z])
  refine tk0 ?_
  refine Zg (i := 5) rfl (by kernel_rfl) (fun K hK => ?_)
  go_simp
  refine (Zev x _ hx.1 hx.2).mono ?_
  rintro e w7 ⟨hb7, n7, A7, k7, c7, rfl, hf8⟩
  have hr7 : Below V6.heap.size V6 w7 := hr.trans (hb7.mono hr.size)
  refine hK.out _ _ (fun _ => hSv.out _ hr7) ?_
  clear hK K
  try simp only [Act.put, Ze7, Ze8, Zfh]
  refine Zg (i := 6) rfl (by kernel_rfl) (fun K hK => ?_)
  go_simp
  refine (Zfs n6 n7 A6 A7 k6 c6 k7 c7 _ _ w7 (hf7.out.below hr7) hf8).mono ?_
  rintro e w8 ⟨hb8, n8, A8, k8, c8, code8, rfl, hR8⟩
  have hf9 := hR8.small habx
  have hr8 : Below V6.heap.size V6 w8 := hr7.trans (hb8.mono hr7.size)
  refine hK.out _ _ (fun _ => hSv.out _ hr8) ?_
  clear hK K hR8
  try simp only [Act.put, Ze7, Ze8, Zfh]
  refine Zfo 3 [7, 8, 9] rfl (by kernel_rfl) (hSv.out _ hr8) ?_
  iterate 3 (refine tk1 (v := ?_) rfl (Or.inl ⟨by kernel_rfl, ?_⟩) ?_; rotate_left; (· intro W2 _; go_simp; try with_reducible rfl); try simp only [Act.put, Ze7, Ze8, Zfh, putG_a, putG_s, putG_z])
  refine tk0 ?_
  have qw8 := Zc hr8 qv6
  have hW8 := hW7.trans (hr8.mono hW7.size)
  obtain ⟨W9, hV9, hW9, q9, k9⟩ := Za3 n8 A8 k8 c8 hW8 hgwr qw8
  have hf10 := k9.1 _ _ _ _ _ hf9
  obtain ⟨y0, y1, y2, y3⟩ := qw8.two
  refine Zn (i := 10) rfl (by kernel_rfl) (by kernel_rfl) (fun K hK => ?_)
  go_simp
  (try rw [hV9])
  refine hK.out _ _ ?_
  clear hK K
  try simp only [Act.put, Ze7, Ze8, Zfh]
  refine Zl (by kernel_rfl) ?_ _
  refine OnlyNormal.normal ?_
  clear hV9 y0 y1 y2 y3 hr7 hr8 hr hSv hxs hf7 hf8 hf9 qw8 k9 hb7 hb8 x0 x1 x2 x3 c1 ci hW8 hW7
  have qs9 := Zc hW9 qs.out
  have qr9 := Zc hW9 qr.out
  have hs9 := hs.out.below hW9
  have hB9 := hBp.trans (hW9.mono hBp.size)
  obtain ⟨z0, z1, z2, z3⟩ := qs9.two
  obtain ⟨y0, y1, y2, y3⟩ := q9.two
  replace hs9 := Za hs9
  replace hf10 := Za hf10
  clear s0 s1 s2 s3
  go_wp2_with fail
  refine (Zq5 sn n8 sA A8 sk sc k8 c8 _ _ W9 hs9.out hf10.out).mono ?_
  rintro e w10 ⟨hb10, n10, A10, k10, c10, code10, rfl, hR10⟩
  have hadd : Zar ws a b r + a r * b r * x = Zar ws a b (r + 1) := by rw [hnext.out, Int.mul_comm x]
  have hf11 := hR10.small (by rw [hadd, hnext.out]; exact hsum.out)
  have hB10 := hB9.trans (hb10.mono hB9.size)
  have qs10 := Zc hb10 qs9
  have qr10 := Zc hb10 qr9
  obtain ⟨W11, hV11, hB11, q11, k11⟩ := Za3 n10 A10 k10 c10 hB10 hgs qs10
  have hf12 := Za (k11.1 _ _ _ _ _ hf11)
  have qr11 := k11.2.1 gr _ _ hgrs qr10
  obtain ⟨v0, v1, v2, v3⟩ := qs10.two
  replace q11 := Za q11
  replace qr11 := Za qr11
  replace hB11 := Za hB11
  replace hadd := Za hadd
  clear z0 z1 z2 z3 y0 y1 y2 y3 hR10 hf11 k11 qs9 qr9 q9 hb10 hB9 hB10 hs9 hf10 qs10 qr10
  go_wp2_with fail
  (try rw [hV11])
  clear v0 v1 v2 v3 hV11
  go_roundw
  case rel => exact ⟨r + 1, n10, A10, k10, c10, by omega, by go_num, hf12.out.same hadd.out, q11.out, qr11.out, hB11.out⟩
  case measure => simp [intOf]; omega
end Go.Proofs.YtigdclhagmnopaaGreat
