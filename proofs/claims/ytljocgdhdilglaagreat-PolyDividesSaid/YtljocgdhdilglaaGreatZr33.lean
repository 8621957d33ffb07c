/- Package frac: want, catch. Package frac: Of, cross. Package poly: content; package wide: Sign. Package poly: part. -/
import Derived.Defers
import Derived.Recover
import Derived.Test.YtljocgdhdilglaaGreatZr32
import Derived.Test.YtljocgdhdilglaaGreatZr12
import Derived.Test.YtljocgdhdilglaaGreatZr13
import Derived.Test.YtljocgdhdilglaaGreatZr22
import Derived.Test.YtljocgdhdilglaaGreatZr29
import Derived.Test.YtljocgdhdilglaaGreatZr30
import Derived.Test.YtljocgdhdilglaaGreatZr01
import Derived.Test.YtljocgdhdilglaaGreatZr14
import Derived.Test.YtljocgdhdilglaaGreatZr31
import Derived.Test.YtljocgdhdilglaaGreatZr15
set_option linter.unusedSimpArgs false
set_option linter.unusedVariables false

namespace Go.Proofs.YtljocgdhdilglaaGreat
open Go.RowKit
attribute [local go_sem] add_lit

set_option maxRecDepth 100000 in
theorem want_ok (w : World) :
    Calls Tryz.prog 83 #[.int .i64 0] w fun e w' => e = .returned (.tuple #[]) ∧ w' = w := by
  go_enter Tryz.func83, Tryz.ntmps83
  go_wp2_with fail
  go_end0
  exact ⟨rfl, rfl⟩

set_option maxRecDepth 100000 in
theorem catch_idle (p : Addr) (w : World) :
    CallsD Tryz.prog 82 #[.pointer (some p)] .returning w fun e u' w' => e = .returned (.tuple #[]) ∧ u' = .returning ∧ w' = w := by
  refine callsD_of_wpS Tryz.func82 rfl fun c₀ cs hu => ?_
  apply wpS_seq
  apply wpS_region
  simp [wpOpsS, go_sem, recoverD, hu, Tryz.ntmps82, Exit.thenS]
  rw [show (#[Value.pointer (some p)] ++ (Array.replicate 14 undef).setIfInBounds 4 Value.nilIface) = #[Value.pointer (some p), undef, undef, undef, undef, Value.nilIface, undef, undef, undef, undef, undef, undef, undef, undef, undef] from rfl]
  refine wpS_of_wp ?_
  go_wp2_with fail
  cases c₀
  simp_all [bodyPostS, results, Tryz.results82]

theorem as_fall (x : Int) (w : World) : (Instr.typeAssert (.iface 119 (.agg #[.int .i64 x])) 20 119 true).run Tryz.prog w = .ok (.tuple #[.agg #[.int .i64 x], .bool true]) w := by kernel_rfl

set_option maxRecDepth 100000 in
theorem catch_fall (p : Addr) (x y : Int) (w : World) (hc : w.cell? p = some (.int .i64 y)) (hz : w.frozen? p = false) :
    CallsD Tryz.prog 82 #[.pointer (some p)] (.panicking [{ v := .iface 119 (.agg #[.int .i64 x]), recovered := false }]) w fun e u' w' =>
      e = .returned (.tuple #[]) ∧ u' = .panicking [{ v := .iface 119 (.agg #[.int .i64 x]), recovered := true }] ∧ w' = (w.alloc (.cells #[.int .i64 x] 119)).setCell p (.int .i64 x) := by
  have hlt := lt_of_cell hc
  have hc1 : (w.alloc (.cells #[.int .i64 x] 119)).cell? p = some (.int .i64 y) := by rw [World.cell?_alloc_lt _ _ _ hlt]; exact hc
  have hz1 : (w.alloc (.cells #[.int .i64 x] 119)).frozen? p = false := by exact ((Below.refl w.heap.size w).alloc (Nat.le_refl _) _ |>.frozen hlt).trans hz
  have hta := as_fall x
  refine callsD_of_wpS Tryz.func82 rfl fun c₀ cs hu => ?_
  apply wpS_seq
  apply wpS_region
  simp [wpOpsS, go_sem, recoverD, hu, Tryz.ntmps82, Exit.thenS]
  rw [show (#[Value.pointer (some p)] ++ (Array.replicate 14 undef).setIfInBounds 4 (Value.iface 119 (.agg #[.int .i64 x]))) = #[Value.pointer (some p), undef, undef, undef, undef, Value.iface 119 (.agg #[.int .i64 x]), undef, undef, undef, undef, undef, undef, undef, undef, undef] from rfl]
  refine wpS_of_wp ?_
  go_wp2_with fail
  simp [bodyPostS, results, Tryz.results82]

set_option maxRecDepth 100000 in
theorem want_fall (x : Int) (w : World) (hx : (x == 0) = false) :
    Calls Tryz.prog 83 #[.int .i64 x] w fun e w' => e = .panicked [{ v := .iface 119 (.agg #[.int .i64 x]), recovered := false }] ∧ w' = w := by
  go_enter Tryz.func83, Tryz.ntmps83
  go_wp2_with fail
  exact ⟨rfl, rfl, rfl⟩

set_option maxRecDepth 100000 in
set_option maxHeartbeats 1000000 in
theorem Make_pos (na : Bool) (A B : Option Addr) (n c m d : Nat) (za zb : Int) (w : World) (ha : Wd w na A n c za) (hb : Wd w false B m d zb) (h0 : 0 < zb) :
    Calls Tryz.prog 52 #[.agg #[.bool na, .slice A n c], .agg #[.bool false, .slice B m d]] w (FracE w (Rat.divInt za zb)) := by
  have hm0 : 0 < m := by rw [← hb.lim.len]; exact length_digits_pos.2 (by omega)
  have hm0' : ((m : Int) == 0) = false := by simp; omega
  have hm := hb.2.1
  have HA := hide ha
  have HB := hide hb
  clear ha hb
  obtain ⟨W0, hW0, hB0, hq, s0⟩ := alloc4 w 25 #[.bool na, .slice A n c] 25 #[.bool false, .slice B m d] 27 #[.bool false, .slice none 0 0, .bool false, .slice none 0 0] 32 #[.int .i64 0]
  replace hW0 := hide hW0
  replace hq := hide hq
  go_enter_defers Tryz.func52, Tryz.ntmps52
  go_wp2_with fail
  rw [hW0.out]
  have HA0 := hide (HA.out.below hB0)
  have HB0 := hide (HB.out.below hB0)
  clear HA HB hW0
  refine (Check_any na A n c _ W0 HA0.out.lim).mono ?_
  rw [HA0.out.ok]
  rintro e w1 ⟨rfl, hb1⟩
  have hB1 : Below w.heap.size w w1 := hB0.trans (hb1.mono hB0.size)
  have s1 : W0.heap.size ≤ w1.heap.size := hb1.size
  have HA1 := hide (HA0.out.below hb1)
  have HB1 := hide (HB0.out.below hb1)
  obtain ⟨q0, q1, q2, q3⟩ := hq.out
  replace q0 := keep_blk hb1 q0
  replace q1 := keep_blk hb1 q1
  replace q2 := keep_blk hb1 q2
  replace q3 := keep_blk hb1 q3
  obtain ⟨c00, c01, -, -⟩ := q0.two
  obtain ⟨c10, c11, -, -⟩ := q1.two
  clear hq hb1 HA0 HB0 hB0
  have hq := hide (And.intro q0 (And.intro q1 (And.intro q2 q3)))
  clear q0 q1 q2 q3
  simp only [errOf, if_true]
  go_wp2_with fail
  refine (want_ok w1).mono ?_
  rintro e w1 ⟨rfl, rfl⟩
  go_wp2_with fail
  refine (Check_any false B m d _ w1 HB1.out.lim).mono ?_
  rw [HB1.out.ok]
  rintro e w2 ⟨rfl, hb2⟩
  have hB2 : Below w.heap.size w w2 := hB1.trans (hb2.mono hB1.size)
  have s2 : w1.heap.size ≤ w2.heap.size := hb2.size
  have HA2 := hide (HA1.out.below hb2)
  have HB2 := hide (HB1.out.below hb2)
  obtain ⟨q0, q1, q2, q3⟩ := hq.out
  replace q0 := keep_blk hb2 q0
  replace q1 := keep_blk hb2 q1
  replace q2 := keep_blk hb2 q2
  replace q3 := keep_blk hb2 q3
  clear c00 c01 c10 c11
  obtain ⟨c00, c01, -, -⟩ := q0.two
  obtain ⟨c10, c11, -, -⟩ := q1.two
  clear hq hb2 HA1 HB1 hB1
  have hq := hide (And.intro q0 (And.intro q1 (And.intro q2 q3)))
  clear q0 q1 q2 q3
  simp only [errOf, if_true]
  go_wp2_with fail
  refine (want_ok w2).mono ?_
  rintro e w2 ⟨rfl, rfl⟩
  go_wp2_with fail
  refine (zero_any false B m d w2 (by omega) false hm0').mono ?_
  rintro e w3 ⟨rfl, hb3⟩
  have hB3 : Below w.heap.size w w3 := hB2.trans (hb3.mono hB2.size)
  have s3 : w2.heap.size ≤ w3.heap.size := hb3.size
  have HA3 := hide (HA2.out.below hb3)
  have HB3 := hide (HB2.out.below hb3)
  obtain ⟨q0, q1, q2, q3⟩ := hq.out
  replace q0 := keep_blk hb3 q0
  replace q1 := keep_blk hb3 q1
  replace q2 := keep_blk hb3 q2
  replace q3 := keep_blk hb3 q3
  clear c00 c01 c10 c11
  obtain ⟨c00, c01, -, -⟩ := q0.two
  obtain ⟨c10, c11, -, -⟩ := q1.two
  clear hq hb3 HA2 HB2 hB2
  have hq := hide (And.intro q2 q3)
  clear q0 q1 q2 q3
  go_wp2_with fail
  refine (reduce_pos na A B n c m d za zb w3 HA3.out HB3.out h0).mono ?_
  rintro e w4 ⟨hb4, nx, Ax, kx, cx, ny, Ay, ky, cy, rfl, hF⟩
  have hB4 : Below w.heap.size w w4 := hB3.trans (hb4.mono hB3.size)
  have s4 : w3.heap.size ≤ w4.heap.size := hb4.size
  have q2 := keep_blk hb4 hq.out.1
  have q3 := keep_blk hb4 hq.out.2
  clear hq hb4 HA3 HB3 hB3 c00 c01 c10 c11
  have c2 := hide q2.four
  have c3 := q3.cell 0
  have f3 := q3.frozen 0
  simp at c3
  obtain ⟨c20, c21, c22, c23, f20, f21, f22, f23⟩ := c2.out
  have hq := hide (And.intro q2 q3)
  clear q2 q3
  go_wp2_with fail
  obtain ⟨W5, hW5, hB5, q2, kW, kB, s5⟩ := set_frac nx Ax kx cx ny Ay ky cy hB4 (by omega) hq.out.1
  have q3 := kB _ _ _ (by omega) hq.out.2
  have HX5 := hide (kW _ _ _ _ _ hF.1)
  have HY5 := hide (kW _ _ _ _ _ hF.2)
  rw [hW5]
  clear kW kB c20 c21 c22 c23 c3 f3 f20 f21 f22 f23 hq hF
  obtain ⟨W6, hW6, hB6, q3, kW, kB, s6⟩ := set_code 0 hB5 (by omega) q3
  replace q2 := kB _ _ _ (by omega) q2
  have HX6 := hide (kW _ _ _ _ _ HX5.out)
  have HY6 := hide (kW _ _ _ _ _ HY5.out)
  rw [hW6]
  obtain ⟨r0, r1, r2, r3, -⟩ := q2.four
  have r4 := q3.cell 0
  simp at r4
  clear kW kB hB5 HX5 HY5 hW5 hW6
  refine leaves_cons (f := 82) (args := #[.pointer (some ⟨w.heap.size + 1 + 1 + 1, 0, none⟩)]) (by simp) (by simp [go_sem]) ?_
  refine (catch_idle _ _).mono ?_
  rintro e u' w'' ⟨rfl, rfl, rfl⟩
  refine ⟨.tuple #[.agg #[.bool nx, .slice Ax kx cx, .bool ny, .slice Ay ky cy], .int .i64 0], by simp [results, Tryz.results52, go_sem, r0, r1, r2, r3, r4], ?_⟩
  exact ⟨hB6, _, _, _, _, _, _, _, _, rfl, HX6.out, HY6.out⟩
end Go.Proofs.YtljocgdhdilglaaGreat

namespace Go.Proofs.YtljocgdhdilglaaGreat
open Go.RowKit
attribute [local go_sem] add_lit

/-- One new block. -/
theorem alloc1 (w : World) (t0 : TypeId) (c0 : Array Value) :
    ∃ W, w.alloc (.cells c0 t0) = W ∧ Below w.heap.size w W ∧ Blk W w.heap.size t0 c0 ∧ W.heap.size = w.heap.size + 1 :=
  ⟨_, rfl, (Below.refl w.heap.size w).alloc (Nat.le_refl _) _, Blk.new _ _ _, by simp⟩

end Go.Proofs.YtljocgdhdilglaaGreat

namespace Go.Proofs.YtljocgdhdilglaaGreat
open Go.RowKit
attribute [local go_sem] add_lit

theorem gcdZ_small {a b : Int} {M : Nat} (ha : a.natAbs < M) (hb : b.natAbs < M) : (gcdZ a b).natAbs < M := by
  unfold gcdZ
  rw [Int.natAbs_natCast]
  rcases Nat.eq_zero_or_pos b.natAbs with h | h
  · rw [h, Nat.gcd_zero_right]; exact ha
  · exact Nat.lt_of_le_of_lt (Nat.gcd_le_right _ h) hb

set_option maxRecDepth 100000 in
set_option maxHeartbeats 2000000 in
theorem content_ok (A : Option Addr) (n c : Nat) (es : List WE) (w : World) (hL : WL w A n c es) (hk : ∀ e ∈ es, e.ok = true) :
    Calls Tryz.prog 62 #[.slice A n c] w (NumW w (contP (es.map WE.num))) := by
  have hnc := hL.2.1
  have hcm := hL.2.2.1
  unfold maxLen at hcm
  have hlen := hL.len
  obtain ⟨W0, hW0, hB, q, sz⟩ := alloc1 w 25 #[.bool false, .slice none 0 0]
  go_enter Tryz.func62, Tryz.ntmps62
  go_wp2_with fail
  replace hL := hide hL
  go_loopw [7] (fun iv wx => ∃ (k : Nat) (ns : Bool) (As : Option Addr) (ks cs : Nat), k ≤ n ∧ iv = .int .i64 k ∧ Below w.heap.size w wx ∧ Blk wx w.heap.size 25 #[.bool ns, .slice As ks cs] ∧ Wd wx ns As ks cs (contK (es.map WE.num) k)) (fun iv _ => n - (intOf iv).toNat)
  case atStart => exact ⟨0, _, _, _, _, Nat.zero_le _, rfl, hB, q, Wd.zero _⟩
  case round =>
    clear q hB hW0
    obtain ⟨k, ns, As, ks, cs, hk1, rfl, hbr, q, hz⟩ := hrel
    by_cases hkn : k < n
    case neg =>
      obtain rfl : n = k := by omega
      have htk : decide ((n : Int) < (n : Int)) = false := by simp
      obtain ⟨s0, s1, s2, s3⟩ := q.two
      obtain ⟨Z, hZ, hBZ, qz, st⟩ := set_num ns As ks cs hbr (Nat.le_refl _) q
      have hz2 := hide (st.1 _ _ _ _ _ hz)
      obtain ⟨t0, t1, t2, t3⟩ := qz.two
      have hlt := qz.lt
      clear st
      replace hz := hide hz
      go_wp2_with fail
      refine bodyPost_ret (v := .agg #[.bool ns, .slice As ks cs]) (by simp [results, Tryz.results62, go_sem, t0, t1, hlt]) rfl ?_
      exact ⟨hBZ, _, _, _, _, rfl, by unfold contP; rw [List.length_map, hlen]; exact hz2.out⟩
    have htk : decide ((k : Int) < (n : Int)) = true := by simp; omega
    obtain ⟨b, o, e, rfl, he, c1, c2, -⟩ := (hL.out.below hbr).at_ hkn
    have hme : e ∈ es := List.mem_of_getElem? he
    have hwe : Wd wr e.neg e.A e.n e.c e.num := WE.wd ((hL.out.below hbr).2.2.2.2 e hme) (hk e hme)
    have hcK : contK (es.map WE.num) (k + 1) = gcdZ (contK (es.map WE.num) k) e.num := by
      show gcdZ _ ((es.map WE.num)[k]?.getD 0) = _
      rw [List.getElem?_map, he]; rfl
    replace hcK := hide hcK
    replace he := hide he
    have hql := q.lt
    obtain ⟨Y, hY, hBY, ka, yd, yb, ysz⟩ := new_obj 25 #[.bool false, .slice none 0 0] hbr hbr.size
    replace q := yb _ _ _ q
    replace hz := yd _ _ _ _ _ hz
    replace hwe := yd _ _ _ _ _ hwe
    obtain ⟨y0, y1, y2, y3⟩ := ka.two
    obtain ⟨X, hX, hBX, ka, st⟩ := set_num e.neg e.A e.n e.c hBY hbr.size ka
    replace q := st.2.1 _ _ _ (by omega) q
    replace hz := hide (st.1 _ _ _ _ _ hz)
    replace hwe := hide (st.1 _ _ _ _ _ hwe)
    obtain ⟨s0, s1, -, -⟩ := q.two
    obtain ⟨a0, a1, -, -⟩ := ka.two
    clear st yd yb
    go_wp2_with fail
    refine (Gcd_ok ns e.neg As e.A ks cs e.n e.c (contK (es.map WE.num) k) e.num X hz.out hwe.out).mono ?_
    rintro ee w3 ⟨hb3, n3, A3, m3, d3, code3, rfl, hp3⟩
    have hg : Wd w3 n3 A3 m3 d3 (gcdZ (contK (es.map WE.num) k) e.num) := hp3.small (gcdZ_small hz.out.small hwe.out.small)
    clear y0 y1 y2 y3 s0 s1 a0 a1 hX hY ka hp3 c1 c2
    replace hBX := hBX.trans (hb3.mono hBX.size)
    replace q := keep_blk hb3 q
    obtain ⟨s0, s1, s2, s3⟩ := q.two
    obtain ⟨Z, hZ, hBZ, qz, st⟩ := set_num n3 A3 m3 d3 hBX (Nat.le_refl _) q
    have hg2 := hide (st.1 _ _ _ _ _ hg)
    clear st hg q hz hwe
    go_wp2_with fail
    go_round
    case rel => exact ⟨k + 1, _, _, _, _, by omega, by go_num, hBZ, qz, by rw [hcK.out]; exact hg2.out⟩
    case measure => simp [intOf]; omega
end Go.Proofs.YtljocgdhdilglaaGreat

namespace Go.Proofs.YtljocgdhdilglaaGreat
open Go.RowKit
attribute [local go_sem] add_lit

/-- A number is kept by a store of an element. -/
theorem Wd.keepO {w : World} {neg : Bool} {A : Option Addr} {n c : Nat} {z : Int} {t : TypeId} {g : Nat} {xs : List Int} (h : Wd w neg A n c z) (ho : POwn t w g xs) (i : Nat) (b : Bool) (A' : Option Addr) (n' c' : Nat) : Wd ((w.setCell ⟨g, i * 2, none⟩ (.bool b)).setCell ⟨g, i * 2 + 1, none⟩ (.slice A' n' c')) neg A n c z := by
  obtain ⟨es, h1, h2, rfl⟩ := ho
  have hb1 := h1.set_ (i * 2) (.bool b)
  exact ⟨h.1, h.2.1, (h.2.2.set_box h1 (cellsW_noLimb es) _ _).set_box hb1 (cellsW_noLimb1 _ _ _) _ _⟩
theorem part_sign {es : List WE} {n : Nat} (hl : es.length = n) (h0 : 0 < n) {e : WE} (he : es[n - 1]? = some e) : signP (es.map WE.num) = if e.num < 0 then -contP (es.map WE.num) else contP (es.map WE.num) := by
  unfold signP
  rw [List.length_map, hl, List.getElem?_map, he]
  rfl

set_option maxRecDepth 100000 in
set_option maxHeartbeats 4000000 in
theorem part_ok (A : Option Addr) (n c : Nat) (es : List WE) (w : World) (hL : WL w A n c es) (hk : ∀ e ∈ es, e.ok = true) (hn : n ≤ 1000) (hg0 : n = 0 ∨ signP (es.map WE.num) ≠ 0) :
    Calls Tryz.prog 41 #[.slice A n c] w fun e w' => Below w.heap.size w w' ∧ ∃ A' c', e = .returned (.slice A' n c') ∧ PolyL w' A' n c' (partP (es.map WE.num)) := by
  have hlen := hide hL.len
  have hnc := hL.2.1
  obtain ⟨i0, hi, hz0, hz1, hz2⟩ := info_parts infoW
  have hc0 := content_ok A n c es w hL hk
  replace hL := hide hL
  replace hg0 := hide hg0
  go_enter Tryz.func41, Tryz.ntmps41
  go_wp2_with fail
  refine hc0.mono ?_
  rintro e w1 ⟨hb1, ng, Ag, kg, cg, rfl, hg1⟩
  clear hc0
  obtain ⟨gG, hgG⟩ : ∃ g, w1.heap.size = g := ⟨_, rfl⟩
  have hgGw : w.heap.size ≤ gG := by rw [← hgG]; exact hb1.size
  obtain ⟨V, hV, hBV, q, vd, vb, vsz⟩ := new_obj 25 #[.bool false, .slice none 0 0] hb1 hb1.size
  replace hg1 := vd _ _ _ _ _ hg1
  obtain ⟨y0, y1, y2, y3⟩ := q.two
  obtain ⟨X, hX, hBX, q, st⟩ := set_num ng Ag kg cg hBV hb1.size q
  replace hg1 := st.1 _ _ _ _ _ hg1
  clear st vd vb
  obtain ⟨s0, s1, s2, s3⟩ := q.two
  rw [hgG] at q s0 s1 s2 s3 y0 y1 y2 y3 hX
  by_cases hn0 : n = 0
  · have t0 : decide ((0 : Int) < (n : Int)) = false := by simp; omega
    have t0' : decide (0 < n) = false := by simp; omega
    have hsP : signP (es.map WE.num) = contP (es.map WE.num) := by
      have : es = [] := List.eq_nil_of_length_eq_zero (by rw [hlen.out]; exact hn0)
      subst this
      rfl
    rw [← hsP] at hg1
    replace hsP := hide hsP
    replace hn0 := hide hn0
    have hsz := q.lt
    have hmk := makeW (P := Tryz.prog) 22 25 Tryz.underlying22 hi hz0 hz1 hz2 (n : Int) n rfl (by omega)
    go_wp2_with fail
    clear hmk
    obtain ⟨gO, hgO⟩ : ∃ g, X.heap.size = g := ⟨_, rfl⟩
    have hgOw : w.heap.size ≤ gO := by rw [← hgO]; exact hBX.size
    have hown0 := POwn.new 25 X n
    have hB0 := hBX.alloc hBX.size (.cells (cellsW (List.replicate n zeroWE)) 25)
    have q0 := q.alloc (.cells (cellsW (List.replicate n zeroWE)) 25)
    have hs0 := hg1.alloc (.cells (cellsW (List.replicate n zeroWE)) 25)
    rw [hgO] at hown0 hsz ⊢
    go_loopw [31] (fun iv wx => ∃ (k : Nat) (o : List Int), k ≤ n ∧ iv = .int .i64 k ∧ POwn 25 wx gO o ∧ Hid (o.length = n) ∧ Hid (∀ j, j < k → o[j]?.getD 0 = Int.fdiv ((es.map WE.num)[j]?.getD 0) (signP (es.map WE.num))) ∧ Below w.heap.size w wx ∧ Blk wx gG 25 #[.bool ng, .slice Ag kg cg] ∧ Wd wx ng Ag kg cg (signP (es.map WE.num)) ∧ gO < wx.heap.size) (fun iv _ => n - (intOf iv).toNat)
    case atStart => exact ⟨0, List.replicate n 0, Nat.zero_le _, rfl, hown0, by unfold Hid; simp, hide (fun j hj => by omega), hB0, q0, hs0, by rw [← hgO]; simp⟩
    case round =>
      clear hown0 hB0 q0 hs0
      obtain ⟨k, o, hk1, rfl, hown, hol, hod, hbr, qg, hsg, hgw⟩ := hrel
      by_cases hkn : k < n
      case neg =>
        obtain rfl : n = k := by omega
        have htk : decide ((n : Int) < (n : Int)) = false := by simp
        have ho : o = partP (es.map WE.num) := by
          apply List.ext_getElem
          · rw [hol.out]; unfold partP; simp [hlen.out]
          · intro j h1 h2
            have := hod.out j (by rw [hol.out] at h1; exact h1)
            rw [List.getElem?_eq_getElem h1] at this
            rw [List.getElem?_map, List.getElem?_eq_getElem (by rw [hlen.out]; rw [hol.out] at h1; exact h1)] at this
            simpa [partP] using this
        have hpl := hide (hown.poly (by rw [hol.out]; unfold maxLen; omega))
        rw [hol.out] at hpl
        replace ho := hide ho
        go_wp2_with fail
        go_ret
        exact ⟨hbr, _, _, rfl, by rw [← ho.out]; exact hpl.out⟩
      have htk : decide ((k : Int) < (n : Int)) = true := by simp; omega
      obtain ⟨b, ob, e, hAe, he, c1, c2, -⟩ := (hL.out.below hbr).at_ hkn
      cases hAe
      have hme : e ∈ es := List.mem_of_getElem? he
      have hwe : Wd wr e.neg e.A e.n e.c e.num := WE.wd ((hL.out.below hbr).2.2.2.2 e hme) (hk e hme)
      have hxk : Hid ((es.map WE.num)[k]?.getD 0 = e.num) := hide (by rw [List.getElem?_map, he]; rfl)
      replace he := hide he
      have hqgl := qg.lt
      obtain ⟨Y, hY, hBY, ka, yd, yb, ysz⟩ := new_obj 25 #[.bool false, .slice none 0 0] hbr hbr.size
      have hownY := hown.below ((Below.refl wr.heap.size wr).alloc (Nat.le_refl _) (.cells #[.bool false, .slice none 0 0] 25))
      rw [hY] at hownY
      replace qg := yb _ _ _ qg
      replace hsg := yd _ _ _ _ _ hsg
      replace hwe := yd _ _ _ _ _ hwe
      obtain ⟨y0, y1, y2, y3⟩ := ka.two
      obtain ⟨X, hX, hBX, ka, st⟩ := set_num e.neg e.A e.n e.c hBY hbr.size ka
      have hfr : Below wr.heap.size wr X := by
        rw [← hX, ← hY]
        exact ((((Below.refl wr.heap.size wr).alloc (Nat.le_refl _) _).setCell (p := ⟨wr.heap.size, 0, none⟩) (Nat.le_refl _) _).setCell (p := ⟨wr.heap.size, 1, none⟩) (Nat.le_refl _) _)
      replace hown := hide (hown.below hfr)
      replace qg := st.2.1 _ _ _ (by omega) qg
      replace hsg := hide (st.1 _ _ _ _ _ hsg)
      replace hwe := hide (st.1 _ _ _ _ _ hwe)
      obtain ⟨s0, s1, -, -⟩ := qg.two
      obtain ⟨a0, a1, -, -⟩ := ka.two
      clear st yd yb hownY
      go_wp2_with fail
      refine (DivMod_ok e.neg _ e.A _ e.n e.c _ _ e.num (signP (es.map WE.num)) X hwe.out hsg.out (by rcases hg0.out with h | h; omega; exact h)).mono ?_
      rintro ee w3 ⟨hb3, nq, Aq, kq, cq, nr, Ar, kr, cr, rfl, hq3, -⟩
      have hXs := hfr.size
      clear y0 y1 y2 y3 s0 s1 a0 a1 hX hY ka c1 c2
      replace hBX := hBX.trans (hb3.mono hBX.size)
      replace qg := keep_blk hb3 qg
      replace hsg := hide (hsg.out.below hb3)
      have hown3 := hown.out.below hb3
      obtain ⟨negO, AO, nO, cO, hO1, hO2, -⟩ := hown3.at_ (i := k) (by rw [hol.out]; exact hkn)
      have hf1 := hown3.frozen (k * 2)
      have hf2 := hown3.frozen (k * 2 + 1)
      have hs3 := hb3.size
      have hset := hown3.set_ (i := k) (by rw [hol.out]; exact hkn) hq3
      have hsg3 : Wd ((w3.setCell ⟨gO, k * 2, none⟩ (.bool nq)).setCell ⟨gO, k * 2 + 1, none⟩ (.slice Aq kq cq)) ng Ag kg cg (signP (es.map WE.num)) := hsg.out.keepO hown3 k nq Aq kq cq
      have hqg3 := (qg.far (p := ⟨gO, k * 2, none⟩) (by show gG ≠ gO; omega) (.bool nq)).far (p := ⟨gO, k * 2 + 1, none⟩) (by show gG ≠ gO; omega) (.slice Aq kq cq)
      replace hset := hide hset
      replace hsg3 := hide hsg3
      replace hqg3 := hide hqg3
      clear hown3
      go_wp2_with fail
      go_round
      case rel => exact ⟨k + 1, o.set k (Int.fdiv e.num (signP (es.map WE.num))), by omega, by go_num, hset.out, by rw [List.length_set]; exact hol.out, hide (fun j hj => by
          rcases Nat.lt_or_ge j k with h' | h'
          · rw [List.getElem?_set_ne (by omega)]; exact hod.out j h'
          · obtain rfl : j = k := by omega
            rw [List.getElem?_set_self (by rw [hol.out]; exact hkn), hxk.out]; rfl), (hBX.setCell (p := ⟨gO, k * 2, none⟩) hgOw _).setCell (p := ⟨gO, k * 2 + 1, none⟩) hgOw _, hqg3.out, hsg3.out, by simp; omega⟩
      case measure => simp [intOf]; omega
  have t0 : decide ((0 : Int) < (n : Int)) = true := by simp; omega
  have t0' : decide (0 < n) = true := by simp; omega
  obtain ⟨b0, ob0, e0, hA0, he0, cc1, cc2, -⟩ := (hL.out.below hBX).at_ (k := n - 1) (by omega)
  have hme0 : e0 ∈ es := List.mem_of_getElem? he0
  have hwe0 : Wd X e0.neg e0.A e0.n e0.c e0.num := WE.wd ((hL.out.below hBX).2.2.2.2 e0 hme0) (hk e0 hme0)
  have hsP := part_sign hlen.out (by omega) he0
  have hnn := hwe0.1
  subst hA0
  obtain ⟨j1, hj1⟩ : ∃ j1 : Nat, n = j1 + 1 := ⟨n - 1, by omega⟩
  have hjn : n - 1 = j1 := by omega
  rw [hjn] at cc1 cc2 he0
  have hji : (n : Int) - 1 = (j1 : Int) := by omega
  have hwr : IntKind.i64.wrap ((n : Int) - 1) = (j1 : Int) := by rw [hji, IntKind.wrap_i64]; omega
  have hjl : (j1 : Int) < (n : Int) := by omega
  have hj0 : (0 : Int) ≤ (j1 : Int) := by omega
  have hjl2 : j1 < n := by omega
  replace hj1 := hide hj1
  replace hji := hide hji
  replace hjn := hide hjn
  replace hn0 := hide hn0
  replace he0 := hide he0
  cases hneg : e0.neg
  case false =>
    have hnz : ¬ e0.num < 0 := by rw [hneg] at hnn; simpa using hnn.symm
    rw [if_neg hnz] at hsP
    rw [← hsP] at hg1
    rw [hneg] at cc1
    replace hsP := hide hsP
    clear hwe0 hnn
    have hsz := q.lt
    have hmk := makeW (P := Tryz.prog) 22 25 Tryz.underlying22 hi hz0 hz1 hz2 (n : Int) n rfl (by omega)
    go_wp2_with fail
    clear hmk
    obtain ⟨gO, hgO⟩ : ∃ g, X.heap.size = g := ⟨_, rfl⟩
    have hgOw : w.heap.size ≤ gO := by rw [← hgO]; exact hBX.size
    have hown0 := POwn.new 25 X n
    have hB0 := hBX.alloc hBX.size (.cells (cellsW (List.replicate n zeroWE)) 25)
    have q0 := q.alloc (.cells (cellsW (List.replicate n zeroWE)) 25)
    have hs0 := hg1.alloc (.cells (cellsW (List.replicate n zeroWE)) 25)
    rw [hgO] at hown0 hsz ⊢
    go_loopw [31] (fun iv wx => ∃ (k : Nat) (o : List Int), k ≤ n ∧ iv = .int .i64 k ∧ POwn 25 wx gO o ∧ Hid (o.length = n) ∧ Hid (∀ j, j < k → o[j]?.getD 0 = Int.fdiv ((es.map WE.num)[j]?.getD 0) (signP (es.map WE.num))) ∧ Below w.heap.size w wx ∧ Blk wx gG 25 #[.bool ng, .slice Ag kg cg] ∧ Wd wx ng Ag kg cg (signP (es.map WE.num)) ∧ gO < wx.heap.size) (fun iv _ => n - (intOf iv).toNat)
    case atStart => exact ⟨0, List.replicate n 0, Nat.zero_le _, rfl, hown0, by unfold Hid; simp, hide (fun j hj => by omega), hB0, q0, hs0, by rw [← hgO]; simp⟩
    case round =>
      clear hown0 hB0 q0 hs0
      obtain ⟨k, o, hk1, rfl, hown, hol, hod, hbr, qg, hsg, hgw⟩ := hrel
      by_cases hkn : k < n
      case neg =>
        obtain rfl : n = k := by omega
        have htk : decide ((n : Int) < (n : Int)) = false := by simp
        have ho : o = partP (es.map WE.num) := by
          apply List.ext_getElem
          · rw [hol.out]; unfold partP; simp [hlen.out]
          · intro j h1 h2
            have := hod.out j (by rw [hol.out] at h1; exact h1)
            rw [List.getElem?_eq_getElem h1] at this
            rw [List.getElem?_map, List.getElem?_eq_getElem (by rw [hlen.out]; rw [hol.out] at h1; exact h1)] at this
            simpa [partP] using this
        have hpl := hide (hown.poly (by rw [hol.out]; unfold maxLen; omega))
        rw [hol.out] at hpl
        replace ho := hide ho
        go_wp2_with fail
        go_ret
        exact ⟨hbr, _, _, rfl, by rw [← ho.out]; exact hpl.out⟩
      have htk : decide ((k : Int) < (n : Int)) = true := by simp; omega
      obtain ⟨b, ob, e, hAe, he, c1, c2, -⟩ := (hL.out.below hbr).at_ hkn
      cases hAe
      have hme : e ∈ es := List.mem_of_getElem? he
      have hwe : Wd wr e.neg e.A e.n e.c e.num := WE.wd ((hL.out.below hbr).2.2.2.2 e hme) (hk e hme)
      have hxk : Hid ((es.map WE.num)[k]?.getD 0 = e.num) := hide (by rw [List.getElem?_map, he]; rfl)
      replace he := hide he
      have hqgl := qg.lt
      obtain ⟨Y, hY, hBY, ka, yd, yb, ysz⟩ := new_obj 25 #[.bool false, .slice none 0 0] hbr hbr.size
      have hownY := hown.below ((Below.refl wr.heap.size wr).alloc (Nat.le_refl _) (.cells #[.bool false, .slice none 0 0] 25))
      rw [hY] at hownY
      replace qg := yb _ _ _ qg
      replace hsg := yd _ _ _ _ _ hsg
      replace hwe := yd _ _ _ _ _ hwe
      obtain ⟨y0, y1, y2, y3⟩ := ka.two
      obtain ⟨X, hX, hBX, ka, st⟩ := set_num e.neg e.A e.n e.c hBY hbr.size ka
      have hfr : Below wr.heap.size wr X := by
        rw [← hX, ← hY]
        exact ((((Below.refl wr.heap.size wr).alloc (Nat.le_refl _) _).setCell (p := ⟨wr.heap.size, 0, none⟩) (Nat.le_refl _) _).setCell (p := ⟨wr.heap.size, 1, none⟩) (Nat.le_refl _) _)
      replace hown := hide (hown.below hfr)
      replace qg := st.2.1 _ _ _ (by omega) qg
      replace hsg := hide (st.1 _ _ _ _ _ hsg)
      replace hwe := hide (st.1 _ _ _ _ _ hwe)
      obtain ⟨s0, s1, -, -⟩ := qg.two
      obtain ⟨a0, a1, -, -⟩ := ka.two
      clear st yd yb hownY
      go_wp2_with fail
      refine (DivMod_ok e.neg _ e.A _ e.n e.c _ _ e.num (signP (es.map WE.num)) X hwe.out hsg.out (by rcases hg0.out with h | h; omega; exact h)).mono ?_
      rintro ee w3 ⟨hb3, nq, Aq, kq, cq, nr, Ar, kr, cr, rfl, hq3, -⟩
      have hXs := hfr.size
      clear y0 y1 y2 y3 s0 s1 a0 a1 hX hY ka c1 c2
      replace hBX := hBX.trans (hb3.mono hBX.size)
      replace qg := keep_blk hb3 qg
      replace hsg := hide (hsg.out.below hb3)
      have hown3 := hown.out.below hb3
      obtain ⟨negO, AO, nO, cO, hO1, hO2, -⟩ := hown3.at_ (i := k) (by rw [hol.out]; exact hkn)
      have hf1 := hown3.frozen (k * 2)
      have hf2 := hown3.frozen (k * 2 + 1)
      have hs3 := hb3.size
      have hset := hown3.set_ (i := k) (by rw [hol.out]; exact hkn) hq3
      have hsg3 : Wd ((w3.setCell ⟨gO, k * 2, none⟩ (.bool nq)).setCell ⟨gO, k * 2 + 1, none⟩ (.slice Aq kq cq)) ng Ag kg cg (signP (es.map WE.num)) := hsg.out.keepO hown3 k nq Aq kq cq
      have hqg3 := (qg.far (p := ⟨gO, k * 2, none⟩) (by show gG ≠ gO; omega) (.bool nq)).far (p := ⟨gO, k * 2 + 1, none⟩) (by show gG ≠ gO; omega) (.slice Aq kq cq)
      replace hset := hide hset
      replace hsg3 := hide hsg3
      replace hqg3 := hide hqg3
      clear hown3
      go_wp2_with fail
      go_round
      case rel => exact ⟨k + 1, o.set k (Int.fdiv e.num (signP (es.map WE.num))), by omega, by go_num, hset.out, by rw [List.length_set]; exact hol.out, hide (fun j hj => by
          rcases Nat.lt_or_ge j k with h' | h'
          · rw [List.getElem?_set_ne (by omega)]; exact hod.out j h'
          · obtain rfl : j = k := by omega
            rw [List.getElem?_set_self (by rw [hol.out]; exact hkn), hxk.out]; rfl), (hBX.setCell (p := ⟨gO, k * 2, none⟩) hgOw _).setCell (p := ⟨gO, k * 2 + 1, none⟩) hgOw _, hqg3.out, hsg3.out, by simp; omega⟩
      case measure => simp [intOf]; omega
  case true =>
    have hnz : e0.num < 0 := by rw [hneg] at hnn; simpa using hnn.symm
    rw [if_pos hnz] at hsP
    rw [hneg] at cc1
    replace hsP := hide hsP
    clear hwe0 hnn
    go_wp2_with fail
    refine (Neg_ok ng Ag kg cg (contP (es.map WE.num)) X hg1).mono ?_
    rintro e w2 ⟨hb2, nn, An, kn, cn', code2, rfl, hp2⟩
    have hgN : Wd w2 nn An kn cn' (signP (es.map WE.num)) := by rw [hsP.out]; exact hp2.small (by rw [Int.natAbs_neg]; exact hg1.small)
    clear hp2 hg1 y0 y1 y2 y3 s0 s1 s2 s3 hX hV cc1 cc2
    have hB2 := hBX.trans (hb2.mono hBX.size)
    replace q := keep_blk hb2 q
    obtain ⟨s0, s1, s2, s3⟩ := q.two
    obtain ⟨Z, hZ, hBZ, qz, st⟩ := set_num nn An kn cn' hB2 hgGw q
    replace hgN := st.1 _ _ _ _ _ hgN
    clear st q
    have hsz := qz.lt
    have hmk := makeW (P := Tryz.prog) 22 25 Tryz.underlying22 hi hz0 hz1 hz2 (n : Int) n rfl (by omega)
    go_wp2_with fail
    clear hmk
    obtain ⟨gO, hgO⟩ : ∃ g, Z.heap.size = g := ⟨_, rfl⟩
    have hgOw : w.heap.size ≤ gO := by rw [← hgO]; exact hBZ.size
    have hown0 := POwn.new 25 Z n
    have hB0 := hBZ.alloc hBZ.size (.cells (cellsW (List.replicate n zeroWE)) 25)
    have q0 := qz.alloc (.cells (cellsW (List.replicate n zeroWE)) 25)
    have hs0 := hgN.alloc (.cells (cellsW (List.replicate n zeroWE)) 25)
    rw [hgO] at hown0 hsz ⊢
    go_loopw [31] (fun iv wx => ∃ (k : Nat) (o : List Int), k ≤ n ∧ iv = .int .i64 k ∧ POwn 25 wx gO o ∧ Hid (o.length = n) ∧ Hid (∀ j, j < k → o[j]?.getD 0 = Int.fdiv ((es.map WE.num)[j]?.getD 0) (signP (es.map WE.num))) ∧ Below w.heap.size w wx ∧ Blk wx gG 25 #[.bool nn, .slice An kn cn'] ∧ Wd wx nn An kn cn' (signP (es.map WE.num)) ∧ gO < wx.heap.size) (fun iv _ => n - (intOf iv).toNat)
    case atStart => exact ⟨0, List.replicate n 0, Nat.zero_le _, rfl, hown0, by unfold Hid; simp, hide (fun j hj => by omega), hB0, q0, hs0, by rw [← hgO]; simp⟩
    case round =>
      clear hown0 hB0 q0 hs0
      obtain ⟨k, o, hk1, rfl, hown, hol, hod, hbr, qg, hsg, hgw⟩ := hrel
      by_cases hkn : k < n
      case neg =>
        obtain rfl : n = k := by omega
        have htk : decide ((n : Int) < (n : Int)) = false := by simp
        have ho : o = partP (es.map WE.num) := by
          apply List.ext_getElem
          · rw [hol.out]; unfold partP; simp [hlen.out]
          · intro j h1 h2
            have := hod.out j (by rw [hol.out] at h1; exact h1)
            rw [List.getElem?_eq_getElem h1] at this
            rw [List.getElem?_map, List.getElem?_eq_getElem (by rw [hlen.out]; rw [hol.out] at h1; exact h1)] at this
            simpa [partP] using this
        have hpl := hide (hown.poly (by rw [hol.out]; unfold maxLen; omega))
        rw [hol.out] at hpl
        replace ho := hide ho
        go_wp2_with fail
        go_ret
        exact ⟨hbr, _, _, rfl, by rw [← ho.out]; exact hpl.out⟩
      have htk : decide ((k : Int) < (n : Int)) = true := by simp; omega
      obtain ⟨b, ob, e, hAe, he, c1, c2, -⟩ := (hL.out.below hbr).at_ hkn
      cases hAe
      have hme : e ∈ es := List.mem_of_getElem? he
      have hwe : Wd wr e.neg e.A e.n e.c e.num := WE.wd ((hL.out.below hbr).2.2.2.2 e hme) (hk e hme)
      have hxk : Hid ((es.map WE.num)[k]?.getD 0 = e.num) := hide (by rw [List.getElem?_map, he]; rfl)
      replace he := hide he
      have hqgl := qg.lt
      obtain ⟨Y, hY, hBY, ka, yd, yb, ysz⟩ := new_obj 25 #[.bool false, .slice none 0 0] hbr hbr.size
      have hownY := hown.below ((Below.refl wr.heap.size wr).alloc (Nat.le_refl _) (.cells #[.bool false, .slice none 0 0] 25))
      rw [hY] at hownY
      replace qg := yb _ _ _ qg
      replace hsg := yd _ _ _ _ _ hsg
      replace hwe := yd _ _ _ _ _ hwe
      obtain ⟨y0, y1, y2, y3⟩ := ka.two
      obtain ⟨X, hX, hBX, ka, st⟩ := set_num e.neg e.A e.n e.c hBY hbr.size ka
      have hfr : Below wr.heap.size wr X := by
        rw [← hX, ← hY]
        exact ((((Below.refl wr.heap.size wr).alloc (Nat.le_refl _) _).setCell (p := ⟨wr.heap.size, 0, none⟩) (Nat.le_refl _) _).setCell (p := ⟨wr.heap.size, 1, none⟩) (Nat.le_refl _) _)
      replace hown := hide (hown.below hfr)
      replace qg := st.2.1 _ _ _ (by omega) qg
      replace hsg := hide (st.1 _ _ _ _ _ hsg)
      replace hwe := hide (st.1 _ _ _ _ _ hwe)
      obtain ⟨s0, s1, -, -⟩ := qg.two
      obtain ⟨a0, a1, -, -⟩ := ka.two
      clear st yd yb hownY
      go_wp2_with fail
      refine (DivMod_ok e.neg _ e.A _ e.n e.c _ _ e.num (signP (es.map WE.num)) X hwe.out hsg.out (by rcases hg0.out with h | h; omega; exact h)).mono ?_
      rintro ee w3 ⟨hb3, nq, Aq, kq, cq, nr, Ar, kr, cr, rfl, hq3, -⟩
      have hXs := hfr.size
      clear y0 y1 y2 y3 s0 s1 a0 a1 hX hY ka c1 c2
      replace hBX := hBX.trans (hb3.mono hBX.size)
      replace qg := keep_blk hb3 qg
      replace hsg := hide (hsg.out.below hb3)
      have hown3 := hown.out.below hb3
      obtain ⟨negO, AO, nO, cO, hO1, hO2, -⟩ := hown3.at_ (i := k) (by rw [hol.out]; exact hkn)
      have hf1 := hown3.frozen (k * 2)
      have hf2 := hown3.frozen (k * 2 + 1)
      have hs3 := hb3.size
      have hset := hown3.set_ (i := k) (by rw [hol.out]; exact hkn) hq3
      have hsg3 : Wd ((w3.setCell ⟨gO, k * 2, none⟩ (.bool nq)).setCell ⟨gO, k * 2 + 1, none⟩ (.slice Aq kq cq)) nn An kn cn' (signP (es.map WE.num)) := hsg.out.keepO hown3 k nq Aq kq cq
      have hqg3 := (qg.far (p := ⟨gO, k * 2, none⟩) (by show gG ≠ gO; omega) (.bool nq)).far (p := ⟨gO, k * 2 + 1, none⟩) (by show gG ≠ gO; omega) (.slice Aq kq cq)
      replace hset := hide hset
      replace hsg3 := hide hsg3
      replace hqg3 := hide hqg3
      clear hown3
      go_wp2_with fail
      go_round
      case rel => exact ⟨k + 1, o.set k (Int.fdiv e.num (signP (es.map WE.num))), by omega, by go_num, hset.out, by rw [List.length_set]; exact hol.out, hide (fun j hj => by
          rcases Nat.lt_or_ge j k with h' | h'
          · rw [List.getElem?_set_ne (by omega)]; exact hod.out j h'
          · obtain rfl : j = k := by omega
            rw [List.getElem?_set_self (by rw [hol.out]; exact hkn), hxk.out]; rfl), (hBX.setCell (p := ⟨gO, k * 2, none⟩) hgOw _).setCell (p := ⟨gO, k * 2 + 1, none⟩) hgOw _, hqg3.out, hsg3.out, by simp; omega⟩
      case measure => simp [intOf]; omega
end Go.Proofs.YtljocgdhdilglaaGreat
