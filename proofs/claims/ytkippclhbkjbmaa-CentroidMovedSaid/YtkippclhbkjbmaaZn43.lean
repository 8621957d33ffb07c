/- Package centroid: tilted. -/
import Derived.Test.YtkippclhbkjbmaaZn42
import Derived.Test.YtkippclhbkjbmaaZn39
import Derived.Test.YtkippclhbkjbmaaZn27
set_option linter.unusedSimpArgs false
set_option linter.unusedVariables false

namespace Go.Proofs.Ytkippclhbkjbmaa
open Go.RowKit
attribute [local go_sem] add_lit

/-- A pixel with a number added from some place on, and taken away before it. -/
def tv (f off x p : Int) : Int := if f ≤ x then p + off else p - off
def tden (u : Int → Int) (ps l : List Int) (f off : Int) : Nat → Int := sumK (fun i => tv f off (u i) (pix ps i)) l
def tnum (u : Int → Int) (ps l : List Int) (f off : Int) : Nat → Int := sumK (fun i => u i * tv f off (u i) (pix ps i)) l
def tq (u : Int → Int) (ps l : List Int) (f off : Int) : Rat := Rat.divInt (tnum u ps l f off l.length) (tden u ps l f off l.length)
theorem tv_rng {f off x p : Int} (h1 : off.natAbs ≤ 4294967296) (h2 : p.natAbs ≤ 8589934592) : (tv f off x p).natAbs ≤ 12884901888 := by
  unfold tv; split <;> omega
theorem sumK_rng2 {g : Int → Int} {l : List Int} {m k N : Nat} (h : ∀ j, j < m → (g (l[j]?.getD 0)).natAbs ≤ N) (hk : k ≤ m) (hm : m ≤ 40) : (sumK g l k).natAbs ≤ 40 * N :=
  Nat.le_trans (sumK_le l k (fun j hj => h j (by omega))) (Nat.mul_le_mul_right N (by omega))
theorem tden_rng {u : Int → Int} {ps l : List Int} {f off : Int} {n m k : Nat} (hr : Rng ps l n m) (h1 : off.natAbs ≤ 4294967296) (hk : k ≤ m) (hm : m ≤ 40) : (tden u ps l f off k).natAbs ≤ 40 * 12884901888 :=
  sumK_rng2 (m := m) (fun j hj => tv_rng h1 (by have := hr j hj; omega)) hk hm
theorem tnum_rng {u : Int → Int} {ps l : List Int} {f off : Int} {n m k : Nat} (hr : Rng ps l n m) (hu : ∀ j, j < m → (u (l[j]?.getD 0)).natAbs ≤ 99) (h1 : off.natAbs ≤ 4294967296) (hk : k ≤ m) (hm : m ≤ 40) : (tnum u ps l f off k).natAbs ≤ 40 * (99 * 12884901888) :=
  sumK_rng2 (m := m) (fun j hj => by rw [Int.natAbs_mul]; exact Nat.mul_le_mul (hu j hj) (tv_rng h1 (by have := hr j hj; omega))) hk hm
theorem wrapS {x : Int} (h : x.natAbs ≤ 9000000000000000000) : wrap64 x = x := by unfold wrap64; omega
theorem infoF : (Try.prog.info? 29).map (fun i => (i.zero, i.size, i.bytes)) = some (some (.agg #[.bool false, .slice none 0 0, .bool false, .slice none 0 0]), 4, 64) := by kernel_rfl

set_option maxRecDepth 100000 in
set_option maxHeartbeats 4000000 in
theorem tilted_ok (gc : Nat) (t : TypeId) (fn : FuncId) (pre post : Array Value) (u : Int → Int) (W H : Int) (A : Option Addr) (n c : Nat) (B : Option Addr) (m d : Nat) (ps l : List Int) (off : Int) (w : World) (hq : Blk w gc t #[.int .i64 0]) (hp : LimI w A n c ps) (hl : LimI w B m d l) (h9 : n ≤ 10000) (h8 : m ≤ 40) (hr : Rng ps l n m)
    (hu : ∀ j, j < m → 0 ≤ u (l[j]?.getD 0) ∧ u (l[j]?.getD 0) ≤ 99) (ho : off.natAbs ≤ 4294967296) (hD : ∀ f : Nat, f < 101 → 0 < tden u ps l f off m)
    (hcf : ∀ (x : Value) (W : World), (callFunc fn (pre.push x ++ post)).run Try.prog W = .ok (.enter fn (pre.push x ++ post)) W)
    (hcall : ∀ (j : Nat) (W : World), j < m → Calls Try.prog fn (pre.push (.int .i64 (l[j]?.getD 0)) ++ post) W fun e w' => e = .returned (.int .i64 (u (l[j]?.getD 0))) ∧ Below W.heap.size W w') :
    Calls Try.prog 39 #[.pointer (some ⟨gc, 0, none⟩), .agg #[.int .i64 W, .int .i64 H, .slice A n c, .slice B m d], .func (.func fn) pre post, .int .i64 off] w fun e w' => ∃ v, e = .returned v ∧ OwnF 29 w' w.heap.size v ((List.range 101).map fun f => tq u ps l (f : Nat) off) ∧ Below w.heap.size w w' := by
  obtain ⟨i0, hi, hz0, hz1, hz2⟩ := info_parts infoF
  have hlm : l.length = m := hl.lenI
  have hgc : gc < w.heap.size := (Array.getElem?_eq_some_iff.1 hq).1
  obtain ⟨W0, hW0, hB, q0, sz⟩ := alloc1 w 53 #[.int .i64 W, .int .i64 H, .slice A n c, .slice B m d]
  replace hq := hq.below hB hgc
  replace hp := hide (hp.below hB)
  replace hl := hide (hl.below hB)
  replace hcall := hide hcall
  replace hD := hide hD
  replace hr := hide hr
  replace hu := hide hu
  replace hlm := hide hlm
  go_enter Try.func39, Try.ntmps39
  go_wp2_with fail
  clear hW0
  go_loopw [9, 17] (fun ov fv wr => ∃ f : Nat, f ≤ 101 ∧ fv = .int .i64 f ∧ Below W0.heap.size W0 wr ∧ OwnF 29 wr W0.heap.size ov ((List.range f).map fun f => tq u ps l (f : Nat) off)) (fun _ fv _ => 101 - (intOf fv).toNat)
  case atStart => exact ⟨0, by omega, rfl, Below.refl _ _, OwnF.nil _ _ _⟩
  case round =>
    obtain ⟨f, hf, rfl, hbr, hO⟩ := hrel
    by_cases hf1 : f < 101
    case neg =>
      obtain rfl : f = 101 := by omega
      have hBf := hB.trans (hbr.mono hB.size)
      go_wp2_with fail
      go_ret
      refine ⟨_, rfl, ?_, hBf⟩
      obtain ⟨es, r1, r2, r3⟩ := hO
      refine ⟨es, ?_, r2, r3⟩
      rcases r1 with r1 | ⟨g, sp, r1, r4, r5, r6⟩
      · exact .inl r1
      · exact .inr ⟨g, sp, r1, by omega, r5, r6⟩
    have htf : decide ((f : Int) < 101) = true := by simp; omega
    have q0r := keep_blk hbr q0
    obtain ⟨s0, s1, s2, s3, -⟩ := q0r.four
    obtain ⟨wo, hwo⟩ : ∃ wo : World, wo = wr := ⟨_, rfl⟩
    subst hwo
    replace hO := hide hO
    go_wp2_with fail
    have hl1 := hide (hl.out.below hbr)
    have hp1 := hide (hp.out.below hbr)
    have hq1 := keep_blk hbr hq
    go_loopw [11, 12, 23] (fun nv dv iv wr => ∃ k : Nat, k ≤ m ∧ iv = .int .i64 k ∧ nv = .int .i64 (tnum u ps l f off k) ∧ dv = .int .i64 (tden u ps l f off k) ∧ Below wo.heap.size wo wr) (fun _ _ iv _ => m - (intOf iv).toNat)
    case atStart => exact ⟨0, by omega, rfl, rfl, rfl, Below.refl _ _⟩
    case round =>
      obtain ⟨k, h1, rfl, rfl, rfl, hb2⟩ := hrel
      have nr := tnum_rng (u := u) (f := f) (k := k) hr.out (fun j hj => by have := hu.out j hj; omega) ho h1 h8
      have dr := tden_rng (u := u) (f := f) (k := k) hr.out ho h1 h8
      by_cases hk : k < m
      case neg =>
        obtain rfl : k = m := by omega
        have htk : decide ((k : Int) < (k : Int)) = false := by simp
        have hd0 := hD.out f hf1
        have hq2 := keep_blk hb2 hq1
        have hO2 := hO.out.kept hb2
        have hbr2 := hbr.trans (hb2.mono hbr.size)
        go_wp2_with fail
        refine (Of_pos (tnum u ps l f off k) (tden u ps l f off k) wr (by omega) (by omega) hd0 (by omega)).mono ?_
        rintro e w3 ⟨hb3, na1, A1, n1, c1, nb1, B1, m1, d1, rfl, hF⟩
        have hq3 := keep_blk hb3 hq2
        go_wp2_with fail
        refine (keep_ok gc t na1 nb1 A1 B1 n1 c1 m1 d1 w3 hq3).mono ?_
        rintro e w4 ⟨rfl, hb4⟩
        have hb34 := hb3.trans (hb4.mono hb3.size)
        replace hF := hide (hF.below hb4)
        replace hO2 := hO2.kept hb34
        have hbr4 := hbr2.trans (hb34.mono hbr2.size)
        obtain ⟨V, hV, hBV, qV, hk3, -, sV⟩ := new_obj 29 #[.bool na1, .slice A1 n1 c1, .bool nb1, .slice B1 m1 d1] hbr4 hbr4.size
        have hOV := hO2.kept ((by rw [← hV]; exact (Below.refl _ _).alloc (Nat.le_refl _) _) : Below w4.heap.size w4 V)
        have hFV := hF.out.keep hk3
        have hlm2 := hlm.out
        go_wp2_with (at_builtin; refine wpList_append_frac _ rfl (.tmp 58) (.tmp 66) 83 rfl W0.heap.size 29 i0 Try.underlying83 hi hz0 hz1 hz2 _ _ rfl hOV _ (some ⟨w4.heap.size, 0, none⟩) 1 1 [⟨na1, A1, n1, c1, nb1, B1, m1, d1, tq u ps l f off⟩] rfl (reads_frac _ qV) rfl (by intro e he; rw [List.mem_singleton] at he; subst he; unfold FE.in_ tq; rw [hlm2]; exact hFV) (by simp; omega) hBV.size ?_; intro v5 w5 hO5 hg5 hk5)
        go_round
        case rel => exact ⟨f + 1, by omega, by go_num, hBV.grown hg5 hBV.size (fun j hj => hOV.row_ge j hj), by rw [List.range_succ, List.map_append]; exact hO5⟩
        case measure => simp [intOf]; omega
      have htk : decide ((k : Int) < (m : Int)) = true := by simp; omega
      obtain ⟨g, o, rfl, hc⟩ := hl1.out.2.2.2.2 (by omega)
      have hck := (hb2.cell (lt_of_cell (hc k hk))).trans (hc k hk)
      clear hc
      have hx4 := hr.out k hk
      have huk := hu.out k hk
      have hcl := hcall.out k
      obtain ⟨g', o', rfl, hc'⟩ := hp1.out.2.2.2.2 (by omega)
      have nr1 := tnum_rng (u := u) (f := f) (k := k + 1) hr.out (fun j hj => by have := hu.out j hj; omega) ho hk h8
      have dr1 := tden_rng (u := u) (f := f) (k := k + 1) hr.out ho hk h8
      have hnS : tnum u ps l f off (k + 1) = tnum u ps l f off k + u (l[k]?.getD 0) * tv f off (u (l[k]?.getD 0)) (pix ps (l[k]?.getD 0)) := rfl
      have hdS : tden u ps l f off (k + 1) = tden u ps l f off k + tv f off (u (l[k]?.getD 0)) (pix ps (l[k]?.getD 0)) := rfl
      obtain ⟨j, hj⟩ : ∃ j : Nat, l[k]?.getD 0 = j := ⟨(l[k]?.getD 0).toNat, by omega⟩
      have hcj0 := hc' j (by omega)
      have hpj : pix ps (j : Int) = ps[j]?.getD 0 := by simp [pix]
      rw [hj] at hck hx4 huk hcl hnS hdS
      rw [← hpj] at hcj0
      have hcj := (hb2.cell (lt_of_cell hcj0)).trans hcj0
      have hjn : j < n := by omega
      have q0s := keep_blk hb2 q0r
      obtain ⟨t0, t1, t2, t3, -⟩ := q0s.four
      replace hcl := hide hcl
      clear hc' hpj
      generalize pix ps (j : Int) = P at *
      generalize u (j : Int) = X at *
      have hvr := tv_rng (f := f) (x := X) ho (show P.natAbs ≤ 8589934592 by omega)
      have hmr : (X * tv f off X P).natAbs ≤ 99 * 12884901888 := by rw [Int.natAbs_mul]; exact Nat.mul_le_mul (by omega) hvr
      have a1 : wrap64 (P + off) = P + off := wrapS (by omega)
      have a2 : wrap64 (P - off) = P - off := wrapS (by omega)
      have m1 : wrap64 (X * tv f off X P) = X * tv f off X P := wrapS (by omega)
      have m2 : wrap64 (tnum u ps l f off k + X * tv f off X P) = tnum u ps l f off (k + 1) := by rw [← hnS]; exact wrapS (by omega)
      have m3 : wrap64 (tden u ps l f off k + tv f off X P) = tden u ps l f off (k + 1) := by rw [← hdS]; exact wrapS (by omega)
      replace hnS := hide hnS
      replace hdS := hide hdS
      replace nr := hide nr
      replace dr := hide dr
      replace nr1 := hide nr1
      replace dr1 := hide dr1
      replace hx4 := hide hx4
      replace huk := hide huk
      replace hj := hide hj
      replace hvr := hide hvr
      replace hmr := hide hmr
      go_wp2_with fail
      refine (hcl.out wr hk).mono ?_
      rintro e w5 ⟨rfl, hb5⟩
      have hck5 := (hb5.cell (lt_of_cell hck)).trans hck
      have hcj5 := (hb5.cell (lt_of_cell hcj)).trans hcj
      have q05 := keep_blk hb5 q0s
      have hb25 := hb2.trans (hb5.mono hb2.size)
      clear t0 t1 t2 t3 hck hcj
      obtain ⟨t0, t1, t2, t3, -⟩ := q05.four
      by_cases hfx : (f : Int) ≤ X
      · have hfd : decide ((f : Int) ≤ X) = true := by simpa using hfx
        have hte : tv f off X P = P + off := if_pos hfx
        rw [hte] at m1 m2 m3
        clear hte
        go_wp2_with fail
        go_round
        case rel => exact ⟨k + 1, by omega, by go_num, by (try rw [m1]); (try rw [m2]), by (try rw [m3]), hb25⟩
        case measure => simp [intOf]; omega
      · have hfd : decide ((f : Int) ≤ X) = false := by simpa using hfx
        have hte : tv f off X P = P - off := if_neg hfx
        rw [hte] at m1 m2 m3
        clear hte
        go_wp2_with fail
        go_round
        case rel => exact ⟨k + 1, by omega, by go_num, by (try rw [m1]); (try rw [m2]), by (try rw [m3]), hb25⟩
        case measure => simp [intOf]; omega
end Go.Proofs.Ytkippclhbkjbmaa
