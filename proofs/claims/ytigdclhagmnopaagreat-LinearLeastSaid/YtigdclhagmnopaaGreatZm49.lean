/- Package frac: Add of small fractions. Package linear: -/
import Derived.ProofKit
import Derived.Deep.Slices
import Derived.Deep.Fields
import Derived.ChangeSame
import Derived.Test.YtigdclhagmnopaaGreatProg
import Derived.Test.YtigdclhagmnopaaGreatZm48
set_option maxRecDepth 100000
set_option maxHeartbeats 8000000
set_option linter.unusedSimpArgs false
set_option linter.unusedVariables false
namespace Go.Proofs.YtigdclhagmnopaaGreat
open Go.RowKit
attribute [local go_sem] Zh
theorem Zpk (x y : Value) (W : World) : (callFunc 125 #[x, y]).run Tryz.prog W = .ok (.enter 125 #[x, y]) W := by simp [go_sem]
theorem Add1_ok (na nb na' nb' : Bool) (A B A' B' : Option Addr) (n c m d n' c' m' d' : Nat) (a b : Rat) (w : World) (ha : Fr w na A n c nb B m d a) (hb : Fr w na' A' n' c' nb' B' m' d' b)
    (h1 : (a.num * b.den).natAbs < pw 4096) (h2 : (b.num * a.den).natAbs < pw 4096) (hs : (a.num * b.den + b.num * a.den).natAbs < pw 4096) (ht : ((a.den : Int) * (b.den : Nat)).natAbs < pw 4096) :
    Calls Tryz.prog 125 #[.agg #[.bool na, .slice A n c, .bool nb, .slice B m d], .agg #[.bool na', .slice A' n' c', .bool nb', .slice B' m' d']] w (Zly w (a.num * b.den + b.num * a.den) ((a.den : Int) * (b.den : Nat))) := by
 obtain ⟨W0, hW0, hB0, ⟨q0, q1, q2, q3⟩, s0⟩ := Zfe w 45 #[.bool na, .slice A n c, .bool nb, .slice B m d] 45 #[.bool na', .slice A' n' c', .bool nb', .slice B' m' d'] 43 #[.bool false, .slice none 0 0] 43 #[.bool false, .slice none 0 0]
 have hmx : Tryz.prog.follows .mixedOrders = true := by kernel_rfl
 have hA := Za (ha.below hB0)
 have hD := Za (hb.below hB0)
 replace hs := Za hs
 replace ht := Za ht
 replace h1 := Za h1
 replace h2 := Za h2
 have sz := Za hB0.size
 have hB := Za hB0
 clear ha hb hB0 s0
 replace q0 := Za q0
 replace q1 := Za q1
 replace q2 := Za q2
 replace q3 := Za q3
 obtain ⟨a0, a1, a2, a3, -⟩ := q0.out.four
 obtain ⟨b0, b1, b2, b3, -⟩ := q1.out.four
 replace hW0 := Za hW0
 go_enter Tryz.func125, Tryz.ntmps125
 go_wp2_with fail
 rw [hW0.out]
 clear hW0
 refine Zah [19] (fun W' => W'.cell? ⟨w.heap.size, 0, none⟩ = some (.bool na) /\ W'.cell? ⟨w.heap.size, 1, none⟩ = some (.slice A n c) /\ W'.cell? ⟨w.heap.size, 2, none⟩ = some (.bool nb) /\ W'.cell? ⟨w.heap.size, 3, none⟩ = some (.slice B m d) /\ W'.cell? ⟨w.heap.size + 1, 0, none⟩ = some (.bool na') /\ W'.cell? ⟨w.heap.size + 1, 1, none⟩ = some (.slice A' n' c') /\ W'.cell? ⟨w.heap.size + 1, 2, none⟩ = some (.bool nb') /\ W'.cell? ⟨w.heap.size + 1, 3, none⟩ = some (.slice B' m' d')) hmx ⟨a0, a1, a2, a3, b0, b1, b2, b3⟩ (fun _ => ?_)
 refine Zhz 8 [0, 1, 3, 4, 10, 11, 12, 13] rfl (by kernel_rfl) ⟨a0, a1, a2, a3, b0, b1, b2, b3⟩ ?_
 iterate 8 (refine tk1 (v := ?_) rfl (Or.inl ⟨by kernel_rfl, ?_⟩) ?_; rotate_left; (· intro W2 hSw; (try dsimp only at hSw); go_simp; try with_reducible rfl); try simp only [Act.put, Ze7, Ze8, Zfh, putG_a, putG_s, putG_z])
 refine tk0 ?_
 refine Zg (i := 2) rfl (by kernel_rfl) (fun K hK => ?_)
 go_simp
 refine (Zf0 na nb na' nb' A B A' B' n c m d n' c' m' d' a b W0.drew hA.out hD.out h1.out).mono ?_
 rintro e w1 ⟨hb1, nu, U, k1, u, rfl, hU⟩
 replace hb1 := Zq hb1
 replace hU := Za hU
 replace q0 := Za (Zc hb1 q0.out)
 replace q1 := Za (Zc hb1 q1.out)
 replace q2 := Za (Zc hb1 q2.out)
 replace q3 := Za (Zc hb1 q3.out)
 replace hA := Za (hA.out.below hb1)
 replace hD := Za (hD.out.below hb1)
 replace hB := Za (hB.out.trans (hb1.mono sz.out))
 replace sz := Za (Nat.le_trans sz.out hb1.size)
 clear a0 a1 a2 a3 b0 b1 b2 b3
 obtain ⟨a0, a1, a2, a3, -⟩ := q0.out.four
 obtain ⟨b0, b1, b2, b3, -⟩ := q1.out.four
 clear hb1
 refine hK.out _ _ (fun _ => ⟨a0, a1, a2, a3, b0, b1, b2, b3⟩) ?_
 clear hK K
 try simp only [Act.put, Ze7, Ze8, Zfh]
 refine Zg (i := 5) rfl (by kernel_rfl) (fun K hK => ?_)
 go_simp
 refine (Zf0 na' nb' na nb A' B' A B n' c' m' d' n c m d b a w1 hD.out hA.out h2.out).mono ?_
 rintro e w2 ⟨hb2, nv, V, k2, v, rfl, hV⟩
 replace hU := Za (hU.out.below hb2)
 replace hV := Za hV
 replace q0 := Za (Zc hb2 q0.out)
 replace q1 := Za (Zc hb2 q1.out)
 replace q2 := Za (Zc hb2 q2.out)
 replace q3 := Za (Zc hb2 q3.out)
 replace hA := Za (hA.out.below hb2)
 replace hD := Za (hD.out.below hb2)
 replace hB := Za (hB.out.trans (hb2.mono sz.out))
 replace sz := Za (Nat.le_trans sz.out hb2.size)
 clear a0 a1 a2 a3 b0 b1 b2 b3
 obtain ⟨a0, a1, a2, a3, -⟩ := q0.out.four
 obtain ⟨b0, b1, b2, b3, -⟩ := q1.out.four
 clear hb2
 refine hK.out _ _ (fun _ => ⟨a0, a1, a2, a3, b0, b1, b2, b3⟩) ?_
 clear hK K
 try simp only [Act.put, Ze7, Ze8, Zfh]
 refine Zg (i := 6) rfl (by kernel_rfl) (fun K hK => ?_)
 go_simp
 refine (Zpn nu nv U V k1 u k2 v _ _ w2 hU.out hV.out).mono ?_
 rintro e w3 ⟨hb3, np, P, k, q, code, rfl, hR⟩
 have hP := Za (hR.small hs.out)
 have hcode := hR.code0 hs.out
 subst hcode
 clear hs hR hU hV
 replace q0 := Za (Zc hb3 q0.out)
 replace q1 := Za (Zc hb3 q1.out)
 replace q2 := Za (Zc hb3 q2.out)
 replace q3 := Za (Zc hb3 q3.out)
 replace hA := Za (hA.out.below hb3)
 replace hD := Za (hD.out.below hb3)
 replace hB := Za (hB.out.trans (hb3.mono sz.out))
 replace sz := Za (Nat.le_trans sz.out hb3.size)
 clear a0 a1 a2 a3 b0 b1 b2 b3
 obtain ⟨a0, a1, a2, a3, -⟩ := q0.out.four
 obtain ⟨b0, b1, b2, b3, -⟩ := q1.out.four
 clear hb3
 refine hK.out _ _ (fun _ => ⟨a0, a1, a2, a3, b0, b1, b2, b3⟩) ?_
 clear hK K
 try simp only [Act.put, Ze7, Ze8, Zfh]
 refine Zhz 2 [7, 8] rfl (by kernel_rfl) ⟨a0, a1, a2, a3, b0, b1, b2, b3⟩ ?_
 iterate 2 (refine tk1 (v := ?_) rfl (Or.inl ⟨by kernel_rfl, ?_⟩) ?_; rotate_left; (· intro W2 hSw; (try dsimp only at hSw); go_simp; try with_reducible rfl); try simp only [Act.put, Ze7, Ze8, Zfh, putG_a, putG_s, putG_z])
 refine tk0 ?_
 refine Zg (i := 9) rfl (by kernel_rfl) (fun K hK => ?_)
 go_simp
 refine (Zc7 np P k q w3).mono ?_
 rintro e w4 ⟨rfl, hb4⟩
 replace hP := Za (hP.out.below hb4)
 replace q0 := Za (Zc hb4 q0.out)
 replace q1 := Za (Zc hb4 q1.out)
 replace q2 := Za (Zc hb4 q2.out)
 replace q3 := Za (Zc hb4 q3.out)
 replace hA := Za (hA.out.below hb4)
 replace hD := Za (hD.out.below hb4)
 replace hB := Za (hB.out.trans (hb4.mono sz.out))
 replace sz := Za (Nat.le_trans sz.out hb4.size)
 clear a0 a1 a2 a3 b0 b1 b2 b3
 obtain ⟨a0, a1, a2, a3, -⟩ := q0.out.four
 obtain ⟨b0, b1, b2, b3, -⟩ := q1.out.four
 clear hb4
 refine hK.out _ _ (fun _ => ⟨a0, a1, a2, a3, b0, b1, b2, b3⟩) ?_
 clear hK K
 try simp only [Act.put, Ze7, Ze8, Zfh]
 refine Zg (i := 14) rfl (by kernel_rfl) (fun K hK => ?_)
 go_simp
 refine (Zhh nb nb' B B' m d m' d' a.den b.den w4 hA.out.2 hD.out.2).mono ?_
 rintro e w5 ⟨hb5, np', P', k', q', code, rfl, hR⟩
 replace hP := Za (hP.out.below hb5)
 have hP' := Za (hR.small ht.out)
 have hcode := hR.code0 ht.out
 subst hcode
 clear ht hR
 replace q0 := Za (Zc hb5 q0.out)
 replace q1 := Za (Zc hb5 q1.out)
 replace q2 := Za (Zc hb5 q2.out)
 replace q3 := Za (Zc hb5 q3.out)
 replace hA := Za (hA.out.below hb5)
 replace hD := Za (hD.out.below hb5)
 replace hB := Za (hB.out.trans (hb5.mono sz.out))
 replace sz := Za (Nat.le_trans sz.out hb5.size)
 clear a0 a1 a2 a3 b0 b1 b2 b3
 obtain ⟨a0, a1, a2, a3, -⟩ := q0.out.four
 obtain ⟨b0, b1, b2, b3, -⟩ := q1.out.four
 clear hb5
 refine hK.out _ _ (fun _ => ⟨a0, a1, a2, a3, b0, b1, b2, b3⟩) ?_
 clear hK K
 try simp only [Act.put, Ze7, Ze8, Zfh]
 refine Zhz 2 [15, 16] rfl (by kernel_rfl) ⟨a0, a1, a2, a3, b0, b1, b2, b3⟩ ?_
 iterate 2 (refine tk1 (v := ?_) rfl (Or.inl ⟨by kernel_rfl, ?_⟩) ?_; rotate_left; (· intro W2 hSw; (try dsimp only at hSw); go_simp; try with_reducible rfl); try simp only [Act.put, Ze7, Ze8, Zfh, putG_a, putG_s, putG_z])
 refine tk0 ?_
 refine Zg (i := 17) rfl (by kernel_rfl) (fun K hK => ?_)
 go_simp
 refine (Zc7 np' P' k' q' w5).mono ?_
 rintro e w6 ⟨rfl, hb6⟩
 replace hP := Za (hP.out.below hb6)
 replace hP' := Za (hP'.out.below hb6)
 replace q0 := Za (Zc hb6 q0.out)
 replace q1 := Za (Zc hb6 q1.out)
 replace q2 := Za (Zc hb6 q2.out)
 replace q3 := Za (Zc hb6 q3.out)
 replace hA := Za (hA.out.below hb6)
 replace hD := Za (hD.out.below hb6)
 replace hB := Za (hB.out.trans (hb6.mono sz.out))
 replace sz := Za (Nat.le_trans sz.out hb6.size)
 clear a0 a1 a2 a3 b0 b1 b2 b3
 obtain ⟨a0, a1, a2, a3, -⟩ := q0.out.four
 obtain ⟨b0, b1, b2, b3, -⟩ := q1.out.four
 clear hb6
 obtain ⟨x0, x1, f0, f1⟩ := q2.out.two
 refine hK.out _ _ (fun _ => ⟨a0, a1, a2, a3, b0, b1, b2, b3⟩) ?_
 clear hK K
 try simp only [Act.put, Ze7, Ze8, Zfh]
 refine Zg (i := 18) rfl (by kernel_rfl) (fun K hK => ?_)
 go_simp
 obtain ⟨W5, hW5, hB5, q2', kW, kB, s5⟩ := Za3 np P k q hB.out (by omega) q2.out
 rw [hW5]
 clear hW5 x0 x1 f0 f1 a0 a1 a2 a3 b0 b1 b2 b3 hA hD
 replace q0 := kB _ _ _ (by omega) q0.out
 replace q1 := kB _ _ _ (by omega) q1.out
 obtain ⟨a0, a1, a2, a3, -⟩ := q0.four
 obtain ⟨b0, b1, b2, b3, -⟩ := q1.four
 replace q3 := Za (kB _ _ _ (by omega) q3.out)
 replace hP := Za (kW _ _ _ _ _ hP.out)
 replace hP' := Za (kW _ _ _ _ _ hP'.out)
 clear kW kB q2 hB q0 q1
 obtain ⟨y0, y1, g0, g1⟩ := q3.out.two
 refine hK.out _ _ (fun _ => ⟨a0, a1, a2, a3, b0, b1, b2, b3⟩) ?_
 clear hK K
 try simp only [Act.put, Ze7, Ze8, Zfh]
 refine Zn (i := 19) rfl (by kernel_rfl) (by kernel_rfl) (fun K hK => ?_)
 go_simp
 obtain ⟨W6, hW6, hB6, q3', kW, kB, s6⟩ := Za3 np' P' k' q' hB5 (by omega) q3.out
 rw [hW6]
 clear hW6 y0 y1 g0 g1 a0 a1 a2 a3 b0 b1 b2 b3
 replace q2' := kB _ _ _ (by omega) q2'
 replace hP := Za (kW _ _ _ _ _ hP.out)
 replace hP' := Za (kW _ _ _ _ _ hP'.out)
 clear kW kB q3 hB5
 refine hK.out _ _ ?_
 clear hK K
 try simp only [Act.put, Ze7, Ze8, Zfh]
 refine Zl (by kernel_rfl) ?_ _
 refine OnlyNormal.normal ?_
 obtain ⟨r0, r1, -⟩ := q2'.two
 obtain ⟨r2, r3, -⟩ := q3'.two
 go_wp2_with fail
 refine bodyPost_ret (v := .tuple #[.agg #[.bool np, .slice P k q], .agg #[.bool np', .slice P' k' q']]) (by simp [results, Tryz.results125, go_sem, r0, r1, r2, r3]) rfl ?_
 exact ⟨hB6, _, _, _, _, _, _, _, _, rfl, hP.out, hP'.out⟩
theorem fAdd_ok (na nb na' nb' : Bool) (A B A' B' : Option Addr) (n c m d n' c' m' d' : Nat) (a b : Rat) (w : World) (ha : Fr w na A n c nb B m d a) (hb : Fr w na' A' n' c' nb' B' m' d' b) (sa : Sm a) (sb : Sm b) :
    Calls Tryz.prog 68 #[.agg #[.bool na, .slice A n c, .bool nb, .slice B m d], .agg #[.bool na', .slice A' n' c', .bool nb', .slice B' m' d']] w (Ze0 w (a + b)) := by
 obtain ⟨W0, hW0, hB0, ⟨q0, q1, q2⟩, s0⟩ := Zdm w 45 #[.bool na, .slice A n c, .bool nb, .slice B m d] 45 #[.bool na', .slice A' n' c', .bool nb', .slice B' m' d'] 45 #[.bool false, .slice none 0 0, .bool false, .slice none 0 0]
 have hA := Za (ha.below hB0)
 have hD := Za (hb.below hB0)
 have hF := fun (W : World) (h1 : Fr W na A n c nb B m d a) (h2 : Fr W na' A' n' c' nb' B' m' d' b) => Add1_ok na nb na' nb' A B A' B' n c m d n' c' m' d' a b W h1 h2 (Zbt sa.1 sb.dn) (Zbt sb.1 sa.dn) (Zqa sa.1 sb.dn sb.1 sa.dn) (Zbt sa.dn sb.dn)
 have hG := Za (Zmy 125 na nb na' nb' A B A' B' n c m d n' c' m' d' a b _ _ W0 hA.out hD.out (Zc3 a b) Zpk hF)
 rw [Zrb] at hG
 clear hF ha hb sa sb hA hD
 obtain ⟨a0, a1, a2, a3, -⟩ := q0.four
 obtain ⟨b0, b1, b2, b3, -⟩ := q1.four
 replace q2 := Za q2
 clear q0 q1
 go_enter Tryz.func68, Tryz.ntmps68
 go_wp2_with fail
 refine hG.out.mono ?_
 rintro e w1 ⟨hb1, nx, Ax, kx, cx, ny, Ay, ky, cy, rfl, hX⟩
 have hB1 : Below w.heap.size w w1 := hB0.trans (hb1.mono hB0.size)
 have s1 : W0.heap.size <= w1.heap.size := hb1.size
 replace q2 := Za (Zc hb1 q2.out)
 replace hX := Za hX
 clear hb1 a0 a1 a2 a3 b0 b1 b2 b3 hB0 hG hW0
 obtain ⟨c20, c21, c22, c23, f20, f21, f22, f23⟩ := q2.out.four
 go_wp2_with fail
 obtain ⟨W5, hW5, hB5, q2, kW, -, s5⟩ := Zz nx Ax kx cx ny Ay ky cy hB1 (by omega) q2.out
 rw [hW5]
 obtain ⟨r0, r1, r2, r3, -⟩ := q2.four
 refine bodyPost_ret (v := .tuple #[.agg #[.bool nx, .slice Ax kx cx, .bool ny, .slice Ay ky cy], .int .i64 0]) (by simp [results, Tryz.results68, go_sem, r0, r1, r2, r3]) rfl ?_
 exact ⟨hB5, _, _, _, _, _, _, _, _, rfl, kW _ _ _ _ _ hX.out.1, kW _ _ _ _ _ hX.out.2⟩
theorem Zdf {t : TypeId} {w : World} {g : Nat} {a0 : Bool} {A0 : Option Addr} {n0 c0 : Nat} {b0 : Bool} {B0 : Option Addr} {m0 d0 : Nat} (na : Bool) (A : Option Addr) (n c : Nat) (nb : Bool) (B : Option Addr) (m d : Nat) (hb : Blk w g t #[.bool a0, .slice A0 n0 c0, .bool b0, .slice B0 m0 d0]) :
    ∃ W, (((w.setCell ⟨g, 0, none⟩ (.bool na)).setCell ⟨g, 1, none⟩ (.slice A n c)).setCell ⟨g, 2, none⟩ (.bool nb)).setCell ⟨g, 3, none⟩ (.slice B m d) = W /\ Blk W g t #[.bool na, .slice A n c, .bool nb, .slice B m d] /\ Kept (fun k => k = g) w W /\ W.heap.size = w.heap.size := by
 have hb1 : Blk (w.setCell ⟨g, 0, none⟩ (.bool na)) g t #[.bool na, .slice A0 n0 c0, .bool b0, .slice B0 m0 d0] := hb.set_ 0 (.bool na)
 have hb2 : Blk ((w.setCell ⟨g, 0, none⟩ (.bool na)).setCell ⟨g, 1, none⟩ (.slice A n c)) g t #[.bool na, .slice A n c, .bool b0, .slice B0 m0 d0] := hb1.set_ 1 (.slice A n c)
 have hb3 : Blk (((w.setCell ⟨g, 0, none⟩ (.bool na)).setCell ⟨g, 1, none⟩ (.slice A n c)).setCell ⟨g, 2, none⟩ (.bool nb)) g t #[.bool na, .slice A n c, .bool nb, .slice B0 m0 d0] := hb2.set_ 2 (.bool nb)
 have hb4 : Blk ((((w.setCell ⟨g, 0, none⟩ (.bool na)).setCell ⟨g, 1, none⟩ (.slice A n c)).setCell ⟨g, 2, none⟩ (.bool nb)).setCell ⟨g, 3, none⟩ (.slice B m d)) g t #[.bool na, .slice A n c, .bool nb, .slice B m d] := hb3.set_ 3 (.slice B m d)
 have k0 : Kept (fun k => k = g) w w := Kept.refl _ _
 exact ⟨_, rfl, hb4, (((k0.set_ (p := ⟨g, 0, none⟩) (.inl rfl) _).set_ (p := ⟨g, 1, none⟩) (.inl rfl) _).set_ (p := ⟨g, 2, none⟩) (.inl rfl) _).set_ (p := ⟨g, 3, none⟩) (.inl rfl) _, by simp⟩
theorem Zgz {w : World} (t : TypeId) (cs : Array Value) : ∃ W, w.alloc (.cells cs t) = W /\ Blk W w.heap.size t cs /\ Below w.heap.size w W :=
 ⟨_, rfl, Blk.new _ _ _, (Below.refl _ _).alloc (Nat.le_refl _) _⟩
def VarF (w : World) (g : Nat) (q : Rat) : Prop := ∃ na A n c nb B m d, Blk w g 45 #[.bool na, .slice A n c, .bool nb, .slice B m d] /\ Fr w na A n c nb B m d q
theorem VarF.box {w : World} {g : Nat} {q : Rat} (h : VarF w g q) : ∃ t cs, Blk w g t cs /\ NoLimb cs := by
 obtain ⟨na, A, n, c, nb, B, m, d, h1, -⟩ := h
 exact ⟨_, _, h1, Z7 _ _ _ _ _ _ _ _⟩
theorem VarF.lt {w : World} {g : Nat} {q : Rat} (h : VarF w g q) : g < w.heap.size := by
 obtain ⟨na, A, n, c, nb, B, m, d, h1, -⟩ := h
 exact h1.lt
theorem VarF.kept {w w' : World} {g : Nat} {q : Rat} {G : Nat -> Prop} (h : VarF w g q) (hk : Kept G w w') (hg : ¬ G g) (hG : ∀ k, G k -> ∃ t cs, Blk w k t cs /\ NoLimb cs) : VarF w' g q := by
 obtain ⟨na, A, n, c, nb, B, m, d, h1, h2⟩ := h
 exact ⟨na, A, n, c, nb, B, m, d, hk.blk h1 hg, hk.wd h2.1 hG, hk.wd h2.2 hG⟩
theorem VarF.below {w w' : World} {g : Nat} {q : Rat} (h : VarF w g q) (hb : Below w.heap.size w w') : VarF w' g q :=
 h.kept (G := fun _ => False) (Kept.of_below hb |>.mono (fun _ _ h => h)) (fun h => h) (fun _ h => h.elim)
theorem Fr.keptV {w w' : World} {na : Bool} {A : Option Addr} {n c : Nat} {nb : Bool} {B : Option Addr} {m d : Nat} {r : Rat} {g : Nat} {t : TypeId} {cs : Array Value} (h : Fr w na A n c nb B m d r) (hk : Kept (fun k => k = g) w w') (hb : Blk w g t cs) (hn : NoLimb cs) : Fr w' na A n c nb B m d r :=
 ⟨hk.wd h.1 (fun k e => by cases e; exact ⟨_, _, hb, hn⟩), hk.wd h.2 (fun k e => by cases e; exact ⟨_, _, hb, hn⟩)⟩
theorem Ztg {z : Int} (h : I64 z) : Sm (z : Rat) := by
 unfold I64 at h
 refine (SmN.int (i := 3) ?_).mono (by decide) (by decide)
 have : pw 3 = 79228162514264337593543950336 := by decide +kernel
 rw [this]; omega
theorem Zgw (z : Int) : Rat.divInt z 1 = (z : Rat) := Zfl z
theorem Zqg (A B C : Option Addr) (n c m0 d k e0 : Nat) (rs : List RI) (rr ws : List Int) (w : World) (h : MIL w A n c rs) (hr : LimI w B m0 d rr) (hw : LimI w C k e0 ws) (E : Int) (hE : Zcm rs rr ws = E) (h0 : E ≠ 0) :
    Calls Tryz.prog 18 #[.slice A n c, .slice B m0 d, .slice C k e0] w fun e w' => e = .returned (.tuple #[.slice none 0 0, .agg #[.bool false, .slice none 0 0, .bool false, .slice none 0 0], .int .i64 E]) /\ Below w.heap.size w w' := by
 obtain ⟨W0, hW0, hB0, q0, s0⟩ := Zea w 45 #[.bool false, .slice none 0 0, .bool false, .slice none 0 0]
 have t1 : decide (E ≠ 0) = true := decide_eq_true h0
 have t1' : (E != 0) = true := by simpa using h0
 replace h := Za (h.below hB0)
 replace hr := Za (hr.below hB0)
 replace hw := Za (hw.below hB0)
 replace hE := Za hE
 replace h0 := Za h0
 go_enter Tryz.func18, Tryz.ntmps18
 go_wp2_with fail
 (try rw [hW0])
 refine (Zem A B C n c m0 d k e0 rs rr ws W0 h.out hr.out hw.out E hE.out).mono ?_
 rintro e w1 ⟨rfl, hb1⟩
 have q1 := Zc hb1 q0
 obtain ⟨c0, c1, c2, c3, f0, f1, f2, f3⟩ := q1.four
 go_wp2_with fail
 obtain ⟨W5, hW5, hB5, q2, -, -, s5⟩ := Zz false none 0 0 false none 0 0 (hB0.trans (hb1.mono hB0.size)) (Nat.le_refl _) q1
 (try rw [hW5])
 obtain ⟨r0, r1, r2, r3, -⟩ := q2.four
 refine bodyPost_ret (v := .tuple #[.slice none 0 0, .agg #[.bool false, .slice none 0 0, .bool false, .slice none 0 0], .int .i64 E]) (by simp [results, Tryz.results18, go_sem, r0, r1, r2, r3]) rfl ?_
 exact ⟨rfl, hB5⟩
def Zm7 (full : Bool) (xs : List Rat) (q : Rat) (w : World) (e : Ending) (w' : World) : Prop :=
 (full = false /\ e = .returned (.tuple #[.slice none 0 0, .agg #[.bool false, .slice none 0 0, .bool false, .slice none 0 0], .int .i64 22]) /\ Below w.heap.size w w') \/
 (full = true /\ ∃ A0 n0 c0 na A n c nb B m d, e = .returned (.tuple #[.slice A0 n0 c0, .agg #[.bool na, .slice A n c, .bool nb, .slice B m d], .int .i64 0]) /\ Below w.heap.size w w' /\ FL w' A0 n0 c0 xs /\ Fr w' na A n c nb B m d q)
theorem Zjz (A B C : Option Addr) (n c d e0 m : Nat) (rs : List RI) (rr ws : List Int) (w : World) (h : MIL w A n c rs) (hr : LimI w B n d rr) (hw : LimI w C n e0 ws) (hE : Zcm rs rr ws = 0) (hm : n0I rs = m) (hn0 : 0 < n) (hm0 : 0 < m) (hm9 : m <= 12)
    (hok : okZ (pw 200) (m + 1) m 0 0 (Z8 (Zaj rs rr ws n m)) 1) (hfin : Znx (Zaj rs rr ws n m) m (m + 1)) (hrk : (Zaq m 0 0 (Z8 (Zaj rs rr ws n m)) false 1).2.1 <= m)
    (X : Nat -> Nat -> Rat) (hX : (Zaq m 0 0 (Z8 (Zaj rs rr ws n m)) false 1).2.1 = m -> Zf4 (fun i j => (Zab (Zaq m 0 0 (Z8 (Zaj rs rr ws n m)) false 1).1 i j : Rat)) X m (m + 1))
    (full : Bool) (hfull : full = decide ((Zaq m 0 0 (Z8 (Zaj rs rr ws n m)) false 1).2.1 = m)) (hP : full = true -> Zj0 rs rr ws (fun j => X j m) n m) :
    Calls Tryz.prog 18 #[.slice A n c, .slice B n d, .slice C n e0] w (Zm7 full ((List.range m).map fun j => X j m) (Zlb rs rr ws (fun j => X j m) m n) w) := by
 have hmx : Tryz.prog.follows .mixedOrders = true := by kernel_rfl
 obtain ⟨f1, f2, f3, f4, f5, f6, f7, f8⟩ := Zdp hE
 have hl := h.1
 have hrow : ∀ r ∈ rs, r.n = m := fun r hr => by rw [(f8 r hr).1, hm]
 have hrrl : rr.length = n := by rw [f5, hl]
 have hwsl : ws.length = n := by rw [f4, hl]
 rw [hl] at f1
 have hQr : ∀ i, i < m -> ((Zaj rs rr ws n m)[i]?.getD []).length = m + 1 := fun i hi => by
  unfold Zaj
  rw [List.getElem?_map, List.getElem?_range hi, Option.map_some, Option.getD_some, Zc6]
 obtain ⟨Q, hQ⟩ : ∃ Q, Zaj rs rr ws n m = Q := ⟨_, rfl⟩
 rw [hQ] at hQr hok hfin hrk hX hfull
 obtain ⟨W0, hW0, hB0, q0, s0⟩ := Zea w 45 #[.bool false, .slice none 0 0, .bool false, .slice none 0 0]
 obtain ⟨gs, hgs⟩ : ∃ g, w.heap.size = g := ⟨_, rfl⟩
 rw [hgs] at q0
 have hM0 := Za h
 have hR0 := Za hr
 have hC0 := Za hw
 replace h := Za (h.below hB0)
 replace hr := Za (hr.below hB0)
 replace hw := Za (hw.below hB0)
 replace hE := Za hE
 replace hQr := Za hQr
 replace hQ := Za hQ
 replace hok := Za hok
 replace hfin := Za hfin
 replace hrk := Za hrk
 replace hX := Za hX
 replace hfull := Za hfull
 replace hP := Za hP
 replace hrow := Za hrow
 replace hl := Za hl
 replace hrrl := Za hrrl
 replace hwsl := Za hwsl
 replace q0 := Za q0
 clear f2 f3 f4 f5 f6 f7 f8 hm
 go_enter Tryz.func18, Tryz.ntmps18
 go_wp2_with fail
 (try rw [hW0])
 (try rw [hgs])
 rw [hgs] at hB0 s0
 replace hgs := Za hgs
 refine (Zem A B C n c n d n e0 rs rr ws W0 h.out hr.out hw.out 0 hE.out).mono ?_
 rintro e w1 ⟨rfl, hb1⟩
 replace q0 := Za (Zc hb1 q0.out)
 clear hW0
 go_wp2_with fail
 refine (Zj8 A B C n c d e0 m rs rr ws w1 (h.out.below hb1) (hr.out.below hb1) (hw.out.below hb1) hn0 (by omega) hm0 (by omega) hrow.out).mono ?_
 rintro e w2 ⟨go, rs', rfl, hb2, hrl, base, hbb, hMA⟩
 have hMF := hMA.mfl (c := m) (by omega) (by unfold maxLen; omega)
 rw [hrl, hQ.out] at hMF
 have hB2 := hb1.trans (hb2.mono hb1.size)
 replace q0 := Za (Zc hb2 q0.out)
 replace hMF := Za hMF
 clear hMA hbb hb1 hb2 hrl
 go_wp2_with fail
 by_cases hlt : (Zaq m 0 0 (Z8 Q) false 1).2.1 < m
 ·have hf : full = false := by
    have := hfull.out
    rw [this]
    exact decide_eq_false (by omega)
  subst hf
  replace hlt := Za hlt
  refine (Zub (some ⟨go, 0, none⟩) m m (m + 1) Q w2 hMF.out hm0 (by omega) (by omega) (by omega) hQr.out hok.out hfin.out hlt.out).mono ?_
  rintro e w3 ⟨rfl, hb3⟩
  have hB3 := hB2.trans (hb3.mono hB2.size)
  have q3 := Zc hb3 q0.out
  obtain ⟨c0, c1, c2, c3, z0, z1, z2, z3⟩ := q3.four
  go_wp2_with fail
  have hB03 : Below gs w w3 := hB0.trans (hB3.mono (by omega))
  obtain ⟨W5, hW5, hB5, q5, -, -, s5⟩ := Zz false none 0 0 false none 0 0 hB03 (Nat.le_refl _) q3
  (try rw [hW5])
  obtain ⟨r0, r1, r2, r3, -⟩ := q5.four
  refine bodyPost_ret (v := .tuple #[.slice none 0 0, .agg #[.bool false, .slice none 0 0, .bool false, .slice none 0 0], .int .i64 22]) (by simp [results, Tryz.results18, go_sem, r0, r1, r2, r3]) rfl ?_
  exact .inl ⟨rfl, rfl, by rw [hgs.out]; exact hB5⟩
 have hre : Hid ((Zaq m 0 0 (Z8 Q) false 1).2.1 = m) := Za (by have := hrk.out; omega)
 have hf : full = true := by
  have := hfull.out
  rw [this]
  exact decide_eq_true hre.out
 subst hf
 replace hP := Za (hP.out rfl)
 clear hlt
 refine (Ztn (some ⟨go, 0, none⟩) m m (m + 1) Q w2 hMF.out hm0 (by omega) (by omega) (by omega) hQr.out hok.out hfin.out hre.out X (hX.out hre.out)).mono ?_
 rintro e w5 ⟨gO, L5, rfl, hb5, hgO, hM5, hLq5, -⟩
 have hLl5 : L5.length = m := by rw [<- List.length_map (f := RF.q), hLq5]; unfold Zdj; simp
 have hfl : (L5.map RF.q).flatten = (List.range m).map fun j => X j m := by
  rw [hLq5]
  unfold Zdj
  rw [show m + 1 - m = 1 by omega]
  have : ∀ l : List Nat, (l.map fun i => (List.range 1).map fun c => X i (m + c)).flatten = l.map fun j => X j m := by
   intro l
   induction l with
   | nil => rfl
   | cons x l ih => rw [List.map_cons, List.flatten_cons, ih]; rfl
  exact this _
 have hfll : (L5.map RF.q).flatten.length = m := by rw [hfl]; simp
 have hB5 := hB2.trans (hb5.mono hB2.size)
 replace q0 := Za (Zc hb5 q0.out)
 replace hM5 := Za hM5
 clear hMF
 go_wp2_with fail
 refine (Zsf gO m m L5 w5 hM5.out hLl5 (by omega) (Nat.le_refl _) (by unfold maxLen; omega) (by omega) (by omega)).mono ?_
 rintro e w6 ⟨v6, rfl, hb6, hO6⟩
 rw [hfl] at hO6
 have hB6 := hB5.trans (hb6.mono hB5.size)
 replace q0 := Za (Zc hb6 q0.out)
 have hg5 : gs < w5.heap.size := by have := hB5.size; omega
 obtain ⟨xs, hxs⟩ : ∃ xs, (List.range m).map (fun j => X j m) = xs := ⟨_, rfl⟩
 rw [hxs] at hO6
 obtain ⟨gx, cx, rfl, hgx, hcx1, hcx2, hOx⟩ : ∃ g c, v6 = .slice (some ⟨g, 0, none⟩) m c /\ gs < g /\ m <= c /\ c <= maxLen /\ FOwn 45 w6 g xs := by
  have hxl : xs.length = m := by rw [<- hxs]; simp
  rcases hO6.fown with ⟨-, e⟩ | ⟨g, c, e1, e2, e3, e4, e5⟩
  ·rw [e] at hxl; simp at hxl; omega
  ·rw [hxl] at e1 e3
   exact ⟨g, c, e1, by omega, e3, e4, e5⟩
 replace hOx := Za hOx
 replace hxs := Za hxs
 clear hO6 hM5 hfl hfll hLq5 hLl5 hb5 hb6 hgO hre hrk hX hfin hok hQr hQ hfull
 go_wp2_with fail
 refine (Zmt 0 1 w6 (by decide) (by decide) (by decide) (by decide)).mono ?_
 rintro e w7 ⟨hb7, n7, A7, k7, c7, m7, B7, j7, d7, rfl, hf7⟩
 rw [Zgw] at hf7
 have q7 := Zc hb7 q0.out
 have hB7 := hB6.trans (hb7.mono hB6.size)
 have hOx7 := hOx.out.below hb7
 obtain ⟨c0, c1, c2, c3, z0, z1, z2, z3⟩ := q7.four
 clear hOx q0 hb7
 go_wp2_with fail
 obtain ⟨W8, hW8, q8, hK8, s8⟩ := Zdf n7 A7 k7 c7 m7 B7 j7 d7 q7
 (try rw [hW8])
 have hf8 := hf7.keptV hK8 q7 (Z7 _ _ _ _ _ _ _ _)
 have hOx8 := Za (hOx7.keptG hK8 (by omega) (fun k e => by cases e; exact ⟨_, _, q7, Z7 _ _ _ _ _ _ _ _⟩))
 have hV8 : VarF W8 gs (Zlb rs rr ws (fun j => X j m) m 0) := ⟨_, _, _, _, _, _, _, _, q8, hf8⟩
 have hB8 : Hid (Below W0.heap.size W0 w7 /\ gs + 1 = W0.heap.size) := Za ⟨hB7, by omega⟩
 have hBW8 : Hid (Below gs w W8) := Za (hB0.trans ((hB7.mono (by omega)).trans (hK8.to_below (fun k e => by omega) (by have := hB7.size; omega))))
 replace hV8 := Za hV8
 clear hf7 hf8 q7 q8 hOx7 hW8 c0 c1 c2 c3 z0 z1 z2 z3 hB7 hB6 hB5 hB2
 unfold maxLen at hcx2
 go_loopg [53] n (fun k iv wr => ∃ i : Nat, i + k = n /\ iv = .int .i64 i /\ VarF wr gs (Zlb rs rr ws (fun j => X j m) m i) /\ Kept (fun g => g = gs) W8 wr)
 case atStart => exact ⟨0, by omega, rfl, hV8.out, Kept.refl _ _⟩
 case round =>
  obtain ⟨i, hik, rfl, hVr, hKr⟩ := hrel
  have hBr : Below w.heap.size w wr := by
   rw [hgs.out]
   exact hBW8.out.trans (hKr.to_below (fun k e => by omega) (by have := hBW8.out.size; have := hgs.out; omega))
  cases gk with
  | zero =>
   obtain rfl : n = i := by omega
   have t2 : decide ((n : Int) < (n : Int)) = false := by simp
   obtain ⟨sn, sA, sk, sc, sm, sB, sj, sd, qs, hs⟩ := hVr
   obtain ⟨c0, c1, c2, c3, z0, z1, z2, z3⟩ := qs.four
   have hO := Za (hOx8.out.keptG hKr (by omega) (fun k e => by cases e; exact hV8.out.box))
   have hsh := Za hs
   clear hs hM0 hR0 hC0 h hr hw hOx8
   go_wp2_with fail
   refine Zah [] (fun wx => wx.cell? ⟨gs, 0, none⟩ = some (.bool sn) /\ wx.cell? ⟨gs, 1, none⟩ = some (.slice sA sk sc) /\ wx.cell? ⟨gs, 2, none⟩ = some (.bool sm) /\ wx.cell? ⟨gs, 3, none⟩ = some (.slice sB sj sd)) hmx ⟨c0, c1, c2, c3⟩ (fun _ => ?_)
   refine Zfo 1 [0] rfl (by kernel_rfl) ⟨c0, c1, c2, c3⟩ ?_
   (refine tk1 (v := ?_) rfl (Or.inl ⟨by kernel_rfl, ?_⟩) ?_; rotate_left; (· intro W2 _; go_simp; try with_reducible rfl); try simp only [Act.put, Ze7, Ze8, Zfh, putG_a, putG_s, putG_z])
   refine tk0 ?_
   refine Zhz 1 [1] rfl (by kernel_rfl) ⟨c0, c1, c2, c3⟩ ?_
   (refine tk1 (v := ?_) rfl (Or.inl ⟨by kernel_rfl, ?_⟩) ?_; rotate_left; (· intro W2 hSw; (try dsimp only at hSw); go_simp; try with_reducible rfl); try simp only [Act.put, Ze7, Ze8, Zfh, putG_a, putG_s, putG_z])
   refine tk0 ?_
   refine Zfo 1 [2] rfl (by kernel_rfl) ⟨c0, c1, c2, c3⟩ ?_
   (refine tk1 (v := ?_) rfl (Or.inl ⟨by kernel_rfl, ?_⟩) ?_; rotate_left; (· intro W2 _; go_simp; try with_reducible rfl); try simp only [Act.put, Ze7, Ze8, Zfh, putG_a, putG_s, putG_z])
   refine tk0 ?_
   obtain ⟨W9, hW9, q9, hK9, s9⟩ := Zdf sn sA sk sc sm sB sj sd (w := wr) qs
   have q9s := q9.four
   have hS9 := And.intro q9s.1 (And.intro q9s.2.1 (And.intro q9s.2.2.1 q9s.2.2.2.1))
   refine Zg (i := 3) rfl (by kernel_rfl) (fun K hK => ?_)
   go_simp
   (try rw [hW9])
   refine hK.out _ _ (fun _ => hS9) ?_
   clear hK K
   try simp only [Act.put, Ze7, Ze8, Zfh]
   refine Zfo 1 [4] rfl (by kernel_rfl) hS9 ?_
   (refine tk1 (v := ?_) rfl (Or.inl ⟨by kernel_rfl, ?_⟩) ?_; rotate_left; (· intro W2 _; go_simp; try with_reducible rfl); try simp only [Act.put, Ze7, Ze8, Zfh, putG_a, putG_s, putG_z])
   refine tk0 ?_
   refine Zl (by kernel_rfl) ?_ _
   refine OnlyNormal.normal ?_
   obtain ⟨r0, r1, r2, r3, -⟩ : W9.drew.cell? ⟨gs, 0, none⟩ = some (.bool sn) /\ W9.drew.cell? ⟨gs, 1, none⟩ = some (.slice sA sk sc) /\ W9.drew.cell? ⟨gs, 2, none⟩ = some (.bool sm) /\ W9.drew.cell? ⟨gs, 3, none⟩ = some (.slice sB sj sd) /\ True := ⟨q9.four.1, q9.four.2.1, q9.four.2.2.1, q9.four.2.2.2.1, trivial⟩
   have hBr' : Below w.heap.size w W9.drew := Ze (hBr.trans (hK9.to_below (fun k e => by rw [e, hgs.out]; exact Nat.le_refl _) hBr.size)) 1
   have hs9 := Fr.drew (hsh.out.keptV hK9 qs (Z7 _ _ _ _ _ _ _ _))
   have hO9' := FOwn.keptG hO.out hK9 (show ¬ gx = gs by omega) (fun k e => by cases e; exact ⟨_, _, qs, Z7 _ _ _ _ _ _ _ _⟩)
   have hO9 : FOwn 45 W9.drew gx xs := hO9'
   clear hW9
   go_wp2_with fail
   refine bodyPost_ret (v := .tuple #[.slice (some ⟨gx, 0, none⟩) m cx, .agg #[.bool sn, .slice sA sk sc, .bool sm, .slice sB sj sd], .int .i64 0]) (by simp [results, Tryz.results18, go_sem, r0, r1, r2, r3]) rfl ?_
   have hxl : xs.length = m := by rw [<- hxs.out]; simp
   exact .inr ⟨rfl, _, _, _, _, _, _, _, _, _, _, _, rfl, hBr', by
    have := hO9.fl (c := cx) (by omega) (by unfold maxLen; omega)
    rw [hxl, <- hxs.out] at this
    exact this, hs9⟩
  | succ k' =>
   obtain rfl : k' = n - (i + 1) := by omega
   have hin : i < n := by omega
   have t2 : decide ((i : Int) < (n : Int)) = true := decide_eq_true (by omega)
   have bi : (i : Int) < (n : Int) := by omega
   obtain ⟨gA, oA, r, rfl, hri, k0, hL⟩ := (hM0.out.below hBr).at_ hin
   have hrn := hrow.out r (List.mem_of_getElem? hri)
   have hrl : ∀ t, r.l[t]?.getD 0 = Zaa rs t i := fun t => (Zmw hri).symm
   have hRr := hR0.out.below hBr
   have hCr := hC0.out.below hBr
   have hi6 := Zcv hRr.2.2.2.1 i
   have hw6 := Zcv hCr.2.2.2.1 i
   obtain ⟨gB, oB, rfl, hcB⟩ := hRr.2.2.2.2 hn0
   obtain ⟨gC, oC, rfl, hcC⟩ := hCr.2.2.2.2 hn0
   have kB := hcB i hin
   have kC := hcC i hin
   rw [hrn] at hL
   have ha6 : Hid (∀ t, I64 (Zaa rs t i)) := Za (fun t => by rw [<- hrl t]; exact Zcv hL.2.2.2.1 t)
   obtain ⟨gr, orr, hrA, hcr0⟩ := hL.2.2.2.2 hm0
   rw [hrn, hrA] at k0
   have hcr : Hid (∀ t, t < m -> wr.cell? ⟨gr, orr + t, none⟩ = some (.int .i64 (Zaa rs t i))) := Za (fun t ht => by rw [<- hrl t]; exact hcr0 t ht)
   have hrc := hL.2.2.1
   unfold maxLen at hrc
   have hOr := Za (hOx8.out.keptG hKr (by omega) (fun k e => by cases e; exact hV8.out.box))
   replace hVr := Za hVr
   clear hcr0 hL hcB hcC hRr hCr
   obtain ⟨wo, hwo⟩ : ∃ x : World, x = wr := ⟨_, rfl⟩
   subst hwo
   change (wo.cell? _ = some (.int .i64 (Zac rr i))) at kB
   change (wo.cell? _ = some (.int .i64 (Zac ws i))) at kC
   change I64 (Zac rr i) at hi6
   change I64 (Zac ws i) at hw6
   have hi6' := hi6
   unfold I64 at hi6'
   go_wp2_with fail
   refine (Zmt (Zac rr i) 1 wo (by omega) (by omega) (by decide) (by decide)).mono ?_
   rintro e w2 ⟨hb2, pn, pA, pk, pc, pm, pB, pj, pd, rfl, hf2⟩
   rw [Zgw] at hf2
   obtain ⟨gd, hgd⟩ : ∃ g, w2.heap.size = g := ⟨_, rfl⟩
   obtain ⟨V1, hV1, qd, hbV1⟩ := Zgz (w := w2) 45 #[.bool pn, .slice pA pk pc, .bool pm, .slice pB pj pd]
   rw [hgd] at qd
   have hVd1 : VarF V1 gd (Zca rs rr (fun j => X j m) 0 i) := ⟨_, _, _, _, _, _, _, _, qd, by rw [Zrw]; exact hf2.below hbV1⟩
   have hb1 : Below wo.heap.size wo V1 := hb2.trans (hbV1.mono hb2.size)
   have hgd2 : wo.heap.size <= gd := by rw [<- hgd]; exact hb2.size
   have hgs2 : gs < wo.heap.size := hVr.out.lt
   replace hVd1 := Za hVd1
   replace hb1 := Za hb1
   clear hf2 qd hb2 hbV1 hi6'
   go_wp2_with fail
   (try rw [hgd])
   (try rw [hV1])
   clear hV1 hgd
   go_loopg [68] m (fun k kv wr => ∃ t : Nat, t + k = m /\ kv = .int .i64 t /\ VarF wr gd (Zca rs rr (fun j => X j m) t i) /\ Kept (fun g => g = gd) V1 wr)
   case atStart => exact ⟨0, by omega, rfl, hVd1.out, Kept.refl _ _⟩
   case round =>
    obtain ⟨t, htk, rfl, hVd, hKd⟩ := hrel
    have hbq : Below wo.heap.size wo wr := hb1.out.trans (hKd.to_below (fun k e => by omega) (by have := hb1.out.size; omega))
    obtain ⟨dn, dA, dk, dc, dm, dB, dj, dd, qd, hd⟩ := hVd
    cases gk with
    | succ k2 =>
     obtain rfl : k2 = m - (t + 1) := by omega
     have htm : t < m := by omega
     have t3 : decide ((t : Int) < (m : Int)) = true := decide_eq_true (by omega)
     have b3 : (t : Int) < (m : Int) := by omega
     have kc := Zb hbq (hcr.out t htm)
     have ha := ha6.out t
     have ha' := ha
     unfold I64 at ha'
     have hxt : Hid (xs[t]?.getD 0 = X t m) := Za (by rw [<- hxs.out, List.getElem?_map, List.getElem?_range htm]; rfl)
     replace qd := Za qd
     replace hd := Za hd
     go_wp2_with fail
     refine (Zmt (Zaa rs t i) 1 wr (by omega) (by omega) (by decide) (by decide)).mono ?_
     rintro e w3 ⟨hb3, fn, fA, fk, fc, fm, fB, fj, fd, rfl, hf3⟩
     rw [Zgw] at hf3
     obtain ⟨gf, hgf⟩ : ∃ g, w3.heap.size = g := ⟨_, rfl⟩
     obtain ⟨V2, hV2, qf, hbV2⟩ := Zgz (w := w3) 45 #[.bool fn, .slice fA fk fc, .bool fm, .slice fB fj fd]
     rw [hgf] at qf
     have hbq2 : Below wr.heap.size wr V2 := hb3.trans (hbV2.mono hb3.size)
     have hf4 := Za (hf3.below hbV2)
     have hxl : xs.length = m := by rw [<- hxs.out]; simp
     have hOq := hOr.out.below (hbq.trans (hbq2.mono hbq.size))
     obtain ⟨xn, xA, xk, xc, xm, xB, xj, xd, x0, x1, x2, x3, hf6⟩ := hOq.at_ (i := t) (by omega)
     rw [hxt.out] at hf6
     have hgfd : gd < gf := by have := qd.out.lt; have := hb3.size; omega
     have hgfV : V1.heap.size <= gf := by have := hKd.size; have := hb3.size; omega
     replace hf6 := Za hf6
     obtain ⟨v0, v1, v2, v3, g0, g1, g2, g3⟩ := qf.four
     replace qf := Za qf
     clear hf3 hOq hxl
     go_wp2_with fail
     (try rw [hgf])
     (try rw [hV2])
     clear hV2 hgf
     refine Zah [9] (fun wx => wx.cell? ⟨gf, 0, none⟩ = some (.bool fn) /\ wx.cell? ⟨gf, 1, none⟩ = some (.slice fA fk fc) /\ wx.cell? ⟨gf, 2, none⟩ = some (.bool fm) /\ wx.cell? ⟨gf, 3, none⟩ = some (.slice fB fj fd) /\ wx.cell? ⟨gx, t * 4, none⟩ = some (.bool xn) /\ wx.cell? ⟨gx, t * 4 + 1, none⟩ = some (.slice xA xk xc) /\ wx.cell? ⟨gx, t * 4 + 2, none⟩ = some (.bool xm) /\ wx.cell? ⟨gx, t * 4 + 3, none⟩ = some (.slice xB xj xd)) hmx ⟨v0, v1, v2, v3, x0, x1, x2, x3⟩ (fun _ => ?_)
     refine Zhz 1 [0] rfl (by kernel_rfl) ⟨v0, v1, v2, v3, x0, x1, x2, x3⟩ ?_
     (refine tk1 (v := ?_) rfl (Or.inl ⟨by kernel_rfl, ?_⟩) ?_; rotate_left; (· intro W2 hSw; (try dsimp only at hSw); go_simp; try with_reducible rfl); try simp only [Act.put, Ze7, Ze8, Zfh, putG_a, putG_s, putG_z])
     refine tk0 ?_
     refine Zfo 3 [1, 2, 3] rfl (by kernel_rfl) ⟨v0, v1, v2, v3, x0, x1, x2, x3⟩ ?_
     iterate 3 (refine tk1 (v := ?_) rfl (Or.inl ⟨by kernel_rfl, ?_⟩) ?_; rotate_left; (· intro W2 _; go_simp; try with_reducible rfl); try simp only [Act.put, Ze7, Ze8, Zfh, putG_a, putG_s, putG_z])
     refine tk0 ?_
     refine Zhz 1 [4] rfl (by kernel_rfl) ⟨v0, v1, v2, v3, x0, x1, x2, x3⟩ ?_
     (refine tk1 (v := ?_) rfl (Or.inl ⟨by kernel_rfl, ?_⟩) ?_; rotate_left; (· intro W2 hSw; (try dsimp only at hSw); go_simp; try with_reducible rfl); try simp only [Act.put, Ze7, Ze8, Zfh, putG_a, putG_s, putG_z])
     refine tk0 ?_
     refine Zg (i := 5) rfl (by kernel_rfl) (fun K hK => ?_)
     go_simp
     refine (Zjf fn fm xn xm fA fB xA xB fk fc fj fd xk xc xj xd _ _ V2.drew hf4.out hf6.out (Ztg ha) (hP.out.xk t htm)).mono ?_
     rintro e w4 ⟨hb4, yn, yA, yk, yc, ym, yB, yj, yd, rfl, hf7⟩
     replace hb4 := Zq hb4
     refine hK.out _ _ (fun _ => ⟨Zb hb4 v0, Zb hb4 v1, Zb hb4 v2, Zb hb4 v3, Zb hb4 x0, Zb hb4 x1, Zb hb4 x2, Zb hb4 x3⟩) ?_
     clear hK K
     try simp only [Act.put, Ze7, Ze8, Zfh]
     refine Zfo 3 [6, 7, 8] rfl (by kernel_rfl) ⟨Zb hb4 v0, Zb hb4 v1, Zb hb4 v2, Zb hb4 v3, Zb hb4 x0, Zb hb4 x1, Zb hb4 x2, Zb hb4 x3⟩ ?_
     iterate 3 (refine tk1 (v := ?_) rfl (Or.inl ⟨by kernel_rfl, ?_⟩) ?_; rotate_left; (· intro W2 _; go_simp; try with_reducible rfl); try simp only [Act.put, Ze7, Ze8, Zfh, putG_a, putG_s, putG_z])
     refine tk0 ?_
     have qf4 := Zc hb4 qf.out
     obtain ⟨i0, i1, i2, i3, e0, e1, e2, e3⟩ := qf4.four
     obtain ⟨Z4, hZ4, qz, hKz, sz⟩ := Zdf yn yA yk yc ym yB yj yd qf4
     refine Zn (i := 9) rfl (by kernel_rfl) (by kernel_rfl) (fun K hK => ?_)
     go_simp
     (try rw [hZ4])
     refine hK.out _ _ ?_
     clear hK K
     try simp only [Act.put, Ze7, Ze8, Zfh]
     refine Zl (by kernel_rfl) ?_ _
     refine OnlyNormal.normal ?_
     have hf8 := Za (hf7.keptV hKz qf4 (Z7 _ _ _ _ _ _ _ _))
     have hbq4 : Below wr.heap.size wr w4 := hbq2.trans (hb4.mono hbq2.size)
     have qd4 := hKz.blk (Zc hbq4 qd.out) (show ¬ gd = gf by omega)
     have hd4 := Za ((hd.out.below hbq4).keptV hKz qf4 (Z7 _ _ _ _ _ _ _ _))
     have hK4 : Hid (Kept (fun g => g = gd) V1 Z4) := Za ((hKd.below hbq4).and hKz (fun k hk e => by omega))
     clear hZ4 hf7 qf4 hKz hbq4 hbq2 hb4 v0 v1 v2 v3 g0 g1 g2 g3 i0 i1 i2 i3 e0 e1 e2 e3 x0 x1 x2 x3 qd hd hf4 hf6 qf hKd
     obtain ⟨v0, v1, v2, v3, -⟩ := qz.four
     obtain ⟨u0, u1, u2, u3, -⟩ := qd4.four
     replace qd4 := Za qd4
     go_wp2_with fail
     refine (Zq3 dn dm yn ym dA dB yA yB dk dc dj dd yk yc yj yd _ _ Z4 hd4.out hf8.out (hP.out.res i t hin (by omega)) (hP.out.f i t hin htm)).mono ?_
     rintro e w5 ⟨hb5, zn, zA, zk, zc, zm, zB, zj, zd, rfl, hf9⟩
     have qd5 := Zc hb5 qd4.out
     obtain ⟨i0, i1, i2, i3, e0, e1, e2, e3⟩ := qd5.four
     obtain ⟨W6, hW6, q6, hK6, s6⟩ := Zdf zn zA zk zc zm zB zj zd qd5
     have hfin : VarF W6 gd (Zca rs rr (fun j => X j m) (t + 1) i) := ⟨_, _, _, _, _, _, _, _, q6, by
      rw [Zso]
      exact hf9.keptV hK6 qd5 (Z7 _ _ _ _ _ _ _ _)⟩
     have hKfin : Hid (Kept (fun g => g = gd) V1 W6) := Za ((hK4.out.below hb5).trans hK6)
     replace hfin := Za hfin
     clear qd5 hf9 q6 hK6 u0 u1 u2 u3 v0 v1 v2 v3 qz hb5
     go_wp2_with fail
     (try rw [hW6])
     clear hW6
     go_roundg (m - (t + 1))
     case measure => omega
     case rel => exact ⟨t + 1, by omega, by go_num, hfin.out, hKfin.out⟩
    | zero =>
     obtain rfl : m = t := by omega
     have t3 : decide ((m : Int) < (m : Int)) = false := by simp
     have kC' := Zb hbq kC
     have hw6' := hw6
     unfold I64 at hw6'
     replace qd := Za qd
     replace hd := Za hd
     go_wp2_with fail
     refine (Zmt (Zac ws i) 1 wr (by omega) (by omega) (by decide) (by decide)).mono ?_
     rintro e w3 ⟨hb3, fn, fA, fk, fc, fm, fB, fj, fd, rfl, hf3⟩
     rw [Zgw] at hf3
     obtain ⟨gf, hgf⟩ : ∃ g, w3.heap.size = g := ⟨_, rfl⟩
     obtain ⟨V2, hV2, qf, hbV2⟩ := Zgz (w := w3) 45 #[.bool fn, .slice fA fk fc, .bool fm, .slice fB fj fd]
     rw [hgf] at qf
     have hbq2 : Below wr.heap.size wr V2 := hb3.trans (hbV2.mono hb3.size)
     have hf4 := Za (hf3.below hbV2)
     have hgfd : gd < gf := by have := qd.out.lt; have := hb3.size; omega
     have qd2 := Zc hbq2 qd.out
     have hd2 := Za (hd.out.below hbq2)
     have hVs : VarF V2 gs (Zlb rs rr ws (fun j => X j m) m i) := hVr.out.below (hbq.trans (hbq2.mono hbq.size))
     have hbo : Below wo.heap.size wo V2 := hbq.trans (hbq2.mono hbq.size)
     obtain ⟨v0, v1, v2, v3, -⟩ := qf.four
     obtain ⟨u0, u1, u2, u3, -⟩ := qd2.four
     replace qf := Za qf
     replace qd2 := Za qd2
     replace hVs := Za hVs
     replace hbo := Za hbo
     clear hf3 hbq2 qd hd hb3 hbV2 hbq hKd
     go_wp2_with fail
     (try rw [hgf])
     (try rw [hV2])
     clear hV2 hgf
     refine (Zjf dn dm dn dm dA dB dA dB dk dc dj dd dk dc dj dd _ _ V2 hd2.out hd2.out (hP.out.res i m hin (Nat.le_refl _)) (hP.out.res i m hin (Nat.le_refl _))).mono ?_
     rintro e w4 ⟨hb4, yn, yA, yk, yc, ym, yB, yj, yd, rfl, hf5⟩
     have qd4 := Zc hb4 qd2.out
     obtain ⟨i0, i1, i2, i3, e0, e1, e2, e3⟩ := qd4.four
     obtain ⟨W5, hW5, q5, hK5, s5⟩ := Zdf yn yA yk yc ym yB yj yd qd4
     have bx5 : ∀ k, k = gd -> ∃ t cs, Blk w4 k t cs /\ NoLimb cs := fun k e => by cases e; exact ⟨_, _, qd4, Z7 _ _ _ _ _ _ _ _⟩
     have hf6 := Za (hf5.keptV hK5 qd4 (Z7 _ _ _ _ _ _ _ _))
     have hw5 := Za ((hf4.out.below hb4).keptV hK5 qd4 (Z7 _ _ _ _ _ _ _ _))
     have qf5 := hK5.blk (Zc hb4 qf.out) (show ¬ gf = gd by omega)
     have hVs5 := Za ((hVs.out.below hb4).kept hK5 (show ¬ gs = gd by omega) bx5)
     have hbo5 : Below wo.heap.size wo W5 := (hbo.out.trans (hb4.mono hbo.out.size)).trans (hK5.to_below (fun k e => by omega) (by have := hbo.out.size; have := hb4.size; omega))
     replace hbo5 := Za hbo5
     clear hf5 bx5 hK5 qd4 hb4 u0 u1 u2 u3 v0 v1 v2 v3 hd2 qd2 hVs hbo hf4 qf
     obtain ⟨v0, v1, v2, v3, -⟩ := qf5.four
     obtain ⟨u0, u1, u2, u3, -⟩ := q5.four
     replace q5 := Za q5
     replace qf5 := Za qf5
     go_wp2_with fail
     (try rw [hW5])
     clear hW5 i0 i1 i2 i3 e0 e1 e2 e3
     refine (Zjf yn ym fn fm yA yB fA fB yk yc yj yd fk fc fj fd _ _ W5 hf6.out hw5.out (hP.out.sq i hin) (Ztg hw6)).mono ?_
     rintro e w6 ⟨hb6, zn, zA, zk, zc, zm, zB, zj, zd, rfl, hf7⟩
     have qd6 := Zc hb6 q5.out
     obtain ⟨i0, i1, i2, i3, e0, e1, e2, e3⟩ := qd6.four
     obtain ⟨W7, hW7, q7, hK7, s7⟩ := Zdf zn zA zk zc zm zB zj zd qd6
     have hf8 := Za (hf7.keptV hK7 qd6 (Z7 _ _ _ _ _ _ _ _))
     have hVs7 := (hVs5.out.below hb6).kept hK7 (show ¬ gs = gd by omega) (fun k e => by cases e; exact ⟨_, _, qd6, Z7 _ _ _ _ _ _ _ _⟩)
     have hbo7 : Below wo.heap.size wo W7 := (hbo5.out.trans (hb6.mono hbo5.out.size)).trans (hK7.to_below (fun k e => by omega) (by have := hbo5.out.size; have := hb6.size; omega))
     obtain ⟨sn, sA, sk, sc, sm, sB, sj, sd, qs, hs⟩ := hVs7
     replace hs := Za hs
     replace hbo7 := Za hbo7
     clear hf7 hK7 qd6 hb6 u0 u1 u2 u3 v0 v1 v2 v3 hf6 hw5 qf5 q5 hVs5 hbo5
     obtain ⟨v0, v1, v2, v3, -⟩ := q7.four
     obtain ⟨u0, u1, u2, u3, -⟩ := qs.four
     replace q7 := Za q7
     replace qs := Za qs
     go_wp2_with fail
     (try rw [hW7])
     clear hW7 i0 i1 i2 i3 e0 e1 e2 e3
     refine (fAdd_ok sn sm zn zm sA sB zA zB sk sc sj sd zk zc zj zd _ _ W7 hs.out hf8.out (hP.out.sum i (by omega)) (hP.out.wsq i hin)).mono ?_
     rintro e w8 ⟨hb8, an, aA, ak, ac, am, aB, aj, ad, rfl, hf9⟩
     have qs8 := Zc hb8 qs.out
     obtain ⟨i0, i1, i2, i3, e0, e1, e2, e3⟩ := qs8.four
     obtain ⟨W9, hW9, q9, hK9, s9⟩ := Zdf an aA ak ac am aB aj ad qs8
     have hfin : VarF W9 gs (Zlb rs rr ws (fun j => X j m) m (i + 1)) := ⟨_, _, _, _, _, _, _, _, q9, hf9.keptV hK9 qs8 (Z7 _ _ _ _ _ _ _ _)⟩
     have hbo8 := hbo7.out.trans (hb8.mono hbo7.out.size)
     have hKfin : Hid (Kept (fun g => g = gs) W8 W9) := Za ((hKr.below hbo8).trans hK9)
     replace hfin := Za hfin
     clear qs8 hf9 q9 hK9 u0 u1 u2 u3 v0 v1 v2 v3 hb8 hbo8 hs hf8
     go_wp2_with fail
     (try rw [hW9])
     clear hW9
     go_roundg (n - (i + 1))
     case measure => omega
     case rel => exact ⟨i + 1, by omega, by go_num, hfin.out, hKfin.out⟩
def Zmh (rs : List RI) (rr ws : List Int) (n m : Nat) : List Rat := (List.range m).map fun i => ((Zar ws (Zaa rs i) (Zac rr) n : Int) : Rat)
theorem Zmo {rs : List RI} {rr ws : List Int} {n m i : Nat} (h : i < m) : (Zmh rs rr ws n m)[i]?.getD 0 = ((Zar ws (Zaa rs i) (Zac rr) n : Int) : Rat) := by
 unfold Zmh
 rw [List.getElem?_map, List.getElem?_range h]; rfl
theorem Zo3 {rs : List RI} {ws : List Int} {n m i : Nat} (h : i < m) : (Zes rs ws n m)[i]?.getD [] = Zed rs ws n m i := by
 unfold Zes Zed
 rw [List.getElem?_map, List.getElem?_range h]; rfl
theorem Zo9 (rs : List RI) (rr ws : List Int) (n m : Nat) : Zdv (Zes rs ws n m) (Zmh rs rr ws n m) m m = Zaj rs rr ws n m := by
 unfold Zdv Zaj
 refine List.map_congr_left fun i hi => ?_
 have h := List.mem_range.1 hi
 rw [Zo3 h, Zmo h, if_pos h]
 rfl
theorem Zpv {rs : List RI} {rr ws : List Int} {n m i : Nat} (h : i < m) : ((Zaj rs rr ws n m)[i]?.getD [])[m]?.getD 0 = ((Zar ws (Zaa rs i) (Zac rr) n : Int) : Rat) := by
 unfold Zaj
 rw [List.getElem?_map, List.getElem?_range h, Option.map_some, Option.getD_some, Ziv]; rfl
theorem Zqn {rs : List RI} {rr ws : List Int} {x : Nat -> Rat} {n t : Nat} : Zec rs rr ws x n (t + 1) = Zec rs rr ws x n t - x t * ((Zar ws (Zaa rs t) (Zac rr) n : Int) : Rat) := by
 unfold Zec
 simp only [sumQ]
 grind
theorem Zq0 {rs : List RI} {rr ws : List Int} {x : Nat -> Rat} {n : Nat} : Zec rs rr ws x n 0 = ((Zar ws (Zac rr) (Zac rr) n : Int) : Rat) := by
 unfold Zec
 simp only [sumQ]
 grind
theorem Zqb (A B C : Option Addr) (n c m0 d k e0 : Nat) (rs : List RI) (rr ws : List Int) (w : World) (h : MIL w A n c rs) (hr : LimI w B m0 d rr) (hw : LimI w C k e0 ws) (E : Int) (hE : Zcm rs rr ws = E) (h0 : E ≠ 0) :
    Calls Tryz.prog 19 #[.slice A n c, .slice B m0 d, .slice C k e0] w fun e w' => e = .returned (.tuple #[.slice none 0 0, .agg #[.bool false, .slice none 0 0, .bool false, .slice none 0 0], .int .i64 E]) /\ Below w.heap.size w w' := by
 obtain ⟨W0, hW0, hB0, q0, s0⟩ := Zea w 45 #[.bool false, .slice none 0 0, .bool false, .slice none 0 0]
 have t1 : decide (E ≠ 0) = true := decide_eq_true h0
 have t1' : (E != 0) = true := by simpa using h0
 rw [<- Zl7] at hE
 replace h := Za (h.below hB0)
 replace hr := Za (hr.below hB0)
 replace hw := Za (hw.below hB0)
 replace hE := Za hE
 replace h0 := Za h0
 go_enter Tryz.func19, Tryz.ntmps19
 go_wp2_with fail
 (try rw [hW0])
 refine (Zfr A B C n c m0 d k e0 rs rr ws W0 h.out hr.out hw.out E hE.out).mono ?_
 rintro e w1 ⟨rfl, hb1⟩
 have q1 := Zc hb1 q0
 clear hW0
 go_wp2_with fail
 refine (Zfr A B C n c m0 d k e0 rs rr ws w1 (h.out.below hb1) (hr.out.below hb1) (hw.out.below hb1) E hE.out).mono ?_
 rintro e w2 ⟨rfl, hb2⟩
 replace q1 := Zc hb2 q1
 replace hb1 := hb1.trans (hb2.mono hb1.size)
 obtain ⟨c0, c1, c2, c3, f0, f1, f2, f3⟩ := q1.four
 go_wp2_with fail
 obtain ⟨W5, hW5, hB5, q2, -, -, s5⟩ := Zz false none 0 0 false none 0 0 (hB0.trans (hb1.mono hB0.size)) (Nat.le_refl _) q1
 (try rw [hW5])
 obtain ⟨r0, r1, r2, r3, -⟩ := q2.four
 refine bodyPost_ret (v := .tuple #[.slice none 0 0, .agg #[.bool false, .slice none 0 0, .bool false, .slice none 0 0], .int .i64 E]) (by simp [results, Tryz.results19, go_sem, r0, r1, r2, r3]) rfl ?_
 exact ⟨rfl, hB5⟩
theorem Zjq (A B C : Option Addr) (n c d e0 m : Nat) (rs : List RI) (rr ws : List Int) (w : World) (h : MIL w A n c rs) (hr : LimI w B n d rr) (hw : LimI w C n e0 ws) (hE : Zcm rs rr ws = 0) (hm : n0I rs = m) (hn0 : 0 < n) (hm0 : 0 < m) (hm9 : m <= 12)
    (hok : okR (pw 200) (pw 200) (m + 1) m 0 0 (Zaj rs rr ws n m)) (hrk : (Z3 m 0 0 (Zaj rs rr ws n m) false).2.1 <= m)
    (X : Nat -> Nat -> Rat) (hX : (Z3 m 0 0 (Zaj rs rr ws n m) false).2.1 = m -> Zf4 (Zo (Z3 m 0 0 (Zaj rs rr ws n m) false).1) X m (m + 1))
    (full : Bool) (hfull : full = decide ((Z3 m 0 0 (Zaj rs rr ws n m) false).2.1 = m)) (hP : full = true -> Zj0 rs rr ws (fun j => X j m) n m) :
    Calls Tryz.prog 19 #[.slice A n c, .slice B n d, .slice C n e0] w (Zm7 full ((List.range m).map fun j => X j m) (Zec rs rr ws (fun j => X j m) n m) w) := by
 have hmx : Tryz.prog.follows .mixedOrders = true := by kernel_rfl
 have hts : (40 : TypeId) ≠ 45 := by decide
 obtain ⟨iF, hi, hz0, hz1, hz2⟩ := info_parts Zdq
 obtain ⟨f1, f2, f3, f4, f5, f6, f7, f8⟩ := Zdp hE
 have hl := h.1
 have hrow : ∀ r ∈ rs, r.n = m := fun r hr => by rw [(f8 r hr).1, hm]
 rw [hl] at f1
 rw [<- Zl7] at hE
 have hQr : ∀ i, i < m -> ((Zaj rs rr ws n m)[i]?.getD []).length = m + 1 := fun i hi => by
  unfold Zaj
  rw [List.getElem?_map, List.getElem?_range hi, Option.map_some, Option.getD_some, Zc6]
 obtain ⟨W0, hW0, hB0, q0, s0⟩ := Zea w 45 #[.bool false, .slice none 0 0, .bool false, .slice none 0 0]
 obtain ⟨gR, hgR⟩ : ∃ g, w.heap.size = g := ⟨_, rfl⟩
 rw [hgR] at q0
 replace h := Za (h.below hB0)
 replace hr := Za (hr.below hB0)
 replace hw := Za (hw.below hB0)
 replace hE := Za hE
 replace hQr := Za hQr
 replace hok := Za hok
 replace hrk := Za hrk
 replace hX := Za hX
 replace hfull := Za hfull
 replace hP := Za hP
 replace hrow := Za hrow
 replace q0 := Za q0
 obtain ⟨gA, oA, r0, hA, hr0, k0, -⟩ := h.out.at_ (i := 0) hn0
 have hr0n := hrow.out r0 (List.mem_of_getElem? hr0)
 rw [hr0n] at k0
 replace hl := Za hl
 clear f2 f3 f4 f5 f6 f7 f8 hm hr0 hr0n
 subst hA
 go_enter Tryz.func19, Tryz.ntmps19
 go_wp2_with fail
 (try rw [hW0])
 (try rw [hgR])
 rw [hgR] at hB0 s0
 replace hgR := Za hgR
 refine (Zfr (some ⟨gA, oA, none⟩) B C n c n d n e0 rs rr ws W0 h.out hr.out hw.out 0 hE.out).mono ?_
 rintro e w1 ⟨rfl, hb1⟩
 replace q0 := Za (Zc hb1 q0.out)
 replace k0 := Zb hb1 k0
 simp only [Nat.add_zero] at k0
 clear hW0
 have bn : (0 : Int) < (n : Int) := by omega
 go_wp2_with fail
 refine (Zk2 (some ⟨gA, oA, none⟩) C n c e0 m rs ws w1 (h.out.below hb1) (hw.out.below hb1) hn0 (by omega) hm0 (by omega) hrow.out).mono ?_
 rintro e w3 ⟨v, rs3, rfl, hb3, hMO⟩
 have hB3 := hb1.trans (hb3.mono hb1.size)
 replace q0 := Za (Zc hb3 q0.out)
 have hrl : rs3.length = m := by rw [hMO.2.1, Zf3]
 obtain ⟨go, cap, rfl, hc1, hc2, hM3⟩ := hMO.mat (fun e => by rw [e] at hrl; simp at hrl; omega)
 rw [hrl] at hc1 ⊢
 obtain ⟨base, hbase⟩ : ∃ x, w1.heap.size = x := ⟨_, rfl⟩
 rw [hbase] at hM3
 have hbw : W0.heap.size <= base := by rw [<- hbase]; exact hb1.size
 have hb3b : base <= w3.heap.size := by rw [<- hbase]; exact hb3.size
 have hz := Zpr (Zes rs ws n m) (Zmh rs rr ws n m)
 rw [Zf3] at hz
 rw [<- hz] at hM3
 have hNl : Hid (∀ i, i < m -> ((Zes rs ws n m)[i]?.getD []).length = m) := Za (fun i hi => by rw [Zo3 hi, Zfb])
 have hNQ := Za (Zo9 rs rr ws n m)
 have hbs : Hid (∀ i, i < m -> (Zmh rs rr ws n m)[i]?.getD 0 = ((Zar ws (Zaa rs i) (Zac rr) n : Int) : Rat)) := Za (fun i hi => Zmo hi)
 obtain ⟨b, hb⟩ : ∃ b, Zmh rs rr ws n m = b := ⟨_, rfl⟩
 rw [hb] at hM3 hNQ hbs
 obtain ⟨Q, hQ⟩ : ∃ Q, Zes rs ws n m = Q := ⟨_, rfl⟩
 rw [hQ] at hM3 hNQ hNl
 replace hM3 := Za hM3
 replace hc2 := Za hc2
 replace hB3 := Za hB3
 clear hMO hbase hb3 hb1 k0 hz hb hQ
 go_wp2_with fail
 go_loopg [11] m (fun k iv wr => ∃ (i : Nat) (rs4 : List RS), i + k = m /\ iv = .int .i64 i /\ Hid (rs4.length = m) /\ MatA 40 45 wr base go rs4 (Zdv Q b m i) /\ Below base w3 wr)
 case atStart => exact ⟨0, rs3, by omega, rfl, Za hrl, hM3.out, Below.refl _ _⟩
 case round =>
  clear hM3 hrl
  obtain ⟨i, rs4, hik, rfl, hrl, hM, hBr⟩ := hrel
  have hBw := hB3.out.trans (hBr.mono hbw)
  cases gk with
  | succ k' =>
   obtain rfl : k' = m - (i + 1) := by omega
   have him : i < m := by omega
   have t2 : decide ((i : Int) < (m : Int)) = true := decide_eq_true (by omega)
   have bi : (i : Int) < (m : Int) := by omega
   obtain ⟨r, hr4⟩ := Zax (L := rs4) (i := i) (by rw [hrl.out]; exact him)
   obtain ⟨cr, zr⟩ := hM.cell hr4
   have hqi : Hid (((Zdv Q b m i)[i]?.getD []).length + 1 <= 1000) := Za (by rw [Zma him, if_neg (Nat.lt_irrefl _), List.append_nil, hNl.out i him]; omega)
   have hbase0 : base <= wr.heap.size := Nat.le_trans hb3b hBr.size
   have hW := h.out.below hBw
   have hRr := hr.out.below hBw
   have hWs := hw.out.below hBw
   replace hW := Za hW
   replace hRr := Za hRr
   replace hWs := Za hWs
   replace hM := Za hM
   go_wp2_with fail
   obtain ⟨X0, hX0⟩ : ∃ X, wr.drew = X := ⟨_, rfl⟩
   have hr1 : Below wr.heap.size wr X0 := by rw [<- hX0]; exact Ze (Below.refl _ _) 1
   have hSv1 : Hid (∀ wx, Below wr.heap.size wr wx -> wx.cell? ⟨go, i, none⟩ = some (.slice r.A r.n r.c)) := Za (fun wx hbx => Zb hbx cr)
   refine wp_heldS [14] hmx hSv1 (by rw [hX0]; exact hr1) (fun hxs => ?_)
   rw [hX0]
   refine Zhz 10 [0, 1, 2, 3, 4, 5, 6, 7, 8, 9] rfl (by kernel_rfl) (hSv1.out _ hr1) ?_
   iterate 10 (refine tk1 (v := ?_) rfl (Or.inl ⟨by kernel_rfl, ?_⟩) ?_; rotate_left; (· intro W2 hSw; (try dsimp only at hSw); go_simp; try with_reducible rfl); try simp only [Act.put, Ze7, Ze8, Zfh, putG_a, putG_s, putG_z])
   refine tk0 ?_
   refine Zg (i := 10) rfl (by kernel_rfl) (fun K hK => ?_)
   go_simp
   refine (Zm9 (some ⟨gA, oA, none⟩) B C n c n d e0 (i : Int) (-1) ws (Zaa rs i) (Zac rr) X0 (hWs.out.below hr1) (by omega) (fun _ _ => hW.out.i64 _ _) (fun j _ => Zcv hRr.out.2.2.2.1 j) (fun W j hbW hj => Zqo (some ⟨gA, oA, none⟩) B n c n d rs j i W ((hW.out.below hr1).below hbW) hj (fun r hr => by rw [hrow.out r (List.mem_of_getElem? hr)]; exact him) (by omega) (by omega)) (fun W j hbW hj => Zkk (some ⟨gA, oA, none⟩) B n c n d rr j W ((hRr.out.below hr1).below hbW) hj (by omega))).mono ?_
   rintro e X00 ⟨hb00, n6, A6, k6, c6, m6, B6, j6, d6, rfl, hf6⟩
   have hr0 : Below wr.heap.size wr X00 := hr1.trans (hb00.mono hr1.size)
   refine hK.out _ _ (fun _ => hSv1.out _ hr0) ?_
   clear hK K
   try simp only [Act.put, Ze7, Ze8, Zfh]
   obtain ⟨Y1, hY1⟩ : ∃ Y, X00.alloc (.cells #[.bool n6, .slice A6 k6 c6, .bool m6, .slice B6 j6 d6] 45) = Y := ⟨_, rfl⟩
   obtain ⟨ga, hga⟩ : ∃ g, X00.heap.size = g := ⟨_, rfl⟩
   have hBY : Below X00.heap.size X00 Y1 := by rw [<- hY1]; exact (Below.refl _ _).alloc (Nat.le_refl _) _
   have hbl : Blk Y1 ga 45 #[.bool n6, .slice A6 k6 c6, .bool m6, .slice B6 j6 d6] := by rw [<- hY1, <- hga]; exact Blk.new _ _ _
   have hr2 : Below wr.heap.size wr Y1 := hr0.trans (hBY.mono hr0.size)
   refine Zg (i := 11) rfl (by kernel_rfl) (fun K hK => ?_)
   go_simp
   (try rw [hY1])
   (try rw [hga])
   refine hK.out _ _ (fun _ => hSv1.out _ hr2) ?_
   clear hK K hY1 hga
   try simp only [Act.put, Ze7, Ze8, Zfh]
   have hAY := (hM.out).below hr2
   have hfY := hf6.below hBY
   have hYb : base <= Y1.heap.size := Nat.le_trans hbase0 hr2.size
   have hOr := hAY.2.2.2.1 i r hr4
   refine Zg (i := 12) rfl (by kernel_rfl) (fun K hK => ?_)
   rw [if_pos (by rfl)]
   refine Zdy _ (.tmp 46) (.tmp 52) 40 rfl base 45 iF Tryz.underlying40 hi hz0 hz1 hz2 (r).val _ rfl hOr _ (some ⟨ga, 0, none⟩) 1 1 [⟨n6, A6, k6, c6, m6, B6, j6, d6, ((Zar ws (Zaa rs i) (Zac rr) n : Int) : Rat)⟩] rfl (Zdh _ hbl) rfl (by intro e he; rw [List.mem_singleton] at he; subst he; exact hfY) hqi.out hYb ?_
   intro v2 Y2 hO2 hg2 hk2 hw2
   obtain ⟨nA, nn, nc, rfl⟩ : ∃ A n c, v2 = .slice A n c := by
    obtain ⟨A, c, e, -⟩ := hO2.fl
    exact ⟨_, _, _, e⟩
   have hown := hOr.ownBlk
   have hsame : ∀ (g o : Nat) (v : Value), (r).val.ownBlock ≠ some g -> Y1.cell? ⟨g, o, none⟩ = some v -> Y2.cell? ⟨g, o, none⟩ = some v := fun g o v hgg hv => by
    rw [<- hv]
    exact World.cell?_of_block (hg2.block g (Zm hv) (fun e => hgg e.symm))
   have hM9 := Za (hAY.app hts (i := i) (r' := ⟨nA, nn, nc⟩) hr4 hg2 hO2 hk2 hw2)
   rw [show (Zdv Q b m i)[i]?.getD [] ++ List.map FE.q [⟨n6, A6, k6, c6, m6, B6, j6, d6, ((Zar ws (Zaa rs i) (Zac rr) n : Int) : Rat)⟩] = (Zdv Q b m i)[i]?.getD [] ++ [b[i]?.getD 0] by
    rw [hbs.out i him]; rfl, Zst him] at hM9
   have hngo : r.val.ownBlock ≠ some go := fun e => by
    obtain ⟨cs, a1, -, -⟩ := hown go e
    obtain ⟨⟨zs, a2⟩, -⟩ := hAY
    exact hts (a2.type a1)
   have hS2 : Y2.cell? ⟨go, i, none⟩ = some (.slice r.A r.n r.c) := hsame _ _ _ hngo (hSv1.out _ hr2)
   have hB9 : Hid (Below base w3 (Y2.setCell ⟨go, i, none⟩ (RS.val ⟨nA, nn, nc⟩))) := Za (((hBr.trans (hr2.mono hbase0)).grown hg2 (Nat.le_trans hb3b (hBr.trans (hr2.mono hbase0)).size) (fun k hk => (hown k hk).choose_spec.2.2)).setCell hM9.out.2.1 _)
   have kzO : Y2.frozen? ⟨go, i, none⟩ = false := by
    rw [World.frozen?_of_block (hg2.block go (by obtain ⟨⟨zs, a2⟩, -⟩ := hAY; exact a2.lt) (fun e => hngo e.symm))]
    exact (hAY.cell hr4).2
   refine hK.out _ _ (fun _ => hS2) ?_
   clear hK K
   try simp only [Act.put, Ze7, Ze8, Zfh]
   refine Zfo 1 [13] rfl (by kernel_rfl) hS2 ?_
   (refine tk1 (v := ?_) rfl (Or.inl ⟨by kernel_rfl, ?_⟩) ?_; rotate_left; (· intro W2 _; go_simp; try with_reducible rfl); try simp only [Act.put, Ze7, Ze8, Zfh, putG_a, putG_s, putG_z])
   refine tk0 ?_
   have kO2 := hS2
   have hl9 : Hid ((rs4.set i ⟨nA, nn, nc⟩).length = m) := Za (by rw [List.length_set]; exact hrl.out)
   clear hS2 hO2 hown hOr hAY hfY hbl hBY hr2 hsame hngo
   refine Zn (i := 14) rfl (by kernel_rfl) (by kernel_rfl) (fun K hK => ?_)
   go_simp
   refine hK.out _ _ ?_
   clear hK K
   try simp only [Act.put, Ze7, Ze8, Zfh]
   refine Zl (by kernel_rfl) ?_ _
   refine OnlyNormal.normal ?_
   clear kO2 kzO hxs hSv1 hr1 hr0 hb00 hf6 cr zr hg2 hk2 hw2
   go_wp2_with fail
   go_roundg (m - (i + 1))
   case measure => omega
   case rel => exact ⟨i + 1, _, by omega, by go_num, hl9, hM9.out, hB9.out⟩
  | zero =>
   obtain rfl : i = m := by omega
   have t2 : decide ((i : Int) < (i : Int)) = false := by simp
   have hMF := hM.mfl (c := cap) (by rw [hrl.out]; exact hc1) hc2.out
   rw [hrl.out, hNQ.out] at hMF
   have q1 := Za (Kept.blk (Kept.mono (Kept.of_belowGe hBr) (fun k _ hk => hk)) (q0.out) (by have := q0.out.lt; have := hBw.size; omega))
   replace hMF := Za hMF
   replace hBw := Za hBw
   clear hM hBr q0 hB3
   go_wp2_with fail
   by_cases hlt : (Z3 i 0 0 (Zaj rs rr ws n i) false).2.1 < i
   ·have hf : full = false := by
      have := hfull.out
      rw [this]
      exact decide_eq_false (by omega)
    subst hf
    replace hlt := Za hlt
    refine (Zps (some ⟨go, 0, none⟩) i cap (i + 1) (Zaj rs rr ws n i) wr hMF.out hm0 (by omega) (by omega) (by omega) hQr.out hok.out hlt.out).mono ?_
    rintro e w5 ⟨rfl, hb5⟩
    have q2 := Zc hb5 q1.out
    have hB5 : Below gR w w5 := hB0.trans ((hBw.out.trans (hb5.mono hBw.out.size)).mono (by omega))
    obtain ⟨c0, c1, c2, c3, z0, z1, z2, z3⟩ := q2.four
    go_wp2_with fail
    obtain ⟨W5, hW5, hB6, q5, -, -, s5⟩ := Zz false none 0 0 false none 0 0 hB5 (Nat.le_refl _) q2
    (try rw [hW5])
    obtain ⟨r0, r1, r2, r3, -⟩ := q5.four
    refine bodyPost_ret (v := .tuple #[.slice none 0 0, .agg #[.bool false, .slice none 0 0, .bool false, .slice none 0 0], .int .i64 22]) (by simp [results, Tryz.results19, go_sem, r0, r1, r2, r3]) rfl ?_
    exact .inl ⟨rfl, rfl, by rw [hgR.out]; exact hB6⟩
   have hre : Hid ((Z3 i 0 0 (Zaj rs rr ws n i) false).2.1 = i) := Za (by have := hrk.out; omega)
   have hf : full = true := by
    have := hfull.out
    rw [this]
    exact decide_eq_true hre.out
   subst hf
   replace hP := Za (hP.out rfl)
   clear hlt
   refine (Zpw (some ⟨go, 0, none⟩) i cap (i + 1) (Zaj rs rr ws n i) wr hMF.out hm0 (by omega) (by omega) (by omega) hQr.out hok.out hre.out X (hX.out hre.out)).mono ?_
   rintro e w5 ⟨v, L, rfl, hb5, hMO5, hLq⟩
   have hLl : L.length = i := by rw [<- List.length_map (f := RF.q), hLq]; unfold Zdj; simp
   obtain ⟨go5, cap5, rfl, hc51, hc52, hgo5, hM5, hgs5⟩ := hMO5.mat hts (fun e => by rw [e] at hLl; simp at hLl; omega)
   have hMF5 := hM5.mfl hLl (by rw [<- hLl]; exact hc51) hc52
   rw [hLq] at hMF5
   rw [hLl] at hc51 ⊢
   have hB5 := hBw.out.trans (hb5.mono hBw.out.size)
   replace q1 := Za (Zc hb5 q1.out)
   replace hMF := Za (hMF.out.below hb5)
   replace hMF5 := Za hMF5
   clear hMO5 hM5 hb5 hBw
   go_wp2_with fail
   refine (Zr0 (some ⟨go5, 0, none⟩) i cap5 (Zdj X i (i + 1)) w5 hMF5.out (by omega) (fun j hj => by
    unfold Zdj; rw [List.getElem?_map, List.getElem?_range hj]; simp)).mono ?_
   rintro e w6 ⟨v6, rfl, hb6, hO6⟩
   rw [show (Zdj X i (i + 1)).map (fun r => r[0]?.getD 0) = (List.range i).map fun j => X j i by
    unfold Zdj
    rw [List.map_map]
    refine List.map_congr_left fun j _ => ?_
    simp] at hO6
   have hB6 := hB5.trans (hb6.mono hB5.size)
   replace q1 := Za (Zc hb6 q1.out)
   replace hMF := Za (hMF.out.below hb6)
   have hg5 : gR < w5.heap.size := by have := hB5.size; omega
   obtain ⟨xs, hxs⟩ : ∃ xs, (List.range i).map (fun j => X j i) = xs := ⟨_, rfl⟩
   rw [hxs] at hO6
   have hxl : xs.length = i := by rw [<- hxs]; simp
   obtain ⟨gx, cx, rfl, hgx, hcx1, hcx2, hOx⟩ : ∃ g c, v6 = .slice (some ⟨g, 0, none⟩) i c /\ gR < g /\ i <= c /\ c <= maxLen /\ FOwn 45 w6 g xs := by
    rcases hO6.fown with ⟨-, e⟩ | ⟨g, c, e1, e2, e3, e4, e5⟩
    ·rw [e] at hxl; simp at hxl; omega
    ·rw [hxl] at e1 e3
     exact ⟨g, c, e1, by omega, e3, e4, e5⟩
   replace hOx := Za hOx
   replace hxs := Za hxs
   replace hxl := Za hxl
   clear hO6 hMF5 hLq hLl hb6 hB5 hre hrk hX hok hQr hNQ hfull hgo5 hgs5 hc51 hc52
   have hW := h.out.below hB6
   have hRr := hr.out.below hB6
   have hWs := hw.out.below hB6
   replace hW := Za hW
   replace hRr := Za hRr
   replace hWs := Za hWs
   go_wp2_with fail
   refine (Zm9 (some ⟨gA, oA, none⟩) B C n c n d e0 (-1) (-1) ws (Zac rr) (Zac rr) w6 hWs.out (by omega) (fun j _ => Zcv hRr.out.2.2.2.1 j) (fun j _ => Zcv hRr.out.2.2.2.1 j) (fun W j hbW hj => Zkk (some ⟨gA, oA, none⟩) B n c n d rr j W (hRr.out.below hbW) hj (by omega)) (fun W j hbW hj => Zkk (some ⟨gA, oA, none⟩) B n c n d rr j W (hRr.out.below hbW) hj (by omega))).mono ?_
   rintro e w7 ⟨hb7, pn, pA, pk, pc, pm, pB, pj, pd, rfl, hf7⟩
   obtain ⟨gv, hgv⟩ : ∃ g, w7.heap.size = g := ⟨_, rfl⟩
   obtain ⟨V1, hV1, qv, hbV1⟩ := Zgz (w := w7) 45 #[.bool pn, .slice pA pk pc, .bool pm, .slice pB pj pd]
   rw [hgv] at qv
   have hv1 : VarF V1 gv (Zec rs rr ws (fun j => X j i) n 0) := ⟨_, _, _, _, _, _, _, _, qv, by rw [Zq0]; exact hf7.below hbV1⟩
   have hB7 := hB6.trans (hb7.mono hB6.size)
   have q7 := Za (Zc hb7 q1.out)
   have hMF7 := Za (hMF.out.below hb7)
   have hO7 := Za (hOx.out.below hb7)
   replace hv1 := Za hv1
   replace hbV1 := Za hbV1
   replace hB7 := Za hB7
   clear hf7 qv hB6 q1 hMF hOx hW hRr hWs hb7
   go_wp2_with fail
   (try rw [hgv])
   (try rw [hV1])
   clear hV1
   replace hgv := Za hgv
   obtain ⟨w8, hw8⟩ : ∃ x : World, x = wr := ⟨_, rfl⟩
   clear hw8
   go_loopg [16] i (fun k kv wr => ∃ t : Nat, t + k = i /\ kv = .int .i64 t /\ VarF wr gv (Zec rs rr ws (fun j => X j i) n t) /\ Kept (fun g => g = gv) V1 wr)
   case atStart => exact ⟨0, by omega, rfl, hv1.out, Kept.refl _ _⟩
   case round =>
    obtain ⟨t, htk, rfl, hvt, hKt⟩ := hrel
    have hbq : Below w7.heap.size w7 wr := hbV1.out.trans (hKt.to_below (fun k e => by rw [hgv.out]; omega) hbV1.out.size)
    obtain ⟨sn, sA, sk, sc, sm, sB, sj, sd, qs, hs⟩ := hvt
    have hq7 := Za (Zc hbq q7.out)
    cases gk with
    | zero =>
     obtain rfl : i = t := by omega
     have t3 : decide ((i : Int) < (i : Int)) = false := by simp
     obtain ⟨c0, c1, c2, c3, -⟩ := qs.four
     obtain ⟨z0, z1, z2, z3, y0, y1, y2, y3⟩ := hq7.out.four
     have hO8 := Za (hO7.out.below hbq)
     replace hs := Za hs
     clear hO7 hMF7 h hr hw
     go_wp2_with fail
     refine Zah [] (fun wx => wx.cell? ⟨gv, 0, none⟩ = some (.bool sn) /\ wx.cell? ⟨gv, 1, none⟩ = some (.slice sA sk sc) /\ wx.cell? ⟨gv, 2, none⟩ = some (.bool sm) /\ wx.cell? ⟨gv, 3, none⟩ = some (.slice sB sj sd)) hmx ⟨c0, c1, c2, c3⟩ (fun _ => ?_)
     refine Zfo 1 [0] rfl (by kernel_rfl) ⟨c0, c1, c2, c3⟩ ?_
     (refine tk1 (v := ?_) rfl (Or.inl ⟨by kernel_rfl, ?_⟩) ?_; rotate_left; (· intro W2 _; go_simp; try with_reducible rfl); try simp only [Act.put, Ze7, Ze8, Zfh, putG_a, putG_s, putG_z])
     refine tk0 ?_
     refine Zhz 1 [1] rfl (by kernel_rfl) ⟨c0, c1, c2, c3⟩ ?_
     (refine tk1 (v := ?_) rfl (Or.inl ⟨by kernel_rfl, ?_⟩) ?_; rotate_left; (· intro W2 hSw; (try dsimp only at hSw); go_simp; try with_reducible rfl); try simp only [Act.put, Ze7, Ze8, Zfh, putG_a, putG_s, putG_z])
     refine tk0 ?_
     refine Zfo 1 [2] rfl (by kernel_rfl) ⟨c0, c1, c2, c3⟩ ?_
     (refine tk1 (v := ?_) rfl (Or.inl ⟨by kernel_rfl, ?_⟩) ?_; rotate_left; (· intro W2 _; go_simp; try with_reducible rfl); try simp only [Act.put, Ze7, Ze8, Zfh, putG_a, putG_s, putG_z])
     refine tk0 ?_
     obtain ⟨W9, hW9, q9, hK9, s9⟩ := Zdf sn sA sk sc sm sB sj sd (w := wr) hq7.out
     have q9s := (hK9.blk qs (show ¬ gv = gR by have := hq7.out.lt; have := hgv.out; have := q7.out.lt; omega)).four
     have hS9 := And.intro q9s.1 (And.intro q9s.2.1 (And.intro q9s.2.2.1 q9s.2.2.2.1))
     refine Zg (i := 3) rfl (by kernel_rfl) (fun K hK => ?_)
     go_simp
     (try rw [hW9])
     refine hK.out _ _ (fun _ => hS9) ?_
     clear hK K
     try simp only [Act.put, Ze7, Ze8, Zfh]
     refine Zfo 1 [4] rfl (by kernel_rfl) hS9 ?_
     (refine tk1 (v := ?_) rfl (Or.inl ⟨by kernel_rfl, ?_⟩) ?_; rotate_left; (· intro W2 _; go_simp; try with_reducible rfl); try simp only [Act.put, Ze7, Ze8, Zfh, putG_a, putG_s, putG_z])
     refine tk0 ?_
     refine Zl (by kernel_rfl) ?_ _
     refine OnlyNormal.normal ?_
     obtain ⟨r0, r1, r2, r3, -⟩ : W9.drew.cell? ⟨gR, 0, none⟩ = some (.bool sn) /\ W9.drew.cell? ⟨gR, 1, none⟩ = some (.slice sA sk sc) /\ W9.drew.cell? ⟨gR, 2, none⟩ = some (.bool sm) /\ W9.drew.cell? ⟨gR, 3, none⟩ = some (.slice sB sj sd) /\ True := ⟨q9.four.1, q9.four.2.1, q9.four.2.2.1, q9.four.2.2.2.1, trivial⟩
     have hBr : Below W0.heap.size W0 wr := hB7.out.trans (hbq.mono hB7.out.size)
     have hBr' : Below w.heap.size w W9.drew := by
      rw [hgR.out]
      exact Ze ((hB0.trans (hBr.mono (by omega))).trans (hK9.to_below (fun k e => by omega) (by have := hBr.size; omega))) 1
     have hs9 := Fr.drew (hs.out.keptV hK9 hq7.out (Z7 _ _ _ _ _ _ _ _))
     have hO9' := FOwn.keptG hO8.out hK9 (show ¬ gx = gR by omega) (fun k e => by cases e; exact ⟨_, _, hq7.out, Z7 _ _ _ _ _ _ _ _⟩)
     have hO9 : FOwn 45 W9.drew gx xs := hO9'
     clear hW9
     go_wp2_with fail
     refine bodyPost_ret (v := .tuple #[.slice (some ⟨gx, 0, none⟩) i cx, .agg #[.bool sn, .slice sA sk sc, .bool sm, .slice sB sj sd], .int .i64 0]) (by simp [results, Tryz.results19, go_sem, r0, r1, r2, r3]) rfl ?_
     exact .inr ⟨rfl, _, _, _, _, _, _, _, _, _, _, _, rfl, hBr', by
      have := hO9.fl (c := cx) (by rw [hxl.out]; omega) hcx2
      rw [hxl.out, <- hxs.out] at this
      exact this, hs9⟩
    | succ k2 =>
     obtain rfl : k2 = i - (t + 1) := by omega
     have htm : t < i := by omega
     have t3 : decide ((t : Int) < (i : Int)) = true := decide_eq_true (by omega)
     have b3 : (t : Int) < (i : Int) := by omega
     have b4 : (i : Int) < (i : Int) + 1 := by omega
     have hxt : xs[t]?.getD 0 = X t i := by rw [<- hxs.out, List.getElem?_map, List.getElem?_range htm]; rfl
     obtain ⟨xn, xA, xk, xc, xm, xB, xj, xd, x0, x1, x2, x3, hfx⟩ := (hO7.out.below hbq).at_ (i := t) (by rw [hxl.out]; exact htm)
     rw [hxt] at hfx
     obtain ⟨go', o', Ar, nr, cr, e0, k1, hFr⟩ := (hMF7.out.below hbq).at_ htm
     obtain ⟨rfl, rfl⟩ : go = go' /\ 0 = o' := by cases e0; exact ⟨rfl, rfl⟩
     have hrl := hFr.len
     rw [show ((Zaj rs rr ws n i)[t]?.getD []).length = i + 1 by
      unfold Zaj
      rw [List.getElem?_map, List.getElem?_range htm, Option.map_some, Option.getD_some, Zc6]] at hrl
     subst hrl
     obtain ⟨gr, orr, yn, yA, yk, yc, ym, yB, yj, yd, rfl, hA4, hfy⟩ := hFr.at_ (k := i) (by omega)
     obtain ⟨y0, y1, y2, y3⟩ := hA4
     rw [Zpv htm] at hfy
     have hrc := hFr.cap
     unfold maxLen at hrc
     have hrc1 := hrc.1
     have hrc2 := hrc.2
     rw [Nat.zero_add] at k1
     have hlt2 : (i : Int) < ((i + 1 : Nat) : Int) := by omega
     have sx := hP.out.xk t htm
     have sy := hP.out.c t htm
     have sxy := Za (hP.out.xc t htm)
     replace qs := Za qs
     replace hs := Za hs
     replace hKt := Za hKt
     clear hFr hrc e0 hxt
     go_wp2_with fail
     have hSv1 : Hid (∀ wx, Below wr.heap.size wr wx -> wx.cell? ⟨go, t, none⟩ = some (.slice (some ⟨gr, orr, none⟩) (i + 1) cr) /\ wx.cell? ⟨gx, t * 4, none⟩ = some (.bool xn) /\ wx.cell? ⟨gx, t * 4 + 1, none⟩ = some (.slice xA xk xc) /\ wx.cell? ⟨gx, t * 4 + 2, none⟩ = some (.bool xm) /\ wx.cell? ⟨gx, t * 4 + 3, none⟩ = some (.slice xB xj xd) /\ wx.cell? ⟨gr, orr + i * 4, none⟩ = some (.bool yn) /\ wx.cell? ⟨gr, orr + i * 4 + 1, none⟩ = some (.slice yA yk yc) /\ wx.cell? ⟨gr, orr + i * 4 + 2, none⟩ = some (.bool ym) /\ wx.cell? ⟨gr, orr + i * 4 + 3, none⟩ = some (.slice yB yj yd)) := Za (fun wx hbx => ⟨Zb hbx k1, Zb hbx x0, Zb hbx x1, Zb hbx x2, Zb hbx x3, Zb hbx y0, Zb hbx y1, Zb hbx y2, Zb hbx y3⟩)
     have hr1 : Below wr.heap.size wr wr.drew := Ze (Below.refl _ _) 1
     refine wp_heldS [] hmx hSv1 hr1 (fun hxs1 => ?_)
     refine Zhz 11 [0, 1, 2, 3, 4, 5, 6, 7, 8, 9, 10] rfl (by kernel_rfl) (hSv1.out _ hr1) ?_
     iterate 11 (refine tk1 (v := ?_) rfl (Or.inl ⟨by kernel_rfl, ?_⟩) ?_; rotate_left; (· intro W2 hSw; (try dsimp only at hSw); go_simp; try with_reducible rfl); try simp only [Act.put, Ze7, Ze8, Zfh, putG_a, putG_s, putG_z])
     refine tk0 ?_
     refine Zaw [(11, 87), (12, 75), (13, 88), (15, 17)] (fun i => match i with | 12 => [14] | _ => []) [(11, 87), (12, 75), (14, 89), (13, 88), (15, 17)] (Zp wr.heap.size (X t i * ((Zar ws (Zaa rs t) (Zac rr) n : Int) : Rat)) 11 12 13 14 15 14) 2 (by kernel_rfl) (fun _ _ _ _ _ hb h => Zck hb h) (fun wx h => hSv1.out _ (hr1.trans (h.mono hr1.size))) ?hop1 ?hfin1
     case hop1 =>
      intro p hp
      simp only [List.mem_cons, List.not_mem_nil, or_false] at hp
      simp only [List.map_cons, List.map_nil, Zai, Act.put, Ze7, Ze8, Zfh]
      rcases hp with rfl | rfl | rfl | rfl
      ·intro ν wx hb hP
       have hbx := hr1.trans (hb.mono hr1.size)
       refine Zk (i := 11) rfl (fun K hK => ?_)
       go_simp
       refine (Ziu xn xm yn ym xA xB yA yB xk xc xj xd yk yc yj yd _ _ wx (hfx.below hbx) (hfy.below hbx) sx sy).mono ?_
       rintro e w5 ⟨hb5, na5, A5, k5, c5, nb5, B5, m5, d5, rfl, hf5⟩
       exact hK.out _ _ ⟨_, rfl, (by simp only [Zp]; exact ⟨_, _, _, _, _, _, _, _, rfl, hf5⟩), hb5, trivial⟩
      ·intro ν wx hb hP
       have h0 := hP (11, 87) (by simp) (by kernel_rfl)
       simp only [Zp] at h0
       obtain ⟨na5, A5, k5, c5, nb5, B5, m5, d5, hν, hf5⟩ := h0
       rw [hν]
       refine Zk (i := 12) rfl (fun K hK => ?_)
       go_simp
       refine hK.out _ _ ⟨_, rfl, (by simp only [Zp]; exact ⟨_, _, _, _, _, _, _, _, rfl, hf5⟩), Below.refl _ _, ?_⟩
       exact ⟨_, .int .i64 0, rfl, Or.inl ⟨by kernel_rfl, fun W2 _ => by go_simp⟩, by simp [Zp], trivial⟩
      ·intro ν wx hb hP
       have h0 := hP (12, 75) (by simp) (by kernel_rfl)
       simp only [Zp] at h0
       obtain ⟨na5, A5, k5, c5, nb5, B5, m5, d5, hν, hf5⟩ := h0
       rw [hν]
       refine Zk (i := 13) rfl (fun K hK => ?_)
       go_simp
       exact hK.out _ _ ⟨_, rfl, (by simp only [Zp]; exact ⟨_, _, _, _, _, _, _, _, rfl, hf5⟩), Below.refl _ _, trivial⟩
      ·intro ν wx hb hP
       refine Zk (i := 15) rfl (fun K hK => ?_)
       go_simp
       exact hK.out _ _ ⟨_, rfl, (by simp only [Zp]; exact ⟨_, rfl, hb.size, Blk.new _ _ _⟩), (Below.refl _ _).alloc (Nat.le_refl _) _, trivial⟩
     case hfin1 =>
      intro ν wx hb hP
      have h0 := hP (11, 87) (by simp)
      have h1 := hP (12, 75) (by simp)
      have h2 := hP (13, 88) (by simp)
      have h3 := hP (14, 89) (by simp)
      have h4 := hP (15, 17) (by simp)
      simp only [Zp] at h0 h1 h2 h4
      obtain ⟨a0, a1, a2, a3, a4, a5, a6, a7, h0, -⟩ := h0
      obtain ⟨b0', b1', b2', b3', b4', b5', b6', b7', h1, -⟩ := h1
      obtain ⟨wwn, wwA, wwk, wwc, wwm, wwB, wwj, wwd, h2, wwf⟩ := h2
      obtain ⟨gww, h4, kv, qv⟩ := h4
      simp only [List.map_cons, List.map_nil, Zai, Act.put, Ze7, Ze8, Zfh]
      rw [h0, h1, h2, (show ν 89 = Value.int .i64 0 by simpa [Zp] using h3), h4]
      clear h0 h1 h2 h3 h4 hP ν
      have hbx := hr1.trans (hb.mono hr1.size)
      have qv4 := qv.four
      have kv2 : wr.heap.size <= gww := kv
      refine (Zz wwn wwA wwk wwc wwm wwB wwj wwd hbx kv2 qv).elim (fun Zww hq => ?_)
      have c0 := qv4.1
      have c1' := qv4.2.1
      have c2' := qv4.2.2.1
      have c3 := qv4.2.2.2.1
      have f0 := qv4.2.2.2.2.1
      have f1 := qv4.2.2.2.2.2.1
      have f2 := qv4.2.2.2.2.2.2.1
      have f3 := qv4.2.2.2.2.2.2.2
      have hZ := hq.1
      refine Zg (i := 16) rfl (by kernel_rfl) (fun K hK => ?_)
      go_simp
      (try rw [hZ])
      refine hK.out _ _ (fun _ => hSv1.out _ hq.2.1) ?_
      clear hK K
      try simp only [Act.put, Ze7, Ze8, Zfh]
      refine Zfo 1 [17] rfl (by kernel_rfl) (hSv1.out _ hq.2.1) ?_
      (refine tk1 (v := ?_) rfl (Or.inl ⟨by kernel_rfl, ?_⟩) ?_; rotate_left; (· intro W2 _; go_simp; try with_reducible rfl); try simp only [Act.put, Ze7, Ze8, Zfh, putG_a, putG_s, putG_z])
      refine tk0 ?_
      refine Zl (by kernel_rfl) ?_ _
      refine OnlyNormal.normal ?_
      have hbZww := hq.2.1
      have wwb := Za hq.2.2.1
      replace wwf := Za (Fr.keep wwf hq.2.2.2.1)
      clear hq hZ c0 c1' c2' c3 f0 f1 f2 f3 qv4 qv kv hbx hb hr1 hSv1 hxs1
      have hb0 := hbZww
      have qs6 := Za (Zc hb0 qs.out)
      have hs6 := Za (hs.out.below hb0)
      have hK6 := Za (hKt.out.below hb0)
      obtain ⟨s0, s1, s2, s3, -⟩ := qs6.out.four
      obtain ⟨v0, v1, v2, v3, -⟩ := wwb.out.four
      clear x0 x1 x2 x3 y0 y1 y2 y3 hfx hfy sx sy k1 qs hs hKt hb0 hbq hq7
      go_wp2_with fail
      refine (Zil sn sm wwn wwm sA sB wwA wwB sk sc sj sd wwk wwc wwj wwd _ _ Zww hs6.out wwf.out (hP.out.left t (by omega)) sxy.out).mono ?_
      rintro e w5 ⟨hb5, zn, zA, zk, zc, zm, zB, zj, zd, rfl, hf9⟩
      have qs7 := Zc hb5 qs6.out
      obtain ⟨i0, i1, i2, i3, e0, e1, e2, e3⟩ := qs7.four
      obtain ⟨W6, hW6, q6, hK7, s6⟩ := Zdf zn zA zk zc zm zB zj zd qs7
      have hfin : VarF W6 gv (Zec rs rr ws (fun j => X j i) n (t + 1)) := ⟨_, _, _, _, _, _, _, _, q6, by
       rw [Zqn]
       exact hf9.keptV hK7 qs7 (Z7 _ _ _ _ _ _ _ _)⟩
      have hKfin : Hid (Kept (fun g => g = gv) V1 W6) := Za ((hK6.out.below hb5).trans hK7)
      replace hfin := Za hfin
      clear qs7 hf9 q6 hK7 s0 s1 s2 s3 v0 v1 v2 v3 hb5
      go_wp2_with fail
      (try rw [hW6])
      clear hW6
      go_roundg (i - (t + 1))
      case measure => omega
      case rel => exact ⟨t + 1, by omega, by go_num, hfin.out, hKfin.out⟩
theorem b40_out {least x : Int} (h : Zg3 least x = false) (h0 : -1099511627776 <= least) : B40 x := by
 unfold Zg3 at h
 simp only [Bool.or_eq_false_iff, decide_eq_false_iff_not] at h
 unfold B40
 omega
theorem Zjt {least : Int} {l : List Int} (h : Zcx least l = false) (h0 : -1099511627776 <= least) (i : Nat) : B40 (l[i]?.getD 0) := by
 unfold Zcx at h
 rw [List.any_eq_false] at h
 by_cases hi : i < l.length
 ·rw [List.getElem?_eq_getElem hi]
  exact b40_out (by simpa using h _ (List.getElem_mem hi)) h0
 ·rw [List.getElem?_eq_none (by omega)]
  show (0 : Int).natAbs <= _
  decide
theorem Zq9 {rs : List RI} {rr ws : List Int} (h : Zcm rs rr ws = 0) : (∀ r k, B40 (Zaa rs k r)) /\ (∀ r, B40 (Zac rr r)) /\ ∀ r, B40 (Zac ws r) := by
 obtain ⟨f1, f2, f3, f4, f5, f6, f7, f8⟩ := Zdp h
 refine ⟨fun r k => ?_, fun r => Zjt f7 (by decide) r, fun r => Zjt f6 (by decide) r⟩
 unfold Zaa
 by_cases hr : r < rs.length
 ·rw [List.getElem?_eq_getElem hr]
  exact Zjt (f8 _ (List.getElem_mem hr)).2 (by decide) k
 ·rw [List.getElem?_eq_none (l := rs) (i := r) (by omega)]
  show (0 : Int).natAbs <= _
  decide
def nrmN (rs : List RI) (ws : List Int) (n : Nat) : Nat -> Nat -> Rat := fun i j => ((Zar ws (Zaa rs i) (Zaa rs j) n : Int) : Rat)
section
variable {rs : List RI} {rr ws : List Int} {n m : Nat}
theorem Zfa {i j : Nat} (hi : i < m) : Zo (Zaj rs rr ws n m) i j = if j < m then nrmN rs ws n i j else if j = m then ((Zar ws (Zaa rs i) (Zac rr) n : Int) : Rat) else 0 := by
 unfold Zo Zaj
 rw [List.getElem?_map, List.getElem?_range hi, Option.map_some, Option.getD_some]
 by_cases hj : j < m
 ·rw [if_pos hj, Zou hj]; rfl
 ·rw [if_neg hj]
  by_cases hjm : j = m
  ·subst hjm; rw [if_pos rfl, Ziv]; rfl
  ·rw [if_neg hjm, List.getElem?_eq_none (by rw [Zc6]; omega)]; rfl
theorem Zmn : (Zaj rs rr ws n m).length = m := by unfold Zaj; simp
theorem Zr1 {i : Nat} (hi : i < m) : ((Zaj rs rr ws n m)[i]?.getD []).length = m + 1 := by
 unfold Zaj
 rw [List.getElem?_map, List.getElem?_range hi, Option.map_some, Option.getD_some, Zc6]
theorem Ztb (hn : n <= 200) (hE : Zcm rs rr ws = 0) (i j : Nat) : BndQ (pw 4) (Zo (Zaj rs rr ws n m) i j) := by
 obtain ⟨b1, b2, b3⟩ := Zq9 hE
 by_cases hi : i < m
 ·rw [Zfa hi]
  by_cases hj : j < m
  ·rw [if_pos hj]; exact ⟨_, rfl, Zf6 hn fun r _ => ⟨b3 r, b1 r i, b1 r j⟩⟩
  ·rw [if_neg hj]
   by_cases hjm : j = m
   ·rw [if_pos hjm]; exact ⟨_, rfl, Zf6 hn fun r _ => ⟨b3 r, b1 r i, b2 r⟩⟩
   ·rw [if_neg hjm]; exact BndQ.zero
 ·unfold Zo
  rw [List.getElem?_eq_none (l := Zaj rs rr ws n m) (by rw [Zmn]; omega)]
  exact BndQ.zero
theorem BndQ.den {B : Nat} {q : Rat} (h : BndQ B q) : q.den = 1 := by
 obtain ⟨z, rfl, -⟩ := h
 exact Rat.den_intCast z
theorem BndQ.num {B : Nat} {q : Rat} (h : BndQ B q) : q.num.natAbs <= B := by
 obtain ⟨z, rfl, hz⟩ := h
 rw [Rat.num_intCast]; exact hz
end
theorem Zm8 {B : Nat} {R : List (List Rat)} (h : ∀ i j, BndQ B (Zo R i j)) (i k : Nat) : Zas (R[i]?.getD []) k = 1 := by
 have h1 := Ztt (R[i]?.getD []) (D := 1) (fun j => by
  have := (h i j).den
  unfold Zo at this
  rw [this]; exact Nat.le_refl _) k
 have h2 := Zdl (R[i]?.getD []) k
 rw [Nat.one_pow] at h1
 omega
theorem Zsu {B : Nat} {R : List (List Rat)} (h : ∀ i j, BndQ B (Zo R i j)) (i j : Nat) : (Zab (Z8 R) i j).natAbs <= B := by
 have h1 := Zho R i j
 obtain ⟨z, hz, hb⟩ := h i j
 have hd : Zco R i = 1 := Zm8 h i _
 rw [hd, hz] at h1
 have h2 : ((Zab (Z8 R) i j : Int) : Rat) = (z : Rat) := by
  rw [h1]
  have : ((1 : Nat) : Rat) = 1 := rfl
  rw [this]; grind
 rw [Rat.intCast_inj.1 h2]; exact hb
theorem Zmu {b n m : Nat} {R : List (List Rat)} (h : ∀ i j, BndQ (pw b) (Zo R i j)) (hl : R.length = n) (hn : n <= 900) (hrow : ∀ i, i < n -> (R[i]?.getD []).length = m) (hnm : n <= m) (h1 : (b + 1) * n < 189) (hb : b < 900) :
    okZ (pw 200) m n 0 0 (Z8 R) 1 /\ okR (pw 200) (pw 200) m n 0 0 R /\ Znx R n m /\ (Zaq n 0 0 (Z8 R) false 1).2.1 = (Z3 n 0 0 R false).2.1 /\ (Z3 n 0 0 R false).2.1 <= n /\
    ((Z3 n 0 0 R false).2.1 < n -> Zav n (Zo R) = 0) /\
    ((Z3 n 0 0 R false).2.1 = n -> Zav n (Zo R) ≠ 0 /\ ∃ X : Nat -> Nat -> Rat, Zf4 (Zo (Z3 n 0 0 R false).1) X n m /\ Zf4 (fun i j => (Zab (Zaq n 0 0 (Z8 R) false 1).1 i j : Rat)) X n m /\ SolQ (Zo R) X n m) := by
 have hbd := Zm5 (b := b) n hn
 obtain ⟨B, hB⟩ : ∃ B, Za7 (pw b) n = B := ⟨_, rfl⟩
 rw [hB] at hbd
 obtain ⟨d, hd⟩ : ∃ d, (b + 1) * n = d := ⟨_, rfl⟩
 rw [hd] at hbd h1
 have bb : B * B <= pw (d + d) := Zdx hbd hbd
 have g1 : (n + 1) * (B * B) < pw 400 := by
  have h6 : (n + 1) * (B * B) <= pw (1 + (d + d)) := Zdx (k_pw (by omega)) bb
  exact Nat.lt_of_le_of_lt h6 (Zmm (by omega))
 have g2 : B * B * 1 < pw 400 := by rw [Nat.mul_one]; exact Nat.lt_of_le_of_lt bb (Zmm (by omega))
 have g3 : B * 1 < pw 300 := by rw [Nat.mul_one]; exact Nat.lt_of_le_of_lt hbd (Zmm (by omega))
 have hs := Zqd (B := pw b) (S := 1) (Zfg _) (Nat.le_refl _) R hl hrow (fun i hi => Nat.le_of_eq (Zm8 h i _)) (fun i j _ => Zsu h i j) hnm (by rw [hB]; exact g1) (by rw [hB]; exact g2) (by rw [hB]; exact g3)
 rw [hB, Nat.mul_one] at hs
 obtain ⟨o1, o2, o3, o4, o5, o6⟩ := hs
 have p1 : B + 1 <= pw 200 := Nat.le_trans (Nat.add_le_add hbd (Zfg d)) (Nat.le_trans (Zkv d) (Zb8 (by omega)))
 have p2 : B < pw 200 := p1
 refine ⟨Zj3 p2 _ _ _ _ _ o1, Zk6 p2 p2 _ _ _ _ o2, ⟨fun i t hi ht => ?_, fun i j => ?_⟩, o3, o4, o5, fun hr => ?_⟩
 ·rw [Zm8 h]; exact Nat.lt_of_lt_of_le Zd7 (Zb8 (by decide))
 ·exact Nat.lt_of_le_of_lt (h i j).num (Zmm (by omega))
 ·obtain ⟨q1, X, q2, q3, q4, -⟩ := o6 hr
  exact ⟨q1, X, q2, q3, q4⟩
section
variable {rs : List RI} {rr ws : List Int} {n m : Nat}
theorem Ztw (hn : n <= 200) (hm : m <= 12) (hE : Zcm rs rr ws = 0) : ∃ (full : Bool) (X : Nat -> Nat -> Rat),
    okZ (pw 200) (m + 1) m 0 0 (Z8 (Zaj rs rr ws n m)) 1 /\ okR (pw 200) (pw 200) (m + 1) m 0 0 (Zaj rs rr ws n m) /\ Znx (Zaj rs rr ws n m) m (m + 1) /\
    (Zaq m 0 0 (Z8 (Zaj rs rr ws n m)) false 1).2.1 = (Z3 m 0 0 (Zaj rs rr ws n m) false).2.1 /\ (Z3 m 0 0 (Zaj rs rr ws n m) false).2.1 <= m /\
    full = decide ((Z3 m 0 0 (Zaj rs rr ws n m) false).2.1 = m) /\
    (full = true ↔ Zav m (nrmN rs ws n) ≠ 0) /\
    (full = true -> Zf4 (Zo (Z3 m 0 0 (Zaj rs rr ws n m) false).1) X m (m + 1) /\ Zf4 (fun i j => (Zab (Zaq m 0 0 (Z8 (Zaj rs rr ws n m)) false 1).1 i j : Rat)) X m (m + 1) /\
     Zn9 rs rr ws (fun j => X j m) n m /\ Zj0 rs rr ws (fun j => X j m) n m /\ ∃ D, 0 < D /\ D <= pw (5 * m) /\ ∀ k, k < m -> CD D (pw (5 * m)) (X k m)) := by
 obtain ⟨b1, b2, b3⟩ := Zq9 hE
 obtain ⟨o1, o2, o3, o4, o5, o6, o7⟩ := Zmu (b := 4) (n := m) (m := m + 1) (R := Zaj rs rr ws n m) (fun i j => Ztb hn hE i j) Zmn (by omega) (fun i hi => Zr1 hi) (by omega) (by omega) (by omega)
 have hdet : Zav m (Zo (Zaj rs rr ws n m)) = Zav m (nrmN rs ws n) := Za4 fun i j hi hj => by rw [Zfa hi, if_pos hj]
 by_cases hr : (Z3 m 0 0 (Zaj rs rr ws n m) false).2.1 = m
 ·obtain ⟨x1, X, x2, x3, x4⟩ := o7 hr
  have hN : Zn9 rs rr ws (fun j => X j m) n m := fun i hi => by
   have h6 := x4 i m hi (Nat.le_refl _) (by omega)
   rw [Zfa hi, if_neg (Nat.lt_irrefl _), if_pos rfl] at h6
   rw [<- h6]
   exact Zx fun j hj => by rw [Zfa hi, if_pos hj]; rfl
  obtain ⟨D, d1, d2, d3⟩ := Zud (B := pw 4) (n := m) (Q := nrmN rs ws n) (x := fun j => X j m) (y := fun i => ((Zar ws (Zaa rs i) (Zac rr) n : Int) : Rat))
   (fun a b ha hb => ⟨_, rfl, Zf6 hn fun r _ => ⟨b3 r, b1 r a, b1 r b⟩⟩) (fun a ha => ⟨_, rfl, Zf6 hn fun r _ => ⟨b3 r, b1 r a, b2 r⟩⟩) hN (by rw [<- hdet]; exact x1)
  have hbd := Zm5 (b := 4) m (by omega)
  have d4 : D <= pw (5 * m) := Nat.le_trans d2 hbd
  have d5 : ∀ k, k < m -> CD D (pw (5 * m)) (X k m) := fun k hk => (d3 k hk).mono hbd
  refine ⟨true, X, o1, o2, o3, o4, o5, (decide_eq_true hr).symm, ⟨fun _ => by rw [<- hdet]; exact x1, fun _ => rfl⟩, fun _ => ⟨x2, x3, hN, ?_, D, d1, d4, d5⟩⟩
  exact Zry hn (by omega) d1 d4 (Nat.le_refl _) (by omega) d5 (fun r k _ _ => b1 r k) (fun r _ => b2 r) (fun r _ => b3 r)
 ·have hr' : (Z3 m 0 0 (Zaj rs rr ws n m) false).2.1 < m := by omega
  exact ⟨false, fun _ _ => 0, o1, o2, o3, o4, o5, (decide_eq_false hr).symm, ⟨fun h => (by cases h), fun h => absurd (by rw [<- hdet]; exact o6 hr') h⟩, fun h => (by cases h)⟩
end
def LeastD (w : World) (ds : List DF) (d : DF) (E : Int) (e : Ending) (w' : World) : Prop :=
 ∃ A0 n0 c0 A n c B m d1, e = .returned (.tuple #[.slice A0 n0 c0, .agg #[.bool d.na, .slice A n c, .bool d.nb, .slice B m d1], .int .i64 E]) /\ Below w.heap.size w w' /\ XL w' A0 n0 c0 ds /\ Lim w' A n c d.la /\ Lim w' B m d1 d.lb
theorem LeastD.of_bad {w w' : World} {e : Ending} {E : Int} (h : e = .returned (.tuple #[.slice none 0 0, .agg #[.bool false, .slice none 0 0, .bool false, .slice none 0 0], .int .i64 E]) /\ Below w.heap.size w w') : LeastD w [] dfZ E e w' :=
 ⟨_, _, _, _, _, _, _, _, _, h.1, h.2, XL.nil _, Lim.nil _ _ _ (Nat.zero_le _), Lim.nil _ _ _ (Nat.zero_le _)⟩
theorem LeastD.of_full {full : Bool} {xs : List Rat} {q : Rat} {w w' : World} {e : Ending} (hf : full = true) (h : Zm7 full xs q w e w') : LeastD w (xs.map dfQ) (dfQ q) 0 e w' := by
 rcases h with ⟨h1, -⟩ | ⟨-, A0, n0, c0, na, A, n, c, nb, B, m, d, e1, hb, hO, hfr⟩
 ·rw [hf] at h1; cases h1
 ·have hx := hO.xl
  have h1 := hfr.1.1
  have h2 := hfr.2.1
  have h3 := hfr.2.2.2
  rw [Int.natAbs_natCast] at h3
  have h4 : nb = false := by rw [h2]; exact decide_eq_false (by omega)
  subst h1 h4
  exact ⟨_, _, _, _, _, _, _, _, _, e1, hb, hx, hfr.1.2.2, h3⟩
theorem LeastD.of_short {full : Bool} {xs : List Rat} {q : Rat} {w w' : World} {e : Ending} (hf : full = false) (h : Zm7 full xs q w e w') : LeastD w [] dfZ 22 e w' := by
 rcases h with ⟨-, h1⟩ | ⟨h1, -⟩
 ·exact LeastD.of_bad h1
 ·rw [hf] at h1; cases h1
theorem Zjk {w : World} {A : Option Addr} {n c : Nat} {rs : List RI} {rr ws : List Int} (h : MIL w A n c rs) (hE : Zcm rs rr ws = 0) : 0 < n /\ n <= 200 /\ 0 < n0I rs /\ n0I rs <= 12 /\ rr.length = n /\ ws.length = n /\ ∀ r ∈ rs, r.n = n0I rs := by
 obtain ⟨f1, f2, f3, f4, f5, f6, f7, f8⟩ := Zdp hE
 have hl := h.1
 have hn0 : 0 < n := by
  rcases Nat.eq_zero_or_pos n with h0 | h0
  ·exfalso
   have : rs = [] := List.eq_nil_of_length_eq_zero (by omega)
   subst this
   exact f3 rfl
  ·exact h0
 have hm12 : n0I rs <= 12 := by
  obtain ⟨_, _, r0, _, hr0, _⟩ := h.at_ (i := 0) hn0
  have h1 := List.mem_of_getElem? hr0
  rw [<- (f8 r0 h1).1]
  exact f2 r0 h1
 exact ⟨hn0, by omega, by omega, hm12, by omega, by omega, fun r hr => (f8 r hr).1⟩
theorem Zpt (rs : List RI) (rr ws : List Int) : ∃ (E : Int) (ds : List DF) (d : DF),
    (Zcm rs rr ws ≠ 0 -> E = Zcm rs rr ws) /\
    (Zcm rs rr ws = 0 -> (Zav (n0I rs) (nrmN rs ws rs.length) = 0 /\ E = 22 /\ ds = []) \/ (Zav (n0I rs) (nrmN rs ws rs.length) ≠ 0 /\ E = 0 /\ ∃ x : Nat -> Rat, ds = ((List.range (n0I rs)).map x).map dfQ /\ d = dfQ (Zlb rs rr ws x (n0I rs) rs.length) /\ Zn9 rs rr ws x rs.length (n0I rs) /\ Zj0 rs rr ws x rs.length (n0I rs) /\
     ∃ D, 0 < D /\ D <= pw (5 * n0I rs) /\ ∀ k, k < n0I rs -> CD D (pw (5 * n0I rs)) (x k))) /\
    ∀ (w : World) (A B C : Option Addr) (n c m0 d0 k e0 : Nat), MIL w A n c rs -> LimI w B m0 d0 rr -> LimI w C k e0 ws ->
    Calls Tryz.prog 18 #[.slice A n c, .slice B m0 d0, .slice C k e0] w (LeastD w ds d E) /\ Calls Tryz.prog 19 #[.slice A n c, .slice B m0 d0, .slice C k e0] w (LeastD w ds d E) := by
 by_cases hE : Zcm rs rr ws = 0
 ·by_cases hsz : rs.length <= 200 /\ n0I rs <= 12
  ·obtain ⟨full, X, a1, a2, a3, a4, a5, a6, a7, a8⟩ := Ztw (n := rs.length) (m := n0I rs) hsz.1 hsz.2 hE
   cases full with
   | true =>
    obtain ⟨x1, x2, x3, x4, x5⟩ := a8 rfl
    refine ⟨0, ((List.range (n0I rs)).map fun j => X j (n0I rs)).map dfQ, dfQ (Zlb rs rr ws (fun j => X j (n0I rs)) (n0I rs) rs.length), fun h => absurd hE h, fun _ => .inr ⟨a7.1 rfl, rfl, fun j => X j (n0I rs), rfl, rfl, x3, x4, x5⟩, fun w A B C n c m0 d0 k e0 h hr hw => ?_⟩
    obtain ⟨p1, p2, p3, p4, p5, p6, p7⟩ := Zjk h hE
    obtain rfl : rs.length = n := h.1
    obtain rfl : m0 = rs.length := by rw [<- hr.1, p5]
    obtain rfl : k = rs.length := by rw [<- hw.1, p6]
    refine ⟨(Zjz A B C _ c d0 e0 _ rs rr ws w h hr hw hE rfl p1 p3 p4 a1 a3 (by rw [a4]; exact a5) X (fun _ => x2) true (by rw [a4]; exact a6) (fun _ => x4)).mono fun e w' he => LeastD.of_full rfl he, ?_⟩
    refine (Zjq A B C _ c d0 e0 _ rs rr ws w h hr hw hE rfl p1 p3 p4 a2 a5 X (fun _ => x1) true a6 (fun _ => x4)).mono fun e w' he => ?_
    have h9 := LeastD.of_full rfl he
    rw [<- Zun x3] at h9
    exact h9
   | false =>
    refine ⟨22, [], dfZ, fun h => absurd hE h, fun _ => .inl ⟨Classical.byContradiction fun h => (by have := a7.2 h; cases this), rfl, rfl⟩, fun w A B C n c m0 d0 k e0 h hr hw => ?_⟩
    obtain ⟨p1, p2, p3, p4, p5, p6, p7⟩ := Zjk h hE
    obtain rfl : rs.length = n := h.1
    obtain rfl : m0 = rs.length := by rw [<- hr.1, p5]
    obtain rfl : k = rs.length := by rw [<- hw.1, p6]
    have hne : (Z3 (n0I rs) 0 0 (Zaj rs rr ws rs.length (n0I rs)) false).2.1 ≠ n0I rs := by simpa using a6
    exact ⟨(Zjz A B C _ c d0 e0 _ rs rr ws w h hr hw hE rfl p1 p3 p4 a1 a3 (by rw [a4]; exact a5) X (fun h => absurd (a4.symm.trans h) hne) false (by rw [a4]; exact a6) (fun h => (by cases h))).mono fun e w' he => LeastD.of_short rfl he,
     (Zjq A B C _ c d0 e0 _ rs rr ws w h hr hw hE rfl p1 p3 p4 a2 a5 X (fun h => absurd h hne) false a6 (fun h => (by cases h))).mono fun e w' he => LeastD.of_short rfl he⟩
  ·refine ⟨0, [], dfZ, fun h => absurd hE h, fun _ => ?_, fun w A B C n c m0 d0 k e0 h hr hw => ?_⟩
   ·exfalso
    obtain ⟨f1, f2, f3, f4, f5, f6, f7, f8⟩ := Zdp hE
    refine hsz ⟨f1, ?_⟩
    cases hrs : rs with
    | nil => rw [hrs] at f3; exact absurd rfl f3
    | cons r t =>
     have h1 : r ∈ rs := by rw [hrs]; exact List.mem_cons_self
     rw [<- hrs, <- (f8 r h1).1]
     exact f2 r h1
   ·exfalso
    obtain ⟨p1, p2, p3, p4, p5, p6, p7⟩ := Zjk h hE
    have := h.1
    exact hsz ⟨by omega, p4⟩
 ·refine ⟨Zcm rs rr ws, [], dfZ, fun _ => rfl, fun h => absurd h hE, fun w A B C n c m0 d0 k e0 h hr hw => ?_⟩
  exact ⟨(Zqg A B C n c m0 d0 k e0 rs rr ws w h hr hw _ rfl hE).mono fun e w' he => LeastD.of_bad he, (Zqb A B C n c m0 d0 k e0 rs rr ws w h hr hw _ rfl hE).mono fun e w' he => LeastD.of_bad he⟩
theorem Zow (rs : List RI) (ws : List Int) : ∃ (E : Int) (D : List (List DF)),
    E = Zcm rs (List.replicate (min rs.length 200) 0) ws /\ (E = 0 -> D = (Zes rs ws rs.length (n0I rs)).map (fun r => r.map dfQ)) /\
    ∀ (w : World) (A C : Option Addr) (n c k e0 : Nat), MIL w A n c rs -> LimI w C k e0 ws ->
    Calls Tryz.prog 16 #[.slice A n c, .slice C k e0] w (MatD w D E) /\ Calls Tryz.prog 17 #[.slice A n c, .slice C k e0] w (MatD w D E) := by
 obtain ⟨E, hE⟩ : ∃ E, Zcm rs (List.replicate (min rs.length 200) 0) ws = E := ⟨_, rfl⟩
 by_cases h0 : E = 0
 ·subst h0
  refine ⟨0, _, hE.symm, fun _ => rfl, fun w A C n c k e0 h hw => ?_⟩
  obtain ⟨p1, p2, p3, p4, p5, p6, p7⟩ := Zjk h hE
  obtain rfl : rs.length = n := h.1
  obtain rfl : k = rs.length := by rw [<- hw.1, p6]
  have hE2 : Zcm rs (List.replicate rs.length 0) ws = 0 := by rw [Nat.min_eq_left p2] at hE; exact hE
  refine ⟨(Zp9 A C _ c e0 _ rs ws w h hw hE2 rfl).mono fun e w' he => ?_, (Zqc A C _ c e0 _ rs ws w h hw p1 p2 p3 p4 p7 hE).mono fun e w' he => ?_⟩
  ·obtain ⟨go, e1, hb, hM⟩ := he
   exact ⟨_, _, _, e1, hb, hM.xm⟩
  ·obtain ⟨v, L, e1, hb, hM⟩ := he
   have hl : L.length = n0I rs := by rw [hM.2.1, Zf3]
   obtain ⟨go, cap, rfl, hc1, hc2, hM3⟩ := hM.mat (fun e => by rw [e] at hl; simp at hl; omega)
   exact ⟨_, _, _, e1, hb, (hM3.mfl hc1 hc2).xm⟩
 ·refine ⟨E, [], hE.symm, fun h => absurd h h0, fun w A C n c k e0 h hw => ?_⟩
  have hE2 : Zcm rs (List.replicate (min n 200) 0) ws = E := by rw [<- h.1]; exact hE
  exact ⟨(Zod A C n c k e0 rs ws w h hw E hE2 h0).mono fun e w' he => ⟨_, _, _, he.1, he.2, XM.nil _⟩, (Zoo A C n c k e0 rs ws w h hw E hE2 h0).mono fun e w' he => ⟨_, _, _, he.1, he.2, XM.nil _⟩⟩
theorem Zrv (A B C : Option Addr) (n c m0 d0 k e0 : Nat) (rs : List RI) (rr ws : List Int) (w : World) (h : MIL w A n c rs) (hr : LimI w B m0 d0 rr) (hw : LimI w C k e0 ws) :
    Calls Tryz.prog 4 #[.slice A n c, .slice B m0 d0, .slice C k e0] w fun e w' => e = .returned (.bool true) /\ Below w.heap.size w w' := by
 have s1 := hr.nlen
 have s2 := hw.nlen
 replace h := Za h
 replace hr := Za hr
 replace hw := Za hw
 go_enter Tryz.func4, Tryz.ntmps4
 go_wp2_with fail
 refine (Zip A B C n c m0 d0 k e0 rs w h.out s1 s2).mono ?_
 rintro e w1 ⟨b1, rfl, hb1, hc1⟩
 clear hc1
 cases b1 with
 | true =>
  go_wp2_with fail
  go_ret
  exact ⟨rfl, hb1⟩
 | false =>
  obtain ⟨E, D, -, -, hN⟩ := Zow rs ws
  obtain ⟨E2, ds, d, -, -, hL⟩ := Zpt rs rr ws
  have K1 := Za (fun W (hB : Below w.heap.size w W) => (hN W A C n c k e0 (h.out.below hB) (hw.out.below hB)).1)
  have K2 := Za (fun W (hB : Below w.heap.size w W) => (hN W A C n c k e0 (h.out.below hB) (hw.out.below hB)).2)
  have K3 := Za (fun W (hB : Below w.heap.size w W) => (hL W A B C n c m0 d0 k e0 (h.out.below hB) (hr.out.below hB) (hw.out.below hB)).1)
  have K4 := Za (fun W (hB : Below w.heap.size w W) => (hL W A B C n c m0 d0 k e0 (h.out.below hB) (hr.out.below hB) (hw.out.below hB)).2)
  clear hN hL h hr hw
  go_wp2_with fail
  refine (K1.out w1 hb1).mono ?_
  rintro e w2 ⟨A1, n1, c1, rfl, hb2, x1⟩
  have hB2 := hb1.trans (hb2.mono hb1.size)
  replace x1 := Za x1
  clear K1
  go_wp2_with fail
  refine (K2.out w2 hB2).mono ?_
  rintro e w3 ⟨A2, n2, c2, rfl, hb3, x2⟩
  have hB3 := hB2.trans (hb3.mono hB2.size)
  obtain rfl : n2 = n1 := by rw [<- x2.1, <- x1.out.1]
  replace x1 := Za (x1.out.below hb3)
  replace x2 := Za x2
  clear K2
  go_wp2_with fail
  refine (K3.out w3 hB3).mono ?_
  rintro e w4 ⟨A3, n3, c3, A4, n4, c4, B4, m4, d4, rfl, hb4, y1, l1, l2⟩
  obtain ⟨g9, hg9⟩ : ∃ g, w4.heap.size = g := ⟨_, rfl⟩
  obtain ⟨V3, hV3, qv3, hbV3⟩ := Zgz (w := w4) 45 #[.bool d.na, .slice A4 n4 c4, .bool d.nb, .slice B4 m4 d4]
  rw [hg9] at qv3
  have hb34 : Below w3.heap.size w3 V3 := hb4.trans (hbV3.mono hb4.size)
  have hB4 : Below w.heap.size w V3 := hB3.trans (hb34.mono hB3.size)
  replace x1 := Za (x1.out.below hb34)
  replace x2 := Za (x2.out.below hb34)
  replace y1 := Za (y1.below hbV3)
  replace l1 := Za (l1.below hbV3)
  replace l2 := Za (l2.below hbV3)
  replace qv3 := Za qv3
  clear K3
  go_wp2_with fail
  (try rw [hg9])
  (try rw [hV3])
  clear hV3
  refine (K4.out V3 hB4).mono ?_
  rintro e w5 ⟨A5, n5, c5, A6, n6, c6, B6, m6, d6, rfl, hb5, y2, l3, l4⟩
  obtain rfl : n5 = n3 := by rw [<- y2.1, <- y1.out.1]
  obtain ⟨g11, hg11⟩ : ∃ g, w5.heap.size = g := ⟨_, rfl⟩
  obtain ⟨V4, hV4, qv4, hbV4⟩ := Zgz (w := w5) 45 #[.bool d.na, .slice A6 n6 c6, .bool d.nb, .slice B6 m6 d6]
  rw [hg11] at qv4
  have hb45 : Below V3.heap.size V3 V4 := hb5.trans (hbV4.mono hb5.size)
  have hB5 : Below w.heap.size w V4 := hB4.trans (hb45.mono hB4.size)
  replace x1 := Za (x1.out.below hb45)
  replace x2 := Za (x2.out.below hb45)
  replace y1 := Za (y1.out.below hb45)
  replace y2 := Za (y2.below hbV4)
  replace l1 := Za (l1.out.below hb45)
  replace l2 := Za (l2.out.below hb45)
  replace l3 := Za (l3.below hbV4)
  replace l4 := Za (l4.below hbV4)
  replace qv3 := Za (qv3.out.below hb45 qv3.out.lt)
  replace qv4 := Za qv4
  clear K4
  go_wp2_with fail
  (try rw [hg11])
  (try rw [hV4])
  clear hV4
  refine (Zrq A1 A2 n2 c1 c2 D V4 x1.out x2.out).mono ?_
  rintro e w6 ⟨rfl, hb6⟩
  have hB6 := hB5.trans (hb6.mono hB5.size)
  go_wp2_with fail
  refine (Zh7 A3 A5 n5 c3 c5 ds w6 (y1.out.below hb6) (y2.out.below hb6)).mono ?_
  rintro e w7 ⟨rfl, hb7⟩
  have hB7 := hB6.trans (hb7.mono hB6.size)
  have hb67 := hb6.trans (hb7.mono hb6.size)
  have q3 := qv3.out.below hb67 qv3.out.lt
  have q4 := qv4.out.below hb67 qv4.out.lt
  obtain ⟨r0, r1, r2, r3, -⟩ := q3.four
  obtain ⟨s0, s1, s2, s3, -⟩ := q4.four
  clear q3 q4
  go_wp2_with fail
  refine (Zlg d.na d.nb A4 B4 A6 B6 n4 c4 m4 d4 n6 c6 m6 d6 d.la d.lb w7 (l1.out.below hb67) (l2.out.below hb67) (l3.out.below hb67) (l4.out.below hb67)).mono ?_
  rintro e w8 ⟨rfl, hb8⟩
  have hB8 := hB7.trans (hb8.mono hB7.size)
  go_wp2_with fail
  go_ret
  exact ⟨by simp, hB8⟩
open Go.ChangeShapes Go.WideShapes Go.Deep Go.RowKit
section
variable {H : Type} {enc : TypeId × Value -> H} {P : Program} {w : World} {base : Nat} {spare : Nat -> Bool} {held : Bool}
end
section
variable {H : Type} {enc : TypeId × Value -> H} {P : Program}
theorem Zln {f : Func} {s : ChangeSpec} {apart fresh handsOn again : Bool} {W W' : World} {args : Array Value} {v : Value} {ds gs : List (DataW H)} {before pa pv : List MemPlace}
    (hW : DataW.Whole enc P f.params.toList s.vars apart W args.toList ds gs before)
    (hres : ∀ (b : Nat) (sp : Nat -> Bool) (hd : Bool), DataW.TrodAll enc P W' b sp hd f.resultTypes.toList (v.resultList f.resultTypes.size) (s.fn H (ds ++ gs)).results [])
    (hargs : ∀ sp : Nat -> Bool, (∀ p ∈ before, sp p.block = true) -> DataW.TrodAll enc P W' 0 sp true f.params.toList args.toList (s.fn H (ds ++ gs)).args pa)
    (hvars : ∀ sp : Nat -> Bool, (∀ p ∈ before, sp p.block = true) -> DataW.TrodVars enc P W' sp s.vars (s.fn H (ds ++ gs)).vars pv)
    (hps : before = pa ++ pv) (hb : Below W.heap.size W W')
    (hok : ∀ (j : Nat) (t : TypeId) (r : Value), f.resultTypes[j]? = some t -> (v.resultList f.resultTypes.size)[j]? = some r -> Value.okWide P W' .any 0 t r) :
    s.post enc P f apart fresh handsOn again W args v W' := by
 have hlt : ∀ p ∈ before, p.block < W.heap.size := fun p hp => hW.lt p hp
 have hold : ∀ p ∈ before, (fun b => decide (b < W.heap.size)) p.block = true := fun p hp => by simpa using hlt p hp
 refine ⟨ds, gs, before, [], pa, pv, hW, hres _ _ _, hargs _ hold, hvars _ hold, World.keptBut_mono (fun p hp => ⟨hp, ?_⟩) (hb.frame (· ∈ before)), fun _ => ?_⟩
 ·rw [hps, List.mem_append] at hp
  exact Or.inr hp
 ·obtain ⟨_, _, _, _, _, hz, hn⟩ := hW
  refine ⟨hok, _, _, ([] ++ pa) ++ pv, ⟨[] ++ pa, pv, trodAll_append (hargs _ (fun _ _ => rfl)) (hres _ _ _), hvars _ (fun _ _ => rfl), rfl, ?_, ?_⟩, ?_⟩
  ·intro b off hp
   have hin : MemPlace.cell b off ∈ before := by rw [hps]; simpa using hp
   rw [hb.frozen (hlt _ hin)]
   exact hz b off hin
  ·intro ha
   have := hn ha
   rw [hps] at this
   simpa using this
  ·intro p hp _
   rw [hps]
   simpa using hp
end
theorem list_of {α : Type} (P : Nat -> α -> Prop) (n : Nat) (h : ∀ i, i < n -> ∃ e, P i e) : ∃ es : List α, es.length = n /\ ∀ (k : Nat) (e : α), es[k]? = some e -> P k e := by
 induction n with
 | zero => exact ⟨[], rfl, fun k e h => by simp at h⟩
 | succ n ih =>
  obtain ⟨es, h1, h2⟩ := ih fun i hi => h i (by omega)
  obtain ⟨e, he⟩ := h n (by omega)
  refine ⟨es ++ [e], by simp [h1], fun k e' hk => ?_⟩
  rcases Nat.lt_or_ge k es.length with hlt | hge
  ·rw [List.getElem?_append_left hlt] at hk; exact h2 k e' hk
  ·rw [List.getElem?_append_right hge] at hk
   rcases Nat.eq_or_lt_of_le hge with h0 | h0
   ·rw [show k - es.length = 0 by omega] at hk
    simp at hk
    subst hk
    rw [<- h0, h1]; exact he
   ·rw [List.getElem?_eq_none (by simp; omega)] at hk
    cases hk
theorem Zjv {w : World} {a : Addr} {v : Value} (h : w.cell? a = some v) : a = ⟨a.block, a.off, none⟩ := by
 obtain ⟨b, o, s⟩ := a
 cases s with
 | none => rfl
 | some s =>
  exfalso
  unfold World.cell? at h
  simp at h
  split at h <;> simp at h
section
variable {H : Type} {enc : TypeId × Value -> H} {w : World} {base : Nat} {spare : Nat -> Bool} {held : Bool}
end
section
variable {H : Type} {enc : TypeId × Value -> H} {w : World} {base : Nat} {spare : Nat -> Bool} {held : Bool}
end
section
variable {H : Type} {enc : TypeId × Value -> H} {w : World} {base : Nat} {spare : Nat -> Bool} {held : Bool}
end
theorem Zuu {z : Int} (h : (Lit.int .i64 z).wf = true) : I64 z := by
 simp only [Lit.wf, Bool.and_eq_true, decide_eq_true_eq] at h
 exact h
section
variable {H : Type} {enc : TypeId × Value -> H} {w : World} {base : Nat} {spare : Nat -> Bool} {held : Bool}
theorem Zi1 {t e : TypeId} {fuel : Nat} {cs : List Value} {x : DataW H × List MemPlace} (ht : Tryz.prog.underlying t = some (.slice e)) (he : Tryz.prog.underlying e = some (.int .i64)) (hc : Tryz.prog.cellsOf e = 1) (h : DataW.trod enc Tryz.prog w base spare held fuel t cs = some x) : ∃ (A : Option Addr) (n c : Nat) (l : List Int), cs = [.slice A n c] /\ LimI w A n c l := by
 rcases open_ints ht he hc h with ⟨rfl, _⟩ | ⟨a, len, cap, zs, rfl, _, hl, hm, hz, _, hcell, hwf⟩
 ·exact ⟨none, 0, 0, [], rfl, rfl, Nat.zero_le _, Nat.zero_le _, by simp, fun h => absurd h (by omega)⟩
 ·have hlz : len <= zs.length := by rw [hz]; split <;> omega
  refine ⟨some a, len, cap, zs.take len, rfl, by simp; omega, hl, hm, fun v hv => Zuu (hwf v (List.mem_of_mem_take hv)), fun hn => ?_⟩
  have h0 := hcell 0 (by omega)
  have hp := Zjv h0
  obtain ⟨b, o, s⟩ : ∃ b o, a = ⟨b, o, none⟩ := by
   obtain ⟨b, o, s⟩ := a
   refine ⟨b, o, ?_⟩
   unfold Addr.add at hp
   split at hp <;> simp_all
  subst s
  refine ⟨b, o, rfl, fun k hk => ?_⟩
  have hc := hcell k (by omega)
  rw [Zh] at hc
  rw [hc]
  have hkz : k < zs.length := by omega
  rw [List.getElem?_take, if_pos hk, List.getD_eq_getElem?_getD]
theorem Zkj {r : Reach} {b0 : Nat} {v : Value} {d : DataW H} {p : List MemPlace} (hv : Value.okWide Tryz.prog w r b0 34 v) (h : DataW.Trod enc Tryz.prog w base spare held 34 v d p) : ∃ (A : Option Addr) (n c : Nat) (l : List Int), v = .slice A n c /\ LimI w A n c l := by
 obtain ⟨A, n, c, rfl⟩ := okWide_slice Tryz.underlying34 hv
 obtain ⟨fuel, hf⟩ := h
 obtain ⟨A', n', c', l, hcs, hL⟩ := Zi1 Tryz.underlying34 Tryz.underlying2 (by kernel_rfl) hf
 simp [Value.cells] at hcs
 obtain ⟨rfl, rfl, rfl⟩ := hcs
 exact ⟨A, n, c, l, rfl, hL⟩
theorem Zp8 {fuel : Nat} {cs : List Value} {x : DataW H × List MemPlace} (h : DataW.trod enc Tryz.prog w base spare held fuel 33 cs = some x) : ∃ (A : Option Addr) (n c : Nat) (rs : List RI), cs = [.slice A n c] /\ MIL w A n c rs := by
 have c1 : Tryz.prog.cellsOf 34 = 1 := by kernel_rfl
 rcases open_slice Tryz.underlying33 h with ⟨hcs, _⟩ | ⟨a, n, c, m, f, D, Pl, hcs, _, hl, hm, hmm, _, hi⟩
 ·exact ⟨none, 0, 0, [], hcs, rfl, Nat.le_refl _, Nat.zero_le _, fun e he => (by cases he), fun h => absurd h (by omega)⟩
 ·have hlm : n <= m := by rw [hmm]; split <;> omega
  rw [c1] at hi
  obtain ⟨rs, he1, he2⟩ := list_of (fun i (r : RI) => w.cell? (a.add i) = some (.slice r.A r.n r.c) /\ LimI w r.A r.n r.c r.l) n (fun i hin => by
   obtain ⟨cs', hc, ht⟩ := hi i (by omega)
   obtain ⟨A, n1, c1, l, rfl, h1⟩ := Zi1 Tryz.underlying34 Tryz.underlying2 (by kernel_rfl) ht
   obtain ⟨_, _, hat⟩ := World.cells?_some hc
   have g0 := hat 0 (by simp)
   rw [Go.Deep.add_add] at g0
   exact ⟨⟨A, n1, c1, l⟩, by simpa using g0, h1⟩)
  refine ⟨some a, n, c, rs, hcs, he1, hl, hm, fun r hr => ?_, fun hn => ?_⟩
  ·obtain ⟨k, hk, rfl⟩ := List.getElem_of_mem hr
   exact (he2 k _ (List.getElem?_eq_getElem hk)).2
  ·obtain ⟨b, o, rfl⟩ : ∃ b o, a = ⟨b, o, none⟩ := by
     have h0 := he2 0 _ (List.getElem?_eq_getElem (by omega))
     have hp := Zjv h0.1
     obtain ⟨b, o, s⟩ := a
     refine ⟨b, o, ?_⟩
     unfold Addr.add at hp
     split at hp <;> simp_all
   refine ⟨b, o, rfl, fun k r hk => ?_⟩
   have h0 := he2 k r hk
   rw [Zh] at h0
   exact h0.1
theorem Zoz {r : Reach} {b0 : Nat} {v : Value} {d : DataW H} {p : List MemPlace} (hv : Value.okWide Tryz.prog w r b0 33 v) (h : DataW.Trod enc Tryz.prog w base spare held 33 v d p) :
    ∃ (A : Option Addr) (n c : Nat) (rs : List RI), v = .slice A n c /\ MIL w A n c rs := by
 obtain ⟨A, n, c, rfl⟩ := okWide_slice Tryz.underlying33 hv
 obtain ⟨fuel, hf⟩ := h
 obtain ⟨A', n', c', rs, e, hM⟩ := Zp8 hf
 simp [Value.cells] at e
 obtain ⟨rfl, rfl, rfl⟩ := e
 exact ⟨_, _, _, rs, rfl, hM⟩
end
end Go.Proofs.YtigdclhagmnopaaGreat
