/- Reference of frac: added. -/
import Derived.Test.YtigdclhagmnopaaGreatZl21
set_option maxRecDepth 100000
set_option maxHeartbeats 2000000
set_option linter.unusedSimpArgs false
set_option linter.unusedVariables false
namespace Go.Proofs.YtigdclhagmnopaaGreat
open Go.RowKit
attribute [local go_sem] Zi
theorem Fr.keep {w W : World} {na : Bool} {A : Option Addr} {n c : Nat} {nb : Bool} {B : Option Addr} {m d : Nat} {r : Rat} (h : Fr w na A n c nb B m d r) (k : ∀ na A n c z, Wd w na A n c z -> Wd W na A n c z) : Fr W na A n c nb B m d r := ⟨k _ _ _ _ _ h.1, k _ _ _ _ _ h.2⟩
theorem sm_add {x y z v : Int} (hx : x.natAbs < pw 1000) (hy : y.natAbs < pw 1000) (hz : z.natAbs < pw 1000) (hv : v.natAbs < pw 1000) : (x * y + z * v).natAbs < pw 4096 := by
 have h1 := Zkr hx hy
 have h2 := Zkr hz hv
 have h3 := Zty
 omega
theorem Zqb (na nb na' nb' : Bool) (A B A' B' : Option Addr) (n c m d n' c' m' d' : Nat) (a b : Rat) (w : World) (ha : Fr w na A n c nb B m d a) (hb : Fr w na' A' n' c' nb' B' m' d' b) (sa : Sm a) (sb : Sm b) :
    Calls Tryz.prog 88 #[.agg #[.bool na, .slice A n c, .bool nb, .slice B m d], .agg #[.bool na', .slice A' n' c', .bool nb', .slice B' m' d'], .bool true] w (Ze0 w (a - b)) := by
 rw [<- Zql]
 have h1 := Za (Zcb sa.1 sb.dn)
 have h2 := Za (Zcb sb.1 sa.dn)
 have h3 := Za (Zcb sa.dn sb.dn)
 have h4 := Za (sm_add sa.1 sb.dn sb.1 sa.dn)
 have h5 := Za (Zth sa.1 sb.dn sb.1 sa.dn)
 have h6 := Za (Zdp a b)
 obtain ⟨W0, hW0, hB0, ⟨q0, q1, q2⟩, s0⟩ := Zdu w 45 #[.bool na, .slice A n c, .bool nb, .slice B m d] 45 #[.bool na', .slice A' n' c', .bool nb', .slice B' m' d'] 45 #[.bool false, .slice none 0 0, .bool false, .slice none 0 0]
 have hA := Za (ha.below hB0)
 have hD := Za (hb.below hB0)
 clear ha hb sa sb
 generalize hX : a.num * ((b.den : Nat) : Int) = X at *
 generalize hY : b.num * ((a.den : Nat) : Int) = Y at *
 generalize hZ : ((a.den : Nat) : Int) * ((b.den : Nat) : Int) = Z at *
 replace hX := Za hX
 replace hY := Za hY
 replace hZ := Za hZ
 obtain ⟨a0, a1, a2, a3, -⟩ := q0.four
 obtain ⟨b0, b1, b2, b3, -⟩ := q1.four
 have hq := Za (And.intro q0 (And.intro q1 q2))
 clear q0 q1 q2
 go_enter Tryz.func88, Tryz.ntmps88
 go_wp2_with fail
 have hM := Zh4 na nb' A B' n c m' d' a.num b.den W0 hA.out.1 hD.out.2
 rw [hX.out] at hM
 refine hM.mono ?_
 clear hM
 rintro e w1 ⟨hb1, n1, P1, k1, c1, code, rfl, hR⟩
 have hP1 := Za (hR.small h1.out)
 have hcode := hR.code0 h1.out
 subst hcode
 have hC1 : Below w.heap.size w w1 := hB0.trans (hb1.mono hB0.size)
 have s1 : W0.heap.size <= w1.heap.size := hb1.size
 replace hA := Za (hA.out.below hb1)
 replace hD := Za (hD.out.below hb1)
 obtain ⟨q0, q1, q2⟩ := hq.out
 replace q0 := Zc hb1 q0
 replace q1 := Zc hb1 q1
 replace q2 := Zc hb1 q2
 clear hW0 hb1 a0 a1 a2 a3 b0 b1 b2 b3 hq hR h1 hB0 hX
 obtain ⟨W1, hW1, hB1, r1, kW, kB, t1⟩ := Zn 43 #[.bool n1, .slice P1 k1 c1] hC1 hC1.size
 replace q0 := kB _ _ _ q0
 replace q1 := kB _ _ _ q1
 replace q2 := kB _ _ _ q2
 replace hA := Za (hA.out.keep kW)
 replace hD := Za (hD.out.keep kW)
 replace hP1 := Za (kW _ _ _ _ _ hP1.out)
 clear kW kB hC1
 obtain ⟨a0, a1, a2, a3, -⟩ := q0.four
 obtain ⟨b0, b1, b2, b3, -⟩ := q1.four
 have hq := Za (And.intro q0 (And.intro q1 (And.intro q2 r1)))
 clear q0 q1 q2 r1
 go_wp2_with fail
 have hM := Zh4 na' nb A' B n' c' m d b.num a.den W1 hD.out.1 hA.out.2
 rw [hY.out] at hM
 refine hM.mono ?_
 clear hM
 rintro e w2 ⟨hb2, n2, P2, k2, c2, code, rfl, hR⟩
 have hP2 := Za (hR.small h2.out)
 have hcode := hR.code0 h2.out
 subst hcode
 have hC2 : Below w.heap.size w w2 := hB1.trans (hb2.mono hB1.size)
 have s2 : W1.heap.size <= w2.heap.size := hb2.size
 replace hA := Za (hA.out.below hb2)
 replace hD := Za (hD.out.below hb2)
 obtain ⟨q0, q1, q2, r1⟩ := hq.out
 replace q0 := Zc hb2 q0
 replace q1 := Zc hb2 q1
 replace q2 := Zc hb2 q2
 replace r1 := Zc hb2 r1
 replace hP1 := Za (hP1.out.below hb2)
 clear hW1 hb2 a0 a1 a2 a3 b0 b1 b2 b3 hq hR h2 hB1 hY
 obtain ⟨W2, hW2, hB2, r2, kW, kB, t2⟩ := Zn 43 #[.bool n2, .slice P2 k2 c2] hC2 hC2.size
 replace q0 := kB _ _ _ q0
 replace q1 := kB _ _ _ q1
 replace q2 := kB _ _ _ q2
 replace r1 := kB _ _ _ r1
 replace hA := Za (hA.out.keep kW)
 replace hD := Za (hD.out.keep kW)
 replace hP1 := Za (kW _ _ _ _ _ hP1.out)
 replace hP2 := Za (kW _ _ _ _ _ hP2.out)
 clear kW kB hC2
 obtain ⟨a0, a1, a2, a3, -⟩ := q0.four
 obtain ⟨b0, b1, b2, b3, -⟩ := q1.four
 have hq := Za (And.intro q0 (And.intro q1 (And.intro q2 (And.intro r1 r2))))
 clear q0 q1 q2 r1 r2
 go_wp2_with fail
 have hM := Zh4 nb nb' B B' m d m' d' a.den b.den W2 hA.out.2 hD.out.2
 rw [hZ.out] at hM
 refine hM.mono ?_
 clear hM
 rintro e w3 ⟨hb3, n3, P3, k3, c3, code, rfl, hR⟩
 have hP3 := Za (hR.small h3.out)
 have hcode := hR.code0 h3.out
 subst hcode
 have hC3 : Below w.heap.size w w3 := hB2.trans (hb3.mono hB2.size)
 have s3 : W2.heap.size <= w3.heap.size := hb3.size
 replace hA := Za (hA.out.below hb3)
 replace hD := Za (hD.out.below hb3)
 obtain ⟨q0, q1, q2, r1, r2⟩ := hq.out
 replace q0 := Zc hb3 q0
 replace q1 := Zc hb3 q1
 replace q2 := Zc hb3 q2
 replace r1 := Zc hb3 r1
 replace r2 := Zc hb3 r2
 replace hP1 := Za (hP1.out.below hb3)
 replace hP2 := Za (hP2.out.below hb3)
 clear hW2 hb3 a0 a1 a2 a3 b0 b1 b2 b3 hq hR h3 hB2 hZ
 have hn : n3 = false := by rw [hP3.out.1]; have := h6.out; simp; omega
 subst hn
 obtain ⟨W3, hW3, hB3, r3, kW, kB, t3⟩ := Zn 43 #[.bool false, .slice P3 k3 c3] hC3 hC3.size
 replace q0 := kB _ _ _ q0
 replace q1 := kB _ _ _ q1
 replace q2 := kB _ _ _ q2
 replace r1 := kB _ _ _ r1
 replace r2 := kB _ _ _ r2
 replace hA := Za (hA.out.keep kW)
 replace hD := Za (hD.out.keep kW)
 replace hP1 := Za (kW _ _ _ _ _ hP1.out)
 replace hP2 := Za (kW _ _ _ _ _ hP2.out)
 replace hP3 := Za (kW _ _ _ _ _ hP3.out)
 clear kW kB hC3
 obtain ⟨a0, a1, a2, a3, -⟩ := q0.four
 obtain ⟨b0, b1, b2, b3, -⟩ := q1.four
 clear a0 a1 a2 a3 b0 b1 b2 b3 hA hD q0 q1
 obtain ⟨x0, x1, -⟩ := r1.two
 obtain ⟨y0, y1, -⟩ := r2.two
 have hq := Za (And.intro q2 (And.intro r1 (And.intro r2 r3)))
 clear q2 r1 r2 r3
 go_wp2_with fail
 refine (rAdd_ok n1 n2 P1 P2 k1 c1 k2 c2 X Y W3 hP1.out hP2.out).mono ?_
 rintro e w4 ⟨hb4, n4, P4, k4, c4, code, rfl, hR⟩
 have hP4 := Za (hR.small h4.out)
 have hcode := hR.code0 h4.out
 subst hcode
 have hC4 : Below w.heap.size w w4 := hB3.trans (hb4.mono hB3.size)
 have s4 : W3.heap.size <= w4.heap.size := hb4.size
 obtain ⟨q2, r1, r2, r3⟩ := hq.out
 replace q2 := Zc hb4 q2
 replace r1 := Zc hb4 r1
 replace r2 := Zc hb4 r2
 replace r3 := Zc hb4 r3
 replace hP1 := Za (hP1.out.below hb4)
 replace hP2 := Za (hP2.out.below hb4)
 replace hP3 := Za (hP3.out.below hb4)
 clear hW3 hb4 x0 x1 y0 y1 hq hR h4 hB3
 obtain ⟨W4, hW4, hB4, r4, kW, kB, t4⟩ := Zn 43 #[.bool n4, .slice P4 k4 c4] hC4 hC4.size
 replace q2 := kB _ _ _ q2
 replace r1 := kB _ _ _ r1
 replace r2 := kB _ _ _ r2
 replace r3 := kB _ _ _ r3
 replace hP1 := Za (kW _ _ _ _ _ hP1.out)
 replace hP2 := Za (kW _ _ _ _ _ hP2.out)
 replace hP3 := Za (kW _ _ _ _ _ hP3.out)
 replace hP4 := Za (kW _ _ _ _ _ hP4.out)
 clear kW kB hC4
 obtain ⟨x0, x1, -⟩ := r1.two
 obtain ⟨y0, y1, -⟩ := r2.two
 have hq := Za (And.intro q2 (And.intro r3 r4))
 clear q2 r1 r2 r3 r4 hP4
 go_wp2_with fail
 refine (rSub_ok n1 n2 P1 P2 k1 c1 k2 c2 X Y W4 hP1.out hP2.out).mono ?_
 rintro e w5 ⟨hb5, n5, P5, k5, c5, code, rfl, hR⟩
 have hP5 := Za (hR.small h5.out)
 have hcode := hR.code0 h5.out
 subst hcode
 have hC5 : Below w.heap.size w w5 := hB4.trans (hb5.mono hB4.size)
 have s5 : W4.heap.size <= w5.heap.size := hb5.size
 obtain ⟨q2, r3, r4⟩ := hq.out
 replace q2 := Zc hb5 q2
 replace r3 := Zc hb5 r3
 replace r4 := Zc hb5 r4
 replace hP3 := Za (hP3.out.below hb5)
 clear hW4 hb5 x0 x1 y0 y1 hq hR h5 hB4 hP1 hP2
 obtain ⟨WS, hWS, hBS, r5, kW, kB, tS⟩ := Zas n5 P5 k5 c5 hC5 (by have := hC5.size; omega) r4
 obtain ⟨-, -, f0, f1⟩ := r4.two
 obtain ⟨v0, v1, -⟩ := r4.two
 have q2' := kB _ _ _ (by omega) q2
 have r3' := kB _ _ _ (by omega) r3
 have hP3' := Za (kW _ _ _ _ _ hP3.out)
 have hP5' := Za (kW _ _ _ _ _ hP5.out)
 clear kW kB q2 r3 r4 hP3 hP5 hC5
 obtain ⟨x0, x1, -⟩ := r5.two
 obtain ⟨y0, y1, -⟩ := r3'.two
 have hq := Za q2'
 clear q2' r5 r3'
 go_wp2_with fail
 refine (Zif n5 P5 P3 k5 c5 k3 c3 _ _ WS hP5'.out hP3'.out h6.out).mono ?_
 rintro e w6 ⟨hb6, nx, Ax, kx, cx, ny, Ay, ky, cy, rfl, hF⟩
 have hB6 : Below w.heap.size w w6 := hBS.trans (hb6.mono hBS.size)
 have s6 : WS.heap.size <= w6.heap.size := hb6.size
 replace hq := Za (Zc hb6 hq.out)
 replace hF := Za hF
 clear x0 x1 y0 y1 hb6
 obtain ⟨c20, c21, c22, c23, f20, f21, f22, f23⟩ := hq.out.four
 go_wp2_with fail
 obtain ⟨W7, hW7, hB7, q2, kW, -, s7⟩ := Zx nx Ax kx cx ny Ay ky cy hB6 (by omega) hq.out
 rw [hW7]
 obtain ⟨r0, r1, r2, r3, -⟩ := q2.four
 refine bodyPost_ret (v := .tuple #[.agg #[.bool nx, .slice Ax kx cx, .bool ny, .slice Ay ky cy], .int .i64 0]) (by simp [results, Tryz.results88, go_sem, r0, r1, r2, r3]) rfl ?_
 exact ⟨hB7, _, _, _, _, _, _, _, _, rfl, kW _ _ _ _ _ hF.out.1, kW _ _ _ _ _ hF.out.2⟩
end Go.Proofs.YtigdclhagmnopaaGreat
