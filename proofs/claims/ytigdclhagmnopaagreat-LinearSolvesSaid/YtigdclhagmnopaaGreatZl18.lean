/- Package wide: Mul. Package wide: Sub. Package frac: Of, -/
import Derived.Test.YtigdclhagmnopaaGreatZl17
set_option maxRecDepth 100000
set_option maxHeartbeats 1000000
set_option linter.unusedSimpArgs false
set_option linter.unusedVariables false
namespace Go.Proofs.YtigdclhagmnopaaGreat
open Go.RowKit
attribute [local go_sem] Zi
theorem Ziy (na nb : Bool) (A B : Option Addr) (n c m d : Nat) (za zb : Int) (w : World) (ha : Wd w na A n c za) (hb : Wd w nb B m d zb) :
    Calls Tryz.prog 122 #[.agg #[.bool na, .slice A n c], .agg #[.bool nb, .slice B m d]] w (ResW w (za * zb)) := by
 have hLa := ha.lim
 have hLb := hb.lim
 have hn := ha.2.1
 have hm := hb.2.1
 have hB0 : ∀ X Y Z V : Obj, Below w.heap.size w ((((w.alloc X).alloc Y).alloc Z).alloc V) := fun X Y Z V => ((((Below.refl w.heap.size w).alloc (Nat.le_refl _) _).alloc (by simp) _).alloc (by simp; omega) _).alloc (by simp; omega) _
 have hW : ∀ X Y Z t, WL ((((w.alloc X).alloc Y).alloc Z).alloc (.cells #[.bool na, .slice A n c, .bool nb, .slice B m d] t)) (some ⟨w.heap.size + 1 + 1 + 1, 0, none⟩) 2 2 [⟨na, A, n, c, digits za.natAbs⟩, ⟨nb, B, m, d, digits zb.natAbs⟩] := fun X Y Z t => by
  have := WL.two (neg := na) (neg' := nb) (((hLa.alloc X).alloc Y).alloc Z) (((hLb.alloc X).alloc Y).alloc Z) t
  simp only [World.size_alloc] at this; exact this
 have hW := Za hW
 have hB0 := Za hB0
 have hgood : Hid (okW na (digits za.natAbs) = true /\ okW nb (digits zb.natAbs) = true) := ⟨ha.ok, hb.ok⟩
 have hza := Za ha.sgEq
 have hzb := Za hb.sgEq
 clear ha hb
 go_enter Tryz.func122, Tryz.ntmps122
 go_wp2_with fail
 refine (Zdq (hW.out _ _ _ _) (by have := hgood.out; simp [WE.ok, this])).mono ?_
 rintro e w1 ⟨rfl, hb1⟩
 obtain ⟨hc1, hf1⟩ := Zcd hb1
 have hz1 : w.heap.size + 1 + 1 + 1 < w1.heap.size := by have := hb1.size; simp at this; omega
 have hB1 : Below w.heap.size w w1 := (hB0.out _ _ _ _).trans (hb1.mono (by simp; omega))
 have g0 : w1.cell? ⟨w.heap.size, 0, none⟩ = some (.bool na) := by simp [hc1, go_sem]
 have g1 : w1.cell? ⟨w.heap.size, 1, none⟩ = some (.slice A n c) := by simp [hc1, go_sem]
 have g2 : w1.cell? ⟨w.heap.size + 1, 0, none⟩ = some (.bool nb) := by simp [hc1, go_sem]
 have g3 : w1.cell? ⟨w.heap.size + 1, 1, none⟩ = some (.slice B m d) := by simp [hc1, go_sem]
 have gf : w1.frozen? ⟨w.heap.size + 1, 0, none⟩ = false := by simp [hf1, go_sem]
 have gB : Blk w1 (w.heap.size + 1) 43 #[.bool nb, .slice B m d] := by
  refine Zc hb1 ((Blk.alloc (Blk.alloc ?_ _) _))
  have := Blk.new (w.alloc (.cells #[.bool na, .slice A n c] 43)) 43 #[.bool nb, .slice B m d]
  simp only [World.size_alloc] at this; exact this
 have g7 : Blk w1 (w.heap.size + 1 + 1) 43 #[.bool false, .slice none 0 0] := by
  refine Zc hb1 (Blk.alloc ?_ _)
  have := Blk.new ((w.alloc (.cells #[.bool na, .slice A n c] 43)).alloc (.cells #[.bool nb, .slice B m d] 43)) 43 #[.bool false, .slice none 0 0]
  simp only [World.size_alloc] at this; exact this
 have hLa1 := hLa.below hB1
 have hLb1 := hLb.below hB1
 have HB := Za gB
 clear gB hc1 hf1
 have g5 := g7.cell 0
 have g6 := g7.cell 1
 have g8 := g7.frozen 0
 have g9 := g7.frozen 1
 simp at g5 g6
 go_wp2_with fail
 go_region_held3 (fun w' => w'.cell? ⟨w.heap.size, 0, none⟩ = some (.bool na) /\ w'.cell? ⟨w.heap.size, 1, none⟩ = some (.slice A n c) /\ w'.cell? ⟨w.heap.size + 1, 0, none⟩ = some (.bool nb) /\ w'.cell? ⟨w.heap.size + 1, 1, none⟩ = some (.slice B m d))
  (((try dsimp only); (repeat' apply And.intro); all_goals (first | go_keep | (simp [*, go_sem]; done))))
  (first
   | (go_at_call 157; refine (Zr1 _ _ _ _ _ _ _ _ _ (by exact hLa1) (by exact hLb1) (by omega) (by omega)).mono ?_; rintro e w2 ⟨A2, n2, c2, l2, rfl, hL2, hP2, hb2⟩; have k0 := Zb hb2 g0; have k1 := Zb hb2 g1; have j0 := Zb hb2 g2; have k2 := Zb hb2 g3; have k3 := Zb hb2 g5; have k4 := Zb hb2 g6; have k5 := Zh hb2 g5 g8; have k6 := Zh hb2 g6 g9; have k7 := Zc hb2 g7)
   | (go_at_call 141; refine (Zbs _ _ _ _ _ _ (by exact hL2)).mono ?_; rintro e w3 ⟨hb3, neg3, A3, n3, c3, code3, rfl, hR3⟩; have m0 := Zb hb3 k0; have m1 := Zb hb3 k1; have i0 := Zb hb3 j0; have m2 := Zb hb3 k2; have m3 := Zb hb3 k3; have m4 := Zb hb3 k4; have m5 := Zh hb3 k3 k5; have m6 := Zh hb3 k4 k6; have m7 := Zc hb3 k7))
 have hB3 : Below w.heap.size w w3 := (hB1.trans ((Zq hb2).mono hB1.size)).trans (hb3.mono (Nat.le_trans hB1.size (Zq hb2).size))
 go_wp2
 have HZ : sg (na != nb) (val l2) = za * zb := by
  have h1 := hza.out; have h2 := hzb.out; rw [hP2.2, Zsm, h1, h2]
 refine bodyPost_ret (v := .tuple #[.agg #[.bool neg3, .slice A3 n3 c3], .int .i64 code3]) (by simp [results, Tryz.results122, go_sem, m3, m4]) rfl ?_
 exact ResW.box (HZ ▸ hR3) hB3 (by omega) m7
theorem Ztc (na nb : Bool) (A B : Option Addr) (n c m d : Nat) (za zb : Int) (w : World) (ha : Wd w na A n c za) (hb : Wd w nb B m d zb) :
    Calls Tryz.prog 124 #[.agg #[.bool na, .slice A n c], .agg #[.bool nb, .slice B m d]] w (ResW w (za - zb)) := by
 have hLa := ha.lim
 have hLb := hb.lim
 have hn := ha.2.1
 have hm := hb.2.1
 have hB0 : ∀ X Y Z V : Obj, Below w.heap.size w ((((w.alloc X).alloc Y).alloc Z).alloc V) := fun X Y Z V => ((((Below.refl w.heap.size w).alloc (Nat.le_refl _) _).alloc (by simp) _).alloc (by simp; omega) _).alloc (by simp; omega) _
 have hW : ∀ X Y Z t, WL ((((w.alloc X).alloc Y).alloc Z).alloc (.cells #[.bool na, .slice A n c, .bool nb, .slice B m d] t)) (some ⟨w.heap.size + 1 + 1 + 1, 0, none⟩) 2 2 [⟨na, A, n, c, digits za.natAbs⟩, ⟨nb, B, m, d, digits zb.natAbs⟩] := fun X Y Z t => by
  have := WL.two (neg := na) (neg' := nb) (((hLa.alloc X).alloc Y).alloc Z) (((hLb.alloc X).alloc Y).alloc Z) t
  simp only [World.size_alloc] at this; exact this
 have hW := Za hW
 have hB0 := Za hB0
 have hgood : Hid (okW na (digits za.natAbs) = true /\ okW nb (digits zb.natAbs) = true) := ⟨ha.ok, hb.ok⟩
 have hza := Za ha.sgEq
 have hzb := Za hb.sgEq
 clear ha hb
 go_enter Tryz.func124, Tryz.ntmps124
 go_wp2_with fail
 refine (Zdq (hW.out _ _ _ _) (by have := hgood.out; simp [WE.ok, this])).mono ?_
 rintro e w1 ⟨rfl, hb1⟩
 obtain ⟨hc1, hf1⟩ := Zcd hb1
 have hz1 : w.heap.size + 1 + 1 + 1 < w1.heap.size := by have := hb1.size; simp at this; omega
 have hB1 : Below w.heap.size w w1 := (hB0.out _ _ _ _).trans (hb1.mono (by simp; omega))
 have g0 : w1.cell? ⟨w.heap.size, 0, none⟩ = some (.bool na) := by simp [hc1, go_sem]
 have g1 : w1.cell? ⟨w.heap.size, 1, none⟩ = some (.slice A n c) := by simp [hc1, go_sem]
 have g2 : w1.cell? ⟨w.heap.size + 1, 0, none⟩ = some (.bool nb) := by simp [hc1, go_sem]
 have g3 : w1.cell? ⟨w.heap.size + 1, 1, none⟩ = some (.slice B m d) := by simp [hc1, go_sem]
 have gf : w1.frozen? ⟨w.heap.size + 1, 0, none⟩ = false := by simp [hf1, go_sem]
 have gB : Blk w1 (w.heap.size + 1) 43 #[.bool nb, .slice B m d] := by
  refine Zc hb1 ((Blk.alloc (Blk.alloc ?_ _) _))
  have := Blk.new (w.alloc (.cells #[.bool na, .slice A n c] 43)) 43 #[.bool nb, .slice B m d]
  simp only [World.size_alloc] at this; exact this
 have g7 : Blk w1 (w.heap.size + 1 + 1) 43 #[.bool false, .slice none 0 0] := by
  refine Zc hb1 (Blk.alloc ?_ _)
  have := Blk.new ((w.alloc (.cells #[.bool na, .slice A n c] 43)).alloc (.cells #[.bool nb, .slice B m d] 43)) 43 #[.bool false, .slice none 0 0]
  simp only [World.size_alloc] at this; exact this
 have hLa1 := hLa.below hB1
 have hLb1 := hLb.below hB1
 have HB := Za gB
 clear gB hc1 hf1
 have hB1S : w.heap.size <= (w1.setCell ⟨w.heap.size + 1, 0, none⟩ (.bool (!nb))).heap.size := by simp; omega
 go_wp2_with fail
 refine (add_any _ _ _ _ _ _ _ _ _ _ _ (by exact hLa1.set_box HB.out (NoLimb.box _ _ _ _) _ _) (by exact hLb1.set_box HB.out (NoLimb.box _ _ _ _) _ _) hn hm).mono ?_
 rintro e w2 ⟨hb2, neg2, A2, n2, c2, code2, rfl, hR2⟩
 have hB2 : Below w.heap.size w w2 := (hB1.setCell (p := ⟨w.heap.size + 1, 0, none⟩) (by simp) _).trans (hb2.mono hB1S)
 have m7 := Zc hb2 (g7.far (by simp) _)
 have m3 := m7.cell 0
 have m4 := m7.cell 1
 have m5 := m7.frozen 0
 have m6 := m7.frozen 1
 simp at m3 m4
 have HM := Za m7
 clear m7
 go_wp2_with fail
 have HZ : sg na za.natAbs + sg (!nb) zb.natAbs = za - zb := by
  have h1 := hza.out; have h2 := hzb.out; rw [Zg] at h1 h2; rw [Zpm, h1, h2]; omega
 refine bodyPost_ret (v := .tuple #[.agg #[.bool neg2, .slice A2 n2 c2], .int .i64 code2]) (by simp [results, Tryz.results124, go_sem, m3, m4]) rfl ?_
 exact ResW.box (HZ ▸ hR2) hB2 (by omega) HM.out
theorem Za8 (w : World) (t0 : TypeId) (c0 : Array Value) :
    ∃ W, w.alloc (.cells c0 t0) = W /\ Below w.heap.size w W /\ Blk W w.heap.size t0 c0 /\ W.heap.size = w.heap.size + 1 :=
 ⟨_, rfl, (Below.refl w.heap.size w).alloc (Nat.le_refl _) _, Blk.new _ _ _, by simp⟩
theorem Zso (x y : Int) (w : World) (hx1 : -9223372036854775808 <= x) (hx2 : x <= 9223372036854775807) (h0 : 0 < y) (hy : y <= 9223372036854775807) :
    Calls Tryz.prog 65 #[.int .i64 x, .int .i64 y] w (Ze0 w (Rat.divInt x y)) := by
 obtain ⟨W0, hW0, hB0, hq, s0⟩ := Za8 w 45 #[.bool false, .slice none 0 0, .bool false, .slice none 0 0]
 replace hW0 := Za hW0
 replace hq := Za hq
 go_enter Tryz.func65, Tryz.ntmps65
 go_wp2_with fail
 rw [hW0.out]
 clear hW0
 refine (Zbx x W0 hx1 hx2).mono ?_
 rintro e w1 ⟨hb1, na, A, n, c, rfl, hA⟩
 have hB1 : Below w.heap.size w w1 := hB0.trans (hb1.mono (by omega))
 have s1 : W0.heap.size <= w1.heap.size := hb1.size
 replace hq := Za (Zc hb1 hq.out)
 replace hA := Za hA
 clear hb1 hB0
 go_wp2_with fail
 refine (Zbx y w1 (by omega) hy).mono ?_
 rintro e w2 ⟨hb2, nb, B, m, d, rfl, hB⟩
 have hB2 : Below w.heap.size w w2 := hB1.trans (hb2.mono (by omega))
 have s2 : w1.heap.size <= w2.heap.size := hb2.size
 replace hq := Za (Zc hb2 hq.out)
 replace hA := Za (hA.out.below hb2)
 have hn : nb = false := by rw [hB.1]; simp; omega
 subst hn
 replace hB := Za hB
 clear hb2 hB1
 go_wp2_with fail
 refine (Zdn na A B n c m d x y w2 hA.out hB.out h0).mono ?_
 rintro e w3 ⟨hb3, nx, Ax, kx, cx, ny, Ay, ky, cy, rfl, hF⟩
 have hB3 : Below w.heap.size w w3 := hB2.trans (hb3.mono (by omega))
 have s3 : w2.heap.size <= w3.heap.size := hb3.size
 replace hq := Za (Zc hb3 hq.out)
 obtain ⟨c20, c21, c22, c23, f20, f21, f22, f23⟩ := hq.out.four
 clear hb3 hB2
 replace hF := Za hF
 go_wp2_with fail
 obtain ⟨W5, hW5, hB5, q2, kW, -, s5⟩ := Zx nx Ax kx cx ny Ay ky cy hB3 (by omega) hq.out
 rw [hW5]
 obtain ⟨r0, r1, r2, r3, -⟩ := q2.four
 refine bodyPost_ret (v := .tuple #[.agg #[.bool nx, .slice Ax kx cx, .bool ny, .slice Ay ky cy], .int .i64 0]) (by simp [results, Tryz.results65, go_sem, r0, r1, r2, r3]) rfl ?_
 exact ⟨hB5, _, _, _, _, _, _, _, _, rfl, kW _ _ _ _ _ hF.out.1, kW _ _ _ _ _ hF.out.2⟩
theorem Zkm (na nb na' nb' : Bool) (A B A' B' : Option Addr) (n c m d n' c' m' d' : Nat) (a b : Rat) (w : World) (ha : Fr w na A n c nb B m d a) (hb : Fr w na' A' n' c' nb' B' m' d' b) (hs : (a.num * b.den).natAbs < pw 4096) :
    Calls Tryz.prog 106 #[.agg #[.bool na, .slice A n c, .bool nb, .slice B m d], .agg #[.bool na', .slice A' n' c', .bool nb', .slice B' m' d']] w (NumW w (a.num * b.den)) := by
 obtain ⟨W0, hW0, hB0, ⟨q0, q1, q2⟩, s0⟩ := Zdu w 45 #[.bool na, .slice A n c, .bool nb, .slice B m d] 45 #[.bool na', .slice A' n' c', .bool nb', .slice B' m' d'] 43 #[.bool false, .slice none 0 0]
 have hA := Za (ha.1.below hB0)
 have hD := Za (hb.2.below hB0)
 replace hs := Za hs
 clear ha hb
 obtain ⟨c00, c01, -⟩ := q0.four
 obtain ⟨-, -, c12, c13, -⟩ := q1.four
 rw [<- hW0] at c00 c01 c12 c13
 replace hW0 := Za hW0
 go_enter Tryz.func106, Tryz.ntmps106
 go_wp2_with fail
 rw [hW0.out]
 clear hW0 c00 c01 c12 c13
 refine (Ziy na nb' A B' n c m' d' a.num b.den W0 hA.out hD.out).mono ?_
 rintro e w1 ⟨hb1, np, P, k, q, code, rfl, hR⟩
 rcases hR with ⟨-, rfl, hP⟩ | ⟨hbig, -⟩
 case inr => exact absurd hbig (by have := hs.out; omega)
 have hB1 : Below w.heap.size w w1 := hB0.trans (hb1.mono (by omega))
 have s1 : W0.heap.size <= w1.heap.size := hb1.size
 replace q2 := Zc hb1 q2
 clear hb1 hB0 q0 q1
 replace q2 := Za q2
 replace hP := Za hP
 go_wp2_with fail
 refine (Zdz np P k q w1).mono ?_
 rintro e w2 ⟨rfl, hb2⟩
 have hB2 : Below w.heap.size w w2 := hB1.trans (hb2.mono (by omega))
 have s2 : w1.heap.size <= w2.heap.size := hb2.size
 replace q2 := Zc hb2 q2.out
 replace hP := hP.out.below hb2
 obtain ⟨c0, c1, f0, f1⟩ := q2.two
 replace q2 := Za q2
 replace hP := Za hP
 go_wp2_with fail
 obtain ⟨W5, hW5, hB5, q3, kW, -, s5⟩ := Zas np P k q hB2 (by omega) q2.out
 rw [hW5]
 obtain ⟨r0, r1, -⟩ := q3.two
 refine bodyPost_ret (v := .agg #[.bool np, .slice P k q]) (by simp [results, Tryz.results106, go_sem, r0, r1]) rfl ?_
 exact ⟨hB5, _, _, _, _, rfl, kW _ _ _ _ _ hP.out⟩
theorem Zgv (x : Int) (w : World) (hx1 : -9223372036854775808 <= x) (hx2 : x <= 9223372036854775807) :
    Calls Tryz.prog 90 #[.int .i64 x] w (Zik w (x : Rat)) := by
 obtain ⟨W0, hW0, hB0, hq, s0⟩ := Za8 w 45 #[.bool false, .slice none 0 0, .bool false, .slice none 0 0]
 replace hq := Za hq
 go_enter Tryz.func90, Tryz.ntmps90
 go_wp2_with fail
 refine (Zez x W0 hx1 hx2).mono ?_
 rintro e w1 ⟨hb1, na, A, n, c, rfl, hA⟩
 have hB1 : Below w.heap.size w w1 := hB0.trans (hb1.mono (by omega))
 have s1 : W0.heap.size <= w1.heap.size := hb1.size
 replace hq := Za (Zc hb1 hq.out)
 replace hA := Za hA
 clear hb1 hB0 hW0
 go_wp2_with fail
 refine (Zez 1 w1 (by omega) (by omega)).mono ?_
 rintro e w2 ⟨hb2, nb, B, m, d, rfl, hB⟩
 have hB2 : Below w.heap.size w w2 := hB1.trans (hb2.mono (by omega))
 have s2 : w1.heap.size <= w2.heap.size := hb2.size
 replace hq := Za (Zc hb2 hq.out)
 replace hA := Za (hA.out.below hb2)
 replace hB := Za hB
 clear hb2 hB1
 obtain ⟨c20, c21, c22, c23, f20, f21, f22, f23⟩ := hq.out.four
 go_wp2_with fail
 obtain ⟨W5, hW5, hB5, q2, kW, -, s5⟩ := Zx na A n c nb B m d hB2 (by omega) hq.out
 rw [hW5]
 obtain ⟨r0, r1, r2, r3, -⟩ := q2.four
 refine bodyPost_ret (v := .agg #[.bool na, .slice A n c, .bool nb, .slice B m d]) (by simp [results, Tryz.results90, go_sem, r0, r1, r2, r3]) rfl ?_
 exact ⟨hB5, _, _, _, _, _, _, _, _, rfl, kW _ _ _ _ _ hA.out, kW _ _ _ _ _ hB.out⟩
theorem OnlyNormal.imp {Q : Exit -> Act -> World -> Prop} (e : Exit) (a : Act) (w : World) (h : OnlyNormal Q e a w) : Q e a w := by
 cases e <;> first | exact h | exact (h : False).elim
theorem Zak {P : Program} {id : Nat} {ops : Array Oper} {Q : Exit -> Act -> World -> Prop} {a : Act} {w : World} (L : List Nat) (S : World -> Prop) (hm : P.follows .mixedOrders = true)
    (hS : S w.drew) (h : S w.drew -> Zac P .any ops (OnlyNormal Q) L S ops.size (Array.replicate ops.size false) a w.drew) : (Code.region id ops true).wp P Q a w :=
 Code.wp_mono OnlyNormal.imp (wp_region_any hm (Zhu _ _ _ _ (h hS)))
theorem wp_heldS {P : Program} {id : Nat} {ops : Array Oper} {Q : Exit -> Act -> World -> Prop} {a : Act} {w w0 : World} {B : Nat} {S : World -> Prop} (L : List Nat) (hm : P.follows .mixedOrders = true)
    (hv : Hid (∀ wx, Below B w0 wx -> S wx)) (hb : Below B w0 w.drew) (h : S w.drew -> Zac P .any ops (OnlyNormal Q) L S ops.size (Array.replicate ops.size false) a w.drew) : (Code.region id ops true).wp P Q a w := Zak L S hm (hv.out _ hb) h
theorem Zrr {l n : Nat} {P : Program} {id : Nat} {ops : Array Oper} {Q : Exit -> Act -> World -> Prop} {a : Act} {w w0 : World} {B : Nat} {S : World -> Prop} (L : List Nat) (hm : P.follows .mixedOrders = true) (hnd : Ziq ops = true)
    (hv : Hid (∀ wx, Below B w0 wx -> S wx)) (hb : Below B w0 w.drew) (h : S w.drew -> Zac P .any ops (OnlyNormal Q) L S ops.size (Array.replicate ops.size false) a w.drew) : (Code.region id ops true).wpIn (Fence.wide.inRound l) n P Q a w := Zax L S hm hnd (hv.out _ hb) h
theorem Zkg (na nb : Bool) (A B : Option Addr) (n c m d : Nat) (r : Rat) (w : World) (h : Fr w na A n c nb B m d r) :
    Calls Tryz.prog 35 #[.agg #[.bool na, .slice A n c, .bool nb, .slice B m d]] w fun e w' => e = .returned (.int .i64 0) /\ Below w.heap.size w w' := by
 have hn := h.neg
 subst hn
 have hmx : Tryz.prog.follows .mixedOrders = true := by kernel_rfl
 have hl := Zqw r
 have hm0 : 0 < m := by rw [<- h.2.lim.len]; exact length_digits_pos.2 (by have := hl.1; omega)
 have hm0' : ((m : Int) == 0) = false := by simp; omega
 have hm := h.2.2.1
 obtain ⟨W0, hW0, hB0, q0, s0⟩ := Za8 w 45 #[.bool na, .slice A n c, .bool false, .slice B m d]
 have hA := Za (h.below hB0)
 clear h
 obtain ⟨a0, a1, a2, a3, -⟩ := q0.four
 replace q0 := Za q0
 go_enter Tryz.func35, Tryz.ntmps35
 go_wp2_with fail
 refine (Zbo hA.out.1.lim hA.out.1.ok).mono ?_
 rintro e w1 ⟨rfl, hb1⟩
 have hB1 : Below w.heap.size w w1 := hB0.trans (hb1.mono hB0.size)
 replace hA := Za (hA.out.below hb1)
 replace q0 := Za (Zc hb1 q0.out)
 clear a0 a1 a2 a3 hb1 hB0 hW0
 obtain ⟨a0, a1, a2, a3, -⟩ := q0.out.four
 go_wp2_with fail
 refine (Zbo hA.out.2.lim hA.out.2.ok).mono ?_
 rintro e w2 ⟨rfl, hb2⟩
 have hB2 : Below w.heap.size w w2 := hB1.trans (hb2.mono hB1.size)
 replace hA := Za (hA.out.below hb2)
 replace q0 := Za (Zc hb2 q0.out)
 clear a0 a1 a2 a3 hb2 hB1
 obtain ⟨a0, a1, a2, a3, -⟩ := q0.out.four
 go_wp2_with fail
 refine (Zjl na false A B n c m d r.num r.den w2 hA.out.1 hA.out.2).mono ?_
 rw [hl.2]
 rintro e w3 ⟨hb3, ng, Ag, kg, cg, code, rfl, hR⟩
 have hG := Za (hR.small (Zb5 4096 |> fun h => by have : pw 0 < pw 4096 := Zek (by decide); rw [Zc7] at this; exact this))
 have hB3 : Below w.heap.size w w3 := hB2.trans (hb3.mono hB2.size)
 clear a0 a1 a2 a3 hb3 hB2 q0 hA hR
 obtain ⟨W4, hW4, hB4, q4, kW, kB, s4⟩ := Zn 43 #[.bool ng, .slice Ag kg cg] hB3 hB3.size
 replace hG := Za (kW _ _ _ _ _ hG.out)
 clear kW kB
 obtain ⟨g0, g1, -⟩ := q4.two
 replace q4 := Za q4
 go_wp2_with fail
 refine Zak [] (fun W' => W'.cell? ⟨w3.heap.size, 0, none⟩ = some (.bool ng) /\ W'.cell? ⟨w3.heap.size, 1, none⟩ = some (.slice Ag kg cg)) hmx ⟨g0, g1⟩ (fun _ => ?_)
 refine Zij 1 [0] rfl (by kernel_rfl) ⟨g0, g1⟩ ?_
 (refine tk1 (v := ?_) rfl (Or.inl ⟨by kernel_rfl, ?_⟩) ?_; rotate_left; (· intro W2 hSw; (try dsimp only at hSw); go_simp; try with_reducible rfl); try simp only [Act.put, Zfg, Zfj, Zfc, putG_a, putG_s, putG_z])
 refine tk0 ?_
 refine Ze (i := 1) rfl (by kernel_rfl) (fun K hK => ?_)
 go_simp
 refine (Zez 1 W4.drew (by omega) (by omega)).mono ?_
 rintro e w5 ⟨hb5, n1, A1, k1, c1, rfl, hO⟩
 replace hb5 := Zq hb5
 have hB5 : Below w.heap.size w w5 := hB4.trans (hb5.mono (by show w.heap.size <= W4.heap.size; have := hB3.size; omega))
 replace hG := Za (hG.out.below hb5)
 replace q4 := Za (Zc hb5 q4.out)
 clear g0 g1
 obtain ⟨g0, g1, -⟩ := q4.out.two
 refine hK.out _ _ (fun _ => ⟨g0, g1⟩) ?_
 clear hK K
 try simp only [Act.put, Zfg, Zfj, Zfc]
 refine Ze (i := 2) rfl (by kernel_rfl) (fun K hK => ?_)
 go_simp
 refine (Zgs ng n1 Ag A1 kg cg k1 c1 _ _ w5 hG.out.lim hO.lim).mono ?_
 have hsm : Zf7 ng n1 (digits (Int.natAbs ((1 : Nat) : Int))) (digits (Int.natAbs 1)) = true := by have h1 := hG.out.1; have h2 := hO.1; rw [h1, h2]; unfold Zf7; simp [Zep, Zh3]
 rw [hsm]
 rintro e w6 ⟨rfl, hb6⟩
 have hB6 : Below w.heap.size w w6 := hB5.trans (hb6.mono hB5.size)
 replace q4 := Za (Zc hb6 q4.out)
 clear g0 g1
 obtain ⟨g0, g1, -⟩ := q4.out.two
 refine hK.out _ _ (fun _ => ⟨g0, g1⟩) ?_
 clear hK K
 try simp only [Act.put, Zfg, Zfj, Zfc]
 refine Zij 1 [3] rfl (by kernel_rfl) ⟨g0, g1⟩ ?_
 (refine tk1 (v := ?_) rfl (Or.inl ⟨by kernel_rfl, ?_⟩) ?_; rotate_left; (· intro W2 hSw; (try dsimp only at hSw); go_simp; try with_reducible rfl); try simp only [Act.put, Zfg, Zfj, Zfc, putG_a, putG_s, putG_z])
 refine tk0 ?_
 refine Zk (by kernel_rfl) ?_ _
 refine OnlyNormal.normal ?_
 go_wp2_with fail
 go_ret
 exact ⟨rfl, hB6⟩
end Go.Proofs.YtigdclhagmnopaaGreat
