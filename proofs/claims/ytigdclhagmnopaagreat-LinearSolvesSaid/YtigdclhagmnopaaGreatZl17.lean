/- Reference of frac: Reduced. Package frac: reduce. Package -/
import Derived.Defers
import Derived.Recover
import Derived.Test.YtigdclhagmnopaaGreatZl16
set_option maxRecDepth 100000
set_option maxHeartbeats 1000000
set_option linter.unusedSimpArgs false
set_option linter.unusedVariables false
namespace Go.Proofs.YtigdclhagmnopaaGreat
open Go.RowKit
attribute [local go_sem] Zi
theorem Zif (na : Bool) (A B : Option Addr) (n c m d : Nat) (za zb : Int) (w : World) (ha : Wd w na A n c za) (hb : Wd w false B m d zb) (h0 : 0 < zb) :
    Calls Tryz.prog 136 #[.agg #[.bool na, .slice A n c], .agg #[.bool false, .slice B m d]] w (Zik w (Rat.divInt za zb)) := by
 have hgs := Zc3 ha.small hb.small
 have hx := Za (Zh9 (a := za) (b := zb) (by omega))
 have hy := Za (Zh6 (a := za) (b := zb) (by omega))
 have hG0 := Za (Zjo (a := za) (b := zb) (by omega))
 have hGE : Zeu za zb = (Nat.gcd za.natAbs zb.natAbs : Nat) := by unfold Zeu; rw [if_neg (by omega)]
 rw [hGE] at hx hy hG0
 have HA := Za ha
 have HB := Za hb
 obtain ⟨G, hG⟩ : ∃ G, Nat.gcd za.natAbs zb.natAbs = G := ⟨_, rfl⟩
 rw [hG] at hx hy hG0 hgs
 have HGc : Hid (∀ W : World, Wd W na A n c za -> Wd W false B m d zb -> Calls Tryz.prog 84 #[.agg #[.bool na, .slice A n c], .agg #[.bool false, .slice B m d]] W (ResW W (G : Int))) := fun W h1 h2 => by
  have := Zjl na false A B n c m d za zb W h1 h2
  rw [hG] at this; exact this
 generalize Rat.divInt za zb = R at *
 clear ha hb hG hGE
 have hB0 : ∀ X Y Z : Obj, Below w.heap.size w (((w.alloc X).alloc Y).alloc Z) := fun X Y Z => (((Below.refl w.heap.size w).alloc (Nat.le_refl _) _).alloc (by simp) _).alloc (by simp; omega) _
 have hB0 := Za hB0
 go_enter Tryz.func136, Tryz.ntmps136
 go_wp2_with fail
 have q0 : Blk (((w.alloc (.cells #[.bool na, .slice A n c] 43)).alloc (.cells #[.bool false, .slice B m d] 43)).alloc (.cells #[.bool false, .slice none 0 0, .bool false, .slice none 0 0] 45)) w.heap.size 43 #[.bool na, .slice A n c] := ((Blk.new _ _ _).alloc _).alloc _
 have q1 : Blk (((w.alloc (.cells #[.bool na, .slice A n c] 43)).alloc (.cells #[.bool false, .slice B m d] 43)).alloc (.cells #[.bool false, .slice none 0 0, .bool false, .slice none 0 0] 45)) (w.heap.size + 1) 43 #[.bool false, .slice B m d] := by
  have := (Blk.new (w.alloc (.cells #[.bool na, .slice A n c] 43)) 43 #[.bool false, .slice B m d]).alloc (.cells #[.bool false, .slice none 0 0, .bool false, .slice none 0 0] 45)
  simp only [World.size_alloc] at this; exact this
 have q2 : Blk (((w.alloc (.cells #[.bool na, .slice A n c] 43)).alloc (.cells #[.bool false, .slice B m d] 43)).alloc (.cells #[.bool false, .slice none 0 0, .bool false, .slice none 0 0] 45)) (w.heap.size + 1 + 1) 45 #[.bool false, .slice none 0 0, .bool false, .slice none 0 0] := by
  have := Blk.new ((w.alloc (.cells #[.bool na, .slice A n c] 43)).alloc (.cells #[.bool false, .slice B m d] 43)) 45 #[.bool false, .slice none 0 0, .bool false, .slice none 0 0]
  simp only [World.size_alloc] at this; exact this
 refine (HGc.out _ (((HA.out.alloc _).alloc _).alloc _) (((HB.out.alloc _).alloc _).alloc _)).mono ?_
 rintro e w1 ⟨hb1, ng, Ag, kg, cg, code, rfl, hR⟩
 rcases hR with ⟨-, rfl, hgw⟩ | ⟨hbig, -⟩
 case inr => exact absurd hbig (by omega)
 have hB1 : Below w.heap.size w w1 := (hB0.out _ _ _).trans (hb1.mono (by simp; omega))
 have HA1 := Za (HA.out.below hB1)
 have HB1 := Za (HB.out.below hB1)
 have s1 : w.heap.size + 1 + 1 < w1.heap.size := by have := hb1.size; simp at this; omega
 replace q0 := Zc hb1 q0
 replace q1 := Zc hb1 q1
 replace q2 := Zc hb1 q2
 have HG2 := Za hgw
 have s2 : w.heap.size + 1 + 1 < w1.heap.size := s1
 clear hb1 hgw
 obtain ⟨W3, hW3, hB3, q3, kW, kB, s3⟩ := Zn 43 #[.bool ng, .slice Ag kg cg] hB1 (by omega)
 replace q0 := kB _ _ _ q0
 replace q1 := kB _ _ _ q1
 replace q2 := kB _ _ _ q2
 have HA3 := Za (kW _ _ _ _ _ HA1.out)
 have HB3 := Za (kW _ _ _ _ _ HB1.out)
 have HG3 := Za (kW _ _ _ _ _ HG2.out)
 have s4 : w.heap.size + 1 + 1 < w1.heap.size := s2
 clear kW kB HA1 HB1 HG2 hB1
 have c0 := Za q0.two
 have c1 := Za q1.two
 have c3 := Za q3.two
 rw [<- hW3] at c0 c1 c3
 obtain ⟨c00, c01, -, -⟩ := c0.out
 obtain ⟨c10, c11, -, -⟩ := c1.out
 obtain ⟨c30, c31, -, -⟩ := c3.out
 have hq := Za (And.intro q0 (And.intro q1 (And.intro q2 q3)))
 clear q0 q1 q2 q3
 replace hW3 := Za hW3
 go_wp2_with fail
 rw [hW3.out]
 refine (Zfe na ng A Ag n c kg cg za G _ HA3.out HG3.out hG0.out).mono ?_
 rintro e w4 ⟨hb4, nx, Ax, kx, cx, nr, Ar, kr, cr, rfl, hwx, -⟩
 rw [hx.out] at hwx
 have hB4 : Below w.heap.size w w4 := hB3.trans (hb4.mono (by omega))
 have HB4 := Za (HB3.out.below hb4)
 have HG4 := Za (HG3.out.below hb4)
 have s5 : w1.heap.size + 1 <= w4.heap.size := by have := hb4.size; omega
 have q1 := Zc hb4 hq.out.2.1
 have q2 := Zc hb4 hq.out.2.2.1
 have q3 := Zc hb4 hq.out.2.2.2
 clear hb4 c0 c1 c3 c00 c01 c10 c11 c30 c31 hW3 HA3 HB3 HG3 hB3 hq
 obtain ⟨W5, hW5, hB5, q5, kW, kB, s6⟩ := Zn 43 #[.bool nx, .slice Ax kx cx] hB4 (by omega)
 replace q1 := kB _ _ _ q1
 replace q2 := kB _ _ _ q2
 replace q3 := kB _ _ _ q3
 have HB5 := Za (kW _ _ _ _ _ HB4.out)
 have HG5 := Za (kW _ _ _ _ _ HG4.out)
 have HX5 := Za (kW _ _ _ _ _ hwx)
 clear kW kB HB4 HG4 hwx hB4
 obtain ⟨W6, hW6, hB6, -, kW, kB, s7⟩ := Zn 43 #[.bool nr, .slice Ar kr cr] hB5 (by omega)
 replace q1 := kB _ _ _ q1
 replace q2 := kB _ _ _ q2
 replace q3 := kB _ _ _ q3
 replace q5 := kB _ _ _ q5
 have HB6 := Za (kW _ _ _ _ _ HB5.out)
 have HG6 := Za (kW _ _ _ _ _ HG5.out)
 have HX6 := Za (kW _ _ _ _ _ HX5.out)
 clear kW kB HB5 HG5 HX5 hB5
 have c1 := Za q1.two
 have c3 := Za q3.two
 rw [<- hW6, <- hW5] at c1 c3
 obtain ⟨c10, c11, -, -⟩ := c1.out
 obtain ⟨c30, c31, -, -⟩ := c3.out
 have hq := Za (And.intro q2 q5)
 clear q1 q2 q3 q5
 rw [<- hW5] at hW6
 replace hW6 := Za hW6
 clear hW5
 go_wp2_with fail
 rw [hW6.out]
 refine (Zfe false ng B Ag m d kg cg zb G _ HB6.out HG6.out hG0.out).mono ?_
 rintro e w7 ⟨hb7, ny, Ay, ky, cy, ns, As, ks, cs, rfl, hwy, -⟩
 rw [hy.out] at hwy
 have hB7 : Below w.heap.size w w7 := hB6.trans (hb7.mono (by omega))
 have HX7 := Za (HX6.out.below hb7)
 have s8 : w4.heap.size + 2 <= w7.heap.size := by have := hb7.size; omega
 have q2 := Zc hb7 hq.out.1
 have q5 := Zc hb7 hq.out.2
 clear hb7 c1 c3 c10 c11 c30 c31 hW6 HB6 HG6 HX6 hB6 hq
 obtain ⟨W8, hW8, hB8, q8, kW, kB, s9⟩ := Zn 43 #[.bool ny, .slice Ay ky cy] hB7 (by omega)
 replace q2 := kB _ _ _ q2
 replace q5 := kB _ _ _ q5
 have HX8 := Za (kW _ _ _ _ _ HX7.out)
 have HY8 := Za (kW _ _ _ _ _ hwy)
 clear kW kB HX7 hwy hB7
 obtain ⟨W9, hW9, hB9, -, kW, kB, s10⟩ := Zn 43 #[.bool ns, .slice As ks cs] hB8 (by omega)
 replace q2 := kB _ _ _ q2
 replace q5 := kB _ _ _ q5
 replace q8 := kB _ _ _ q8
 have HX9 := Za (kW _ _ _ _ _ HX8.out)
 have HY9 := Za (kW _ _ _ _ _ HY8.out)
 clear kW kB HX8 HY8 hB8
 have c5 := Za q5.two
 have c8 := Za q8.two
 have c2 := Za q2.four
 have hq := Za q2
 rw [<- hW9, <- hW8] at c5 c8 c2
 rw [<- hW8] at hW9
 clear hW8 q2 q5 q8
 obtain ⟨c50, c51, -, -⟩ := c5.out
 obtain ⟨c80, c81, -, -⟩ := c8.out
 obtain ⟨c20, c21, c22, c23, f20, f21, f22, f23⟩ := c2.out
 replace hW9 := Za hW9
 replace hB9 := Za hB9
 go_wp2_with fail
 rw [hW9.out]
 obtain ⟨W, hW, hB, hblk, kW, -⟩ := Zx nx Ax kx cx ny Ay ky cy hB9.out (by omega) hq.out
 rw [hW]
 obtain ⟨r0, r1, r2, r3, -⟩ := hblk.four
 refine bodyPost_ret (v := .agg #[.bool nx, .slice Ax kx cx, .bool ny, .slice Ay ky cy]) (by simp [results, Tryz.results136, go_sem, r0, r1, r2, r3]) rfl ?_
 exact ⟨hB, _, _, _, _, _, _, _, _, rfl, kW _ _ _ _ _ HX9.out, kW _ _ _ _ _ HY9.out⟩
theorem Zhk (na : Bool) (A B : Option Addr) (n c m d : Nat) (za zb : Int) (w : World) (ha : Wd w na A n c za) (hb : Wd w false B m d zb) (h0 : 0 < zb) :
    Calls Tryz.prog 151 #[.agg #[.bool na, .slice A n c], .agg #[.bool false, .slice B m d]] w (Zik w (Rat.divInt za zb)) := by
 have hgs := Zc3 ha.small hb.small
 have hx := Za (Zh9 (a := za) (b := zb) (by omega))
 have hy := Za (Zh6 (a := za) (b := zb) (by omega))
 have hG0 := Za (Zjo (a := za) (b := zb) (by omega))
 have hGE : Zeu za zb = (Nat.gcd za.natAbs zb.natAbs : Nat) := by unfold Zeu; rw [if_neg (by omega)]
 rw [hGE] at hx hy hG0
 have HA := Za ha
 have HB := Za hb
 obtain ⟨G, hG⟩ : ∃ G, Nat.gcd za.natAbs zb.natAbs = G := ⟨_, rfl⟩
 rw [hG] at hx hy hG0 hgs
 have HGc : Hid (∀ W : World, Wd W na A n c za -> Wd W false B m d zb -> Calls Tryz.prog 96 #[.agg #[.bool na, .slice A n c], .agg #[.bool false, .slice B m d]] W (ResW W (G : Int))) := fun W h1 h2 => by
  have := Zi7 na false A B n c m d za zb W h1 h2
  rw [hG] at this; exact this
 generalize Rat.divInt za zb = R at *
 clear ha hb hG hGE
 have hB0 : ∀ X Y Z : Obj, Below w.heap.size w (((w.alloc X).alloc Y).alloc Z) := fun X Y Z => (((Below.refl w.heap.size w).alloc (Nat.le_refl _) _).alloc (by simp) _).alloc (by simp; omega) _
 have hB0 := Za hB0
 go_enter Tryz.func151, Tryz.ntmps151
 go_wp2_with fail
 have q0 : Blk (((w.alloc (.cells #[.bool na, .slice A n c] 43)).alloc (.cells #[.bool false, .slice B m d] 43)).alloc (.cells #[.bool false, .slice none 0 0, .bool false, .slice none 0 0] 45)) w.heap.size 43 #[.bool na, .slice A n c] := ((Blk.new _ _ _).alloc _).alloc _
 have q1 : Blk (((w.alloc (.cells #[.bool na, .slice A n c] 43)).alloc (.cells #[.bool false, .slice B m d] 43)).alloc (.cells #[.bool false, .slice none 0 0, .bool false, .slice none 0 0] 45)) (w.heap.size + 1) 43 #[.bool false, .slice B m d] := by
  have := (Blk.new (w.alloc (.cells #[.bool na, .slice A n c] 43)) 43 #[.bool false, .slice B m d]).alloc (.cells #[.bool false, .slice none 0 0, .bool false, .slice none 0 0] 45)
  simp only [World.size_alloc] at this; exact this
 have q2 : Blk (((w.alloc (.cells #[.bool na, .slice A n c] 43)).alloc (.cells #[.bool false, .slice B m d] 43)).alloc (.cells #[.bool false, .slice none 0 0, .bool false, .slice none 0 0] 45)) (w.heap.size + 1 + 1) 45 #[.bool false, .slice none 0 0, .bool false, .slice none 0 0] := by
  have := Blk.new ((w.alloc (.cells #[.bool na, .slice A n c] 43)).alloc (.cells #[.bool false, .slice B m d] 43)) 45 #[.bool false, .slice none 0 0, .bool false, .slice none 0 0]
  simp only [World.size_alloc] at this; exact this
 refine (HGc.out _ (((HA.out.alloc _).alloc _).alloc _) (((HB.out.alloc _).alloc _).alloc _)).mono ?_
 rintro e w1 ⟨hb1, ng, Ag, kg, cg, code, rfl, hR⟩
 rcases hR with ⟨-, rfl, hgw⟩ | ⟨hbig, -⟩
 case inr => exact absurd hbig (by omega)
 have hB1 : Below w.heap.size w w1 := (hB0.out _ _ _).trans (hb1.mono (by simp; omega))
 have HA1 := Za (HA.out.below hB1)
 have HB1 := Za (HB.out.below hB1)
 have s1 : w.heap.size + 1 + 1 < w1.heap.size := by have := hb1.size; simp at this; omega
 replace q0 := Zc hb1 q0
 replace q1 := Zc hb1 q1
 replace q2 := Zc hb1 q2
 obtain ⟨c00, c01, -, -⟩ := q0.two
 obtain ⟨c10, c11, -, -⟩ := q1.two
 have hq := Za (And.intro q0 (And.intro q1 q2))
 clear q0 q1 q2 hb1
 go_wp2_with fail
 refine (Zdz ng Ag kg cg _).mono ?_
 rintro e w2 ⟨rfl, hb2⟩
 have hB2 : Below w.heap.size w w2 := hB1.trans (hb2.mono hB1.size)
 have HA2 := Za (HA1.out.below hb2)
 have HB2 := Za (HB1.out.below hb2)
 have HG2 := Za (hgw.below hb2)
 have s2 : w.heap.size + 1 + 1 < w2.heap.size := by have := hb2.size; omega
 have q0 := Zc hb2 hq.out.1
 have q1 := Zc hb2 hq.out.2.1
 have q2 := Zc hb2 hq.out.2.2
 clear c00 c01 c10 c11 hB1 hb2 hgw HA1 HB1 hq
 obtain ⟨W3, hW3, hB3, q3, kW, kB, s3⟩ := Zn 43 #[.bool ng, .slice Ag kg cg] hB2 (by omega)
 replace q0 := kB _ _ _ q0
 replace q1 := kB _ _ _ q1
 replace q2 := kB _ _ _ q2
 have HA3 := Za (kW _ _ _ _ _ HA2.out)
 have HB3 := Za (kW _ _ _ _ _ HB2.out)
 have HG3 := Za (kW _ _ _ _ _ HG2.out)
 have s4 : w.heap.size + 1 + 1 < w2.heap.size := s2
 clear kW kB HA2 HB2 HG2 hB2
 have c0 := Za q0.two
 have c1 := Za q1.two
 have c3 := Za q3.two
 rw [<- hW3] at c0 c1 c3
 obtain ⟨c00, c01, -, -⟩ := c0.out
 obtain ⟨c10, c11, -, -⟩ := c1.out
 obtain ⟨c30, c31, -, -⟩ := c3.out
 have hq := Za (And.intro q0 (And.intro q1 (And.intro q2 q3)))
 clear q0 q1 q2 q3
 replace hW3 := Za hW3
 go_wp2_with fail
 rw [hW3.out]
 refine (Ze9 na ng A Ag n c kg cg za G _ HA3.out HG3.out hG0.out).mono ?_
 rintro e w4 ⟨hb4, nx, Ax, kx, cx, nr, Ar, kr, cr, rfl, hwx, -⟩
 rw [hx.out] at hwx
 have hB4 : Below w.heap.size w w4 := hB3.trans (hb4.mono (by omega))
 have HB4 := Za (HB3.out.below hb4)
 have HG4 := Za (HG3.out.below hb4)
 have s5 : w2.heap.size + 1 <= w4.heap.size := by have := hb4.size; omega
 have q1 := Zc hb4 hq.out.2.1
 have q2 := Zc hb4 hq.out.2.2.1
 have q3 := Zc hb4 hq.out.2.2.2
 clear hb4 c0 c1 c3 c00 c01 c10 c11 c30 c31 hW3 HA3 HB3 HG3 hB3 hq
 obtain ⟨W5, hW5, hB5, q5, kW, kB, s6⟩ := Zn 43 #[.bool nx, .slice Ax kx cx] hB4 (by omega)
 replace q1 := kB _ _ _ q1
 replace q2 := kB _ _ _ q2
 replace q3 := kB _ _ _ q3
 have HB5 := Za (kW _ _ _ _ _ HB4.out)
 have HG5 := Za (kW _ _ _ _ _ HG4.out)
 have HX5 := Za (kW _ _ _ _ _ hwx)
 clear kW kB HB4 HG4 hwx hB4
 obtain ⟨W6, hW6, hB6, -, kW, kB, s7⟩ := Zn 43 #[.bool nr, .slice Ar kr cr] hB5 (by omega)
 replace q1 := kB _ _ _ q1
 replace q2 := kB _ _ _ q2
 replace q3 := kB _ _ _ q3
 replace q5 := kB _ _ _ q5
 have HB6 := Za (kW _ _ _ _ _ HB5.out)
 have HG6 := Za (kW _ _ _ _ _ HG5.out)
 have HX6 := Za (kW _ _ _ _ _ HX5.out)
 clear kW kB HB5 HG5 HX5 hB5
 have c1 := Za q1.two
 have c3 := Za q3.two
 rw [<- hW6, <- hW5] at c1 c3
 obtain ⟨c10, c11, -, -⟩ := c1.out
 obtain ⟨c30, c31, -, -⟩ := c3.out
 have hq := Za (And.intro q2 q5)
 clear q1 q2 q3 q5
 rw [<- hW5] at hW6
 replace hW6 := Za hW6
 clear hW5
 go_wp2_with fail
 rw [hW6.out]
 refine (Ze9 false ng B Ag m d kg cg zb G _ HB6.out HG6.out hG0.out).mono ?_
 rintro e w7 ⟨hb7, ny, Ay, ky, cy, ns, As, ks, cs, rfl, hwy, -⟩
 rw [hy.out] at hwy
 have hB7 : Below w.heap.size w w7 := hB6.trans (hb7.mono (by omega))
 have HX7 := Za (HX6.out.below hb7)
 have s8 : w4.heap.size + 2 <= w7.heap.size := by have := hb7.size; omega
 have q2 := Zc hb7 hq.out.1
 have q5 := Zc hb7 hq.out.2
 clear hb7 c1 c3 c10 c11 c30 c31 hW6 HB6 HG6 HX6 hB6 hq
 obtain ⟨W8, hW8, hB8, q8, kW, kB, s9⟩ := Zn 43 #[.bool ny, .slice Ay ky cy] hB7 (by omega)
 replace q2 := kB _ _ _ q2
 replace q5 := kB _ _ _ q5
 have HX8 := Za (kW _ _ _ _ _ HX7.out)
 have HY8 := Za (kW _ _ _ _ _ hwy)
 clear kW kB HX7 hwy hB7
 obtain ⟨W9, hW9, hB9, -, kW, kB, s10⟩ := Zn 43 #[.bool ns, .slice As ks cs] hB8 (by omega)
 replace q2 := kB _ _ _ q2
 replace q5 := kB _ _ _ q5
 replace q8 := kB _ _ _ q8
 have HX9 := Za (kW _ _ _ _ _ HX8.out)
 have HY9 := Za (kW _ _ _ _ _ HY8.out)
 clear kW kB HX8 HY8 hB8
 have c5 := Za q5.two
 have c8 := Za q8.two
 have c2 := Za q2.four
 have hq := Za q2
 rw [<- hW9, <- hW8] at c5 c8 c2
 rw [<- hW8] at hW9
 clear hW8 q2 q5 q8
 obtain ⟨c50, c51, -, -⟩ := c5.out
 obtain ⟨c80, c81, -, -⟩ := c8.out
 obtain ⟨c20, c21, c22, c23, f20, f21, f22, f23⟩ := c2.out
 replace hW9 := Za hW9
 replace hB9 := Za hB9
 go_wp2_with fail
 rw [hW9.out]
 obtain ⟨W, hW, hB, hblk, kW, -⟩ := Zx nx Ax kx cx ny Ay ky cy hB9.out (by omega) hq.out
 rw [hW]
 obtain ⟨r0, r1, r2, r3, -⟩ := hblk.four
 refine bodyPost_ret (v := .agg #[.bool nx, .slice Ax kx cx, .bool ny, .slice Ay ky cy]) (by simp [results, Tryz.results151, go_sem, r0, r1, r2, r3]) rfl ?_
 exact ⟨hB, _, _, _, _, _, _, _, _, rfl, kW _ _ _ _ _ HX9.out, kW _ _ _ _ _ HY9.out⟩
theorem Zgl (w : World) :
    Calls Tryz.prog 103 #[.int .i64 0] w fun e w' => e = .returned (.tuple #[]) /\ w' = w := by
 go_enter Tryz.func103, Tryz.ntmps103
 go_wp2_with fail
 go_end0
 exact ⟨rfl, rfl⟩
theorem Zhm (p : Addr) (w : World) :
    CallsD Tryz.prog 102 #[.pointer (some p)] .returning w fun e u' w' => e = .returned (.tuple #[]) /\ u' = .returning /\ w' = w := by
 refine callsD_of_wpS Tryz.func102 rfl fun c₀ cs hu => ?_
 apply wpS_seq
 apply wpS_region
 simp [wpOpsS, go_sem, recoverD, hu, Tryz.ntmps102, Exit.thenS]
 rw [show (#[Value.pointer (some p)] ++ (Array.replicate 14 undef).setIfInBounds 4 Value.nilIface) = #[Value.pointer (some p), undef, undef, undef, undef, Value.nilIface, undef, undef, undef, undef, undef, undef, undef, undef, undef] from rfl]
 refine wpS_of_wp ?_
 go_wp2_with fail
 cases c₀
 simp_all [bodyPostS, results, Tryz.results102]
theorem Zdn (na : Bool) (A B : Option Addr) (n c m d : Nat) (za zb : Int) (w : World) (ha : Wd w na A n c za) (hb : Wd w false B m d zb) (h0 : 0 < zb) :
    Calls Tryz.prog 108 #[.agg #[.bool na, .slice A n c], .agg #[.bool false, .slice B m d]] w (Ze0 w (Rat.divInt za zb)) := by
 have hm0 : 0 < m := by rw [<- hb.lim.len]; exact length_digits_pos.2 (by omega)
 have hm0' : ((m : Int) == 0) = false := by simp; omega
 have hm := hb.2.1
 have HA := Za ha
 have HB := Za hb
 clear ha hb
 obtain ⟨W0, hW0, hB0, hq, s0⟩ := Zfz w 43 #[.bool na, .slice A n c] 43 #[.bool false, .slice B m d] 45 #[.bool false, .slice none 0 0, .bool false, .slice none 0 0] 24 #[.int .i64 0]
 replace hW0 := Za hW0
 replace hq := Za hq
 go_enter_defers Tryz.func108, Tryz.ntmps108
 go_wp2_with fail
 rw [hW0.out]
 have HA0 := Za (HA.out.below hB0)
 have HB0 := Za (HB.out.below hB0)
 clear HA HB hW0
 refine (Zls na A n c _ W0 HA0.out.lim).mono ?_
 rw [HA0.out.ok]
 rintro e w1 ⟨rfl, hb1⟩
 have hB1 : Below w.heap.size w w1 := hB0.trans (hb1.mono hB0.size)
 have s1 : W0.heap.size <= w1.heap.size := hb1.size
 have HA1 := Za (HA0.out.below hb1)
 have HB1 := Za (HB0.out.below hb1)
 obtain ⟨q0, q1, q2, q3⟩ := hq.out
 replace q0 := Zc hb1 q0
 replace q1 := Zc hb1 q1
 replace q2 := Zc hb1 q2
 replace q3 := Zc hb1 q3
 obtain ⟨c00, c01, -, -⟩ := q0.two
 obtain ⟨c10, c11, -, -⟩ := q1.two
 clear hq hb1 HA0 HB0 hB0
 have hq := Za (And.intro q0 (And.intro q1 (And.intro q2 q3)))
 clear q0 q1 q2 q3
 simp only [Zfs, if_true]
 go_wp2_with fail
 refine (Zgl w1).mono ?_
 rintro e w1 ⟨rfl, rfl⟩
 go_wp2_with fail
 refine (Zls false B m d _ w1 HB1.out.lim).mono ?_
 rw [HB1.out.ok]
 rintro e w2 ⟨rfl, hb2⟩
 have hB2 : Below w.heap.size w w2 := hB1.trans (hb2.mono hB1.size)
 have s2 : w1.heap.size <= w2.heap.size := hb2.size
 have HA2 := Za (HA1.out.below hb2)
 have HB2 := Za (HB1.out.below hb2)
 obtain ⟨q0, q1, q2, q3⟩ := hq.out
 replace q0 := Zc hb2 q0
 replace q1 := Zc hb2 q1
 replace q2 := Zc hb2 q2
 replace q3 := Zc hb2 q3
 clear c00 c01 c10 c11
 obtain ⟨c00, c01, -, -⟩ := q0.two
 obtain ⟨c10, c11, -, -⟩ := q1.two
 clear hq hb2 HA1 HB1 hB1
 have hq := Za (And.intro q0 (And.intro q1 (And.intro q2 q3)))
 clear q0 q1 q2 q3
 simp only [Zfs, if_true]
 go_wp2_with fail
 refine (Zgl w2).mono ?_
 rintro e w2 ⟨rfl, rfl⟩
 go_wp2_with fail
 refine (Zh8 false B m d w2 (by omega) false hm0').mono ?_
 rintro e w3 ⟨rfl, hb3⟩
 have hB3 : Below w.heap.size w w3 := hB2.trans (hb3.mono hB2.size)
 have s3 : w2.heap.size <= w3.heap.size := hb3.size
 have HA3 := Za (HA2.out.below hb3)
 have HB3 := Za (HB2.out.below hb3)
 obtain ⟨q0, q1, q2, q3⟩ := hq.out
 replace q0 := Zc hb3 q0
 replace q1 := Zc hb3 q1
 replace q2 := Zc hb3 q2
 replace q3 := Zc hb3 q3
 clear c00 c01 c10 c11
 obtain ⟨c00, c01, -, -⟩ := q0.two
 obtain ⟨c10, c11, -, -⟩ := q1.two
 clear hq hb3 HA2 HB2 hB2
 have hq := Za (And.intro q2 q3)
 clear q0 q1 q2 q3
 go_wp2_with fail
 refine (Zhk na A B n c m d za zb w3 HA3.out HB3.out h0).mono ?_
 rintro e w4 ⟨hb4, nx, Ax, kx, cx, ny, Ay, ky, cy, rfl, hF⟩
 have hB4 : Below w.heap.size w w4 := hB3.trans (hb4.mono hB3.size)
 have s4 : w3.heap.size <= w4.heap.size := hb4.size
 have q2 := Zc hb4 hq.out.1
 have q3 := Zc hb4 hq.out.2
 clear hq hb4 HA3 HB3 hB3 c00 c01 c10 c11
 have c2 := Za q2.four
 have c3 := q3.cell 0
 have f3 := q3.frozen 0
 simp at c3
 obtain ⟨c20, c21, c22, c23, f20, f21, f22, f23⟩ := c2.out
 have hq := Za (And.intro q2 q3)
 clear q2 q3
 go_wp2_with fail
 obtain ⟨W5, hW5, hB5, q2, kW, kB, s5⟩ := Zx nx Ax kx cx ny Ay ky cy hB4 (by omega) hq.out.1
 have q3 := kB _ _ _ (by omega) hq.out.2
 have HX5 := Za (kW _ _ _ _ _ hF.1)
 have HY5 := Za (kW _ _ _ _ _ hF.2)
 rw [hW5]
 clear kW kB c20 c21 c22 c23 c3 f3 f20 f21 f22 f23 hq hF
 obtain ⟨W6, hW6, hB6, q3, kW, kB, s6⟩ := Zjr 0 hB5 (by omega) q3
 replace q2 := kB _ _ _ (by omega) q2
 have HX6 := Za (kW _ _ _ _ _ HX5.out)
 have HY6 := Za (kW _ _ _ _ _ HY5.out)
 rw [hW6]
 obtain ⟨r0, r1, r2, r3, -⟩ := q2.four
 have r4 := q3.cell 0
 simp at r4
 clear kW kB hB5 HX5 HY5 hW5 hW6
 refine leaves_cons (f := 102) (args := #[.pointer (some ⟨w.heap.size + 1 + 1 + 1, 0, none⟩)]) (by simp) (by simp [go_sem]) ?_
 refine (Zhm _ _).mono ?_
 rintro e u' w'' ⟨rfl, rfl, rfl⟩
 refine ⟨.tuple #[.agg #[.bool nx, .slice Ax kx cx, .bool ny, .slice Ay ky cy], .int .i64 0], by simp [results, Tryz.results108, go_sem, r0, r1, r2, r3, r4], ?_⟩
 exact ⟨hB6, _, _, _, _, _, _, _, _, rfl, HX6.out, HY6.out⟩
end Go.Proofs.YtigdclhagmnopaaGreat
