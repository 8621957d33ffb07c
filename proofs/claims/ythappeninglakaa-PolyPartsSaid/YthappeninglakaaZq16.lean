/- The reference of layer 1: DivMod. -/
import Derived.BigQuiet
import Derived.Deep.QuietTactic
import Derived.Deep.CutBlock
import Derived.Deep.DeepCutAuto
import Derived.Test.YthappeninglakaaZq12
import Derived.Test.YthappeninglakaaZq15
set_option maxRecDepth 100000
set_option maxHeartbeats 2000000
set_option linter.unusedSimpArgs false
set_option linter.unusedVariables false
namespace Go.Proofs.Ythappeninglakaa
open Go.RowKit
attribute [local go_sem] Zj
theorem Zm0 (na nb : Bool) (A B : Option Addr) (n c m d : Nat) (za zb : Int) (w : World) (ha : Wd w na A n c za) (hb : Wd w nb B m d zb) (h0 : zb ≠ 0) (hy : za.natAbs % zb.natAbs = 0) :
    Calls Try.prog 52 #[.agg #[.bool na,.slice A n c],.agg #[.bool nb,.slice B m d]] w (Zg3 w za zb):=by
 have hLa:=ha.lim;have hLb:=hb.lim;have hn:=ha.2.1;have hm:=hb.2.1;have hdm:=hLb.2.2.1;have hmd:=hLb.2.1;unfold maxLen at hdm
 have hB0 : ∀ X Y Z V : Obj,Below w.heap.size w ((((w.alloc X).alloc Y).alloc Z).alloc V):=fun X Y Z V=>((((Below.refl w.heap.size w).alloc (Nat.le_refl _) _).alloc (by simp) _).alloc (by simp;omega) _).alloc (by simp;omega) _
 have hB0:=Zb hB0
 have hgood : Hid ((okW na (digits za.natAbs) && okW nb (digits zb.natAbs)) = true):=by unfold Hid;rw [ha.ok,hb.ok];rfl
 have hza:=ha.sgEq;have hzb:=hb.sgEq;rw [Zg] at hza hzb;have hU:=ha.small;have hV:=hb.small;clear ha hb
 have hV0 : 0 < zb.natAbs:=by omega
 have hm0 : 0 < m:=by rw [<- hLb.len];exact length_digits_pos.2 hV0
 have hm0' : ((m : Int) == 0) = false:=by simp;omega
 obtain ⟨hzq,hzr⟩:=Zge na nb za.natAbs zb.natAbs hV0 (Or.inl hy);rw [hza,hzb] at hzq hzr;clear hza hzb h0
 generalize za.natAbs = U at *
 generalize zb.natAbs = V at *
 have hxs : U / V < pw 4096:=Nat.lt_of_le_of_lt (Nat.div_le_self _ _) hU;have hys : U % V < pw 4096:=Nat.lt_trans (Nat.mod_lt _ hV0) hV
 have hfin : Hid (∀ (e : Ending) (w' : World),(Below w.heap.size w w' /\ ∃ nq Aq kq cq nr Ar kr cr,e = .returned (.tuple #[.agg #[.bool nq,.slice Aq kq cq],.agg #[.bool nr,.slice Ar kr cr],.int .i64 0]) /\ Wd w' nq Aq kq cq (Int.fdiv za zb) /\ Wd w' nr Ar kr cr (Int.fmod za zb)) -> Zg3 w za zb e w'):=fun _ _ h=>h
 generalize Int.fdiv za zb = ZQ at *
 generalize Int.fmod za zb = ZR at *
 have hzr2 : sg na (U % V) = ZR:=by rw [hzr,hy];simp [sg]
 have hzq2 : sg (na != nb) (U / V) = ZQ:=hzq.symm;replace hzr2:=Zb hzr2;replace hzq2:=Zb hzq2;replace hy:=Zb hy;clear hzq hzr;go_enter Try.func52,Try.ntmps52;go_wp2_with fail;refine (Zd5 ((((hLa.alloc _).alloc _).alloc _).alloc _) ((((hLb.alloc _).alloc _).alloc _).alloc _) hgood.out).mono ?_;rintro e w1 ⟨rfl,hb1⟩;obtain ⟨hc1,hf1⟩:=Zca hb1
 have hz1 : w.heap.size + 1 + 1 + 1 < w1.heap.size:=by have:=hb1.size;simp at this;omega
 have hB1 : Below w.heap.size w w1:=(hB0.out _ _ _ _).trans (hb1.mono (by simp;omega))
 have g0 : w1.cell? ⟨w.heap.size,0,none⟩ = some (.bool na):=by simp [hc1,go_sem]
 have g1 : w1.cell? ⟨w.heap.size,1,none⟩ = some (.slice A n c):=by simp [hc1,go_sem]
 have g2 : w1.cell? ⟨w.heap.size + 1,0,none⟩ = some (.bool nb):=by simp [hc1,go_sem]
 have g3 : w1.cell? ⟨w.heap.size + 1,1,none⟩ = some (.slice B m d):=by simp [hc1,go_sem]
 have bq : Hid (Blk w1 (w.heap.size + 1 + 1) 26 #[.bool false,.slice none 0 0]):=by
  refine Zd hb1 (Blk.alloc ?_ _);have:=Blk.new ((w.alloc (.cells #[.bool na,.slice A n c] 26)).alloc (.cells #[.bool nb,.slice B m d] 26)) 26 #[.bool false,.slice none 0 0];simp only [World.size_alloc] at this;exact this
 have br : Hid (Blk w1 (w.heap.size + 1 + 1 + 1) 26 #[.bool false,.slice none 0 0]):=by
  refine Zd hb1 ?_;have:=Blk.new (((w.alloc (.cells #[.bool na,.slice A n c] 26)).alloc (.cells #[.bool nb,.slice B m d] 26)).alloc (.cells #[.bool false,.slice none 0 0] 26)) 26 #[.bool false,.slice none 0 0];simp only [World.size_alloc] at this;exact this
 have hLa1:=hLa.below hB1;have hLb1:=hLb.below hB1;clear hc1 hf1;go_wp2_with fail;refine (Zhr _ _ _ _ _ _ U V _ hLa1 hLb1 (by omega) hV0).mono ?_;rintro e w2 ⟨A2,n2,c2,B2,m2,d2,rfl,hLx,hLy,hb2⟩;have hB2 : Below w.heap.size w w2:=hB1.trans (hb2.mono hB1.size);have hcm2:=hLy.2.2.1;have hmd2:=hLy.2.1;unfold maxLen at hcm2
 have hn2 : n2 <= 4096:=by rw [<- hLx.len];exact (Zs _ _).2 hxs
 have hm2' : m2 <= 4096:=by rw [<- hLy.len];exact (Zs _ _).2 hys
 have g02:=Za hb2 g0;have g12:=Za hb2 g1;have g22:=Za hb2 g2;have g32:=Za hb2 g3;have bq2 : Hid (Blk _ _ _ _):=Zd hb2 bq.out;have br2 : Hid (Blk _ _ _ _):=Zd hb2 br.out
 have hm2 : m2 = 0:=by
  rcases Nat.eq_zero_or_pos m2 with h | h
  ·exact h
  ·rw [<- hLy.len] at h;have:=length_digits_pos.1 h;have:=hy.out;omega
 subst hm2;go_wp2_with fail;refine (Zax _ _ _ _ _ _ hLx (by omega)).mono ?_;rintro e w3 ⟨hb3,neg3,A3,n3,c3,code3,rfl,hR3⟩;have hB3 : Below w.heap.size w w3:=hB2.trans (hb3.mono hB2.size);have g03:=Za hb3 g02;have g13:=Za hb3 g12;have g23:=Za hb3 g22;have g33:=Za hb3 g32;have bq3 : Hid (Blk _ _ _ _):=Zd hb3 bq2.out;have br3 : Hid (Blk _ _ _ _):=Zd hb3 br2.out
 change ResP w3 (sg (na != nb) _) neg3 A3 n3 c3 code3 at hR3
 rw [Zg,hzq2.out] at hR3
 rcases hR3 with ⟨-,rfl,hq3⟩ | ⟨hbig,-⟩
 case inr =>
  exfalso
  have h1:=hzq2.out;rw [<- h1,Z5] at hbig;omega
 have hbA : Below w3.heap.size w3 (w3.alloc (.cells #[.bool neg3,.slice A3 n3 c3] 26)):=(Below.refl _ _).alloc (Nat.le_refl _) _;have bp:=Blk.new w3 26 #[.bool neg3,.slice A3 n3 c3]
 have hzP : w.heap.size + 1 + 1 + 1 < w3.heap.size:=by have:=hb2.size;have:=hb3.size;omega
 have g0a:=Za hbA g03;have g2a:=Za hbA g23;go_wp2_with fail;refine (Zax _ _ _ _ _ _ ((hLy.below hb3).below hbA) (by omega)).mono ?_;rintro e w4 ⟨hb4',neg4,A4,n4,c4,code4,rfl,hR4⟩;have hb4 : Below w3.heap.size w3 w4:=hbA.trans (hb4'.mono (by simp));have bp4:=Zb (Zd hb4' bp)
 have hzP4 : w3.heap.size < w4.heap.size:=by have:=hb4'.size;simp at this;omega
 have hB4 : Below w.heap.size w w4:=hB3.trans (hb4.mono hB3.size);have g04:=Za hb4 g03;have g14:=Za hb4 g13;have g24:=Za hb4 g23;have g34:=Za hb4 g33;have bq4 : Hid (Blk _ _ _ _):=Zd hb4 bq3.out;have br4 : Hid (Blk _ _ _ _):=Zd hb4 br3.out;rw [Zg,hzr2.out] at hR4
 rcases hR4 with ⟨-,rfl,hr4⟩ | ⟨hbig,-⟩
 case inr =>
  exfalso
  have h1:=hzr2.out;rw [<- h1,Z5] at hbig;omega
 have hq4:=hq3.below hb4;have hbB : Below w4.heap.size w4 (w4.alloc (.cells #[.bool neg4,.slice A4 n4 c4] 26)):=(Below.refl _ _).alloc (Nat.le_refl _) _;have bs:=Blk.new w4 26 #[.bool neg4,.slice A4 n4 c4];have bp5:=Zb (Zd hbB bp4.out);have hB5:=hB4.trans (hbB.mono hB4.size);have p0:=bp5.out.cell 0;have p1:=bp5.out.cell 1;have p2:=bp5.out.frozen 0;have p3:=bp5.out.frozen 1
 simp at p0 p1
 replace bs:=Zb bs;clear g0a g2a;have g05:=Za hbB g04;have g15:=Za hbB g14;have g25:=Za hbB g24;have g35:=Za hbB g34;have bq5 : Hid (Blk _ _ _ _):=Zd hbB bq4.out;have br5 : Hid (Blk _ _ _ _):=Zd hbB br4.out;have hq5:=hq4.below hbB;have hr5:=hr4.below hbB;go_wp2_with fail
 generalize hw5 : w4.alloc _ = w5 at *
 have hs5 : w5.heap.size = w4.heap.size + 1:=by rw [<- hw5];simp
 replace hs5:=Zb hs5;clear hw5;have s0:=bs.out.cell 0;have s1:=bs.out.cell 1;have s2:=bs.out.frozen 0;have s3:=bs.out.frozen 1
 simp at s0 s1
 have q1:=bq5.out.cell 0;have q2:=bq5.out.cell 1;have q3:=bq5.out.frozen 0;have q4:=bq5.out.frozen 1;have r1:=br5.out.cell 0;have r2:=br5.out.cell 1;have r3:=br5.out.frozen 0;have r4:=br5.out.frozen 1
 simp at q1 q2 r1 r2
 go_region
 go_wp2
 generalize hw9 : ((((w5.setCell ⟨w.heap.size + 1 + 1,0,none⟩ (.bool neg3)).setCell ⟨w.heap.size + 1 + 1,1,none⟩ (.slice A3 n3 c3)).setCell ⟨w.heap.size + 1 + 1 + 1,0,none⟩ (.bool neg4)).setCell ⟨w.heap.size + 1 + 1 + 1,1,none⟩ (.slice A4 n4 c4)).drew = w9
 have b1:=(bq5.out.set_ 0 (.bool neg3)).set_ 1 (.slice A3 n3 c3);have b2:=(br5.out.far (p:=⟨w.heap.size + 1 + 1,0,none⟩) (by simp <;> omega) (.bool neg3)).far (p:=⟨w.heap.size + 1 + 1,1,none⟩) (by simp <;> omega) (.slice A3 n3 c3)
 have b3 : Blk w9 (w.heap.size + 1 + 1) 26 #[.bool neg3,.slice A3 n3 c3]:=by rw [<- hw9];exact (b1.far (by simp <;> omega) _).far (by simp <;> omega) _
 have b4 : Blk w9 (w.heap.size + 1 + 1 + 1) 26 #[.bool neg4,.slice A4 n4 c4]:=by rw [<- hw9];exact (b2.set_ 0 _).set_ 1 _
 have hB9 : Below w.heap.size w w9:=by rw [<- hw9];exact Zr ((((hB5.setCell (p:=⟨w.heap.size + 1 + 1,0,none⟩) (by simp <;> omega) _).setCell (p:=⟨w.heap.size + 1 + 1,1,none⟩) (by simp <;> omega) _).setCell (p:=⟨w.heap.size + 1 + 1 + 1,0,none⟩) (by simp <;> omega) _).setCell (p:=⟨w.heap.size + 1 + 1 + 1,1,none⟩) (by simp <;> omega) _) 1
 have hset : ∀ (A : Option Addr) (n c : Nat) (l : List Nat),Lim w5 A n c l -> Lim w9 A n c l:=fun A n c l h=>by
  rw [<- hw9];exact Lim.set_box (Lim.set_box (Lim.set_box (Lim.set_box h bq5.out (NoLimb.box _ _ _ _) 0 _) (bq5.out.set_ 0 _) (NoLimb.box _ _ _ _) 1 _) b2 (NoLimb.box _ _ _ _) 0 _) (b2.set_ 0 _) (NoLimb.box _ _ _ _) 1 _
 have t1:=b3.cell 0;have t2:=b3.cell 1;have t3:=b4.cell 0;have t4:=b4.cell 1
 simp at t1 t2 t3 t4
 refine bodyPost_ret (v:=.tuple #[.agg #[.bool neg3,.slice A3 n3 c3],.agg #[.bool neg4,.slice A4 n4 c4],.int .i64 0]) (by simp [results,Try.results52,go_sem,t1,t2,t3,t4]) rfl ?_;exact hfin.out _ _ ⟨hB9,_,_,_,_,_,_,_,_,rfl,⟨hq5.1,hq5.2.1,hset _ _ _ _ hq5.2.2⟩,⟨hr5.1,hr5.2.1,hset _ _ _ _ hr5.2.2⟩⟩
theorem Zmj (na nb : Bool) (A B : Option Addr) (n c m d : Nat) (za zb : Int) (w : World) (ha : Wd w na A n c za) (hb : Wd w nb B m d zb) (h0 : zb ≠ 0) (hy : 0 < za.natAbs % zb.natAbs) (hs : na = nb) :
    Calls Try.prog 52 #[.agg #[.bool na,.slice A n c],.agg #[.bool nb,.slice B m d]] w (Zg3 w za zb):=by
 have hLa:=ha.lim;have hLb:=hb.lim;have hn:=ha.2.1;have hm:=hb.2.1;have hdm:=hLb.2.2.1;have hmd:=hLb.2.1;unfold maxLen at hdm
 have hB0 : ∀ X Y Z V : Obj,Below w.heap.size w ((((w.alloc X).alloc Y).alloc Z).alloc V):=fun X Y Z V=>((((Below.refl w.heap.size w).alloc (Nat.le_refl _) _).alloc (by simp) _).alloc (by simp;omega) _).alloc (by simp;omega) _
 have hB0:=Zb hB0
 have hgood : Hid ((okW na (digits za.natAbs) && okW nb (digits zb.natAbs)) = true):=by unfold Hid;rw [ha.ok,hb.ok];rfl
 have hza:=ha.sgEq;have hzb:=hb.sgEq;rw [Zg] at hza hzb;have hU:=ha.small;have hV:=hb.small;clear ha hb
 have hV0 : 0 < zb.natAbs:=by omega
 have hm0 : 0 < m:=by rw [<- hLb.len];exact length_digits_pos.2 hV0
 have hm0' : ((m : Int) == 0) = false:=by simp;omega
 obtain ⟨hzq,hzr⟩:=Zge na nb za.natAbs zb.natAbs hV0 (Or.inr hs);rw [hza,hzb] at hzq hzr;clear hza hzb h0
 generalize za.natAbs = U at *
 generalize zb.natAbs = V at *
 have hxs : U / V < pw 4096:=Nat.lt_of_le_of_lt (Nat.div_le_self _ _) hU;have hys : U % V < pw 4096:=Nat.lt_trans (Nat.mod_lt _ hV0) hV
 have hfin : Hid (∀ (e : Ending) (w' : World),(Below w.heap.size w w' /\ ∃ nq Aq kq cq nr Ar kr cr,e = .returned (.tuple #[.agg #[.bool nq,.slice Aq kq cq],.agg #[.bool nr,.slice Ar kr cr],.int .i64 0]) /\ Wd w' nq Aq kq cq (Int.fdiv za zb) /\ Wd w' nr Ar kr cr (Int.fmod za zb)) -> Zg3 w za zb e w'):=fun _ _ h=>h
 generalize Int.fdiv za zb = ZQ at *
 generalize Int.fmod za zb = ZR at *
 subst hs
 have hnn : (na != na) = false:=by simp
 have hzr2 : sg na (U % V) = ZR:=hzr.symm
 have hzq2 : sg false (U / V) = ZQ:=by rw [hzq,hnn]
 replace hzr2:=Zb hzr2;replace hzq2:=Zb hzq2;clear hzq hzr;go_enter Try.func52,Try.ntmps52;go_wp2_with fail;refine (Zd5 ((((hLa.alloc _).alloc _).alloc _).alloc _) ((((hLb.alloc _).alloc _).alloc _).alloc _) hgood.out).mono ?_;rintro e w1 ⟨rfl,hb1⟩;obtain ⟨hc1,hf1⟩:=Zca hb1
 have hz1 : w.heap.size + 1 + 1 + 1 < w1.heap.size:=by have:=hb1.size;simp at this;omega
 have hB1 : Below w.heap.size w w1:=(hB0.out _ _ _ _).trans (hb1.mono (by simp;omega))
 have g0 : w1.cell? ⟨w.heap.size,0,none⟩ = some (.bool na):=by simp [hc1,go_sem]
 have g1 : w1.cell? ⟨w.heap.size,1,none⟩ = some (.slice A n c):=by simp [hc1,go_sem]
 have g2 : w1.cell? ⟨w.heap.size + 1,0,none⟩ = some (.bool na):=by simp [hc1,go_sem]
 have g3 : w1.cell? ⟨w.heap.size + 1,1,none⟩ = some (.slice B m d):=by simp [hc1,go_sem]
 have bq : Hid (Blk w1 (w.heap.size + 1 + 1) 26 #[.bool false,.slice none 0 0]):=by
  refine Zd hb1 (Blk.alloc ?_ _);have:=Blk.new ((w.alloc (.cells #[.bool na,.slice A n c] 26)).alloc (.cells #[.bool na,.slice B m d] 26)) 26 #[.bool false,.slice none 0 0];simp only [World.size_alloc] at this;exact this
 have br : Hid (Blk w1 (w.heap.size + 1 + 1 + 1) 26 #[.bool false,.slice none 0 0]):=by
  refine Zd hb1 ?_;have:=Blk.new (((w.alloc (.cells #[.bool na,.slice A n c] 26)).alloc (.cells #[.bool na,.slice B m d] 26)).alloc (.cells #[.bool false,.slice none 0 0] 26)) 26 #[.bool false,.slice none 0 0];simp only [World.size_alloc] at this;exact this
 have hLa1:=hLa.below hB1;have hLb1:=hLb.below hB1;clear hc1 hf1;go_wp2_with fail;refine (Zhr _ _ _ _ _ _ U V _ hLa1 hLb1 (by omega) hV0).mono ?_;rintro e w2 ⟨A2,n2,c2,B2,m2,d2,rfl,hLx,hLy,hb2⟩;have hB2 : Below w.heap.size w w2:=hB1.trans (hb2.mono hB1.size);have hcm2:=hLy.2.2.1;have hmd2:=hLy.2.1;unfold maxLen at hcm2
 have hn2 : n2 <= 4096:=by rw [<- hLx.len];exact (Zs _ _).2 hxs
 have hm2' : m2 <= 4096:=by rw [<- hLy.len];exact (Zs _ _).2 hys
 have g02:=Za hb2 g0;have g12:=Za hb2 g1;have g22:=Za hb2 g2;have g32:=Za hb2 g3;have bq2 : Hid (Blk _ _ _ _):=Zd hb2 bq.out;have br2 : Hid (Blk _ _ _ _):=Zd hb2 br.out
 have hm2 : 0 < m2:=by rw [<- hLy.len];exact length_digits_pos.2 hy
 go_wp2_with fail;refine (Zax _ _ _ _ _ _ hLx (by omega)).mono ?_;rintro e w3 ⟨hb3,neg3,A3,n3,c3,code3,rfl,hR3⟩;have hB3 : Below w.heap.size w w3:=hB2.trans (hb3.mono hB2.size);have g03:=Za hb3 g02;have g13:=Za hb3 g12;have g23:=Za hb3 g22;have g33:=Za hb3 g32;have bq3 : Hid (Blk _ _ _ _):=Zd hb3 bq2.out;have br3 : Hid (Blk _ _ _ _):=Zd hb3 br2.out;rw [Zg,hzq2.out] at hR3
 rcases hR3 with ⟨-,rfl,hq3⟩ | ⟨hbig,-⟩
 case inr =>
  exfalso
  have h1:=hzq2.out;rw [<- h1,Z5] at hbig;omega
 have hbA : Below w3.heap.size w3 (w3.alloc (.cells #[.bool neg3,.slice A3 n3 c3] 26)):=(Below.refl _ _).alloc (Nat.le_refl _) _;have bp:=Blk.new w3 26 #[.bool neg3,.slice A3 n3 c3]
 have hzP : w.heap.size + 1 + 1 + 1 < w3.heap.size:=by have:=hb2.size;have:=hb3.size;omega
 have g0a:=Za hbA g03;have g2a:=Za hbA g23;go_wp2_with fail;refine (Zax _ _ _ _ _ _ ((hLy.below hb3).below hbA) (by omega)).mono ?_;rintro e w4 ⟨hb4',neg4,A4,n4,c4,code4,rfl,hR4⟩;have hb4 : Below w3.heap.size w3 w4:=hbA.trans (hb4'.mono (by simp));have bp4:=Zb (Zd hb4' bp)
 have hzP4 : w3.heap.size < w4.heap.size:=by have:=hb4'.size;simp at this;omega
 have hB4 : Below w.heap.size w w4:=hB3.trans (hb4.mono hB3.size);have g04:=Za hb4 g03;have g14:=Za hb4 g13;have g24:=Za hb4 g23;have g34:=Za hb4 g33;have bq4 : Hid (Blk _ _ _ _):=Zd hb4 bq3.out;have br4 : Hid (Blk _ _ _ _):=Zd hb4 br3.out;rw [Zg,hzr2.out] at hR4
 rcases hR4 with ⟨-,rfl,hr4⟩ | ⟨hbig,-⟩
 case inr =>
  exfalso
  have h1:=hzr2.out;rw [<- h1,Z5] at hbig;omega
 have hq4:=hq3.below hb4;have hbB : Below w4.heap.size w4 (w4.alloc (.cells #[.bool neg4,.slice A4 n4 c4] 26)):=(Below.refl _ _).alloc (Nat.le_refl _) _;have bs:=Blk.new w4 26 #[.bool neg4,.slice A4 n4 c4];have bp5:=Zb (Zd hbB bp4.out);have hB5:=hB4.trans (hbB.mono hB4.size);have p0:=bp5.out.cell 0;have p1:=bp5.out.cell 1;have p2:=bp5.out.frozen 0;have p3:=bp5.out.frozen 1
 simp at p0 p1
 replace bs:=Zb bs;clear g0a g2a;have g05:=Za hbB g04;have g15:=Za hbB g14;have g25:=Za hbB g24;have g35:=Za hbB g34;have bq5 : Hid (Blk _ _ _ _):=Zd hbB bq4.out;have br5 : Hid (Blk _ _ _ _):=Zd hbB br4.out;have hq5:=hq4.below hbB;have hr5:=hr4.below hbB;go_wp2_with fail
 generalize hw5 : w4.alloc _ = w5 at *
 have hs5 : w5.heap.size = w4.heap.size + 1:=by rw [<- hw5];simp
 replace hs5:=Zb hs5;clear hw5;have s0:=bs.out.cell 0;have s1:=bs.out.cell 1;have s2:=bs.out.frozen 0;have s3:=bs.out.frozen 1
 simp at s0 s1
 have q1:=bq5.out.cell 0;have q2:=bq5.out.cell 1;have q3:=bq5.out.frozen 0;have q4:=bq5.out.frozen 1;have r1:=br5.out.cell 0;have r2:=br5.out.cell 1;have r3:=br5.out.frozen 0;have r4:=br5.out.frozen 1
 simp at q1 q2 r1 r2
 go_region
 go_wp2
 generalize hw9 : ((((w5.setCell ⟨w.heap.size + 1 + 1,0,none⟩ (.bool neg3)).setCell ⟨w.heap.size + 1 + 1,1,none⟩ (.slice A3 n3 c3)).setCell ⟨w.heap.size + 1 + 1 + 1,0,none⟩ (.bool neg4)).setCell ⟨w.heap.size + 1 + 1 + 1,1,none⟩ (.slice A4 n4 c4)).drew = w9
 have b1:=(bq5.out.set_ 0 (.bool neg3)).set_ 1 (.slice A3 n3 c3);have b2:=(br5.out.far (p:=⟨w.heap.size + 1 + 1,0,none⟩) (by simp <;> omega) (.bool neg3)).far (p:=⟨w.heap.size + 1 + 1,1,none⟩) (by simp <;> omega) (.slice A3 n3 c3)
 have b3 : Blk w9 (w.heap.size + 1 + 1) 26 #[.bool neg3,.slice A3 n3 c3]:=by rw [<- hw9];exact (b1.far (by simp <;> omega) _).far (by simp <;> omega) _
 have b4 : Blk w9 (w.heap.size + 1 + 1 + 1) 26 #[.bool neg4,.slice A4 n4 c4]:=by rw [<- hw9];exact (b2.set_ 0 _).set_ 1 _
 have hB9 : Below w.heap.size w w9:=by rw [<- hw9];exact Zr ((((hB5.setCell (p:=⟨w.heap.size + 1 + 1,0,none⟩) (by simp <;> omega) _).setCell (p:=⟨w.heap.size + 1 + 1,1,none⟩) (by simp <;> omega) _).setCell (p:=⟨w.heap.size + 1 + 1 + 1,0,none⟩) (by simp <;> omega) _).setCell (p:=⟨w.heap.size + 1 + 1 + 1,1,none⟩) (by simp <;> omega) _) 1
 have hset : ∀ (A : Option Addr) (n c : Nat) (l : List Nat),Lim w5 A n c l -> Lim w9 A n c l:=fun A n c l h=>by
  rw [<- hw9];exact Lim.set_box (Lim.set_box (Lim.set_box (Lim.set_box h bq5.out (NoLimb.box _ _ _ _) 0 _) (bq5.out.set_ 0 _) (NoLimb.box _ _ _ _) 1 _) b2 (NoLimb.box _ _ _ _) 0 _) (b2.set_ 0 _) (NoLimb.box _ _ _ _) 1 _
 have t1:=b3.cell 0;have t2:=b3.cell 1;have t3:=b4.cell 0;have t4:=b4.cell 1
 simp at t1 t2 t3 t4
 refine bodyPost_ret (v:=.tuple #[.agg #[.bool neg3,.slice A3 n3 c3],.agg #[.bool neg4,.slice A4 n4 c4],.int .i64 0]) (by simp [results,Try.results52,go_sem,t1,t2,t3,t4]) rfl ?_;exact hfin.out _ _ ⟨hB9,_,_,_,_,_,_,_,_,rfl,⟨hq5.1,hq5.2.1,hset _ _ _ _ hq5.2.2⟩,⟨hr5.1,hr5.2.1,hset _ _ _ _ hr5.2.2⟩⟩
theorem Zk1 (na nb : Bool) (A B : Option Addr) (n c m d : Nat) (za zb : Int) (w : World) (ha : Wd w na A n c za) (hb : Wd w nb B m d zb) (h0 : zb ≠ 0) (hy : 0 < za.natAbs % zb.natAbs) (hs : na ≠ nb) :
    Calls Try.prog 52 #[.agg #[.bool na,.slice A n c],.agg #[.bool nb,.slice B m d]] w (Zg3 w za zb):=by
 have hLa:=ha.lim;have hLb:=hb.lim;have hn:=ha.2.1;have hm:=hb.2.1;have hdm:=hLb.2.2.1;have hmd:=hLb.2.1;unfold maxLen at hdm
 have hB0 : ∀ X Y Z V : Obj,Below w.heap.size w ((((w.alloc X).alloc Y).alloc Z).alloc V):=fun X Y Z V=>((((Below.refl w.heap.size w).alloc (Nat.le_refl _) _).alloc (by simp) _).alloc (by simp;omega) _).alloc (by simp;omega) _
 have hB0:=Zb hB0
 have hgood : Hid ((okW na (digits za.natAbs) && okW nb (digits zb.natAbs)) = true):=by unfold Hid;rw [ha.ok,hb.ok];rfl
 have hza:=ha.sgEq;have hzb:=hb.sgEq;rw [Zg] at hza hzb;have hU:=ha.small;have hV:=hb.small;clear ha hb
 have hV0 : 0 < zb.natAbs:=by omega
 have hm0 : 0 < m:=by rw [<- hLb.len];exact length_digits_pos.2 hV0
 have hm0' : ((m : Int) == 0) = false:=by simp;omega
 obtain ⟨hzq,hzr⟩:=Zlb na nb za.natAbs zb.natAbs hV0 hy hs;rw [hza,hzb] at hzq hzr;clear hza h0;replace hzb:=Zb hzb
 generalize za.natAbs = U at *
 generalize zb.natAbs = V at *
 have hxs : U / V < pw 4096:=Nat.lt_of_le_of_lt (Nat.div_le_self _ _) hU;have hys : U % V < pw 4096:=Nat.lt_trans (Nat.mod_lt _ hV0) hV
 have hsq : (sg (na != nb) (U / V + 1)).natAbs < pw 4096:=by
  rw [Z5];have h1:=Nat.div_add_mod U V;have h2:=Nat.mod_lt U hV0
  rcases Nat.lt_or_ge 1 V with h | h
  ·have : U / V + U / V <= V * (U / V):=by rw [<- Nat.two_mul];exact Nat.mul_le_mul_right _ h
   omega
  ·omega
 have hsr : (sg nb (V - U % V)).natAbs < pw 4096:=by rw [Z5];omega
 rw [<- hzq] at hsq;rw [<- hzr] at hsr
 have hfin : Hid (∀ (e : Ending) (w' : World),(Below w.heap.size w w' /\ ∃ nq Aq kq cq nr Ar kr cr,e = .returned (.tuple #[.agg #[.bool nq,.slice Aq kq cq],.agg #[.bool nr,.slice Ar kr cr],.int .i64 0]) /\ Wd w' nq Aq kq cq (Int.fdiv za zb) /\ Wd w' nr Ar kr cr (Int.fmod za zb)) -> Zg3 w za zb e w'):=fun _ _ h=>h
 generalize Int.fdiv za zb = ZQ at *
 generalize Int.fmod za zb = ZR at *
 have hnn1 : (na != nb) = true:=by simpa using hs
 have hnn : (na == nb) = false:=by simpa using hs
 have hq2 : Hid (sg true (U / V) + -1 = ZQ):=by unfold Hid;rw [hzq,hnn1];simp only [sg,if_true];omega
 have hr2 : Hid (sg na (U % V) + zb = ZR):=by
  unfold Hid;rw [hzr,<- hzb.out];have:=Nat.mod_lt U hV0
  cases na <;> cases nb <;> simp [sg] at hs ⊢ <;> omega
 replace hnn1:=Zb hnn1;clear hzq hzr;go_enter Try.func52,Try.ntmps52;go_wp2_with fail;refine (Zd5 ((((hLa.alloc _).alloc _).alloc _).alloc _) ((((hLb.alloc _).alloc _).alloc _).alloc _) hgood.out).mono ?_;rintro e w1 ⟨rfl,hb1⟩;obtain ⟨hc1,hf1⟩:=Zca hb1
 have hz1 : w.heap.size + 1 + 1 + 1 < w1.heap.size:=by have:=hb1.size;simp at this;omega
 have hB1 : Below w.heap.size w w1:=(hB0.out _ _ _ _).trans (hb1.mono (by simp;omega))
 have g0 : w1.cell? ⟨w.heap.size,0,none⟩ = some (.bool na):=by simp [hc1,go_sem]
 have g1 : w1.cell? ⟨w.heap.size,1,none⟩ = some (.slice A n c):=by simp [hc1,go_sem]
 have g2 : w1.cell? ⟨w.heap.size + 1,0,none⟩ = some (.bool nb):=by simp [hc1,go_sem]
 have g3 : w1.cell? ⟨w.heap.size + 1,1,none⟩ = some (.slice B m d):=by simp [hc1,go_sem]
 have bq : Hid (Blk w1 (w.heap.size + 1 + 1) 26 #[.bool false,.slice none 0 0]):=by
  refine Zd hb1 (Blk.alloc ?_ _);have:=Blk.new ((w.alloc (.cells #[.bool na,.slice A n c] 26)).alloc (.cells #[.bool nb,.slice B m d] 26)) 26 #[.bool false,.slice none 0 0];simp only [World.size_alloc] at this;exact this
 have br : Hid (Blk w1 (w.heap.size + 1 + 1 + 1) 26 #[.bool false,.slice none 0 0]):=by
  refine Zd hb1 ?_;have:=Blk.new (((w.alloc (.cells #[.bool na,.slice A n c] 26)).alloc (.cells #[.bool nb,.slice B m d] 26)).alloc (.cells #[.bool false,.slice none 0 0] 26)) 26 #[.bool false,.slice none 0 0];simp only [World.size_alloc] at this;exact this
 have hLa1:=hLa.below hB1;have hLb1:=hLb.below hB1;clear hc1 hf1;go_wp2_with fail;refine (Zhr _ _ _ _ _ _ U V _ hLa1 hLb1 (by omega) hV0).mono ?_;rintro e w2 ⟨A2,n2,c2,B2,m2,d2,rfl,hLx,hLy,hb2⟩;have hB2 : Below w.heap.size w w2:=hB1.trans (hb2.mono hB1.size);have hcm2:=hLy.2.2.1;have hmd2:=hLy.2.1;unfold maxLen at hcm2
 have hn2 : n2 <= 4096:=by rw [<- hLx.len];exact (Zs _ _).2 hxs
 have hm2' : m2 <= 4096:=by rw [<- hLy.len];exact (Zs _ _).2 hys
 have g02:=Za hb2 g0;have g12:=Za hb2 g1;have g22:=Za hb2 g2;have g32:=Za hb2 g3;have bq2 : Hid (Blk _ _ _ _):=Zd hb2 bq.out;have br2 : Hid (Blk _ _ _ _):=Zd hb2 br.out
 have hm2 : 0 < m2:=by rw [<- hLy.len];exact length_digits_pos.2 hy
 go_wp2_with fail;refine (Zax _ _ _ _ _ _ hLx (by omega)).mono ?_;rintro e w3 ⟨hb3,neg3,A3,n3,c3,code3,rfl,hR3⟩;have hB3 : Below w.heap.size w w3:=hB2.trans (hb3.mono hB2.size);have g03:=Za hb3 g02;have g13:=Za hb3 g12;have g23:=Za hb3 g22;have g33:=Za hb3 g32;have bq3 : Hid (Blk _ _ _ _):=Zd hb3 bq2.out;have br3 : Hid (Blk _ _ _ _):=Zd hb3 br2.out;rw [Zg] at hR3
 rcases hR3 with ⟨-,rfl,hq3⟩ | ⟨hbig,-⟩
 case inr =>
  exfalso
  rw [Z5] at hbig;omega
 have hbA : Below w3.heap.size w3 (w3.alloc (.cells #[.bool neg3,.slice A3 n3 c3] 26)):=(Below.refl _ _).alloc (Nat.le_refl _) _;have bp:=Blk.new w3 26 #[.bool neg3,.slice A3 n3 c3]
 have hzP : w.heap.size + 1 + 1 + 1 < w3.heap.size:=by have:=hb2.size;have:=hb3.size;omega
 have g0a:=Za hbA g03;have g2a:=Za hbA g23;go_wp2_with fail;refine (Zax _ _ _ _ _ _ ((hLy.below hb3).below hbA) (by omega)).mono ?_;rintro e w4 ⟨hb4',neg4,A4,n4,c4,code4,rfl,hR4⟩;have hb4 : Below w3.heap.size w3 w4:=hbA.trans (hb4'.mono (by simp));have bp4:=Zb (Zd hb4' bp)
 have hzP4 : w3.heap.size < w4.heap.size:=by have:=hb4'.size;simp at this;omega
 have hB4 : Below w.heap.size w w4:=hB3.trans (hb4.mono hB3.size);have g04:=Za hb4 g03;have g14:=Za hb4 g13;have g24:=Za hb4 g23;have g34:=Za hb4 g33;have bq4 : Hid (Blk _ _ _ _):=Zd hb4 bq3.out;have br4 : Hid (Blk _ _ _ _):=Zd hb4 br3.out;rw [Zg] at hR4
 rcases hR4 with ⟨-,rfl,hr4⟩ | ⟨hbig,-⟩
 case inr =>
  exfalso
  rw [Z5] at hbig;omega
 have hq4:=hq3.below hb4;have hbB : Below w4.heap.size w4 (w4.alloc (.cells #[.bool neg4,.slice A4 n4 c4] 26)):=(Below.refl _ _).alloc (Nat.le_refl _) _;have bs:=Blk.new w4 26 #[.bool neg4,.slice A4 n4 c4];have bp5:=Zb (Zd hbB bp4.out);have hB5:=hB4.trans (hbB.mono hB4.size);have p0:=bp5.out.cell 0;have p1:=bp5.out.cell 1;have p2:=bp5.out.frozen 0;have p3:=bp5.out.frozen 1
 simp at p0 p1
 replace bs:=Zb bs;clear g0a g2a;have g05:=Za hbB g04;have g15:=Za hbB g14;have g25:=Za hbB g24;have g35:=Za hbB g34;have bq5 : Hid (Blk _ _ _ _):=Zd hbB bq4.out;have br5 : Hid (Blk _ _ _ _):=Zd hbB br4.out;have hq5:=hq4.below hbB;have hr5:=hr4.below hbB;go_wp2_with fail
 generalize hw5 : w4.alloc _ = w5 at *
 have hs5 : w5.heap.size = w4.heap.size + 1:=by rw [<- hw5];simp
 replace hs5:=Zb hs5;clear hw5;have s0:=bs.out.cell 0;have s1:=bs.out.cell 1;have s2:=bs.out.frozen 0;have s3:=bs.out.frozen 1
 simp at s0 s1
 go_region_with (first
  | (go_at_call 64;refine (Zdw (-1) _ (by omega) (by omega)).mono ?_;rintro e w6 ⟨hb6,neg6,A6,n6,c6,rfl,hw6⟩;have hb6':=Zm hb6;have u0:=Za hb6' p0;have u1:=Za hb6' p1;have u2:=Zi hb6' p0 p2;have u3:=Zi hb6' p1 p3;have hq6:=hq5.below hb6')
  | (go_at_call 69;refine (Zea _ _ _ _ _ _ _ _ _ _ _ hq6.lim hw6.lim hq6.2.1 hw6.2.1).mono ?_;rintro e w7 ⟨hb7,neg7,A7,n7,c7,code7,rfl,hR7⟩;have v0:=Za hb7 u0;have v1:=Za hb7 u1;have v2:=Zi hb7 u0 u2;have v3:=Zi hb7 u1 u3))
 all_goals
  have e1:=hq6.sgEq;have e2:=hw6.sgEq;rw [Zg] at e1 e2;rw [e1,e2,hq2.out] at hR7
  rcases hR7 with ⟨-,rfl,hq7⟩ | ⟨hbig,-⟩
  case inr=>exact absurd hsq (by omega)
  clear e1 e2 hq6 hw6;have hb57 : Below w5.heap.size w5 w7:=hb6'.trans (hb7.mono hb6'.size);have bq7 : Hid (Blk _ _ _ _):=Zd hb57 bq5.out;have br7 : Hid (Blk _ _ _ _):=Zd hb57 br5.out;have bp7 : Hid (Blk _ _ _ _):=Zd hb57 bp5.out;have bs7 : Hid (Blk _ _ _ _):=Zd hb57 bs.out;have g27:=Za hb57 g25;have g37:=Za hb57 g35;have hr7:=hr5.below hb57;have hLb7:=((hLb.below hB5)).below hb57;have hB7:=hB5.trans (hb57.mono hB5.size);clear u0 u1 u2 u3 s0 s1 s2 s3 p0 p1 p2 p3 g05 g15 g25 g35
  go_upto_region 10 with fail
  generalize hw8 : (w7.setCell ⟨w3.heap.size,0,none⟩ (.bool neg7)).setCell ⟨w3.heap.size,1,none⟩ (.slice A7 n7 c7) = w8
  have bq8 : Hid (Blk w8 (w.heap.size + 1 + 1) 26 #[.bool false,.slice none 0 0]):=by rw [<- hw8];exact (bq7.out.far (by simp <;> omega) _).far (by simp <;> omega) _
  have br8 : Hid (Blk w8 (w.heap.size + 1 + 1 + 1) 26 #[.bool false,.slice none 0 0]):=by rw [<- hw8];exact (br7.out.far (by simp <;> omega) _).far (by simp <;> omega) _
  have bp8 : Hid (Blk w8 w3.heap.size 26 #[.bool neg7,.slice A7 n7 c7]):=by rw [<- hw8];exact (bp7.out.set_ 0 _).set_ 1 _
  have bs8 : Hid (Blk w8 w4.heap.size 26 #[.bool neg4,.slice A4 n4 c4]):=by rw [<- hw8];exact (bs7.out.far (by simp <;> omega) _).far (by simp <;> omega) _
  have g28 : w8.cell? ⟨w.heap.size + 1,0,none⟩ = some (.bool nb):=by rw [<- hw8];exact (World.cell?_setCell_other _ _ _ _ (by simp <;> omega)).trans ((World.cell?_setCell_other _ _ _ _ (by simp <;> omega)).trans g27)
  have g38 : w8.cell? ⟨w.heap.size + 1,1,none⟩ = some (.slice B m d):=by rw [<- hw8];exact (World.cell?_setCell_other _ _ _ _ (by simp <;> omega)).trans ((World.cell?_setCell_other _ _ _ _ (by simp <;> omega)).trans g37)
  have hset8 : ∀ (A : Option Addr) (n c : Nat) (l : List Nat),Lim w7 A n c l -> Lim w8 A n c l:=fun A n c l h=>by
   rw [<- hw8];exact Lim.set_box (Lim.set_box h bp7.out (NoLimb.box _ _ _ _) 0 _) (bp7.out.set_ 0 _) (NoLimb.box _ _ _ _) 1 _
  have hq8 : Wd w8 neg7 A7 n7 c7 ZQ:=⟨hq7.1,hq7.2.1,hset8 _ _ _ _ hq7.2.2⟩;have hr8 : Wd w8 neg4 A4 n4 c4 (sg na (U % V)):=⟨hr7.1,hr7.2.1,hset8 _ _ _ _ hr7.2.2⟩;have hLb8:=hset8 _ _ _ _ hLb7
  have hB8 : Below w.heap.size w w8:=by rw [<- hw8];exact (hB7.setCell (p:=⟨w3.heap.size,0,none⟩) (by simp only [];omega) _).setCell (p:=⟨w3.heap.size,1,none⟩) (by simp only [];omega) _
  have hs8 : Hid (w4.heap.size < w8.heap.size):=bs8.out.lt;have s0:=bs8.out.cell 0;have s1:=bs8.out.cell 1
  simp at s0 s1
  clear v0 v1 v2 v3 hset8 hw8 bq7 br7 bp7 bs7 g27 g37 hq7 hr7;go_wp2_with fail;refine (Zea _ _ _ _ _ _ _ _ _ _ _ hr8.lim hLb8 hr8.2.1 hm).mono ?_;rintro e w9 ⟨hb9,neg9,A9,n9,c9,code9,rfl,hR9⟩;have e1:=hr8.sgEq;rw [Zg] at e1;rw [e1,hzb.out,hr2.out] at hR9
  rcases hR9 with ⟨-,rfl,hr9⟩ | ⟨hbig,-⟩
  case inr=>exact absurd hsr (by omega)
  clear e1;have bq9 : Hid (Blk _ _ _ _):=Zd hb9 bq8.out;have br9 : Hid (Blk _ _ _ _):=Zd hb9 br8.out;have bp9 : Hid (Blk _ _ _ _):=Zd hb9 bp8.out;have bs9 : Hid (Blk _ _ _ _):=Zd hb9 bs8.out;have hq9:=hq8.below hb9;have hB9:=hB8.trans (hb9.mono hB8.size);have s0:=bs9.out.cell 0;have s1:=bs9.out.cell 1;have s2:=bs9.out.frozen 0;have s3:=bs9.out.frozen 1
  simp at s0 s1
  go_wp2_with fail
  generalize hw10 : (w9.setCell ⟨w4.heap.size,0,none⟩ (.bool neg9)).setCell ⟨w4.heap.size,1,none⟩ (.slice A9 n9 c9) = w10
  have bq10 : Hid (Blk w10 (w.heap.size + 1 + 1) 26 #[.bool false,.slice none 0 0]):=by rw [<- hw10];exact (bq9.out.far (by simp <;> omega) _).far (by simp <;> omega) _
  have br10 : Hid (Blk w10 (w.heap.size + 1 + 1 + 1) 26 #[.bool false,.slice none 0 0]):=by rw [<- hw10];exact (br9.out.far (by simp <;> omega) _).far (by simp <;> omega) _
  have bp10 : Hid (Blk w10 w3.heap.size 26 #[.bool neg7,.slice A7 n7 c7]):=by rw [<- hw10];exact (bp9.out.far (by simp <;> omega) _).far (by simp <;> omega) _
  have bs10 : Hid (Blk w10 w4.heap.size 26 #[.bool neg9,.slice A9 n9 c9]):=by rw [<- hw10];exact (bs9.out.set_ 0 _).set_ 1 _
  have hset10 : ∀ (A : Option Addr) (n c : Nat) (l : List Nat),Lim w9 A n c l -> Lim w10 A n c l:=fun A n c l h=>by
   rw [<- hw10];exact Lim.set_box (Lim.set_box h bs9.out (NoLimb.box _ _ _ _) 0 _) (bs9.out.set_ 0 _) (NoLimb.box _ _ _ _) 1 _
  have hq10 : Wd w10 neg7 A7 n7 c7 ZQ:=⟨hq9.1,hq9.2.1,hset10 _ _ _ _ hq9.2.2⟩;have hr10 : Wd w10 neg9 A9 n9 c9 ZR:=⟨hr9.1,hr9.2.1,hset10 _ _ _ _ hr9.2.2⟩
  have hB10 : Below w.heap.size w w10:=by rw [<- hw10];exact (hB9.setCell (p:=⟨w4.heap.size,0,none⟩) (by simp only [];omega) _).setCell (p:=⟨w4.heap.size,1,none⟩) (by simp only [];omega) _
  clear hset10 hw10 s0 s1 s2 s3 hq8 hr8 hq9 hr9;have p0:=bp10.out.cell 0;have p1:=bp10.out.cell 1;have s0:=bs10.out.cell 0;have s1:=bs10.out.cell 1
  simp at p0 p1 s0 s1
  have q1:=bq10.out.cell 0;have q2:=bq10.out.cell 1;have q3:=bq10.out.frozen 0;have q4:=bq10.out.frozen 1;have r1:=br10.out.cell 0;have r2:=br10.out.cell 1;have r3:=br10.out.frozen 0;have r4:=br10.out.frozen 1
  simp at q1 q2 r1 r2
  go_region
  go_wp2
  generalize hw12 : ((((w10.setCell ⟨w.heap.size + 1 + 1,0,none⟩ (.bool neg7)).setCell ⟨w.heap.size + 1 + 1,1,none⟩ (.slice A7 n7 c7)).setCell ⟨w.heap.size + 1 + 1 + 1,0,none⟩ (.bool neg9)).setCell ⟨w.heap.size + 1 + 1 + 1,1,none⟩ (.slice A9 n9 c9)).drew = w12
  have b1:=(bq10.out.set_ 0 (.bool neg7)).set_ 1 (.slice A7 n7 c7);have b2:=(br10.out.far (p:=⟨w.heap.size + 1 + 1,0,none⟩) (by simp <;> omega) (.bool neg7)).far (p:=⟨w.heap.size + 1 + 1,1,none⟩) (by simp <;> omega) (.slice A7 n7 c7)
  have b3 : Blk w12 (w.heap.size + 1 + 1) 26 #[.bool neg7,.slice A7 n7 c7]:=by rw [<- hw12];exact (b1.far (by simp <;> omega) _).far (by simp <;> omega) _
  have b4 : Blk w12 (w.heap.size + 1 + 1 + 1) 26 #[.bool neg9,.slice A9 n9 c9]:=by rw [<- hw12];exact (b2.set_ 0 _).set_ 1 _
  have hB12 : Below w.heap.size w w12:=by rw [<- hw12];exact Zr ((((hB10.setCell (p:=⟨w.heap.size + 1 + 1,0,none⟩) (by simp <;> omega) _).setCell (p:=⟨w.heap.size + 1 + 1,1,none⟩) (by simp <;> omega) _).setCell (p:=⟨w.heap.size + 1 + 1 + 1,0,none⟩) (by simp <;> omega) _).setCell (p:=⟨w.heap.size + 1 + 1 + 1,1,none⟩) (by simp <;> omega) _) 1
  have hset : ∀ (A : Option Addr) (n c : Nat) (l : List Nat),Lim w10 A n c l -> Lim w12 A n c l:=fun A n c l h=>by
   rw [<- hw12];exact Lim.set_box (Lim.set_box (Lim.set_box (Lim.set_box h bq10.out (NoLimb.box _ _ _ _) 0 _) (bq10.out.set_ 0 _) (NoLimb.box _ _ _ _) 1 _) b2 (NoLimb.box _ _ _ _) 0 _) (b2.set_ 0 _) (NoLimb.box _ _ _ _) 1 _
  have t1:=b3.cell 0;have t2:=b3.cell 1;have t3:=b4.cell 0;have t4:=b4.cell 1
  simp at t1 t2 t3 t4
  refine bodyPost_ret (v:=.tuple #[.agg #[.bool neg7,.slice A7 n7 c7],.agg #[.bool neg9,.slice A9 n9 c9],.int .i64 0]) (by simp [results,Try.results52,go_sem,t1,t2,t3,t4]) rfl ?_;exact hfin.out _ _ ⟨hB12,_,_,_,_,_,_,_,_,rfl,⟨hq10.1,hq10.2.1,hset _ _ _ _ hq10.2.2⟩,⟨hr10.1,hr10.2.1,hset _ _ _ _ hr10.2.2⟩⟩
theorem Zfk (na nb : Bool) (A B : Option Addr) (n c m d : Nat) (za zb : Int) (w : World) (ha : Wd w na A n c za) (hb : Wd w nb B m d zb) (h0 : zb ≠ 0) :
    Calls Try.prog 52 #[.agg #[.bool na,.slice A n c],.agg #[.bool nb,.slice B m d]] w (Zg3 w za zb):=by
 rcases Nat.eq_zero_or_pos (za.natAbs % zb.natAbs) with hy | hy
 ·exact Zm0 na nb A B n c m d za zb w ha hb h0 hy
 ·by_cases hs : na = nb
  ·exact Zmj na nb A B n c m d za zb w ha hb h0 hy hs
  ·exact Zk1 na nb A B n c m d za zb w ha hb h0 hy hs
end Go.Proofs.Ythappeninglakaa
