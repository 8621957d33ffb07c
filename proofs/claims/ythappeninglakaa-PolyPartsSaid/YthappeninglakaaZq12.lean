/- Package wide: DivMod. -/
import Derived.BigQuiet
import Derived.Deep.QuietTactic
import Derived.Test.YthappeninglakaaZq11
set_option maxRecDepth 100000
set_option maxHeartbeats 2000000
set_option linter.unusedSimpArgs false
set_option linter.unusedVariables false
namespace Go.Proofs.Ythappeninglakaa
open Go.RowKit
attribute [local go_sem] Zj
def Zg3 (w : World) (za zb : Int) (e : Ending) (w' : World) : Prop:=
 Below w.heap.size w w' /\ ∃ nq Aq kq cq nr Ar kr cr,e = .returned (.tuple #[.agg #[.bool nq,.slice Aq kq cq],.agg #[.bool nr,.slice Ar kr cr],.int .i64 0]) /\ Wd w' nq Aq kq cq (Int.fdiv za zb) /\ Wd w' nr Ar kr cr (Int.fmod za zb)
theorem Znb (na nb : Bool) (A B : Option Addr) (n c m d : Nat) (za zb : Int) (w : World) (ha : Wd w na A n c za) (hb : Wd w nb B m d zb) (h0 : zb ≠ 0) (hy : za.natAbs % zb.natAbs = 0) :
    Calls Try.prog 37 #[.agg #[.bool na,.slice A n c],.agg #[.bool nb,.slice B m d]] w (Zg3 w za zb):=by
 have hLa:=ha.lim;have hLb:=hb.lim;have hn:=ha.2.1;have hm:=hb.2.1;have hdm:=hLb.2.2.1;have hmd:=hLb.2.1;unfold maxLen at hdm
 have hB0 : ∀ X Y Z V U : Obj,Below w.heap.size w (((((w.alloc X).alloc Y).alloc Z).alloc V).alloc U):=fun X Y Z V U=>(((((Below.refl w.heap.size w).alloc (Nat.le_refl _) _).alloc (by simp) _).alloc (by simp;omega) _).alloc (by simp;omega) _).alloc (by simp;omega) _
 have hW : ∀ X Y Z V t,WL (((((w.alloc X).alloc Y).alloc Z).alloc V).alloc (.cells #[.bool na,.slice A n c,.bool nb,.slice B m d] t)) (some ⟨w.heap.size + 1 + 1 + 1 + 1,0,none⟩) 2 2 [⟨na,A,n,c,digits za.natAbs⟩,⟨nb,B,m,d,digits zb.natAbs⟩]:=fun X Y Z V t=>by
  have:=WL.two (neg:=na) (neg':=nb) ((((hLa.alloc X).alloc Y).alloc Z).alloc V) ((((hLb.alloc X).alloc Y).alloc Z).alloc V) t;simp only [World.size_alloc] at this;exact this
 have hW:=Zb hW;have hB0:=Zb hB0;have hgood : Hid (okW na (digits za.natAbs) = true /\ okW nb (digits zb.natAbs) = true):=⟨ha.ok,hb.ok⟩;have hza:=ha.sgEq;have hzb:=hb.sgEq;rw [Zg] at hza hzb;have hU:=ha.small;have hV:=hb.small;clear ha hb
 have hV0 : 0 < zb.natAbs:=by omega
 have hm0 : 0 < m:=by rw [<- hLb.len];exact length_digits_pos.2 hV0
 have hm0' : ((m : Int) == 0) = false:=by simp;omega
 obtain ⟨hzq,hzr⟩:=Zge na nb za.natAbs zb.natAbs hV0 (Or.inl hy);rw [hza,hzb] at hzq hzr;clear hza hzb h0
 generalize za.natAbs = U at *
 generalize zb.natAbs = V at *
 have hsq : (sg (na != nb) (U / V)).natAbs < pw 4096:=by rw [Z5];exact Nat.lt_of_le_of_lt (Nat.div_le_self _ _) hU
 have hsr : (sg nb (U % V)).natAbs < pw 4096:=by rw [Z5];exact Nat.lt_trans (Nat.mod_lt _ hV0) hV
 rw [<- hzq] at hsq;rw [<- hzr] at hsr
 have hfin : Hid (∀ (e : Ending) (w' : World),(Below w.heap.size w w' /\ ∃ nq Aq kq cq nr Ar kr cr,e = .returned (.tuple #[.agg #[.bool nq,.slice Aq kq cq],.agg #[.bool nr,.slice Ar kr cr],.int .i64 0]) /\ Wd w' nq Aq kq cq (Int.fdiv za zb) /\ Wd w' nr Ar kr cr (Int.fmod za zb)) -> Zg3 w za zb e w'):=fun _ _ h=>h
 generalize Int.fdiv za zb = ZQ at *
 generalize Int.fmod za zb = ZR at *
 replace hzq:=Zb hzq;replace hzr:=Zb hzr;replace hy:=Zb hy;go_enter Try.func37,Try.ntmps37;go_wp2_with fail;refine (Zdl (hW.out _ _ _ _ _) (by have:=hgood.out;simp [WE.ok,this])).mono ?_;rintro e w1 ⟨rfl,hb1⟩;obtain ⟨hc1,hf1⟩:=Zca hb1
 have hz1 : w.heap.size + 1 + 1 + 1 + 1 < w1.heap.size:=by have:=hb1.size;simp at this;omega
 have hB1 : Below w.heap.size w w1:=(hB0.out _ _ _ _ _).trans (hb1.mono (by simp;omega))
 have g0 : w1.cell? ⟨w.heap.size,0,none⟩ = some (.bool na):=by simp [hc1,go_sem]
 have g1 : w1.cell? ⟨w.heap.size,1,none⟩ = some (.slice A n c):=by simp [hc1,go_sem]
 have g2 : w1.cell? ⟨w.heap.size + 1,0,none⟩ = some (.bool nb):=by simp [hc1,go_sem]
 have g3 : w1.cell? ⟨w.heap.size + 1,1,none⟩ = some (.slice B m d):=by simp [hc1,go_sem]
 have bq : Hid (Blk w1 (w.heap.size + 1 + 1) 26 #[.bool false,.slice none 0 0]):=by
  refine Zd hb1 (Blk.alloc (Blk.alloc ?_ _) _);have:=Blk.new ((w.alloc (.cells #[.bool na,.slice A n c] 26)).alloc (.cells #[.bool nb,.slice B m d] 26)) 26 #[.bool false,.slice none 0 0];simp only [World.size_alloc] at this;exact this
 have br : Hid (Blk w1 (w.heap.size + 1 + 1 + 1) 26 #[.bool false,.slice none 0 0]):=by
  refine Zd hb1 (Blk.alloc ?_ _);have:=Blk.new (((w.alloc (.cells #[.bool na,.slice A n c] 26)).alloc (.cells #[.bool nb,.slice B m d] 26)).alloc (.cells #[.bool false,.slice none 0 0] 26)) 26 #[.bool false,.slice none 0 0];simp only [World.size_alloc] at this;exact this
 have hLa1:=hLa.below hB1;have hLb1:=hLb.below hB1;clear hc1 hf1;go_wp2_with fail;refine (Zfh _ _ _ _ _ _ U V _ hLa1 hLb1 (by omega) hV0).mono ?_;rintro e w2 ⟨A2,n2,c2,B2,m2,d2,rfl,hLx,hLy,hb2⟩;have hB2 : Below w.heap.size w w2:=hB1.trans (hb2.mono hB1.size);have hcm2:=hLy.2.2.1;have hmd2:=hLy.2.1;unfold maxLen at hcm2;have g02:=Za hb2 g0;have g12:=Za hb2 g1;have g22:=Za hb2 g2;have g32:=Za hb2 g3;have bq2 : Hid (Blk _ _ _ _):=Zd hb2 bq.out;have br2 : Hid (Blk _ _ _ _):=Zd hb2 br.out
 have hm2 : m2 = 0:=by
  rcases Nat.eq_zero_or_pos m2 with h | h
  ·exact h
  ·rw [<- hLy.len] at h;have:=length_digits_pos.1 h;have:=hy.out;omega
 subst hm2;go_wp2_with fail;refine (Zbk _ _ _ _ _ _ hLx).mono ?_;rintro e w5 ⟨hb5,neg5,A5,n5,c5,code5,rfl,hR5⟩;have hB5 : Below w.heap.size w w5:=hB2.trans (hb5.mono hB2.size);have g05:=Za hb5 g02;have g15:=Za hb5 g12;have g25:=Za hb5 g22;have g35:=Za hb5 g32;have bq5 : Hid (Blk _ _ _ _):=Zd hb5 bq2.out;have br5 : Hid (Blk _ _ _ _):=Zd hb5 br2.out
 change ResP w5 (sg (na != nb) _) neg5 A5 n5 c5 code5 at hR5
 rw [Zg,<- hzq.out] at hR5
 rcases hR5 with ⟨-,rfl,hq5⟩ | ⟨hbig,-⟩
 case inr=>exact absurd hsq (by omega)
 have q1:=bq5.out.cell 0;have q2:=bq5.out.cell 1;have q3:=bq5.out.frozen 0;have q4:=bq5.out.frozen 1
 simp at q1 q2
 go_wp2_with fail
 generalize hw6 : (w5.setCell ⟨w.heap.size + 1 + 1,0,none⟩ (.bool neg5)).setCell ⟨w.heap.size + 1 + 1,1,none⟩ (.slice A5 n5 c5) = w6
 have bq6 : Hid (Blk w6 (w.heap.size + 1 + 1) 26 #[.bool neg5,.slice A5 n5 c5]):=by rw [<- hw6];exact (bq5.out.set_ 0 _).set_ 1 _
 have br6 : Hid (Blk w6 (w.heap.size + 1 + 1 + 1) 26 #[.bool false,.slice none 0 0]):=by rw [<- hw6];exact (br5.out.far (by simp <;> omega) _).far (by simp <;> omega) _
 have hB6 : Below w.heap.size w w6:=by rw [<- hw6];exact (hB5.setCell (p:=⟨w.heap.size + 1 + 1,0,none⟩) (by simp <;> omega) _).setCell (p:=⟨w.heap.size + 1 + 1,1,none⟩) (by simp <;> omega) _
 have hq6 : Wd w6 neg5 A5 n5 c5 ZQ:=by
  rw [<- hw6];exact ⟨hq5.1,hq5.2.1,Lim.set_box (Lim.set_box hq5.2.2 bq5.out (NoLimb.box _ _ _ _) 0 _) (bq5.out.set_ 0 _) (NoLimb.box _ _ _ _) 1 _⟩
 have hLr6 : Lim w6 B2 0 d2 (digits (U % V)):=by
  rw [<- hw6];exact Lim.set_box (Lim.set_box (hLy.below hb5) bq5.out (NoLimb.box _ _ _ _) 0 _) (bq5.out.set_ 0 _) (NoLimb.box _ _ _ _) 1 _
 clear hw6 q1 q2 q3 q4 hq5;refine (Zbk _ _ _ _ _ _ hLr6).mono ?_;rintro e w7 ⟨hb7,neg7,A7,n7,c7,code7,rfl,hR7⟩;have hB7 : Below w.heap.size w w7:=hB6.trans (hb7.mono hB6.size);have bq7 : Hid (Blk w7 (w.heap.size + 1 + 1) 26 #[.bool neg5,.slice A5 n5 c5]):=Zd hb7 bq6.out;have br7 : Hid (Blk w7 (w.heap.size + 1 + 1 + 1) 26 #[.bool false,.slice none 0 0]):=Zd hb7 br6.out;rw [Zg,<- hzr.out] at hR7
 rcases hR7 with ⟨-,rfl,hr7⟩ | ⟨hbig,-⟩
 case inr=>exact absurd hsr (by omega)
 have r1:=br7.out.cell 0;have r2:=br7.out.cell 1;have r3:=br7.out.frozen 0;have r4:=br7.out.frozen 1
 simp at r1 r2
 go_wp2_with fail
 generalize hw8 : (w7.setCell ⟨w.heap.size + 1 + 1 + 1,0,none⟩ (.bool neg7)).setCell ⟨w.heap.size + 1 + 1 + 1,1,none⟩ (.slice A7 n7 c7) = w8
 have bq8 : Blk w8 (w.heap.size + 1 + 1) 26 #[.bool neg5,.slice A5 n5 c5]:=by rw [<- hw8];exact (bq7.out.far (by simp <;> omega) _).far (by simp <;> omega) _
 have br8 : Blk w8 (w.heap.size + 1 + 1 + 1) 26 #[.bool neg7,.slice A7 n7 c7]:=by rw [<- hw8];exact (br7.out.set_ 0 _).set_ 1 _
 have hB8 : Below w.heap.size w w8:=by rw [<- hw8];exact (hB7.setCell (p:=⟨w.heap.size + 1 + 1 + 1,0,none⟩) (by simp <;> omega) _).setCell (p:=⟨w.heap.size + 1 + 1 + 1,1,none⟩) (by simp <;> omega) _
 have hq8 : Wd w8 neg5 A5 n5 c5 ZQ:=by
  rw [<- hw8];have hq7:=hq6.below hb7;exact ⟨hq7.1,hq7.2.1,Lim.set_box (Lim.set_box hq7.2.2 br7.out (NoLimb.box _ _ _ _) 0 _) (br7.out.set_ 0 _) (NoLimb.box _ _ _ _) 1 _⟩
 have hr8 : Wd w8 neg7 A7 n7 c7 ZR:=by
  rw [<- hw8];exact ⟨hr7.1,hr7.2.1,Lim.set_box (Lim.set_box hr7.2.2 br7.out (NoLimb.box _ _ _ _) 0 _) (br7.out.set_ 0 _) (NoLimb.box _ _ _ _) 1 _⟩
 have s1:=bq8.cell 0;have s2:=bq8.cell 1;have s3:=bq8.frozen 0;have s4:=bq8.frozen 1;have s5:=br8.cell 0;have s6:=br8.cell 1;have s7:=br8.frozen 0;have s8:=br8.frozen 1
 simp at s1 s2 s5 s6
 replace bq8:=Zb bq8;replace br8:=Zb br8;clear hw8 r1 r2 r3 r4
 go_region
 go_wp2
 generalize hw9 : ((((w8.setCell ⟨w.heap.size + 1 + 1,0,none⟩ (.bool neg5)).setCell ⟨w.heap.size + 1 + 1,1,none⟩ (.slice A5 n5 c5)).setCell ⟨w.heap.size + 1 + 1 + 1,0,none⟩ (.bool neg7)).setCell ⟨w.heap.size + 1 + 1 + 1,1,none⟩ (.slice A7 n7 c7)).drew = w9
 have b1:=(bq8.out.set_ 0 (.bool neg5)).set_ 1 (.slice A5 n5 c5);have b2:=(br8.out.far (p:=⟨w.heap.size + 1 + 1,0,none⟩) (by simp <;> omega) (.bool neg5)).far (p:=⟨w.heap.size + 1 + 1,1,none⟩) (by simp <;> omega) (.slice A5 n5 c5)
 have b3 : Blk w9 (w.heap.size + 1 + 1) 26 #[.bool neg5,.slice A5 n5 c5]:=by rw [<- hw9];exact (b1.far (by simp <;> omega) _).far (by simp <;> omega) _
 have b4 : Blk w9 (w.heap.size + 1 + 1 + 1) 26 #[.bool neg7,.slice A7 n7 c7]:=by rw [<- hw9];exact (b2.set_ 0 _).set_ 1 _
 have hB9 : Below w.heap.size w w9:=by rw [<- hw9];exact Zr ((((hB8.setCell (p:=⟨w.heap.size + 1 + 1,0,none⟩) (by simp <;> omega) _).setCell (p:=⟨w.heap.size + 1 + 1,1,none⟩) (by simp <;> omega) _).setCell (p:=⟨w.heap.size + 1 + 1 + 1,0,none⟩) (by simp <;> omega) _).setCell (p:=⟨w.heap.size + 1 + 1 + 1,1,none⟩) (by simp <;> omega) _) 1
 have hset : ∀ (A : Option Addr) (n c : Nat) (l : List Nat),Lim w8 A n c l -> Lim w9 A n c l:=fun A n c l h=>by
  rw [<- hw9];exact Lim.set_box (Lim.set_box (Lim.set_box (Lim.set_box h bq8.out (NoLimb.box _ _ _ _) 0 _) (bq8.out.set_ 0 _) (NoLimb.box _ _ _ _) 1 _) b2 (NoLimb.box _ _ _ _) 0 _) (b2.set_ 0 _) (NoLimb.box _ _ _ _) 1 _
 have t1:=b3.cell 0;have t2:=b3.cell 1;have t3:=b4.cell 0;have t4:=b4.cell 1
 simp at t1 t2 t3 t4
 refine bodyPost_ret (v:=.tuple #[.agg #[.bool neg5,.slice A5 n5 c5],.agg #[.bool neg7,.slice A7 n7 c7],.int .i64 0]) (by simp [results,Try.results37,go_sem,t1,t2,t3,t4]) rfl ?_;exact hfin.out _ _ ⟨hB9,_,_,_,_,_,_,_,_,rfl,⟨hq8.1,hq8.2.1,hset _ _ _ _ hq8.2.2⟩,⟨hr8.1,hr8.2.1,hset _ _ _ _ hr8.2.2⟩⟩
theorem Zoe (na nb : Bool) (A B : Option Addr) (n c m d : Nat) (za zb : Int) (w : World) (ha : Wd w na A n c za) (hb : Wd w nb B m d zb) (h0 : zb ≠ 0) (hy : 0 < za.natAbs % zb.natAbs) (hs : na = nb) :
    Calls Try.prog 37 #[.agg #[.bool na,.slice A n c],.agg #[.bool nb,.slice B m d]] w (Zg3 w za zb):=by
 have hLa:=ha.lim;have hLb:=hb.lim;have hn:=ha.2.1;have hm:=hb.2.1;have hdm:=hLb.2.2.1;have hmd:=hLb.2.1;unfold maxLen at hdm
 have hB0 : ∀ X Y Z V U : Obj,Below w.heap.size w (((((w.alloc X).alloc Y).alloc Z).alloc V).alloc U):=fun X Y Z V U=>(((((Below.refl w.heap.size w).alloc (Nat.le_refl _) _).alloc (by simp) _).alloc (by simp;omega) _).alloc (by simp;omega) _).alloc (by simp;omega) _
 have hW : ∀ X Y Z V t,WL (((((w.alloc X).alloc Y).alloc Z).alloc V).alloc (.cells #[.bool na,.slice A n c,.bool nb,.slice B m d] t)) (some ⟨w.heap.size + 1 + 1 + 1 + 1,0,none⟩) 2 2 [⟨na,A,n,c,digits za.natAbs⟩,⟨nb,B,m,d,digits zb.natAbs⟩]:=fun X Y Z V t=>by
  have:=WL.two (neg:=na) (neg':=nb) ((((hLa.alloc X).alloc Y).alloc Z).alloc V) ((((hLb.alloc X).alloc Y).alloc Z).alloc V) t;simp only [World.size_alloc] at this;exact this
 have hW:=Zb hW;have hB0:=Zb hB0;have hgood : Hid (okW na (digits za.natAbs) = true /\ okW nb (digits zb.natAbs) = true):=⟨ha.ok,hb.ok⟩;have hza:=ha.sgEq;have hzb:=hb.sgEq;rw [Zg] at hza hzb;have hU:=ha.small;have hV:=hb.small;clear ha hb
 have hV0 : 0 < zb.natAbs:=by omega
 have hm0 : 0 < m:=by rw [<- hLb.len];exact length_digits_pos.2 hV0
 have hm0' : ((m : Int) == 0) = false:=by simp;omega
 obtain ⟨hzq,hzr⟩:=Zge na nb za.natAbs zb.natAbs hV0 (Or.inr hs);rw [hza,hzb] at hzq hzr;clear hza hzb h0
 generalize za.natAbs = U at *
 generalize zb.natAbs = V at *
 have hsq : (sg (na != nb) (U / V)).natAbs < pw 4096:=by rw [Z5];exact Nat.lt_of_le_of_lt (Nat.div_le_self _ _) hU
 have hsr : (sg nb (U % V)).natAbs < pw 4096:=by rw [Z5];exact Nat.lt_trans (Nat.mod_lt _ hV0) hV
 rw [<- hzq] at hsq;rw [<- hzr] at hsr
 have hfin : Hid (∀ (e : Ending) (w' : World),(Below w.heap.size w w' /\ ∃ nq Aq kq cq nr Ar kr cr,e = .returned (.tuple #[.agg #[.bool nq,.slice Aq kq cq],.agg #[.bool nr,.slice Ar kr cr],.int .i64 0]) /\ Wd w' nq Aq kq cq (Int.fdiv za zb) /\ Wd w' nr Ar kr cr (Int.fmod za zb)) -> Zg3 w za zb e w'):=fun _ _ h=>h
 generalize Int.fdiv za zb = ZQ at *
 generalize Int.fmod za zb = ZR at *
 replace hzq:=Zb hzq;replace hzr:=Zb hzr;subst hs
 have hnn : (na != na) = false:=by simp
 go_enter Try.func37,Try.ntmps37;go_wp2_with fail;refine (Zdl (hW.out _ _ _ _ _) (by have:=hgood.out;simp [WE.ok,this])).mono ?_;rintro e w1 ⟨rfl,hb1⟩;obtain ⟨hc1,hf1⟩:=Zca hb1
 have hz1 : w.heap.size + 1 + 1 + 1 + 1 < w1.heap.size:=by have:=hb1.size;simp at this;omega
 have hB1 : Below w.heap.size w w1:=(hB0.out _ _ _ _ _).trans (hb1.mono (by simp;omega))
 have g0 : w1.cell? ⟨w.heap.size,0,none⟩ = some (.bool na):=by simp [hc1,go_sem]
 have g1 : w1.cell? ⟨w.heap.size,1,none⟩ = some (.slice A n c):=by simp [hc1,go_sem]
 have g2 : w1.cell? ⟨w.heap.size + 1,0,none⟩ = some (.bool na):=by simp [hc1,go_sem]
 have g3 : w1.cell? ⟨w.heap.size + 1,1,none⟩ = some (.slice B m d):=by simp [hc1,go_sem]
 have bq : Hid (Blk w1 (w.heap.size + 1 + 1) 26 #[.bool false,.slice none 0 0]):=by
  refine Zd hb1 (Blk.alloc (Blk.alloc ?_ _) _);have:=Blk.new ((w.alloc (.cells #[.bool na,.slice A n c] 26)).alloc (.cells #[.bool na,.slice B m d] 26)) 26 #[.bool false,.slice none 0 0];simp only [World.size_alloc] at this;exact this
 have br : Hid (Blk w1 (w.heap.size + 1 + 1 + 1) 26 #[.bool false,.slice none 0 0]):=by
  refine Zd hb1 (Blk.alloc ?_ _);have:=Blk.new (((w.alloc (.cells #[.bool na,.slice A n c] 26)).alloc (.cells #[.bool na,.slice B m d] 26)).alloc (.cells #[.bool false,.slice none 0 0] 26)) 26 #[.bool false,.slice none 0 0];simp only [World.size_alloc] at this;exact this
 have hLa1:=hLa.below hB1;have hLb1:=hLb.below hB1;clear hc1 hf1;go_wp2_with fail;refine (Zfh _ _ _ _ _ _ U V _ hLa1 hLb1 (by omega) hV0).mono ?_;rintro e w2 ⟨A2,n2,c2,B2,m2,d2,rfl,hLx,hLy,hb2⟩;have hB2 : Below w.heap.size w w2:=hB1.trans (hb2.mono hB1.size);have hcm2:=hLy.2.2.1;have hmd2:=hLy.2.1;unfold maxLen at hcm2;have g02:=Za hb2 g0;have g12:=Za hb2 g1;have g22:=Za hb2 g2;have g32:=Za hb2 g3;have bq2 : Hid (Blk _ _ _ _):=Zd hb2 bq.out;have br2 : Hid (Blk _ _ _ _):=Zd hb2 br.out
 have hm2 : 0 < m2:=by rw [<- hLy.len];exact length_digits_pos.2 hy
 go_wp2_with fail;refine (Zbk _ _ _ _ _ _ hLx).mono ?_;rintro e w5 ⟨hb5,neg5,A5,n5,c5,code5,rfl,hR5⟩;have hB5 : Below w.heap.size w w5:=hB2.trans (hb5.mono hB2.size);have g05:=Za hb5 g02;have g15:=Za hb5 g12;have g25:=Za hb5 g22;have g35:=Za hb5 g32;have bq5 : Hid (Blk _ _ _ _):=Zd hb5 bq2.out;have br5 : Hid (Blk _ _ _ _):=Zd hb5 br2.out;have hzq2:=hzq.out;rw [hnn] at hzq2;rw [Zg,<- hzq2] at hR5
 rcases hR5 with ⟨-,rfl,hq5⟩ | ⟨hbig,-⟩
 case inr=>exact absurd hsq (by omega)
 have q1:=bq5.out.cell 0;have q2:=bq5.out.cell 1;have q3:=bq5.out.frozen 0;have q4:=bq5.out.frozen 1
 simp at q1 q2
 go_wp2_with fail
 generalize hw6 : (w5.setCell ⟨w.heap.size + 1 + 1,0,none⟩ (.bool neg5)).setCell ⟨w.heap.size + 1 + 1,1,none⟩ (.slice A5 n5 c5) = w6
 have bq6 : Hid (Blk w6 (w.heap.size + 1 + 1) 26 #[.bool neg5,.slice A5 n5 c5]):=by rw [<- hw6];exact (bq5.out.set_ 0 _).set_ 1 _
 have br6 : Hid (Blk w6 (w.heap.size + 1 + 1 + 1) 26 #[.bool false,.slice none 0 0]):=by rw [<- hw6];exact (br5.out.far (by simp <;> omega) _).far (by simp <;> omega) _
 have hB6 : Below w.heap.size w w6:=by rw [<- hw6];exact (hB5.setCell (p:=⟨w.heap.size + 1 + 1,0,none⟩) (by simp <;> omega) _).setCell (p:=⟨w.heap.size + 1 + 1,1,none⟩) (by simp <;> omega) _
 have hq6 : Wd w6 neg5 A5 n5 c5 ZQ:=by
  rw [<- hw6];exact ⟨hq5.1,hq5.2.1,Lim.set_box (Lim.set_box hq5.2.2 bq5.out (NoLimb.box _ _ _ _) 0 _) (bq5.out.set_ 0 _) (NoLimb.box _ _ _ _) 1 _⟩
 have hLr6 : Lim w6 B2 m2 d2 (digits (U % V)):=by
  rw [<- hw6];exact Lim.set_box (Lim.set_box (hLy.below hb5) bq5.out (NoLimb.box _ _ _ _) 0 _) (bq5.out.set_ 0 _) (NoLimb.box _ _ _ _) 1 _
 clear hw6 q1 q2 q3 q4 hq5;refine (Zbk _ _ _ _ _ _ hLr6).mono ?_;rintro e w7 ⟨hb7,neg7,A7,n7,c7,code7,rfl,hR7⟩;have hB7 : Below w.heap.size w w7:=hB6.trans (hb7.mono hB6.size);have bq7 : Hid (Blk w7 (w.heap.size + 1 + 1) 26 #[.bool neg5,.slice A5 n5 c5]):=Zd hb7 bq6.out;have br7 : Hid (Blk w7 (w.heap.size + 1 + 1 + 1) 26 #[.bool false,.slice none 0 0]):=Zd hb7 br6.out;rw [Zg,<- hzr.out] at hR7
 rcases hR7 with ⟨-,rfl,hr7⟩ | ⟨hbig,-⟩
 case inr=>exact absurd hsr (by omega)
 have r1:=br7.out.cell 0;have r2:=br7.out.cell 1;have r3:=br7.out.frozen 0;have r4:=br7.out.frozen 1
 simp at r1 r2
 go_wp2_with fail
 generalize hw8 : (w7.setCell ⟨w.heap.size + 1 + 1 + 1,0,none⟩ (.bool neg7)).setCell ⟨w.heap.size + 1 + 1 + 1,1,none⟩ (.slice A7 n7 c7) = w8
 have bq8 : Blk w8 (w.heap.size + 1 + 1) 26 #[.bool neg5,.slice A5 n5 c5]:=by rw [<- hw8];exact (bq7.out.far (by simp <;> omega) _).far (by simp <;> omega) _
 have br8 : Blk w8 (w.heap.size + 1 + 1 + 1) 26 #[.bool neg7,.slice A7 n7 c7]:=by rw [<- hw8];exact (br7.out.set_ 0 _).set_ 1 _
 have hB8 : Below w.heap.size w w8:=by rw [<- hw8];exact (hB7.setCell (p:=⟨w.heap.size + 1 + 1 + 1,0,none⟩) (by simp <;> omega) _).setCell (p:=⟨w.heap.size + 1 + 1 + 1,1,none⟩) (by simp <;> omega) _
 have hq8 : Wd w8 neg5 A5 n5 c5 ZQ:=by
  rw [<- hw8];have hq7:=hq6.below hb7;exact ⟨hq7.1,hq7.2.1,Lim.set_box (Lim.set_box hq7.2.2 br7.out (NoLimb.box _ _ _ _) 0 _) (br7.out.set_ 0 _) (NoLimb.box _ _ _ _) 1 _⟩
 have hr8 : Wd w8 neg7 A7 n7 c7 ZR:=by
  rw [<- hw8];exact ⟨hr7.1,hr7.2.1,Lim.set_box (Lim.set_box hr7.2.2 br7.out (NoLimb.box _ _ _ _) 0 _) (br7.out.set_ 0 _) (NoLimb.box _ _ _ _) 1 _⟩
 have s1:=bq8.cell 0;have s2:=bq8.cell 1;have s3:=bq8.frozen 0;have s4:=bq8.frozen 1;have s5:=br8.cell 0;have s6:=br8.cell 1;have s7:=br8.frozen 0;have s8:=br8.frozen 1
 simp at s1 s2 s5 s6
 replace bq8:=Zb bq8;replace br8:=Zb br8;clear hw8 r1 r2 r3 r4
 go_region
 go_wp2
 generalize hw9 : ((((w8.setCell ⟨w.heap.size + 1 + 1,0,none⟩ (.bool neg5)).setCell ⟨w.heap.size + 1 + 1,1,none⟩ (.slice A5 n5 c5)).setCell ⟨w.heap.size + 1 + 1 + 1,0,none⟩ (.bool neg7)).setCell ⟨w.heap.size + 1 + 1 + 1,1,none⟩ (.slice A7 n7 c7)).drew = w9
 have b1:=(bq8.out.set_ 0 (.bool neg5)).set_ 1 (.slice A5 n5 c5);have b2:=(br8.out.far (p:=⟨w.heap.size + 1 + 1,0,none⟩) (by simp <;> omega) (.bool neg5)).far (p:=⟨w.heap.size + 1 + 1,1,none⟩) (by simp <;> omega) (.slice A5 n5 c5)
 have b3 : Blk w9 (w.heap.size + 1 + 1) 26 #[.bool neg5,.slice A5 n5 c5]:=by rw [<- hw9];exact (b1.far (by simp <;> omega) _).far (by simp <;> omega) _
 have b4 : Blk w9 (w.heap.size + 1 + 1 + 1) 26 #[.bool neg7,.slice A7 n7 c7]:=by rw [<- hw9];exact (b2.set_ 0 _).set_ 1 _
 have hB9 : Below w.heap.size w w9:=by rw [<- hw9];exact Zr ((((hB8.setCell (p:=⟨w.heap.size + 1 + 1,0,none⟩) (by simp <;> omega) _).setCell (p:=⟨w.heap.size + 1 + 1,1,none⟩) (by simp <;> omega) _).setCell (p:=⟨w.heap.size + 1 + 1 + 1,0,none⟩) (by simp <;> omega) _).setCell (p:=⟨w.heap.size + 1 + 1 + 1,1,none⟩) (by simp <;> omega) _) 1
 have hset : ∀ (A : Option Addr) (n c : Nat) (l : List Nat),Lim w8 A n c l -> Lim w9 A n c l:=fun A n c l h=>by
  rw [<- hw9];exact Lim.set_box (Lim.set_box (Lim.set_box (Lim.set_box h bq8.out (NoLimb.box _ _ _ _) 0 _) (bq8.out.set_ 0 _) (NoLimb.box _ _ _ _) 1 _) b2 (NoLimb.box _ _ _ _) 0 _) (b2.set_ 0 _) (NoLimb.box _ _ _ _) 1 _
 have t1:=b3.cell 0;have t2:=b3.cell 1;have t3:=b4.cell 0;have t4:=b4.cell 1
 simp at t1 t2 t3 t4
 refine bodyPost_ret (v:=.tuple #[.agg #[.bool neg5,.slice A5 n5 c5],.agg #[.bool neg7,.slice A7 n7 c7],.int .i64 0]) (by simp [results,Try.results37,go_sem,t1,t2,t3,t4]) rfl ?_;exact hfin.out _ _ ⟨hB9,_,_,_,_,_,_,_,_,rfl,⟨hq8.1,hq8.2.1,hset _ _ _ _ hq8.2.2⟩,⟨hr8.1,hr8.2.1,hset _ _ _ _ hr8.2.2⟩⟩
theorem Zmc (na nb : Bool) (A B : Option Addr) (n c m d : Nat) (za zb : Int) (w : World) (ha : Wd w na A n c za) (hb : Wd w nb B m d zb) (h0 : zb ≠ 0) (hy : 0 < za.natAbs % zb.natAbs) (hs : na ≠ nb) :
    Calls Try.prog 37 #[.agg #[.bool na,.slice A n c],.agg #[.bool nb,.slice B m d]] w (Zg3 w za zb):=by
 have hLa:=ha.lim;have hLb:=hb.lim;have hn:=ha.2.1;have hm:=hb.2.1;have hdm:=hLb.2.2.1;have hmd:=hLb.2.1;unfold maxLen at hdm
 have hB0 : ∀ X Y Z V U : Obj,Below w.heap.size w (((((w.alloc X).alloc Y).alloc Z).alloc V).alloc U):=fun X Y Z V U=>(((((Below.refl w.heap.size w).alloc (Nat.le_refl _) _).alloc (by simp) _).alloc (by simp;omega) _).alloc (by simp;omega) _).alloc (by simp;omega) _
 have hW : ∀ X Y Z V t,WL (((((w.alloc X).alloc Y).alloc Z).alloc V).alloc (.cells #[.bool na,.slice A n c,.bool nb,.slice B m d] t)) (some ⟨w.heap.size + 1 + 1 + 1 + 1,0,none⟩) 2 2 [⟨na,A,n,c,digits za.natAbs⟩,⟨nb,B,m,d,digits zb.natAbs⟩]:=fun X Y Z V t=>by
  have:=WL.two (neg:=na) (neg':=nb) ((((hLa.alloc X).alloc Y).alloc Z).alloc V) ((((hLb.alloc X).alloc Y).alloc Z).alloc V) t;simp only [World.size_alloc] at this;exact this
 have hW:=Zb hW;have hB0:=Zb hB0;have hgood : Hid (okW na (digits za.natAbs) = true /\ okW nb (digits zb.natAbs) = true):=⟨ha.ok,hb.ok⟩;have hza:=ha.sgEq;have hzb:=hb.sgEq;rw [Zg] at hza hzb;have hU:=ha.small;have hV:=hb.small;clear ha hb
 have hV0 : 0 < zb.natAbs:=by omega
 have hm0 : 0 < m:=by rw [<- hLb.len];exact length_digits_pos.2 hV0
 have hm0' : ((m : Int) == 0) = false:=by simp;omega
 obtain ⟨hzq,hzr⟩:=Zlb na nb za.natAbs zb.natAbs hV0 hy hs;rw [hza,hzb] at hzq hzr;clear hza hzb h0
 generalize za.natAbs = U at *
 generalize zb.natAbs = V at *
 have hsq : (sg (na != nb) (U / V + 1)).natAbs < pw 4096:=by
  rw [Z5];have h1:=Nat.div_add_mod U V;have h2:=Nat.mod_lt U hV0
  rcases Nat.lt_or_ge 1 V with h | h
  ·have : U / V + U / V <= V * (U / V):=by rw [<- Nat.two_mul];exact Nat.mul_le_mul_right _ h
   omega
  ·omega
 have hsr : (sg nb (V - U % V)).natAbs < pw 4096:=by rw [Z5];omega
 rw [<- hzq] at hsq;rw [<- hzr] at hsr
 have hfin : Hid (∀ (e : Ending) (w' : World),(Below w.heap.size w w' /\ ∃ nq Aq kq cq nr Ar kr cr,e = .returned (.tuple #[.agg #[.bool nq,.slice Aq kq cq],.agg #[.bool nr,.slice Ar kr cr],.int .i64 0]) /\ Wd w' nq Aq kq cq (Int.fdiv za zb) /\ Wd w' nr Ar kr cr (Int.fmod za zb)) -> Zg3 w za zb e w'):=fun _ _ h=>h
 generalize Int.fdiv za zb = ZQ at *
 generalize Int.fmod za zb = ZR at *
 replace hzq:=Zb hzq;replace hzr:=Zb hzr
 have hnn1 : (na != nb) = true:=by simpa using hs
 have hnn : (na == nb) = false:=by simpa using hs
 replace hnn1:=Zb hnn1;go_enter Try.func37,Try.ntmps37;go_wp2_with fail;refine (Zdl (hW.out _ _ _ _ _) (by have:=hgood.out;simp [WE.ok,this])).mono ?_;rintro e w1 ⟨rfl,hb1⟩;obtain ⟨hc1,hf1⟩:=Zca hb1
 have hz1 : w.heap.size + 1 + 1 + 1 + 1 < w1.heap.size:=by have:=hb1.size;simp at this;omega
 have hB1 : Below w.heap.size w w1:=(hB0.out _ _ _ _ _).trans (hb1.mono (by simp;omega))
 have g0 : w1.cell? ⟨w.heap.size,0,none⟩ = some (.bool na):=by simp [hc1,go_sem]
 have g1 : w1.cell? ⟨w.heap.size,1,none⟩ = some (.slice A n c):=by simp [hc1,go_sem]
 have g2 : w1.cell? ⟨w.heap.size + 1,0,none⟩ = some (.bool nb):=by simp [hc1,go_sem]
 have g3 : w1.cell? ⟨w.heap.size + 1,1,none⟩ = some (.slice B m d):=by simp [hc1,go_sem]
 have bq : Hid (Blk w1 (w.heap.size + 1 + 1) 26 #[.bool false,.slice none 0 0]):=by
  refine Zd hb1 (Blk.alloc (Blk.alloc ?_ _) _);have:=Blk.new ((w.alloc (.cells #[.bool na,.slice A n c] 26)).alloc (.cells #[.bool nb,.slice B m d] 26)) 26 #[.bool false,.slice none 0 0];simp only [World.size_alloc] at this;exact this
 have br : Hid (Blk w1 (w.heap.size + 1 + 1 + 1) 26 #[.bool false,.slice none 0 0]):=by
  refine Zd hb1 (Blk.alloc ?_ _);have:=Blk.new (((w.alloc (.cells #[.bool na,.slice A n c] 26)).alloc (.cells #[.bool nb,.slice B m d] 26)).alloc (.cells #[.bool false,.slice none 0 0] 26)) 26 #[.bool false,.slice none 0 0];simp only [World.size_alloc] at this;exact this
 have hLa1:=hLa.below hB1;have hLb1:=hLb.below hB1;clear hc1 hf1;go_wp2_with fail;refine (Zfh _ _ _ _ _ _ U V _ hLa1 hLb1 (by omega) hV0).mono ?_;rintro e w2 ⟨A2,n2,c2,B2,m2,d2,rfl,hLx,hLy,hb2⟩;have hB2 : Below w.heap.size w w2:=hB1.trans (hb2.mono hB1.size);have hcm2:=hLy.2.2.1;have hmd2:=hLy.2.1;unfold maxLen at hcm2;have g02:=Za hb2 g0;have g12:=Za hb2 g1;have g22:=Za hb2 g2;have g32:=Za hb2 g3;have bq2 : Hid (Blk _ _ _ _):=Zd hb2 bq.out;have br2 : Hid (Blk _ _ _ _):=Zd hb2 br.out
 have hm2 : 0 < m2:=by rw [<- hLy.len];exact length_digits_pos.2 hy
 have hmm2 : m2 <= m:=by have:=Zy (Nat.le_of_lt (Nat.mod_lt U hV0));rw [hLy.len,hLb.len] at this;exact this
 have hnn2 : n2 <= n:=by have:=Zy (Nat.div_le_self U V);rw [hLx.len,hLa.len] at this;exact this
 have hL1 : ∀ t,Lim (w2.alloc (.cells #[limb 1] t)) (some ⟨w2.heap.size,0,none⟩) 1 1 [1]:=fun t=>by
  have:=Lim.of_blk (l:=[1]) (Blk.new w2 t (Zt [1])) (Lt32.cons (by decide) Lt32.nil) (by simp [maxLen]);exact this
 have HL1:=Zb hL1;clear hL1;go_wp2_with fail;refine (Znu _ _ _ _ _ _ _ _ _ (hLx.alloc _) (HL1.out _) (by omega) (by omega)).mono ?_;rintro e w3 ⟨A3,n3,c3,l3,rfl,hL3,hP3,hb3'⟩;have hb3 : Below w2.heap.size w2 w3:=((Below.refl w2.heap.size w2).alloc (Nat.le_refl _) _).trans (hb3'.mono (by simp));have hB3 : Below w.heap.size w w3:=hB2.trans (hb3.mono hB2.size);have hv3:=hP3.2;replace hv3:=Zb hv3;clear hP3;have g03:=Za hb3 g02;have g13:=Za hb3 g12;have g23:=Za hb3 g22;have g33:=Za hb3 g32;have bq3 : Hid (Blk _ _ _ _):=Zd hb3 bq2.out;have br3 : Hid (Blk _ _ _ _):=Zd hb3 br2.out;have hLb3:=(hLb.below hB2).below hb3;have hLy3:=hLy.below hb3
 have hlev : val (digits (U % V)) <= val (digits V):=by rw [Zg,Zg];exact Nat.le_of_lt (Nat.mod_lt U hV0)
 go_wp2_with fail;refine (Zh6 _ _ _ _ _ _ _ _ _ hLb3 hLy3 hmm2 hlev (by omega)).mono ?_;rintro e w4 ⟨A4,n4,c4,l4,rfl,hL4,hP4,hb4⟩;have hB4 : Below w.heap.size w w4:=hB3.trans (hb4.mono hB3.size);have hv4:=hP4.2;replace hv4:=Zb hv4;clear hP4 hlev;have hL34:=hL3.below hb4;have g04:=Za hb4 g03;have g14:=Za hb4 g13;have g24:=Za hb4 g23;have g34:=Za hb4 g33;have bq4 : Hid (Blk _ _ _ _):=Zd hb4 bq3.out;have br4 : Hid (Blk _ _ _ _):=Zd hb4 br3.out;go_wp2_with fail;refine (Zbk _ _ _ _ _ _ hL34).mono ?_;rintro e w5 ⟨hb5,neg5,A5,n5,c5,code5,rfl,hR5⟩;have hB5 : Below w.heap.size w w5:=hB4.trans (hb5.mono hB4.size);have g05:=Za hb5 g04;have g15:=Za hb5 g14;have g25:=Za hb5 g24;have g35:=Za hb5 g34;have bq5 : Hid (Blk _ _ _ _):=Zd hb5 bq4.out;have br5 : Hid (Blk _ _ _ _):=Zd hb5 br4.out
 have hvr : val l4 = V - U % V:=by have:=hv4.out;rw [Zg,Zg] at this;omega
 have hzq2:=hzq.out;rw [hnn1.out] at hzq2;rw [hv3.out,Zg,show val [1] = 1 from rfl,<- hzq2] at hR5
 rcases hR5 with ⟨-,rfl,hq5⟩ | ⟨hbig,-⟩
 case inr=>exact absurd hsq (by omega)
 have q1:=bq5.out.cell 0;have q2:=bq5.out.cell 1;have q3:=bq5.out.frozen 0;have q4:=bq5.out.frozen 1
 simp at q1 q2
 go_wp2_with fail
 generalize hw6 : (w5.setCell ⟨w.heap.size + 1 + 1,0,none⟩ (.bool neg5)).setCell ⟨w.heap.size + 1 + 1,1,none⟩ (.slice A5 n5 c5) = w6
 have bq6 : Hid (Blk w6 (w.heap.size + 1 + 1) 26 #[.bool neg5,.slice A5 n5 c5]):=by rw [<- hw6];exact (bq5.out.set_ 0 _).set_ 1 _
 have br6 : Hid (Blk w6 (w.heap.size + 1 + 1 + 1) 26 #[.bool false,.slice none 0 0]):=by rw [<- hw6];exact (br5.out.far (by simp <;> omega) _).far (by simp <;> omega) _
 have hB6 : Below w.heap.size w w6:=by rw [<- hw6];exact (hB5.setCell (p:=⟨w.heap.size + 1 + 1,0,none⟩) (by simp <;> omega) _).setCell (p:=⟨w.heap.size + 1 + 1,1,none⟩) (by simp <;> omega) _
 have hq6 : Wd w6 neg5 A5 n5 c5 ZQ:=by
  rw [<- hw6];exact ⟨hq5.1,hq5.2.1,Lim.set_box (Lim.set_box hq5.2.2 bq5.out (NoLimb.box _ _ _ _) 0 _) (bq5.out.set_ 0 _) (NoLimb.box _ _ _ _) 1 _⟩
 have hLr6 : Lim w6 A4 n4 c4 l4:=by
  rw [<- hw6];exact Lim.set_box (Lim.set_box (hL4.below hb5) bq5.out (NoLimb.box _ _ _ _) 0 _) (bq5.out.set_ 0 _) (NoLimb.box _ _ _ _) 1 _
 clear hw6 q1 q2 q3 q4 hq5;refine (Zbk _ _ _ _ _ _ hLr6).mono ?_;rintro e w7 ⟨hb7,neg7,A7,n7,c7,code7,rfl,hR7⟩;have hB7 : Below w.heap.size w w7:=hB6.trans (hb7.mono hB6.size);have bq7 : Hid (Blk w7 (w.heap.size + 1 + 1) 26 #[.bool neg5,.slice A5 n5 c5]):=Zd hb7 bq6.out;have br7 : Hid (Blk w7 (w.heap.size + 1 + 1 + 1) 26 #[.bool false,.slice none 0 0]):=Zd hb7 br6.out;rw [hvr,<- hzr.out] at hR7
 rcases hR7 with ⟨-,rfl,hr7⟩ | ⟨hbig,-⟩
 case inr=>exact absurd hsr (by omega)
 have r1:=br7.out.cell 0;have r2:=br7.out.cell 1;have r3:=br7.out.frozen 0;have r4:=br7.out.frozen 1
 simp at r1 r2
 go_wp2_with fail
 generalize hw8 : (w7.setCell ⟨w.heap.size + 1 + 1 + 1,0,none⟩ (.bool neg7)).setCell ⟨w.heap.size + 1 + 1 + 1,1,none⟩ (.slice A7 n7 c7) = w8
 have bq8 : Blk w8 (w.heap.size + 1 + 1) 26 #[.bool neg5,.slice A5 n5 c5]:=by rw [<- hw8];exact (bq7.out.far (by simp <;> omega) _).far (by simp <;> omega) _
 have br8 : Blk w8 (w.heap.size + 1 + 1 + 1) 26 #[.bool neg7,.slice A7 n7 c7]:=by rw [<- hw8];exact (br7.out.set_ 0 _).set_ 1 _
 have hB8 : Below w.heap.size w w8:=by rw [<- hw8];exact (hB7.setCell (p:=⟨w.heap.size + 1 + 1 + 1,0,none⟩) (by simp <;> omega) _).setCell (p:=⟨w.heap.size + 1 + 1 + 1,1,none⟩) (by simp <;> omega) _
 have hq8 : Wd w8 neg5 A5 n5 c5 ZQ:=by
  rw [<- hw8];have hq7:=hq6.below hb7;exact ⟨hq7.1,hq7.2.1,Lim.set_box (Lim.set_box hq7.2.2 br7.out (NoLimb.box _ _ _ _) 0 _) (br7.out.set_ 0 _) (NoLimb.box _ _ _ _) 1 _⟩
 have hr8 : Wd w8 neg7 A7 n7 c7 ZR:=by
  rw [<- hw8];exact ⟨hr7.1,hr7.2.1,Lim.set_box (Lim.set_box hr7.2.2 br7.out (NoLimb.box _ _ _ _) 0 _) (br7.out.set_ 0 _) (NoLimb.box _ _ _ _) 1 _⟩
 have s1:=bq8.cell 0;have s2:=bq8.cell 1;have s3:=bq8.frozen 0;have s4:=bq8.frozen 1;have s5:=br8.cell 0;have s6:=br8.cell 1;have s7:=br8.frozen 0;have s8:=br8.frozen 1
 simp at s1 s2 s5 s6
 replace bq8:=Zb bq8;replace br8:=Zb br8;clear hw8 r1 r2 r3 r4
 go_region
 go_wp2
 generalize hw9 : ((((w8.setCell ⟨w.heap.size + 1 + 1,0,none⟩ (.bool neg5)).setCell ⟨w.heap.size + 1 + 1,1,none⟩ (.slice A5 n5 c5)).setCell ⟨w.heap.size + 1 + 1 + 1,0,none⟩ (.bool neg7)).setCell ⟨w.heap.size + 1 + 1 + 1,1,none⟩ (.slice A7 n7 c7)).drew = w9
 have b1:=(bq8.out.set_ 0 (.bool neg5)).set_ 1 (.slice A5 n5 c5);have b2:=(br8.out.far (p:=⟨w.heap.size + 1 + 1,0,none⟩) (by simp <;> omega) (.bool neg5)).far (p:=⟨w.heap.size + 1 + 1,1,none⟩) (by simp <;> omega) (.slice A5 n5 c5)
 have b3 : Blk w9 (w.heap.size + 1 + 1) 26 #[.bool neg5,.slice A5 n5 c5]:=by rw [<- hw9];exact (b1.far (by simp <;> omega) _).far (by simp <;> omega) _
 have b4 : Blk w9 (w.heap.size + 1 + 1 + 1) 26 #[.bool neg7,.slice A7 n7 c7]:=by rw [<- hw9];exact (b2.set_ 0 _).set_ 1 _
 have hB9 : Below w.heap.size w w9:=by rw [<- hw9];exact Zr ((((hB8.setCell (p:=⟨w.heap.size + 1 + 1,0,none⟩) (by simp <;> omega) _).setCell (p:=⟨w.heap.size + 1 + 1,1,none⟩) (by simp <;> omega) _).setCell (p:=⟨w.heap.size + 1 + 1 + 1,0,none⟩) (by simp <;> omega) _).setCell (p:=⟨w.heap.size + 1 + 1 + 1,1,none⟩) (by simp <;> omega) _) 1
 have hset : ∀ (A : Option Addr) (n c : Nat) (l : List Nat),Lim w8 A n c l -> Lim w9 A n c l:=fun A n c l h=>by
  rw [<- hw9];exact Lim.set_box (Lim.set_box (Lim.set_box (Lim.set_box h bq8.out (NoLimb.box _ _ _ _) 0 _) (bq8.out.set_ 0 _) (NoLimb.box _ _ _ _) 1 _) b2 (NoLimb.box _ _ _ _) 0 _) (b2.set_ 0 _) (NoLimb.box _ _ _ _) 1 _
 have t1:=b3.cell 0;have t2:=b3.cell 1;have t3:=b4.cell 0;have t4:=b4.cell 1
 simp at t1 t2 t3 t4
 refine bodyPost_ret (v:=.tuple #[.agg #[.bool neg5,.slice A5 n5 c5],.agg #[.bool neg7,.slice A7 n7 c7],.int .i64 0]) (by simp [results,Try.results37,go_sem,t1,t2,t3,t4]) rfl ?_;exact hfin.out _ _ ⟨hB9,_,_,_,_,_,_,_,_,rfl,⟨hq8.1,hq8.2.1,hset _ _ _ _ hq8.2.2⟩,⟨hr8.1,hr8.2.1,hset _ _ _ _ hr8.2.2⟩⟩
theorem Zgc (na nb : Bool) (A B : Option Addr) (n c m d : Nat) (za zb : Int) (w : World) (ha : Wd w na A n c za) (hb : Wd w nb B m d zb) (h0 : zb ≠ 0) :
    Calls Try.prog 37 #[.agg #[.bool na,.slice A n c],.agg #[.bool nb,.slice B m d]] w (Zg3 w za zb):=by
 rcases Nat.eq_zero_or_pos (za.natAbs % zb.natAbs) with hy | hy
 ·exact Znb na nb A B n c m d za zb w ha hb h0 hy
 ·by_cases hs : na = nb
  ·exact Zoe na nb A B n c m d za zb w ha hb h0 hy hs
  ·exact Zmc na nb A B n c m d za zb w ha hb h0 hy hs
end Go.Proofs.Ythappeninglakaa
