/- Package wide: Add. Package wide: Sub. From, of the program -/
import Derived.Test.YthappeninglakaaZq04
set_option maxRecDepth 100000
set_option maxHeartbeats 1000000
set_option linter.unusedSimpArgs false
set_option linter.unusedVariables false
namespace Go.Proofs.Ythappeninglakaa
open Go.RowKit
attribute [local go_sem] Zj
theorem Add_ok (na nb : Bool) (A B : Option Addr) (n c m d : Nat) (za zb : Int) (w : World) (ha : Wd w na A n c za) (hb : Wd w nb B m d zb) :
    Calls Try.prog 33 #[.agg #[.bool na,.slice A n c],.agg #[.bool nb,.slice B m d]] w (ResW w (za + zb)):=by
 have hLa:=ha.lim;have hLb:=hb.lim;have hn:=ha.2.1;have hm:=hb.2.1
 have hB0 : ∀ X Y Z V : Obj,Below w.heap.size w ((((w.alloc X).alloc Y).alloc Z).alloc V):=fun X Y Z V=>((((Below.refl w.heap.size w).alloc (Nat.le_refl _) _).alloc (by simp) _).alloc (by simp;omega) _).alloc (by simp;omega) _
 have hW : ∀ X Y Z t,WL ((((w.alloc X).alloc Y).alloc Z).alloc (.cells #[.bool na,.slice A n c,.bool nb,.slice B m d] t)) (some ⟨w.heap.size + 1 + 1 + 1,0,none⟩) 2 2 [⟨na,A,n,c,digits za.natAbs⟩,⟨nb,B,m,d,digits zb.natAbs⟩]:=fun X Y Z t=>by
  have:=WL.two (neg:=na) (neg':=nb) (((hLa.alloc X).alloc Y).alloc Z) (((hLb.alloc X).alloc Y).alloc Z) t;simp only [World.size_alloc] at this;exact this
 have hW:=Zb hW;have hB0:=Zb hB0;have hgood : Hid (okW na (digits za.natAbs) = true /\ okW nb (digits zb.natAbs) = true):=⟨ha.ok,hb.ok⟩;have hza:=Zb ha.sgEq;have hzb:=Zb hb.sgEq;clear ha hb;go_enter Try.func33,Try.ntmps33;go_wp2_with fail;refine (Zdl (hW.out _ _ _ _) (by have:=hgood.out;simp [WE.ok,this])).mono ?_;rintro e w1 ⟨rfl,hb1⟩;obtain ⟨hc1,hf1⟩:=Zca hb1
 have hz1 : w.heap.size + 1 + 1 + 1 < w1.heap.size:=by have:=hb1.size;simp at this;omega
 have hB1 : Below w.heap.size w w1:=(hB0.out _ _ _ _).trans (hb1.mono (by simp;omega))
 have g0 : w1.cell? ⟨w.heap.size,0,none⟩ = some (.bool na):=by simp [hc1,go_sem]
 have g1 : w1.cell? ⟨w.heap.size,1,none⟩ = some (.slice A n c):=by simp [hc1,go_sem]
 have g2 : w1.cell? ⟨w.heap.size + 1,0,none⟩ = some (.bool nb):=by simp [hc1,go_sem]
 have g3 : w1.cell? ⟨w.heap.size + 1,1,none⟩ = some (.slice B m d):=by simp [hc1,go_sem]
 have gf : w1.frozen? ⟨w.heap.size + 1,0,none⟩ = false:=by simp [hf1,go_sem]
 have gB : Blk w1 (w.heap.size + 1) 26 #[.bool nb,.slice B m d]:=by
  refine Zd hb1 ((Blk.alloc (Blk.alloc ?_ _) _));have:=Blk.new (w.alloc (.cells #[.bool na,.slice A n c] 26)) 26 #[.bool nb,.slice B m d];simp only [World.size_alloc] at this;exact this
 have g7 : Blk w1 (w.heap.size + 1 + 1) 26 #[.bool false,.slice none 0 0]:=by
  refine Zd hb1 (Blk.alloc ?_ _);have:=Blk.new ((w.alloc (.cells #[.bool na,.slice A n c] 26)).alloc (.cells #[.bool nb,.slice B m d] 26)) 26 #[.bool false,.slice none 0 0];simp only [World.size_alloc] at this;exact this
 have hLa1:=hLa.below hB1;have hLb1:=hLb.below hB1;have HB:=Zb gB;clear gB hc1 hf1;go_wp2_with fail;refine (Zpv _ _ _ _ _ _ _ _ _ _ _ (by exact hLa1) (by exact hLb1) hn hm).mono ?_;rintro e w2 ⟨hb2,neg2,A2,n2,c2,code2,rfl,hR2⟩;have hB2 : Below w.heap.size w w2:=hB1.trans (hb2.mono hB1.size);have m7:=Zd hb2 g7;have m3:=m7.cell 0;have m4:=m7.cell 1;have m5:=m7.frozen 0;have m6:=m7.frozen 1
 simp at m3 m4
 have HM:=Zb m7;clear m7;go_wp2_with fail
 have HZ : sg na za.natAbs + sg nb zb.natAbs = za + zb:=by
  have h1:=hza.out;have h2:=hzb.out;rw [Zg] at h1 h2;rw [h1,h2]
 refine bodyPost_ret (v:=.tuple #[.agg #[.bool neg2,.slice A2 n2 c2],.int .i64 code2]) (by simp [results,Try.results33,go_sem,m3,m4]) rfl ?_;exact ResW.box (HZ ▸ hR2) hB2 (by omega) HM.out
theorem Sub_ok (na nb : Bool) (A B : Option Addr) (n c m d : Nat) (za zb : Int) (w : World) (ha : Wd w na A n c za) (hb : Wd w nb B m d zb) :
    Calls Try.prog 34 #[.agg #[.bool na,.slice A n c],.agg #[.bool nb,.slice B m d]] w (ResW w (za - zb)):=by
 have hLa:=ha.lim;have hLb:=hb.lim;have hn:=ha.2.1;have hm:=hb.2.1
 have hB0 : ∀ X Y Z V : Obj,Below w.heap.size w ((((w.alloc X).alloc Y).alloc Z).alloc V):=fun X Y Z V=>((((Below.refl w.heap.size w).alloc (Nat.le_refl _) _).alloc (by simp) _).alloc (by simp;omega) _).alloc (by simp;omega) _
 have hW : ∀ X Y Z t,WL ((((w.alloc X).alloc Y).alloc Z).alloc (.cells #[.bool na,.slice A n c,.bool nb,.slice B m d] t)) (some ⟨w.heap.size + 1 + 1 + 1,0,none⟩) 2 2 [⟨na,A,n,c,digits za.natAbs⟩,⟨nb,B,m,d,digits zb.natAbs⟩]:=fun X Y Z t=>by
  have:=WL.two (neg:=na) (neg':=nb) (((hLa.alloc X).alloc Y).alloc Z) (((hLb.alloc X).alloc Y).alloc Z) t;simp only [World.size_alloc] at this;exact this
 have hW:=Zb hW;have hB0:=Zb hB0;have hgood : Hid (okW na (digits za.natAbs) = true /\ okW nb (digits zb.natAbs) = true):=⟨ha.ok,hb.ok⟩;have hza:=Zb ha.sgEq;have hzb:=Zb hb.sgEq;clear ha hb;go_enter Try.func34,Try.ntmps34;go_wp2_with fail;refine (Zdl (hW.out _ _ _ _) (by have:=hgood.out;simp [WE.ok,this])).mono ?_;rintro e w1 ⟨rfl,hb1⟩;obtain ⟨hc1,hf1⟩:=Zca hb1
 have hz1 : w.heap.size + 1 + 1 + 1 < w1.heap.size:=by have:=hb1.size;simp at this;omega
 have hB1 : Below w.heap.size w w1:=(hB0.out _ _ _ _).trans (hb1.mono (by simp;omega))
 have g0 : w1.cell? ⟨w.heap.size,0,none⟩ = some (.bool na):=by simp [hc1,go_sem]
 have g1 : w1.cell? ⟨w.heap.size,1,none⟩ = some (.slice A n c):=by simp [hc1,go_sem]
 have g2 : w1.cell? ⟨w.heap.size + 1,0,none⟩ = some (.bool nb):=by simp [hc1,go_sem]
 have g3 : w1.cell? ⟨w.heap.size + 1,1,none⟩ = some (.slice B m d):=by simp [hc1,go_sem]
 have gf : w1.frozen? ⟨w.heap.size + 1,0,none⟩ = false:=by simp [hf1,go_sem]
 have gB : Blk w1 (w.heap.size + 1) 26 #[.bool nb,.slice B m d]:=by
  refine Zd hb1 ((Blk.alloc (Blk.alloc ?_ _) _));have:=Blk.new (w.alloc (.cells #[.bool na,.slice A n c] 26)) 26 #[.bool nb,.slice B m d];simp only [World.size_alloc] at this;exact this
 have g7 : Blk w1 (w.heap.size + 1 + 1) 26 #[.bool false,.slice none 0 0]:=by
  refine Zd hb1 (Blk.alloc ?_ _);have:=Blk.new ((w.alloc (.cells #[.bool na,.slice A n c] 26)).alloc (.cells #[.bool nb,.slice B m d] 26)) 26 #[.bool false,.slice none 0 0];simp only [World.size_alloc] at this;exact this
 have hLa1:=hLa.below hB1;have hLb1:=hLb.below hB1;have HB:=Zb gB;clear gB hc1 hf1
 have hB1S : w.heap.size <= (w1.setCell ⟨w.heap.size + 1,0,none⟩ (.bool (!nb))).heap.size:=by simp;omega
 go_wp2_with fail;refine (Zpv _ _ _ _ _ _ _ _ _ _ _ (by exact hLa1.set_box HB.out (NoLimb.box _ _ _ _) _ _) (by exact hLb1.set_box HB.out (NoLimb.box _ _ _ _) _ _) hn hm).mono ?_;rintro e w2 ⟨hb2,neg2,A2,n2,c2,code2,rfl,hR2⟩;have hB2 : Below w.heap.size w w2:=(hB1.setCell (p:=⟨w.heap.size + 1,0,none⟩) (by simp) _).trans (hb2.mono hB1S);have m7:=Zd hb2 (g7.far (by simp) _);have m3:=m7.cell 0;have m4:=m7.cell 1;have m5:=m7.frozen 0;have m6:=m7.frozen 1
 simp at m3 m4
 have HM:=Zb m7;clear m7;go_wp2_with fail
 have HZ : sg na za.natAbs + sg (!nb) zb.natAbs = za - zb:=by
  have h1:=hza.out;have h2:=hzb.out;rw [Zg] at h1 h2;rw [Zpi,h1,h2];omega
 refine bodyPost_ret (v:=.tuple #[.agg #[.bool neg2,.slice A2 n2 c2],.int .i64 code2]) (by simp [results,Try.results34,go_sem,m3,m4]) rfl ?_;exact ResW.box (HZ ▸ hR2) hB2 (by omega) HM.out
def NumW (w : World) (z : Int) (e : Ending) (w' : World) : Prop:=
 Below w.heap.size w w' /\ ∃ neg A n c,e = .returned (.agg #[.bool neg,.slice A n c]) /\ Wd w' neg A n c z
theorem Lim.pair (w : World) (t : TypeId) {v : Nat} (hv : v < 18446744073709551616) {X Y : Int} (hX : X = (v % 4294967296 : Nat)) (hY : Y = (v / 4294967296 : Nat)) :
    Lim (w.alloc (.cells #[.int .u32 X,.int .u32 Y] t)) (some ⟨w.heap.size,0,none⟩) 2 2 [v % 4294967296,v / 4294967296]:=by
 subst hX hY;exact Lim.of_blk (l:=[v % 4294967296,v / 4294967296]) (Blk.new w t _) (Lt32.cons (Nat.mod_lt _ (by decide)) (Lt32.cons (by omega) Lt32.nil)) (by unfold maxLen;simp)
theorem Lim.pair2 (w : World) (o : Obj) (t : TypeId) {v : Nat} (hv : v < 18446744073709551616) {X Y : Int} (hX : X = (v % 4294967296 : Nat)) (hY : Y = (v / 4294967296 : Nat)) :
    Lim ((w.alloc o).alloc (.cells #[.int .u32 X,.int .u32 Y] t)) (some ⟨w.heap.size + 1,0,none⟩) 2 2 [v % 4294967296,v / 4294967296]:=by
 have:=Lim.pair (w.alloc o) t hv hX hY;rw [World.size_alloc] at this;exact this
theorem Zcz {z : Int} (h : z.natAbs <= 9223372036854775808) : z.natAbs < pw 4096:=
 Nat.lt_of_lt_of_le (Nat.lt_of_le_of_lt h (show 9223372036854775808 < pw 2 by decide)) (Zdn (by omega))
theorem ResP.small {w : World} {z : Int} {neg : Bool} {A : Option Addr} {n c : Nat} {code : Int} (h : ResP w z neg A n c code) (hs : z.natAbs < pw 4096) : Wd w neg A n c z:=by
 rcases h with ⟨_,_,h⟩ | ⟨h,_⟩
 ·exact h
 ·omega
theorem Wd.alloc {w : World} {neg : Bool} {A : Option Addr} {n c : Nat} {z : Int} (h : Wd w neg A n c z) (o : Obj) : Wd (w.alloc o) neg A n c z:=⟨h.1,h.2.1,h.2.2.alloc o⟩
theorem NumW.box {w w3 : World} {z : Int} {neg : Bool} {A : Option Addr} {n c : Nat} {g : Nat} {t : TypeId} {b0 : Bool} {A0 : Option Addr} {n0 c0 : Nat} (hP : Wd w3 neg A n c z) (hB : Below w.heap.size w w3) (hg : w.heap.size <= g) (hb : Blk w3 g t #[.bool b0,.slice A0 n0 c0]) :
    NumW w z (.returned (.agg #[.bool neg,.slice A n c])) ((w3.setCell ⟨g,0,none⟩ (.bool neg)).setCell ⟨g,1,none⟩ (.slice A n c)):=by
 have hb1 : Blk (w3.setCell ⟨g,0,none⟩ (.bool neg)) g t #[.bool neg,.slice A0 n0 c0]:=hb.set_ 0 (.bool neg);exact ⟨(hB.setCell (p:=⟨g,0,none⟩) hg _).setCell (p:=⟨g,1,none⟩) hg _,_,_,_,_,rfl,hP.1,hP.2.1,(hP.2.2.set_box hb (NoLimb.box _ _ _ _) _ _).set_box hb1 (NoLimb.box _ _ _ _) _ _⟩
theorem NumW.alloc {w w' : World} {z : Int} {e : Ending} (h : NumW w z e w') (o : Obj) : NumW w z e (w'.alloc o):=by
 obtain ⟨hb,neg,A,n,c,he,hw⟩:=h;exact ⟨hb.alloc hb.size _,neg,A,n,c,he,hw.alloc o⟩
theorem Zog (v : Nat) (w : World) (hv : v < 9223372036854775808) :
    Calls Try.prog 38 #[.int .i64 v] w (NumW w (v)):=by
 have hd0 : decide ((v : Int) < 0) = false:=by simp
 go_enter Try.func38,Try.ntmps38;go_wp2_with fail;have hB0 : Below w.heap.size w (w.alloc (.cells #[.bool false,.slice none 0 0] 26)):=(Below.refl w.heap.size w).alloc (Nat.le_refl _) _
 refine (Zbk _ _ _ _ [v % 4294967296,v / 4294967296] _ (by
  refine Lim.pair2 w _ _ (by omega) ?_ ?_ <;> first | rfl | omega | (simp only [IntKind.wrap_u64];omega))).mono ?_
 rintro e w1 ⟨hb1,neg1,A1,n1,c1,code1,rfl,hR1⟩
 have hz : sg false (val [v % 4294967296,v / 4294967296]) = v:=by simp [sg,val];omega
 rw [hz] at hR1;have hW1 : Wd w1 neg1 A1 n1 c1 (v):=hR1.small (Zcz (by omega));have hB1 : Below w.heap.size w w1:=(hB0.alloc hB0.size _).trans (hb1.mono (by simp;omega));have m7:=Zd hb1 (Blk.alloc (Blk.new w 26 #[.bool false,.slice none 0 0]) _);have m3:=m7.cell 0;have m4:=m7.cell 1;have m5:=m7.frozen 0;have m6:=m7.frozen 1
 simp at m3 m4
 have hlt:=m7.lt;have HM:=Zb m7;clear m7 hz hR1;go_wp2_with fail;refine bodyPost_ret (v:=.agg #[.bool neg1,.slice A1 n1 c1]) (by simp [results,Try.results38,go_sem,m3,m4,hlt]) rfl ?_;exact (NumW.box hW1 hB1 (Nat.le_refl _) HM.out).alloc _
theorem Zst (v : Nat) (w : World) (hv0 : 0 < v) (hv : v <= 9223372036854775808) :
    Calls Try.prog 38 #[.int .i64 (-(v : Int))] w (NumW w (-(v : Int))):=by
 have hd0 : decide (-(v : Int) < 0) = true:=by simp;omega
 go_enter Try.func38,Try.ntmps38;go_wp2_with fail;have hB0 : Below w.heap.size w (w.alloc (.cells #[.bool false,.slice none 0 0] 26)):=(Below.refl w.heap.size w).alloc (Nat.le_refl _) _
 refine (Zbk _ _ _ _ [v % 4294967296,v / 4294967296] _ (by
  refine Lim.pair2 w _ _ (by omega) ?_ ?_ <;> first | rfl | omega | (simp only [IntKind.wrap_u64];omega))).mono ?_
 rintro e w1 ⟨hb1,neg1,A1,n1,c1,code1,rfl,hR1⟩
 have hz : sg true (val [v % 4294967296,v / 4294967296]) = -(v : Int):=by simp [sg,val];omega
 rw [hz] at hR1;have hW1 : Wd w1 neg1 A1 n1 c1 (-(v : Int)):=hR1.small (Zcz (by omega));have hB1 : Below w.heap.size w w1:=(hB0.alloc hB0.size _).trans (hb1.mono (by simp;omega));have m7:=Zd hb1 (Blk.alloc (Blk.new w 26 #[.bool false,.slice none 0 0]) _);have m3:=m7.cell 0;have m4:=m7.cell 1;have m5:=m7.frozen 0;have m6:=m7.frozen 1
 simp at m3 m4
 have hlt:=m7.lt;have HM:=Zb m7;clear m7 hz hR1;go_wp2_with fail;refine bodyPost_ret (v:=.agg #[.bool neg1,.slice A1 n1 c1]) (by simp [results,Try.results38,go_sem,m3,m4,hlt]) rfl ?_;exact (NumW.box hW1 hB1 (Nat.le_refl _) HM.out).alloc _
theorem Zla (v : Nat) (w : World) (hv : v < 9223372036854775808) :
    Calls Try.prog 64 #[.int .i64 v] w (NumW w (v)):=by
 have hd0 : decide ((v : Int) < 0) = false:=by simp
 go_enter Try.func64,Try.ntmps64;go_wp2_with fail;have hB0 : Below w.heap.size w (w.alloc (.cells #[.bool false,.slice none 0 0] 26)):=(Below.refl w.heap.size w).alloc (Nat.le_refl _) _
 refine (Zax _ _ _ _ [v % 4294967296,v / 4294967296] _ (by
  refine Lim.pair2 w _ _ (by omega) ?_ ?_ <;> first | rfl | omega | (simp only [IntKind.wrap_u64];omega)) (by omega)).mono ?_
 rintro e w1 ⟨hb1,neg1,A1,n1,c1,code1,rfl,hR1⟩
 have hz : sg false (val [v % 4294967296,v / 4294967296]) = v:=by simp [sg,val];omega
 rw [hz] at hR1;have hW1 : Wd w1 neg1 A1 n1 c1 (v):=hR1.small (Zcz (by omega));have hB1 : Below w.heap.size w w1:=(hB0.alloc hB0.size _).trans (hb1.mono (by simp;omega));have m7:=Zd hb1 (Blk.alloc (Blk.new w 26 #[.bool false,.slice none 0 0]) _);have m3:=m7.cell 0;have m4:=m7.cell 1;have m5:=m7.frozen 0;have m6:=m7.frozen 1
 simp at m3 m4
 have hlt:=m7.lt;have HM:=Zb m7;clear m7 hz hR1;go_wp2_with fail;refine bodyPost_ret (v:=.agg #[.bool neg1,.slice A1 n1 c1]) (by simp [results,Try.results64,go_sem,m3,m4,hlt]) rfl ?_;exact (NumW.box hW1 hB1 (Nat.le_refl _) HM.out).alloc _
theorem Zql (v : Nat) (w : World) (hv0 : 0 < v) (hv : v <= 9223372036854775808) :
    Calls Try.prog 64 #[.int .i64 (-(v : Int))] w (NumW w (-(v : Int))):=by
 have hd0 : decide (-(v : Int) < 0) = true:=by simp;omega
 go_enter Try.func64,Try.ntmps64;go_wp2_with fail;have hB0 : Below w.heap.size w (w.alloc (.cells #[.bool false,.slice none 0 0] 26)):=(Below.refl w.heap.size w).alloc (Nat.le_refl _) _
 refine (Zax _ _ _ _ [v % 4294967296,v / 4294967296] _ (by
  refine Lim.pair2 w _ _ (by omega) ?_ ?_ <;> first | rfl | omega | (simp only [IntKind.wrap_u64];omega)) (by omega)).mono ?_
 rintro e w1 ⟨hb1,neg1,A1,n1,c1,code1,rfl,hR1⟩
 have hz : sg true (val [v % 4294967296,v / 4294967296]) = -(v : Int):=by simp [sg,val];omega
 rw [hz] at hR1;have hW1 : Wd w1 neg1 A1 n1 c1 (-(v : Int)):=hR1.small (Zcz (by omega));have hB1 : Below w.heap.size w w1:=(hB0.alloc hB0.size _).trans (hb1.mono (by simp;omega));have m7:=Zd hb1 (Blk.alloc (Blk.new w 26 #[.bool false,.slice none 0 0]) _);have m3:=m7.cell 0;have m4:=m7.cell 1;have m5:=m7.frozen 0;have m6:=m7.frozen 1
 simp at m3 m4
 have hlt:=m7.lt;have HM:=Zb m7;clear m7 hz hR1;go_wp2_with fail;refine bodyPost_ret (v:=.agg #[.bool neg1,.slice A1 n1 c1]) (by simp [results,Try.results64,go_sem,m3,m4,hlt]) rfl ?_;exact (NumW.box hW1 hB1 (Nat.le_refl _) HM.out).alloc _
theorem Znj (z : Int) (w : World) (h1 : -9223372036854775808 <= z) (h2 : z <= 9223372036854775807) : Calls Try.prog 38 #[.int .i64 z] w (NumW w z):=by
 rcases Int.le_total 0 z with h | h
 ·obtain ⟨v,rfl⟩:=Int.eq_ofNat_of_zero_le h
  exact Zog v w (by omega)
 ·rcases Int.eq_ofNat_of_zero_le (show 0 <= -z by omega) with ⟨v,hv⟩
  obtain rfl : z = -(v : Int):=by omega
  rcases Nat.eq_zero_or_pos v with rfl | h0
  ·exact Zog 0 w (by omega)
  ·exact Zst v w h0 (by omega)
theorem Zdw (z : Int) (w : World) (h1 : -9223372036854775808 <= z) (h2 : z <= 9223372036854775807) : Calls Try.prog 64 #[.int .i64 z] w (NumW w z):=by
 rcases Int.le_total 0 z with h | h
 ·obtain ⟨v,rfl⟩:=Int.eq_ofNat_of_zero_le h
  exact Zla v w (by omega)
 ·rcases Int.eq_ofNat_of_zero_le (show 0 <= -z by omega) with ⟨v,hv⟩
  obtain rfl : z = -(v : Int):=by omega
  rcases Nat.eq_zero_or_pos v with rfl | h0
  ·exact Zla 0 w (by omega)
  ·exact Zql v w h0 (by omega)
def WE.bad (e : WE) : Bool:=decide (40 < e.l.length) || !e.ok
def pOk (es : List WE) : Bool:=decide (es.length <= 9) && !es.any WE.bad && !(es.getLast?.any fun e=>e.l.isEmpty)
def Zf : List Int -> List Int
 | []=>[]
 | x :: l=>match Zf l with
  | []=>if x = 0 then [] else [x]
  | y :: m=>x :: y :: m
def okP (xs : List Int) : Bool:=decide (xs.length <= 9) && xs.all fun x=>decide (x.natAbs < pw 40)
theorem Ze9 {xs : List Int} {k : Nat} (hz : ∀ j,k <= j -> xs[j]?.getD 0 = 0) (hk : k = 0 \/ xs[k - 1]?.getD 0 ≠ 0) : Zf xs = xs.take k:=by
 induction xs generalizing k with
 | nil=>simp [Zf]
 | cons x l ih =>
  cases k with
  | zero =>
   have h0:=hz 0 (Nat.le_refl _);have:=ih (k:=0) (fun j _=>by have:=hz (j + 1) (by omega);simpa using this) (.inl rfl)
   simp at h0
   simp [Zf,this,h0]
  | succ k =>
   have h1 : ∀ j,k <= j -> l[j]?.getD 0 = 0:=fun j hj=>by have:=hz (j + 1) (by omega);simpa using this
   rcases Nat.eq_zero_or_pos k with rfl | h
   ·have:=ih (k:=0) (fun j _=>h1 j (by omega)) (.inl rfl)
    have hx : x ≠ 0:=by rcases hk with hk | hk;omega;simpa using hk
    simp [Zf,this,hx]
   ·have hk' : l[k - 1]?.getD 0 ≠ 0:=by
      rcases hk with hk | hk
      ·omega
      ·rw [show k + 1 - 1 = (k - 1) + 1 by omega] at hk;simpa using hk
    have h2:=ih h1 (.inr hk')
    have hne : l.take k ≠ []:=by
     intro he
     have : l[k - 1]? = none:=by
      rcases Nat.lt_or_ge (k - 1) l.length with h' | h'
      ·have:=congrArg List.length he;rw [List.length_take,List.length_nil] at this;omega
      ·exact List.getElem?_eq_none h'
     rw [this] at hk';simp at hk'
    rw [Zf,h2,List.take_succ_cons]
    cases hl : l.take k with
    | nil=>exact absurd hl hne
    | cons y m=>rfl
def PolyL (w : World) (A : Option Addr) (n c : Nat) (xs : List Int) : Prop:=∃ es,WL w A n c es /\ es.map WE.num = xs /\ ∀ e ∈ es,e.ok = true
theorem WE.num_zero {w : World} {e : WE} (h : Lim w e.A e.n e.c e.l) (hk : e.ok = true) : e.n = 0 ↔ e.num = 0:=by
 have h1:=(Zgb h.lt).1 hk;have h2:=h.len
 constructor
 ·intro h0
  have : e.l = []:=List.eq_nil_of_length_eq_zero (by omega);unfold WE.num;rw [this];cases e.neg <;> simp [sg,val]
 ·intro h0
  have h3:=h1.2.2;unfold WE.num at h0;rw [h0] at h3;rw [<- h2,h3];simp [Z6]
theorem WE.wd {w : World} {e : WE} (h : Lim w e.A e.n e.c e.l) (hk : e.ok = true) : Wd w e.neg e.A e.n e.c e.num:=Wd.of_ok h hk
theorem WE.len40 {w : World} {e : WE} (h : Lim w e.A e.n e.c e.l) (hk : e.ok = true) : e.l.length <= 40 ↔ e.num.natAbs < pw 40:=by
 have h1:=(Zgb h.lt).1 hk;have h3:=h1.2.2
 have : e.l.length = (digits e.num.natAbs).length:=by unfold WE.num;rw [<- h3]
 rw [this,Zs]
theorem PolyL.pok {w : World} {A : Option Addr} {n c : Nat} {es : List WE} (h : WL w A n c es) (hk : ∀ e ∈ es,e.ok = true) (hl : ∀ x,(es.map WE.num).getLast? = some x -> x ≠ 0) : pOk es = okP (es.map WE.num):=by
 have h1 : es.any WE.bad = !(es.map WE.num).all fun x=>decide (x.natAbs < pw 40):=by
  rw [List.all_map,Bool.eq_iff_iff];simp only [List.any_eq_true,Bool.not_eq_true',List.all_eq_false,Function.comp]
  constructor
  ·rintro ⟨e,he,hb⟩
   refine ⟨e,he,?_⟩;simp only [WE.bad,hk e he,Bool.not_true,Bool.or_false,decide_eq_true_eq] at hb;have:=WE.len40 (h.2.2.2.2 e he) (hk e he);simp only [decide_eq_true_eq];intro h';have:=this.2 h';omega
  ·rintro ⟨e,he,hb⟩
   refine ⟨e,he,?_⟩;simp only [WE.bad,hk e he,Bool.not_true,Bool.or_false,decide_eq_true_eq];have:=WE.len40 (h.2.2.2.2 e he) (hk e he);simp only [decide_eq_true_eq] at hb
   rcases Nat.lt_or_ge 40 e.l.length with h' | h'
   ·exact h'
   ·exact absurd (this.1 h') hb
 have h2 : (es.getLast?.any fun e=>e.l.isEmpty) = false:=by
  rcases Option.eq_none_or_eq_some es.getLast? with h' | ⟨e,h'⟩
  ·rw [h'];rfl
  ·rw [h']
   have he:=List.mem_of_getLast? h';have hx:=hl e.num (by rw [List.getLast?_map,h'];rfl);have h0:=WE.num_zero (h.2.2.2.2 e he) (hk e he);simp only [Option.any_some];rw [Bool.eq_false_iff];intro hh
   have : e.l = []:=by simpa using hh
   exact hx (h0.1 (by rw [<- (h.2.2.2.2 e he).len,this];rfl))
 unfold pOk okP;rw [h1,h2]
 simp
theorem Zb0 (xs : List Int) : ∀ x,(Zf xs).getLast? = some x -> x ≠ 0:=by
 induction xs with
 | nil=>simp [Zf]
 | cons a l ih =>
  intro x hx;rw [Zf] at hx
  cases hl : Zf l with
  | nil =>
   rw [hl] at hx
   by_cases ha : a = 0
   ·simp [ha] at hx
   ·simp [ha] at hx;rw [<- hx];exact ha
  | cons y m =>
   rw [hl] at hx ih;exact ih x (by simpa using hx)
theorem PolyL.below {w w' : World} {A : Option Addr} {n c : Nat} {xs : List Int} (h : PolyL w A n c xs) (hb : Below w.heap.size w w') : PolyL w' A n c xs:=by
 obtain ⟨es,h1,h2,h3⟩:=h;exact ⟨es,h1.below hb,h2,h3⟩
theorem PolyL.take {w : World} {A : Option Addr} {n c : Nat} {xs : List Int} (h : PolyL w A n c xs) {k : Nat} (hk : k <= n) : PolyL w A k c (xs.take k):=by
 obtain ⟨es,h1,h2,h3⟩:=h;exact ⟨es.take k,h1.take hk,by rw [List.map_take,h2],fun e he=>h3 e (List.mem_of_mem_take he)⟩
theorem PolyL.len {w : World} {A : Option Addr} {n c : Nat} {xs : List Int} (h : PolyL w A n c xs) : xs.length = n:=by
 obtain ⟨es,h1,h2,h3⟩:=h;rw [<- h2,List.length_map];exact h1.len
theorem PolyL.nil (w : World) (A : Option Addr) (c : Nat) (hc : c <= maxLen) : PolyL w A 0 c []:=⟨[],WL.nil w A c hc,rfl,fun e h=>by cases h⟩
def ResPoly (w : World) (xs : List Int) (e : Ending) (w' : World) : Prop:=
 Below w.heap.size w w' /\ ∃ A n c code,e = .returned (.tuple #[.slice A n c,.int .i64 code]) /\ ((okP (Zf xs) = true /\ code = 0 /\ PolyL w' A n c (Zf xs)) \/ (okP (Zf xs) = false /\ code = 16 /\ n = 0 /\ c = 0))
def BadPoly (w : World) (e : Ending) (w' : World) : Prop:=Below w.heap.size w w' /\ ∃ A,e = .returned (.tuple #[.slice A 0 0,.int .i64 8])
theorem Zf9 (neg : Bool) (A : Option Addr) (n c : Nat) (w : World) (h : n <= maxLen) :
    Calls Try.prog 26 #[.agg #[.bool neg,.slice A n c]] w fun e w'=>e = .returned (.bool (decide (n = 0))) /\ Below w.heap.size w w':=by
 unfold maxLen at h
 by_cases h0 : n = 0
 ·subst h0
  go_enter Try.func26,Try.ntmps26
  go_wp2
  go_ret;exact ⟨rfl,(Below.refl _ _).alloc (Nat.le_refl _) _⟩
 ·have h1 : ((n : Int) == 0) = false:=by simp;omega
  have h2 : decide (n = 0) = false:=by simpa using h0
  rw [h2];go_enter Try.func26,Try.ntmps26
  go_wp2
  go_ret;exact ⟨rfl,(Below.refl _ _).alloc (Nat.le_refl _) _⟩
theorem Zn5 (neg : Bool) (A : Option Addr) (n c : Nat) (l : List Nat) (w : World) (h : Lim w A n c l) :
    Calls Try.prog 23 #[.agg #[.bool neg,.slice A n c]] w fun e w'=>e = .returned (.bool (WE.bad ⟨neg,A,n,c,l⟩)) /\ Below w.heap.size w w':=by
 have hnc:=h.2.1;have hcm:=h.2.2.1;unfold maxLen at hcm;have hl:=Zb h.len
 by_cases h0 : 40 < n
 ·have hb : WE.bad ⟨neg,A,n,c,l⟩ = true:=by unfold WE.bad;simp [hl.out];omega
  rw [hb];go_enter Try.func23,Try.ntmps23
  go_wp2
  go_ret;exact ⟨rfl,(Below.refl _ _).alloc (Nat.le_refl _) _⟩
 ·have hb : WE.bad ⟨neg,A,n,c,l⟩ = !(okW neg l):=by unfold WE.bad WE.ok;simp [hl.out];omega
  rw [hb]
  generalize hk : okW neg l = k at *
  have HK:=Zb hk
  have hd : decide ((40 : Int) < (n : Int)) = false:=by simp;omega
  clear hk hb
  cases k
  all_goals
   go_enter Try.func23,Try.ntmps23;go_wp2_with (go_at_call 24;refine (Zqv _ _ _ _ _ _ (h.alloc _)).mono ?_;rintro e w1 ⟨he,hb1⟩;rw [HK.out] at he;subst he);simp only [Zbg] at *
   go_wp2
   go_ret;exact ⟨rfl,((Below.refl w.heap.size w).alloc (Nat.le_refl _) _).trans (hb1.mono (by simp))⟩
def IdxP (w : World) (es : List WE) (e : Ending) (w' : World) : Prop:=∃ i : Int,e = .returned (.int .i64 i) /\ (decide (0 <= i) = es.any WE.bad) /\ Below w.heap.size w w'
theorem Zs5 (A : Option Addr) (n c : Nat) (es : List WE) (w : World) (h : WL w A n c es) :
    Calls Try.prog 46 #[.slice A n c,.func (.func 23) #[] #[]] w (IdxP w es):=by
 have hnc:=h.2.1;have hcm:=h.2.2.1;unfold maxLen at hcm;go_enter Try.func46,Try.ntmps46
 go_wp2
 go_loopw [8] (fun v wr=>∃ k : Nat,k <= n /\ v = .int .i64 k /\ Hid (∀ e ∈ es.take k,e.bad = false) /\ Below w.heap.size w wr) (fun v _=>n - (intOf v).toNat)
 case atStart=>exact ⟨0,Nat.zero_le _,rfl,by unfold Hid;simp,Below.refl _ _⟩
 case round =>
  obtain ⟨k,hk,rfl,ho,hB⟩:=hrel
  by_cases hk0 : k < n
  ·obtain ⟨b,o,e,rfl,he,hc1,hc2,hL⟩:=(h.below hB).at_ hk0
   have HE:=Zb he
   generalize hb : e.bad = bb at *
   have HB:=Zb hb
   cases bb
   ·have HG : Hid (∀ x ∈ es.take (k + 1),x.bad = false):=fun x hx=>by
      rw [List.take_add_one,HE.out] at hx
      rcases List.mem_append.1 hx with hx | hx
      ·exact ho.out x hx
      ·simp at hx;subst hx;exact HB.out
    obtain ⟨neg,A1,n1,c1,l1⟩:=e;dsimp only at hc1 hc2 hL;clear he hb;go_wp2_with (go_at_call 23;refine (Zn5 _ _ _ _ _ _ hL).mono ?_;rintro e w1 ⟨he1,hb1⟩;rw [HB.out] at he1;subst he1)
    go_roundw
    case rel=>exact ⟨k + 1,by omega,by go_num,HG,hB.trans (hb1.mono hB.size)⟩
    case measure=>simp [intOf];omega
   ·have HG : Hid (es.any WE.bad = true):=by
      unfold Hid;rw [List.any_eq_true];exact ⟨e,List.mem_of_getElem? HE.out,HB.out⟩
    obtain ⟨neg,A1,n1,c1,l1⟩:=e;dsimp only at hc1 hc2 hL;clear he hb;go_wp2_with (go_at_call 23;refine (Zn5 _ _ _ _ _ _ hL).mono ?_;rintro e w1 ⟨he1,hb1⟩;rw [HB.out] at he1;subst he1);go_ret;exact ⟨k,rfl,by rw [HG.out];simp,hB.trans (hb1.mono hB.size)⟩
  ·obtain rfl : k = n:=by omega
   have HA : Hid (es.any WE.bad = false):=by
    unfold Hid;rw [List.any_eq_false];have:=ho.out;rw [List.take_of_length_le (by rw [h.len];exact Nat.le_refl _)] at this
    exact fun x hx=>by rw [this x hx];simp
   go_wp2
   go_ret;exact ⟨-1,rfl,by rw [HA.out];rfl,hB⟩
theorem Zdj (A : Option Addr) (n c : Nat) (es : List WE) (w : World) (h : WL w A n c es) :
    Calls Try.prog 25 #[.slice A n c,.func (.func 23) #[] #[]] w fun e w'=>e = .returned (.bool (es.any WE.bad)) /\ Below w.heap.size w w':=by
 go_enter Try.func25,Try.ntmps25;go_wp2_with (go_at_call 46;refine (Zs5 _ _ _ _ _ h).mono ?_;rintro e w1 ⟨i,rfl,hi,hb1⟩;have HI:=Zb hi;clear hi);go_ret;exact ⟨Zs7 HI.out,hb1⟩
theorem Zn4 {es : List WE} (h : 9 < es.length) : pOk es = false:=by unfold pOk;simp;omega
theorem Zmr {es : List WE} (h : es.any WE.bad = true) : pOk es = false:=by unfold pOk;rw [h];simp
theorem Zp6 {es : List WE} (h : es.length = 0) : pOk es = true:=by
 have:=List.eq_nil_of_length_eq_zero h;subst this;rfl
theorem Zne {es : List WE} {e : WE} (h1 : es.length <= 9) (h2 : es.any WE.bad = false) (h3 : es[es.length - 1]? = some e) : pOk es = !e.l.isEmpty:=by
 unfold pOk;rw [h2,List.getLast?_eq_getElem?,h3];simp [h1]
theorem Zbq (A : Option Addr) (n c : Nat) (es : List WE) (w : World) (h : WL w A n c es) :
    Calls Try.prog 11 #[.slice A n c] w fun e w'=>e = .returned (.int .i64 (Zbg (pOk es))) /\ Below w.heap.size w w':=by
 have hnc:=h.2.1;have hcm:=h.2.2.1;unfold maxLen at hcm;have hl:=Zb h.len
 by_cases h9 : 9 < n
 ·rw [Zn4 (by rw [hl.out];exact h9)]
  go_enter Try.func11,Try.ntmps11
  go_wp2
  go_ret;exact ⟨rfl,Below.refl _ _⟩
 ·have hd9 : decide ((9 : Int) < (n : Int)) = false:=by simp;omega
  generalize hb : es.any WE.bad = bb at *
  have HB:=Zb hb;clear hb
  cases bb
  ·by_cases h0 : 0 < n
   ·have hd0 : decide ((0 : Int) < (n : Int)) = true:=by simp;omega
    obtain ⟨b,o,e,rfl,he,hc1,hc2,hL⟩:=h.at_ (k:=n - 1) (by omega);have hx:=Zne (es:=es) (e:=e) (by rw [hl.out];omega) HB.out (by rw [hl.out];exact he);obtain ⟨neg,A1,n1,c1,l1⟩:=e;dsimp only at hc1 hc2 hL hx;have hl1:=Zb hL.len;have h1m:=Nat.le_trans hL.2.1 hL.2.2.1;clear he
    by_cases hn1 : n1 = 0
    ·have hz : l1.isEmpty = true:=by have:=hl1.out;cases l1 <;> simp_all
     rw [hx,hz]
     have hd : decide (n1 = 0) = true:=by simpa using hn1
     have HD:=Zb hd;clear hd hz hx hn1;go_enter Try.func11,Try.ntmps11;go_wp2_with (first | (go_at_call 25;refine (Zdj _ _ _ _ _ h).mono ?_;rintro e w1 ⟨he1,hb1⟩;rw [HB.out] at he1;subst he1;have hd1:=Za hb1 hc1;have hd2:=Za hb1 hc2) | (go_at_call 26;refine (Zf9 _ _ _ _ _ h1m).mono ?_;rintro e w2 ⟨he2,hb2⟩;rw [HD.out] at he2;subst he2));go_ret;exact ⟨rfl,hb1.trans (hb2.mono hb1.size)⟩
    ·have hz : l1.isEmpty = false:=by have:=hl1.out;cases l1 <;> simp_all
     rw [hx,hz]
     have hd : decide (n1 = 0) = false:=by simpa using hn1
     have HD:=Zb hd;clear hd hz hx hn1;go_enter Try.func11,Try.ntmps11;go_wp2_with (first | (go_at_call 25;refine (Zdj _ _ _ _ _ h).mono ?_;rintro e w1 ⟨he1,hb1⟩;rw [HB.out] at he1;subst he1;have hd1:=Za hb1 hc1;have hd2:=Za hb1 hc2) | (go_at_call 26;refine (Zf9 _ _ _ _ _ h1m).mono ?_;rintro e w2 ⟨he2,hb2⟩;rw [HD.out] at he2;subst he2));go_ret;exact ⟨rfl,hb1.trans (hb2.mono hb1.size)⟩
   ·obtain rfl : n = 0:=by omega
    rw [Zp6 hl.out];go_enter Try.func11,Try.ntmps11;go_wp2_with (go_at_call 25;refine (Zdj _ _ _ _ _ h).mono ?_;rintro e w1 ⟨he1,hb1⟩;rw [HB.out] at he1;subst he1);go_ret;exact ⟨rfl,hb1⟩
  ·rw [Zmr HB.out]
   go_enter Try.func11,Try.ntmps11;go_wp2_with (go_at_call 25;refine (Zdj _ _ _ _ _ h).mono ?_;rintro e w1 ⟨he1,hb1⟩;rw [HB.out] at he1;subst he1);go_ret;exact ⟨rfl,hb1⟩
theorem Zex (A : Option Addr) (n c : Nat) (xs : List Int) (w : World) (h : PolyL w A n c xs) :
    Calls Try.prog 27 #[.slice A n c] w fun e w'=>e = .returned (.slice A (Zf xs).length (Zf xs).length) /\ (Zf xs).length <= n /\ Zf xs = xs.take (Zf xs).length /\ Below w.heap.size w w':=by
 have hxl:=Zb h.len;obtain ⟨es,h,hxs,hok⟩:=h;have hnc:=h.2.1;have hcm:=h.2.2.1;unfold maxLen at hcm
 have HF : Hid (∀ k w',k <= n -> Below w.heap.size w w' -> (∀ j,k <= j -> xs[j]?.getD 0 = 0) -> (k = 0 \/ xs[k - 1]?.getD 0 ≠ 0) ->
     Ending.returned (.slice A k k) = .returned (.slice A (Zf xs).length (Zf xs).length) /\ (Zf xs).length <= n /\ Zf xs = xs.take (Zf xs).length /\ Below w.heap.size w w'):=fun k w' hk hB hz hk0=>by
  have h1:=Ze9 hz hk0
  have h2 : (Zf xs).length = k:=by rw [h1,List.length_take,hxl.out];omega
  rw [h2];exact ⟨rfl,hk,h1,hB⟩
 replace hxs:=Zb hxs;replace hok:=Zb hok;go_enter Try.func27,Try.ntmps27
 go_wp2
 go_loopw [3] (fun v wr=>∃ k : Nat,k <= n /\ v = .int .i64 k /\ Hid (∀ j,k <= j -> xs[j]?.getD 0 = 0) /\ Below w.heap.size w wr) (fun v _=>(intOf v).toNat)
 case atStart=>exact ⟨n,Nat.le_refl _,rfl,fun j hj=>by rw [List.getElem?_eq_none (by rw [hxl.out];exact hj)];rfl,Below.refl _ _⟩
 case round =>
  obtain ⟨k,hk,rfl,hz,hB⟩:=hrel
  by_cases hk0 : 0 < k
  ·have hd0 : decide ((0 : Int) < (k : Int)) = true:=by simp;omega
   obtain ⟨b,o,e,rfl,he,hc1,hc2,hL⟩:=(h.below hB).at_ (k:=k - 1) (by omega);have hm1:=Nat.le_trans hL.2.1 hL.2.2.1;have hnz:=WE.num_zero hL (hok.out e (List.mem_of_getElem? he))
   have hxk : xs[k - 1]?.getD 0 = e.num:=by rw [<- hxs.out,List.getElem?_map,he];rfl
   obtain ⟨neg,A1,n1,c1,l1⟩:=e;dsimp only at hc1 hc2 hL hm1 hnz;replace hxk:=Zb hxk;replace hnz:=Zb hnz;clear he hL
   by_cases hx : n1 = 0
   ·have hd : decide (n1 = 0) = true:=by simpa using hx
    have HD:=Zb hd;replace hx:=Zb hx;clear hd;go_wp2_with (go_at_call 26;refine (Zf9 _ _ _ _ _ hm1).mono ?_;rintro e w2 ⟨he2,hb2⟩;rw [HD.out] at he2;subst he2)
    go_roundw
    case rel=>exact ⟨k - 1,by omega,by go_num,fun j hj=>by
        rcases Nat.lt_or_ge j k with h' | h'
        ·obtain rfl : j = k - 1:=by omega
         rw [hxk.out];exact hnz.out.1 hx.out
        ·exact hz.out j h',hB.trans (hb2.mono hB.size)⟩
    case measure=>simp [intOf];omega
   ·have hd : decide (n1 = 0) = false:=by simpa using hx
    have HD:=Zb hd;replace hx:=Zb hx;clear hd;go_wp2_with (go_at_call 26;refine (Zf9 _ _ _ _ _ hm1).mono ?_;rintro e w2 ⟨he2,hb2⟩;rw [HD.out] at he2;subst he2);go_ret;exact HF.out k _ hk (hB.trans (hb2.mono hB.size)) hz.out (.inr (by rw [hxk.out];exact fun h'=>hx.out (hnz.out.2 h')))
  ·obtain rfl : k = 0:=by omega
   go_wp2
   go_ret;exact HF.out 0 _ hk hB hz.out (.inl rfl)
theorem Zl8 (A : Option Addr) (n c : Nat) (xs : List Int) (w : World) (h : PolyL w A n c xs) :
    Calls Try.prog 12 #[.slice A n c] w (ResPoly w xs):=by
 have hT:=Zb (Zex A n c xs w h);go_enter Try.func12,Try.ntmps12;go_wp2_with fail;refine hT.out.mono ?_;rintro e w1 ⟨rfl,hle,htk,hb1⟩
 have hP1 : PolyL w1 A (Zf xs).length (Zf xs).length (Zf xs):=by
  have:=(h.below hb1).take hle;rw [<- htk] at this;obtain ⟨es,h1,h2,h3⟩:=this;exact ⟨es,⟨h1.1,Nat.le_refl _,Nat.le_trans h1.2.1 h1.2.2.1,h1.2.2.2⟩,h2,h3⟩
 replace htk:=Zb htk;obtain ⟨es,h1,h2,h3⟩:=hP1;have hpk:=PolyL.pok h1 h3 (by rw [h2];exact Zb0 xs);rw [h2] at hpk;have HP:=Zb (show PolyL w1 A (Zf xs).length (Zf xs).length (Zf xs) from ⟨es,h1,h2,h3⟩);replace h2:=Zb h2;replace h3:=Zb h3
 generalize hk : okP (Zf xs) = k at *
 have HK:=Zb hk;replace hpk:=Zb hpk
 generalize hm : (Zf xs).length = m at *
 replace hm:=Zb hm;clear hk
 cases k
 ·go_wp2_with (go_at_call 11;refine (Zbq _ _ _ _ _ h1).mono ?_;rintro e w2 ⟨he2,hb2⟩;rw [hpk.out] at he2;subst he2;simp only [Zbg] at *)
  go_returns;exact ⟨hb1.trans (hb2.mono hb1.size),none,0,0,16,rfl,.inr ⟨HK.out,rfl,rfl,rfl⟩⟩
 ·go_wp2_with (go_at_call 11;refine (Zbq _ _ _ _ _ h1).mono ?_;rintro e w2 ⟨he2,hb2⟩;rw [hpk.out] at he2;subst he2;simp only [Zbg] at *)
  go_returns;exact ⟨hb1.trans (hb2.mono hb1.size),_,_,_,_,rfl,.inl ⟨HK.out,rfl,HP.out.below hb2⟩⟩
def Z0 : List WE -> List Value
 | []=>[]
 | e :: l=>.bool e.neg :: .slice e.A e.n e.c :: Z0 l
def Zad (es : List WE) : Array Value:=(Z0 es).toArray
theorem Zah (es : List WE) : (Z0 es).length = es.length * 2:=by
 induction es with
 | nil=>rfl
 | cons e l ih=>simp only [Z0,List.length_cons,ih];omega
theorem Zg7 {es : List WE} {i : Nat} {e : WE} (h : es[i]? = some e) : (Z0 es)[i * 2]? = some (.bool e.neg) /\ (Z0 es)[i * 2 + 1]? = some (.slice e.A e.n e.c):=by
 induction es generalizing i with
 | nil=>simp at h
 | cons a l ih =>
  cases i with
  | zero=>simp at h;subst h;exact ⟨rfl,rfl⟩
  | succ i =>
   have:=ih (i:=i) (by simpa using h);rw [show (i + 1) * 2 = i * 2 + 1 + 1 by omega]
   simpa [Z0] using this
theorem Zoy {es : List WE} {i : Nat} (e : WE) (h : i < es.length) : ((Z0 es).set (i * 2) (.bool e.neg)).set (i * 2 + 1) (.slice e.A e.n e.c) = Z0 (es.set i e):=by
 induction es generalizing i with
 | nil=>simp at h
 | cons a l ih =>
  cases i with
  | zero=>rfl
  | succ i =>
   have:=ih (i:=i) (by simpa using h);rw [show (i + 1) * 2 = i * 2 + 1 + 1 by omega];simp only [Z0,List.set_cons_succ,this]
theorem Zkz (es : List WE) : ∀ (i x : Nat),(Z0 es)[i]? ≠ some (limb x):=by
 induction es with
 | nil=>intro i x;simp [Z0]
 | cons a l ih =>
  intro i x
  match i with
  | 0=>simp [Z0]
  | 1=>simp [Z0]
  | i + 2=>simpa [Z0] using ih i x
theorem Zd7 {es : List WE} {i : Nat} {e : WE} (h : es[i]? = some e) : (Zad es)[i * 2]? = some (.bool e.neg) /\ (Zad es)[i * 2 + 1]? = some (.slice e.A e.n e.c):=by
 simpa [Zad] using Zg7 h
theorem Zo3 {es : List WE} {i : Nat} (e : WE) (h : i < es.length) : ((Zad es).setIfInBounds (i * 2) (.bool e.neg)).setIfInBounds (i * 2 + 1) (.slice e.A e.n e.c) = Zad (es.set i e):=by
 unfold Zad;rw [<- Zoy e h];simp
theorem Zb7 (es : List WE) : NoLimb (Zad es):=fun i x=>by simpa [Zad] using Zkz es i x
theorem Zdz (es : List WE) (i : Nat) (b : Bool) : NoLimb ((Zad es).setIfInBounds i (.bool b)):=fun j x=>by
 rw [Array.getElem?_setIfInBounds]
 split
 ·split <;> simp
 ·exact Zb7 es j x
def POwn (t : TypeId) (w : World) (g : Nat) (xs : List Int) : Prop:=
 ∃ es : List WE,Blk w g t (Zad es) /\ (∀ e ∈ es,Lim w e.A e.n e.c e.l /\ e.ok = true) /\ es.map WE.num = xs
section
variable {t : TypeId} {w w' : World} {g : Nat} {xs : List Int}
theorem POwn.below (h : POwn t w g xs) (hb : Below w.heap.size w w') : POwn t w' g xs:=by
 obtain ⟨es,h1,h2,h3⟩:=h;exact ⟨es,Zd hb h1,fun e he=>⟨(h2 e he).1.below hb,(h2 e he).2⟩,h3⟩
theorem POwn.lt (h : POwn t w g xs) : g < w.heap.size:=by obtain ⟨es,h1,_⟩:=h;exact h1.lt
theorem POwn.frozen (h : POwn t w g xs) (i : Nat) : w.frozen? ⟨g,i,none⟩ = false:=by obtain ⟨es,h1,_⟩:=h;exact h1.frozen i
theorem POwn.at_ (h : POwn t w g xs) {i : Nat} (hi : i < xs.length) : ∃ neg A n c,w.cell? ⟨g,i * 2,none⟩ = some (.bool neg) /\ w.cell? ⟨g,i * 2 + 1,none⟩ = some (.slice A n c) /\ Wd w neg A n c (xs[i]?.getD 0):=by
 obtain ⟨es,h1,h2,rfl⟩:=h
 have hl : i < es.length:=by simpa using hi
 have he:=List.getElem?_eq_getElem hl;have hc:=Zd7 he;have hm:=h2 es[i] (List.getElem_mem hl);refine ⟨es[i].neg,es[i].A,es[i].n,es[i].c,by rw [h1.cell];exact hc.1,by rw [h1.cell];exact hc.2,?_⟩;rw [List.getElem?_map,he];exact WE.wd hm.1 hm.2
theorem POwn.set_ (h : POwn t w g xs) {i : Nat} (hi : i < xs.length) {neg : Bool} {A : Option Addr} {n c : Nat} {z : Int} (hz : Wd w neg A n c z) :
    POwn t ((w.setCell ⟨g,i * 2,none⟩ (.bool neg)).setCell ⟨g,i * 2 + 1,none⟩ (.slice A n c)) g (xs.set i z):=by
 obtain ⟨es,h1,h2,rfl⟩:=h
 have hl : i < es.length:=by simpa using hi
 have hb1 : Blk (w.setCell ⟨g,i * 2,none⟩ (.bool neg)) g t ((Zad es).setIfInBounds (i * 2) (.bool neg)):=h1.set_ _ _;have hb2:=hb1.set_ (i * 2 + 1) (.slice A n c);have hs:=Zo3 (es:=es) (i:=i) ⟨neg,A,n,c,digits z.natAbs⟩ hl;dsimp only at hs;rw [hs] at hb2
 have keep : ∀ (A' : Option Addr) (n' c' : Nat) (l : List Nat),Lim w A' n' c' l -> Lim ((w.setCell ⟨g,i * 2,none⟩ (.bool neg)).setCell ⟨g,i * 2 + 1,none⟩ (.slice A n c)) A' n' c' l:=fun _ _ _ _ h=>(h.set_box h1 (Zb7 es) _ _).set_box hb1 (Zdz _ _ _) _ _
 refine ⟨_,hb2,fun e he=>?_,?_⟩
 ·rcases List.mem_or_eq_of_mem_set he with he | rfl
  ·exact ⟨keep _ _ _ _ (h2 e he).1,(h2 e he).2⟩
  ·exact ⟨keep _ _ _ _ hz.2.2,hz.ok⟩
 ·rw [List.map_set];congr 1;exact hz.sgEq
theorem POwn.poly (h : POwn t w g xs) (hn : xs.length <= maxLen) : PolyL w (some ⟨g,0,none⟩) xs.length xs.length xs:=by
 obtain ⟨es,h1,h2,rfl⟩:=h;refine ⟨es,⟨by simp,Nat.le_refl _,hn,fun _=>⟨_,_,rfl,fun k e he=>?_⟩,fun e he=>(h2 e he).1⟩,rfl,fun e he=>(h2 e he).2⟩;have hc:=Zd7 he;rw [Nat.zero_add,h1.cell,h1.cell];exact hc
end
def Zao : WE:=⟨false,none,0,0,[]⟩
theorem Ziy (n : Nat) : Z0 (List.replicate n Zao) = (madeCells #[.bool false,.slice none 0 0] (n * 2)).toList:=by
 apply List.ext_getElem?
 intro i
 have hm : (madeCells #[.bool false,.slice none 0 0] (n * 2)).toList[i]? = if i < n * 2 then some ((#[Value.bool false,Value.slice none 0 0])[i % 2]!) else none:=by
  unfold madeCells
  by_cases h : i < n * 2
  ·simp [h]
  ·simp [h]
 rw [hm]
 by_cases h : i < n * 2
 ·rw [if_pos h]
  have he : (List.replicate n Zao)[i / 2]? = some Zao:=by rw [List.getElem?_replicate,if_pos (by omega)]
  have hc:=Zg7 he
  rcases Nat.mod_two_eq_zero_or_one i with h2 | h2
  ·rw [show i / 2 * 2 = i by omega] at hc;rw [hc.1,h2];rfl
  ·rw [show i / 2 * 2 + 1 = i by omega] at hc;rw [hc.2,h2];rfl
 ·rw [if_neg h]
  exact List.getElem?_eq_none (by rw [Zah];simp;omega)
theorem Zlf {P : Program} (t e : TypeId) {i : TypeInfo} (ht : P.underlying t = some (.slice e)) (hi : P.info? e = some i) (hz : i.zero = some (.agg #[.bool false,.slice none 0 0])) (hs : i.size = 2) (hb : i.bytes = 32)
    (x : Int) (n : Nat) (hx : x = n) (hn : n <= 1000000000000) (W : World) :
    (Instr.makeSlice t (.int .i64 x) (.int .i64 x)).run P W = .ok (.slice (some ⟨W.heap.size,0,none⟩) n n) (W.alloc (.cells (Zad (List.replicate n Zao)) e)):=by
 subst hx;have hr:=run_make (P:=P) W t e i _ ht hi hz .i64 .i64 n n (by omega) (by omega) (by rw [hb];omega) (by omega);simp only [Int.toNat_natCast] at hr;rw [hr]
 have : madeCells (Value.agg #[.bool false,.slice none 0 0]).cells (n * i.size) = Zad (List.replicate n Zao):=by
  rw [hs]
  apply Array.toList_inj.1
  unfold Zad;rw [Ziy]
  rfl
 rw [this]
theorem POwn.new (t : TypeId) (w : World) (n : Nat) : POwn t (w.alloc (.cells (Zad (List.replicate n Zao)) t)) w.heap.size (List.replicate n 0):=
 ⟨List.replicate n Zao,Blk.new _ _ _,fun e he=>by rw [(List.mem_replicate.1 he).2];exact ⟨Lim.nil _ _ _ (Nat.zero_le _),rfl⟩,by simp [Zao,WE.num,sg,val]⟩
end Go.Proofs.Ythappeninglakaa
