/- From, of the program and of the reference. Package frac: -/
import Derived.BigQuiet
import Derived.Deep.QuietTactic
import Derived.Test.YtaioanjcjijckaaGreatZl12
import Derived.Test.YtaioanjcjijckaaGreatZl10
set_option maxRecDepth 100000
set_option maxHeartbeats 1000000
set_option linter.unusedSimpArgs false
set_option linter.unusedVariables false
namespace Go.Proofs.YtaioanjcjijckaaGreat
open Go.RowKit
attribute [local go_sem] Zg
def NumW (w : World) (z : Int) (e : Ending) (w' : World) : Prop:=
 Below w.heap.size w w' /\ ∃ neg A n c,e = .returned (.agg #[.bool neg,.slice A n c]) /\ Wd w' neg A n c z
theorem Lim.pair (w : World) (t : TypeId) {v : Nat} (hv : v < 18446744073709551616) {X Y : Int} (hX : X = (v % 4294967296 : Nat)) (hY : Y = (v / 4294967296 : Nat)) :
    Lim (w.alloc (.cells #[.int .u32 X,.int .u32 Y] t)) (some ⟨w.heap.size,0,none⟩) 2 2 [v % 4294967296,v / 4294967296]:=by
 subst hX hY;exact Lim.of_blk (l:=[v % 4294967296,v / 4294967296]) (Blk.new w t _) (Lt32.cons (Nat.mod_lt _ (by decide)) (Lt32.cons (by omega) Lt32.nil)) (by unfold maxLen;simp)
theorem Lim.pair2 (w : World) (o : Obj) (t : TypeId) {v : Nat} (hv : v < 18446744073709551616) {X Y : Int} (hX : X = (v % 4294967296 : Nat)) (hY : Y = (v / 4294967296 : Nat)) :
    Lim ((w.alloc o).alloc (.cells #[.int .u32 X,.int .u32 Y] t)) (some ⟨w.heap.size + 1,0,none⟩) 2 2 [v % 4294967296,v / 4294967296]:=by
 have:=Lim.pair (w.alloc o) t hv hX hY;rw [World.size_alloc] at this;exact this
theorem Zfs {z : Int} (h : z.natAbs <= 9223372036854775808) : z.natAbs < pw 4096:=
 Nat.lt_of_lt_of_le (Nat.lt_of_le_of_lt h (show 9223372036854775808 < pw 2 by decide)) (Zez (by omega))
theorem ResP.small {w : World} {z : Int} {neg : Bool} {A : Option Addr} {n c : Nat} {code : Int} (h : ResP w z neg A n c code) (hs : z.natAbs < pw 4096) : Wd w neg A n c z:=by
 rcases h with ⟨_,_,h⟩ | ⟨h,_⟩
 ·exact h
 ·omega
theorem Wd.alloc {w : World} {neg : Bool} {A : Option Addr} {n c : Nat} {z : Int} (h : Wd w neg A n c z) (o : Obj) : Wd (w.alloc o) neg A n c z:=⟨h.1,h.2.1,h.2.2.alloc o⟩
theorem NumW.box {w w3 : World} {z : Int} {neg : Bool} {A : Option Addr} {n c : Nat} {g : Nat} {t : TypeId} {b0 : Bool} {A0 : Option Addr} {n0 c0 : Nat} (hP : Wd w3 neg A n c z) (hB : Below w.heap.size w w3) (hg : w.heap.size <= g) (hb : Blk w3 g t #[.bool b0,.slice A0 n0 c0]) :
    NumW w z (.returned (.agg #[.bool neg,.slice A n c])) ((w3.setCell ⟨g,0,none⟩ (.bool neg)).setCell ⟨g,1,none⟩ (.slice A n c)):=by
 have hb1 : Blk (w3.setCell ⟨g,0,none⟩ (.bool neg)) g t #[.bool neg,.slice A0 n0 c0]:=hb.set_ 0 (.bool neg);exact ⟨(hB.setCell (p:=⟨g,0,none⟩) hg _).setCell (p:=⟨g,1,none⟩) hg _,_,_,_,_,rfl,hP.1,hP.2.1,(hP.2.2.set_box hb (NoLimb.box _ _ _ _) _ _).set_box hb1 (NoLimb.box _ _ _ _) _ _⟩
theorem NumW.alloc {w w' : World} {z : Int} {e : Ending} (h : NumW w z e w') (o : Obj) : NumW w z e (w'.alloc o):=by
 obtain ⟨hb,neg,A,n,c,he,hw⟩:=h;exact ⟨hb.alloc hb.size _,neg,A,n,c,he,hw.alloc o⟩
theorem Zn6 (v : Nat) (w : World) (hv : v < 9223372036854775808) :
    Calls Tryz.prog 122 #[.int .i64 v] w (NumW w (v)):=by
 have hd0 : decide ((v : Int) < 0) = false:=by simp
 go_enter Tryz.func122,Tryz.ntmps122;go_wp2_with fail;have hB0 : Below w.heap.size w (w.alloc (.cells #[.bool false,.slice none 0 0] 27)):=(Below.refl w.heap.size w).alloc (Nat.le_refl _) _
 refine (Za4 _ _ _ _ [v % 4294967296,v / 4294967296] _ (by
  refine Lim.pair2 w _ _ (by omega) ?_ ?_ <;> first | rfl | omega | (simp only [IntKind.wrap_u64];omega))).mono ?_
 rintro e w1 ⟨hb1,neg1,A1,n1,c1,code1,rfl,hR1⟩
 have hz : sg false (val [v % 4294967296,v / 4294967296]) = v:=by simp [sg,val];omega
 rw [hz] at hR1;have hW1 : Wd w1 neg1 A1 n1 c1 (v):=hR1.small (Zfs (by omega));have hB1 : Below w.heap.size w w1:=(hB0.alloc hB0.size _).trans (hb1.mono (by simp;omega));have m7:=Zb hb1 (Blk.alloc (Blk.new w 27 #[.bool false,.slice none 0 0]) _);have m3:=m7.cell 0;have m4:=m7.cell 1;have m5:=m7.frozen 0;have m6:=m7.frozen 1
 simp at m3 m4
 have hlt:=m7.lt;have HM:=Za m7;clear m7 hz hR1;go_wp2_with fail;refine bodyPost_ret (v:=.agg #[.bool neg1,.slice A1 n1 c1]) (by simp [results,Tryz.results122,go_sem,m3,m4,hlt]) rfl ?_;exact (NumW.box hW1 hB1 (Nat.le_refl _) HM.out).alloc _
theorem Zsn (v : Nat) (w : World) (hv0 : 0 < v) (hv : v <= 9223372036854775808) :
    Calls Tryz.prog 122 #[.int .i64 (-(v : Int))] w (NumW w (-(v : Int))):=by
 have hd0 : decide (-(v : Int) < 0) = true:=by simp;omega
 go_enter Tryz.func122,Tryz.ntmps122;go_wp2_with fail;have hB0 : Below w.heap.size w (w.alloc (.cells #[.bool false,.slice none 0 0] 27)):=(Below.refl w.heap.size w).alloc (Nat.le_refl _) _
 refine (Za4 _ _ _ _ [v % 4294967296,v / 4294967296] _ (by
  refine Lim.pair2 w _ _ (by omega) ?_ ?_ <;> first | rfl | omega | (simp only [IntKind.wrap_u64];omega))).mono ?_
 rintro e w1 ⟨hb1,neg1,A1,n1,c1,code1,rfl,hR1⟩
 have hz : sg true (val [v % 4294967296,v / 4294967296]) = -(v : Int):=by simp [sg,val];omega
 rw [hz] at hR1;have hW1 : Wd w1 neg1 A1 n1 c1 (-(v : Int)):=hR1.small (Zfs (by omega));have hB1 : Below w.heap.size w w1:=(hB0.alloc hB0.size _).trans (hb1.mono (by simp;omega));have m7:=Zb hb1 (Blk.alloc (Blk.new w 27 #[.bool false,.slice none 0 0]) _);have m3:=m7.cell 0;have m4:=m7.cell 1;have m5:=m7.frozen 0;have m6:=m7.frozen 1
 simp at m3 m4
 have hlt:=m7.lt;have HM:=Za m7;clear m7 hz hR1;go_wp2_with fail;refine bodyPost_ret (v:=.agg #[.bool neg1,.slice A1 n1 c1]) (by simp [results,Tryz.results122,go_sem,m3,m4,hlt]) rfl ?_;exact (NumW.box hW1 hB1 (Nat.le_refl _) HM.out).alloc _
theorem Zke (v : Nat) (w : World) (hv : v < 9223372036854775808) :
    Calls Tryz.prog 46 #[.int .i64 v] w (NumW w (v)):=by
 have hd0 : decide ((v : Int) < 0) = false:=by simp
 go_enter Tryz.func46,Tryz.ntmps46;go_wp2_with fail;have hB0 : Below w.heap.size w (w.alloc (.cells #[.bool false,.slice none 0 0] 27)):=(Below.refl w.heap.size w).alloc (Nat.le_refl _) _
 refine (Zaq _ _ _ _ [v % 4294967296,v / 4294967296] _ (by
  refine Lim.pair2 w _ _ (by omega) ?_ ?_ <;> first | rfl | omega | (simp only [IntKind.wrap_u64];omega)) (by omega)).mono ?_
 rintro e w1 ⟨hb1,neg1,A1,n1,c1,code1,rfl,hR1⟩
 have hz : sg false (val [v % 4294967296,v / 4294967296]) = v:=by simp [sg,val];omega
 rw [hz] at hR1;have hW1 : Wd w1 neg1 A1 n1 c1 (v):=hR1.small (Zfs (by omega));have hB1 : Below w.heap.size w w1:=(hB0.alloc hB0.size _).trans (hb1.mono (by simp;omega));have m7:=Zb hb1 (Blk.alloc (Blk.new w 27 #[.bool false,.slice none 0 0]) _);have m3:=m7.cell 0;have m4:=m7.cell 1;have m5:=m7.frozen 0;have m6:=m7.frozen 1
 simp at m3 m4
 have hlt:=m7.lt;have HM:=Za m7;clear m7 hz hR1;go_wp2_with fail;refine bodyPost_ret (v:=.agg #[.bool neg1,.slice A1 n1 c1]) (by simp [results,Tryz.results46,go_sem,m3,m4,hlt]) rfl ?_;exact (NumW.box hW1 hB1 (Nat.le_refl _) HM.out).alloc _
theorem Zqn (v : Nat) (w : World) (hv0 : 0 < v) (hv : v <= 9223372036854775808) :
    Calls Tryz.prog 46 #[.int .i64 (-(v : Int))] w (NumW w (-(v : Int))):=by
 have hd0 : decide (-(v : Int) < 0) = true:=by simp;omega
 go_enter Tryz.func46,Tryz.ntmps46;go_wp2_with fail;have hB0 : Below w.heap.size w (w.alloc (.cells #[.bool false,.slice none 0 0] 27)):=(Below.refl w.heap.size w).alloc (Nat.le_refl _) _
 refine (Zaq _ _ _ _ [v % 4294967296,v / 4294967296] _ (by
  refine Lim.pair2 w _ _ (by omega) ?_ ?_ <;> first | rfl | omega | (simp only [IntKind.wrap_u64];omega)) (by omega)).mono ?_
 rintro e w1 ⟨hb1,neg1,A1,n1,c1,code1,rfl,hR1⟩
 have hz : sg true (val [v % 4294967296,v / 4294967296]) = -(v : Int):=by simp [sg,val];omega
 rw [hz] at hR1;have hW1 : Wd w1 neg1 A1 n1 c1 (-(v : Int)):=hR1.small (Zfs (by omega));have hB1 : Below w.heap.size w w1:=(hB0.alloc hB0.size _).trans (hb1.mono (by simp;omega));have m7:=Zb hb1 (Blk.alloc (Blk.new w 27 #[.bool false,.slice none 0 0]) _);have m3:=m7.cell 0;have m4:=m7.cell 1;have m5:=m7.frozen 0;have m6:=m7.frozen 1
 simp at m3 m4
 have hlt:=m7.lt;have HM:=Za m7;clear m7 hz hR1;go_wp2_with fail;refine bodyPost_ret (v:=.agg #[.bool neg1,.slice A1 n1 c1]) (by simp [results,Tryz.results46,go_sem,m3,m4,hlt]) rfl ?_;exact (NumW.box hW1 hB1 (Nat.le_refl _) HM.out).alloc _
theorem Zij (z : Int) (w : World) (h1 : -9223372036854775808 <= z) (h2 : z <= 9223372036854775807) : Calls Tryz.prog 122 #[.int .i64 z] w (NumW w z):=by
 rcases Int.le_total 0 z with h | h
 ·obtain ⟨v,rfl⟩:=Int.eq_ofNat_of_zero_le h
  exact Zn6 v w (by omega)
 ·rcases Int.eq_ofNat_of_zero_le (show 0 <= -z by omega) with ⟨v,hv⟩
  obtain rfl : z = -(v : Int):=by omega
  rcases Nat.eq_zero_or_pos v with rfl | h0
  ·exact Zn6 0 w (by omega)
  ·exact Zsn v w h0 (by omega)
theorem Zbn (z : Int) (w : World) (h1 : -9223372036854775808 <= z) (h2 : z <= 9223372036854775807) : Calls Tryz.prog 46 #[.int .i64 z] w (NumW w z):=by
 rcases Int.le_total 0 z with h | h
 ·obtain ⟨v,rfl⟩:=Int.eq_ofNat_of_zero_le h
  exact Zke v w (by omega)
 ·rcases Int.eq_ofNat_of_zero_le (show 0 <= -z by omega) with ⟨v,hv⟩
  obtain rfl : z = -(v : Int):=by omega
  rcases Nat.eq_zero_or_pos v with rfl | h0
  ·exact Zke 0 w (by omega)
  ·exact Zqn v w h0 (by omega)
theorem Zcg (neg : Bool) (A : Option Addr) (n c : Nat) (w : World) :
    Calls Tryz.prog 185 #[.agg #[.bool neg,.slice A n c],.int .i64 0] w fun e w'=>e = .returned (.agg #[.bool neg,.slice A n c]) /\ Below w.heap.size w w':=by
 go_enter Tryz.func185,Tryz.ntmps185;go_wp2_with fail;refine bodyPost_ret (v:=.agg #[.bool neg,.slice A n c]) (by simp [results,Tryz.results185,go_sem]) rfl ?_;exact ⟨rfl,by go_grown⟩
theorem Zea (neg : Bool) (A : Option Addr) (n c : Nat) (w : World) (hn : n <= 1000000000) (b : Bool) (hb : ((n : Int) == 0) = b) :
    Calls Tryz.prog 180 #[.agg #[.bool neg,.slice A n c]] w fun e w'=>e = .returned (.bool b) /\ Below w.heap.size w w':=by
 go_enter Tryz.func180,Tryz.ntmps180;go_wp2_with fail;go_ret;exact ⟨rfl,by go_grown⟩
theorem Zo2 (w : World) : Calls Tryz.prog 182 #[] w (NumW w 1):=by
 have hB0 : ∀ X : Obj,Below w.heap.size w (w.alloc X):=fun X=>(Below.refl w.heap.size w).alloc (Nat.le_refl _) _
 have hB0:=Za hB0;go_enter Tryz.func182,Tryz.ntmps182;go_wp2_with fail;refine (Zij 1 _ (by omega) (by omega)).mono ?_;rintro e w1 ⟨hb1,neg1,A1,n1,c1,rfl,hw1⟩;have hB1 : Below w.heap.size w w1:=(hB0.out _).trans (hb1.mono (by simp));have m8:=Zb hb1 (Blk.new w 27 #[.bool false,.slice none 0 0]);have m3:=m8.cell 0;have m4:=m8.cell 1;have m5:=m8.frozen 0;have m6:=m8.frozen 1
 simp at m3 m4
 replace m8:=Za m8;go_wp2_with fail;refine bodyPost_ret (v:=.agg #[.bool neg1,.slice A1 n1 c1]) (by simp [results,Tryz.results182,go_sem,m3,m4]) rfl ?_;exact NumW.box hw1 hB1 (Nat.le_refl _) m8.out
theorem Zs0 (na nb : Bool) (A B : Option Addr) (n c m d : Nat) (za zb : Int) (w : World) (ha : Wd w na A n c za) (hb : Wd w nb B m d zb) (b : Bool) (he : decide (za = zb) = b) :
    Calls Tryz.prog 181 #[.agg #[.bool na,.slice A n c],.agg #[.bool nb,.slice B m d]] w fun e w'=>e = .returned (.bool b) /\ Below w.heap.size w w':=by
 have hcz : ((Zaw za zb) == 0) = b:=by
  rw [<- he];unfold Zaw
  by_cases h1 : za < zb
  ·rw [if_pos h1];have : za ≠ zb:=by omega
   simp [this]
  ·rw [if_neg h1]
   by_cases h2 : zb < za
   ·rw [if_pos h2];have : za ≠ zb:=by omega
    simp [this]
   ·rw [if_neg h2];have : za = zb:=by omega
    simp [this]
 have HA:=Za ha;have HB:=Za hb;clear ha hb he
 have hB0 : ∀ X Y : Obj,Below w.heap.size w ((w.alloc X).alloc Y):=fun X Y=>((Below.refl w.heap.size w).alloc (Nat.le_refl _) _).alloc (by simp) _
 have hB0:=Za hB0;obtain ⟨cz,hczE⟩ : ∃ cz,Zaw za zb = cz:=⟨_,rfl⟩;rw [hczE] at hcz
 have HC : Hid (∀ W : World,Wd W na A n c za -> Wd W nb B m d zb -> Calls Tryz.prog 129 #[.agg #[.bool na,.slice A n c],.agg #[.bool nb,.slice B m d]] W fun e w'=>e = .returned (.tuple #[.int .i64 cz,.int .i64 0]) /\ Below W.heap.size W w'):=fun W h1 h2=>by
  have:=Zmd na nb A B n c m d za zb W h1 h2;rw [hczE] at this;exact this
 clear hczE;go_enter Tryz.func181,Tryz.ntmps181;go_wp2_with fail;refine (HC.out _ ((HA.out.alloc _).alloc _) ((HB.out.alloc _).alloc _)).mono ?_;rintro e w1 ⟨rfl,hb1⟩;go_wp2_with fail;go_ret;exact ⟨rfl,(hB0.out _ _).trans (hb1.mono (by simp;omega))⟩
def Low (num den : Int) : Prop:=0 < den /\ Nat.gcd num.natAbs den.natAbs = 1
theorem Zcl {a b : Nat} {p : Nat} (ha : a < p) (hb : b < p) : Nat.gcd a b < p:=by
 rcases Nat.eq_zero_or_pos a with rfl | h
 ·rw [Nat.gcd_zero_left];exact hb
 ·exact Nat.lt_of_le_of_lt (Nat.le_of_dvd h (Nat.gcd_dvd_left a b)) ha
theorem Zie (na : Bool) (A B : Option Addr) (n c m d : Nat) (za zb : Int) (w : World) (ha : Wd w na A n c za) (hb : Wd w false B m d zb) (hp : 0 < zb) (b : Bool) (hg : decide ((Nat.gcd za.natAbs zb.natAbs : Int) = 1) = b) :
    Calls Tryz.prog 116 #[.agg #[.bool na,.slice A n c,.bool false,.slice B m d]] w fun e w'=>e = .returned (.int .i64 (if b then 0 else 8)) /\ Below w.heap.size w w':=by
 have hm0 : 0 < m:=by rw [<- hb.lim.len];exact length_digits_pos.2 (by omega)
 have hm0' : ((m : Int) == 0) = false:=by simp;omega
 have hm:=hb.2.1;have hgs:=Zcl ha.small hb.small;obtain ⟨G,hG⟩ : ∃ G,Nat.gcd za.natAbs zb.natAbs = G:=⟨_,rfl⟩;rw [hG] at hg hgs;have HA:=Za ha;have HB:=Za hb
 have HGc : Hid (∀ W : World,Wd W na A n c za -> Wd W false B m d zb -> Calls Tryz.prog 179 #[.agg #[.bool na,.slice A n c],.agg #[.bool false,.slice B m d]] W (ResW W (G : Int))):=fun W h1 h2=>by
  have:=Zi5 na false A B n c m d za zb W h1 h2;rw [hG] at this;exact this
 clear ha hb hG
 have hB0 : ∀ X : Obj,Below w.heap.size w (w.alloc X):=fun X=>(Below.refl w.heap.size w).alloc (Nat.le_refl _) _
 have hB0:=Za hB0;go_enter Tryz.func116,Tryz.ntmps116;go_wp2_with fail;refine (HGc.out _ (HA.out.alloc _) (HB.out.alloc _)).mono ?_;rintro e w1 ⟨hb1,ng,Ag,kg,cg,code,rfl,hR⟩
 rcases hR with ⟨-,rfl,hgw⟩ | ⟨hbig,-⟩
 case inr=>exact absurd hbig (by omega)
 obtain ⟨hc1,hf1⟩:=Zbd hb1
 have hz1 : w.heap.size < w1.heap.size:=by have:=hb1.size;simp at this;omega
 have hB1 : Below w.heap.size w w1:=(hB0.out _).trans (hb1.mono (by simp))
 have g2 : w1.cell? ⟨w.heap.size,2,none⟩ = some (.bool false):=by simp [hc1,go_sem]
 have g3 : w1.cell? ⟨w.heap.size,3,none⟩ = some (.slice B m d):=by simp [hc1,go_sem]
 have hbA : Below w1.heap.size w1 (w1.alloc (.cells #[.bool ng,.slice Ag kg cg] 27)):=(Below.refl _ _).alloc (Nat.le_refl _) _;have bg:=Za (Blk.new w1 27 #[.bool ng,.slice Ag kg cg]);have a2:=Zc hbA g2;have a3:=Zc hbA g3;have hgw2:=Za (hgw.alloc (.cells #[.bool ng,.slice Ag kg cg] 27));have hB2:=Za (hB1.trans (hbA.mono hB1.size));clear hc1 hf1 g2 g3 hgw;go_wp2_with fail
 generalize w1.alloc _ = w2 at *
 have p0:=bg.out.cell 0;have p1:=bg.out.cell 1
 simp at p0 p1
 go_region_held3 (fun w'=>w'.cell? ⟨w.heap.size,2,none⟩ = some (.bool false) /\ w'.cell? ⟨w.heap.size,3,none⟩ = some (.slice B m d) /\ w'.cell? ⟨w1.heap.size,0,none⟩ = some (.bool ng) /\ w'.cell? ⟨w1.heap.size,1,none⟩ = some (.slice Ag kg cg))
  (((try dsimp only);(repeat' apply And.intro);all_goals (first | go_keep | (simp [*,go_sem];done))))
  (first
   | (go_at_call 180;refine (Zea _ _ _ _ _ (by omega) _ hm0').mono ?_;rintro e w3 ⟨rfl,hb3⟩;have hb3':=Zq hb3;have k2:=Zc hb3' a2;have k3:=Zc hb3' a3;have k0:=Zc hb3' p0;have k1:=Zc hb3' p1)
   | (go_at_call 182;refine (Zo2 _).mono ?_;rintro e w4 ⟨hb4,n4,A4,m4,c4,rfl,hw4⟩;have j2:=Zc hb4 k2;have j3:=Zc hb4 k3;have j0:=Zc hb4 k0;have j1:=Zc hb4 k1)
   | (go_at_call 181;refine (Zs0 _ _ _ _ _ _ _ _ _ _ _ ((hgw2.out.below hb3').below hb4) hw4 b hg).mono ?_;rintro e w5 ⟨rfl,hb5⟩;have i2:=Zc hb5 j2;have i3:=Zc hb5 j3;have i0:=Zc hb5 j0;have i1:=Zc hb5 j1))
 have hB5 : Hid (Below w.heap.size w w5):=((hB2.out.trans (hb3'.mono hB2.out.size)).trans (hb4.mono (Nat.le_trans hB2.out.size hb3'.size))).trans (hb5.mono (Nat.le_trans hB2.out.size (Nat.le_trans hb3'.size hb4.size)))
 cases b
 ·go_wp2_with fail
  go_ret;exact ⟨rfl,hB5.out⟩
 ·go_wp2_with fail
  go_ret;exact ⟨rfl,hB5.out⟩
def Zd5 (a b : Int) : Int:=if b < 0 then -(Nat.gcd a.natAbs b.natAbs : Nat) else (Nat.gcd a.natAbs b.natAbs : Nat)
theorem Zh6 {a b : Int} (h : b ≠ 0) : Zd5 a b ≠ 0:=by
 have : 0 < Nat.gcd a.natAbs b.natAbs:=Nat.gcd_pos_of_pos_right _ (by omega);unfold Zd5;split <;> omega
theorem Zg0 (a b : Int) : ((Nat.gcd a.natAbs b.natAbs : Nat) : Int) ∣ a:=by
 rw [<- Int.dvd_natAbs];exact Int.ofNat_dvd.2 (Nat.gcd_dvd_left _ _)
theorem Zjn (a b : Int) : ((Nat.gcd a.natAbs b.natAbs : Nat) : Int) ∣ b:=by
 rw [<- Int.dvd_natAbs];exact Int.ofNat_dvd.2 (Nat.gcd_dvd_right _ _)
theorem Zqx (a b : Int) : Zd5 a b ∣ a:=by
 unfold Zd5;split
 ·exact Int.neg_dvd.2 (Zg0 a b)
 ·exact Zg0 a b
theorem Zqz (a b : Int) : Zd5 a b ∣ b:=by
 unfold Zd5;split
 ·exact Int.neg_dvd.2 (Zjn a b)
 ·exact Zjn a b
theorem Zn2 (a b : Int) : Int.gcd b a = Nat.gcd a.natAbs b.natAbs:=by unfold Int.gcd;exact Nat.gcd_comm _ _
theorem Zgz {a b : Int} (h : b ≠ 0) : Int.fdiv a (Zd5 a b) = (Rat.divInt a b).num:=by
 rw [Int.fdiv_eq_ediv_of_dvd (Zqx a b),Rat.num_divInt,Zn2];unfold Zd5;obtain ⟨k,hk⟩:=Zg0 a b
 have hg : ((Nat.gcd a.natAbs b.natAbs : Nat) : Int) ≠ 0:=by
  have : 0 < Nat.gcd a.natAbs b.natAbs:=Nat.gcd_pos_of_pos_right _ (by omega);omega
 split
 ·rename_i hb
  rw [Int.ediv_neg,Int.sign_eq_neg_one_of_neg hb,show (-1 : Int) * a = -a by omega,Int.neg_ediv_of_dvd (Zg0 a b)]
 ·rw [Int.sign_eq_one_of_pos (by omega),Int.one_mul]
theorem Zgt {a b : Int} (h : b ≠ 0) : Int.fdiv b (Zd5 a b) = ((Rat.divInt a b).den : Nat):=by
 rw [Int.fdiv_eq_ediv_of_dvd (Zqz a b),Rat.den_divInt,Zn2,if_neg h];unfold Zd5
 split
 ·rename_i hb
  rw [Int.ediv_neg,<- Int.neg_ediv_of_dvd (Zjn a b),show -b = ((b.natAbs : Nat) : Int) by omega,Int.natCast_ediv]
 ·rw [Int.natCast_ediv,show ((b.natAbs : Nat) : Int) = b by omega]
theorem Zp8 (r : Rat) : Low r.num r.den:=⟨by have:=r.den_pos;omega,by simpa using r.reduced⟩
theorem rat_low {a b : Int} (h : Low a b) : (Rat.divInt a b).num = a /\ ((Rat.divInt a b).den : Int) = b:=by
 have h0 : b ≠ 0:=by have:=h.1;omega
 have hG : Zd5 a b = 1:=by unfold Zd5;rw [if_neg (by have:=h.1;omega),h.2];rfl
 rw [<- Zgz h0,<- Zgt h0,hG]
 simp
def Fr (w : World) (na : Bool) (A : Option Addr) (n c : Nat) (nb : Bool) (B : Option Addr) (m d : Nat) (r : Rat) : Prop:=Wd w na A n c r.num /\ Wd w nb B m d (r.den : Nat)
theorem Fr.below {w w' : World} {na : Bool} {A : Option Addr} {n c : Nat} {nb : Bool} {B : Option Addr} {m d : Nat} {r : Rat} (h : Fr w na A n c nb B m d r) (hb : Below w.heap.size w w') : Fr w' na A n c nb B m d r:=⟨h.1.below hb,h.2.below hb⟩
theorem Fr.alloc {w : World} {na : Bool} {A : Option Addr} {n c : Nat} {nb : Bool} {B : Option Addr} {m d : Nat} {r : Rat} (h : Fr w na A n c nb B m d r) (o : Obj) : Fr (w.alloc o) na A n c nb B m d r:=⟨h.1.alloc o,h.2.alloc o⟩
theorem Fr.neg {w : World} {na : Bool} {A : Option Addr} {n c : Nat} {nb : Bool} {B : Option Addr} {m d : Nat} {r : Rat} (h : Fr w na A n c nb B m d r) : nb = false:=by
 have:=h.2.1;rw [this];simp
def Zds (w : World) (r : Rat) (e : Ending) (w' : World) : Prop:=
 Below w.heap.size w w' /\ ∃ na A n c nb B m d,e = .returned (.agg #[.bool na,.slice A n c,.bool nb,.slice B m d]) /\ Fr w' na A n c nb B m d r
def Zdr (w : World) (r : Rat) (e : Ending) (w' : World) : Prop:=
 Below w.heap.size w w' /\ ∃ na A n c nb B m d,e = .returned (.tuple #[.agg #[.bool na,.slice A n c,.bool nb,.slice B m d],.int .i64 0]) /\ Fr w' na A n c nb B m d r
def Zp5 (w W : World) (g : Nat) : Prop:=
 (∀ na A n c z,Wd w na A n c z -> Wd W na A n c z) /\ (∀ g' t' cs',g' ≠ g -> Blk w g' t' cs' -> Blk W g' t' cs') /\ W.heap.size = w.heap.size
theorem NoLimb.box4 (b : Bool) (A : Option Addr) (n c : Nat) (b' : Bool) (A' : Option Addr) (n' c' : Nat) : NoLimb #[.bool b,.slice A n c,.bool b',.slice A' n' c']:=fun i x=>by
 rcases i with _ | _ | _ | _ | i <;> simp
theorem Z6 {t : TypeId} {B : Nat} {w0 w : World} {g : Nat} {b0 : Bool} {A0 : Option Addr} {n0 c0 : Nat} (neg : Bool) (A : Option Addr) (n c : Nat) (hB : Below B w0 w) (hs : B <= g) (hb : Blk w g t #[.bool b0,.slice A0 n0 c0]) :
    ∃ W,(w.setCell ⟨g,0,none⟩ (.bool neg)).setCell ⟨g,1,none⟩ (.slice A n c) = W /\ Below B w0 W /\ Blk W g t #[.bool neg,.slice A n c] /\ Zp5 w W g:=by
 have hb1 : Blk (w.setCell ⟨g,0,none⟩ (.bool neg)) g t #[.bool neg,.slice A0 n0 c0]:=hb.set_ 0 (.bool neg);have hb2 : Blk ((w.setCell ⟨g,0,none⟩ (.bool neg)).setCell ⟨g,1,none⟩ (.slice A n c)) g t #[.bool neg,.slice A n c]:=hb1.set_ 1 (.slice A n c);refine ⟨_,rfl,(hB.setCell (p:=⟨g,0,none⟩) hs _).setCell (p:=⟨g,1,none⟩) hs _,hb2,fun na A' n' c' z hW=>⟨hW.1,hW.2.1,(hW.2.2.set_box hb (NoLimb.box _ _ _ _) _ _).set_box hb1 (NoLimb.box _ _ _ _) _ _⟩,fun g' t' cs' hg h=>(h.far hg _).far hg _,by simp⟩
theorem Zaa {t : TypeId} {B : Nat} {w0 w : World} {g : Nat} {a0 : Bool} {A0 : Option Addr} {n0 c0 : Nat} {b0 : Bool} {B0 : Option Addr} {m0 d0 : Nat} (na : Bool) (A : Option Addr) (n c : Nat) (nb : Bool) (B' : Option Addr) (m d : Nat) (hB : Below B w0 w) (hs : B <= g) (hb : Blk w g t #[.bool a0,.slice A0 n0 c0,.bool b0,.slice B0 m0 d0]) :
    ∃ W,(((w.setCell ⟨g,0,none⟩ (.bool na)).setCell ⟨g,1,none⟩ (.slice A n c)).setCell ⟨g,2,none⟩ (.bool nb)).setCell ⟨g,3,none⟩ (.slice B' m d) = W /\ Below B w0 W /\ Blk W g t #[.bool na,.slice A n c,.bool nb,.slice B' m d] /\ Zp5 w W g:=by
 have hb1 : Blk (w.setCell ⟨g,0,none⟩ (.bool na)) g t #[.bool na,.slice A0 n0 c0,.bool b0,.slice B0 m0 d0]:=hb.set_ 0 (.bool na);have hb2 : Blk ((w.setCell ⟨g,0,none⟩ (.bool na)).setCell ⟨g,1,none⟩ (.slice A n c)) g t #[.bool na,.slice A n c,.bool b0,.slice B0 m0 d0]:=hb1.set_ 1 (.slice A n c);have hb3 : Blk (((w.setCell ⟨g,0,none⟩ (.bool na)).setCell ⟨g,1,none⟩ (.slice A n c)).setCell ⟨g,2,none⟩ (.bool nb)) g t #[.bool na,.slice A n c,.bool nb,.slice B0 m0 d0]:=hb2.set_ 2 (.bool nb);have hb4 : Blk ((((w.setCell ⟨g,0,none⟩ (.bool na)).setCell ⟨g,1,none⟩ (.slice A n c)).setCell ⟨g,2,none⟩ (.bool nb)).setCell ⟨g,3,none⟩ (.slice B' m d)) g t #[.bool na,.slice A n c,.bool nb,.slice B' m d]:=hb3.set_ 3 (.slice B' m d);have hl:=NoLimb.box4;refine ⟨_,rfl,(((hB.setCell (p:=⟨g,0,none⟩) hs _).setCell (p:=⟨g,1,none⟩) hs _).setCell (p:=⟨g,2,none⟩) hs _).setCell (p:=⟨g,3,none⟩) hs _,hb4,fun na A' n' c' z hW=>⟨hW.1,hW.2.1,?_⟩,fun g' t' cs' hg h=>(((h.far hg _).far hg _).far hg _).far hg _,by simp⟩;exact (((hW.2.2.set_box hb (hl _ _ _ _ _ _ _ _) _ _).set_box hb1 (hl _ _ _ _ _ _ _ _) _ _).set_box hb2 (hl _ _ _ _ _ _ _ _) _ _).set_box hb3 (hl _ _ _ _ _ _ _ _) _ _
theorem Blk.two {w : World} {g : Nat} {t : TypeId} {x y : Value} (h : Blk w g t #[x,y]) : w.cell? ⟨g,0,none⟩ = some x /\ w.cell? ⟨g,1,none⟩ = some y /\ w.frozen? ⟨g,0,none⟩ = false /\ w.frozen? ⟨g,1,none⟩ = false:=
 ⟨h.cell 0,h.cell 1,h.frozen 0,h.frozen 1⟩
theorem Blk.four {w : World} {g : Nat} {t : TypeId} {x y z v : Value} (h : Blk w g t #[x,y,z,v]) : w.cell? ⟨g,0,none⟩ = some x /\ w.cell? ⟨g,1,none⟩ = some y /\ w.cell? ⟨g,2,none⟩ = some z /\ w.cell? ⟨g,3,none⟩ = some v /\ w.frozen? ⟨g,0,none⟩ = false /\ w.frozen? ⟨g,1,none⟩ = false /\ w.frozen? ⟨g,2,none⟩ = false /\ w.frozen? ⟨g,3,none⟩ = false:=
 ⟨h.cell 0,h.cell 1,h.cell 2,h.cell 3,h.frozen 0,h.frozen 1,h.frozen 2,h.frozen 3⟩
theorem Z5 {B : Nat} {w0 w : World} (t : TypeId) (cs : Array Value) (hB : Below B w0 w) (hs : B <= w.heap.size) :
    ∃ W,w.alloc (.cells cs t) = W /\ Below B w0 W /\ Blk W w.heap.size t cs /\ (∀ na A n c z,Wd w na A n c z -> Wd W na A n c z) /\ (∀ g' t' cs',Blk w g' t' cs' -> Blk W g' t' cs') /\ W.heap.size = w.heap.size + 1:=
 ⟨_,rfl,hB.alloc hs _,Blk.new _ _ _,fun _ _ _ _ _ h=>h.alloc _,fun _ _ _ h=>h.alloc _,by simp⟩
theorem Zdm (w : World) (t0 : TypeId) (c0 : Array Value) (t1 : TypeId) (c1 : Array Value) :
    ∃ W,(w.alloc (.cells c0 t0)).alloc (.cells c1 t1) = W /\ Below w.heap.size w W /\ (Blk W w.heap.size t0 c0 /\ Blk W (w.heap.size + 1) t1 c1) /\ W.heap.size = w.heap.size + 1 + 1:=by
 refine ⟨_,rfl,((Below.refl w.heap.size w).alloc (Nat.le_refl _) _).alloc (by simp) _,⟨(Blk.new _ _ _).alloc _,?_⟩,by simp⟩;have:=Blk.new (w.alloc (.cells c0 t0)) t1 c1;simp only [World.size_alloc] at this;exact this
theorem Zbm (w : World) (t0 : TypeId) (c0 : Array Value) (t1 : TypeId) (c1 : Array Value) (t2 : TypeId) (c2 : Array Value) :
    ∃ W,((w.alloc (.cells c0 t0)).alloc (.cells c1 t1)).alloc (.cells c2 t2) = W /\ Below w.heap.size w W /\ (Blk W w.heap.size t0 c0 /\ Blk W (w.heap.size + 1) t1 c1 /\ Blk W (w.heap.size + 1 + 1) t2 c2) /\ W.heap.size = w.heap.size + 1 + 1 + 1:=by
 obtain ⟨W,hW,h1,h2,h3⟩:=Zdm w t0 c0 t1 c1;refine ⟨_,rfl,?_,⟨?_,?_,?_⟩,by rw [hW];simp [h3]⟩ <;> rw [hW]
 ·exact h1.alloc (by omega) _
 ·exact h2.1.alloc _
 ·exact h2.2.alloc _
 ·rw [<- h3];exact Blk.new _ _ _
theorem Zf6 (w : World) (t0 : TypeId) (c0 : Array Value) (t1 : TypeId) (c1 : Array Value) (t2 : TypeId) (c2 : Array Value) (t3 : TypeId) (c3 : Array Value) :
    ∃ W,(((w.alloc (.cells c0 t0)).alloc (.cells c1 t1)).alloc (.cells c2 t2)).alloc (.cells c3 t3) = W /\ Below w.heap.size w W /\ (Blk W w.heap.size t0 c0 /\ Blk W (w.heap.size + 1) t1 c1 /\ Blk W (w.heap.size + 1 + 1) t2 c2 /\ Blk W (w.heap.size + 1 + 1 + 1) t3 c3) /\ W.heap.size = w.heap.size + 1 + 1 + 1 + 1:=by
 obtain ⟨W,hW,h1,h2,h3⟩:=Zbm w t0 c0 t1 c1 t2 c2;refine ⟨_,rfl,?_,⟨?_,?_,?_,?_⟩,by rw [hW];simp [h3]⟩ <;> rw [hW]
 ·exact h1.alloc (by omega) _
 ·exact h2.1.alloc _
 ·exact h2.2.1.alloc _
 ·exact h2.2.2.alloc _
 ·rw [<- h3];exact Blk.new _ _ _
theorem Zbe {t : TypeId} {B : Nat} {w0 w : World} {g : Nat} {x0 : Int} (x : Int) (hB : Below B w0 w) (hs : B <= g) (hb : Blk w g t #[.int .i64 x0]) :
    ∃ W,w.setCell ⟨g,0,none⟩ (.int .i64 x) = W /\ Below B w0 W /\ Blk W g t #[.int .i64 x] /\ Zp5 w W g:=by
 have hb1 : Blk (w.setCell ⟨g,0,none⟩ (.int .i64 x)) g t #[.int .i64 x]:=hb.set_ 0 (.int .i64 x)
 have hl : NoLimb #[.int .i64 x0]:=fun i x=>by rcases i with _ | i <;> simp
 exact ⟨_,rfl,hB.setCell (p:=⟨g,0,none⟩) hs _,hb1,fun na A' n' c' z hW=>⟨hW.1,hW.2.1,hW.2.2.set_box hb hl _ _⟩,fun g' t' cs' hg h=>h.far hg _,by simp⟩
theorem Zgg (na : Bool) (A B : Option Addr) (n c m d : Nat) (za zb : Int) (w : World) (ha : Wd w na A n c za) (hb : Wd w false B m d zb) (h0 : 0 < zb) :
    Calls Tryz.prog 189 #[.agg #[.bool na,.slice A n c],.agg #[.bool false,.slice B m d]] w (Zds w (Rat.divInt za zb)):=by
 have hgs:=Zcl ha.small hb.small;have hx:=Za (Zgz (a:=za) (b:=zb) (by omega));have hy:=Za (Zgt (a:=za) (b:=zb) (by omega));have hG0:=Za (Zh6 (a:=za) (b:=zb) (by omega))
 have hGE : Zd5 za zb = (Nat.gcd za.natAbs zb.natAbs : Nat):=by unfold Zd5;rw [if_neg (by omega)]
 rw [hGE] at hx hy hG0;have HA:=Za ha;have HB:=Za hb;obtain ⟨G,hG⟩ : ∃ G,Nat.gcd za.natAbs zb.natAbs = G:=⟨_,rfl⟩;rw [hG] at hx hy hG0 hgs
 have HGc : Hid (∀ W : World,Wd W na A n c za -> Wd W false B m d zb -> Calls Tryz.prog 179 #[.agg #[.bool na,.slice A n c],.agg #[.bool false,.slice B m d]] W (ResW W (G : Int))):=fun W h1 h2=>by
  have:=Zi5 na false A B n c m d za zb W h1 h2;rw [hG] at this;exact this
 generalize Rat.divInt za zb = R at *
 clear ha hb hG hGE
 have hB0 : ∀ X Y Z : Obj,Below w.heap.size w (((w.alloc X).alloc Y).alloc Z):=fun X Y Z=>(((Below.refl w.heap.size w).alloc (Nat.le_refl _) _).alloc (by simp) _).alloc (by simp;omega) _
 have hB0:=Za hB0;go_enter Tryz.func189,Tryz.ntmps189;go_wp2_with fail;have q0 : Blk (((w.alloc (.cells #[.bool na,.slice A n c] 27)).alloc (.cells #[.bool false,.slice B m d] 27)).alloc (.cells #[.bool false,.slice none 0 0,.bool false,.slice none 0 0] 29)) w.heap.size 27 #[.bool na,.slice A n c]:=((Blk.new _ _ _).alloc _).alloc _
 have q1 : Blk (((w.alloc (.cells #[.bool na,.slice A n c] 27)).alloc (.cells #[.bool false,.slice B m d] 27)).alloc (.cells #[.bool false,.slice none 0 0,.bool false,.slice none 0 0] 29)) (w.heap.size + 1) 27 #[.bool false,.slice B m d]:=by
  have:=(Blk.new (w.alloc (.cells #[.bool na,.slice A n c] 27)) 27 #[.bool false,.slice B m d]).alloc (.cells #[.bool false,.slice none 0 0,.bool false,.slice none 0 0] 29);simp only [World.size_alloc] at this;exact this
 have q2 : Blk (((w.alloc (.cells #[.bool na,.slice A n c] 27)).alloc (.cells #[.bool false,.slice B m d] 27)).alloc (.cells #[.bool false,.slice none 0 0,.bool false,.slice none 0 0] 29)) (w.heap.size + 1 + 1) 29 #[.bool false,.slice none 0 0,.bool false,.slice none 0 0]:=by
  have:=Blk.new ((w.alloc (.cells #[.bool na,.slice A n c] 27)).alloc (.cells #[.bool false,.slice B m d] 27)) 29 #[.bool false,.slice none 0 0,.bool false,.slice none 0 0];simp only [World.size_alloc] at this;exact this
 refine (HGc.out _ (((HA.out.alloc _).alloc _).alloc _) (((HB.out.alloc _).alloc _).alloc _)).mono ?_;rintro e w1 ⟨hb1,ng,Ag,kg,cg,code,rfl,hR⟩
 rcases hR with ⟨-,rfl,hgw⟩ | ⟨hbig,-⟩
 case inr=>exact absurd hbig (by omega)
 have hB1 : Below w.heap.size w w1:=(hB0.out _ _ _).trans (hb1.mono (by simp;omega));have HA1:=Za (HA.out.below hB1);have HB1:=Za (HB.out.below hB1)
 have s1 : w.heap.size + 1 + 1 < w1.heap.size:=by have:=hb1.size;simp at this;omega
 replace q0:=Zb hb1 q0;replace q1:=Zb hb1 q1;replace q2:=Zb hb1 q2;obtain ⟨c00,c01,-,-⟩:=q0.two;obtain ⟨c10,c11,-,-⟩:=q1.two;have hq:=Za (And.intro q0 (And.intro q1 q2));clear q0 q1 q2 hb1;go_wp2_with fail;refine (Zcg ng Ag kg cg _).mono ?_;rintro e w2 ⟨rfl,hb2⟩;have hB2 : Below w.heap.size w w2:=hB1.trans (hb2.mono hB1.size);have HA2:=Za (HA1.out.below hb2);have HB2:=Za (HB1.out.below hb2);have HG2:=Za (hgw.below hb2)
 have s2 : w.heap.size + 1 + 1 < w2.heap.size:=by have:=hb2.size;omega
 have q0:=Zb hb2 hq.out.1;have q1:=Zb hb2 hq.out.2.1;have q2:=Zb hb2 hq.out.2.2;clear c00 c01 c10 c11 hB1 hb2 hgw HA1 HB1 hq;obtain ⟨W3,hW3,hB3,q3,kW,kB,s3⟩:=Z5 27 #[.bool ng,.slice Ag kg cg] hB2 (by omega);replace q0:=kB _ _ _ q0;replace q1:=kB _ _ _ q1;replace q2:=kB _ _ _ q2;have HA3:=Za (kW _ _ _ _ _ HA2.out);have HB3:=Za (kW _ _ _ _ _ HB2.out);have HG3:=Za (kW _ _ _ _ _ HG2.out);have s4 : w.heap.size + 1 + 1 < w2.heap.size:=s2;clear kW kB HA2 HB2 HG2 hB2;have c0:=Za q0.two;have c1:=Za q1.two;have c3:=Za q3.two;rw [<- hW3] at c0 c1 c3;obtain ⟨c00,c01,-,-⟩:=c0.out;obtain ⟨c10,c11,-,-⟩:=c1.out;obtain ⟨c30,c31,-,-⟩:=c3.out;have hq:=Za (And.intro q0 (And.intro q1 (And.intro q2 q3)));clear q0 q1 q2 q3;replace hW3:=Za hW3;go_wp2_with fail;rw [hW3.out];refine (Zda na ng A Ag n c kg cg za G _ HA3.out HG3.out hG0.out).mono ?_;rintro e w4 ⟨hb4,nx,Ax,kx,cx,nr,Ar,kr,cr,rfl,hwx,-⟩;rw [hx.out] at hwx;have hB4 : Below w.heap.size w w4:=hB3.trans (hb4.mono (by omega));have HB4:=Za (HB3.out.below hb4);have HG4:=Za (HG3.out.below hb4)
 have s5 : w2.heap.size + 1 <= w4.heap.size:=by have:=hb4.size;omega
 have q1:=Zb hb4 hq.out.2.1;have q2:=Zb hb4 hq.out.2.2.1;have q3:=Zb hb4 hq.out.2.2.2;clear hb4 c0 c1 c3 c00 c01 c10 c11 c30 c31 hW3 HA3 HB3 HG3 hB3 hq;obtain ⟨W5,hW5,hB5,q5,kW,kB,s6⟩:=Z5 27 #[.bool nx,.slice Ax kx cx] hB4 (by omega);replace q1:=kB _ _ _ q1;replace q2:=kB _ _ _ q2;replace q3:=kB _ _ _ q3;have HB5:=Za (kW _ _ _ _ _ HB4.out);have HG5:=Za (kW _ _ _ _ _ HG4.out);have HX5:=Za (kW _ _ _ _ _ hwx);clear kW kB HB4 HG4 hwx hB4;obtain ⟨W6,hW6,hB6,-,kW,kB,s7⟩:=Z5 27 #[.bool nr,.slice Ar kr cr] hB5 (by omega);replace q1:=kB _ _ _ q1;replace q2:=kB _ _ _ q2;replace q3:=kB _ _ _ q3;replace q5:=kB _ _ _ q5;have HB6:=Za (kW _ _ _ _ _ HB5.out);have HG6:=Za (kW _ _ _ _ _ HG5.out);have HX6:=Za (kW _ _ _ _ _ HX5.out);clear kW kB HB5 HG5 HX5 hB5;have c1:=Za q1.two;have c3:=Za q3.two;rw [<- hW6,<- hW5] at c1 c3;obtain ⟨c10,c11,-,-⟩:=c1.out;obtain ⟨c30,c31,-,-⟩:=c3.out;have hq:=Za (And.intro q2 q5);clear q1 q2 q3 q5;rw [<- hW5] at hW6;replace hW6:=Za hW6;clear hW5;go_wp2_with fail;rw [hW6.out];refine (Zda false ng B Ag m d kg cg zb G _ HB6.out HG6.out hG0.out).mono ?_;rintro e w7 ⟨hb7,ny,Ay,ky,cy,ns,As,ks,cs,rfl,hwy,-⟩;rw [hy.out] at hwy;have hB7 : Below w.heap.size w w7:=hB6.trans (hb7.mono (by omega));have HX7:=Za (HX6.out.below hb7)
 have s8 : w4.heap.size + 2 <= w7.heap.size:=by have:=hb7.size;omega
 have q2:=Zb hb7 hq.out.1;have q5:=Zb hb7 hq.out.2;clear hb7 c1 c3 c10 c11 c30 c31 hW6 HB6 HG6 HX6 hB6 hq;obtain ⟨W8,hW8,hB8,q8,kW,kB,s9⟩:=Z5 27 #[.bool ny,.slice Ay ky cy] hB7 (by omega);replace q2:=kB _ _ _ q2;replace q5:=kB _ _ _ q5;have HX8:=Za (kW _ _ _ _ _ HX7.out);have HY8:=Za (kW _ _ _ _ _ hwy);clear kW kB HX7 hwy hB7;obtain ⟨W9,hW9,hB9,-,kW,kB,s10⟩:=Z5 27 #[.bool ns,.slice As ks cs] hB8 (by omega);replace q2:=kB _ _ _ q2;replace q5:=kB _ _ _ q5;replace q8:=kB _ _ _ q8;have HX9:=Za (kW _ _ _ _ _ HX8.out);have HY9:=Za (kW _ _ _ _ _ HY8.out);clear kW kB HX8 HY8 hB8;have c5:=Za q5.two;have c8:=Za q8.two;have c2:=Za q2.four;have hq:=Za q2;rw [<- hW9,<- hW8] at c5 c8 c2;rw [<- hW8] at hW9;clear hW8 q2 q5 q8;obtain ⟨c50,c51,-,-⟩:=c5.out;obtain ⟨c80,c81,-,-⟩:=c8.out;obtain ⟨c20,c21,c22,c23,f20,f21,f22,f23⟩:=c2.out;replace hW9:=Za hW9;replace hB9:=Za hB9;go_wp2_with fail;rw [hW9.out];obtain ⟨W,hW,hB,hblk,kW,-⟩:=Zaa nx Ax kx cx ny Ay ky cy hB9.out (by omega) hq.out;rw [hW];obtain ⟨r0,r1,r2,r3,-⟩:=hblk.four;refine bodyPost_ret (v:=.agg #[.bool nx,.slice Ax kx cx,.bool ny,.slice Ay ky cy]) (by simp [results,Tryz.results189,go_sem,r0,r1,r2,r3]) rfl ?_;exact ⟨hB,_,_,_,_,_,_,_,_,rfl,kW _ _ _ _ _ HX9.out,kW _ _ _ _ _ HY9.out⟩
end Go.Proofs.YtaioanjcjijckaaGreat
