/- From, of the program and of the reference. Package frac: -/
import Derived.BigQuiet
import Derived.Deep.QuietTactic
import Derived.Deep.CutBlock
import Derived.Deep.DeepCutAuto
import Derived.Test.YtigdclhagmnopaaGreatZq08
import Derived.Test.YtigdclhagmnopaaGreatZq07
set_option maxRecDepth 100000
set_option maxHeartbeats 4000000
set_option linter.unusedSimpArgs false
set_option linter.unusedVariables false
namespace Go.Proofs.YtigdclhagmnopaaGreat
open Go.RowKit
attribute [local go_sem] Zh
def NumW (w:World) (z:Int) (e:Ending) (w':World):Prop:=
 Below w.heap.size w w'/\∃ neg A n c,e=.returned (.agg #[.bool neg,.slice A n c])/\Wd w' neg A n c z
theorem Lim.pair (w:World) (t:TypeId) {v:Nat} (hv:v < 18446744073709551616) {X Y:Int} (hX:X=(v % 4294967296:Nat)) (hY:Y=(v / 4294967296:Nat)) :
    Lim (w.alloc (.cells #[.int .u32 X,.int .u32 Y] t)) (some ⟨w.heap.size,0,none⟩) 2 2 [v % 4294967296,v / 4294967296]:=by
 subst hX hY;exact Lim.of_blk (l:=[v % 4294967296,v / 4294967296]) (Blk.new w t _) (Lt32.cons (Nat.mod_lt _ (by decide)) (Lt32.cons (by omega) Lt32.nil)) (by unfold maxLen;simp)
theorem Lim.pair2 (w:World) (o:Obj) (t:TypeId) {v:Nat} (hv:v < 18446744073709551616) {X Y:Int} (hX:X=(v % 4294967296:Nat)) (hY:Y=(v / 4294967296:Nat)) :
    Lim ((w.alloc o).alloc (.cells #[.int .u32 X,.int .u32 Y] t)) (some ⟨w.heap.size+1,0,none⟩) 2 2 [v % 4294967296,v / 4294967296]:=by
 have:=Lim.pair (w.alloc o) t hv hX hY;rw [World.size_alloc] at this;exact this
theorem Zho {z:Int} (h:z.natAbs <= 9223372036854775808):z.natAbs < pw 4096:=
 Nat.lt_of_lt_of_le (Nat.lt_of_le_of_lt h (show 9223372036854775808 < pw 2 by decide)) (Zbk (by omega))
theorem ResP.small {w:World} {z:Int} {neg:Bool} {A:Option Addr} {n c:Nat} {code:Int} (h:ResP w z neg A n c code) (hs:z.natAbs < pw 4096):Wd w neg A n c z:=by
 rcases h with ⟨_,_,h⟩ | ⟨h,_⟩
 ·exact h
 ·omega
theorem Wd.alloc {w:World} {neg:Bool} {A:Option Addr} {n c:Nat} {z:Int} (h:Wd w neg A n c z) (o:Obj):Wd (w.alloc o) neg A n c z:=⟨h.1,h.2.1,h.2.2.alloc o⟩
theorem NumW.box {w w3:World} {z:Int} {neg:Bool} {A:Option Addr} {n c:Nat} {g:Nat} {t:TypeId} {b0:Bool} {A0:Option Addr} {n0 c0:Nat} (hP:Wd w3 neg A n c z) (hB:Below w.heap.size w w3) (hg:w.heap.size <= g) (hb:Blk w3 g t #[.bool b0,.slice A0 n0 c0]) :
    NumW w z (.returned (.agg #[.bool neg,.slice A n c])) ((w3.setCell ⟨g,0,none⟩ (.bool neg)).setCell ⟨g,1,none⟩ (.slice A n c)):=by
 have hb1:Blk (w3.setCell ⟨g,0,none⟩ (.bool neg)) g t #[.bool neg,.slice A0 n0 c0]:=hb.set_ 0 (.bool neg);exact ⟨(hB.setCell (p:=⟨g,0,none⟩) hg _).setCell (p:=⟨g,1,none⟩) hg _,_,_,_,_,rfl,hP.1,hP.2.1,(hP.2.2.set_box hb (NoLimb.box _ _ _ _) _ _).set_box hb1 (NoLimb.box _ _ _ _) _ _⟩
theorem NumW.alloc {w w':World} {z:Int} {e:Ending} (h:NumW w z e w') (o:Obj):NumW w z e (w'.alloc o):=by
 obtain ⟨hb,neg,A,n,c,he,hw⟩:=h;exact ⟨hb.alloc hb.size _,neg,A,n,c,he,hw.alloc o⟩
theorem Zpy (v:Nat) (w:World) (hv:v < 9223372036854775808) :
    Calls Tryz.prog 95 #[.int .i64 v] w (NumW w (v)):=by
 have hd0:decide ((v:Int) < 0)=false:=by simp
 go_enter Tryz.func95,Tryz.ntmps95;go_wp2_with fail;have hB0:Below w.heap.size w (w.alloc (.cells #[.bool false,.slice none 0 0] 43)):=(Below.refl w.heap.size w).alloc (Nat.le_refl _) _
 refine (Zb5 _ _ _ _ [v % 4294967296,v / 4294967296] _ (by
  refine Lim.pair2 w _ _ (by omega) ?_ ?_ <;> first | rfl | omega | (simp only [IntKind.wrap_u64];omega))).mono ?_
 rintro e w1 ⟨hb1,neg1,A1,n1,c1,code1,rfl,hR1⟩
 have hz:sg false (val [v % 4294967296,v / 4294967296])=v:=by simp [sg,val];omega
 rw [hz] at hR1;have hW1:Wd w1 neg1 A1 n1 c1 (v):=hR1.small (Zho (by omega));have hB1:Below w.heap.size w w1:=(hB0.alloc hB0.size _).trans (hb1.mono (by simp;omega));have m7:=Zc hb1 (Blk.alloc (Blk.new w 43 #[.bool false,.slice none 0 0]) _);have m3:=m7.cell 0;have m4:=m7.cell 1;have m5:=m7.frozen 0;have m6:=m7.frozen 1
 simp at m3 m4
 have hlt:=m7.lt;have HM:=Za m7;clear m7 hz hR1;go_wp2_with fail;refine bodyPost_ret (v:=.agg #[.bool neg1,.slice A1 n1 c1]) (by simp [results,Tryz.results95,go_sem,m3,m4,hlt]) rfl ?_;exact (NumW.box hW1 hB1 (Nat.le_refl _) HM.out).alloc _
theorem Zvt (v:Nat) (w:World) (hv0:0 < v) (hv:v <= 9223372036854775808) :
    Calls Tryz.prog 95 #[.int .i64 (-(v:Int))] w (NumW w (-(v:Int))):=by
 have hd0:decide (-(v:Int) < 0)=true:=by simp;omega
 go_enter Tryz.func95,Tryz.ntmps95;go_wp2_with fail;have hB0:Below w.heap.size w (w.alloc (.cells #[.bool false,.slice none 0 0] 43)):=(Below.refl w.heap.size w).alloc (Nat.le_refl _) _
 refine (Zb5 _ _ _ _ [v % 4294967296,v / 4294967296] _ (by
  refine Lim.pair2 w _ _ (by omega) ?_ ?_ <;> first | rfl | omega | (simp only [IntKind.wrap_u64];omega))).mono ?_
 rintro e w1 ⟨hb1,neg1,A1,n1,c1,code1,rfl,hR1⟩
 have hz:sg true (val [v % 4294967296,v / 4294967296])=-(v:Int):=by simp [sg,val];omega
 rw [hz] at hR1;have hW1:Wd w1 neg1 A1 n1 c1 (-(v:Int)):=hR1.small (Zho (by omega));have hB1:Below w.heap.size w w1:=(hB0.alloc hB0.size _).trans (hb1.mono (by simp;omega));have m7:=Zc hb1 (Blk.alloc (Blk.new w 43 #[.bool false,.slice none 0 0]) _);have m3:=m7.cell 0;have m4:=m7.cell 1;have m5:=m7.frozen 0;have m6:=m7.frozen 1
 simp at m3 m4
 have hlt:=m7.lt;have HM:=Za m7;clear m7 hz hR1;go_wp2_with fail;refine bodyPost_ret (v:=.agg #[.bool neg1,.slice A1 n1 c1]) (by simp [results,Tryz.results95,go_sem,m3,m4,hlt]) rfl ?_;exact (NumW.box hW1 hB1 (Nat.le_refl _) HM.out).alloc _
theorem Zm0 (v:Nat) (w:World) (hv:v < 9223372036854775808) :
    Calls Tryz.prog 48 #[.int .i64 v] w (NumW w (v)):=by
 have hd0:decide ((v:Int) < 0)=false:=by simp
 go_enter Tryz.func48,Tryz.ntmps48;go_wp2_with fail;have hB0:Below w.heap.size w (w.alloc (.cells #[.bool false,.slice none 0 0] 43)):=(Below.refl w.heap.size w).alloc (Nat.le_refl _) _
 refine (Zbo _ _ _ _ [v % 4294967296,v / 4294967296] _ (by
  refine Lim.pair2 w _ _ (by omega) ?_ ?_ <;> first | rfl | omega | (simp only [IntKind.wrap_u64];omega)) (by omega)).mono ?_
 rintro e w1 ⟨hb1,neg1,A1,n1,c1,code1,rfl,hR1⟩
 have hz:sg false (val [v % 4294967296,v / 4294967296])=v:=by simp [sg,val];omega
 rw [hz] at hR1;have hW1:Wd w1 neg1 A1 n1 c1 (v):=hR1.small (Zho (by omega));have hB1:Below w.heap.size w w1:=(hB0.alloc hB0.size _).trans (hb1.mono (by simp;omega));have m7:=Zc hb1 (Blk.alloc (Blk.new w 43 #[.bool false,.slice none 0 0]) _);have m3:=m7.cell 0;have m4:=m7.cell 1;have m5:=m7.frozen 0;have m6:=m7.frozen 1
 simp at m3 m4
 have hlt:=m7.lt;have HM:=Za m7;clear m7 hz hR1;go_wp2_with fail;refine bodyPost_ret (v:=.agg #[.bool neg1,.slice A1 n1 c1]) (by simp [results,Tryz.results48,go_sem,m3,m4,hlt]) rfl ?_;exact (NumW.box hW1 hB1 (Nat.le_refl _) HM.out).alloc _
theorem Zup (v:Nat) (w:World) (hv0:0 < v) (hv:v <= 9223372036854775808) :
    Calls Tryz.prog 48 #[.int .i64 (-(v:Int))] w (NumW w (-(v:Int))):=by
 have hd0:decide (-(v:Int) < 0)=true:=by simp;omega
 go_enter Tryz.func48,Tryz.ntmps48;go_wp2_with fail;have hB0:Below w.heap.size w (w.alloc (.cells #[.bool false,.slice none 0 0] 43)):=(Below.refl w.heap.size w).alloc (Nat.le_refl _) _
 refine (Zbo _ _ _ _ [v % 4294967296,v / 4294967296] _ (by
  refine Lim.pair2 w _ _ (by omega) ?_ ?_ <;> first | rfl | omega | (simp only [IntKind.wrap_u64];omega)) (by omega)).mono ?_
 rintro e w1 ⟨hb1,neg1,A1,n1,c1,code1,rfl,hR1⟩
 have hz:sg true (val [v % 4294967296,v / 4294967296])=-(v:Int):=by simp [sg,val];omega
 rw [hz] at hR1;have hW1:Wd w1 neg1 A1 n1 c1 (-(v:Int)):=hR1.small (Zho (by omega));have hB1:Below w.heap.size w w1:=(hB0.alloc hB0.size _).trans (hb1.mono (by simp;omega));have m7:=Zc hb1 (Blk.alloc (Blk.new w 43 #[.bool false,.slice none 0 0]) _);have m3:=m7.cell 0;have m4:=m7.cell 1;have m5:=m7.frozen 0;have m6:=m7.frozen 1
 simp at m3 m4
 have hlt:=m7.lt;have HM:=Za m7;clear m7 hz hR1;go_wp2_with fail;refine bodyPost_ret (v:=.agg #[.bool neg1,.slice A1 n1 c1]) (by simp [results,Tryz.results48,go_sem,m3,m4,hlt]) rfl ?_;exact (NumW.box hW1 hB1 (Nat.le_refl _) HM.out).alloc _
theorem Za5 (z:Int) (w:World) (h1:-9223372036854775808 <= z) (h2:z <= 9223372036854775807):Calls Tryz.prog 95 #[.int .i64 z] w (NumW w z):=by
 rcases Int.le_total 0 z with h | h
 ·obtain ⟨v,rfl⟩:=Int.eq_ofNat_of_zero_le h
  exact Zpy v w (by omega)
 ·rcases Int.eq_ofNat_of_zero_le (show 0 <= -z by omega) with ⟨v,hv⟩
  obtain rfl:z=-(v:Int):=by omega
  rcases Nat.eq_zero_or_pos v with rfl | h0
  ·exact Zpy 0 w (by omega)
  ·exact Zvt v w h0 (by omega)
theorem Zej (z:Int) (w:World) (h1:-9223372036854775808 <= z) (h2:z <= 9223372036854775807):Calls Tryz.prog 48 #[.int .i64 z] w (NumW w z):=by
 rcases Int.le_total 0 z with h | h
 ·obtain ⟨v,rfl⟩:=Int.eq_ofNat_of_zero_le h
  exact Zm0 v w (by omega)
 ·rcases Int.eq_ofNat_of_zero_le (show 0 <= -z by omega) with ⟨v,hv⟩
  obtain rfl:z=-(v:Int):=by omega
  rcases Nat.eq_zero_or_pos v with rfl | h0
  ·exact Zm0 0 w (by omega)
  ·exact Zup v w h0 (by omega)
theorem Zdn (neg:Bool) (A:Option Addr) (n c:Nat) (w:World) :
    Calls Tryz.prog 121 #[.agg #[.bool neg,.slice A n c],.int .i64 0] w fun e w'=>e=.returned (.agg #[.bool neg,.slice A n c])/\Below w.heap.size w w':=by
 go_enter Tryz.func121,Tryz.ntmps121;go_wp2_with fail;refine bodyPost_ret (v:=.agg #[.bool neg,.slice A n c]) (by simp [results,Tryz.results121,go_sem]) rfl ?_;exact ⟨rfl,by go_grown⟩
theorem Zi5 (neg:Bool) (A:Option Addr) (n c:Nat) (w:World) (hn:n <= 1000000000) (b:Bool) (hb:((n:Int) == 0)=b) :
    Calls Tryz.prog 146 #[.agg #[.bool neg,.slice A n c]] w fun e w'=>e=.returned (.bool b)/\Below w.heap.size w w':=by
 go_enter Tryz.func146,Tryz.ntmps146;go_wp2_with fail;go_ret;exact ⟨rfl,by go_grown⟩
theorem one_ok (w:World):Calls Tryz.prog 148 #[] w (NumW w 1):=by
 have hB0:∀ X:Obj,Below w.heap.size w (w.alloc X):=fun X=>(Below.refl w.heap.size w).alloc (Nat.le_refl _) _
 have hB0:=Za hB0;go_enter Tryz.func148,Tryz.ntmps148;go_wp2_with fail;refine (Za5 1 _ (by omega) (by omega)).mono ?_;rintro e w1 ⟨hb1,neg1,A1,n1,c1,rfl,hw1⟩;have hB1:Below w.heap.size w w1:=(hB0.out _).trans (hb1.mono (by simp));have m8:=Zc hb1 (Blk.new w 43 #[.bool false,.slice none 0 0]);have m3:=m8.cell 0;have m4:=m8.cell 1;have m5:=m8.frozen 0;have m6:=m8.frozen 1
 simp at m3 m4
 replace m8:=Za m8;go_wp2_with fail;refine bodyPost_ret (v:=.agg #[.bool neg1,.slice A1 n1 c1]) (by simp [results,Tryz.results148,go_sem,m3,m4]) rfl ?_;exact NumW.box hw1 hB1 (Nat.le_refl _) m8.out
theorem Zv1 (na nb:Bool) (A B:Option Addr) (n c m d:Nat) (za zb:Int) (w:World) (ha:Wd w na A n c za) (hb:Wd w nb B m d zb) (b:Bool) (he:decide (za=zb)=b) :
    Calls Tryz.prog 147 #[.agg #[.bool na,.slice A n c],.agg #[.bool nb,.slice B m d]] w fun e w'=>e=.returned (.bool b)/\Below w.heap.size w w':=by
 have hcz:((Zeh za zb) == 0)=b:=by
  rw [<- he];unfold Zeh
  by_cases h1:za < zb
  ·rw [if_pos h1];have:za ≠ zb:=by omega
   simp [this]
  ·rw [if_neg h1]
   by_cases h2:zb < za
   ·rw [if_pos h2];have:za ≠ zb:=by omega
    simp [this]
   ·rw [if_neg h2];have:za=zb:=by omega
    simp [this]
 have HA:=Za ha;have HB:=Za hb;clear ha hb he
 have hB0:∀ X Y:Obj,Below w.heap.size w ((w.alloc X).alloc Y):=fun X Y=>((Below.refl w.heap.size w).alloc (Nat.le_refl _) _).alloc (by simp) _
 have hB0:=Za hB0;obtain ⟨cz,hczE⟩:∃ cz,Zeh za zb=cz:=⟨_,rfl⟩;rw [hczE] at hcz
 have HC:Hid (∀ W:World,Wd W na A n c za->Wd W nb B m d zb->Calls Tryz.prog 105 #[.agg #[.bool na,.slice A n c],.agg #[.bool nb,.slice B m d]] W fun e w'=>e=.returned (.tuple #[.int .i64 cz,.int .i64 0])/\Below W.heap.size W w'):=fun W h1 h2=>by
  have:=Zxf na nb A B n c m d za zb W h1 h2;rw [hczE] at this;exact this
 clear hczE;go_enter Tryz.func147,Tryz.ntmps147;go_wp2_with fail;refine (HC.out _ ((HA.out.alloc _).alloc _) ((HB.out.alloc _).alloc _)).mono ?_;rintro e w1 ⟨rfl,hb1⟩;go_wp2_with fail;go_ret;exact ⟨rfl,(hB0.out _ _).trans (hb1.mono (by simp;omega))⟩
def Low (num den:Int):Prop:=0 < den/\Nat.gcd num.natAbs den.natAbs=1
theorem Zd1 {a b:Nat} {p:Nat} (ha:a < p) (hb:b < p):Nat.gcd a b < p:=by
 rcases Nat.eq_zero_or_pos a with rfl | h
 ·rw [Nat.gcd_zero_left];exact hb
 ·exact Nat.lt_of_le_of_lt (Nat.le_of_dvd h (Nat.gcd_dvd_left a b)) ha
theorem Zkx (na:Bool) (A B:Option Addr) (n c m d:Nat) (za zb:Int) (w:World) (ha:Wd w na A n c za) (hb:Wd w false B m d zb) (hp:0 < zb) (b:Bool) (hg:decide ((Nat.gcd za.natAbs zb.natAbs:Int)=1)=b) :
    Calls Tryz.prog 104 #[.agg #[.bool na,.slice A n c,.bool false,.slice B m d]] w fun e w'=>e=.returned (.int .i64 (if b then 0 else 8))/\Below w.heap.size w w':=by
 have hm0:0 < m:=by rw [<- hb.lim.len];exact length_digits_pos.2 (by omega)
 have hm0':((m:Int) == 0)=false:=by simp;omega
 have hm:=hb.2.1;have hgs:=Zd1 ha.small hb.small;obtain ⟨G,hG⟩:∃ G,Nat.gcd za.natAbs zb.natAbs=G:=⟨_,rfl⟩;rw [hG] at hg hgs;have HA:=Za ha;have HB:=Za hb
 have HGc:Hid (∀ W:World,Wd W na A n c za->Wd W false B m d zb->Calls Tryz.prog 96 #[.agg #[.bool na,.slice A n c],.agg #[.bool false,.slice B m d]] W (ResW W (G:Int))):=fun W h1 h2=>by
  have:=Zjv na false A B n c m d za zb W h1 h2;rw [hG] at this;exact this
 clear ha hb hG
 have hB0:∀ X:Obj,Below w.heap.size w (w.alloc X):=fun X=>(Below.refl w.heap.size w).alloc (Nat.le_refl _) _
 have hB0:=Za hB0;go_enter Tryz.func104,Tryz.ntmps104;go_wp2_with fail;refine (HGc.out _ (HA.out.alloc _) (HB.out.alloc _)).mono ?_;rintro e w1 ⟨hb1,ng,Ag,kg,cg,code,rfl,hR⟩
 rcases hR with ⟨-,rfl,hgw⟩ | ⟨hbig,-⟩
 case inr=>exact absurd hbig (by omega)
 obtain ⟨hc1,hf1⟩:=Zck hb1
 have hz1:w.heap.size < w1.heap.size:=by have:=hb1.size;simp at this;omega
 have hB1:Below w.heap.size w w1:=(hB0.out _).trans (hb1.mono (by simp))
 have g2:w1.cell? ⟨w.heap.size,2,none⟩=some (.bool false):=by simp [hc1,go_sem]
 have g3:w1.cell? ⟨w.heap.size,3,none⟩=some (.slice B m d):=by simp [hc1,go_sem]
 have hbA:Below w1.heap.size w1 (w1.alloc (.cells #[.bool ng,.slice Ag kg cg] 43)):=(Below.refl _ _).alloc (Nat.le_refl _) _;have bg:=Za (Blk.new w1 43 #[.bool ng,.slice Ag kg cg]);have a2:=Zb hbA g2;have a3:=Zb hbA g3;have hgw2:=Za (hgw.alloc (.cells #[.bool ng,.slice Ag kg cg] 43));have hB2:=Za (hB1.trans (hbA.mono hB1.size));clear hc1 hf1 g2 g3 hgw;go_wp2_with fail
 generalize w1.alloc _=w2 at *
 have p0:=bg.out.cell 0;have p1:=bg.out.cell 1
 simp at p0 p1
 go_region_held3 (fun w'=>w'.cell? ⟨w.heap.size,2,none⟩=some (.bool false)/\w'.cell? ⟨w.heap.size,3,none⟩=some (.slice B m d)/\w'.cell? ⟨w1.heap.size,0,none⟩=some (.bool ng)/\w'.cell? ⟨w1.heap.size,1,none⟩=some (.slice Ag kg cg))
  (((try dsimp only);(repeat' apply And.intro);all_goals (first | go_keep | (simp [*,go_sem];done))))
  (first
   | (go_at_call 146;refine (Zi5 _ _ _ _ _ (by omega) _ hm0').mono ?_;rintro e w3 ⟨rfl,hb3⟩;have hb3':=Zo hb3;have k2:=Zb hb3' a2;have k3:=Zb hb3' a3;have k0:=Zb hb3' p0;have k1:=Zb hb3' p1)
   | (go_at_call 148;refine (one_ok _).mono ?_;rintro e w4 ⟨hb4,n4,A4,m4,c4,rfl,hw4⟩;have j2:=Zb hb4 k2;have j3:=Zb hb4 k3;have j0:=Zb hb4 k0;have j1:=Zb hb4 k1)
   | (go_at_call 147;refine (Zv1 _ _ _ _ _ _ _ _ _ _ _ ((hgw2.out.below hb3').below hb4) hw4 b hg).mono ?_;rintro e w5 ⟨rfl,hb5⟩;have i2:=Zb hb5 j2;have i3:=Zb hb5 j3;have i0:=Zb hb5 j0;have i1:=Zb hb5 j1))
 have hB5:Hid (Below w.heap.size w w5):=((hB2.out.trans (hb3'.mono hB2.out.size)).trans (hb4.mono (Nat.le_trans hB2.out.size hb3'.size))).trans (hb5.mono (Nat.le_trans hB2.out.size (Nat.le_trans hb3'.size hb4.size)))
 cases b
 ·go_wp2_with fail
  go_ret;exact ⟨rfl,hB5.out⟩
 ·go_wp2_with fail
  go_ret;exact ⟨rfl,hB5.out⟩
def Zfr (a b:Int):Int:=if b < 0 then -(Nat.gcd a.natAbs b.natAbs:Nat) else (Nat.gcd a.natAbs b.natAbs:Nat)
theorem Zks {a b:Int} (h:b ≠ 0):Zfr a b ≠ 0:=by
 have:0 < Nat.gcd a.natAbs b.natAbs:=Nat.gcd_pos_of_pos_right _ (by omega);unfold Zfr;split <;> omega
theorem Zjd (a b:Int):((Nat.gcd a.natAbs b.natAbs:Nat):Int) ∣ a:=by
 rw [<- Int.dvd_natAbs];exact Int.ofNat_dvd.2 (Nat.gcd_dvd_left _ _)
theorem Zmi (a b:Int):((Nat.gcd a.natAbs b.natAbs:Nat):Int) ∣ b:=by
 rw [<- Int.dvd_natAbs];exact Int.ofNat_dvd.2 (Nat.gcd_dvd_right _ _)
theorem Zuz (a b:Int):Zfr a b ∣ a:=by
 unfold Zfr;split
 ·exact Int.neg_dvd.2 (Zjd a b)
 ·exact Zjd a b
theorem Zu0 (a b:Int):Zfr a b ∣ b:=by
 unfold Zfr;split
 ·exact Int.neg_dvd.2 (Zmi a b)
 ·exact Zmi a b
theorem Zqx (a b:Int):Int.gcd b a=Nat.gcd a.natAbs b.natAbs:=by unfold Int.gcd;exact Nat.gcd_comm _ _
theorem Zjb {a b:Int} (h:b ≠ 0):Int.fdiv a (Zfr a b)=(Rat.divInt a b).num:=by
 rw [Int.fdiv_eq_ediv_of_dvd (Zuz a b),Rat.num_divInt,Zqx];unfold Zfr;obtain ⟨k,hk⟩:=Zjd a b
 have hg:((Nat.gcd a.natAbs b.natAbs:Nat):Int) ≠ 0:=by
  have:0 < Nat.gcd a.natAbs b.natAbs:=Nat.gcd_pos_of_pos_right _ (by omega);omega
 split
 ·rename_i hb
  rw [Int.ediv_neg,Int.sign_eq_neg_one_of_neg hb,show (-1:Int) * a=-a by omega,Int.neg_ediv_of_dvd (Zjd a b)]
 ·rw [Int.sign_eq_one_of_pos (by omega),Int.one_mul]
theorem Ziv {a b:Int} (h:b ≠ 0):Int.fdiv b (Zfr a b)=((Rat.divInt a b).den:Nat):=by
 rw [Int.fdiv_eq_ediv_of_dvd (Zu0 a b),Rat.den_divInt,Zqx,if_neg h];unfold Zfr
 split
 ·rename_i hb
  rw [Int.ediv_neg,<- Int.neg_ediv_of_dvd (Zmi a b),show -b=((b.natAbs:Nat):Int) by omega,Int.natCast_ediv]
 ·rw [Int.natCast_ediv,show ((b.natAbs:Nat):Int)=b by omega]
theorem Zs1 (r:Rat):Low r.num r.den:=⟨by have:=r.den_pos;omega,by simpa using r.reduced⟩
theorem rat_low {a b:Int} (h:Low a b):(Rat.divInt a b).num=a/\((Rat.divInt a b).den:Int)=b:=by
 have h0:b ≠ 0:=by have:=h.1;omega
 have hG:Zfr a b=1:=by unfold Zfr;rw [if_neg (by have:=h.1;omega),h.2];rfl
 rw [<- Zjb h0,<- Ziv h0,hG]
 simp
def Fr (w:World) (na:Bool) (A:Option Addr) (n c:Nat) (nb:Bool) (B:Option Addr) (m d:Nat) (r:Rat):Prop:=Wd w na A n c r.num/\Wd w nb B m d (r.den:Nat)
theorem Fr.below {w w':World} {na:Bool} {A:Option Addr} {n c:Nat} {nb:Bool} {B:Option Addr} {m d:Nat} {r:Rat} (h:Fr w na A n c nb B m d r) (hb:Below w.heap.size w w'):Fr w' na A n c nb B m d r:=⟨h.1.below hb,h.2.below hb⟩
theorem Fr.neg {w:World} {na:Bool} {A:Option Addr} {n c:Nat} {nb:Bool} {B:Option Addr} {m d:Nat} {r:Rat} (h:Fr w na A n c nb B m d r):nb=false:=by
 have:=h.2.1;rw [this];simp
def Zff (w:World) (r:Rat) (e:Ending) (w':World):Prop:=
 Below w.heap.size w w'/\∃ na A n c nb B m d,e=.returned (.agg #[.bool na,.slice A n c,.bool nb,.slice B m d])/\Fr w' na A n c nb B m d r
def Zef (w:World) (r:Rat) (e:Ending) (w':World):Prop:=
 Below w.heap.size w w'/\∃ na A n c nb B m d,e=.returned (.tuple #[.agg #[.bool na,.slice A n c,.bool nb,.slice B m d],.int .i64 0])/\Fr w' na A n c nb B m d r
def StepN (w W:World) (g:Nat):Prop:=
 (∀ na A n c z,Wd w na A n c z->Wd W na A n c z)/\(∀ g' t' cs',g' ≠ g->Blk w g' t' cs'->Blk W g' t' cs')/\W.heap.size=w.heap.size
theorem NoLimb.box4 (b:Bool) (A:Option Addr) (n c:Nat) (b':Bool) (A':Option Addr) (n' c':Nat):NoLimb #[.bool b,.slice A n c,.bool b',.slice A' n' c']:=fun i x=>by
 rcases i with _ | _ | _ | _ | i <;> simp
theorem Zav {t:TypeId} {B:Nat} {w0 w:World} {g:Nat} {b0:Bool} {A0:Option Addr} {n0 c0:Nat} (neg:Bool) (A:Option Addr) (n c:Nat) (hB:Below B w0 w) (hs:B <= g) (hb:Blk w g t #[.bool b0,.slice A0 n0 c0]) :
    ∃ W,(w.setCell ⟨g,0,none⟩ (.bool neg)).setCell ⟨g,1,none⟩ (.slice A n c)=W/\Below B w0 W/\Blk W g t #[.bool neg,.slice A n c]/\StepN w W g:=by
 have hb1:Blk (w.setCell ⟨g,0,none⟩ (.bool neg)) g t #[.bool neg,.slice A0 n0 c0]:=hb.set_ 0 (.bool neg);have hb2:Blk ((w.setCell ⟨g,0,none⟩ (.bool neg)).setCell ⟨g,1,none⟩ (.slice A n c)) g t #[.bool neg,.slice A n c]:=hb1.set_ 1 (.slice A n c);refine ⟨_,rfl,(hB.setCell (p:=⟨g,0,none⟩) hs _).setCell (p:=⟨g,1,none⟩) hs _,hb2,fun na A' n' c' z hW=>⟨hW.1,hW.2.1,(hW.2.2.set_box hb (NoLimb.box _ _ _ _) _ _).set_box hb1 (NoLimb.box _ _ _ _) _ _⟩,fun g' t' cs' hg h=>(h.far hg _).far hg _,by simp⟩
theorem Z3 {t:TypeId} {B:Nat} {w0 w:World} {g:Nat} {a0:Bool} {A0:Option Addr} {n0 c0:Nat} {b0:Bool} {B0:Option Addr} {m0 d0:Nat} (na:Bool) (A:Option Addr) (n c:Nat) (nb:Bool) (B':Option Addr) (m d:Nat) (hB:Below B w0 w) (hs:B <= g) (hb:Blk w g t #[.bool a0,.slice A0 n0 c0,.bool b0,.slice B0 m0 d0]) :
    ∃ W,(((w.setCell ⟨g,0,none⟩ (.bool na)).setCell ⟨g,1,none⟩ (.slice A n c)).setCell ⟨g,2,none⟩ (.bool nb)).setCell ⟨g,3,none⟩ (.slice B' m d)=W/\Below B w0 W/\Blk W g t #[.bool na,.slice A n c,.bool nb,.slice B' m d]/\StepN w W g:=by
 have hb1:Blk (w.setCell ⟨g,0,none⟩ (.bool na)) g t #[.bool na,.slice A0 n0 c0,.bool b0,.slice B0 m0 d0]:=hb.set_ 0 (.bool na);have hb2:Blk ((w.setCell ⟨g,0,none⟩ (.bool na)).setCell ⟨g,1,none⟩ (.slice A n c)) g t #[.bool na,.slice A n c,.bool b0,.slice B0 m0 d0]:=hb1.set_ 1 (.slice A n c);have hb3:Blk (((w.setCell ⟨g,0,none⟩ (.bool na)).setCell ⟨g,1,none⟩ (.slice A n c)).setCell ⟨g,2,none⟩ (.bool nb)) g t #[.bool na,.slice A n c,.bool nb,.slice B0 m0 d0]:=hb2.set_ 2 (.bool nb);have hb4:Blk ((((w.setCell ⟨g,0,none⟩ (.bool na)).setCell ⟨g,1,none⟩ (.slice A n c)).setCell ⟨g,2,none⟩ (.bool nb)).setCell ⟨g,3,none⟩ (.slice B' m d)) g t #[.bool na,.slice A n c,.bool nb,.slice B' m d]:=hb3.set_ 3 (.slice B' m d);have hl:=NoLimb.box4;refine ⟨_,rfl,(((hB.setCell (p:=⟨g,0,none⟩) hs _).setCell (p:=⟨g,1,none⟩) hs _).setCell (p:=⟨g,2,none⟩) hs _).setCell (p:=⟨g,3,none⟩) hs _,hb4,fun na A' n' c' z hW=>⟨hW.1,hW.2.1,?_⟩,fun g' t' cs' hg h=>(((h.far hg _).far hg _).far hg _).far hg _,by simp⟩;exact (((hW.2.2.set_box hb (hl _ _ _ _ _ _ _ _) _ _).set_box hb1 (hl _ _ _ _ _ _ _ _) _ _).set_box hb2 (hl _ _ _ _ _ _ _ _) _ _).set_box hb3 (hl _ _ _ _ _ _ _ _) _ _
theorem Blk.two {w:World} {g:Nat} {t:TypeId} {x y:Value} (h:Blk w g t #[x,y]):w.cell? ⟨g,0,none⟩=some x/\w.cell? ⟨g,1,none⟩=some y/\w.frozen? ⟨g,0,none⟩=false/\w.frozen? ⟨g,1,none⟩=false:=
 ⟨h.cell 0,h.cell 1,h.frozen 0,h.frozen 1⟩
theorem Blk.four {w:World} {g:Nat} {t:TypeId} {x y z v:Value} (h:Blk w g t #[x,y,z,v]):w.cell? ⟨g,0,none⟩=some x/\w.cell? ⟨g,1,none⟩=some y/\w.cell? ⟨g,2,none⟩=some z/\w.cell? ⟨g,3,none⟩=some v/\w.frozen? ⟨g,0,none⟩=false/\w.frozen? ⟨g,1,none⟩=false/\w.frozen? ⟨g,2,none⟩=false/\w.frozen? ⟨g,3,none⟩=false:=
 ⟨h.cell 0,h.cell 1,h.cell 2,h.cell 3,h.frozen 0,h.frozen 1,h.frozen 2,h.frozen 3⟩
theorem Zr {B:Nat} {w0 w:World} (t:TypeId) (cs:Array Value) (hB:Below B w0 w) (hs:B <= w.heap.size) :
    ∃ W,w.alloc (.cells cs t)=W/\Below B w0 W/\Blk W w.heap.size t cs/\(∀ na A n c z,Wd w na A n c z->Wd W na A n c z)/\(∀ g' t' cs',Blk w g' t' cs'->Blk W g' t' cs')/\W.heap.size=w.heap.size+1:=
 ⟨_,rfl,hB.alloc hs _,Blk.new _ _ _,fun _ _ _ _ _ h=>h.alloc _,fun _ _ _ h=>h.alloc _,by simp⟩
theorem Zf5 (w:World) (t0:TypeId) (c0:Array Value) (t1:TypeId) (c1:Array Value) :
    ∃ W,(w.alloc (.cells c0 t0)).alloc (.cells c1 t1)=W/\Below w.heap.size w W/\(Blk W w.heap.size t0 c0/\Blk W (w.heap.size+1) t1 c1)/\W.heap.size=w.heap.size+1+1:=by
 refine ⟨_,rfl,((Below.refl w.heap.size w).alloc (Nat.le_refl _) _).alloc (by simp) _,⟨(Blk.new _ _ _).alloc _,?_⟩,by simp⟩;have:=Blk.new (w.alloc (.cells c0 t0)) t1 c1;simp only [World.size_alloc] at this;exact this
theorem Zcy (w:World) (t0:TypeId) (c0:Array Value) (t1:TypeId) (c1:Array Value) (t2:TypeId) (c2:Array Value) :
    ∃ W,((w.alloc (.cells c0 t0)).alloc (.cells c1 t1)).alloc (.cells c2 t2)=W/\Below w.heap.size w W/\(Blk W w.heap.size t0 c0/\Blk W (w.heap.size+1) t1 c1/\Blk W (w.heap.size+1+1) t2 c2)/\W.heap.size=w.heap.size+1+1+1:=by
 obtain ⟨W,hW,h1,h2,h3⟩:=Zf5 w t0 c0 t1 c1;refine ⟨_,rfl,?_,⟨?_,?_,?_⟩,by rw [hW];simp [h3]⟩ <;> rw [hW]
 ·exact h1.alloc (by omega) _
 ·exact h2.1.alloc _
 ·exact h2.2.alloc _
 ·rw [<- h3];exact Blk.new _ _ _
theorem Zft (w:World) (t0:TypeId) (c0:Array Value) (t1:TypeId) (c1:Array Value) (t2:TypeId) (c2:Array Value) (t3:TypeId) (c3:Array Value) :
    ∃ W,(((w.alloc (.cells c0 t0)).alloc (.cells c1 t1)).alloc (.cells c2 t2)).alloc (.cells c3 t3)=W/\Below w.heap.size w W/\(Blk W w.heap.size t0 c0/\Blk W (w.heap.size+1) t1 c1/\Blk W (w.heap.size+1+1) t2 c2/\Blk W (w.heap.size+1+1+1) t3 c3)/\W.heap.size=w.heap.size+1+1+1+1:=by
 obtain ⟨W,hW,h1,h2,h3⟩:=Zcy w t0 c0 t1 c1 t2 c2;refine ⟨_,rfl,?_,⟨?_,?_,?_,?_⟩,by rw [hW];simp [h3]⟩ <;> rw [hW]
 ·exact h1.alloc (by omega) _
 ·exact h2.1.alloc _
 ·exact h2.2.1.alloc _
 ·exact h2.2.2.alloc _
 ·rw [<- h3];exact Blk.new _ _ _
theorem Zjf {t:TypeId} {B:Nat} {w0 w:World} {g:Nat} {x0:Int} (x:Int) (hB:Below B w0 w) (hs:B <= g) (hb:Blk w g t #[.int .i64 x0]) :
    ∃ W,w.setCell ⟨g,0,none⟩ (.int .i64 x)=W/\Below B w0 W/\Blk W g t #[.int .i64 x]/\StepN w W g:=by
 have hb1:Blk (w.setCell ⟨g,0,none⟩ (.int .i64 x)) g t #[.int .i64 x]:=hb.set_ 0 (.int .i64 x)
 have hl:NoLimb #[.int .i64 x0]:=fun i x=>by rcases i with _ | i <;> simp
 exact ⟨_,rfl,hB.setCell (p:=⟨g,0,none⟩) hs _,hb1,fun na A' n' c' z hW=>⟨hW.1,hW.2.1,hW.2.2.set_box hb hl _ _⟩,fun g' t' cs' hg h=>h.far hg _,by simp⟩
theorem Znr (A:Option Addr) (n c s:Nat) (l:List Nat) (w:World) (h:Lim w A n c l) (hs:s < 32) (hn9:n <= 1000000) :
    Calls Tryz.prog 162 #[.slice A n c,.int .u64 s] w (fun e w'=>∃ v o,e=.returned v/\OwnL 84 w' w.heap.size v o/\o.length=n+1/\val o=2 ^ s * val l/\Below w.heap.size w w'):=by
 obtain ⟨i0,hi,hz0,hz1,hz2⟩:=info_parts Zcz;have hnc:=h.2.1;have hcm:=h.2.2.1;unfold maxLen at hcm;go_enter Tryz.func162,Tryz.ntmps162;go_wp2_with fail
 go_loopw [7,6,5] (fun iv cv ov wr=>∃ i cy:Nat,i <= n/\iv=.int .i64 i/\cv=.int .u64 cy/\LeftP w s l i cy ov wr) (fun iv _ _ _=>n - (intOf iv).toNat)
 case atStart=>exact ⟨0,0,Nat.zero_le _,rfl,rfl,[],OwnL.nil _ _ _,rfl,Nat.pow_pos (by omega),by simp [val],Below.refl _ _⟩
 case round =>
  obtain ⟨i,cy,hin,rfl,rfl,o,hown,hol,hcy,hI,hB⟩:=hrel;replace hol:=Za hol;replace hI:=Za hI
  by_cases hi':i < n
  ·obtain ⟨b,of,rfl,hcell⟩:=(h.below hB).at_ hi'
   have hx:=h.lt.get i;obtain ⟨p,hp⟩:∃ p,2 ^ s=p:=⟨_,rfl⟩
   have hpb:p <= 2147483648:=by rw [<- hp];exact Nat.pow_le_pow_right (by omega) (show s <= 31 by omega)
   have hxb:p * l[i]?.getD 0 <= 2147483648 * 4294967295:=Nat.mul_le_mul hpb (by omega)
   have hor:IntKind.u64.wrap ((cy:Int)+IntKind.u64.wrap (((l[i]?.getD 0:Nat):Int) * 2 ^ s))=((cy+p * l[i]?.getD 0:Nat):Int):=by
    have e1:(((l[i]?.getD 0:Nat):Int) * 2 ^ s)=((p * l[i]?.getD 0:Nat):Int):=by rw [<- hp];push_cast;rw [Int.mul_comm]
    rw [hp] at hcy;rw [e1,IntKind.wrap_u64,IntKind.wrap_u64];omega
   rw [hp] at hcy;replace hp:=Za hp;have hs0:Hid (val (l.take (i+1))=val (l.take i)+pw i * l[i]?.getD 0):=Zac l i;obtain ⟨x,hxe⟩:∃ x,l[i]?.getD 0=x:=⟨_,rfl⟩;rw [hxe] at hcell hx hxb hor hs0;replace hxe:=Za hxe;obtain ⟨t,ht⟩:∃ t,cy+p * x=t:=⟨_,rfl⟩
   have htb:t / 4294967296 < p:=by
    rw [Nat.div_lt_iff_lt_mul (by omega),<- ht]
    have:p * x+p <= p * 4294967296:=by rw [<- Nat.mul_succ];exact Nat.mul_le_mul_left _ (by omega)
    omega
   have htb2:t < 18446744073709551616:=by omega
   rw [ht] at hor;replace ht:=Za ht;go_wp2_with (go_loud (at_builtin;refine Zx _ rfl (.tmp 23) (.tmp 26) 41 rfl w.heap.size 84 i0 _ 1 4 Tryz.underlying41 hi hz0 hz1 hz2 rfl (by omega) _ i (o.map limb) rfl (by have:=hol.out;subst this;exact hown.1.alloc _) _ _ 1 1 _ rfl (Zbp _ _ _) (by simp [Value.oneCell']) (by simp only [maxLen];omega) (by omega) (by have:=hB.size;simp;omega) ?_;intro v1 w1 hown1 hg1 hat1));have hown2:OwnL 84 w1 w.heap.size v1 (o ++ [t % 4294967296]):=OwnL.snoc (s:=t % 4294967296) hol.out.symm hown1 hown.2 (by omega) (Nat.mod_lt _ (by decide));have hB1:=(hB.alloc hB.size _).grown hg1 (by have:=hB.size;simp;omega) hown.row_ge
   go_roundw
   case rel =>
    refine ⟨i+1,t / 4294967296,by omega,by go_num,by go_num,_,hown2,by rw [List.length_append,hol.out];rfl,by rw [hp.out];exact htb,?_,hB1⟩;rw [Zea,hol.out,hs0.out,hp.out,Nat.mul_add,Zbh];have h1:=hI.out;rw [hp.out] at h1
    have h2:pw i * (t % 4294967296)+4294967296 * pw i * (t / 4294967296)=pw i * t:=by
     rw [Nat.mul_comm 4294967296 (pw i),Nat.mul_assoc,<- Nat.mul_add,Nat.mod_add_div]
    have h3:p * (pw i * x)=pw i * (p * x):=by rw [Nat.mul_left_comm]
    rw [h3,<- h1,Nat.add_assoc,h2,<- ht.out,Nat.mul_add];omega
   case measure=>simp [intOf];omega
  ·obtain rfl:i=n:=by omega
   have hlen:=Za h.len;have hcy2:cy < 4294967296:=Nat.lt_of_lt_of_le hcy (show 2 ^ s <= 4294967296 from Nat.le_trans (Nat.pow_le_pow_right (by decide) (show s <= 32 by omega)) (by decide))
   have hcm:((cy:Int)) % 4294967296=(cy:Int):=by omega
   clear h;go_wp2_with (go_loud (at_builtin;refine Zx _ rfl (.tmp 30) (.tmp 33) 41 rfl w.heap.size 84 i0 _ 1 4 Tryz.underlying41 hi hz0 hz1 hz2 rfl (by omega) _ i (o.map limb) rfl (by have:=hol.out;subst this;exact hown.1.alloc _) _ _ 1 1 _ rfl (Zbp _ _ _) (by simp [Value.oneCell']) (by simp only [maxLen];omega) (by omega) (by have:=hB.size;simp;omega) ?_;intro v1 w1 hown1 hg1 hat1));have hown2:OwnL 84 w1 w.heap.size v1 (o ++ [cy]):=OwnL.snoc (s:=cy) hol.out.symm hown1 hown.2 (by omega) hcy2;have hB1:=(hB.alloc hB.size _).grown hg1 (by have:=hB.size;simp;omega) hown.row_ge;go_ret;refine ⟨v1,_,rfl,hown2,by rw [List.length_append,hol.out];rfl,?_,hB1⟩;rw [Zea,hol.out,hI.out,Zag (by rw [hlen.out];exact Nat.le_refl _)]
def RShortR (w:World) (g n D:Nat) (l:List Nat) (k r:Nat) (wr:World):Prop:=
 ∃ o:List Nat,Blk wr g 84 (Z0 o)/\o.length=n/\Lt32 o/\r < D/\val (o.drop k) * D+r=val (l.drop k)/\Below w.heap.size w wr
theorem Zsa (A:Option Addr) (n c d:Nat) (l:List Nat) (w:World) (hl:Lim w A n c l) (hd0:0 < d) (hd:d < 4294967296) (hn9:n <= 1000000) :
    Calls Tryz.prog 161 #[.slice A n c,limb d] w (Zoy w (val l) d):=by
 obtain ⟨i0,hi,hz0,hz1,hz2⟩:=info_parts Zcz;have hmk:=Zf4 (P:=Tryz.prog) 41 84 Tryz.underlying41 hi hz0 hz1 hz2 (n:Int) n rfl (by omega);have hnc:=hl.2.1;have hcm:=hl.2.2.1;unfold maxLen at hcm;have hlen:=Za hl.len
 have hdz:((d:Int) == 0)=false:=by simp;omega
 have hdz':(d:Int) ≠ 0:=by omega
 go_enter Tryz.func161,Tryz.ntmps161;go_wp2_with fail
 go_loopw [8,7] (fun iv rv wr=>∃ k r:Nat,k <= n/\iv=.int .i64 ((k:Int) - 1)/\rv=.int .u64 r/\RShortR w w.heap.size n d l k r wr) (fun iv _ _=>(intOf iv+1).toNat)
 case atStart=>exact ⟨n,0,Nat.le_refl _,rfl,rfl,List.replicate n 0,Blk.new _ _ _,by simp,Lt32.replicate _,hd0,by rw [List.drop_of_length_le (by simp),List.drop_of_length_le (by rw [hlen.out];exact Nat.le_refl _)];simp [val],(Below.refl _ _).alloc (Nat.le_refl _) _⟩
 case round =>
  obtain ⟨k,r,hk,rfl,rfl,o,hblk,hol,hot,hr,hI,hB⟩:=hrel;replace hol:=Za hol;replace hI:=Za hI
  rcases k with _ | k
  ·have hI2:=hI.out
   rw [List.drop_zero,List.drop_zero] at hI2;obtain ⟨e1,e2⟩:=Zn5 (U:=val l) (V:=d) (q:=val o) (R:=r) (by omega) hr;have hLo:=Lim.of_blk hblk hot (by rw [hol.out];unfold maxLen;omega);rw [hol.out] at hLo
   have hr32:r < 4294967296:=by omega
   have hrm:((r:Int)) % 4294967296=(r:Int):=by omega
   replace e1:=Za e1;replace e2:=Za e2;clear hI2;go_wp2_with fail;refine (Zdw _ _ _ _ _ hLo (by omega)).mono ?_;rintro e w2 ⟨A2,n2,c2,l2,rfl,hL2,rfl,hb2⟩
   have hLr:∀ t,Lim (w2.alloc (.cells #[limb r] t)) (some ⟨w2.heap.size,0,none⟩) 1 1 [r]:=fun t=>by
    have:=Lim.of_blk (l:=[r]) (Blk.new w2 t (Z0 [r])) (Lt32.cons hr32 Lt32.nil) (by simp [maxLen]);exact this
   replace hLr:=Za hLr;go_wp2_with fail;refine (Zdw _ _ _ _ _ (hLr.out _) (by omega)).mono ?_;rintro e w3 ⟨A3,n3,c3,l3,rfl,hL3,hl3,hb3⟩;have hb3':Below w2.heap.size w2 w3:=((Below.refl w2.heap.size w2).alloc (Nat.le_refl _) _).trans (hb3.mono (by simp));replace hl3:=Za hl3;go_wp2_with fail
   go_ret2
   refine ⟨_,_,_,_,_,_,rfl,by rw [<- e1.out];exact hL2.below hb3',?_,(hB.trans (hb2.mono hB.size)).trans (hb3'.mono (Nat.le_trans hB.size hb2.size))⟩;have:=hl3.out;rw [show val [r]=r by simp [val]] at this;rw [<- e2.out,<- this];exact hL3
  ·obtain ⟨b,of,rfl,hcell⟩:=(hl.below hB).at_ (k:=k) (by omega)
   have hx:=hl.lt.get k;have hcg:=hblk.cell k;rw [Zaq o k (by rw [hol.out];omega)] at hcg;have hfg:=hblk.frozen k
   have hrb:r * 4294967296+l[k]?.getD 0 < 18446744073709551616:=by omega
   go_wp2_with fail;obtain ⟨x,hxe⟩:∃ x,l[k]?.getD 0=x:=⟨_,rfl⟩;rw [hxe] at hx hrb ⊢
   have e1:((r:Int) * 4294967296+(x:Int)) / (d:Int) % 4294967296=(((r * 4294967296+x) / d:Nat):Int):=by
    have:(r * 4294967296+x) / d < 4294967296:=by
     rw [Nat.div_lt_iff_lt_mul hd0];have:=Nat.mul_le_mul_left 4294967296 (show r+1 <= d by omega);omega
    rw [show ((r:Int) * 4294967296+(x:Int)) / (d:Int)=(((r * 4294967296+x) / d:Nat):Int) by simp]
    generalize (r * 4294967296+x) / d=z at *
    omega
   have e2:((r:Int) * 4294967296+(x:Int)) % (d:Int)=(((r * 4294967296+x) % d:Nat):Int):=by simp
   have hq:(r * 4294967296+x) / d < 4294967296:=by
    rw [Nat.div_lt_iff_lt_mul hd0];have:=Nat.mul_le_mul_left 4294967296 (show r+1 <= d by omega);omega
   have hr':(r * 4294967296+x) % d < d:=Nat.mod_lt _ hd0
   have he:(r * 4294967296+x) / d * d+(r * 4294967296+x) % d=r * 4294967296+x:=by rw [Nat.mul_comm];exact Nat.div_add_mod _ _
   rw [e1,e2]
   generalize (r * 4294967296+x) / d=q at *
   generalize (r * 4294967296+x) % d=r' at *
   refine ⟨⟨k,r',by omega,rfl,rfl,o.set k q,by rw [<- Zbu];exact hblk.set_ _ _,by rw [List.length_set];exact hol.out,hot.set _ hq,hr',?_,hB.setCell (p:=⟨w.heap.size,k,none⟩) (Nat.le_refl _) _⟩,by simp [intOf] <;> omega⟩;exact Zmx (by rw [hol.out];omega) (by rw [hlen.out];omega) hI.out (by rw [hxe];exact he)
theorem Zmy {l l0 v:List Nat} {i c s c':Nat} (hi:i < l.length) (hI:val (l.take i)+pw i * c=val (l0.take i)+val (v.take i)) (he:s+4294967296 * c'=c+l0[i]?.getD 0+v[i]?.getD 0) :
    val ((l.set i s).take (i+1))+pw (i+1) * c'=val (l0.take (i+1))+val (v.take (i+1)):=by
 rw [Zac,Zac v,Zac l0,List.take_set_of_le (Nat.le_refl i),List.getElem?_set_self hi,Zbh];simp only [Option.getD_some]
 have e:pw i * s+pw i * (4294967296 * c')=pw i * c+pw i * l0[i]?.getD 0+pw i * v[i]?.getD 0:=by rw [<- Nat.mul_add,<- Nat.mul_add,<- Nat.mul_add,he]
 have e2:4294967296 * pw i * c'=pw i * (4294967296 * c'):=by rw [Nat.mul_comm 4294967296,Nat.mul_assoc]
 rw [e2];omega
theorem Zhf {q v:Nat} (h:0 < q):(q - 1) * v+v=q * v:=by
 obtain ⟨k,rfl⟩:∃ k,q=k+1:=⟨q - 1,by omega⟩;rw [Nat.add_sub_cancel,Nat.succ_mul]
theorem Ztz {q v1 v2 r u2 top:Nat} (h1:q * v1+r=top) (h2:r * 4294967296+u2 < q * v2):top * 4294967296+u2 < q * (v1 * 4294967296+v2):=by
 have e:q * (v1 * 4294967296+v2)=q * v1 * 4294967296+q * v2:=by rw [Nat.mul_add,Nat.mul_assoc]
 rw [e,<- h1,Nat.add_mul,Nat.add_assoc];exact Nat.add_lt_add_left h2 _
def WinF (w:World) (g off n:Nat) (w':World):Prop:=
 w.grownBy w' (some g)/\(∀ j,(j < off \/ off+n <= j)->w'.cell? ⟨g,j,none⟩=w.cell? ⟨g,j,none⟩)/\(∀ j,w'.frozen? ⟨g,j,none⟩=w.frozen? ⟨g,j,none⟩)
theorem WinF.refl (w:World) (g off n:Nat):WinF w g off n w:=⟨World.grownBy.refl w _,fun _ _=>rfl,fun _=>rfl⟩
theorem WinF.set_ {w w':World} {g off n i:Nat} (h:WinF w g off n w') (hi:i < n) (u:Value):WinF w g off n (w'.setCell ⟨g,off+i,none⟩ u):=
 ⟨Zhh h.1,fun j hj=>(World.cell?_setCell_other _ _ _ _ (by simp <;> omega)).trans (h.2.1 j hj),fun j=>(World.frozen?_setCell _ _ _ _).trans (h.2.2 j)⟩
theorem WinF.drewN {w w':World} {g off n:Nat} (h:WinF w g off n w') (k:Nat):WinF w g off n (w'.drewN k):=⟨⟨h.1.os,h.1.tape,h.1.output,h.1.size,h.1.block⟩,h.2.1,h.2.2⟩
theorem Zr8 {w w':World} {g k:Nat} {u l:List Nat} (h:MutL w g 0 u) (hk:k+l.length <= u.length) (hf:WinF w g k l.length w') (hl:MutL w' g k l):MutL w' g 0 (splice u k l):=fun j hj=>by
 rw [Zd7 hk] at hj;rw [Nat.zero_add]
 by_cases hin:k <= j/\j < k+l.length
 ·obtain ⟨i,rfl⟩:∃ i,j=k+i:=⟨j - k,by omega⟩
  rw [Zmw hk (by omega)];exact hl i (by omega)
 ·rw [Zlz hk (by omega)]
  have:=h j hj;rw [Nat.zero_add] at this;exact ⟨(hf.2.1 j (by omega)).trans this.1,(hf.2.2 j).trans this.2⟩
def Zws (w:World) (g off:Nat) (u v:List Nat) (e:Ending) (w':World):Prop:=
 ∃ l,e=.returned (limb (val u / val v))/\l.length=u.length/\Lt32 l/\val l=val u % val v/\MutL w' g off l/\WinF w g off u.length w'
def DSub (w:World) (g off n q:Nat) (u v:List Nat) (i cy b:Nat) (wr:World):Prop:=
 ∃ l,MutL wr g off l/\l.length=n+1/\Lt32 l/\(∀ j,i <= j->l[j]?.getD 0=u[j]?.getD 0)/\val (l.take i)+q * val (v.take i)=val (u.take i)+pw i * (cy+b)/\WinF w g off (n+1) wr
def DAdd (w:World) (g off n:Nat) (l0 v:List Nat) (i c:Nat) (wr:World):Prop:=
 ∃ l,MutL wr g off l/\l.length=n+1/\Lt32 l/\(∀ j,i <= j->l[j]?.getD 0=l0[j]?.getD 0)/\val (l.take i)+pw i * c=val (l0.take i)+val (v.take i)/\WinF w g off (n+1) wr
theorem Zuc (g off n c d:Nat) (bv ov:Nat) (u v:List Nat) (w:World) (hu:MutL w g off u) (hul:u.length=n+1) (hut:Lt32 u) (hnc:n+1 <= c) (hcm:c <= maxLen) (hn9:n <= 1000000) (hn0:2 <= n)
    (hv:Lim w (some ⟨bv,ov,none⟩) n d v) (hne:bv ≠ g) (hlt:val u < 4294967296 * val v) (htop:2147483648 <= v[n - 1]?.getD 0) :
    Calls Tryz.prog 163 #[.slice (some ⟨g,off,none⟩) (n+1) c,.slice (some ⟨bv,ov,none⟩) n d] w (Zws w g off u v):=by
 unfold maxLen at hcm;have hnd:=hv.2.1;have hdm:=hv.2.2.1;unfold maxLen at hdm;have hvl:=hv.len
 have hV:0 < val v:=by
  rcases Nat.eq_zero_or_pos (val v) with h0 | h0
  ·rw [h0] at hlt;omega
  ·exact h0
 have ht2:=top2_le hvl (by omega);have ht3:=top3_lt hul (by omega) hut;have hc1:=hv.cell (k:=n - 1) (by omega);have hc2:=hv.cell (k:=n - 2) (by omega);have hd0:=(hu n (by omega)).1;have hd1:=(hu (n - 1) (by omega)).1;have hd2:=(hu (n - 2) (by omega)).1;have hv1:=hv.lt.get (n - 1);have hv2:=hv.lt.get (n - 2);have hu0:=hut.get n;have hu1:=hut.get (n - 1);have hu2:=hut.get (n - 2);have htl:=Zog hvl (by omega);have htu:=Zs0 hul (by omega) hut
 generalize hx1:v[n - 1]?.getD 0=v1 at *
 generalize hx2:v[n - 2]?.getD 0=v2 at *
 generalize hy0:u[n]?.getD 0=u0 at *
 generalize hy1:u[n - 1]?.getD 0=u1 at *
 generalize hy2:u[n - 2]?.getD 0=u2 at *
 obtain ⟨Q,hQ⟩:∃ Q,val u / val v=Q:=⟨_,rfl⟩
 have hQlt:Q < 4294967296:=by rw [<- hQ,Nat.div_lt_iff_lt_mul hV];exact hlt
 obtain ⟨top,htopE⟩:∃ t,u0 * 4294967296+u1=t:=⟨_,rfl⟩;rw [htopE] at ht3 htu
 have htb:top < 18446744073709551616:=by omega
 have hguess:Q <= top / v1:=by rw [<- hQ];exact Znp (by omega) htl htu
 have hgb:top / v1 < 8589934592:=by rw [Nat.div_lt_iff_lt_mul (by omega)];omega
 have hge:top / v1 * v1+top % v1=top:=by rw [Nat.mul_comm];exact Nat.div_add_mod _ _
 have hless:∀ q r,q * v1+r=top->r * 4294967296+u2 < q * v2->Q < q:=fun q r h1 h2=>by
  rw [<- hQ];exact Zn6 ht2 ht3 (Ztz h1 h2)
 replace hless:=Za hless;replace hge:=Za hge;replace htopE:=Za htopE;replace hQ:=Za hQ;replace hul:=Za hul;replace hvl:=Za hvl;replace hx1:=Za hx1;replace hx2:=Za hx2;replace hy0:=Za hy0;replace hy1:=Za hy1;replace hy2:=Za hy2;clear ht2 ht3 htl htu;go_enter Tryz.func163,Tryz.ntmps163;go_wp2_with fail
 go_quiet (fail)
 go_wp2_with fail
 go_quiet (fail)
 go_upto_block 0 with fail
 have ecast:((u0:Int) * 4294967296+(u1:Int))=(top:Int):=by have:=htopE.out;omega
 rw [ecast,show (top:Int) / (v1:Int)=((top / v1:Nat):Int) from rfl,show (top:Int) % (v1:Int)=((top % v1:Nat):Int) from rfl];replace ecast:=Za ecast
 generalize top / v1=q0 at *
 generalize top % v1=r0 at *
 have hB0:WinF w g off (n+1) (w.drewN 0):=WinF.refl _ _ _ _
 go_cut [7,8] (fun qv _ wx=>∃ q:Nat,qv=.int .u64 q/\Q <= q/\q < 4294967296/\∃ m,wx=w.drewN m)
 case first =>
  go_wp2_with fail
  go_loopw [7,8] (fun qv rv wr=>∃ q r:Nat,qv=.int .u64 q/\rv=.int .u64 r/\Q <= q/\q < 8589934592/\Hid (q * v1+r=top)/\∃ m,wr=w.drewN m) (fun qv _ _=>(intOf qv).toNat)
  case atStart=>exact ⟨q0,r0,rfl,rfl,hguess,hgb,hge,_,World.drewN_drewN _ _ _⟩
  case round =>
   obtain ⟨q,r,rfl,rfl,hq1,hq2,hqr,m0,rfl⟩:=hrel;clear hguess hgb hge
   have hrb:r < 18446744073709551616:=by have:=hqr.out;omega
   by_cases hb32:4294967296 <= q
   ·have d1:decide (4294967296 <= q)=true:=by simpa using hb32
    have d2:decide ((4294967296:Int) <= (q:Int))=true:=by simp;omega
    have hq0:0 < q:=by omega
    have hrv:r+v1 < 18446744073709551616:=by
     have h1:=hqr.out;have h2:(q - 1) * v1+v1=q * v1:=Zhf hq0;omega
    have hqr2:Hid ((q - 1) * v1+(r+v1)=top):=by
     have h1:=hqr.out;have h2:(q - 1) * v1+v1=q * v1:=Zhf hq0;unfold Hid;omega
    have hw7:IntKind.u64.wrap ((r:Int)+(v1:Int))=((r+v1:Nat):Int):=by rw [IntKind.wrap_u64];omega
    obtain ⟨r1,hr1⟩:∃ r1,r+v1=r1:=⟨_,rfl⟩;rw [hr1] at hw7 hrv hqr2;replace hr1:=Za hr1
    have eq1:((q:Int) - 1)=((q - 1:Nat):Int):=by omega
    replace eq1:=Za eq1
    by_cases hbrk:4294967296 <= r1/\q - 1 < 4294967296
    ·obtain ⟨k1,k2⟩:=hbrk
     have d7:decide (4294967296 <= r1)=true:=by simpa using k1
     have d8:decide ((4294967296:Int) <= (r1:Int))=true:=by simp;omega
     have d9:decide ((q:Int) - 1 < 4294967296)=true:=by simp;omega
     go_wp2_with fail
     go_quiet (fail)
     go_wp2_with fail
     go_meet
     exact ⟨q - 1,by rw [eq1.out],by omega,k2,_,(by first | rfl | exact World.drewN_drewN _ _ _)⟩
    ·have hrnd:Hid (∀ (k:Nat) (wx:World),wx=w.drewN k->((∃ q_1 r_1:Nat,Value.int IntKind.u64 ((q:Int) - 1)=Value.int IntKind.u64 (q_1:Int)/\Value.int IntKind.u64 (r1:Int)=Value.int IntKind.u64 (r_1:Int)/\Q <= q_1/\q_1 < 8589934592/\Hid (q_1 * v1+r_1=top)/\∃ m,wx=w.drewN m)/\(intOf (Value.int IntKind.u64 ((q:Int) - 1))).toNat < (intOf (Value.int IntKind.u64 (q:Int))).toNat)):=
       fun k wx hk=>⟨⟨q - 1,r1,by rw [eq1.out],rfl,by omega,by omega,hqr2,k,hk⟩,by simp [intOf];omega⟩
     by_cases k1:4294967296 <= r1
     ·have k2:¬ q - 1 < 4294967296:=fun h=>hbrk ⟨k1,h⟩
      have d7:decide (4294967296 <= r1)=true:=by simpa using k1
      have d8:decide ((4294967296:Int) <= (r1:Int))=true:=by simp;omega
      have d9:decide ((q:Int) - 1 < 4294967296)=false:=by simp;omega
      go_wp2_with fail
      go_quiet (fail)
      go_wp2_with fail;exact hrnd.out _ _ ((by first | rfl | exact World.drewN_drewN _ _ _))
     ·have d7:decide (4294967296 <= r1)=false:=by simpa using k1
      have d8:decide ((4294967296:Int) <= (r1:Int))=false:=by simp;omega
      go_wp2_with fail
      go_quiet (fail)
      go_wp2_with fail;exact hrnd.out _ _ ((by first | rfl | exact World.drewN_drewN _ _ _))
   ·have d1:decide (4294967296 <= q)=false:=by simpa using hb32
    have d2:decide ((4294967296:Int) <= (q:Int))=false:=by simp;omega
    by_cases hr32:r < 4294967296
    ·have d3:decide (r < 4294967296)=true:=by simpa using hr32
     have d4:decide ((r:Int) < (4294967296:Int))=true:=by simp;omega
     obtain ⟨p2,hp2⟩:∃ p2,q * v2=p2:=⟨_,rfl⟩
     have hp2b:p2 < 18446744073709551616:=by rw [<- hp2];exact Nat.lt_of_le_of_lt (Nat.mul_le_mul (show q <= 4294967295 by omega) (show v2 <= 4294967295 by omega)) (by decide)
     have hw:IntKind.u64.wrap ((q:Int) * (v2:Int))=(p2:Int):=by
      rw [show (q:Int) * (v2:Int)=(p2:Int) by rw [<- hp2];push_cast;rfl,IntKind.wrap_u64];omega
     replace hp2:=Za hp2
     by_cases ht5:r * 4294967296+u2 < p2
     ·have d5:decide (r * 4294967296+u2 < p2)=true:=decide_eq_true ht5
      have d6:decide ((r:Int) * 4294967296+(u2:Int) < (p2:Int))=true:=decide_eq_true (by omega);have hQq:Q < q:=hless.out q r hqr.out (by rw [hp2.out];exact ht5)
      have hq0:0 < q:=by omega
      have hrv:r+v1 < 18446744073709551616:=by
       have h1:=hqr.out;have h2:(q - 1) * v1+v1=q * v1:=Zhf hq0;omega
      have hqr2:Hid ((q - 1) * v1+(r+v1)=top):=by
       have h1:=hqr.out;have h2:(q - 1) * v1+v1=q * v1:=Zhf hq0;unfold Hid;omega
      have hw7:IntKind.u64.wrap ((r:Int)+(v1:Int))=((r+v1:Nat):Int):=by rw [IntKind.wrap_u64];omega
      obtain ⟨r1,hr1⟩:∃ r1,r+v1=r1:=⟨_,rfl⟩;rw [hr1] at hw7 hrv hqr2;replace hr1:=Za hr1
      have eq1:((q:Int) - 1)=((q - 1:Nat):Int):=by omega
      replace eq1:=Za eq1
      by_cases hbrk:4294967296 <= r1/\q - 1 < 4294967296
      ·obtain ⟨k1,k2⟩:=hbrk
       have d7:decide (4294967296 <= r1)=true:=by simpa using k1
       have d8:decide ((4294967296:Int) <= (r1:Int))=true:=by simp;omega
       have d9:decide ((q:Int) - 1 < 4294967296)=true:=by simp;omega
       go_wp2_with fail
       go_quiet (fail)
       go_wp2_with fail
       go_meet
       exact ⟨q - 1,by rw [eq1.out],by omega,k2,_,(by first | rfl | exact World.drewN_drewN _ _ _)⟩
      ·have hrnd:Hid (∀ (k:Nat) (wx:World),wx=w.drewN k->((∃ q_1 r_1:Nat,Value.int IntKind.u64 ((q:Int) - 1)=Value.int IntKind.u64 (q_1:Int)/\Value.int IntKind.u64 (r1:Int)=Value.int IntKind.u64 (r_1:Int)/\Q <= q_1/\q_1 < 8589934592/\Hid (q_1 * v1+r_1=top)/\∃ m,wx=w.drewN m)/\(intOf (Value.int IntKind.u64 ((q:Int) - 1))).toNat < (intOf (Value.int IntKind.u64 (q:Int))).toNat)):=
         fun k wx hk=>⟨⟨q - 1,r1,by rw [eq1.out],rfl,by omega,by omega,hqr2,k,hk⟩,by simp [intOf];omega⟩
       by_cases k1:4294967296 <= r1
       ·have k2:¬ q - 1 < 4294967296:=fun h=>hbrk ⟨k1,h⟩
        have d7:decide (4294967296 <= r1)=true:=by simpa using k1
        have d8:decide ((4294967296:Int) <= (r1:Int))=true:=by simp;omega
        have d9:decide ((q:Int) - 1 < 4294967296)=false:=by simp;omega
        go_wp2_with fail
        go_quiet (fail)
        go_wp2_with fail;exact hrnd.out _ _ ((by first | rfl | exact World.drewN_drewN _ _ _))
       ·have d7:decide (4294967296 <= r1)=false:=by simpa using k1
        have d8:decide ((4294967296:Int) <= (r1:Int))=false:=by simp;omega
        go_wp2_with fail
        go_quiet (fail)
        go_wp2_with fail;exact hrnd.out _ _ ((by first | rfl | exact World.drewN_drewN _ _ _))
     ·have d5:decide (r * 4294967296+u2 < p2)=false:=decide_eq_false ht5
      have d6:decide ((r:Int) * 4294967296+(u2:Int) < (p2:Int))=false:=decide_eq_false (by omega);go_wp2_with fail
      go_quiet (fail)
      go_wp2_with fail
      go_meet
      exact ⟨q,rfl,hq1,by omega,_,(by first | rfl | exact World.drewN_drewN _ _ _)⟩
    ·have d3:decide (r < 4294967296)=false:=by simpa using hr32
     have d4:decide ((r:Int) < (4294967296:Int))=false:=by simp;omega
     go_wp2_with fail
     go_quiet (fail)
     go_wp2_with fail
     go_meet
     exact ⟨q,rfl,hq1,by omega,_,(by first | rfl | exact World.drewN_drewN _ _ _)⟩
 case rest =>
  obtain ⟨q,rfl,hq1,hq2,m0,rfl⟩:=hcut;clear hguess hgb hge hless;go_wp2_with fail;have huM:MutL (w.drewN m0) g off u:=hu
  have hvM:∀ (wr:World),WinF w g off (n+1) wr->Lim wr (some ⟨bv,ov,none⟩) n d v:=fun wr h=>⟨hv.1,hv.2.1,hv.2.2.1,hv.2.2.2.1,fun hn=>⟨bv,ov,rfl,fun k hk=>(World.cell?_of_block (a:=⟨bv,ov+k,none⟩) (h.1.block bv (Zp (hv.cell (k:=0) (by omega))) (fun e=>hne (by injection e)))).trans (hv.cell hk)⟩⟩
  replace hvM:=Za hvM
  go_loopw [11,10,9] (fun iv cv bw wr=>∃ i cy b:Nat,i <= n+1/\iv=.int .i64 i/\cy < 4294967296/\cv=.int .u64 cy/\b <= 1/\bw=.int .i64 b/\DSub w g off n q u v i cy b wr/\(i=n+1->cy=0)) (fun iv _ _ _=>n+1 - (intOf iv).toNat)
  case atStart=>exact ⟨0,0,0,by omega,rfl,by omega,rfl,by omega,rfl,⟨u,huM,hul.out,hut,fun _ _=>rfl,by simp [val],(WinF.refl _ _ _ _).drewN m0⟩,by omega⟩
  case round =>
   obtain ⟨i,cy,b,hin,rfl,hcy,rfl,hb1,rfl,⟨l,hl,hll,hlt',hsame,hI,hF⟩,hcz⟩:=hrel;replace hll:=Za hll;replace hsame:=Za hsame;replace hI:=Za hI;have hy:=hut.get i
   rcases Nat.lt_trichotomy i n with hi | hi | hi
   ·obtain ⟨hcu,hfu⟩:=hl i (by rw [hll.out];omega)
    rw [hsame.out i (Nat.le_refl _)] at hcu;have hcv:=(hvM.out _ hF).cell (k:=i) hi;have hx:=hv.lt.get i
    have hst:∀ lo c' d' b':Nat,lo+4294967296 * c'=cy+q * v[i]?.getD 0->d'+lo+b=u[i]?.getD 0+4294967296 * b'->val ((l.set i d').take (i+1))+q * val (v.take (i+1))=val (u.take (i+1))+pw (i+1) * (c'+b'):=
     fun lo c' d' b' h1 h2=>Zi2 (by rw [hll.out];omega) hI.out h1 h2
    replace hst:=Za hst;obtain ⟨x,hxe⟩:∃ x,v[i]?.getD 0=x:=⟨_,rfl⟩;obtain ⟨y,hye⟩:∃ y,u[i]?.getD 0=y:=⟨_,rfl⟩;rw [hxe] at hcv hx hst;rw [hye] at hcu hy hst;replace hxe:=Za hxe;replace hye:=Za hye;have hw:=Zqm hcy hq2 hx
    have htb:cy+q * x < 18446744073709551616:=by
     have h:q * x <= 4294967295 * 4294967295:=Nat.mul_le_mul (by omega) (by omega);omega
    obtain ⟨T,hT⟩:∃ T,cy+q * x=T:=⟨_,rfl⟩;rw [hT] at hw htb hst
    have hand:bits BinOp.and IntKind.u64 (T:Int) 4294967295=((T % 4294967296:Nat):Int):=by
     rw [show (4294967295:Int)=((4294967295:Nat):Int) from rfl,u64_and_nat _ _ htb (by omega),show 4294967295=2 ^ 32 - 1 by rfl,Nat.and_two_pow_sub_one_eq_mod]
    have hcT:T / 4294967296 < 4294967296:=by omega
    replace hT:=Za hT;have hlo:T % 4294967296 < 4294967296:=Nat.mod_lt _ (by decide);obtain ⟨lo,hloe⟩:∃ lo,T % 4294967296=lo:=⟨_,rfl⟩;rw [hloe] at hand hlo;replace hloe:=Za hloe
    have hh:Hid (lo+4294967296 * (T / 4294967296)=T):=by unfold Hid;rw [<- hloe.out];exact Nat.mod_add_div _ _
    by_cases hneg:(y:Int) - lo - b < 0
    ·have d1:decide ((y:Int) - lo - b < 0)=true:=decide_eq_true hneg
     go_wp2_with fail;obtain ⟨d',hd'⟩:∃ d':Nat,(y:Int) - lo - b+4294967296=(d':Int):=⟨((y:Int) - lo - b+4294967296).toNat,by omega⟩;rw [hd']
     have hd32:d' < 4294967296:=by omega
     have hfin:=hst.out lo (T / 4294967296) d' 1 hh.out (by omega);refine ⟨⟨i+1,(T / 4294967296),1,by omega,by go_num,hcT,rfl,by omega,rfl,⟨l.set i d',hl.set_ (by rw [hll.out];omega) d',by rw [List.length_set];exact hll.out,hlt'.set i hd32,fun j hj=>by rw [getD_set_ne _ (by omega)];exact hsame.out j (by omega),hfin,hF.set_ (by omega) _⟩,by omega⟩,by simp [intOf] <;> omega⟩
    ·have d1:decide ((y:Int) - lo - b < 0)=false:=decide_eq_false hneg
     go_wp2_with fail;obtain ⟨d',hd'⟩:∃ d':Nat,(y:Int) - lo - b=(d':Int):=⟨((y:Int) - lo - b).toNat,by omega⟩;rw [hd']
     have hd32:d' < 4294967296:=by omega
     have hfin:=hst.out lo (T / 4294967296) d' 0 hh.out (by omega);refine ⟨⟨i+1,(T / 4294967296),0,by omega,by go_num,hcT,rfl,by omega,rfl,⟨l.set i d',hl.set_ (by rw [hll.out];omega) d',by rw [List.length_set];exact hll.out,hlt'.set i hd32,fun j hj=>by rw [getD_set_ne _ (by omega)];exact hsame.out j (by omega),hfin,hF.set_ (by omega) _⟩,by omega⟩,by simp [intOf] <;> omega⟩
   ·subst hi
    obtain ⟨hcu,hfu⟩:=hl i (by rw [hll.out];omega);rw [hsame.out i (Nat.le_refl _)] at hcu
    have hst:∀ d' b':Nat,d'+cy+b=u[i]?.getD 0+4294967296 * b'->val ((l.set i d').take (i+1))+q * val (v.take (i+1))=val (u.take (i+1))+pw (i+1) * (0+b'):=
     fun d' b' h2=>Zi2 (by rw [hll.out];omega) hI.out (by rw [getD_none (by rw [hvl.out];exact Nat.le_refl _),Nat.mul_zero,Nat.mul_zero,Nat.add_zero]) h2
    replace hst:=Za hst;obtain ⟨y,hye⟩:∃ y,u[i]?.getD 0=y:=⟨_,rfl⟩;rw [hye] at hcu hy hst;replace hye:=Za hye
    have hand:bits BinOp.and IntKind.u64 (cy:Int) 4294967295=(cy:Int):=by
     rw [show (4294967295:Int)=((4294967295:Nat):Int) from rfl,u64_and_nat _ _ (by omega) (by omega),show 4294967295=2 ^ 32 - 1 by rfl,Nat.and_two_pow_sub_one_eq_mod,Nat.mod_eq_of_lt hcy]
    have hc0:(cy:Int) / 4294967296=0:=by omega
    by_cases hneg:(y:Int) - cy - b < 0
    ·have d1:decide ((y:Int) - cy - b < 0)=true:=decide_eq_true hneg
     go_wp2_with fail;obtain ⟨d',hd'⟩:∃ d':Nat,(y:Int) - cy - b+4294967296=(d':Int):=⟨((y:Int) - cy - b+4294967296).toNat,by omega⟩;rw [hd']
     have hd32:d' < 4294967296:=by omega
     have hfin:=hst.out d' 1  (by omega);refine ⟨⟨i+1,0,1,by omega,by go_num,(by omega),by go_num,by omega,rfl,⟨l.set i d',hl.set_ (by rw [hll.out];omega) d',by rw [List.length_set];exact hll.out,hlt'.set i hd32,fun j hj=>by rw [getD_set_ne _ (by omega)];exact hsame.out j (by omega),hfin,hF.set_ (by omega) _⟩,by omega⟩,by simp [intOf] <;> omega⟩
    ·have d1:decide ((y:Int) - cy - b < 0)=false:=decide_eq_false hneg
     go_wp2_with fail;obtain ⟨d',hd'⟩:∃ d':Nat,(y:Int) - cy - b=(d':Int):=⟨((y:Int) - cy - b).toNat,by omega⟩;rw [hd']
     have hd32:d' < 4294967296:=by omega
     have hfin:=hst.out d' 0  (by omega);refine ⟨⟨i+1,0,0,by omega,by go_num,(by omega),by go_num,by omega,rfl,⟨l.set i d',hl.set_ (by rw [hll.out];omega) d',by rw [List.length_set];exact hll.out,hlt'.set i hd32,fun j hj=>by rw [getD_set_ne _ (by omega)];exact hsame.out j (by omega),hfin,hF.set_ (by omega) _⟩,by omega⟩,by simp [intOf] <;> omega⟩
   ·obtain rfl:i=n+1:=by omega
    obtain rfl:cy=0:=hcz rfl
    have hI2:Hid (val l+q * val v=val u+pw (n+1) * b):=by
     have h1:=hI.out;rw [Zag (by rw [hll.out];exact Nat.le_refl _),Zag (by rw [hvl.out];omega),Zag (by rw [hul.out];exact Nat.le_refl _),Nat.zero_add] at h1;exact h1
    clear hI hsame hcz;have hq3:Q <= q:=hq1;go_wp2_with fail
    go_loopw [9,7] (fun bw qw wr=>∃ (q b:Nat) (l:List Nat),bw=.int .i64 b/\qw=.int .u64 q/\b <= 1/\Q <= q/\q < 4294967296/\MutL wr g off l/\l.length=n+1/\Lt32 l/\Hid (val l+q * val v=val u+pw (n+1) * b)/\WinF w g off (n+1) wr) (fun _ qw _=>(intOf qw).toNat)
    case atStart=>exact ⟨q,b,l,rfl,rfl,hb1,hq3,hq2,hl,hll.out,hlt',hI2,hF⟩
    case round =>
     clear hI2 hl hll hlt' hF;obtain ⟨q,b,l,rfl,rfl,hb1,hq3,hq2,hl,hll,hlt',hI2,hF⟩:=hrel;replace hll:=Za hll
     rcases Nat.eq_zero_or_pos b with rfl | hb0
     ·obtain ⟨hit1,hit2⟩:=Znd (U:=val u) (q:=q) (W:=val l) hV (by have:=hI2.out;rw [Nat.mul_zero] at this;exact this) (by rw [hQ.out];exact hq3)
      have hP:Hid (Zws w g off u v (.returned (limb q)) wr):=⟨l,by rw [<- hit1],by rw [hll.out,hul.out],hlt',hit2,hl,by rw [hul.out];exact hF⟩
      have hqm:((q:Int)) % 4294967296=(q:Int):=by omega
      clear hit1 hit2 hI2;go_wp2_with fail;go_ret;exact hP.out
     ·obtain rfl:b=1:=by omega
      have hmiss:Q < q:=by
       have:=Zl3 (q:=q) (W:=val l) (M:=pw (n+1)) hV (by have:=hI2.out;rw [Nat.mul_one] at this;exact this) (by have:=Zf0 hlt';rw [hll.out] at this;exact this);rw [hQ.out] at this;exact this
      go_wp2_with fail
      go_loopw [13,10] (fun iv cv wr=>∃ i cy:Nat,i <= n+1/\iv=.int .i64 i/\cy <= 1/\cv=.int .u64 cy/\DAdd w g off n l v i cy wr) (fun iv _ _=>n+1 - (intOf iv).toNat)
      case atStart=>exact ⟨0,0,by omega,rfl,by omega,rfl,l,hl,hll.out,hlt',fun _ _=>rfl,by simp [val],hF⟩
      case round =>
       obtain ⟨i,cy,hin,rfl,hcy,rfl,l2,hl2,hll2,hlt2,hsame,hI,hF2⟩:=hrel;replace hll2:=Za hll2;replace hsame:=Za hsame;replace hI:=Za hI;have hyl:=hlt'.get i
       rcases Nat.lt_trichotomy i n with hi | hi | hi
       ·obtain ⟨hcu,hfu⟩:=hl2 i (by rw [hll2.out];omega)
        rw [hsame.out i (Nat.le_refl _)] at hcu;have hcv:=(hvM.out _ hF2).cell (k:=i) hi;have hx:=hv.lt.get i
        have hst:∀ s c':Nat,s+4294967296 * c'=cy+l[i]?.getD 0+v[i]?.getD 0->val ((l2.set i s).take (i+1))+pw (i+1) * c'=val (l.take (i+1))+val (v.take (i+1)):=
         fun s c' h=>Zmy (by rw [hll2.out];omega) hI.out h
        replace hst:=Za hst;obtain ⟨x,hxe⟩:∃ x,v[i]?.getD 0=x:=⟨_,rfl⟩;obtain ⟨y,hye⟩:∃ y,l[i]?.getD 0=y:=⟨_,rfl⟩;rw [hxe] at hcv hx hst;rw [hye] at hcu hyl hst;replace hxe:=Za hxe;replace hye:=Za hye;go_wp2_with fail
        have e1:((cy:Int)+y+x) % 4294967296=(((cy+y+x) % 4294967296:Nat):Int):=by omega
        have e2:((cy:Int)+y+x) / 4294967296=(((cy+y+x) / 4294967296:Nat):Int):=by omega
        rw [e1,e2];refine ⟨⟨i+1,(cy+y+x) / 4294967296,by omega,by go_num,by omega,rfl,l2.set i ((cy+y+x) % 4294967296),hl2.set_ (by rw [hll2.out];omega) _,by rw [List.length_set];exact hll2.out,hlt2.set i (by omega),fun j hj=>by rw [getD_set_ne _ (by omega)];exact hsame.out j (by omega),hst.out _ _ (by omega),hF2.set_ (by omega) _⟩,by simp [intOf] <;> omega⟩
       ·subst hi
        obtain ⟨hcu,hfu⟩:=hl2 i (by rw [hll2.out];omega);rw [hsame.out i (Nat.le_refl _)] at hcu
        have hst:∀ s c':Nat,s+4294967296 * c'=cy+l[i]?.getD 0->val ((l2.set i s).take (i+1))+pw (i+1) * c'=val (l.take (i+1))+val (v.take (i+1)):=
         fun s c' h=>Zmy (by rw [hll2.out];omega) hI.out (by rw [getD_none (l:=v) (by rw [hvl.out];exact Nat.le_refl _),Nat.add_zero];exact h)
        replace hst:=Za hst;obtain ⟨y,hye⟩:∃ y,l[i]?.getD 0=y:=⟨_,rfl⟩;rw [hye] at hcu hyl hst;replace hye:=Za hye;go_wp2_with fail
        have e1:((cy:Int)+y) % 4294967296=(((cy+y) % 4294967296:Nat):Int):=by omega
        have e2:((cy:Int)+y) / 4294967296=(((cy+y) / 4294967296:Nat):Int):=by omega
        rw [e1,e2];refine ⟨⟨i+1,(cy+y) / 4294967296,by omega,by go_num,by omega,rfl,l2.set i ((cy+y) % 4294967296),hl2.set_ (by rw [hll2.out];omega) _,by rw [List.length_set];exact hll2.out,hlt2.set i (by omega),fun j hj=>by rw [getD_set_ne _ (by omega)];exact hsame.out j (by omega),hst.out _ _ (by omega),hF2.set_ (by omega) _⟩,by simp [intOf] <;> omega⟩
       ·obtain rfl:i=n+1:=by omega
        have hfin:Hid (val l2+(q - 1) * val v=val u+pw (n+1) * (1 - cy)):=by
         have h1:=hI.out;rw [Zag (by rw [hll2.out];exact Nat.le_refl _),Zag (by rw [hll.out];exact Nat.le_refl _),Zag (by rw [hvl.out];omega)] at h1;have h2:=hI2.out;have h3:=Zhf (v:=val v) (show 0 < q by omega);rw [Nat.mul_one] at h2;unfold Hid
         rcases Nat.eq_zero_or_pos cy with rfl | h0
         ·rw [Nat.mul_zero] at h1
          rw [Nat.sub_zero,Nat.mul_one];omega
         ·obtain rfl:cy=1:=by omega
          rw [Nat.mul_one] at h1;rw [Nat.sub_self,Nat.mul_zero];omega
        clear hI hsame
        have e3:((q:Int) - 1)=((q - 1:Nat):Int):=by omega
        have e4:((1:Int) - cy)=((1 - cy:Nat):Int):=by omega
        replace e3:=Za e3;replace e4:=Za e4;go_wp2_with fail
        go_roundw
        case rel=>exact ⟨q - 1,1 - cy,l2,by rw [<- e4.out],by rw [<- e3.out],by omega,by omega,by omega,hl2,hll2.out,hlt2,hfin,hF2⟩
        case measure=>simp [intOf] <;> omega
end Go.Proofs.YtigdclhagmnopaaGreat
