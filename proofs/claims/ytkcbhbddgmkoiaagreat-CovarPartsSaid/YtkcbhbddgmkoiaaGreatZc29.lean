/- Package wide: Add. -/
import Derived.Test.YtkcbhbddgmkoiaaGreatZc08
set_option maxRecDepth 100000
set_option maxHeartbeats 1000000
set_option linter.unusedSimpArgs false
set_option linter.unusedVariables false
namespace Go.Proofs.YtkcbhbddgmkoiaaGreat
open Go.RowKit
attribute [local go_sem] Zg
theorem Add_ok (na nb : Bool) (A B : Option Addr) (n c m d : Nat) (za zb : Int) (w : World) (ha : Wd w na A n c za) (hb : Wd w nb B m d zb) :
    Calls Tryz.prog 119 #[.agg #[.bool na,.slice A n c],.agg #[.bool nb,.slice B m d]] w (ResW w (za + zb)):=by
 have hLa:=ha.lim;have hLb:=hb.lim;have hn:=ha.2.1;have hm:=hb.2.1
 have hB0 : ∀ X Y Z V : Obj,Below w.heap.size w ((((w.alloc X).alloc Y).alloc Z).alloc V):=fun X Y Z V=>((((Below.refl w.heap.size w).alloc (Nat.le_refl _) _).alloc (by simp) _).alloc (by simp;omega) _).alloc (by simp;omega) _
 have hW : ∀ X Y Z t,WL ((((w.alloc X).alloc Y).alloc Z).alloc (.cells #[.bool na,.slice A n c,.bool nb,.slice B m d] t)) (some ⟨w.heap.size + 1 + 1 + 1,0,none⟩) 2 2 [⟨na,A,n,c,digits za.natAbs⟩,⟨nb,B,m,d,digits zb.natAbs⟩]:=fun X Y Z t=>by
  have:=WL.two (neg:=na) (neg':=nb) (((hLa.alloc X).alloc Y).alloc Z) (((hLb.alloc X).alloc Y).alloc Z) t;simp only [World.size_alloc] at this;exact this
 have hW:=Za hW;have hB0:=Za hB0;have hgood : Hid (okW na (digits za.natAbs) = true /\ okW nb (digits zb.natAbs) = true):=⟨ha.ok,hb.ok⟩;have hza:=Za ha.sgEq;have hzb:=Za hb.sgEq;clear ha hb;go_enter Tryz.func119,Tryz.ntmps119;go_wp2_with fail;refine (Zcc (hW.out _ _ _ _) (by have:=hgood.out;simp [WE.ok,this])).mono ?_;rintro e w1 ⟨rfl,hb1⟩;obtain ⟨hc1,hf1⟩:=Zbk hb1
 have hz1 : w.heap.size + 1 + 1 + 1 < w1.heap.size:=by have:=hb1.size;simp at this;omega
 have hB1 : Below w.heap.size w w1:=(hB0.out _ _ _ _).trans (hb1.mono (by simp;omega))
 have g0 : w1.cell? ⟨w.heap.size,0,none⟩ = some (.bool na):=by simp [hc1,go_sem]
 have g1 : w1.cell? ⟨w.heap.size,1,none⟩ = some (.slice A n c):=by simp [hc1,go_sem]
 have g2 : w1.cell? ⟨w.heap.size + 1,0,none⟩ = some (.bool nb):=by simp [hc1,go_sem]
 have g3 : w1.cell? ⟨w.heap.size + 1,1,none⟩ = some (.slice B m d):=by simp [hc1,go_sem]
 have gf : w1.frozen? ⟨w.heap.size + 1,0,none⟩ = false:=by simp [hf1,go_sem]
 have gB : Blk w1 (w.heap.size + 1) 62 #[.bool nb,.slice B m d]:=by
  refine Zc hb1 ((Blk.alloc (Blk.alloc ?_ _) _));have:=Blk.new (w.alloc (.cells #[.bool na,.slice A n c] 62)) 62 #[.bool nb,.slice B m d];simp only [World.size_alloc] at this;exact this
 have g7 : Blk w1 (w.heap.size + 1 + 1) 62 #[.bool false,.slice none 0 0]:=by
  refine Zc hb1 (Blk.alloc ?_ _);have:=Blk.new ((w.alloc (.cells #[.bool na,.slice A n c] 62)).alloc (.cells #[.bool nb,.slice B m d] 62)) 62 #[.bool false,.slice none 0 0];simp only [World.size_alloc] at this;exact this
 have hLa1:=hLa.below hB1;have hLb1:=hLb.below hB1;have HB:=Za gB;clear gB hc1 hf1;go_wp2_with fail;refine (Zoh _ _ _ _ _ _ _ _ _ _ _ (by exact hLa1) (by exact hLb1) hn hm).mono ?_;rintro e w2 ⟨hb2,neg2,A2,n2,c2,code2,rfl,hR2⟩;have hB2 : Below w.heap.size w w2:=hB1.trans (hb2.mono hB1.size);have m7:=Zc hb2 g7;have m3:=m7.cell 0;have m4:=m7.cell 1;have m5:=m7.frozen 0;have m6:=m7.frozen 1
 simp at m3 m4
 have HM:=Za m7;clear m7;go_wp2_with fail
 have HZ : sg na za.natAbs + sg nb zb.natAbs = za + zb:=by
  have h1:=hza.out;have h2:=hzb.out;rw [Zf] at h1 h2;rw [h1,h2]
 refine bodyPost_ret (v:=.tuple #[.agg #[.bool neg2,.slice A2 n2 c2],.int .i64 code2]) (by simp [results,Tryz.results119,go_sem,m3,m4]) rfl ?_;exact ResW.box (HZ ▸ hR2) hB2 (by omega) HM.out
end Go.Proofs.YtkcbhbddgmkoiaaGreat
