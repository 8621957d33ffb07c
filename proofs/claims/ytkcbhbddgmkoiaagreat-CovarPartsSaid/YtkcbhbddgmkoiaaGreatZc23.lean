/- Package planisphereref01: Sub. -/
import Derived.Test.YtkcbhbddgmkoiaaGreatZc13
set_option maxRecDepth 100000
set_option maxHeartbeats 1000000
set_option linter.unusedSimpArgs false
set_option linter.unusedVariables false
namespace Go.Proofs.YtkcbhbddgmkoiaaGreat
open Go.RowKit
attribute [local go_sem] Zg
theorem rSub_ok (na nb : Bool) (A B : Option Addr) (n c m d : Nat) (za zb : Int) (w : World) (ha : Wd w na A n c za) (hb : Wd w nb B m d zb) :
    Calls Tryz.prog 105 #[.agg #[.bool na,.slice A n c],.agg #[.bool nb,.slice B m d]] w (ResW w (za - zb)):=by
 have hLa:=ha.lim;have hLb:=hb.lim;have hn:=ha.2.1;have hm:=hb.2.1;have hB0 : Below w.heap.size w (((w.alloc (.cells #[.bool na,.slice A n c] 62)).alloc (.cells #[.bool nb,.slice B m d] 62)).alloc (.cells #[.bool false,.slice none 0 0] 62)):=(((Below.refl w.heap.size w).alloc (Nat.le_refl _) _).alloc (by simp) _).alloc (by simp;omega) _;have hB0:=Za hB0
 have hgood : Hid ((okW na (digits za.natAbs) && okW nb (digits zb.natAbs)) = true):=by unfold Hid;rw [ha.ok,hb.ok];rfl
 have hza:=Za ha.sgEq;have hzb:=Za hb.sgEq;have hlb:=Za hb.lim.len;clear ha hb;go_enter Tryz.func105,Tryz.ntmps105;go_wp2_with fail;refine (Zda (hLa.below hB0.out) (hLb.below hB0.out) hgood.out).mono ?_;rintro e w1 ⟨rfl,hb1⟩;obtain ⟨hc1,hf1⟩:=Zbk hb1
 have hz1 : w.heap.size + 1 + 1 < w1.heap.size:=by have:=hb1.size;simp at this;omega
 have hB1 : Below w.heap.size w w1:=hB0.out.trans (hb1.mono (by simp;omega))
 have g0 : w1.cell? ⟨w.heap.size,0,none⟩ = some (.bool na):=by simp [hc1,go_sem]
 have g1 : w1.cell? ⟨w.heap.size,1,none⟩ = some (.slice A n c):=by simp [hc1,go_sem]
 have g2 : w1.cell? ⟨w.heap.size + 1,0,none⟩ = some (.bool nb):=by simp [hc1,go_sem]
 have g3 : w1.cell? ⟨w.heap.size + 1,1,none⟩ = some (.slice B m d):=by simp [hc1,go_sem]
 have g7 : Blk w1 (w.heap.size + 1 + 1) 62 #[.bool false,.slice none 0 0]:=by
  refine Zc hb1 ?_;have:=Blk.new ((w.alloc (.cells #[.bool na,.slice A n c] 62)).alloc (.cells #[.bool nb,.slice B m d] 62)) 62 #[.bool false,.slice none 0 0];simp only [World.size_alloc] at this;exact this
 have g5:=g7.cell 0;have g6:=g7.cell 1;have g8:=g7.frozen 0;have g9:=g7.frozen 1
 simp at g5 g6
 clear hc1 hf1;have hLa1:=hLa.below hB1;have hLb1:=hLb.below hB1
 by_cases hm0 : 0 < m
 ·have hd : decide (0 < m) = true:=by simpa using hm0
  cases nb
  ·go_wp2_with fail
   refine (Zdc _ _ _ _ _ _ _ _ _ _ _ (by exact hLa1) (by exact hLb1) hn hm).mono ?_;rintro e w2 ⟨hb2,neg2,A2,n2,c2,code2,rfl,hR2⟩;have hB2 : Below w.heap.size w w2:=hB1.trans (hb2.mono hB1.size);have m7:=Zc hb2 g7;have m3:=m7.cell 0;have m4:=m7.cell 1;have m5:=m7.frozen 0;have m6:=m7.frozen 1
   simp at m3 m4
   have HM:=Za m7;clear m7;go_wp2_with fail
   have HZ : sg na za.natAbs + sg (true) zb.natAbs = za - zb:=by
    have h1:=hza.out;have h2:=hzb.out;rw [Zf] at h1 h2
    have h3 : sg (true) zb.natAbs = - zb:=by unfold sg at h2 ⊢;simp at h2 ⊢;omega
    rw [h1,h3];omega
   refine bodyPost_ret (v:=.tuple #[.agg #[.bool neg2,.slice A2 n2 c2],.int .i64 code2]) (by simp [results,Tryz.results105,go_sem,m3,m4]) rfl ?_;exact ResW.box (HZ ▸ hR2) hB2 (by omega) HM.out
  ·go_wp2_with fail
   refine (Zdc _ _ _ _ _ _ _ _ _ _ _ (by exact hLa1) (by exact hLb1) hn hm).mono ?_;rintro e w2 ⟨hb2,neg2,A2,n2,c2,code2,rfl,hR2⟩;have hB2 : Below w.heap.size w w2:=hB1.trans (hb2.mono hB1.size);have m7:=Zc hb2 g7;have m3:=m7.cell 0;have m4:=m7.cell 1;have m5:=m7.frozen 0;have m6:=m7.frozen 1
   simp at m3 m4
   have HM:=Za m7;clear m7;go_wp2_with fail
   have HZ : sg na za.natAbs + sg (false) zb.natAbs = za - zb:=by
    have h1:=hza.out;have h2:=hzb.out;rw [Zf] at h1 h2
    have h3 : sg (false) zb.natAbs = - zb:=by unfold sg at h2 ⊢;simp at h2 ⊢;omega
    rw [h1,h3];omega
   refine bodyPost_ret (v:=.tuple #[.agg #[.bool neg2,.slice A2 n2 c2],.int .i64 code2]) (by simp [results,Tryz.results105,go_sem,m3,m4]) rfl ?_;exact ResW.box (HZ ▸ hR2) hB2 (by omega) HM.out
 ·obtain rfl : m = 0:=by omega
  have hz0 : zb.natAbs = 0:=by have:=hlb.out;exact digits_eq_nil.1 (List.eq_nil_of_length_eq_zero this)
  have hz0:=Za hz0
  cases nb
  ·go_wp2_with fail
   refine (Zdc _ _ _ _ _ _ _ _ _ _ _ (by exact hLa1) (by exact hLb1) hn hm).mono ?_;rintro e w2 ⟨hb2,neg2,A2,n2,c2,code2,rfl,hR2⟩;have hB2 : Below w.heap.size w w2:=hB1.trans (hb2.mono hB1.size);have m7:=Zc hb2 g7;have m3:=m7.cell 0;have m4:=m7.cell 1;have m5:=m7.frozen 0;have m6:=m7.frozen 1
   simp at m3 m4
   have HM:=Za m7;clear m7;go_wp2_with fail
   have HZ : sg na za.natAbs + sg (false) zb.natAbs = za - zb:=by
    have h1:=hza.out;have h2:=hzb.out;rw [Zf] at h1 h2
    have h3 : sg (false) zb.natAbs = - zb:=by have h4:=hz0.out;unfold sg;simp;omega
    rw [h1,h3];omega
   refine bodyPost_ret (v:=.tuple #[.agg #[.bool neg2,.slice A2 n2 c2],.int .i64 code2]) (by simp [results,Tryz.results105,go_sem,m3,m4]) rfl ?_;exact ResW.box (HZ ▸ hR2) hB2 (by omega) HM.out
  ·go_wp2_with fail
   refine (Zdc _ _ _ _ _ _ _ _ _ _ _ (by exact hLa1) (by exact hLb1) hn hm).mono ?_;rintro e w2 ⟨hb2,neg2,A2,n2,c2,code2,rfl,hR2⟩;have hB2 : Below w.heap.size w w2:=hB1.trans (hb2.mono hB1.size);have m7:=Zc hb2 g7;have m3:=m7.cell 0;have m4:=m7.cell 1;have m5:=m7.frozen 0;have m6:=m7.frozen 1
   simp at m3 m4
   have HM:=Za m7;clear m7;go_wp2_with fail
   have HZ : sg na za.natAbs + sg (false) zb.natAbs = za - zb:=by
    have h1:=hza.out;have h2:=hzb.out;rw [Zf] at h1 h2
    have h3 : sg (false) zb.natAbs = - zb:=by have h4:=hz0.out;unfold sg;simp;omega
    rw [h1,h3];omega
   refine bodyPost_ret (v:=.tuple #[.agg #[.bool neg2,.slice A2 n2 c2],.int .i64 code2]) (by simp [results,Tryz.results105,go_sem,m3,m4]) rfl ?_;exact ResW.box (HZ ▸ hR2) hB2 (by omega) HM.out
end Go.Proofs.YtkcbhbddgmkoiaaGreat
