/- Package planisphereref01: Mul. Reference of frac: product. -/
import Derived.Test.YtpehacgjclkhmaaGreatZx23
set_option maxRecDepth 100000
set_option maxHeartbeats 1000000
set_option linter.unusedSimpArgs false
set_option linter.unusedVariables false
namespace Go.Proofs.YtpehacgjclkhmaaGreat
open Go.RowKit
attribute [local go_sem] Zg
theorem Zc0 (na nb : Bool) (A B : Option Addr) (n c m d : Nat) (za zb : Int) (w : World) (ha : Wd w na A n c za) (hb : Wd w nb B m d zb) :
    Calls Tryz.prog 59 #[.agg #[.bool na,.slice A n c],.agg #[.bool nb,.slice B m d]] w (ResW w (za * zb)):=by
 have hLa:=ha.lim;have hLb:=hb.lim;have hn:=ha.2.1;have hm:=hb.2.1;have hB0 : Below w.heap.size w (((w.alloc (.cells #[.bool na,.slice A n c] 27)).alloc (.cells #[.bool nb,.slice B m d] 27)).alloc (.cells #[.bool false,.slice none 0 0] 27)):=(((Below.refl w.heap.size w).alloc (Nat.le_refl _) _).alloc (by simp) _).alloc (by simp;omega) _;have hB0:=Zb hB0
 have hgood : Hid ((okW na (digits za.natAbs) && okW nb (digits zb.natAbs)) = true):=by unfold Hid;rw [ha.ok,hb.ok];rfl
 have hza:=Zb ha.sgEq;have hzb:=Zb hb.sgEq;have hlb:=Zb hb.lim.len;clear ha hb;go_enter Tryz.func59,Tryz.ntmps59;go_wp2_with fail;refine (Zdn (hLa.below hB0.out) (hLb.below hB0.out) hgood.out).mono ?_;rintro e w1 ⟨rfl,hb1⟩;obtain ⟨hc1,hf1⟩:=Zbm hb1
 have hz1 : w.heap.size + 1 + 1 < w1.heap.size:=by have:=hb1.size;simp at this;omega
 have hB1 : Below w.heap.size w w1:=hB0.out.trans (hb1.mono (by simp;omega))
 have g0 : w1.cell? ⟨w.heap.size,0,none⟩ = some (.bool na):=by simp [hc1,go_sem]
 have g1 : w1.cell? ⟨w.heap.size,1,none⟩ = some (.slice A n c):=by simp [hc1,go_sem]
 have g2 : w1.cell? ⟨w.heap.size + 1,0,none⟩ = some (.bool nb):=by simp [hc1,go_sem]
 have g3 : w1.cell? ⟨w.heap.size + 1,1,none⟩ = some (.slice B m d):=by simp [hc1,go_sem]
 have g7 : Blk w1 (w.heap.size + 1 + 1) 27 #[.bool false,.slice none 0 0]:=by
  refine Zc hb1 ?_;have:=Blk.new ((w.alloc (.cells #[.bool na,.slice A n c] 27)).alloc (.cells #[.bool nb,.slice B m d] 27)) 27 #[.bool false,.slice none 0 0];simp only [World.size_alloc] at this;exact this
 have g5:=g7.cell 0;have g6:=g7.cell 1;have g8:=g7.frozen 0;have g9:=g7.frozen 1
 simp at g5 g6
 clear hc1 hf1;have hLa1:=hLa.below hB1;have hLb1:=hLb.below hB1;go_wp2_with fail
 go_region_held3 (fun w'=>w'.cell? ⟨w.heap.size,0,none⟩ = some (.bool na) /\ w'.cell? ⟨w.heap.size,1,none⟩ = some (.slice A n c) /\ w'.cell? ⟨w.heap.size + 1,0,none⟩ = some (.bool nb) /\ w'.cell? ⟨w.heap.size + 1,1,none⟩ = some (.slice B m d))
  (((try dsimp only);(repeat' apply And.intro);all_goals (first | go_keep | (simp [*,go_sem];done))))
  (first
   | (go_at_call 110;refine (Zqd _ _ _ _ _ _ _ _ _ (by exact hLa1) (by exact hLb1) (by omega) (by omega)).mono ?_;rintro e w2 ⟨A2,n2,c2,l2,rfl,hL2,hP2,hb2⟩;have k0:=Za hb2 g0;have k1:=Za hb2 g1;have j0:=Za hb2 g2;have k2:=Za hb2 g3;have k3:=Za hb2 g5;have k4:=Za hb2 g6;have k5:=Zh hb2 g5 g8;have k6:=Zh hb2 g6 g9;have k7:=Zc hb2 g7)
   | (go_at_call 109;refine (Zat _ _ _ _ _ _ (by exact hL2) (by have:=hL2.len;rw [hP2.1] at this;omega)).mono ?_;rintro e w3 ⟨hb3,neg3,A3,n3,c3,code3,rfl,hR3⟩;have m0:=Za hb3 k0;have m1:=Za hb3 k1;have i0:=Za hb3 j0;have m2:=Za hb3 k2;have m3:=Za hb3 k3;have m4:=Za hb3 k4;have m5:=Zh hb3 k3 k5;have m6:=Zh hb3 k4 k6;have m7:=Zc hb3 k7))
 have hB3 : Below w.heap.size w w3:=(hB1.trans ((Zo hb2).mono hB1.size)).trans (hb3.mono (Nat.le_trans hB1.size (Zo hb2).size))
 go_wp2
 have HZ : sg (na != nb) (val l2) = za * zb:=by
  have h1:=hza.out;have h2:=hzb.out;rw [hP2.2,Zuw,h1,h2]
 refine bodyPost_ret (v:=.tuple #[.agg #[.bool neg3,.slice A3 n3 c3],.int .i64 code3]) (by simp [results,Tryz.results59,go_sem,m3,m4]) rfl ?_;exact ResW.box (HZ ▸ hR3) hB3 (by omega) m7
theorem alloc5 (w : World) (t0 : TypeId) (c0 : Array Value) (t1 : TypeId) (c1 : Array Value) (t2 : TypeId) (c2 : Array Value) (t3 : TypeId) (c3 : Array Value) (t4 : TypeId) (c4 : Array Value) :
    ∃ W,((((w.alloc (.cells c0 t0)).alloc (.cells c1 t1)).alloc (.cells c2 t2)).alloc (.cells c3 t3)).alloc (.cells c4 t4) = W /\ Below w.heap.size w W /\ (Blk W w.heap.size t0 c0 /\ Blk W (w.heap.size + 1) t1 c1 /\ Blk W (w.heap.size + 1 + 1) t2 c2 /\ Blk W (w.heap.size + 1 + 1 + 1) t3 c3 /\ Blk W (w.heap.size + 1 + 1 + 1 + 1) t4 c4) /\ W.heap.size = w.heap.size + 1 + 1 + 1 + 1 + 1:=by
 obtain ⟨W,hW,h1,h2,h3⟩:=Ze0 w t0 c0 t1 c1 t2 c2 t3 c3;refine ⟨_,rfl,?_,⟨?_,?_,?_,?_,?_⟩,by rw [hW];simp [h3]⟩ <;> rw [hW]
 ·exact h1.alloc (by omega) _
 ·exact h2.1.alloc _
 ·exact h2.2.1.alloc _
 ·exact h2.2.2.1.alloc _
 ·exact h2.2.2.2.alloc _
 ·rw [<- h3];exact Blk.new _ _ _
theorem Zq3 (na nb : Bool) (A B : Option Addr) (n c m d : Nat) (za zb : Int) (w : World) (ha : Wd w na A n c za) (hb : Wd w nb B m d zb) :
    Calls Tryz.prog 62 #[.agg #[.bool na,.slice A n c],.agg #[.bool nb,.slice B m d]] w (ResW w (za + zb)):=by
 have hLa:=ha.lim;have hLb:=hb.lim;have hn:=ha.2.1;have hm:=hb.2.1;have hB0 : Below w.heap.size w (((w.alloc (.cells #[.bool na,.slice A n c] 27)).alloc (.cells #[.bool nb,.slice B m d] 27)).alloc (.cells #[.bool false,.slice none 0 0] 27)):=(((Below.refl w.heap.size w).alloc (Nat.le_refl _) _).alloc (by simp) _).alloc (by simp;omega) _;have hB0:=Zb hB0
 have hgood : Hid ((okW na (digits za.natAbs) && okW nb (digits zb.natAbs)) = true):=by unfold Hid;rw [ha.ok,hb.ok];rfl
 have hza:=Zb ha.sgEq;have hzb:=Zb hb.sgEq;have hlb:=Zb hb.lim.len;clear ha hb;go_enter Tryz.func62,Tryz.ntmps62;go_wp2_with fail;refine (Zdn (hLa.below hB0.out) (hLb.below hB0.out) hgood.out).mono ?_;rintro e w1 ⟨rfl,hb1⟩;obtain ⟨hc1,hf1⟩:=Zbm hb1
 have hz1 : w.heap.size + 1 + 1 < w1.heap.size:=by have:=hb1.size;simp at this;omega
 have hB1 : Below w.heap.size w w1:=hB0.out.trans (hb1.mono (by simp;omega))
 have g0 : w1.cell? ⟨w.heap.size,0,none⟩ = some (.bool na):=by simp [hc1,go_sem]
 have g1 : w1.cell? ⟨w.heap.size,1,none⟩ = some (.slice A n c):=by simp [hc1,go_sem]
 have g2 : w1.cell? ⟨w.heap.size + 1,0,none⟩ = some (.bool nb):=by simp [hc1,go_sem]
 have g3 : w1.cell? ⟨w.heap.size + 1,1,none⟩ = some (.slice B m d):=by simp [hc1,go_sem]
 have g7 : Blk w1 (w.heap.size + 1 + 1) 27 #[.bool false,.slice none 0 0]:=by
  refine Zc hb1 ?_;have:=Blk.new ((w.alloc (.cells #[.bool na,.slice A n c] 27)).alloc (.cells #[.bool nb,.slice B m d] 27)) 27 #[.bool false,.slice none 0 0];simp only [World.size_alloc] at this;exact this
 have g5:=g7.cell 0;have g6:=g7.cell 1;have g8:=g7.frozen 0;have g9:=g7.frozen 1
 simp at g5 g6
 clear hc1 hf1;have hLa1:=hLa.below hB1;have hLb1:=hLb.below hB1;go_wp2_with fail;refine (Zdq _ _ _ _ _ _ _ _ _ _ _ (by exact hLa1) (by exact hLb1) hn hm).mono ?_;rintro e w2 ⟨hb2,neg2,A2,n2,c2,code2,rfl,hR2⟩;have hB2 : Below w.heap.size w w2:=hB1.trans (hb2.mono hB1.size);have m7:=Zc hb2 g7;have m3:=m7.cell 0;have m4:=m7.cell 1;have m5:=m7.frozen 0;have m6:=m7.frozen 1
 simp at m3 m4
 have HM:=Zb m7;clear m7;go_wp2_with fail
 have HZ : sg na za.natAbs + sg nb zb.natAbs = za + zb:=by
  have h1:=hza.out;have h2:=hzb.out;rw [Zf] at h1 h2;rw [h1,h2]
 refine bodyPost_ret (v:=.tuple #[.agg #[.bool neg2,.slice A2 n2 c2],.int .i64 code2]) (by simp [results,Tryz.results62,go_sem,m3,m4]) rfl ?_;exact ResW.box (HZ ▸ hR2) hB2 (by omega) HM.out
theorem rSub_ok (na nb : Bool) (A B : Option Addr) (n c m d : Nat) (za zb : Int) (w : World) (ha : Wd w na A n c za) (hb : Wd w nb B m d zb) :
    Calls Tryz.prog 64 #[.agg #[.bool na,.slice A n c],.agg #[.bool nb,.slice B m d]] w (ResW w (za - zb)):=by
 have hLa:=ha.lim;have hLb:=hb.lim;have hn:=ha.2.1;have hm:=hb.2.1;have hB0 : Below w.heap.size w (((w.alloc (.cells #[.bool na,.slice A n c] 27)).alloc (.cells #[.bool nb,.slice B m d] 27)).alloc (.cells #[.bool false,.slice none 0 0] 27)):=(((Below.refl w.heap.size w).alloc (Nat.le_refl _) _).alloc (by simp) _).alloc (by simp;omega) _;have hB0:=Zb hB0
 have hgood : Hid ((okW na (digits za.natAbs) && okW nb (digits zb.natAbs)) = true):=by unfold Hid;rw [ha.ok,hb.ok];rfl
 have hza:=Zb ha.sgEq;have hzb:=Zb hb.sgEq;have hlb:=Zb hb.lim.len;clear ha hb;go_enter Tryz.func64,Tryz.ntmps64;go_wp2_with fail;refine (Zdn (hLa.below hB0.out) (hLb.below hB0.out) hgood.out).mono ?_;rintro e w1 ⟨rfl,hb1⟩;obtain ⟨hc1,hf1⟩:=Zbm hb1
 have hz1 : w.heap.size + 1 + 1 < w1.heap.size:=by have:=hb1.size;simp at this;omega
 have hB1 : Below w.heap.size w w1:=hB0.out.trans (hb1.mono (by simp;omega))
 have g0 : w1.cell? ⟨w.heap.size,0,none⟩ = some (.bool na):=by simp [hc1,go_sem]
 have g1 : w1.cell? ⟨w.heap.size,1,none⟩ = some (.slice A n c):=by simp [hc1,go_sem]
 have g2 : w1.cell? ⟨w.heap.size + 1,0,none⟩ = some (.bool nb):=by simp [hc1,go_sem]
 have g3 : w1.cell? ⟨w.heap.size + 1,1,none⟩ = some (.slice B m d):=by simp [hc1,go_sem]
 have g7 : Blk w1 (w.heap.size + 1 + 1) 27 #[.bool false,.slice none 0 0]:=by
  refine Zc hb1 ?_;have:=Blk.new ((w.alloc (.cells #[.bool na,.slice A n c] 27)).alloc (.cells #[.bool nb,.slice B m d] 27)) 27 #[.bool false,.slice none 0 0];simp only [World.size_alloc] at this;exact this
 have g5:=g7.cell 0;have g6:=g7.cell 1;have g8:=g7.frozen 0;have g9:=g7.frozen 1
 simp at g5 g6
 clear hc1 hf1;have hLa1:=hLa.below hB1;have hLb1:=hLb.below hB1
 by_cases hm0 : 0 < m
 ·have hd : decide (0 < m) = true:=by simpa using hm0
  cases nb
  ·go_wp2_with fail
   refine (Zdq _ _ _ _ _ _ _ _ _ _ _ (by exact hLa1) (by exact hLb1) hn hm).mono ?_;rintro e w2 ⟨hb2,neg2,A2,n2,c2,code2,rfl,hR2⟩;have hB2 : Below w.heap.size w w2:=hB1.trans (hb2.mono hB1.size);have m7:=Zc hb2 g7;have m3:=m7.cell 0;have m4:=m7.cell 1;have m5:=m7.frozen 0;have m6:=m7.frozen 1
   simp at m3 m4
   have HM:=Zb m7;clear m7;go_wp2_with fail
   have HZ : sg na za.natAbs + sg (true) zb.natAbs = za - zb:=by
    have h1:=hza.out;have h2:=hzb.out;rw [Zf] at h1 h2
    have h3 : sg (true) zb.natAbs = - zb:=by unfold sg at h2 ⊢;simp at h2 ⊢;omega
    rw [h1,h3];omega
   refine bodyPost_ret (v:=.tuple #[.agg #[.bool neg2,.slice A2 n2 c2],.int .i64 code2]) (by simp [results,Tryz.results64,go_sem,m3,m4]) rfl ?_;exact ResW.box (HZ ▸ hR2) hB2 (by omega) HM.out
  ·go_wp2_with fail
   refine (Zdq _ _ _ _ _ _ _ _ _ _ _ (by exact hLa1) (by exact hLb1) hn hm).mono ?_;rintro e w2 ⟨hb2,neg2,A2,n2,c2,code2,rfl,hR2⟩;have hB2 : Below w.heap.size w w2:=hB1.trans (hb2.mono hB1.size);have m7:=Zc hb2 g7;have m3:=m7.cell 0;have m4:=m7.cell 1;have m5:=m7.frozen 0;have m6:=m7.frozen 1
   simp at m3 m4
   have HM:=Zb m7;clear m7;go_wp2_with fail
   have HZ : sg na za.natAbs + sg (false) zb.natAbs = za - zb:=by
    have h1:=hza.out;have h2:=hzb.out;rw [Zf] at h1 h2
    have h3 : sg (false) zb.natAbs = - zb:=by unfold sg at h2 ⊢;simp at h2 ⊢;omega
    rw [h1,h3];omega
   refine bodyPost_ret (v:=.tuple #[.agg #[.bool neg2,.slice A2 n2 c2],.int .i64 code2]) (by simp [results,Tryz.results64,go_sem,m3,m4]) rfl ?_;exact ResW.box (HZ ▸ hR2) hB2 (by omega) HM.out
 ·obtain rfl : m = 0:=by omega
  have hz0 : zb.natAbs = 0:=by have:=hlb.out;exact digits_eq_nil.1 (List.eq_nil_of_length_eq_zero this)
  have hz0:=Zb hz0
  cases nb
  ·go_wp2_with fail
   refine (Zdq _ _ _ _ _ _ _ _ _ _ _ (by exact hLa1) (by exact hLb1) hn hm).mono ?_;rintro e w2 ⟨hb2,neg2,A2,n2,c2,code2,rfl,hR2⟩;have hB2 : Below w.heap.size w w2:=hB1.trans (hb2.mono hB1.size);have m7:=Zc hb2 g7;have m3:=m7.cell 0;have m4:=m7.cell 1;have m5:=m7.frozen 0;have m6:=m7.frozen 1
   simp at m3 m4
   have HM:=Zb m7;clear m7;go_wp2_with fail
   have HZ : sg na za.natAbs + sg (false) zb.natAbs = za - zb:=by
    have h1:=hza.out;have h2:=hzb.out;rw [Zf] at h1 h2
    have h3 : sg (false) zb.natAbs = - zb:=by have h4:=hz0.out;unfold sg;simp;omega
    rw [h1,h3];omega
   refine bodyPost_ret (v:=.tuple #[.agg #[.bool neg2,.slice A2 n2 c2],.int .i64 code2]) (by simp [results,Tryz.results64,go_sem,m3,m4]) rfl ?_;exact ResW.box (HZ ▸ hR2) hB2 (by omega) HM.out
  ·go_wp2_with fail
   refine (Zdq _ _ _ _ _ _ _ _ _ _ _ (by exact hLa1) (by exact hLb1) hn hm).mono ?_;rintro e w2 ⟨hb2,neg2,A2,n2,c2,code2,rfl,hR2⟩;have hB2 : Below w.heap.size w w2:=hB1.trans (hb2.mono hB1.size);have m7:=Zc hb2 g7;have m3:=m7.cell 0;have m4:=m7.cell 1;have m5:=m7.frozen 0;have m6:=m7.frozen 1
   simp at m3 m4
   have HM:=Zb m7;clear m7;go_wp2_with fail
   have HZ : sg na za.natAbs + sg (false) zb.natAbs = za - zb:=by
    have h1:=hza.out;have h2:=hzb.out;rw [Zf] at h1 h2
    have h3 : sg (false) zb.natAbs = - zb:=by have h4:=hz0.out;unfold sg;simp;omega
    rw [h1,h3];omega
   refine bodyPost_ret (v:=.tuple #[.agg #[.bool neg2,.slice A2 n2 c2],.int .i64 code2]) (by simp [results,Tryz.results64,go_sem,m3,m4]) rfl ?_;exact ResW.box (HZ ▸ hR2) hB2 (by omega) HM.out
end Go.Proofs.YtpehacgjclkhmaaGreat
