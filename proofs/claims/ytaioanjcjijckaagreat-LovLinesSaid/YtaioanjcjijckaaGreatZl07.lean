/- Package wide: add, Add, Sub, Mul, From. -/
import Derived.Deep.DeepFit
import Derived.Test.YtaioanjcjijckaaGreatZl06
set_option maxRecDepth 100000
set_option maxHeartbeats 1000000
set_option linter.unusedSimpArgs false
set_option linter.unusedVariables false
namespace Go.Proofs.YtaioanjcjijckaaGreat
open Go.RowKit
attribute [local go_sem] Zg
theorem Zq {B : Nat} {w w' : World} (h : Below B w.drew w') : Below B w w':=⟨h.os,h.tape,h.output,h.size,h.block⟩
theorem Zp1 (na nb : Bool) (A B : Option Addr) (n c m d : Nat) (va vb : Nat) (w : World) (ha : Lim w A n c (digits va)) (hb : Lim w B m d (digits vb)) (hn : n <= 4096) (hm : m <= 4096) :
    Calls Tryz.prog 194 #[.agg #[.bool na,.slice A n c],.agg #[.bool nb,.slice B m d]] w (ResW w (sg na va + sg nb vb)):=by
 obtain ⟨cv,hcv⟩ : ∃ x : Int,Za8 (digits va) (digits vb) = x:=⟨_,rfl⟩;have HC:=Za hcv
 have hge : 0 <= cv ↔ vb <= va:=by rw [<- hcv];exact Zew
 have hge:=Za hge
 by_cases hs : na = nb
 ·subst hs
  clear hcv
  have HZ : ∀ l : List Nat,val l = val (digits va) + val (digits vb) -> sg na (val l) = sg na va + sg na vb:=fun l h=>by rw [h,Zf,Zf,Zho]
  go_enter Tryz.func194,Tryz.ntmps194;go_wp2_with (go_at_call 154;refine (Zbf _ _ _ _ _ _ _ _ _ (((ha.alloc _).alloc _).alloc _) (((hb.alloc _).alloc _).alloc _)).mono ?_;rintro e w1 ⟨he1,hb1⟩;rw [HC.out] at he1;subst he1;obtain ⟨hc1,hf1⟩:=Zbd hb1;have hz1 : w.heap.size + 1 + 1 < w1.heap.size:=by (have:=hb1.size;simp at this;omega));have hB1 : Below w.heap.size w w1:=(((((Below.refl w.heap.size w).alloc (Nat.le_refl _) _).alloc (by simp) _).alloc (by simp;omega) _).trans (hb1.mono (by simp;omega)));have ha1:=ha.below hB1;have hb1':=hb.below hB1
  have g0 : w1.cell? ⟨w.heap.size,0,none⟩ = some (.bool na):=by simp [hc1,go_sem]
  have g1 : w1.cell? ⟨w.heap.size,1,none⟩ = some (.slice A n c):=by simp [hc1,go_sem]
  have f0 : w1.cell? ⟨w.heap.size + 1,0,none⟩ = some (.bool na):=by simp [hc1,go_sem]
  have g2 : w1.cell? ⟨w.heap.size + 1,1,none⟩ = some (.slice B m d):=by simp [hc1,go_sem]
  have g7 : Blk w1 (w.heap.size + 1 + 1) 27 #[.bool false,.slice none 0 0]:=by
   refine Zb hb1 ?_;have:=Blk.new ((w.alloc (.cells #[.bool na,.slice A n c] 27)).alloc (.cells #[.bool na,.slice B m d] 27)) 27 #[.bool false,.slice none 0 0];simp only [World.size_alloc] at this;exact this
  have g3:=g7.cell 0;have g4:=g7.cell 1;have g5:=g7.frozen 0;have g6:=g7.frozen 1
  simp at g3 g4
  go_region_held3 (fun w'=>w'.cell? ⟨w.heap.size,0,none⟩ = some (.bool na) /\ w'.cell? ⟨w.heap.size,1,none⟩ = some (.slice A n c) /\ w'.cell? ⟨w.heap.size + 1,0,none⟩ = some (.bool na) /\ w'.cell? ⟨w.heap.size + 1,1,none⟩ = some (.slice B m d))
   (((try dsimp only);(repeat' apply And.intro);all_goals (first | go_keep | (simp [*,go_sem];done))))
   (first
    | (go_at_call 153;refine (Zi1 _ _ _ _ _ _ _ _ _ (by exact ha1) (by exact hb1') (by omega) (by omega)).mono ?_;rintro e w2 ⟨A2,n2,c2,l2,rfl,hL2,hP2,hb2⟩;have k0:=Zc hb2 g0;have k1:=Zc hb2 g1;have j0:=Zc hb2 f0;have k2:=Zc hb2 g2;have k3:=Zc hb2 g3;have k4:=Zc hb2 g4;have k5:=Zi hb2 g3 g5;have k6:=Zi hb2 g4 g6;have k7:=Zb hb2 g7)
    | (go_at_call 155;refine (Za4 _ _ _ _ _ _ (by exact hL2)).mono ?_;rintro e w3 ⟨hb3,neg3,A3,n3,c3,code3,rfl,hR3⟩;have m0:=Zc hb3 k0;have m1:=Zc hb3 k1;have i0:=Zc hb3 j0;have m2:=Zc hb3 k2;have m3:=Zc hb3 k3;have m4:=Zc hb3 k4;have m5:=Zi hb3 k3 k5;have m6:=Zi hb3 k4 k6;have m7:=Zb hb3 k7))
  have hB3 : Below w.heap.size w w3:=(hB1.trans ((Zq hb2).mono hB1.size)).trans (hb3.mono (Nat.le_trans hB1.size (Zq hb2).size))
  go_wp2
  refine bodyPost_ret (v:=.tuple #[.agg #[.bool neg3,.slice A3 n3 c3],.int .i64 code3]) (by simp [results,Tryz.results194,go_sem,m3,m4]) rfl ?_;exact ResW.box (HZ l2 hP2.2 ▸ hR3) hB3 (by omega) m7
 ·have hne : (na == nb) = false:=by simpa using hs
  by_cases hcc : 0 <= cv
  ·have hvl:=hge.out.1 hcc
   have HLE : Hid (m <= n):=by have:=Zr hvl;rw [ha.len,hb.len] at this;exact this
   have HVL : Hid (val (digits vb) <= val (digits va)):=by rw [Zf,Zf];exact hvl
   have HZ : ∀ l : List Nat,val l + val (digits vb) = val (digits va) -> sg na (val l) = sg na va + sg nb vb:=fun l h=>Zdp hs (by rw [Zf,Zf] at h;exact h)
   clear hcv hvl hs;go_enter Tryz.func194,Tryz.ntmps194;go_wp2_with (go_at_call 154;refine (Zbf _ _ _ _ _ _ _ _ _ (((ha.alloc _).alloc _).alloc _) (((hb.alloc _).alloc _).alloc _)).mono ?_;rintro e w1 ⟨he1,hb1⟩;rw [HC.out] at he1;subst he1;obtain ⟨hc1,hf1⟩:=Zbd hb1;have hz1 : w.heap.size + 1 + 1 < w1.heap.size:=by (have:=hb1.size;simp at this;omega));have hB1 : Below w.heap.size w w1:=(((((Below.refl w.heap.size w).alloc (Nat.le_refl _) _).alloc (by simp) _).alloc (by simp;omega) _).trans (hb1.mono (by simp;omega)));have ha1:=ha.below hB1;have hb1':=hb.below hB1
   have g0 : w1.cell? ⟨w.heap.size,0,none⟩ = some (.bool na):=by simp [hc1,go_sem]
   have g1 : w1.cell? ⟨w.heap.size,1,none⟩ = some (.slice A n c):=by simp [hc1,go_sem]
   have f0 : w1.cell? ⟨w.heap.size + 1,0,none⟩ = some (.bool nb):=by simp [hc1,go_sem]
   have g2 : w1.cell? ⟨w.heap.size + 1,1,none⟩ = some (.slice B m d):=by simp [hc1,go_sem]
   have g7 : Blk w1 (w.heap.size + 1 + 1) 27 #[.bool false,.slice none 0 0]:=by
    refine Zb hb1 ?_;have:=Blk.new ((w.alloc (.cells #[.bool na,.slice A n c] 27)).alloc (.cells #[.bool nb,.slice B m d] 27)) 27 #[.bool false,.slice none 0 0];simp only [World.size_alloc] at this;exact this
   have g3:=g7.cell 0;have g4:=g7.cell 1;have g5:=g7.frozen 0;have g6:=g7.frozen 1
   simp at g3 g4
   go_region_held3 (fun w'=>w'.cell? ⟨w.heap.size,0,none⟩ = some (.bool na) /\ w'.cell? ⟨w.heap.size,1,none⟩ = some (.slice A n c) /\ w'.cell? ⟨w.heap.size + 1,0,none⟩ = some (.bool nb) /\ w'.cell? ⟨w.heap.size + 1,1,none⟩ = some (.slice B m d))
    (((try dsimp only);(repeat' apply And.intro);all_goals (first | go_keep | (simp [*,go_sem];done))))
    (first
     | (go_at_call 202;refine (Zhc _ _ _ _ _ _ _ _ _ (by exact ha1) (by exact hb1') HLE.out HVL.out (by omega)).mono ?_;rintro e w2 ⟨A2,n2,c2,l2,rfl,hL2,hP2,hb2⟩;have k0:=Zc hb2 g0;have k1:=Zc hb2 g1;have j0:=Zc hb2 f0;have k2:=Zc hb2 g2;have k3:=Zc hb2 g3;have k4:=Zc hb2 g4;have k5:=Zi hb2 g3 g5;have k6:=Zi hb2 g4 g6;have k7:=Zb hb2 g7)
     | (go_at_call 155;refine (Za4 _ _ _ _ _ _ (by exact hL2)).mono ?_;rintro e w3 ⟨hb3,neg3,A3,n3,c3,code3,rfl,hR3⟩;have m0:=Zc hb3 k0;have m1:=Zc hb3 k1;have i0:=Zc hb3 j0;have m2:=Zc hb3 k2;have m3:=Zc hb3 k3;have m4:=Zc hb3 k4;have m5:=Zi hb3 k3 k5;have m6:=Zi hb3 k4 k6;have m7:=Zb hb3 k7))
   have hB3 : Below w.heap.size w w3:=(hB1.trans ((Zq hb2).mono hB1.size)).trans (hb3.mono (Nat.le_trans hB1.size (Zq hb2).size))
   go_wp2
   refine bodyPost_ret (v:=.tuple #[.agg #[.bool neg3,.slice A3 n3 c3],.int .i64 code3]) (by simp [results,Tryz.results194,go_sem,m3,m4]) rfl ?_;exact ResW.box (HZ l2 hP2.2 ▸ hR3) hB3 (by omega) m7
  ·have hvl : va <= vb:=by
     rcases Nat.lt_or_ge vb va with h | h
     ·exact absurd (hge.out.2 (Nat.le_of_lt h)) hcc
     ·exact h
   have HLE : Hid (n <= m):=by have:=Zr hvl;rw [ha.len,hb.len] at this;exact this
   have HVL : Hid (val (digits va) <= val (digits vb)):=by rw [Zf,Zf];exact hvl
   have HZ : ∀ l : List Nat,val l + val (digits va) = val (digits vb) -> sg nb (val l) = sg na va + sg nb vb:=fun l h=>by rw [Int.add_comm];exact Zdp (Ne.symm hs) (by rw [Zf,Zf] at h;exact h)
   clear hcv hvl hs;go_enter Tryz.func194,Tryz.ntmps194;go_wp2_with (go_at_call 154;refine (Zbf _ _ _ _ _ _ _ _ _ (((ha.alloc _).alloc _).alloc _) (((hb.alloc _).alloc _).alloc _)).mono ?_;rintro e w1 ⟨he1,hb1⟩;rw [HC.out] at he1;subst he1;obtain ⟨hc1,hf1⟩:=Zbd hb1;have hz1 : w.heap.size + 1 + 1 < w1.heap.size:=by (have:=hb1.size;simp at this;omega));have hB1 : Below w.heap.size w w1:=(((((Below.refl w.heap.size w).alloc (Nat.le_refl _) _).alloc (by simp) _).alloc (by simp;omega) _).trans (hb1.mono (by simp;omega)));have ha1:=ha.below hB1;have hb1':=hb.below hB1
   have g0 : w1.cell? ⟨w.heap.size,0,none⟩ = some (.bool na):=by simp [hc1,go_sem]
   have g1 : w1.cell? ⟨w.heap.size,1,none⟩ = some (.slice A n c):=by simp [hc1,go_sem]
   have f0 : w1.cell? ⟨w.heap.size + 1,0,none⟩ = some (.bool nb):=by simp [hc1,go_sem]
   have g2 : w1.cell? ⟨w.heap.size + 1,1,none⟩ = some (.slice B m d):=by simp [hc1,go_sem]
   have g7 : Blk w1 (w.heap.size + 1 + 1) 27 #[.bool false,.slice none 0 0]:=by
    refine Zb hb1 ?_;have:=Blk.new ((w.alloc (.cells #[.bool na,.slice A n c] 27)).alloc (.cells #[.bool nb,.slice B m d] 27)) 27 #[.bool false,.slice none 0 0];simp only [World.size_alloc] at this;exact this
   have g3:=g7.cell 0;have g4:=g7.cell 1;have g5:=g7.frozen 0;have g6:=g7.frozen 1
   simp at g3 g4
   go_region_held3 (fun w'=>w'.cell? ⟨w.heap.size,0,none⟩ = some (.bool na) /\ w'.cell? ⟨w.heap.size,1,none⟩ = some (.slice A n c) /\ w'.cell? ⟨w.heap.size + 1,0,none⟩ = some (.bool nb) /\ w'.cell? ⟨w.heap.size + 1,1,none⟩ = some (.slice B m d))
    (((try dsimp only);(repeat' apply And.intro);all_goals (first | go_keep | (simp [*,go_sem];done))))
    (first
     | (go_at_call 202;refine (Zhc _ _ _ _ _ _ _ _ _ (by exact hb1') (by exact ha1) HLE.out HVL.out (by omega)).mono ?_;rintro e w2 ⟨A2,n2,c2,l2,rfl,hL2,hP2,hb2⟩;have k0:=Zc hb2 g0;have k1:=Zc hb2 g1;have j0:=Zc hb2 f0;have k2:=Zc hb2 g2;have k3:=Zc hb2 g3;have k4:=Zc hb2 g4;have k5:=Zi hb2 g3 g5;have k6:=Zi hb2 g4 g6;have k7:=Zb hb2 g7)
     | (go_at_call 155;refine (Za4 _ _ _ _ _ _ (by exact hL2)).mono ?_;rintro e w3 ⟨hb3,neg3,A3,n3,c3,code3,rfl,hR3⟩;have m0:=Zc hb3 k0;have m1:=Zc hb3 k1;have i0:=Zc hb3 j0;have m2:=Zc hb3 k2;have m3:=Zc hb3 k3;have m4:=Zc hb3 k4;have m5:=Zi hb3 k3 k5;have m6:=Zi hb3 k4 k6;have m7:=Zb hb3 k7))
   have hB3 : Below w.heap.size w w3:=(hB1.trans ((Zq hb2).mono hB1.size)).trans (hb3.mono (Nat.le_trans hB1.size (Zq hb2).size))
   go_wp2
   refine bodyPost_ret (v:=.tuple #[.agg #[.bool neg3,.slice A3 n3 c3],.int .i64 code3]) (by simp [results,Tryz.results194,go_sem,m3,m4]) rfl ?_;exact ResW.box (HZ l2 hP2.2 ▸ hR3) hB3 (by omega) m7
end Go.Proofs.YtaioanjcjijckaaGreat
