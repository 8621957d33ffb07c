/- Package planisphereref01: Mul. Reference of frac: product. -/
import Derived.Test.YtaioanjcjijckaaGreatZl25
set_option maxRecDepth 100000
set_option maxHeartbeats 1000000
set_option linter.unusedSimpArgs false
set_option linter.unusedVariables false
namespace Go.Proofs.YtaioanjcjijckaaGreat
open Go.RowKit
attribute [local go_sem] Zg
theorem Zgu (na nb : Bool) (A B : Option Addr) (n c m d : Nat) (za zb : Int) (w : World) (ha : Wd w na A n c za) (hb : Wd w nb B m d zb) :
    Calls Tryz.prog 70 #[.agg #[.bool na,.slice A n c],.agg #[.bool nb,.slice B m d]] w (ResW w (za * zb)):=by
 have hLa:=ha.lim;have hLb:=hb.lim;have hn:=ha.2.1;have hm:=hb.2.1;have hB0 : Below w.heap.size w (((w.alloc (.cells #[.bool na,.slice A n c] 27)).alloc (.cells #[.bool nb,.slice B m d] 27)).alloc (.cells #[.bool false,.slice none 0 0] 27)):=(((Below.refl w.heap.size w).alloc (Nat.le_refl _) _).alloc (by simp) _).alloc (by simp;omega) _;have hB0:=Za hB0
 have hgood : Hid ((okW na (digits za.natAbs) && okW nb (digits zb.natAbs)) = true):=by unfold Hid;rw [ha.ok,hb.ok];rfl
 have hza:=Za ha.sgEq;have hzb:=Za hb.sgEq;have hlb:=Za hb.lim.len;clear ha hb;go_enter Tryz.func70,Tryz.ntmps70;go_wp2_with fail;refine (Zdh (hLa.below hB0.out) (hLb.below hB0.out) hgood.out).mono ?_;rintro e w1 ⟨rfl,hb1⟩;obtain ⟨hc1,hf1⟩:=Zbd hb1
 have hz1 : w.heap.size + 1 + 1 < w1.heap.size:=by have:=hb1.size;simp at this;omega
 have hB1 : Below w.heap.size w w1:=hB0.out.trans (hb1.mono (by simp;omega))
 have g0 : w1.cell? ⟨w.heap.size,0,none⟩ = some (.bool na):=by simp [hc1,go_sem]
 have g1 : w1.cell? ⟨w.heap.size,1,none⟩ = some (.slice A n c):=by simp [hc1,go_sem]
 have g2 : w1.cell? ⟨w.heap.size + 1,0,none⟩ = some (.bool nb):=by simp [hc1,go_sem]
 have g3 : w1.cell? ⟨w.heap.size + 1,1,none⟩ = some (.slice B m d):=by simp [hc1,go_sem]
 have g7 : Blk w1 (w.heap.size + 1 + 1) 27 #[.bool false,.slice none 0 0]:=by
  refine Zb hb1 ?_;have:=Blk.new ((w.alloc (.cells #[.bool na,.slice A n c] 27)).alloc (.cells #[.bool nb,.slice B m d] 27)) 27 #[.bool false,.slice none 0 0];simp only [World.size_alloc] at this;exact this
 have g5:=g7.cell 0;have g6:=g7.cell 1;have g8:=g7.frozen 0;have g9:=g7.frozen 1
 simp at g5 g6
 clear hc1 hf1;have hLa1:=hLa.below hB1;have hLb1:=hLb.below hB1;go_wp2_with fail
 go_region_held3 (fun w'=>w'.cell? ⟨w.heap.size,0,none⟩ = some (.bool na) /\ w'.cell? ⟨w.heap.size,1,none⟩ = some (.slice A n c) /\ w'.cell? ⟨w.heap.size + 1,0,none⟩ = some (.bool nb) /\ w'.cell? ⟨w.heap.size + 1,1,none⟩ = some (.slice B m d))
  (((try dsimp only);(repeat' apply And.intro);all_goals (first | go_keep | (simp [*,go_sem];done))))
  (first
   | (go_at_call 133;refine (Zpq _ _ _ _ _ _ _ _ _ (by exact hLa1) (by exact hLb1) (by omega) (by omega)).mono ?_;rintro e w2 ⟨A2,n2,c2,l2,rfl,hL2,hP2,hb2⟩;have k0:=Zc hb2 g0;have k1:=Zc hb2 g1;have j0:=Zc hb2 g2;have k2:=Zc hb2 g3;have k3:=Zc hb2 g5;have k4:=Zc hb2 g6;have k5:=Zi hb2 g5 g8;have k6:=Zi hb2 g6 g9;have k7:=Zb hb2 g7)
   | (go_at_call 106;refine (Zaq _ _ _ _ _ _ (by exact hL2) (by have:=hL2.len;rw [hP2.1] at this;omega)).mono ?_;rintro e w3 ⟨hb3,neg3,A3,n3,c3,code3,rfl,hR3⟩;have m0:=Zc hb3 k0;have m1:=Zc hb3 k1;have i0:=Zc hb3 j0;have m2:=Zc hb3 k2;have m3:=Zc hb3 k3;have m4:=Zc hb3 k4;have m5:=Zi hb3 k3 k5;have m6:=Zi hb3 k4 k6;have m7:=Zb hb3 k7))
 have hB3 : Below w.heap.size w w3:=(hB1.trans ((Zq hb2).mono hB1.size)).trans (hb3.mono (Nat.le_trans hB1.size (Zq hb2).size))
 go_wp2
 have HZ : sg (na != nb) (val l2) = za * zb:=by
  have h1:=hza.out;have h2:=hzb.out;rw [hP2.2,Zto,h1,h2]
 refine bodyPost_ret (v:=.tuple #[.agg #[.bool neg3,.slice A3 n3 c3],.int .i64 code3]) (by simp [results,Tryz.results70,go_sem,m3,m4]) rfl ?_;exact ResW.box (HZ ▸ hR3) hB3 (by omega) m7
theorem alloc5 (w : World) (t0 : TypeId) (c0 : Array Value) (t1 : TypeId) (c1 : Array Value) (t2 : TypeId) (c2 : Array Value) (t3 : TypeId) (c3 : Array Value) (t4 : TypeId) (c4 : Array Value) :
    ∃ W,((((w.alloc (.cells c0 t0)).alloc (.cells c1 t1)).alloc (.cells c2 t2)).alloc (.cells c3 t3)).alloc (.cells c4 t4) = W /\ Below w.heap.size w W /\ (Blk W w.heap.size t0 c0 /\ Blk W (w.heap.size + 1) t1 c1 /\ Blk W (w.heap.size + 1 + 1) t2 c2 /\ Blk W (w.heap.size + 1 + 1 + 1) t3 c3 /\ Blk W (w.heap.size + 1 + 1 + 1 + 1) t4 c4) /\ W.heap.size = w.heap.size + 1 + 1 + 1 + 1 + 1:=by
 obtain ⟨W,hW,h1,h2,h3⟩:=Zf6 w t0 c0 t1 c1 t2 c2 t3 c3;refine ⟨_,rfl,?_,⟨?_,?_,?_,?_,?_⟩,by rw [hW];simp [h3]⟩ <;> rw [hW]
 ·exact h1.alloc (by omega) _
 ·exact h2.1.alloc _
 ·exact h2.2.1.alloc _
 ·exact h2.2.2.1.alloc _
 ·exact h2.2.2.2.alloc _
 ·rw [<- h3];exact Blk.new _ _ _
end Go.Proofs.YtaioanjcjijckaaGreat
