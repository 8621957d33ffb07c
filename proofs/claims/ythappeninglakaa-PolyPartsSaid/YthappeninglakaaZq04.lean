/- The reference of layer 1: both, sum, Add, Sub, Mul. -/
import Derived.Test.YthappeninglakaaZq03
set_option maxRecDepth 100000
set_option maxHeartbeats 2000000
set_option linter.unusedSimpArgs false
set_option linter.unusedVariables false
namespace Go.Proofs.Ythappeninglakaa
open Go.RowKit
attribute [local go_sem] Zj
theorem Zgo {neg : Bool} {A : Option Addr} {n c : Nat} {l : List Nat} {w : World} (h : Lim w A n c l) (hk : okW neg l = true) :
    Calls Try.prog 40 #[.agg #[.bool neg,.slice A n c]] w fun e w'=>e = .returned (.int .i64 0) /\ Below w.heap.size w w':=
 (Zff neg A n c l w h).mono fun _ _ ⟨he,hb⟩=>⟨by rw [he,hk];rfl,hb⟩
theorem Zd5 {na nb : Bool} {A B : Option Addr} {n c m d : Nat} {la lb : List Nat} {w : World} (hLa : Lim w A n c la) (hLb : Lim w B m d lb) (hk : (okW na la && okW nb lb) = true) :
    Calls Try.prog 67 #[.agg #[.bool na,.slice A n c],.agg #[.bool nb,.slice B m d]] w fun e w'=>e = .returned (.int .i64 0) /\ Below w.heap.size w w':=by
 have hB0 : Below w.heap.size w ((w.alloc (.cells #[.bool na,.slice A n c] 26)).alloc (.cells #[.bool nb,.slice B m d] 26)):=((Below.refl w.heap.size w).alloc (Nat.le_refl _) _).alloc (by simp) _
 obtain ⟨ka,kb⟩ : okW na la = true /\ okW nb lb = true:=by simpa using hk
 go_enter Try.func67,Try.ntmps67;go_wp2_with fail;refine (Zgo (hLa.below hB0) (by first | assumption | simp_all)).mono ?_;rintro e w1 ⟨rfl,hb1⟩;obtain ⟨hc1,hf1⟩:=Zca hb1
 have hz1 : w.heap.size + 1 < w1.heap.size:=by have:=hb1.size;simp at this;omega
 have hB1 : Below w.heap.size w w1:=hB0.trans (hb1.mono (by simp;omega))
 have g0 : w1.cell? ⟨w.heap.size,0,none⟩ = some (.bool na):=by simp [hc1,go_sem]
 have g1 : w1.cell? ⟨w.heap.size,1,none⟩ = some (.slice A n c):=by simp [hc1,go_sem]
 have g2 : w1.cell? ⟨w.heap.size + 1,0,none⟩ = some (.bool nb):=by simp [hc1,go_sem]
 have g3 : w1.cell? ⟨w.heap.size + 1,1,none⟩ = some (.slice B m d):=by simp [hc1,go_sem]
 clear hc1 hf1;go_wp2_with fail;refine (Zgo (hLb.below hB1) (by first | assumption | simp_all)).mono ?_;rintro e w2 ⟨rfl,hb2⟩;go_wp2_with fail;go_ret;exact ⟨rfl,hB1.trans (hb2.mono hB1.size)⟩
theorem Zea (na nb : Bool) (A B : Option Addr) (n c m d : Nat) (va vb : Nat) (w : World) (ha : Lim w A n c (digits va)) (hb : Lim w B m d (digits vb)) (hn : n <= 4096) (hm : m <= 4096) :
    Calls Try.prog 69 #[.agg #[.bool na,.slice A n c],.agg #[.bool nb,.slice B m d]] w (ResW w (sg na va + sg nb vb)):=by
 have hB0 : Below w.heap.size w (((w.alloc (.cells #[.bool na,.slice A n c] 26)).alloc (.cells #[.bool nb,.slice B m d] 26)).alloc (.cells #[.bool false,.slice none 0 0] 26)):=(((Below.refl w.heap.size w).alloc (Nat.le_refl _) _).alloc (by simp) _).alloc (by simp;omega) _;have hB0:=Zb hB0;obtain ⟨cv,hcv⟩ : ∃ x : Int,Zce (digits va) (digits vb) = x:=⟨_,rfl⟩;have HC:=Zb hcv
 have hge : 0 <= cv ↔ vb <= va:=by rw [<- hcv];exact Zfq
 have hge:=Zb hge;have HLA:=Zb ha.len;have HLB:=Zb hb.len
 by_cases hs : na = nb
 ·subst hs
  clear hcv
  have HZZ : ∀ l : List Nat,val l = val (digits va) + val (digits vb) -> sg na (val l) = sg na va + sg na vb:=fun l h=>by rw [h,Zg,Zg,Ziq]
  go_enter Try.func69,Try.ntmps69;go_wp2_with fail;have hB1 : Below w.heap.size w (((w.alloc (.cells #[.bool na,.slice A n c] 26)).alloc (.cells #[.bool na,.slice B m d] 26)).alloc (.cells #[.bool false,.slice none 0 0] 26)):=(((Below.refl w.heap.size w).alloc (Nat.le_refl _) _).alloc (by simp) _).alloc (by simp;omega) _;have ha1:=ha.below hB1;have hb1':=hb.below hB1
  have g7 : Blk (((w.alloc (.cells #[.bool na,.slice A n c] 26)).alloc (.cells #[.bool na,.slice B m d] 26)).alloc (.cells #[.bool false,.slice none 0 0] 26)) (w.heap.size + 1 + 1) 26 #[.bool false,.slice none 0 0]:=by
   have:=Blk.new ((w.alloc (.cells #[.bool na,.slice A n c] 26)).alloc (.cells #[.bool na,.slice B m d] 26)) 26 #[.bool false,.slice none 0 0];simp only [World.size_alloc] at this;exact this
  generalize hWW : (((w.alloc (.cells #[.bool na,.slice A n c] 26)).alloc (.cells #[.bool na,.slice B m d] 26)).alloc (.cells #[.bool false,.slice none 0 0] 26)) = w1 at *
  have g0 : w1.cell? ⟨w.heap.size,0,none⟩ = some (.bool na):=by rw [<- hWW];simp [go_sem]
  have g1 : w1.cell? ⟨w.heap.size,1,none⟩ = some (.slice A n c):=by rw [<- hWW];simp [go_sem]
  have g2 : w1.cell? ⟨w.heap.size + 1,0,none⟩ = some (.bool na):=by rw [<- hWW];simp [go_sem]
  have g3 : w1.cell? ⟨w.heap.size + 1,1,none⟩ = some (.slice B m d):=by rw [<- hWW];simp [go_sem]
  have hz1 : w.heap.size + 1 + 1 < w1.heap.size:=by rw [<- hWW];simp
  clear hWW;have g5:=g7.cell 0;have g6:=g7.cell 1;have g8:=g7.frozen 0;have g9:=g7.frozen 1
  simp at g5 g6
  go_region_held3 (fun w'=>w'.cell? ⟨w.heap.size,0,none⟩ = some (.bool na) /\ w'.cell? ⟨w.heap.size,1,none⟩ = some (.slice A n c) /\ w'.cell? ⟨w.heap.size + 1,0,none⟩ = some (.bool na) /\ w'.cell? ⟨w.heap.size + 1,1,none⟩ = some (.slice B m d))
   (((try dsimp only);(repeat' apply And.intro);all_goals (first | go_keep | (simp [*,go_sem];done))))
   (first
    | (go_at_call 83;refine (Zr8 _ _ _ _ _ _ _ _ _ (by exact ha1) (by exact hb1') (by omega) (by omega)).mono ?_;rintro e w2 ⟨A2,n2,c2,l2,rfl,hL2,hP2,hb2⟩;have k0:=Za hb2 g0;have k1:=Za hb2 g1;have j0:=Za hb2 g2;have k2:=Za hb2 g3;have k3:=Za hb2 g5;have k4:=Za hb2 g6;have k5:=Zi hb2 g5 g8;have k6:=Zi hb2 g6 g9;have k7:=Zd hb2 g7)
    | (go_at_call 66;refine (Zax _ _ _ _ _ _ (by exact hL2) (by have:=hL2.len;rw [hP2.1] at this;omega)).mono ?_;rintro e w3 ⟨hb3,neg3,A3,n3,c3,code3,rfl,hR3⟩;have m0:=Za hb3 k0;have m1:=Za hb3 k1;have i0:=Za hb3 j0;have m2:=Za hb3 k2;have m3:=Za hb3 k3;have m4:=Za hb3 k4;have m5:=Zi hb3 k3 k5;have m6:=Zi hb3 k4 k6;have m7:=Zd hb3 k7))
  have hB3 : Below w.heap.size w w3:=(hB1.trans ((Zm hb2).mono hB1.size)).trans (hb3.mono (Nat.le_trans hB1.size (Zm hb2).size))
  go_wp2
  have HZ:=HZZ l2 hP2.2;refine bodyPost_ret (v:=.tuple #[.agg #[.bool neg3,.slice A3 n3 c3],.int .i64 code3]) (by simp [results,Try.results69,go_sem,m3,m4]) rfl ?_;exact ResW.box (HZ ▸ hR3) hB3 (by omega) m7
 ·have hne : (na == nb) = false:=by simpa using hs
  by_cases hcc : 0 <= cv
  ·have hvl:=hge.out.1 hcc
   have HLE : Hid (m <= n):=by have:=Zy hvl;rw [ha.len,hb.len] at this;exact this
   have HVL : Hid (val (digits vb) <= val (digits va)):=by rw [Zg,Zg];exact hvl
   have HZZ : ∀ l : List Nat,l = digits (val (digits va) - val (digits vb)) -> sg na (val l) = sg na va + sg nb vb:=fun l h=>Zeh hs (by rw [h,Zg,Zg,Zg];omega)
   have HLL : Hid ((digits (val (digits va) - val (digits vb))).length <= 4096):=by
    have:=Zy (show val (digits va) - val (digits vb) <= va by rw [Zg,Zg];omega);rw [HLA.out] at this;exact Nat.le_trans this hn
   clear hcv hvl hs;go_enter Try.func69,Try.ntmps69;go_wp2_with fail;refine (Zcm _ _ _ _ _ _ _ _ _ (ha.below hB0.out) (hb.below hB0.out)).mono ?_;rintro e w1 ⟨he1,hb1⟩;rw [HC.out] at he1;subst he1;obtain ⟨hc1,hf1⟩:=Zca hb1
   have hz1 : w.heap.size + 1 + 1 < w1.heap.size:=by have:=hb1.size;simp at this;omega
   have hB1 : Below w.heap.size w w1:=hB0.out.trans (hb1.mono (by simp;omega))
   have g0 : w1.cell? ⟨w.heap.size,0,none⟩ = some (.bool na):=by simp [hc1,go_sem]
   have g1 : w1.cell? ⟨w.heap.size,1,none⟩ = some (.slice A n c):=by simp [hc1,go_sem]
   have g2 : w1.cell? ⟨w.heap.size + 1,0,none⟩ = some (.bool nb):=by simp [hc1,go_sem]
   have g3 : w1.cell? ⟨w.heap.size + 1,1,none⟩ = some (.slice B m d):=by simp [hc1,go_sem]
   have g7 : Blk w1 (w.heap.size + 1 + 1) 26 #[.bool false,.slice none 0 0]:=by
    refine Zd hb1 ?_;have:=Blk.new ((w.alloc (.cells #[.bool na,.slice A n c] 26)).alloc (.cells #[.bool nb,.slice B m d] 26)) 26 #[.bool false,.slice none 0 0];simp only [World.size_alloc] at this;exact this
   have g5:=g7.cell 0;have g6:=g7.cell 1;have g8:=g7.frozen 0;have g9:=g7.frozen 1
   simp at g5 g6
   clear hc1 hf1;have ha1:=ha.below hB1;have hb1':=hb.below hB1;go_wp2_with fail
   go_region_held3 (fun w'=>w'.cell? ⟨w.heap.size,0,none⟩ = some (.bool na) /\ w'.cell? ⟨w.heap.size,1,none⟩ = some (.slice A n c) /\ w'.cell? ⟨w.heap.size + 1,0,none⟩ = some (.bool nb) /\ w'.cell? ⟨w.heap.size + 1,1,none⟩ = some (.slice B m d))
    (((try dsimp only);(repeat' apply And.intro);all_goals (first | go_keep | (simp [*,go_sem];done))))
    (first
     | (go_at_call 84;refine (Zks _ _ _ _ _ _ _ _ _ (by exact ha1) (by exact hb1') HLE.out HVL.out (by omega)).mono ?_;rintro e w2 ⟨A2,n2,c2,l2,rfl,hL2,hP2,hb2⟩;have k0:=Za hb2 g0;have k1:=Za hb2 g1;have j0:=Za hb2 g2;have k2:=Za hb2 g3;have k3:=Za hb2 g5;have k4:=Za hb2 g6;have k5:=Zi hb2 g5 g8;have k6:=Zi hb2 g6 g9;have k7:=Zd hb2 g7)
     | (go_at_call 66;refine (Zax _ _ _ _ _ _ (by exact hL2) (by have h1:=hL2.len;rw [hP2] at h1;have h2:=HLL.out;omega)).mono ?_;rintro e w3 ⟨hb3,neg3,A3,n3,c3,code3,rfl,hR3⟩;have m0:=Za hb3 k0;have m1:=Za hb3 k1;have i0:=Za hb3 j0;have m2:=Za hb3 k2;have m3:=Za hb3 k3;have m4:=Za hb3 k4;have m5:=Zi hb3 k3 k5;have m6:=Zi hb3 k4 k6;have m7:=Zd hb3 k7))
   have hB3 : Below w.heap.size w w3:=(hB1.trans ((Zm hb2).mono hB1.size)).trans (hb3.mono (Nat.le_trans hB1.size (Zm hb2).size))
   go_wp2
   have HZ:=HZZ l2 hP2;refine bodyPost_ret (v:=.tuple #[.agg #[.bool neg3,.slice A3 n3 c3],.int .i64 code3]) (by simp [results,Try.results69,go_sem,m3,m4]) rfl ?_;exact ResW.box (HZ ▸ hR3) hB3 (by omega) m7
  ·have hvl : va <= vb:=by
     rcases Nat.lt_or_ge vb va with h | h
     ·exact absurd (hge.out.2 (Nat.le_of_lt h)) hcc
     ·exact h
   have HLE : Hid (n <= m):=by have:=Zy hvl;rw [ha.len,hb.len] at this;exact this
   have HVL : Hid (val (digits va) <= val (digits vb)):=by rw [Zg,Zg];exact hvl
   have HZZ : ∀ l : List Nat,l = digits (val (digits vb) - val (digits va)) -> sg nb (val l) = sg na va + sg nb vb:=fun l h=>by rw [Int.add_comm];exact Zeh (Ne.symm hs) (by rw [h,Zg,Zg,Zg];omega)
   have HLL : Hid ((digits (val (digits vb) - val (digits va))).length <= 4096):=by
    have:=Zy (show val (digits vb) - val (digits va) <= vb by rw [Zg,Zg];omega);rw [HLB.out] at this;exact Nat.le_trans this hm
   clear hcv hvl hs;go_enter Try.func69,Try.ntmps69;go_wp2_with fail;refine (Zcm _ _ _ _ _ _ _ _ _ (ha.below hB0.out) (hb.below hB0.out)).mono ?_;rintro e w1 ⟨he1,hb1⟩;rw [HC.out] at he1;subst he1;obtain ⟨hc1,hf1⟩:=Zca hb1
   have hz1 : w.heap.size + 1 + 1 < w1.heap.size:=by have:=hb1.size;simp at this;omega
   have hB1 : Below w.heap.size w w1:=hB0.out.trans (hb1.mono (by simp;omega))
   have g0 : w1.cell? ⟨w.heap.size,0,none⟩ = some (.bool na):=by simp [hc1,go_sem]
   have g1 : w1.cell? ⟨w.heap.size,1,none⟩ = some (.slice A n c):=by simp [hc1,go_sem]
   have g2 : w1.cell? ⟨w.heap.size + 1,0,none⟩ = some (.bool nb):=by simp [hc1,go_sem]
   have g3 : w1.cell? ⟨w.heap.size + 1,1,none⟩ = some (.slice B m d):=by simp [hc1,go_sem]
   have g7 : Blk w1 (w.heap.size + 1 + 1) 26 #[.bool false,.slice none 0 0]:=by
    refine Zd hb1 ?_;have:=Blk.new ((w.alloc (.cells #[.bool na,.slice A n c] 26)).alloc (.cells #[.bool nb,.slice B m d] 26)) 26 #[.bool false,.slice none 0 0];simp only [World.size_alloc] at this;exact this
   have g5:=g7.cell 0;have g6:=g7.cell 1;have g8:=g7.frozen 0;have g9:=g7.frozen 1
   simp at g5 g6
   clear hc1 hf1;have ha1:=ha.below hB1;have hb1':=hb.below hB1;go_wp2_with fail
   go_region_held3 (fun w'=>w'.cell? ⟨w.heap.size,0,none⟩ = some (.bool na) /\ w'.cell? ⟨w.heap.size,1,none⟩ = some (.slice A n c) /\ w'.cell? ⟨w.heap.size + 1,0,none⟩ = some (.bool nb) /\ w'.cell? ⟨w.heap.size + 1,1,none⟩ = some (.slice B m d))
    (((try dsimp only);(repeat' apply And.intro);all_goals (first | go_keep | (simp [*,go_sem];done))))
    (first
     | (go_at_call 84;refine (Zks _ _ _ _ _ _ _ _ _ (by exact hb1') (by exact ha1) HLE.out HVL.out (by omega)).mono ?_;rintro e w2 ⟨A2,n2,c2,l2,rfl,hL2,hP2,hb2⟩;have k0:=Za hb2 g0;have k1:=Za hb2 g1;have j0:=Za hb2 g2;have k2:=Za hb2 g3;have k3:=Za hb2 g5;have k4:=Za hb2 g6;have k5:=Zi hb2 g5 g8;have k6:=Zi hb2 g6 g9;have k7:=Zd hb2 g7)
     | (go_at_call 66;refine (Zax _ _ _ _ _ _ (by exact hL2) (by have h1:=hL2.len;rw [hP2] at h1;have h2:=HLL.out;omega)).mono ?_;rintro e w3 ⟨hb3,neg3,A3,n3,c3,code3,rfl,hR3⟩;have m0:=Za hb3 k0;have m1:=Za hb3 k1;have i0:=Za hb3 j0;have m2:=Za hb3 k2;have m3:=Za hb3 k3;have m4:=Za hb3 k4;have m5:=Zi hb3 k3 k5;have m6:=Zi hb3 k4 k6;have m7:=Zd hb3 k7))
   have hB3 : Below w.heap.size w w3:=(hB1.trans ((Zm hb2).mono hB1.size)).trans (hb3.mono (Nat.le_trans hB1.size (Zm hb2).size))
   go_wp2
   have HZ:=HZZ l2 hP2;refine bodyPost_ret (v:=.tuple #[.agg #[.bool neg3,.slice A3 n3 c3],.int .i64 code3]) (by simp [results,Try.results69,go_sem,m3,m4]) rfl ?_;exact ResW.box (HZ ▸ hR3) hB3 (by omega) m7
theorem Zdf (na nb : Bool) (A B : Option Addr) (n c m d : Nat) (za zb : Int) (w : World) (ha : Wd w na A n c za) (hb : Wd w nb B m d zb) :
    Calls Try.prog 49 #[.agg #[.bool na,.slice A n c],.agg #[.bool nb,.slice B m d]] w (ResW w (za * zb)):=by
 have hLa:=ha.lim;have hLb:=hb.lim;have hn:=ha.2.1;have hm:=hb.2.1;have hB0 : Below w.heap.size w (((w.alloc (.cells #[.bool na,.slice A n c] 26)).alloc (.cells #[.bool nb,.slice B m d] 26)).alloc (.cells #[.bool false,.slice none 0 0] 26)):=(((Below.refl w.heap.size w).alloc (Nat.le_refl _) _).alloc (by simp) _).alloc (by simp;omega) _;have hB0:=Zb hB0
 have hgood : Hid ((okW na (digits za.natAbs) && okW nb (digits zb.natAbs)) = true):=by unfold Hid;rw [ha.ok,hb.ok];rfl
 have hza:=Zb ha.sgEq;have hzb:=Zb hb.sgEq;have hlb:=Zb hb.lim.len;clear ha hb;go_enter Try.func49,Try.ntmps49;go_wp2_with fail;refine (Zd5 (hLa.below hB0.out) (hLb.below hB0.out) hgood.out).mono ?_;rintro e w1 ⟨rfl,hb1⟩;obtain ⟨hc1,hf1⟩:=Zca hb1
 have hz1 : w.heap.size + 1 + 1 < w1.heap.size:=by have:=hb1.size;simp at this;omega
 have hB1 : Below w.heap.size w w1:=hB0.out.trans (hb1.mono (by simp;omega))
 have g0 : w1.cell? ⟨w.heap.size,0,none⟩ = some (.bool na):=by simp [hc1,go_sem]
 have g1 : w1.cell? ⟨w.heap.size,1,none⟩ = some (.slice A n c):=by simp [hc1,go_sem]
 have g2 : w1.cell? ⟨w.heap.size + 1,0,none⟩ = some (.bool nb):=by simp [hc1,go_sem]
 have g3 : w1.cell? ⟨w.heap.size + 1,1,none⟩ = some (.slice B m d):=by simp [hc1,go_sem]
 have g7 : Blk w1 (w.heap.size + 1 + 1) 26 #[.bool false,.slice none 0 0]:=by
  refine Zd hb1 ?_;have:=Blk.new ((w.alloc (.cells #[.bool na,.slice A n c] 26)).alloc (.cells #[.bool nb,.slice B m d] 26)) 26 #[.bool false,.slice none 0 0];simp only [World.size_alloc] at this;exact this
 have g5:=g7.cell 0;have g6:=g7.cell 1;have g8:=g7.frozen 0;have g9:=g7.frozen 1
 simp at g5 g6
 clear hc1 hf1;have hLa1:=hLa.below hB1;have hLb1:=hLb.below hB1;go_wp2_with fail
 go_region_held3 (fun w'=>w'.cell? ⟨w.heap.size,0,none⟩ = some (.bool na) /\ w'.cell? ⟨w.heap.size,1,none⟩ = some (.slice A n c) /\ w'.cell? ⟨w.heap.size + 1,0,none⟩ = some (.bool nb) /\ w'.cell? ⟨w.heap.size + 1,1,none⟩ = some (.slice B m d))
  (((try dsimp only);(repeat' apply And.intro);all_goals (first | go_keep | (simp [*,go_sem];done))))
  (first
   | (go_at_call 68;refine (Zpq _ _ _ _ _ _ _ _ _ (by exact hLa1) (by exact hLb1) (by omega) (by omega)).mono ?_;rintro e w2 ⟨A2,n2,c2,l2,rfl,hL2,hP2,hb2⟩;have k0:=Za hb2 g0;have k1:=Za hb2 g1;have j0:=Za hb2 g2;have k2:=Za hb2 g3;have k3:=Za hb2 g5;have k4:=Za hb2 g6;have k5:=Zi hb2 g5 g8;have k6:=Zi hb2 g6 g9;have k7:=Zd hb2 g7)
   | (go_at_call 66;refine (Zax _ _ _ _ _ _ (by exact hL2) (by have:=hL2.len;rw [hP2.1] at this;omega)).mono ?_;rintro e w3 ⟨hb3,neg3,A3,n3,c3,code3,rfl,hR3⟩;have m0:=Za hb3 k0;have m1:=Za hb3 k1;have i0:=Za hb3 j0;have m2:=Za hb3 k2;have m3:=Za hb3 k3;have m4:=Za hb3 k4;have m5:=Zi hb3 k3 k5;have m6:=Zi hb3 k4 k6;have m7:=Zd hb3 k7))
 have hB3 : Below w.heap.size w w3:=(hB1.trans ((Zm hb2).mono hB1.size)).trans (hb3.mono (Nat.le_trans hB1.size (Zm hb2).size))
 go_wp2
 have HZ : sg (na != nb) (val l2) = za * zb:=by
  have h1:=hza.out;have h2:=hzb.out;rw [hP2.2,Ztt,h1,h2]
 refine bodyPost_ret (v:=.tuple #[.agg #[.bool neg3,.slice A3 n3 c3],.int .i64 code3]) (by simp [results,Try.results49,go_sem,m3,m4]) rfl ?_;exact ResW.box (HZ ▸ hR3) hB3 (by omega) m7
theorem Zp2 (na nb : Bool) (A B : Option Addr) (n c m d : Nat) (za zb : Int) (w : World) (ha : Wd w na A n c za) (hb : Wd w nb B m d zb) :
    Calls Try.prog 50 #[.agg #[.bool na,.slice A n c],.agg #[.bool nb,.slice B m d]] w (ResW w (za - zb)):=by
 have hLa:=ha.lim;have hLb:=hb.lim;have hn:=ha.2.1;have hm:=hb.2.1;have hB0 : Below w.heap.size w (((w.alloc (.cells #[.bool na,.slice A n c] 26)).alloc (.cells #[.bool nb,.slice B m d] 26)).alloc (.cells #[.bool false,.slice none 0 0] 26)):=(((Below.refl w.heap.size w).alloc (Nat.le_refl _) _).alloc (by simp) _).alloc (by simp;omega) _;have hB0:=Zb hB0
 have hgood : Hid ((okW na (digits za.natAbs) && okW nb (digits zb.natAbs)) = true):=by unfold Hid;rw [ha.ok,hb.ok];rfl
 have hza:=Zb ha.sgEq;have hzb:=Zb hb.sgEq;have hlb:=Zb hb.lim.len;clear ha hb;go_enter Try.func50,Try.ntmps50;go_wp2_with fail;refine (Zd5 (hLa.below hB0.out) (hLb.below hB0.out) hgood.out).mono ?_;rintro e w1 ⟨rfl,hb1⟩;obtain ⟨hc1,hf1⟩:=Zca hb1
 have hz1 : w.heap.size + 1 + 1 < w1.heap.size:=by have:=hb1.size;simp at this;omega
 have hB1 : Below w.heap.size w w1:=hB0.out.trans (hb1.mono (by simp;omega))
 have g0 : w1.cell? ⟨w.heap.size,0,none⟩ = some (.bool na):=by simp [hc1,go_sem]
 have g1 : w1.cell? ⟨w.heap.size,1,none⟩ = some (.slice A n c):=by simp [hc1,go_sem]
 have g2 : w1.cell? ⟨w.heap.size + 1,0,none⟩ = some (.bool nb):=by simp [hc1,go_sem]
 have g3 : w1.cell? ⟨w.heap.size + 1,1,none⟩ = some (.slice B m d):=by simp [hc1,go_sem]
 have g7 : Blk w1 (w.heap.size + 1 + 1) 26 #[.bool false,.slice none 0 0]:=by
  refine Zd hb1 ?_;have:=Blk.new ((w.alloc (.cells #[.bool na,.slice A n c] 26)).alloc (.cells #[.bool nb,.slice B m d] 26)) 26 #[.bool false,.slice none 0 0];simp only [World.size_alloc] at this;exact this
 have g5:=g7.cell 0;have g6:=g7.cell 1;have g8:=g7.frozen 0;have g9:=g7.frozen 1
 simp at g5 g6
 clear hc1 hf1;have hLa1:=hLa.below hB1;have hLb1:=hLb.below hB1
 by_cases hm0 : 0 < m
 ·have hd : decide (0 < m) = true:=by simpa using hm0
  cases nb
  ·go_wp2_with fail
   refine (Zea _ _ _ _ _ _ _ _ _ _ _ (by exact hLa1) (by exact hLb1) hn hm).mono ?_;rintro e w2 ⟨hb2,neg2,A2,n2,c2,code2,rfl,hR2⟩;have hB2 : Below w.heap.size w w2:=hB1.trans (hb2.mono hB1.size);have m7:=Zd hb2 g7;have m3:=m7.cell 0;have m4:=m7.cell 1;have m5:=m7.frozen 0;have m6:=m7.frozen 1
   simp at m3 m4
   have HM:=Zb m7;clear m7;go_wp2_with fail
   have HZ : sg na za.natAbs + sg (true) zb.natAbs = za - zb:=by
    have h1:=hza.out;have h2:=hzb.out;rw [Zg] at h1 h2
    have h3 : sg (true) zb.natAbs = - zb:=by unfold sg at h2 ⊢;simp at h2 ⊢;omega
    rw [h1,h3];omega
   refine bodyPost_ret (v:=.tuple #[.agg #[.bool neg2,.slice A2 n2 c2],.int .i64 code2]) (by simp [results,Try.results50,go_sem,m3,m4]) rfl ?_;exact ResW.box (HZ ▸ hR2) hB2 (by omega) HM.out
  ·go_wp2_with fail
   refine (Zea _ _ _ _ _ _ _ _ _ _ _ (by exact hLa1) (by exact hLb1) hn hm).mono ?_;rintro e w2 ⟨hb2,neg2,A2,n2,c2,code2,rfl,hR2⟩;have hB2 : Below w.heap.size w w2:=hB1.trans (hb2.mono hB1.size);have m7:=Zd hb2 g7;have m3:=m7.cell 0;have m4:=m7.cell 1;have m5:=m7.frozen 0;have m6:=m7.frozen 1
   simp at m3 m4
   have HM:=Zb m7;clear m7;go_wp2_with fail
   have HZ : sg na za.natAbs + sg (false) zb.natAbs = za - zb:=by
    have h1:=hza.out;have h2:=hzb.out;rw [Zg] at h1 h2
    have h3 : sg (false) zb.natAbs = - zb:=by unfold sg at h2 ⊢;simp at h2 ⊢;omega
    rw [h1,h3];omega
   refine bodyPost_ret (v:=.tuple #[.agg #[.bool neg2,.slice A2 n2 c2],.int .i64 code2]) (by simp [results,Try.results50,go_sem,m3,m4]) rfl ?_;exact ResW.box (HZ ▸ hR2) hB2 (by omega) HM.out
 ·obtain rfl : m = 0:=by omega
  have hz0 : zb.natAbs = 0:=by have:=hlb.out;exact digits_eq_nil.1 (List.eq_nil_of_length_eq_zero this)
  have hz0:=Zb hz0
  cases nb
  ·go_wp2_with fail
   refine (Zea _ _ _ _ _ _ _ _ _ _ _ (by exact hLa1) (by exact hLb1) hn hm).mono ?_;rintro e w2 ⟨hb2,neg2,A2,n2,c2,code2,rfl,hR2⟩;have hB2 : Below w.heap.size w w2:=hB1.trans (hb2.mono hB1.size);have m7:=Zd hb2 g7;have m3:=m7.cell 0;have m4:=m7.cell 1;have m5:=m7.frozen 0;have m6:=m7.frozen 1
   simp at m3 m4
   have HM:=Zb m7;clear m7;go_wp2_with fail
   have HZ : sg na za.natAbs + sg (false) zb.natAbs = za - zb:=by
    have h1:=hza.out;have h2:=hzb.out;rw [Zg] at h1 h2
    have h3 : sg (false) zb.natAbs = - zb:=by have h4:=hz0.out;unfold sg;simp;omega
    rw [h1,h3];omega
   refine bodyPost_ret (v:=.tuple #[.agg #[.bool neg2,.slice A2 n2 c2],.int .i64 code2]) (by simp [results,Try.results50,go_sem,m3,m4]) rfl ?_;exact ResW.box (HZ ▸ hR2) hB2 (by omega) HM.out
  ·go_wp2_with fail
   refine (Zea _ _ _ _ _ _ _ _ _ _ _ (by exact hLa1) (by exact hLb1) hn hm).mono ?_;rintro e w2 ⟨hb2,neg2,A2,n2,c2,code2,rfl,hR2⟩;have hB2 : Below w.heap.size w w2:=hB1.trans (hb2.mono hB1.size);have m7:=Zd hb2 g7;have m3:=m7.cell 0;have m4:=m7.cell 1;have m5:=m7.frozen 0;have m6:=m7.frozen 1
   simp at m3 m4
   have HM:=Zb m7;clear m7;go_wp2_with fail
   have HZ : sg na za.natAbs + sg (false) zb.natAbs = za - zb:=by
    have h1:=hza.out;have h2:=hzb.out;rw [Zg] at h1 h2
    have h3 : sg (false) zb.natAbs = - zb:=by have h4:=hz0.out;unfold sg;simp;omega
    rw [h1,h3];omega
   refine bodyPost_ret (v:=.tuple #[.agg #[.bool neg2,.slice A2 n2 c2],.int .i64 code2]) (by simp [results,Try.results50,go_sem,m3,m4]) rfl ?_;exact ResW.box (HZ ▸ hR2) hB2 (by omega) HM.out
theorem rAdd_ok (na nb : Bool) (A B : Option Addr) (n c m d : Nat) (za zb : Int) (w : World) (ha : Wd w na A n c za) (hb : Wd w nb B m d zb) :
    Calls Try.prog 95 #[.agg #[.bool na,.slice A n c],.agg #[.bool nb,.slice B m d]] w (ResW w (za + zb)):=by
 have hLa:=ha.lim;have hLb:=hb.lim;have hn:=ha.2.1;have hm:=hb.2.1;have hB0 : Below w.heap.size w (((w.alloc (.cells #[.bool na,.slice A n c] 26)).alloc (.cells #[.bool nb,.slice B m d] 26)).alloc (.cells #[.bool false,.slice none 0 0] 26)):=(((Below.refl w.heap.size w).alloc (Nat.le_refl _) _).alloc (by simp) _).alloc (by simp;omega) _;have hB0:=Zb hB0
 have hgood : Hid ((okW na (digits za.natAbs) && okW nb (digits zb.natAbs)) = true):=by unfold Hid;rw [ha.ok,hb.ok];rfl
 have hza:=Zb ha.sgEq;have hzb:=Zb hb.sgEq;have hlb:=Zb hb.lim.len;clear ha hb;go_enter Try.func95,Try.ntmps95;go_wp2_with fail;refine (Zd5 (hLa.below hB0.out) (hLb.below hB0.out) hgood.out).mono ?_;rintro e w1 ⟨rfl,hb1⟩;obtain ⟨hc1,hf1⟩:=Zca hb1
 have hz1 : w.heap.size + 1 + 1 < w1.heap.size:=by have:=hb1.size;simp at this;omega
 have hB1 : Below w.heap.size w w1:=hB0.out.trans (hb1.mono (by simp;omega))
 have g0 : w1.cell? ⟨w.heap.size,0,none⟩ = some (.bool na):=by simp [hc1,go_sem]
 have g1 : w1.cell? ⟨w.heap.size,1,none⟩ = some (.slice A n c):=by simp [hc1,go_sem]
 have g2 : w1.cell? ⟨w.heap.size + 1,0,none⟩ = some (.bool nb):=by simp [hc1,go_sem]
 have g3 : w1.cell? ⟨w.heap.size + 1,1,none⟩ = some (.slice B m d):=by simp [hc1,go_sem]
 have g7 : Blk w1 (w.heap.size + 1 + 1) 26 #[.bool false,.slice none 0 0]:=by
  refine Zd hb1 ?_;have:=Blk.new ((w.alloc (.cells #[.bool na,.slice A n c] 26)).alloc (.cells #[.bool nb,.slice B m d] 26)) 26 #[.bool false,.slice none 0 0];simp only [World.size_alloc] at this;exact this
 have g5:=g7.cell 0;have g6:=g7.cell 1;have g8:=g7.frozen 0;have g9:=g7.frozen 1
 simp at g5 g6
 clear hc1 hf1;have hLa1:=hLa.below hB1;have hLb1:=hLb.below hB1;go_wp2_with fail;refine (Zea _ _ _ _ _ _ _ _ _ _ _ (by exact hLa1) (by exact hLb1) hn hm).mono ?_;rintro e w2 ⟨hb2,neg2,A2,n2,c2,code2,rfl,hR2⟩;have hB2 : Below w.heap.size w w2:=hB1.trans (hb2.mono hB1.size);have m7:=Zd hb2 g7;have m3:=m7.cell 0;have m4:=m7.cell 1;have m5:=m7.frozen 0;have m6:=m7.frozen 1
 simp at m3 m4
 have HM:=Zb m7;clear m7;go_wp2_with fail
 have HZ : sg na za.natAbs + sg nb zb.natAbs = za + zb:=by
  have h1:=hza.out;have h2:=hzb.out;rw [Zg] at h1 h2;rw [h1,h2]
 refine bodyPost_ret (v:=.tuple #[.agg #[.bool neg2,.slice A2 n2 c2],.int .i64 code2]) (by simp [results,Try.results95,go_sem,m3,m4]) rfl ?_;exact ResW.box (HZ ▸ hR2) hB2 (by omega) HM.out
theorem Zki (na nb : Bool) (A B : Option Addr) (n c m d : Nat) (za zb : Int) (w : World) (ha : Wd w na A n c za) (hb : Wd w nb B m d zb) :
    Calls Try.prog 32 #[.agg #[.bool na,.slice A n c],.agg #[.bool nb,.slice B m d]] w (ResW w (za * zb)):=by
 have hLa:=ha.lim;have hLb:=hb.lim;have hn:=ha.2.1;have hm:=hb.2.1
 have hB0 : ∀ X Y Z V : Obj,Below w.heap.size w ((((w.alloc X).alloc Y).alloc Z).alloc V):=fun X Y Z V=>((((Below.refl w.heap.size w).alloc (Nat.le_refl _) _).alloc (by simp) _).alloc (by simp;omega) _).alloc (by simp;omega) _
 have hW : ∀ X Y Z t,WL ((((w.alloc X).alloc Y).alloc Z).alloc (.cells #[.bool na,.slice A n c,.bool nb,.slice B m d] t)) (some ⟨w.heap.size + 1 + 1 + 1,0,none⟩) 2 2 [⟨na,A,n,c,digits za.natAbs⟩,⟨nb,B,m,d,digits zb.natAbs⟩]:=fun X Y Z t=>by
  have:=WL.two (neg:=na) (neg':=nb) (((hLa.alloc X).alloc Y).alloc Z) (((hLb.alloc X).alloc Y).alloc Z) t;simp only [World.size_alloc] at this;exact this
 have hW:=Zb hW;have hB0:=Zb hB0;have hgood : Hid (okW na (digits za.natAbs) = true /\ okW nb (digits zb.natAbs) = true):=⟨ha.ok,hb.ok⟩;have hza:=Zb ha.sgEq;have hzb:=Zb hb.sgEq;clear ha hb;go_enter Try.func32,Try.ntmps32;go_wp2_with fail;refine (Zdl (hW.out _ _ _ _) (by have:=hgood.out;simp [WE.ok,this])).mono ?_;rintro e w1 ⟨rfl,hb1⟩;obtain ⟨hc1,hf1⟩:=Zca hb1
 have hz1 : w.heap.size + 1 + 1 + 1 < w1.heap.size:=by have:=hb1.size;simp at this;omega
 have hB1 : Below w.heap.size w w1:=(hB0.out _ _ _ _).trans (hb1.mono (by simp;omega))
 have g0 : w1.cell? ⟨w.heap.size,0,none⟩ = some (.bool na):=by simp [hc1,go_sem]
 have g1 : w1.cell? ⟨w.heap.size,1,none⟩ = some (.slice A n c):=by simp [hc1,go_sem]
 have g2 : w1.cell? ⟨w.heap.size + 1,0,none⟩ = some (.bool nb):=by simp [hc1,go_sem]
 have g3 : w1.cell? ⟨w.heap.size + 1,1,none⟩ = some (.slice B m d):=by simp [hc1,go_sem]
 have gf : w1.frozen? ⟨w.heap.size + 1,0,none⟩ = false:=by simp [hf1,go_sem]
 have gB : Blk w1 (w.heap.size + 1) 26 #[.bool nb,.slice B m d]:=by
  refine Zd hb1 ((Blk.alloc (Blk.alloc ?_ _) _));have:=Blk.new (w.alloc (.cells #[.bool na,.slice A n c] 26)) 26 #[.bool nb,.slice B m d];simp only [World.size_alloc] at this;exact this
 have g7 : Blk w1 (w.heap.size + 1 + 1) 26 #[.bool false,.slice none 0 0]:=by
  refine Zd hb1 (Blk.alloc ?_ _);have:=Blk.new ((w.alloc (.cells #[.bool na,.slice A n c] 26)).alloc (.cells #[.bool nb,.slice B m d] 26)) 26 #[.bool false,.slice none 0 0];simp only [World.size_alloc] at this;exact this
 have hLa1:=hLa.below hB1;have hLb1:=hLb.below hB1;have HB:=Zb gB;clear gB hc1 hf1;have g5:=g7.cell 0;have g6:=g7.cell 1;have g8:=g7.frozen 0;have g9:=g7.frozen 1
 simp at g5 g6
 go_wp2_with fail
 go_region_held3 (fun w'=>w'.cell? ⟨w.heap.size,0,none⟩ = some (.bool na) /\ w'.cell? ⟨w.heap.size,1,none⟩ = some (.slice A n c) /\ w'.cell? ⟨w.heap.size + 1,0,none⟩ = some (.bool nb) /\ w'.cell? ⟨w.heap.size + 1,1,none⟩ = some (.slice B m d))
  (((try dsimp only);(repeat' apply And.intro);all_goals (first | go_keep | (simp [*,go_sem];done))))
  (first
   | (go_at_call 54;refine (Zry _ _ _ _ _ _ _ _ _ (by exact hLa1) (by exact hLb1) (by omega) (by omega)).mono ?_;rintro e w2 ⟨A2,n2,c2,l2,rfl,hL2,hP2,hb2⟩;have k0:=Za hb2 g0;have k1:=Za hb2 g1;have j0:=Za hb2 g2;have k2:=Za hb2 g3;have k3:=Za hb2 g5;have k4:=Za hb2 g6;have k5:=Zi hb2 g5 g8;have k6:=Zi hb2 g6 g9;have k7:=Zd hb2 g7)
   | (go_at_call 53;refine (Zbk _ _ _ _ _ _ (by exact hL2)).mono ?_;rintro e w3 ⟨hb3,neg3,A3,n3,c3,code3,rfl,hR3⟩;have m0:=Za hb3 k0;have m1:=Za hb3 k1;have i0:=Za hb3 j0;have m2:=Za hb3 k2;have m3:=Za hb3 k3;have m4:=Za hb3 k4;have m5:=Zi hb3 k3 k5;have m6:=Zi hb3 k4 k6;have m7:=Zd hb3 k7))
 have hB3 : Below w.heap.size w w3:=(hB1.trans ((Zm hb2).mono hB1.size)).trans (hb3.mono (Nat.le_trans hB1.size (Zm hb2).size))
 go_wp2
 have HZ : sg (na != nb) (val l2) = za * zb:=by
  have h1:=hza.out;have h2:=hzb.out;rw [hP2.2,Ztt,h1,h2]
 refine bodyPost_ret (v:=.tuple #[.agg #[.bool neg3,.slice A3 n3 c3],.int .i64 code3]) (by simp [results,Try.results32,go_sem,m3,m4]) rfl ?_;exact ResW.box (HZ ▸ hR3) hB3 (by omega) m7
end Go.Proofs.Ythappeninglakaa
