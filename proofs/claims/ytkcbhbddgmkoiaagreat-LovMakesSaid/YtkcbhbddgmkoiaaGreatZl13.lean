/- The reference of layer 1: both, sum, Add, Sub, Mul. From, -/
import Derived.BigQuiet
import Derived.Deep.QuietTactic
import Derived.Test.YtkcbhbddgmkoiaaGreatZl12
import Derived.Test.YtkcbhbddgmkoiaaGreatZl10
set_option maxRecDepth 100000
set_option maxHeartbeats 2000000
set_option linter.unusedSimpArgs false
set_option linter.unusedVariables false
namespace Go.Proofs.YtkcbhbddgmkoiaaGreat
open Go.RowKit
attribute [local go_sem] Zg
theorem Za0 {neg : Bool} {A : Option Addr} {n c : Nat} {l : List Nat} {w : World} (h : Lim w A n c l) (hk : okW neg l = true) :
    Calls Tryz.prog 58 #[.agg #[.bool neg,.slice A n c]] w fun e w'=>e = .returned (.int .i64 0) /\ Below w.heap.size w w':=
 (Zif neg A n c l w h).mono fun _ _ ⟨he,hb⟩=>⟨by rw [he,hk];rfl,hb⟩
theorem Zhj {neg : Bool} {A : Option Addr} {n c : Nat} {l : List Nat} {w : World} (h : Lim w A n c l) (hk : okW neg l = false) :
    Calls Tryz.prog 58 #[.agg #[.bool neg,.slice A n c]] w fun e w'=>e = .returned (.int .i64 8) /\ Below w.heap.size w w':=
 (Zif neg A n c l w h).mono fun _ _ ⟨he,hb⟩=>⟨by rw [he,hk];rfl,hb⟩
theorem Zc7 {na nb : Bool} {A B : Option Addr} {n c m d : Nat} {la lb : List Nat} {w : World} (hLa : Lim w A n c la) (hLb : Lim w B m d lb) (hk : (okW na la && okW nb lb) = true) :
    Calls Tryz.prog 100 #[.agg #[.bool na,.slice A n c],.agg #[.bool nb,.slice B m d]] w fun e w'=>e = .returned (.int .i64 0) /\ Below w.heap.size w w':=by
 have hB0 : Below w.heap.size w ((w.alloc (.cells #[.bool na,.slice A n c] 62)).alloc (.cells #[.bool nb,.slice B m d] 62)):=((Below.refl w.heap.size w).alloc (Nat.le_refl _) _).alloc (by simp) _
 obtain ⟨ka,kb⟩ : okW na la = true /\ okW nb lb = true:=by simpa using hk
 go_enter Tryz.func100,Tryz.ntmps100;go_wp2_with fail;refine (Za0 (hLa.below hB0) (by first | assumption | simp_all)).mono ?_;rintro e w1 ⟨rfl,hb1⟩;obtain ⟨hc1,hf1⟩:=Zbe hb1
 have hz1 : w.heap.size + 1 < w1.heap.size:=by have:=hb1.size;simp at this;omega
 have hB1 : Below w.heap.size w w1:=hB0.trans (hb1.mono (by simp;omega))
 have g0 : w1.cell? ⟨w.heap.size,0,none⟩ = some (.bool na):=by simp [hc1,go_sem]
 have g1 : w1.cell? ⟨w.heap.size,1,none⟩ = some (.slice A n c):=by simp [hc1,go_sem]
 have g2 : w1.cell? ⟨w.heap.size + 1,0,none⟩ = some (.bool nb):=by simp [hc1,go_sem]
 have g3 : w1.cell? ⟨w.heap.size + 1,1,none⟩ = some (.slice B m d):=by simp [hc1,go_sem]
 clear hc1 hf1;go_wp2_with fail;refine (Za0 (hLb.below hB1) (by first | assumption | simp_all)).mono ?_;rintro e w2 ⟨rfl,hb2⟩;go_wp2_with fail;go_ret;exact ⟨rfl,hB1.trans (hb2.mono hB1.size)⟩
theorem Zc9 (na nb : Bool) (A B : Option Addr) (n c m d : Nat) (va vb : Nat) (w : World) (ha : Lim w A n c (digits va)) (hb : Lim w B m d (digits vb)) (hn : n <= 4096) (hm : m <= 4096) :
    Calls Tryz.prog 133 #[.agg #[.bool na,.slice A n c],.agg #[.bool nb,.slice B m d]] w (ResW w (sg na va + sg nb vb)):=by
 have hB0 : Below w.heap.size w (((w.alloc (.cells #[.bool na,.slice A n c] 62)).alloc (.cells #[.bool nb,.slice B m d] 62)).alloc (.cells #[.bool false,.slice none 0 0] 62)):=(((Below.refl w.heap.size w).alloc (Nat.le_refl _) _).alloc (by simp) _).alloc (by simp;omega) _;have hB0:=Za hB0;obtain ⟨cv,hcv⟩ : ∃ x : Int,Za8 (digits va) (digits vb) = x:=⟨_,rfl⟩;have HC:=Za hcv
 have hge : 0 <= cv ↔ vb <= va:=by rw [<- hcv];exact Zeg
 have hge:=Za hge;have HLA:=Za ha.len;have HLB:=Za hb.len
 by_cases hs : na = nb
 ·subst hs
  clear hcv
  have HZZ : ∀ l : List Nat,val l = val (digits va) + val (digits vb) -> sg na (val l) = sg na va + sg na vb:=fun l h=>by rw [h,Zf,Zf,Zgz]
  go_enter Tryz.func133,Tryz.ntmps133;go_wp2_with fail;have hB1 : Below w.heap.size w (((w.alloc (.cells #[.bool na,.slice A n c] 62)).alloc (.cells #[.bool na,.slice B m d] 62)).alloc (.cells #[.bool false,.slice none 0 0] 62)):=(((Below.refl w.heap.size w).alloc (Nat.le_refl _) _).alloc (by simp) _).alloc (by simp;omega) _;have ha1:=ha.below hB1;have hb1':=hb.below hB1
  have g7 : Blk (((w.alloc (.cells #[.bool na,.slice A n c] 62)).alloc (.cells #[.bool na,.slice B m d] 62)).alloc (.cells #[.bool false,.slice none 0 0] 62)) (w.heap.size + 1 + 1) 62 #[.bool false,.slice none 0 0]:=by
   have:=Blk.new ((w.alloc (.cells #[.bool na,.slice A n c] 62)).alloc (.cells #[.bool na,.slice B m d] 62)) 62 #[.bool false,.slice none 0 0];simp only [World.size_alloc] at this;exact this
  generalize hWW : (((w.alloc (.cells #[.bool na,.slice A n c] 62)).alloc (.cells #[.bool na,.slice B m d] 62)).alloc (.cells #[.bool false,.slice none 0 0] 62)) = w1 at *
  have g0 : w1.cell? ⟨w.heap.size,0,none⟩ = some (.bool na):=by rw [<- hWW];simp [go_sem]
  have g1 : w1.cell? ⟨w.heap.size,1,none⟩ = some (.slice A n c):=by rw [<- hWW];simp [go_sem]
  have g2 : w1.cell? ⟨w.heap.size + 1,0,none⟩ = some (.bool na):=by rw [<- hWW];simp [go_sem]
  have g3 : w1.cell? ⟨w.heap.size + 1,1,none⟩ = some (.slice B m d):=by rw [<- hWW];simp [go_sem]
  have hz1 : w.heap.size + 1 + 1 < w1.heap.size:=by rw [<- hWW];simp
  clear hWW;have g5:=g7.cell 0;have g6:=g7.cell 1;have g8:=g7.frozen 0;have g9:=g7.frozen 1
  simp at g5 g6
  go_region_held3 (fun w'=>w'.cell? ⟨w.heap.size,0,none⟩ = some (.bool na) /\ w'.cell? ⟨w.heap.size,1,none⟩ = some (.slice A n c) /\ w'.cell? ⟨w.heap.size + 1,0,none⟩ = some (.bool na) /\ w'.cell? ⟨w.heap.size + 1,1,none⟩ = some (.slice B m d))
   (((try dsimp only);(repeat' apply And.intro);all_goals (first | go_keep | (simp [*,go_sem];done))))
   (first
    | (go_at_call 148;refine (Zps _ _ _ _ _ _ _ _ _ (by exact ha1) (by exact hb1') (by omega) (by omega)).mono ?_;rintro e w2 ⟨A2,n2,c2,l2,rfl,hL2,hP2,hb2⟩;have k0:=Zb hb2 g0;have k1:=Zb hb2 g1;have j0:=Zb hb2 g2;have k2:=Zb hb2 g3;have k3:=Zb hb2 g5;have k4:=Zb hb2 g6;have k5:=Zh hb2 g5 g8;have k6:=Zh hb2 g6 g9;have k7:=Zc hb2 g7)
    | (go_at_call 102;refine (Zat _ _ _ _ _ _ (by exact hL2) (by have:=hL2.len;rw [hP2.1] at this;omega)).mono ?_;rintro e w3 ⟨hb3,neg3,A3,n3,c3,code3,rfl,hR3⟩;have m0:=Zb hb3 k0;have m1:=Zb hb3 k1;have i0:=Zb hb3 j0;have m2:=Zb hb3 k2;have m3:=Zb hb3 k3;have m4:=Zb hb3 k4;have m5:=Zh hb3 k3 k5;have m6:=Zh hb3 k4 k6;have m7:=Zc hb3 k7))
  have hB3 : Below w.heap.size w w3:=(hB1.trans ((Zn hb2).mono hB1.size)).trans (hb3.mono (Nat.le_trans hB1.size (Zn hb2).size))
  go_wp2
  have HZ:=HZZ l2 hP2.2;refine bodyPost_ret (v:=.tuple #[.agg #[.bool neg3,.slice A3 n3 c3],.int .i64 code3]) (by simp [results,Tryz.results133,go_sem,m3,m4]) rfl ?_;exact ResW.box (HZ ▸ hR3) hB3 (by omega) m7
 ·have hne : (na == nb) = false:=by simpa using hs
  by_cases hcc : 0 <= cv
  ·have hvl:=hge.out.1 hcc
   have HLE : Hid (m <= n):=by have:=Zt hvl;rw [ha.len,hb.len] at this;exact this
   have HVL : Hid (val (digits vb) <= val (digits va)):=by rw [Zf,Zf];exact hvl
   have HZZ : ∀ l : List Nat,l = digits (val (digits va) - val (digits vb)) -> sg na (val l) = sg na va + sg nb vb:=fun l h=>Zdd hs (by rw [h,Zf,Zf,Zf];omega)
   have HLL : Hid ((digits (val (digits va) - val (digits vb))).length <= 4096):=by
    have:=Zt (show val (digits va) - val (digits vb) <= va by rw [Zf,Zf];omega);rw [HLA.out] at this;exact Nat.le_trans this hn
   clear hcv hvl hs;go_enter Tryz.func133,Tryz.ntmps133;go_wp2_with fail;refine (Za6 _ _ _ _ _ _ _ _ _ (ha.below hB0.out) (hb.below hB0.out)).mono ?_;rintro e w1 ⟨he1,hb1⟩;rw [HC.out] at he1;subst he1;obtain ⟨hc1,hf1⟩:=Zbe hb1
   have hz1 : w.heap.size + 1 + 1 < w1.heap.size:=by have:=hb1.size;simp at this;omega
   have hB1 : Below w.heap.size w w1:=hB0.out.trans (hb1.mono (by simp;omega))
   have g0 : w1.cell? ⟨w.heap.size,0,none⟩ = some (.bool na):=by simp [hc1,go_sem]
   have g1 : w1.cell? ⟨w.heap.size,1,none⟩ = some (.slice A n c):=by simp [hc1,go_sem]
   have g2 : w1.cell? ⟨w.heap.size + 1,0,none⟩ = some (.bool nb):=by simp [hc1,go_sem]
   have g3 : w1.cell? ⟨w.heap.size + 1,1,none⟩ = some (.slice B m d):=by simp [hc1,go_sem]
   have g7 : Blk w1 (w.heap.size + 1 + 1) 62 #[.bool false,.slice none 0 0]:=by
    refine Zc hb1 ?_;have:=Blk.new ((w.alloc (.cells #[.bool na,.slice A n c] 62)).alloc (.cells #[.bool nb,.slice B m d] 62)) 62 #[.bool false,.slice none 0 0];simp only [World.size_alloc] at this;exact this
   have g5:=g7.cell 0;have g6:=g7.cell 1;have g8:=g7.frozen 0;have g9:=g7.frozen 1
   simp at g5 g6
   clear hc1 hf1;have ha1:=ha.below hB1;have hb1':=hb.below hB1;go_wp2_with fail
   go_region_held3 (fun w'=>w'.cell? ⟨w.heap.size,0,none⟩ = some (.bool na) /\ w'.cell? ⟨w.heap.size,1,none⟩ = some (.slice A n c) /\ w'.cell? ⟨w.heap.size + 1,0,none⟩ = some (.bool nb) /\ w'.cell? ⟨w.heap.size + 1,1,none⟩ = some (.slice B m d))
    (((try dsimp only);(repeat' apply And.intro);all_goals (first | go_keep | (simp [*,go_sem];done))))
    (first
     | (go_at_call 149;refine (Zip _ _ _ _ _ _ _ _ _ (by exact ha1) (by exact hb1') HLE.out HVL.out (by omega)).mono ?_;rintro e w2 ⟨A2,n2,c2,l2,rfl,hL2,hP2,hb2⟩;have k0:=Zb hb2 g0;have k1:=Zb hb2 g1;have j0:=Zb hb2 g2;have k2:=Zb hb2 g3;have k3:=Zb hb2 g5;have k4:=Zb hb2 g6;have k5:=Zh hb2 g5 g8;have k6:=Zh hb2 g6 g9;have k7:=Zc hb2 g7)
     | (go_at_call 102;refine (Zat _ _ _ _ _ _ (by exact hL2) (by have h1:=hL2.len;rw [hP2] at h1;have h2:=HLL.out;omega)).mono ?_;rintro e w3 ⟨hb3,neg3,A3,n3,c3,code3,rfl,hR3⟩;have m0:=Zb hb3 k0;have m1:=Zb hb3 k1;have i0:=Zb hb3 j0;have m2:=Zb hb3 k2;have m3:=Zb hb3 k3;have m4:=Zb hb3 k4;have m5:=Zh hb3 k3 k5;have m6:=Zh hb3 k4 k6;have m7:=Zc hb3 k7))
   have hB3 : Below w.heap.size w w3:=(hB1.trans ((Zn hb2).mono hB1.size)).trans (hb3.mono (Nat.le_trans hB1.size (Zn hb2).size))
   go_wp2
   have HZ:=HZZ l2 hP2;refine bodyPost_ret (v:=.tuple #[.agg #[.bool neg3,.slice A3 n3 c3],.int .i64 code3]) (by simp [results,Tryz.results133,go_sem,m3,m4]) rfl ?_;exact ResW.box (HZ ▸ hR3) hB3 (by omega) m7
  ·have hvl : va <= vb:=by
     rcases Nat.lt_or_ge vb va with h | h
     ·exact absurd (hge.out.2 (Nat.le_of_lt h)) hcc
     ·exact h
   have HLE : Hid (n <= m):=by have:=Zt hvl;rw [ha.len,hb.len] at this;exact this
   have HVL : Hid (val (digits va) <= val (digits vb)):=by rw [Zf,Zf];exact hvl
   have HZZ : ∀ l : List Nat,l = digits (val (digits vb) - val (digits va)) -> sg nb (val l) = sg na va + sg nb vb:=fun l h=>by rw [Int.add_comm];exact Zdd (Ne.symm hs) (by rw [h,Zf,Zf,Zf];omega)
   have HLL : Hid ((digits (val (digits vb) - val (digits va))).length <= 4096):=by
    have:=Zt (show val (digits vb) - val (digits va) <= vb by rw [Zf,Zf];omega);rw [HLB.out] at this;exact Nat.le_trans this hm
   clear hcv hvl hs;go_enter Tryz.func133,Tryz.ntmps133;go_wp2_with fail;refine (Za6 _ _ _ _ _ _ _ _ _ (ha.below hB0.out) (hb.below hB0.out)).mono ?_;rintro e w1 ⟨he1,hb1⟩;rw [HC.out] at he1;subst he1;obtain ⟨hc1,hf1⟩:=Zbe hb1
   have hz1 : w.heap.size + 1 + 1 < w1.heap.size:=by have:=hb1.size;simp at this;omega
   have hB1 : Below w.heap.size w w1:=hB0.out.trans (hb1.mono (by simp;omega))
   have g0 : w1.cell? ⟨w.heap.size,0,none⟩ = some (.bool na):=by simp [hc1,go_sem]
   have g1 : w1.cell? ⟨w.heap.size,1,none⟩ = some (.slice A n c):=by simp [hc1,go_sem]
   have g2 : w1.cell? ⟨w.heap.size + 1,0,none⟩ = some (.bool nb):=by simp [hc1,go_sem]
   have g3 : w1.cell? ⟨w.heap.size + 1,1,none⟩ = some (.slice B m d):=by simp [hc1,go_sem]
   have g7 : Blk w1 (w.heap.size + 1 + 1) 62 #[.bool false,.slice none 0 0]:=by
    refine Zc hb1 ?_;have:=Blk.new ((w.alloc (.cells #[.bool na,.slice A n c] 62)).alloc (.cells #[.bool nb,.slice B m d] 62)) 62 #[.bool false,.slice none 0 0];simp only [World.size_alloc] at this;exact this
   have g5:=g7.cell 0;have g6:=g7.cell 1;have g8:=g7.frozen 0;have g9:=g7.frozen 1
   simp at g5 g6
   clear hc1 hf1;have ha1:=ha.below hB1;have hb1':=hb.below hB1;go_wp2_with fail
   go_region_held3 (fun w'=>w'.cell? ⟨w.heap.size,0,none⟩ = some (.bool na) /\ w'.cell? ⟨w.heap.size,1,none⟩ = some (.slice A n c) /\ w'.cell? ⟨w.heap.size + 1,0,none⟩ = some (.bool nb) /\ w'.cell? ⟨w.heap.size + 1,1,none⟩ = some (.slice B m d))
    (((try dsimp only);(repeat' apply And.intro);all_goals (first | go_keep | (simp [*,go_sem];done))))
    (first
     | (go_at_call 149;refine (Zip _ _ _ _ _ _ _ _ _ (by exact hb1') (by exact ha1) HLE.out HVL.out (by omega)).mono ?_;rintro e w2 ⟨A2,n2,c2,l2,rfl,hL2,hP2,hb2⟩;have k0:=Zb hb2 g0;have k1:=Zb hb2 g1;have j0:=Zb hb2 g2;have k2:=Zb hb2 g3;have k3:=Zb hb2 g5;have k4:=Zb hb2 g6;have k5:=Zh hb2 g5 g8;have k6:=Zh hb2 g6 g9;have k7:=Zc hb2 g7)
     | (go_at_call 102;refine (Zat _ _ _ _ _ _ (by exact hL2) (by have h1:=hL2.len;rw [hP2] at h1;have h2:=HLL.out;omega)).mono ?_;rintro e w3 ⟨hb3,neg3,A3,n3,c3,code3,rfl,hR3⟩;have m0:=Zb hb3 k0;have m1:=Zb hb3 k1;have i0:=Zb hb3 j0;have m2:=Zb hb3 k2;have m3:=Zb hb3 k3;have m4:=Zb hb3 k4;have m5:=Zh hb3 k3 k5;have m6:=Zh hb3 k4 k6;have m7:=Zc hb3 k7))
   have hB3 : Below w.heap.size w w3:=(hB1.trans ((Zn hb2).mono hB1.size)).trans (hb3.mono (Nat.le_trans hB1.size (Zn hb2).size))
   go_wp2
   have HZ:=HZZ l2 hP2;refine bodyPost_ret (v:=.tuple #[.agg #[.bool neg3,.slice A3 n3 c3],.int .i64 code3]) (by simp [results,Tryz.results133,go_sem,m3,m4]) rfl ?_;exact ResW.box (HZ ▸ hR3) hB3 (by omega) m7
def NumW (w : World) (z : Int) (e : Ending) (w' : World) : Prop:=
 Below w.heap.size w w' /\ ∃ neg A n c,e = .returned (.agg #[.bool neg,.slice A n c]) /\ Wd w' neg A n c z
theorem Lim.pair (w : World) (t : TypeId) {v : Nat} (hv : v < 18446744073709551616) {X Y : Int} (hX : X = (v % 4294967296 : Nat)) (hY : Y = (v / 4294967296 : Nat)) :
    Lim (w.alloc (.cells #[.int .u32 X,.int .u32 Y] t)) (some ⟨w.heap.size,0,none⟩) 2 2 [v % 4294967296,v / 4294967296]:=by
 subst hX hY;exact Lim.of_blk (l:=[v % 4294967296,v / 4294967296]) (Blk.new w t _) (Lt32.cons (Nat.mod_lt _ (by decide)) (Lt32.cons (by omega) Lt32.nil)) (by unfold maxLen;simp)
theorem Lim.pair2 (w : World) (o : Obj) (t : TypeId) {v : Nat} (hv : v < 18446744073709551616) {X Y : Int} (hX : X = (v % 4294967296 : Nat)) (hY : Y = (v / 4294967296 : Nat)) :
    Lim ((w.alloc o).alloc (.cells #[.int .u32 X,.int .u32 Y] t)) (some ⟨w.heap.size + 1,0,none⟩) 2 2 [v % 4294967296,v / 4294967296]:=by
 have:=Lim.pair (w.alloc o) t hv hX hY;rw [World.size_alloc] at this;exact this
theorem Ze8 {z : Int} (h : z.natAbs <= 9223372036854775808) : z.natAbs < pw 4096:=
 Nat.lt_of_lt_of_le (Nat.lt_of_le_of_lt h (show 9223372036854775808 < pw 2 by decide)) (Zej (by omega))
theorem ResP.small {w : World} {z : Int} {neg : Bool} {A : Option Addr} {n c : Nat} {code : Int} (h : ResP w z neg A n c code) (hs : z.natAbs < pw 4096) : Wd w neg A n c z:=by
 rcases h with ⟨_,_,h⟩ | ⟨h,_⟩
 ·exact h
 ·omega
theorem Wd.alloc {w : World} {neg : Bool} {A : Option Addr} {n c : Nat} {z : Int} (h : Wd w neg A n c z) (o : Obj) : Wd (w.alloc o) neg A n c z:=⟨h.1,h.2.1,h.2.2.alloc o⟩
theorem NumW.box {w w3 : World} {z : Int} {neg : Bool} {A : Option Addr} {n c : Nat} {g : Nat} {t : TypeId} {b0 : Bool} {A0 : Option Addr} {n0 c0 : Nat} (hP : Wd w3 neg A n c z) (hB : Below w.heap.size w w3) (hg : w.heap.size <= g) (hb : Blk w3 g t #[.bool b0,.slice A0 n0 c0]) :
    NumW w z (.returned (.agg #[.bool neg,.slice A n c])) ((w3.setCell ⟨g,0,none⟩ (.bool neg)).setCell ⟨g,1,none⟩ (.slice A n c)):=by
 have hb1 : Blk (w3.setCell ⟨g,0,none⟩ (.bool neg)) g t #[.bool neg,.slice A0 n0 c0]:=hb.set_ 0 (.bool neg);exact ⟨(hB.setCell (p:=⟨g,0,none⟩) hg _).setCell (p:=⟨g,1,none⟩) hg _,_,_,_,_,rfl,hP.1,hP.2.1,(hP.2.2.set_box hb (NoLimb.box _ _ _ _) _ _).set_box hb1 (NoLimb.box _ _ _ _) _ _⟩
theorem NumW.alloc {w w' : World} {z : Int} {e : Ending} (h : NumW w z e w') (o : Obj) : NumW w z e (w'.alloc o):=by
 obtain ⟨hb,neg,A,n,c,he,hw⟩:=h;exact ⟨hb.alloc hb.size _,neg,A,n,c,he,hw.alloc o⟩
theorem Zmd (v : Nat) (w : World) (hv : v < 9223372036854775808) :
    Calls Tryz.prog 98 #[.int .i64 v] w (NumW w (v)):=by
 have hd0 : decide ((v : Int) < 0) = false:=by simp
 go_enter Tryz.func98,Tryz.ntmps98;go_wp2_with fail;have hB0 : Below w.heap.size w (w.alloc (.cells #[.bool false,.slice none 0 0] 62)):=(Below.refl w.heap.size w).alloc (Nat.le_refl _) _
 refine (Za5 _ _ _ _ [v % 4294967296,v / 4294967296] _ (by
  refine Lim.pair2 w _ _ (by omega) ?_ ?_ <;> first | rfl | omega | (simp only [IntKind.wrap_u64];omega))).mono ?_
 rintro e w1 ⟨hb1,neg1,A1,n1,c1,code1,rfl,hR1⟩
 have hz : sg false (val [v % 4294967296,v / 4294967296]) = v:=by simp [sg,val];omega
 rw [hz] at hR1;have hW1 : Wd w1 neg1 A1 n1 c1 (v):=hR1.small (Ze8 (by omega));have hB1 : Below w.heap.size w w1:=(hB0.alloc hB0.size _).trans (hb1.mono (by simp;omega));have m7:=Zc hb1 (Blk.alloc (Blk.new w 62 #[.bool false,.slice none 0 0]) _);have m3:=m7.cell 0;have m4:=m7.cell 1;have m5:=m7.frozen 0;have m6:=m7.frozen 1
 simp at m3 m4
 have hlt:=m7.lt;have HM:=Za m7;clear m7 hz hR1;go_wp2_with fail;refine bodyPost_ret (v:=.agg #[.bool neg1,.slice A1 n1 c1]) (by simp [results,Tryz.results98,go_sem,m3,m4,hlt]) rfl ?_;exact (NumW.box hW1 hB1 (Nat.le_refl _) HM.out).alloc _
theorem Zp9 (v : Nat) (w : World) (hv0 : 0 < v) (hv : v <= 9223372036854775808) :
    Calls Tryz.prog 98 #[.int .i64 (-(v : Int))] w (NumW w (-(v : Int))):=by
 have hd0 : decide (-(v : Int) < 0) = true:=by simp;omega
 go_enter Tryz.func98,Tryz.ntmps98;go_wp2_with fail;have hB0 : Below w.heap.size w (w.alloc (.cells #[.bool false,.slice none 0 0] 62)):=(Below.refl w.heap.size w).alloc (Nat.le_refl _) _
 refine (Za5 _ _ _ _ [v % 4294967296,v / 4294967296] _ (by
  refine Lim.pair2 w _ _ (by omega) ?_ ?_ <;> first | rfl | omega | (simp only [IntKind.wrap_u64];omega))).mono ?_
 rintro e w1 ⟨hb1,neg1,A1,n1,c1,code1,rfl,hR1⟩
 have hz : sg true (val [v % 4294967296,v / 4294967296]) = -(v : Int):=by simp [sg,val];omega
 rw [hz] at hR1;have hW1 : Wd w1 neg1 A1 n1 c1 (-(v : Int)):=hR1.small (Ze8 (by omega));have hB1 : Below w.heap.size w w1:=(hB0.alloc hB0.size _).trans (hb1.mono (by simp;omega));have m7:=Zc hb1 (Blk.alloc (Blk.new w 62 #[.bool false,.slice none 0 0]) _);have m3:=m7.cell 0;have m4:=m7.cell 1;have m5:=m7.frozen 0;have m6:=m7.frozen 1
 simp at m3 m4
 have hlt:=m7.lt;have HM:=Za m7;clear m7 hz hR1;go_wp2_with fail;refine bodyPost_ret (v:=.agg #[.bool neg1,.slice A1 n1 c1]) (by simp [results,Tryz.results98,go_sem,m3,m4,hlt]) rfl ?_;exact (NumW.box hW1 hB1 (Nat.le_refl _) HM.out).alloc _
theorem Zjf (v : Nat) (w : World) (hv : v < 9223372036854775808) :
    Calls Tryz.prog 61 #[.int .i64 v] w (NumW w (v)):=by
 have hd0 : decide ((v : Int) < 0) = false:=by simp
 go_enter Tryz.func61,Tryz.ntmps61;go_wp2_with fail;have hB0 : Below w.heap.size w (w.alloc (.cells #[.bool false,.slice none 0 0] 62)):=(Below.refl w.heap.size w).alloc (Nat.le_refl _) _
 refine (Zat _ _ _ _ [v % 4294967296,v / 4294967296] _ (by
  refine Lim.pair2 w _ _ (by omega) ?_ ?_ <;> first | rfl | omega | (simp only [IntKind.wrap_u64];omega)) (by omega)).mono ?_
 rintro e w1 ⟨hb1,neg1,A1,n1,c1,code1,rfl,hR1⟩
 have hz : sg false (val [v % 4294967296,v / 4294967296]) = v:=by simp [sg,val];omega
 rw [hz] at hR1;have hW1 : Wd w1 neg1 A1 n1 c1 (v):=hR1.small (Ze8 (by omega));have hB1 : Below w.heap.size w w1:=(hB0.alloc hB0.size _).trans (hb1.mono (by simp;omega));have m7:=Zc hb1 (Blk.alloc (Blk.new w 62 #[.bool false,.slice none 0 0]) _);have m3:=m7.cell 0;have m4:=m7.cell 1;have m5:=m7.frozen 0;have m6:=m7.frozen 1
 simp at m3 m4
 have hlt:=m7.lt;have HM:=Za m7;clear m7 hz hR1;go_wp2_with fail;refine bodyPost_ret (v:=.agg #[.bool neg1,.slice A1 n1 c1]) (by simp [results,Tryz.results61,go_sem,m3,m4,hlt]) rfl ?_;exact (NumW.box hW1 hB1 (Nat.le_refl _) HM.out).alloc _
theorem Zom (v : Nat) (w : World) (hv0 : 0 < v) (hv : v <= 9223372036854775808) :
    Calls Tryz.prog 61 #[.int .i64 (-(v : Int))] w (NumW w (-(v : Int))):=by
 have hd0 : decide (-(v : Int) < 0) = true:=by simp;omega
 go_enter Tryz.func61,Tryz.ntmps61;go_wp2_with fail;have hB0 : Below w.heap.size w (w.alloc (.cells #[.bool false,.slice none 0 0] 62)):=(Below.refl w.heap.size w).alloc (Nat.le_refl _) _
 refine (Zat _ _ _ _ [v % 4294967296,v / 4294967296] _ (by
  refine Lim.pair2 w _ _ (by omega) ?_ ?_ <;> first | rfl | omega | (simp only [IntKind.wrap_u64];omega)) (by omega)).mono ?_
 rintro e w1 ⟨hb1,neg1,A1,n1,c1,code1,rfl,hR1⟩
 have hz : sg true (val [v % 4294967296,v / 4294967296]) = -(v : Int):=by simp [sg,val];omega
 rw [hz] at hR1;have hW1 : Wd w1 neg1 A1 n1 c1 (-(v : Int)):=hR1.small (Ze8 (by omega));have hB1 : Below w.heap.size w w1:=(hB0.alloc hB0.size _).trans (hb1.mono (by simp;omega));have m7:=Zc hb1 (Blk.alloc (Blk.new w 62 #[.bool false,.slice none 0 0]) _);have m3:=m7.cell 0;have m4:=m7.cell 1;have m5:=m7.frozen 0;have m6:=m7.frozen 1
 simp at m3 m4
 have hlt:=m7.lt;have HM:=Za m7;clear m7 hz hR1;go_wp2_with fail;refine bodyPost_ret (v:=.agg #[.bool neg1,.slice A1 n1 c1]) (by simp [results,Tryz.results61,go_sem,m3,m4,hlt]) rfl ?_;exact (NumW.box hW1 hB1 (Nat.le_refl _) HM.out).alloc _
theorem Zhr (z : Int) (w : World) (h1 : -9223372036854775808 <= z) (h2 : z <= 9223372036854775807) : Calls Tryz.prog 98 #[.int .i64 z] w (NumW w z):=by
 rcases Int.le_total 0 z with h | h
 ·obtain ⟨v,rfl⟩:=Int.eq_ofNat_of_zero_le h
  exact Zmd v w (by omega)
 ·rcases Int.eq_ofNat_of_zero_le (show 0 <= -z by omega) with ⟨v,hv⟩
  obtain rfl : z = -(v : Int):=by omega
  rcases Nat.eq_zero_or_pos v with rfl | h0
  ·exact Zmd 0 w (by omega)
  ·exact Zp9 v w h0 (by omega)
theorem Zce (z : Int) (w : World) (h1 : -9223372036854775808 <= z) (h2 : z <= 9223372036854775807) : Calls Tryz.prog 61 #[.int .i64 z] w (NumW w z):=by
 rcases Int.le_total 0 z with h | h
 ·obtain ⟨v,rfl⟩:=Int.eq_ofNat_of_zero_le h
  exact Zjf v w (by omega)
 ·rcases Int.eq_ofNat_of_zero_le (show 0 <= -z by omega) with ⟨v,hv⟩
  obtain rfl : z = -(v : Int):=by omega
  rcases Nat.eq_zero_or_pos v with rfl | h0
  ·exact Zjf 0 w (by omega)
  ·exact Zom v w h0 (by omega)
theorem Zb5 (neg : Bool) (A : Option Addr) (n c : Nat) (w : World) :
    Calls Tryz.prog 86 #[.agg #[.bool neg,.slice A n c],.int .i64 0] w fun e w'=>e = .returned (.agg #[.bool neg,.slice A n c]) /\ Below w.heap.size w w':=by
 go_enter Tryz.func86,Tryz.ntmps86;go_wp2_with fail;refine bodyPost_ret (v:=.agg #[.bool neg,.slice A n c]) (by simp [results,Tryz.results86,go_sem]) rfl ?_;exact ⟨rfl,by go_grown⟩
theorem Zdx (neg : Bool) (A : Option Addr) (n c : Nat) (w : World) (hn : n <= 1000000000) (b : Bool) (hb : ((n : Int) == 0) = b) :
    Calls Tryz.prog 83 #[.agg #[.bool neg,.slice A n c]] w fun e w'=>e = .returned (.bool b) /\ Below w.heap.size w w':=by
 go_enter Tryz.func83,Tryz.ntmps83;go_wp2_with fail;go_ret;exact ⟨rfl,by go_grown⟩
theorem Zm7 (w : World) : Calls Tryz.prog 126 #[] w (NumW w 1):=by
 have hB0 : ∀ X : Obj,Below w.heap.size w (w.alloc X):=fun X=>(Below.refl w.heap.size w).alloc (Nat.le_refl _) _
 have hB0:=Za hB0;go_enter Tryz.func126,Tryz.ntmps126;go_wp2_with fail;refine (Zhr 1 _ (by omega) (by omega)).mono ?_;rintro e w1 ⟨hb1,neg1,A1,n1,c1,rfl,hw1⟩;have hB1 : Below w.heap.size w w1:=(hB0.out _).trans (hb1.mono (by simp));have m8:=Zc hb1 (Blk.new w 62 #[.bool false,.slice none 0 0]);have m3:=m8.cell 0;have m4:=m8.cell 1;have m5:=m8.frozen 0;have m6:=m8.frozen 1
 simp at m3 m4
 replace m8:=Za m8;go_wp2_with fail;refine bodyPost_ret (v:=.agg #[.bool neg1,.slice A1 n1 c1]) (by simp [results,Tryz.results126,go_sem,m3,m4]) rfl ?_;exact NumW.box hw1 hB1 (Nat.le_refl _) m8.out
theorem Zqm (na nb : Bool) (A B : Option Addr) (n c m d : Nat) (za zb : Int) (w : World) (ha : Wd w na A n c za) (hb : Wd w nb B m d zb) (b : Bool) (he : decide (za = zb) = b) :
    Calls Tryz.prog 137 #[.agg #[.bool na,.slice A n c],.agg #[.bool nb,.slice B m d]] w fun e w'=>e = .returned (.bool b) /\ Below w.heap.size w w':=by
 have hcz : ((Zbc za zb) == 0) = b:=by
  rw [<- he];unfold Zbc
  by_cases h1 : za < zb
  ·rw [if_pos h1];have : za ≠ zb:=by omega
   simp [this]
  ·rw [if_neg h1]
   by_cases h2 : zb < za
   ·rw [if_pos h2];have : za ≠ zb:=by omega
    simp [this]
   ·rw [if_neg h2];have : za = zb:=by omega
    simp [this]
 have HA:=Za ha;have HB:=Za hb;clear ha hb he
 have hB0 : ∀ X Y : Obj,Below w.heap.size w ((w.alloc X).alloc Y):=fun X Y=>((Below.refl w.heap.size w).alloc (Nat.le_refl _) _).alloc (by simp) _
 have hB0:=Za hB0;obtain ⟨cz,hczE⟩ : ∃ cz,Zbc za zb = cz:=⟨_,rfl⟩;rw [hczE] at hcz
 have HC : Hid (∀ W : World,Wd W na A n c za -> Wd W nb B m d zb -> Calls Tryz.prog 113 #[.agg #[.bool na,.slice A n c],.agg #[.bool nb,.slice B m d]] W fun e w'=>e = .returned (.tuple #[.int .i64 cz,.int .i64 0]) /\ Below W.heap.size W w'):=fun W h1 h2=>by
  have:=Zk2 na nb A B n c m d za zb W h1 h2;rw [hczE] at this;exact this
 clear hczE;go_enter Tryz.func137,Tryz.ntmps137;go_wp2_with fail;refine (HC.out _ ((HA.out.alloc _).alloc _) ((HB.out.alloc _).alloc _)).mono ?_;rintro e w1 ⟨rfl,hb1⟩;go_wp2_with fail;go_ret;exact ⟨rfl,(hB0.out _ _).trans (hb1.mono (by simp;omega))⟩
end Go.Proofs.YtkcbhbddgmkoiaaGreat
