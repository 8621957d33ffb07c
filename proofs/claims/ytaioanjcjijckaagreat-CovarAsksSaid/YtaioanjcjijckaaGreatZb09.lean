/- The reference of layer 1: both, sum, Add, Sub, Mul. From, -/
import Derived.BigQuiet
import Derived.Deep.QuietTactic
import Derived.Test.YtaioanjcjijckaaGreatZb08
import Derived.Test.YtaioanjcjijckaaGreatZb07
set_option maxRecDepth 100000
set_option maxHeartbeats 2000000
set_option linter.unusedSimpArgs false
set_option linter.unusedVariables false
namespace Go.Proofs.YtaioanjcjijckaaGreat
open Go.RowKit
attribute [local go_sem] Zf
theorem Za6 {neg:Bool} {A:Option Addr} {n c:Nat} {l:List Nat} {w:World} (h:Lim w A n c l) (hk:okW neg l=true) :
    Calls Tryz.prog 44 #[.agg #[.bool neg,.slice A n c]] w fun e w'=>e=.returned (.int .i64 0)/\Below w.heap.size w w':=
 (Zju neg A n c l w h).mono fun _ _ ⟨he,hb⟩=>⟨by rw [he,hk];rfl,hb⟩
theorem Zi7 {neg:Bool} {A:Option Addr} {n c:Nat} {l:List Nat} {w:World} (h:Lim w A n c l) (hk:okW neg l=false) :
    Calls Tryz.prog 44 #[.agg #[.bool neg,.slice A n c]] w fun e w'=>e=.returned (.int .i64 8)/\Below w.heap.size w w':=
 (Zju neg A n c l w h).mono fun _ _ ⟨he,hb⟩=>⟨by rw [he,hk];rfl,hb⟩
theorem Zd9 {na nb:Bool} {A B:Option Addr} {n c m d:Nat} {la lb:List Nat} {w:World} (hLa:Lim w A n c la) (hLb:Lim w B m d lb) (hk:(okW na la && okW nb lb)=true) :
    Calls Tryz.prog 132 #[.agg #[.bool na,.slice A n c],.agg #[.bool nb,.slice B m d]] w fun e w'=>e=.returned (.int .i64 0)/\Below w.heap.size w w':=by
 have hB0:Below w.heap.size w ((w.alloc (.cells #[.bool na,.slice A n c] 27)).alloc (.cells #[.bool nb,.slice B m d] 27)):=((Below.refl w.heap.size w).alloc (Nat.le_refl _) _).alloc (by simp) _
 obtain ⟨ka,kb⟩:okW na la=true/\okW nb lb=true:=by simpa using hk
 go_enter Tryz.func132,Tryz.ntmps132;go_wp2_with fail;refine (Za6 (hLa.below hB0) (by first | assumption | simp_all)).mono ?_;rintro e w1 ⟨rfl,hb1⟩;obtain ⟨hc1,hf1⟩:=Zca hb1
 have hz1:w.heap.size+1 < w1.heap.size:=by have:=hb1.size;simp at this;omega
 have hB1:Below w.heap.size w w1:=hB0.trans (hb1.mono (by simp;omega))
 have g0:w1.cell? ⟨w.heap.size,0,none⟩=some (.bool na):=by simp [hc1,go_sem]
 have g1:w1.cell? ⟨w.heap.size,1,none⟩=some (.slice A n c):=by simp [hc1,go_sem]
 have g2:w1.cell? ⟨w.heap.size+1,0,none⟩=some (.bool nb):=by simp [hc1,go_sem]
 have g3:w1.cell? ⟨w.heap.size+1,1,none⟩=some (.slice B m d):=by simp [hc1,go_sem]
 clear hc1 hf1;go_wp2_with fail;refine (Za6 (hLb.below hB1) (by first | assumption | simp_all)).mono ?_;rintro e w2 ⟨rfl,hb2⟩;go_wp2_with fail;go_ret;exact ⟨rfl,hB1.trans (hb2.mono hB1.size)⟩
theorem Zeb (na nb:Bool) (A B:Option Addr) (n c m d:Nat) (va vb:Nat) (w:World) (ha:Lim w A n c (digits va)) (hb:Lim w B m d (digits vb)) (hn:n <= 4096) (hm:m <= 4096) :
    Calls Tryz.prog 138 #[.agg #[.bool na,.slice A n c],.agg #[.bool nb,.slice B m d]] w (ResW w (sg na va+sg nb vb)):=by
 have hB0:Below w.heap.size w (((w.alloc (.cells #[.bool na,.slice A n c] 27)).alloc (.cells #[.bool nb,.slice B m d] 27)).alloc (.cells #[.bool false,.slice none 0 0] 27)):=(((Below.refl w.heap.size w).alloc (Nat.le_refl _) _).alloc (by simp) _).alloc (by simp;omega) _;have hB0:=Za hB0;obtain ⟨cv,hcv⟩:∃ x:Int,Zbw (digits va) (digits vb)=x:=⟨_,rfl⟩;have HC:=Za hcv
 have hge:0 <= cv ↔ vb <= va:=by rw [<- hcv];exact Zf5
 have hge:=Za hge;have HLA:=Za ha.len;have HLB:=Za hb.len
 by_cases hs:na=nb
 ·subst hs
  clear hcv
  have HZZ:∀ l:List Nat,val l=val (digits va)+val (digits vb)->sg na (val l)=sg na va+sg na vb:=fun l h=>by rw [h,Zh,Zh,Zir]
  go_enter Tryz.func138,Tryz.ntmps138;go_wp2_with fail;have hB1:Below w.heap.size w (((w.alloc (.cells #[.bool na,.slice A n c] 27)).alloc (.cells #[.bool na,.slice B m d] 27)).alloc (.cells #[.bool false,.slice none 0 0] 27)):=(((Below.refl w.heap.size w).alloc (Nat.le_refl _) _).alloc (by simp) _).alloc (by simp;omega) _;have ha1:=ha.below hB1;have hb1':=hb.below hB1
  have g7:Blk (((w.alloc (.cells #[.bool na,.slice A n c] 27)).alloc (.cells #[.bool na,.slice B m d] 27)).alloc (.cells #[.bool false,.slice none 0 0] 27)) (w.heap.size+1+1) 27 #[.bool false,.slice none 0 0]:=by
   have:=Blk.new ((w.alloc (.cells #[.bool na,.slice A n c] 27)).alloc (.cells #[.bool na,.slice B m d] 27)) 27 #[.bool false,.slice none 0 0];simp only [World.size_alloc] at this;exact this
  generalize hWW:(((w.alloc (.cells #[.bool na,.slice A n c] 27)).alloc (.cells #[.bool na,.slice B m d] 27)).alloc (.cells #[.bool false,.slice none 0 0] 27))=w1 at *
  have g0:w1.cell? ⟨w.heap.size,0,none⟩=some (.bool na):=by rw [<- hWW];simp [go_sem]
  have g1:w1.cell? ⟨w.heap.size,1,none⟩=some (.slice A n c):=by rw [<- hWW];simp [go_sem]
  have g2:w1.cell? ⟨w.heap.size+1,0,none⟩=some (.bool na):=by rw [<- hWW];simp [go_sem]
  have g3:w1.cell? ⟨w.heap.size+1,1,none⟩=some (.slice B m d):=by rw [<- hWW];simp [go_sem]
  have hz1:w.heap.size+1+1 < w1.heap.size:=by rw [<- hWW];simp
  clear hWW;have g5:=g7.cell 0;have g6:=g7.cell 1;have g8:=g7.frozen 0;have g9:=g7.frozen 1
  simp at g5 g6
  go_region_held3 (fun w'=>w'.cell? ⟨w.heap.size,0,none⟩=some (.bool na)/\w'.cell? ⟨w.heap.size,1,none⟩=some (.slice A n c)/\w'.cell? ⟨w.heap.size+1,0,none⟩=some (.bool na)/\w'.cell? ⟨w.heap.size+1,1,none⟩=some (.slice B m d))
   (((try dsimp only);(repeat' apply And.intro);all_goals (first | go_keep | (simp [*,go_sem];done))))
   (first
    | (go_at_call 137;refine (Zl6 _ _ _ _ _ _ _ _ _ (by exact ha1) (by exact hb1') (by omega) (by omega)).mono ?_;rintro e w2 ⟨A2,n2,c2,l2,rfl,hL2,hP2,hb2⟩;have k0:=Zb hb2 g0;have k1:=Zb hb2 g1;have j0:=Zb hb2 g2;have k2:=Zb hb2 g3;have k3:=Zb hb2 g5;have k4:=Zb hb2 g6;have k5:=Zk hb2 g5 g8;have k6:=Zk hb2 g6 g9;have k7:=Zc hb2 g7)
    | (go_at_call 106;refine (Za5 _ _ _ _ _ _ (by exact hL2) (by have:=hL2.len;rw [hP2.1] at this;omega)).mono ?_;rintro e w3 ⟨hb3,neg3,A3,n3,c3,code3,rfl,hR3⟩;have m0:=Zb hb3 k0;have m1:=Zb hb3 k1;have i0:=Zb hb3 j0;have m2:=Zb hb3 k2;have m3:=Zb hb3 k3;have m4:=Zb hb3 k4;have m5:=Zk hb3 k3 k5;have m6:=Zk hb3 k4 k6;have m7:=Zc hb3 k7))
  have hB3:Below w.heap.size w w3:=(hB1.trans ((Zq hb2).mono hB1.size)).trans (hb3.mono (Nat.le_trans hB1.size (Zq hb2).size))
  go_wp2
  have HZ:=HZZ l2 hP2.2;refine bodyPost_ret (v:=.tuple #[.agg #[.bool neg3,.slice A3 n3 c3],.int .i64 code3]) (by simp [results,Tryz.results138,go_sem,m3,m4]) rfl ?_;exact ResW.box (HZ ▸ hR3) hB3 (by omega) m7
 ·have hne:(na == nb)=false:=by simpa using hs
  by_cases hcc:0 <= cv
  ·have hvl:=hge.out.1 hcc
   have HLE:Hid (m <= n):=by have:=Zw hvl;rw [ha.len,hb.len] at this;exact this
   have HVL:Hid (val (digits vb) <= val (digits va)):=by rw [Zh,Zh];exact hvl
   have HZZ:∀ l:List Nat,l=digits (val (digits va) - val (digits vb))->sg na (val l)=sg na va+sg nb vb:=fun l h=>Zem hs (by rw [h,Zh,Zh,Zh];omega)
   have HLL:Hid ((digits (val (digits va) - val (digits vb))).length <= 4096):=by
    have:=Zw (show val (digits va) - val (digits vb) <= va by rw [Zh,Zh];omega);rw [HLA.out] at this;exact Nat.le_trans this hn
   clear hcv hvl hs;go_enter Tryz.func138,Tryz.ntmps138;go_wp2_with fail;refine (Zbg _ _ _ _ _ _ _ _ _ (ha.below hB0.out) (hb.below hB0.out)).mono ?_;rintro e w1 ⟨he1,hb1⟩;rw [HC.out] at he1;subst he1;obtain ⟨hc1,hf1⟩:=Zca hb1
   have hz1:w.heap.size+1+1 < w1.heap.size:=by have:=hb1.size;simp at this;omega
   have hB1:Below w.heap.size w w1:=hB0.out.trans (hb1.mono (by simp;omega))
   have g0:w1.cell? ⟨w.heap.size,0,none⟩=some (.bool na):=by simp [hc1,go_sem]
   have g1:w1.cell? ⟨w.heap.size,1,none⟩=some (.slice A n c):=by simp [hc1,go_sem]
   have g2:w1.cell? ⟨w.heap.size+1,0,none⟩=some (.bool nb):=by simp [hc1,go_sem]
   have g3:w1.cell? ⟨w.heap.size+1,1,none⟩=some (.slice B m d):=by simp [hc1,go_sem]
   have g7:Blk w1 (w.heap.size+1+1) 27 #[.bool false,.slice none 0 0]:=by
    refine Zc hb1 ?_;have:=Blk.new ((w.alloc (.cells #[.bool na,.slice A n c] 27)).alloc (.cells #[.bool nb,.slice B m d] 27)) 27 #[.bool false,.slice none 0 0];simp only [World.size_alloc] at this;exact this
   have g5:=g7.cell 0;have g6:=g7.cell 1;have g8:=g7.frozen 0;have g9:=g7.frozen 1
   simp at g5 g6
   clear hc1 hf1;have ha1:=ha.below hB1;have hb1':=hb.below hB1;go_wp2_with fail
   go_region_held3 (fun w'=>w'.cell? ⟨w.heap.size,0,none⟩=some (.bool na)/\w'.cell? ⟨w.heap.size,1,none⟩=some (.slice A n c)/\w'.cell? ⟨w.heap.size+1,0,none⟩=some (.bool nb)/\w'.cell? ⟨w.heap.size+1,1,none⟩=some (.slice B m d))
    (((try dsimp only);(repeat' apply And.intro);all_goals (first | go_keep | (simp [*,go_sem];done))))
    (first
     | (go_at_call 199;refine (Zkt _ _ _ _ _ _ _ _ _ (by exact ha1) (by exact hb1') HLE.out HVL.out (by omega)).mono ?_;rintro e w2 ⟨A2,n2,c2,l2,rfl,hL2,hP2,hb2⟩;have k0:=Zb hb2 g0;have k1:=Zb hb2 g1;have j0:=Zb hb2 g2;have k2:=Zb hb2 g3;have k3:=Zb hb2 g5;have k4:=Zb hb2 g6;have k5:=Zk hb2 g5 g8;have k6:=Zk hb2 g6 g9;have k7:=Zc hb2 g7)
     | (go_at_call 106;refine (Za5 _ _ _ _ _ _ (by exact hL2) (by have h1:=hL2.len;rw [hP2] at h1;have h2:=HLL.out;omega)).mono ?_;rintro e w3 ⟨hb3,neg3,A3,n3,c3,code3,rfl,hR3⟩;have m0:=Zb hb3 k0;have m1:=Zb hb3 k1;have i0:=Zb hb3 j0;have m2:=Zb hb3 k2;have m3:=Zb hb3 k3;have m4:=Zb hb3 k4;have m5:=Zk hb3 k3 k5;have m6:=Zk hb3 k4 k6;have m7:=Zc hb3 k7))
   have hB3:Below w.heap.size w w3:=(hB1.trans ((Zq hb2).mono hB1.size)).trans (hb3.mono (Nat.le_trans hB1.size (Zq hb2).size))
   go_wp2
   have HZ:=HZZ l2 hP2;refine bodyPost_ret (v:=.tuple #[.agg #[.bool neg3,.slice A3 n3 c3],.int .i64 code3]) (by simp [results,Tryz.results138,go_sem,m3,m4]) rfl ?_;exact ResW.box (HZ ▸ hR3) hB3 (by omega) m7
  ·have hvl:va <= vb:=by
     rcases Nat.lt_or_ge vb va with h | h
     ·exact absurd (hge.out.2 (Nat.le_of_lt h)) hcc
     ·exact h
   have HLE:Hid (n <= m):=by have:=Zw hvl;rw [ha.len,hb.len] at this;exact this
   have HVL:Hid (val (digits va) <= val (digits vb)):=by rw [Zh,Zh];exact hvl
   have HZZ:∀ l:List Nat,l=digits (val (digits vb) - val (digits va))->sg nb (val l)=sg na va+sg nb vb:=fun l h=>by rw [Int.add_comm];exact Zem (Ne.symm hs) (by rw [h,Zh,Zh,Zh];omega)
   have HLL:Hid ((digits (val (digits vb) - val (digits va))).length <= 4096):=by
    have:=Zw (show val (digits vb) - val (digits va) <= vb by rw [Zh,Zh];omega);rw [HLB.out] at this;exact Nat.le_trans this hm
   clear hcv hvl hs;go_enter Tryz.func138,Tryz.ntmps138;go_wp2_with fail;refine (Zbg _ _ _ _ _ _ _ _ _ (ha.below hB0.out) (hb.below hB0.out)).mono ?_;rintro e w1 ⟨he1,hb1⟩;rw [HC.out] at he1;subst he1;obtain ⟨hc1,hf1⟩:=Zca hb1
   have hz1:w.heap.size+1+1 < w1.heap.size:=by have:=hb1.size;simp at this;omega
   have hB1:Below w.heap.size w w1:=hB0.out.trans (hb1.mono (by simp;omega))
   have g0:w1.cell? ⟨w.heap.size,0,none⟩=some (.bool na):=by simp [hc1,go_sem]
   have g1:w1.cell? ⟨w.heap.size,1,none⟩=some (.slice A n c):=by simp [hc1,go_sem]
   have g2:w1.cell? ⟨w.heap.size+1,0,none⟩=some (.bool nb):=by simp [hc1,go_sem]
   have g3:w1.cell? ⟨w.heap.size+1,1,none⟩=some (.slice B m d):=by simp [hc1,go_sem]
   have g7:Blk w1 (w.heap.size+1+1) 27 #[.bool false,.slice none 0 0]:=by
    refine Zc hb1 ?_;have:=Blk.new ((w.alloc (.cells #[.bool na,.slice A n c] 27)).alloc (.cells #[.bool nb,.slice B m d] 27)) 27 #[.bool false,.slice none 0 0];simp only [World.size_alloc] at this;exact this
   have g5:=g7.cell 0;have g6:=g7.cell 1;have g8:=g7.frozen 0;have g9:=g7.frozen 1
   simp at g5 g6
   clear hc1 hf1;have ha1:=ha.below hB1;have hb1':=hb.below hB1;go_wp2_with fail
   go_region_held3 (fun w'=>w'.cell? ⟨w.heap.size,0,none⟩=some (.bool na)/\w'.cell? ⟨w.heap.size,1,none⟩=some (.slice A n c)/\w'.cell? ⟨w.heap.size+1,0,none⟩=some (.bool nb)/\w'.cell? ⟨w.heap.size+1,1,none⟩=some (.slice B m d))
    (((try dsimp only);(repeat' apply And.intro);all_goals (first | go_keep | (simp [*,go_sem];done))))
    (first
     | (go_at_call 199;refine (Zkt _ _ _ _ _ _ _ _ _ (by exact hb1') (by exact ha1) HLE.out HVL.out (by omega)).mono ?_;rintro e w2 ⟨A2,n2,c2,l2,rfl,hL2,hP2,hb2⟩;have k0:=Zb hb2 g0;have k1:=Zb hb2 g1;have j0:=Zb hb2 g2;have k2:=Zb hb2 g3;have k3:=Zb hb2 g5;have k4:=Zb hb2 g6;have k5:=Zk hb2 g5 g8;have k6:=Zk hb2 g6 g9;have k7:=Zc hb2 g7)
     | (go_at_call 106;refine (Za5 _ _ _ _ _ _ (by exact hL2) (by have h1:=hL2.len;rw [hP2] at h1;have h2:=HLL.out;omega)).mono ?_;rintro e w3 ⟨hb3,neg3,A3,n3,c3,code3,rfl,hR3⟩;have m0:=Zb hb3 k0;have m1:=Zb hb3 k1;have i0:=Zb hb3 j0;have m2:=Zb hb3 k2;have m3:=Zb hb3 k3;have m4:=Zb hb3 k4;have m5:=Zk hb3 k3 k5;have m6:=Zk hb3 k4 k6;have m7:=Zc hb3 k7))
   have hB3:Below w.heap.size w w3:=(hB1.trans ((Zq hb2).mono hB1.size)).trans (hb3.mono (Nat.le_trans hB1.size (Zq hb2).size))
   go_wp2
   have HZ:=HZZ l2 hP2;refine bodyPost_ret (v:=.tuple #[.agg #[.bool neg3,.slice A3 n3 c3],.int .i64 code3]) (by simp [results,Tryz.results138,go_sem,m3,m4]) rfl ?_;exact ResW.box (HZ ▸ hR3) hB3 (by omega) m7
def NumW (w:World) (z:Int) (e:Ending) (w':World):Prop:=
 Below w.heap.size w w'/\∃ neg A n c,e=.returned (.agg #[.bool neg,.slice A n c])/\Wd w' neg A n c z
theorem Lim.pair (w:World) (t:TypeId) {v:Nat} (hv:v < 18446744073709551616) {X Y:Int} (hX:X=(v % 4294967296:Nat)) (hY:Y=(v / 4294967296:Nat)) :
    Lim (w.alloc (.cells #[.int .u32 X,.int .u32 Y] t)) (some ⟨w.heap.size,0,none⟩) 2 2 [v % 4294967296,v / 4294967296]:=by
 subst hX hY;exact Lim.of_blk (l:=[v % 4294967296,v / 4294967296]) (Blk.new w t _) (Lt32.cons (Nat.mod_lt _ (by decide)) (Lt32.cons (by omega) Lt32.nil)) (by unfold maxLen;simp)
theorem Lim.pair2 (w:World) (o:Obj) (t:TypeId) {v:Nat} (hv:v < 18446744073709551616) {X Y:Int} (hX:X=(v % 4294967296:Nat)) (hY:Y=(v / 4294967296:Nat)) :
    Lim ((w.alloc o).alloc (.cells #[.int .u32 X,.int .u32 Y] t)) (some ⟨w.heap.size+1,0,none⟩) 2 2 [v % 4294967296,v / 4294967296]:=by
 have:=Lim.pair (w.alloc o) t hv hX hY;rw [World.size_alloc] at this;exact this
theorem Zgh {z:Int} (h:z.natAbs <= 9223372036854775808):z.natAbs < pw 4096:=
 Nat.lt_of_lt_of_le (Nat.lt_of_le_of_lt h (show 9223372036854775808 < pw 2 by decide)) (Zdh (by omega))
theorem ResP.small {w:World} {z:Int} {neg:Bool} {A:Option Addr} {n c:Nat} {code:Int} (h:ResP w z neg A n c code) (hs:z.natAbs < pw 4096):Wd w neg A n c z:=by
 rcases h with ⟨_,_,h⟩ | ⟨h,_⟩
 ·exact h
 ·omega
theorem Wd.alloc {w:World} {neg:Bool} {A:Option Addr} {n c:Nat} {z:Int} (h:Wd w neg A n c z) (o:Obj):Wd (w.alloc o) neg A n c z:=⟨h.1,h.2.1,h.2.2.alloc o⟩
theorem NumW.box {w w3:World} {z:Int} {neg:Bool} {A:Option Addr} {n c:Nat} {g:Nat} {t:TypeId} {b0:Bool} {A0:Option Addr} {n0 c0:Nat} (hP:Wd w3 neg A n c z) (hB:Below w.heap.size w w3) (hg:w.heap.size <= g) (hb:Blk w3 g t #[.bool b0,.slice A0 n0 c0]) :
    NumW w z (.returned (.agg #[.bool neg,.slice A n c])) ((w3.setCell ⟨g,0,none⟩ (.bool neg)).setCell ⟨g,1,none⟩ (.slice A n c)):=by
 have hb1:Blk (w3.setCell ⟨g,0,none⟩ (.bool neg)) g t #[.bool neg,.slice A0 n0 c0]:=hb.set_ 0 (.bool neg);exact ⟨(hB.setCell (p:=⟨g,0,none⟩) hg _).setCell (p:=⟨g,1,none⟩) hg _,_,_,_,_,rfl,hP.1,hP.2.1,(hP.2.2.set_box hb (NoLimb.box _ _ _ _) _ _).set_box hb1 (NoLimb.box _ _ _ _) _ _⟩
theorem NumW.alloc {w w':World} {z:Int} {e:Ending} (h:NumW w z e w') (o:Obj):NumW w z e (w'.alloc o):=by
 obtain ⟨hb,neg,A,n,c,he,hw⟩:=h;exact ⟨hb.alloc hb.size _,neg,A,n,c,he,hw.alloc o⟩
theorem Zn1 (v:Nat) (w:World) (hv:v < 9223372036854775808) :
    Calls Tryz.prog 122 #[.int .i64 v] w (NumW w (v)):=by
 have hd0:decide ((v:Int) < 0)=false:=by simp
 go_enter Tryz.func122,Tryz.ntmps122;go_wp2_with fail;have hB0:Below w.heap.size w (w.alloc (.cells #[.bool false,.slice none 0 0] 27)):=(Below.refl w.heap.size w).alloc (Nat.le_refl _) _
 refine (Zbt _ _ _ _ [v % 4294967296,v / 4294967296] _ (by
  refine Lim.pair2 w _ _ (by omega) ?_ ?_ <;> first | rfl | omega | (simp only [IntKind.wrap_u64];omega))).mono ?_
 rintro e w1 ⟨hb1,neg1,A1,n1,c1,code1,rfl,hR1⟩
 have hz:sg false (val [v % 4294967296,v / 4294967296])=v:=by simp [sg,val];omega
 rw [hz] at hR1;have hW1:Wd w1 neg1 A1 n1 c1 (v):=hR1.small (Zgh (by omega));have hB1:Below w.heap.size w w1:=(hB0.alloc hB0.size _).trans (hb1.mono (by simp;omega));have m7:=Zc hb1 (Blk.alloc (Blk.new w 27 #[.bool false,.slice none 0 0]) _);have m3:=m7.cell 0;have m4:=m7.cell 1;have m5:=m7.frozen 0;have m6:=m7.frozen 1
 simp at m3 m4
 have hlt:=m7.lt;have HM:=Za m7;clear m7 hz hR1;go_wp2_with fail;refine bodyPost_ret (v:=.agg #[.bool neg1,.slice A1 n1 c1]) (by simp [results,Tryz.results122,go_sem,m3,m4,hlt]) rfl ?_;exact (NumW.box hW1 hB1 (Nat.le_refl _) HM.out).alloc _
theorem Ztc (v:Nat) (w:World) (hv0:0 < v) (hv:v <= 9223372036854775808) :
    Calls Tryz.prog 122 #[.int .i64 (-(v:Int))] w (NumW w (-(v:Int))):=by
 have hd0:decide (-(v:Int) < 0)=true:=by simp;omega
 go_enter Tryz.func122,Tryz.ntmps122;go_wp2_with fail;have hB0:Below w.heap.size w (w.alloc (.cells #[.bool false,.slice none 0 0] 27)):=(Below.refl w.heap.size w).alloc (Nat.le_refl _) _
 refine (Zbt _ _ _ _ [v % 4294967296,v / 4294967296] _ (by
  refine Lim.pair2 w _ _ (by omega) ?_ ?_ <;> first | rfl | omega | (simp only [IntKind.wrap_u64];omega))).mono ?_
 rintro e w1 ⟨hb1,neg1,A1,n1,c1,code1,rfl,hR1⟩
 have hz:sg true (val [v % 4294967296,v / 4294967296])=-(v:Int):=by simp [sg,val];omega
 rw [hz] at hR1;have hW1:Wd w1 neg1 A1 n1 c1 (-(v:Int)):=hR1.small (Zgh (by omega));have hB1:Below w.heap.size w w1:=(hB0.alloc hB0.size _).trans (hb1.mono (by simp;omega));have m7:=Zc hb1 (Blk.alloc (Blk.new w 27 #[.bool false,.slice none 0 0]) _);have m3:=m7.cell 0;have m4:=m7.cell 1;have m5:=m7.frozen 0;have m6:=m7.frozen 1
 simp at m3 m4
 have hlt:=m7.lt;have HM:=Za m7;clear m7 hz hR1;go_wp2_with fail;refine bodyPost_ret (v:=.agg #[.bool neg1,.slice A1 n1 c1]) (by simp [results,Tryz.results122,go_sem,m3,m4,hlt]) rfl ?_;exact (NumW.box hW1 hB1 (Nat.le_refl _) HM.out).alloc _
theorem Zlf (v:Nat) (w:World) (hv:v < 9223372036854775808) :
    Calls Tryz.prog 46 #[.int .i64 v] w (NumW w (v)):=by
 have hd0:decide ((v:Int) < 0)=false:=by simp
 go_enter Tryz.func46,Tryz.ntmps46;go_wp2_with fail;have hB0:Below w.heap.size w (w.alloc (.cells #[.bool false,.slice none 0 0] 27)):=(Below.refl w.heap.size w).alloc (Nat.le_refl _) _
 refine (Za5 _ _ _ _ [v % 4294967296,v / 4294967296] _ (by
  refine Lim.pair2 w _ _ (by omega) ?_ ?_ <;> first | rfl | omega | (simp only [IntKind.wrap_u64];omega)) (by omega)).mono ?_
 rintro e w1 ⟨hb1,neg1,A1,n1,c1,code1,rfl,hR1⟩
 have hz:sg false (val [v % 4294967296,v / 4294967296])=v:=by simp [sg,val];omega
 rw [hz] at hR1;have hW1:Wd w1 neg1 A1 n1 c1 (v):=hR1.small (Zgh (by omega));have hB1:Below w.heap.size w w1:=(hB0.alloc hB0.size _).trans (hb1.mono (by simp;omega));have m7:=Zc hb1 (Blk.alloc (Blk.new w 27 #[.bool false,.slice none 0 0]) _);have m3:=m7.cell 0;have m4:=m7.cell 1;have m5:=m7.frozen 0;have m6:=m7.frozen 1
 simp at m3 m4
 have hlt:=m7.lt;have HM:=Za m7;clear m7 hz hR1;go_wp2_with fail;refine bodyPost_ret (v:=.agg #[.bool neg1,.slice A1 n1 c1]) (by simp [results,Tryz.results46,go_sem,m3,m4,hlt]) rfl ?_;exact (NumW.box hW1 hB1 (Nat.le_refl _) HM.out).alloc _
theorem Zsh (v:Nat) (w:World) (hv0:0 < v) (hv:v <= 9223372036854775808) :
    Calls Tryz.prog 46 #[.int .i64 (-(v:Int))] w (NumW w (-(v:Int))):=by
 have hd0:decide (-(v:Int) < 0)=true:=by simp;omega
 go_enter Tryz.func46,Tryz.ntmps46;go_wp2_with fail;have hB0:Below w.heap.size w (w.alloc (.cells #[.bool false,.slice none 0 0] 27)):=(Below.refl w.heap.size w).alloc (Nat.le_refl _) _
 refine (Za5 _ _ _ _ [v % 4294967296,v / 4294967296] _ (by
  refine Lim.pair2 w _ _ (by omega) ?_ ?_ <;> first | rfl | omega | (simp only [IntKind.wrap_u64];omega)) (by omega)).mono ?_
 rintro e w1 ⟨hb1,neg1,A1,n1,c1,code1,rfl,hR1⟩
 have hz:sg true (val [v % 4294967296,v / 4294967296])=-(v:Int):=by simp [sg,val];omega
 rw [hz] at hR1;have hW1:Wd w1 neg1 A1 n1 c1 (-(v:Int)):=hR1.small (Zgh (by omega));have hB1:Below w.heap.size w w1:=(hB0.alloc hB0.size _).trans (hb1.mono (by simp;omega));have m7:=Zc hb1 (Blk.alloc (Blk.new w 27 #[.bool false,.slice none 0 0]) _);have m3:=m7.cell 0;have m4:=m7.cell 1;have m5:=m7.frozen 0;have m6:=m7.frozen 1
 simp at m3 m4
 have hlt:=m7.lt;have HM:=Za m7;clear m7 hz hR1;go_wp2_with fail;refine bodyPost_ret (v:=.agg #[.bool neg1,.slice A1 n1 c1]) (by simp [results,Tryz.results46,go_sem,m3,m4,hlt]) rfl ?_;exact (NumW.box hW1 hB1 (Nat.le_refl _) HM.out).alloc _
theorem Zeh (z:Int) (w:World) (h1:-9223372036854775808 <= z) (h2:z <= 9223372036854775807):Calls Tryz.prog 122 #[.int .i64 z] w (NumW w z):=by
 rcases Int.le_total 0 z with h | h
 ·obtain ⟨v,rfl⟩:=Int.eq_ofNat_of_zero_le h
  exact Zn1 v w (by omega)
 ·rcases Int.eq_ofNat_of_zero_le (show 0 <= -z by omega) with ⟨v,hv⟩
  obtain rfl:z=-(v:Int):=by omega
  rcases Nat.eq_zero_or_pos v with rfl | h0
  ·exact Zn1 0 w (by omega)
  ·exact Ztc v w h0 (by omega)
theorem Zdl (z:Int) (w:World) (h1:-9223372036854775808 <= z) (h2:z <= 9223372036854775807):Calls Tryz.prog 46 #[.int .i64 z] w (NumW w z):=by
 rcases Int.le_total 0 z with h | h
 ·obtain ⟨v,rfl⟩:=Int.eq_ofNat_of_zero_le h
  exact Zlf v w (by omega)
 ·rcases Int.eq_ofNat_of_zero_le (show 0 <= -z by omega) with ⟨v,hv⟩
  obtain rfl:z=-(v:Int):=by omega
  rcases Nat.eq_zero_or_pos v with rfl | h0
  ·exact Zlf 0 w (by omega)
  ·exact Zsh v w h0 (by omega)
theorem Zdd (neg:Bool) (A:Option Addr) (n c:Nat) (w:World) :
    Calls Tryz.prog 185 #[.agg #[.bool neg,.slice A n c],.int .i64 0] w fun e w'=>e=.returned (.agg #[.bool neg,.slice A n c])/\Below w.heap.size w w':=by
 go_enter Tryz.func185,Tryz.ntmps185;go_wp2_with fail;refine bodyPost_ret (v:=.agg #[.bool neg,.slice A n c]) (by simp [results,Tryz.results185,go_sem]) rfl ?_;exact ⟨rfl,by go_grown⟩
theorem Zhu (neg:Bool) (A:Option Addr) (n c:Nat) (w:World) (hn:n <= 1000000000) (b:Bool) (hb:((n:Int) == 0)=b) :
    Calls Tryz.prog 180 #[.agg #[.bool neg,.slice A n c]] w fun e w'=>e=.returned (.bool b)/\Below w.heap.size w w':=by
 go_enter Tryz.func180,Tryz.ntmps180;go_wp2_with fail;go_ret;exact ⟨rfl,by go_grown⟩
theorem one_ok (w:World):Calls Tryz.prog 182 #[] w (NumW w 1):=by
 have hB0:∀ X:Obj,Below w.heap.size w (w.alloc X):=fun X=>(Below.refl w.heap.size w).alloc (Nat.le_refl _) _
 have hB0:=Za hB0;go_enter Tryz.func182,Tryz.ntmps182;go_wp2_with fail;refine (Zeh 1 _ (by omega) (by omega)).mono ?_;rintro e w1 ⟨hb1,neg1,A1,n1,c1,rfl,hw1⟩;have hB1:Below w.heap.size w w1:=(hB0.out _).trans (hb1.mono (by simp));have m8:=Zc hb1 (Blk.new w 27 #[.bool false,.slice none 0 0]);have m3:=m8.cell 0;have m4:=m8.cell 1;have m5:=m8.frozen 0;have m6:=m8.frozen 1
 simp at m3 m4
 replace m8:=Za m8;go_wp2_with fail;refine bodyPost_ret (v:=.agg #[.bool neg1,.slice A1 n1 c1]) (by simp [results,Tryz.results182,go_sem,m3,m4]) rfl ?_;exact NumW.box hw1 hB1 (Nat.le_refl _) m8.out
theorem Ztj (na nb:Bool) (A B:Option Addr) (n c m d:Nat) (za zb:Int) (w:World) (ha:Wd w na A n c za) (hb:Wd w nb B m d zb) (b:Bool) (he:decide (za=zb)=b) :
    Calls Tryz.prog 181 #[.agg #[.bool na,.slice A n c],.agg #[.bool nb,.slice B m d]] w fun e w'=>e=.returned (.bool b)/\Below w.heap.size w w':=by
 have hcz:((Zbo za zb) == 0)=b:=by
  rw [<- he];unfold Zbo
  by_cases h1:za < zb
  ·rw [if_pos h1];have:za ≠ zb:=by omega
   simp [this]
  ·rw [if_neg h1]
   by_cases h2:zb < za
   ·rw [if_pos h2];have:za ≠ zb:=by omega
    simp [this]
   ·rw [if_neg h2];have:za=zb:=by omega
    simp [this]
 have HA:=Za ha;have HB:=Za hb;clear ha hb he
 have hB0:∀ X Y:Obj,Below w.heap.size w ((w.alloc X).alloc Y):=fun X Y=>((Below.refl w.heap.size w).alloc (Nat.le_refl _) _).alloc (by simp) _
 have hB0:=Za hB0;obtain ⟨cz,hczE⟩:∃ cz,Zbo za zb=cz:=⟨_,rfl⟩;rw [hczE] at hcz
 have HC:Hid (∀ W:World,Wd W na A n c za->Wd W nb B m d zb->Calls Tryz.prog 129 #[.agg #[.bool na,.slice A n c],.agg #[.bool nb,.slice B m d]] W fun e w'=>e=.returned (.tuple #[.int .i64 cz,.int .i64 0])/\Below W.heap.size W w'):=fun W h1 h2=>by
  have:=Znb na nb A B n c m d za zb W h1 h2;rw [hczE] at this;exact this
 clear hczE;go_enter Tryz.func181,Tryz.ntmps181;go_wp2_with fail;refine (HC.out _ ((HA.out.alloc _).alloc _) ((HB.out.alloc _).alloc _)).mono ?_;rintro e w1 ⟨rfl,hb1⟩;go_wp2_with fail;go_ret;exact ⟨rfl,(hB0.out _ _).trans (hb1.mono (by simp;omega))⟩
def Low (num den:Int):Prop:=0 < den/\Nat.gcd num.natAbs den.natAbs=1
theorem Zc9 {a b:Nat} {p:Nat} (ha:a < p) (hb:b < p):Nat.gcd a b < p:=by
 rcases Nat.eq_zero_or_pos a with rfl | h
 ·rw [Nat.gcd_zero_left];exact hb
 ·exact Nat.lt_of_le_of_lt (Nat.le_of_dvd h (Nat.gcd_dvd_left a b)) ha
theorem Zi9 (na:Bool) (A B:Option Addr) (n c m d:Nat) (za zb:Int) (w:World) (ha:Wd w na A n c za) (hb:Wd w false B m d zb) (hp:0 < zb) (b:Bool) (hg:decide ((Nat.gcd za.natAbs zb.natAbs:Int)=1)=b) :
    Calls Tryz.prog 116 #[.agg #[.bool na,.slice A n c,.bool false,.slice B m d]] w fun e w'=>e=.returned (.int .i64 (if b then 0 else 8))/\Below w.heap.size w w':=by
 have hm0:0 < m:=by rw [<- hb.lim.len];exact length_digits_pos.2 (by omega)
 have hm0':((m:Int) == 0)=false:=by simp;omega
 have hm:=hb.2.1;have hgs:=Zc9 ha.small hb.small;obtain ⟨G,hG⟩:∃ G,Nat.gcd za.natAbs zb.natAbs=G:=⟨_,rfl⟩;rw [hG] at hg hgs;have HA:=Za ha;have HB:=Za hb
 have HGc:Hid (∀ W:World,Wd W na A n c za->Wd W false B m d zb->Calls Tryz.prog 179 #[.agg #[.bool na,.slice A n c],.agg #[.bool false,.slice B m d]] W (ResW W (G:Int))):=fun W h1 h2=>by
  have:=Zjn na false A B n c m d za zb W h1 h2;rw [hG] at this;exact this
 clear ha hb hG
 have hB0:∀ X:Obj,Below w.heap.size w (w.alloc X):=fun X=>(Below.refl w.heap.size w).alloc (Nat.le_refl _) _
 have hB0:=Za hB0;go_enter Tryz.func116,Tryz.ntmps116;go_wp2_with fail;refine (HGc.out _ (HA.out.alloc _) (HB.out.alloc _)).mono ?_;rintro e w1 ⟨hb1,ng,Ag,kg,cg,code,rfl,hR⟩
 rcases hR with ⟨-,rfl,hgw⟩ | ⟨hbig,-⟩
 case inr=>exact absurd hbig (by omega)
 obtain ⟨hc1,hf1⟩:=Zca hb1
 have hz1:w.heap.size < w1.heap.size:=by have:=hb1.size;simp at this;omega
 have hB1:Below w.heap.size w w1:=(hB0.out _).trans (hb1.mono (by simp))
 have g2:w1.cell? ⟨w.heap.size,2,none⟩=some (.bool false):=by simp [hc1,go_sem]
 have g3:w1.cell? ⟨w.heap.size,3,none⟩=some (.slice B m d):=by simp [hc1,go_sem]
 have hbA:Below w1.heap.size w1 (w1.alloc (.cells #[.bool ng,.slice Ag kg cg] 27)):=(Below.refl _ _).alloc (Nat.le_refl _) _;have bg:=Za (Blk.new w1 27 #[.bool ng,.slice Ag kg cg]);have a2:=Zb hbA g2;have a3:=Zb hbA g3;have hgw2:=Za (hgw.alloc (.cells #[.bool ng,.slice Ag kg cg] 27));have hB2:=Za (hB1.trans (hbA.mono hB1.size));clear hc1 hf1 g2 g3 hgw;go_wp2_with fail
 generalize w1.alloc _=w2 at *
 have p0:=bg.out.cell 0;have p1:=bg.out.cell 1
 simp at p0 p1
 go_region_held3 (fun w'=>w'.cell? ⟨w.heap.size,2,none⟩=some (.bool false)/\w'.cell? ⟨w.heap.size,3,none⟩=some (.slice B m d)/\w'.cell? ⟨w1.heap.size,0,none⟩=some (.bool ng)/\w'.cell? ⟨w1.heap.size,1,none⟩=some (.slice Ag kg cg))
  (((try dsimp only);(repeat' apply And.intro);all_goals (first | go_keep | (simp [*,go_sem];done))))
  (first
   | (go_at_call 180;refine (Zhu _ _ _ _ _ (by omega) _ hm0').mono ?_;rintro e w3 ⟨rfl,hb3⟩;have hb3':=Zq hb3;have k2:=Zb hb3' a2;have k3:=Zb hb3' a3;have k0:=Zb hb3' p0;have k1:=Zb hb3' p1)
   | (go_at_call 182;refine (one_ok _).mono ?_;rintro e w4 ⟨hb4,n4,A4,m4,c4,rfl,hw4⟩;have j2:=Zb hb4 k2;have j3:=Zb hb4 k3;have j0:=Zb hb4 k0;have j1:=Zb hb4 k1)
   | (go_at_call 181;refine (Ztj _ _ _ _ _ _ _ _ _ _ _ ((hgw2.out.below hb3').below hb4) hw4 b hg).mono ?_;rintro e w5 ⟨rfl,hb5⟩;have i2:=Zb hb5 j2;have i3:=Zb hb5 j3;have i0:=Zb hb5 j0;have i1:=Zb hb5 j1))
 have hB5:Hid (Below w.heap.size w w5):=((hB2.out.trans (hb3'.mono hB2.out.size)).trans (hb4.mono (Nat.le_trans hB2.out.size hb3'.size))).trans (hb5.mono (Nat.le_trans hB2.out.size (Nat.le_trans hb3'.size hb4.size)))
 cases b
 ·go_wp2_with fail
  go_ret;exact ⟨rfl,hB5.out⟩
 ·go_wp2_with fail
  go_ret;exact ⟨rfl,hB5.out⟩
def Ze6 (a b:Int):Int:=if b < 0 then -(Nat.gcd a.natAbs b.natAbs:Nat) else (Nat.gcd a.natAbs b.natAbs:Nat)
theorem Zi2 {a b:Int} (h:b ≠ 0):Ze6 a b ≠ 0:=by
 have:0 < Nat.gcd a.natAbs b.natAbs:=Nat.gcd_pos_of_pos_right _ (by omega);unfold Ze6;split <;> omega
theorem Zh2 (a b:Int):((Nat.gcd a.natAbs b.natAbs:Nat):Int) ∣ a:=by
 rw [<- Int.dvd_natAbs];exact Int.ofNat_dvd.2 (Nat.gcd_dvd_left _ _)
theorem Zku (a b:Int):((Nat.gcd a.natAbs b.natAbs:Nat):Int) ∣ b:=by
 rw [<- Int.dvd_natAbs];exact Int.ofNat_dvd.2 (Nat.gcd_dvd_right _ _)
theorem Zsn (a b:Int):Ze6 a b ∣ a:=by
 unfold Ze6;split
 ·exact Int.neg_dvd.2 (Zh2 a b)
 ·exact Zh2 a b
theorem Zso (a b:Int):Ze6 a b ∣ b:=by
 unfold Ze6;split
 ·exact Int.neg_dvd.2 (Zku a b)
 ·exact Zku a b
theorem Zow (a b:Int):Int.gcd b a=Nat.gcd a.natAbs b.natAbs:=by unfold Int.gcd;exact Nat.gcd_comm _ _
theorem Zh1 {a b:Int} (h:b ≠ 0):Int.fdiv a (Ze6 a b)=(Rat.divInt a b).num:=by
 rw [Int.fdiv_eq_ediv_of_dvd (Zsn a b),Rat.num_divInt,Zow];unfold Ze6;obtain ⟨k,hk⟩:=Zh2 a b
 have hg:((Nat.gcd a.natAbs b.natAbs:Nat):Int) ≠ 0:=by
  have:0 < Nat.gcd a.natAbs b.natAbs:=Nat.gcd_pos_of_pos_right _ (by omega);omega
 split
 ·rename_i hb
  rw [Int.ediv_neg,Int.sign_eq_neg_one_of_neg hb,show (-1:Int) * a=-a by omega,Int.neg_ediv_of_dvd (Zh2 a b)]
 ·rw [Int.sign_eq_one_of_pos (by omega),Int.one_mul]
theorem Zhi {a b:Int} (h:b ≠ 0):Int.fdiv b (Ze6 a b)=((Rat.divInt a b).den:Nat):=by
 rw [Int.fdiv_eq_ediv_of_dvd (Zso a b),Rat.den_divInt,Zow,if_neg h];unfold Ze6
 split
 ·rename_i hb
  rw [Int.ediv_neg,<- Int.neg_ediv_of_dvd (Zku a b),show -b=((b.natAbs:Nat):Int) by omega,Int.natCast_ediv]
 ·rw [Int.natCast_ediv,show ((b.natAbs:Nat):Int)=b by omega]
theorem Zq0 (r:Rat):Low r.num r.den:=⟨by have:=r.den_pos;omega,by simpa using r.reduced⟩
theorem rat_low {a b:Int} (h:Low a b):(Rat.divInt a b).num=a/\((Rat.divInt a b).den:Int)=b:=by
 have h0:b ≠ 0:=by have:=h.1;omega
 have hG:Ze6 a b=1:=by unfold Ze6;rw [if_neg (by have:=h.1;omega),h.2];rfl
 rw [<- Zh1 h0,<- Zhi h0,hG]
 simp
def Fr (w:World) (na:Bool) (A:Option Addr) (n c:Nat) (nb:Bool) (B:Option Addr) (m d:Nat) (r:Rat):Prop:=Wd w na A n c r.num/\Wd w nb B m d (r.den:Nat)
theorem Fr.below {w w':World} {na:Bool} {A:Option Addr} {n c:Nat} {nb:Bool} {B:Option Addr} {m d:Nat} {r:Rat} (h:Fr w na A n c nb B m d r) (hb:Below w.heap.size w w'):Fr w' na A n c nb B m d r:=⟨h.1.below hb,h.2.below hb⟩
theorem Fr.neg {w:World} {na:Bool} {A:Option Addr} {n c:Nat} {nb:Bool} {B:Option Addr} {m d:Nat} {r:Rat} (h:Fr w na A n c nb B m d r):nb=false:=by
 have:=h.2.1;rw [this];simp
def Zdi (w:World) (r:Rat) (e:Ending) (w':World):Prop:=
 Below w.heap.size w w'/\∃ na A n c nb B m d,e=.returned (.agg #[.bool na,.slice A n c,.bool nb,.slice B m d])/\Fr w' na A n c nb B m d r
def Zei (w:World) (r:Rat) (e:Ending) (w':World):Prop:=
 Below w.heap.size w w'/\∃ na A n c nb B m d,e=.returned (.tuple #[.agg #[.bool na,.slice A n c,.bool nb,.slice B m d],.int .i64 0])/\Fr w' na A n c nb B m d r
def StepN (w W:World) (g:Nat):Prop:=
 (∀ na A n c z,Wd w na A n c z->Wd W na A n c z)/\(∀ g' t' cs',g' ≠ g->Blk w g' t' cs'->Blk W g' t' cs')/\W.heap.size=w.heap.size
theorem NoLimb.box4 (b:Bool) (A:Option Addr) (n c:Nat) (b':Bool) (A':Option Addr) (n' c':Nat):NoLimb #[.bool b,.slice A n c,.bool b',.slice A' n' c']:=fun i x=>by
 rcases i with _ | _ | _ | _ | i <;> simp
theorem Zaa {t:TypeId} {B:Nat} {w0 w:World} {g:Nat} {b0:Bool} {A0:Option Addr} {n0 c0:Nat} (neg:Bool) (A:Option Addr) (n c:Nat) (hB:Below B w0 w) (hs:B <= g) (hb:Blk w g t #[.bool b0,.slice A0 n0 c0]) :
    ∃ W,(w.setCell ⟨g,0,none⟩ (.bool neg)).setCell ⟨g,1,none⟩ (.slice A n c)=W/\Below B w0 W/\Blk W g t #[.bool neg,.slice A n c]/\StepN w W g:=by
 have hb1:Blk (w.setCell ⟨g,0,none⟩ (.bool neg)) g t #[.bool neg,.slice A0 n0 c0]:=hb.set_ 0 (.bool neg);have hb2:Blk ((w.setCell ⟨g,0,none⟩ (.bool neg)).setCell ⟨g,1,none⟩ (.slice A n c)) g t #[.bool neg,.slice A n c]:=hb1.set_ 1 (.slice A n c);refine ⟨_,rfl,(hB.setCell (p:=⟨g,0,none⟩) hs _).setCell (p:=⟨g,1,none⟩) hs _,hb2,fun na A' n' c' z hW=>⟨hW.1,hW.2.1,(hW.2.2.set_box hb (NoLimb.box _ _ _ _) _ _).set_box hb1 (NoLimb.box _ _ _ _) _ _⟩,fun g' t' cs' hg h=>(h.far hg _).far hg _,by simp⟩
theorem Zv {t:TypeId} {B:Nat} {w0 w:World} {g:Nat} {a0:Bool} {A0:Option Addr} {n0 c0:Nat} {b0:Bool} {B0:Option Addr} {m0 d0:Nat} (na:Bool) (A:Option Addr) (n c:Nat) (nb:Bool) (B':Option Addr) (m d:Nat) (hB:Below B w0 w) (hs:B <= g) (hb:Blk w g t #[.bool a0,.slice A0 n0 c0,.bool b0,.slice B0 m0 d0]) :
    ∃ W,(((w.setCell ⟨g,0,none⟩ (.bool na)).setCell ⟨g,1,none⟩ (.slice A n c)).setCell ⟨g,2,none⟩ (.bool nb)).setCell ⟨g,3,none⟩ (.slice B' m d)=W/\Below B w0 W/\Blk W g t #[.bool na,.slice A n c,.bool nb,.slice B' m d]/\StepN w W g:=by
 have hb1:Blk (w.setCell ⟨g,0,none⟩ (.bool na)) g t #[.bool na,.slice A0 n0 c0,.bool b0,.slice B0 m0 d0]:=hb.set_ 0 (.bool na);have hb2:Blk ((w.setCell ⟨g,0,none⟩ (.bool na)).setCell ⟨g,1,none⟩ (.slice A n c)) g t #[.bool na,.slice A n c,.bool b0,.slice B0 m0 d0]:=hb1.set_ 1 (.slice A n c);have hb3:Blk (((w.setCell ⟨g,0,none⟩ (.bool na)).setCell ⟨g,1,none⟩ (.slice A n c)).setCell ⟨g,2,none⟩ (.bool nb)) g t #[.bool na,.slice A n c,.bool nb,.slice B0 m0 d0]:=hb2.set_ 2 (.bool nb);have hb4:Blk ((((w.setCell ⟨g,0,none⟩ (.bool na)).setCell ⟨g,1,none⟩ (.slice A n c)).setCell ⟨g,2,none⟩ (.bool nb)).setCell ⟨g,3,none⟩ (.slice B' m d)) g t #[.bool na,.slice A n c,.bool nb,.slice B' m d]:=hb3.set_ 3 (.slice B' m d);have hl:=NoLimb.box4;refine ⟨_,rfl,(((hB.setCell (p:=⟨g,0,none⟩) hs _).setCell (p:=⟨g,1,none⟩) hs _).setCell (p:=⟨g,2,none⟩) hs _).setCell (p:=⟨g,3,none⟩) hs _,hb4,fun na A' n' c' z hW=>⟨hW.1,hW.2.1,?_⟩,fun g' t' cs' hg h=>(((h.far hg _).far hg _).far hg _).far hg _,by simp⟩;exact (((hW.2.2.set_box hb (hl _ _ _ _ _ _ _ _) _ _).set_box hb1 (hl _ _ _ _ _ _ _ _) _ _).set_box hb2 (hl _ _ _ _ _ _ _ _) _ _).set_box hb3 (hl _ _ _ _ _ _ _ _) _ _
theorem Blk.two {w:World} {g:Nat} {t:TypeId} {x y:Value} (h:Blk w g t #[x,y]):w.cell? ⟨g,0,none⟩=some x/\w.cell? ⟨g,1,none⟩=some y/\w.frozen? ⟨g,0,none⟩=false/\w.frozen? ⟨g,1,none⟩=false:=
 ⟨h.cell 0,h.cell 1,h.frozen 0,h.frozen 1⟩
theorem Blk.four {w:World} {g:Nat} {t:TypeId} {x y z v:Value} (h:Blk w g t #[x,y,z,v]):w.cell? ⟨g,0,none⟩=some x/\w.cell? ⟨g,1,none⟩=some y/\w.cell? ⟨g,2,none⟩=some z/\w.cell? ⟨g,3,none⟩=some v/\w.frozen? ⟨g,0,none⟩=false/\w.frozen? ⟨g,1,none⟩=false/\w.frozen? ⟨g,2,none⟩=false/\w.frozen? ⟨g,3,none⟩=false:=
 ⟨h.cell 0,h.cell 1,h.cell 2,h.cell 3,h.frozen 0,h.frozen 1,h.frozen 2,h.frozen 3⟩
theorem Z5 {B:Nat} {w0 w:World} (t:TypeId) (cs:Array Value) (hB:Below B w0 w) (hs:B <= w.heap.size) :
    ∃ W,w.alloc (.cells cs t)=W/\Below B w0 W/\Blk W w.heap.size t cs/\(∀ na A n c z,Wd w na A n c z->Wd W na A n c z)/\(∀ g' t' cs',Blk w g' t' cs'->Blk W g' t' cs')/\W.heap.size=w.heap.size+1:=
 ⟨_,rfl,hB.alloc hs _,Blk.new _ _ _,fun _ _ _ _ _ h=>h.alloc _,fun _ _ _ h=>h.alloc _,by simp⟩
theorem Zc7 (w:World) (t0:TypeId) (c0:Array Value) (t1:TypeId) (c1:Array Value) :
    ∃ W,(w.alloc (.cells c0 t0)).alloc (.cells c1 t1)=W/\Below w.heap.size w W/\(Blk W w.heap.size t0 c0/\Blk W (w.heap.size+1) t1 c1)/\W.heap.size=w.heap.size+1+1:=by
 refine ⟨_,rfl,((Below.refl w.heap.size w).alloc (Nat.le_refl _) _).alloc (by simp) _,⟨(Blk.new _ _ _).alloc _,?_⟩,by simp⟩;have:=Blk.new (w.alloc (.cells c0 t0)) t1 c1;simp only [World.size_alloc] at this;exact this
theorem Zb5 (w:World) (t0:TypeId) (c0:Array Value) (t1:TypeId) (c1:Array Value) (t2:TypeId) (c2:Array Value) :
    ∃ W,((w.alloc (.cells c0 t0)).alloc (.cells c1 t1)).alloc (.cells c2 t2)=W/\Below w.heap.size w W/\(Blk W w.heap.size t0 c0/\Blk W (w.heap.size+1) t1 c1/\Blk W (w.heap.size+1+1) t2 c2)/\W.heap.size=w.heap.size+1+1+1:=by
 obtain ⟨W,hW,h1,h2,h3⟩:=Zc7 w t0 c0 t1 c1;refine ⟨_,rfl,?_,⟨?_,?_,?_⟩,by rw [hW];simp [h3]⟩ <;> rw [hW]
 ·exact h1.alloc (by omega) _
 ·exact h2.1.alloc _
 ·exact h2.2.alloc _
 ·rw [<- h3];exact Blk.new _ _ _
theorem Ze9 (w:World) (t0:TypeId) (c0:Array Value) (t1:TypeId) (c1:Array Value) (t2:TypeId) (c2:Array Value) (t3:TypeId) (c3:Array Value) :
    ∃ W,(((w.alloc (.cells c0 t0)).alloc (.cells c1 t1)).alloc (.cells c2 t2)).alloc (.cells c3 t3)=W/\Below w.heap.size w W/\(Blk W w.heap.size t0 c0/\Blk W (w.heap.size+1) t1 c1/\Blk W (w.heap.size+1+1) t2 c2/\Blk W (w.heap.size+1+1+1) t3 c3)/\W.heap.size=w.heap.size+1+1+1+1:=by
 obtain ⟨W,hW,h1,h2,h3⟩:=Zb5 w t0 c0 t1 c1 t2 c2;refine ⟨_,rfl,?_,⟨?_,?_,?_,?_⟩,by rw [hW];simp [h3]⟩ <;> rw [hW]
 ·exact h1.alloc (by omega) _
 ·exact h2.1.alloc _
 ·exact h2.2.1.alloc _
 ·exact h2.2.2.alloc _
 ·rw [<- h3];exact Blk.new _ _ _
theorem Zbu {t:TypeId} {B:Nat} {w0 w:World} {g:Nat} {x0:Int} (x:Int) (hB:Below B w0 w) (hs:B <= g) (hb:Blk w g t #[.int .i64 x0]) :
    ∃ W,w.setCell ⟨g,0,none⟩ (.int .i64 x)=W/\Below B w0 W/\Blk W g t #[.int .i64 x]/\StepN w W g:=by
 have hb1:Blk (w.setCell ⟨g,0,none⟩ (.int .i64 x)) g t #[.int .i64 x]:=hb.set_ 0 (.int .i64 x)
 have hl:NoLimb #[.int .i64 x0]:=fun i x=>by rcases i with _ | i <;> simp
 exact ⟨_,rfl,hB.setCell (p:=⟨g,0,none⟩) hs _,hb1,fun na A' n' c' z hW=>⟨hW.1,hW.2.1,hW.2.2.set_box hb hl _ _⟩,fun g' t' cs' hg h=>h.far hg _,by simp⟩
theorem Zin (A:Option Addr) (n c s:Nat) (l:List Nat) (w:World) (h:Lim w A n c l) (hs:s < 32) (hn9:n <= 1000000) :
    Calls Tryz.prog 196 #[.slice A n c,.int .u64 s] w (fun e w'=>∃ v o,e=.returned v/\OwnL 147 w' w.heap.size v o/\o.length=n+1/\val o=2 ^ s * val l/\Below w.heap.size w w'):=by
 obtain ⟨i0,hi,hz0,hz1,hz2⟩:=info_parts Zco;have hnc:=h.2.1;have hcm:=h.2.2.1;unfold maxLen at hcm;go_enter Tryz.func196,Tryz.ntmps196;go_wp2_with fail
 go_loopw [7,6,5] (fun iv cv ov wr=>∃ i cy:Nat,i <= n/\iv=.int .i64 i/\cv=.int .u64 cy/\LeftP w s l i cy ov wr) (fun iv _ _ _=>n - (intOf iv).toNat)
 case atStart=>exact ⟨0,0,Nat.zero_le _,rfl,rfl,[],OwnL.nil _ _ _,rfl,Nat.pow_pos (by omega),by simp [val],Below.refl _ _⟩
 case round =>
  obtain ⟨i,cy,hin,rfl,rfl,o,hown,hol,hcy,hI,hB⟩:=hrel;replace hol:=Za hol;replace hI:=Za hI
  by_cases hi':i < n
  ·obtain ⟨b,of,rfl,hcell⟩:=(h.below hB).at_ hi'
   have hx:=h.lt.get i;obtain ⟨p,hp⟩:∃ p,2 ^ s=p:=⟨_,rfl⟩
   have hpb:p <= 2147483648:=by rw [<- hp];exact Nat.pow_le_pow_right (by omega) (show s <= 31 by omega)
   have hxb:p * l[i]?.getD 0 <= 2147483648 * 4294967295:=Nat.mul_le_mul hpb (by omega)
   have hor:IntKind.u64.wrap ((cy:Int)+IntKind.u64.wrap (((l[i]?.getD 0:Nat):Int) * 2 ^ s))=((cy+p * l[i]?.getD 0:Nat):Int):=by
    have e1:(((l[i]?.getD 0:Nat):Int) * 2 ^ s)=((p * l[i]?.getD 0:Nat):Int):=by rw [<- hp];push_cast;rw [Int.mul_comm]
    rw [hp] at hcy;rw [e1,IntKind.wrap_u64,IntKind.wrap_u64];omega
   rw [hp] at hcy;replace hp:=Za hp;have hs0:Hid (val (l.take (i+1))=val (l.take i)+pw i * l[i]?.getD 0):=Z7 l i;obtain ⟨x,hxe⟩:∃ x,l[i]?.getD 0=x:=⟨_,rfl⟩;rw [hxe] at hcell hx hxb hor hs0;replace hxe:=Za hxe;obtain ⟨t,ht⟩:∃ t,cy+p * x=t:=⟨_,rfl⟩
   have htb:t / 4294967296 < p:=by
    rw [Nat.div_lt_iff_lt_mul (by omega),<- ht]
    have:p * x+p <= p * 4294967296:=by rw [<- Nat.mul_succ];exact Nat.mul_le_mul_left _ (by omega)
    omega
   have htb2:t < 18446744073709551616:=by omega
   rw [ht] at hor;replace ht:=Za ht;go_wp2_with (go_loud (at_builtin;refine Zu _ rfl (.tmp 23) (.tmp 26) 25 rfl w.heap.size 147 i0 _ 1 4 Tryz.underlying25 hi hz0 hz1 hz2 rfl (by omega) _ i (o.map limb) rfl (by have:=hol.out;subst this;exact hown.1.alloc _) _ _ 1 1 _ rfl (Zbk _ _ _) (by simp [Value.oneCell']) (by simp only [maxLen];omega) (by omega) (by have:=hB.size;simp;omega) ?_;intro v1 w1 hown1 hg1 hat1));have hown2:OwnL 147 w1 w.heap.size v1 (o ++ [t % 4294967296]):=OwnL.snoc (s:=t % 4294967296) hol.out.symm hown1 hown.2 (by omega) (Nat.mod_lt _ (by decide));have hB1:=(hB.alloc hB.size _).grown hg1 (by have:=hB.size;simp;omega) hown.row_ge
   go_roundw
   case rel =>
    refine ⟨i+1,t / 4294967296,by omega,by go_num,by go_num,_,hown2,by rw [List.length_append,hol.out];rfl,by rw [hp.out];exact htb,?_,hB1⟩;rw [Zdv,hol.out,hs0.out,hp.out,Nat.mul_add,Zaq];have h1:=hI.out;rw [hp.out] at h1
    have h2:pw i * (t % 4294967296)+4294967296 * pw i * (t / 4294967296)=pw i * t:=by
     rw [Nat.mul_comm 4294967296 (pw i),Nat.mul_assoc,<- Nat.mul_add,Nat.mod_add_div]
    have h3:p * (pw i * x)=pw i * (p * x):=by rw [Nat.mul_left_comm]
    rw [h3,<- h1,Nat.add_assoc,h2,<- ht.out,Nat.mul_add];omega
   case measure=>simp [intOf];omega
  ·obtain rfl:i=n:=by omega
   have hlen:=Za h.len;have hcy2:cy < 4294967296:=Nat.lt_of_lt_of_le hcy (show 2 ^ s <= 4294967296 from Nat.le_trans (Nat.pow_le_pow_right (by decide) (show s <= 32 by omega)) (by decide))
   have hcm:((cy:Int)) % 4294967296=(cy:Int):=by omega
   clear h;go_wp2_with (go_loud (at_builtin;refine Zu _ rfl (.tmp 30) (.tmp 33) 25 rfl w.heap.size 147 i0 _ 1 4 Tryz.underlying25 hi hz0 hz1 hz2 rfl (by omega) _ i (o.map limb) rfl (by have:=hol.out;subst this;exact hown.1.alloc _) _ _ 1 1 _ rfl (Zbk _ _ _) (by simp [Value.oneCell']) (by simp only [maxLen];omega) (by omega) (by have:=hB.size;simp;omega) ?_;intro v1 w1 hown1 hg1 hat1));have hown2:OwnL 147 w1 w.heap.size v1 (o ++ [cy]):=OwnL.snoc (s:=cy) hol.out.symm hown1 hown.2 (by omega) hcy2;have hB1:=(hB.alloc hB.size _).grown hg1 (by have:=hB.size;simp;omega) hown.row_ge;go_ret;refine ⟨v1,_,rfl,hown2,by rw [List.length_append,hol.out];rfl,?_,hB1⟩;rw [Zdv,hol.out,hI.out,Zab (by rw [hlen.out];exact Nat.le_refl _)]
def RShortR (w:World) (g n D:Nat) (l:List Nat) (k r:Nat) (wr:World):Prop:=
 ∃ o:List Nat,Blk wr g 147 (Zt o)/\o.length=n/\Lt32 o/\r < D/\val (o.drop k) * D+r=val (l.drop k)/\Below w.heap.size w wr
theorem Zke (A:Option Addr) (n c d:Nat) (l:List Nat) (w:World) (hl:Lim w A n c l) (hd0:0 < d) (hd:d < 4294967296) (hn9:n <= 1000000) :
    Calls Tryz.prog 197 #[.slice A n c,limb d] w (Zk4 w (val l) d):=by
 obtain ⟨i0,hi,hz0,hz1,hz2⟩:=info_parts Zco;have hmk:=Zeo (P:=Tryz.prog) 25 147 Tryz.underlying25 hi hz0 hz1 hz2 (n:Int) n rfl (by omega);have hnc:=hl.2.1;have hcm:=hl.2.2.1;unfold maxLen at hcm;have hlen:=Za hl.len
 have hdz:((d:Int) == 0)=false:=by simp;omega
 have hdz':(d:Int) ≠ 0:=by omega
 go_enter Tryz.func197,Tryz.ntmps197;go_wp2_with fail
 go_loopw [8,7] (fun iv rv wr=>∃ k r:Nat,k <= n/\iv=.int .i64 ((k:Int) - 1)/\rv=.int .u64 r/\RShortR w w.heap.size n d l k r wr) (fun iv _ _=>(intOf iv+1).toNat)
 case atStart=>exact ⟨n,0,Nat.le_refl _,rfl,rfl,List.replicate n 0,Blk.new _ _ _,by simp,Lt32.replicate _,hd0,by rw [List.drop_of_length_le (by simp),List.drop_of_length_le (by rw [hlen.out];exact Nat.le_refl _)];simp [val],(Below.refl _ _).alloc (Nat.le_refl _) _⟩
 case round =>
  obtain ⟨k,r,hk,rfl,rfl,o,hblk,hol,hot,hr,hI,hB⟩:=hrel;replace hol:=Za hol;replace hI:=Za hI
  rcases k with _ | k
  ·have hI2:=hI.out
   rw [List.drop_zero,List.drop_zero] at hI2;obtain ⟨e1,e2⟩:=Zmd (U:=val l) (V:=d) (q:=val o) (R:=r) (by omega) hr;have hLo:=Lim.of_blk hblk hot (by rw [hol.out];unfold maxLen;omega);rw [hol.out] at hLo
   have hr32:r < 4294967296:=by omega
   have hrm:((r:Int)) % 4294967296=(r:Int):=by omega
   replace e1:=Za e1;replace e2:=Za e2;clear hI2;go_wp2_with fail;refine (Zdm _ _ _ _ _ hLo (by omega)).mono ?_;rintro e w2 ⟨A2,n2,c2,l2,rfl,hL2,rfl,hb2⟩
   have hLr:∀ t,Lim (w2.alloc (.cells #[limb r] t)) (some ⟨w2.heap.size,0,none⟩) 1 1 [r]:=fun t=>by
    have:=Lim.of_blk (l:=[r]) (Blk.new w2 t (Zt [r])) (Lt32.cons hr32 Lt32.nil) (by simp [maxLen]);exact this
   replace hLr:=Za hLr;go_wp2_with fail;refine (Zdm _ _ _ _ _ (hLr.out _) (by omega)).mono ?_;rintro e w3 ⟨A3,n3,c3,l3,rfl,hL3,hl3,hb3⟩;have hb3':Below w2.heap.size w2 w3:=((Below.refl w2.heap.size w2).alloc (Nat.le_refl _) _).trans (hb3.mono (by simp));replace hl3:=Za hl3;go_wp2_with fail
   go_ret2
   refine ⟨_,_,_,_,_,_,rfl,by rw [<- e1.out];exact hL2.below hb3',?_,(hB.trans (hb2.mono hB.size)).trans (hb3'.mono (Nat.le_trans hB.size hb2.size))⟩;have:=hl3.out;rw [show val [r]=r by simp [val]] at this;rw [<- e2.out,<- this];exact hL3
  ·obtain ⟨b,of,rfl,hcell⟩:=(hl.below hB).at_ (k:=k) (by omega)
   have hx:=hl.lt.get k;have hcg:=hblk.cell k;rw [Zai o k (by rw [hol.out];omega)] at hcg;have hfg:=hblk.frozen k
   have hrb:r * 4294967296+l[k]?.getD 0 < 18446744073709551616:=by omega
   go_wp2_with fail;obtain ⟨x,hxe⟩:∃ x,l[k]?.getD 0=x:=⟨_,rfl⟩;rw [hxe] at hx hrb ⊢
   have e1:((r:Int) * 4294967296+(x:Int)) / (d:Int) % 4294967296=(((r * 4294967296+x) / d:Nat):Int):=by
    have:(r * 4294967296+x) / d < 4294967296:=by
     rw [Nat.div_lt_iff_lt_mul hd0];have:=Nat.mul_le_mul_left 4294967296 (show r+1 <= d by omega);omega
    rw [show ((r:Int) * 4294967296+(x:Int)) / (d:Int)=(((r * 4294967296+x) / d:Nat):Int) by simp]
    generalize (r * 4294967296+x) / d=z at *
    omega
   have e2:((r:Int) * 4294967296+(x:Int)) % (d:Int)=(((r * 4294967296+x) % d:Nat):Int):=by simp
   have hq:(r * 4294967296+x) / d < 4294967296:=by
    rw [Nat.div_lt_iff_lt_mul hd0];have:=Nat.mul_le_mul_left 4294967296 (show r+1 <= d by omega);omega
   have hr':(r * 4294967296+x) % d < d:=Nat.mod_lt _ hd0
   have he:(r * 4294967296+x) / d * d+(r * 4294967296+x) % d=r * 4294967296+x:=by rw [Nat.mul_comm];exact Nat.div_add_mod _ _
   rw [e1,e2]
   generalize (r * 4294967296+x) / d=q at *
   generalize (r * 4294967296+x) % d=r' at *
   refine ⟨⟨k,r',by omega,rfl,rfl,o.set k q,by rw [<- Zbq];exact hblk.set_ _ _,by rw [List.length_set];exact hol.out,hot.set _ hq,hr',?_,hB.setCell (p:=⟨w.heap.size,k,none⟩) (Nat.le_refl _) _⟩,by simp [intOf] <;> omega⟩;exact Zlc (by rw [hol.out];omega) (by rw [hlen.out];omega) hI.out (by rw [hxe];exact he)
end Go.Proofs.YtaioanjcjijckaaGreat
