/- The reference of layer 1: times, minus over limbs. The -/
import Derived.Test.YtaioanjcjijckaaGreatZl11
set_option maxRecDepth 100000
set_option maxHeartbeats 2000000
set_option linter.unusedSimpArgs false
set_option linter.unusedVariables false
namespace Go.Proofs.YtaioanjcjijckaaGreat
open Go.RowKit
attribute [local go_sem] Zg
theorem Zpq (A B : Option Addr) (n c m d : Nat) (a b : List Nat) (w : World) (ha : Lim w A n c a) (hb : Lim w B m d b) (hn : n <= 1000000000) (hm : m <= 1000000000) :
    Calls Tryz.prog 133 #[.slice A n c,.slice B m d] w (OutL w fun l=>l.length = n + m /\ val l = val a * val b):=by
 obtain ⟨i0,hi,hz0,hz1,hz2⟩:=info_parts Zbw;have hmk:=Zdx (P:=Tryz.prog) 25 147 Tryz.underlying25 hi hz0 hz1 hz2 ((n : Int) + m) (n + m) (by omega) (by omega);have hnc:=ha.2.1;have hmd:=hb.2.1;have hcm:=ha.2.2.1;have hdm:=hb.2.2.1;unfold maxLen at hcm hdm;have hal:=Za ha.len;have hbl:=Za hb.len;go_enter Tryz.func133,Tryz.ntmps133
 go_wp2
 go_loopw [6] (fun iv wr=>∃ i : Nat,i <= n /\ iv = .int .i64 i /\ Times1 w a b w.heap.size i 0 0 wr) (fun iv _=>n - (intOf iv).toNat)
 case atStart=>exact ⟨0,Nat.zero_le _,rfl,by have:=Times1.start w a b;rw [ha.len,hb.len] at this;exact this⟩
 case round =>
  obtain ⟨i,hi1,rfl,hP⟩:=hrel
  by_cases hlt1 : i < n
  ·have hB0 : Below w.heap.size w wr:=by obtain ⟨out,h1,h2,h3,h4,h5,h6,h7⟩:=hP;exact h7
   obtain ⟨ba,oa,rfl,hca⟩:=(ha.below hB0).at_ hlt1;have hxa:=ha.lt.get i;obtain ⟨wo,rfl⟩ : ∃ wo : World,wo = wr:=⟨_,rfl⟩
   go_wp2
   go_loopw [7,8] (fun cv kv wr=>∃ k carry : Nat,k <= m /\ cv = .int .u64 carry /\ kv = .int .i64 k /\ Times1 w a b w.heap.size i k carry wr) (fun _ kv _=>m - (intOf kv).toNat)
   case atStart=>exact ⟨0,0,Nat.zero_le _,rfl,rfl,hP⟩
   case round =>
    obtain ⟨k,carry,hk,rfl,rfl,hP⟩:=hrel
    by_cases hlt2 : k < m
    ·obtain ⟨out,hblk,hlen,hlt,hz,hI,hcy,hB⟩:=hP
     have hz:=Za hz;have hI:=Za hI;have hlen:=Za hlen;have hsz:=hblk.lt;obtain ⟨bb,ob,rfl,hcb⟩:=(hb.below hB).at_ hlt2;have hxb:=hb.lt.get k;have hcg:=hblk.cell (i + k);rw [Z7 out (i + k) (by rw [hlen.out,hal.out,hbl.out];omega)] at hcg;have hxo:=hlt.get (i + k);have hfg:=hblk.frozen (i + k);have hca':=(ha.below hB).cell hlt1;have s1 : IntKind.i64.wrap ((i : Int) + (k : Int)) = (i : Int) + (k : Int):=IntWalk.i64_in _ (by omega)
     have s2 : 0 <= (i : Int) + (k : Int):=by omega
     have s3 : ((i : Int) + (k : Int)).toNat = i + k:=by omega
     go_wp2
     go_quiet (fail)
     clear s1 s2 s3
     go_wp2
     go_roundw
     case rel =>
      rw [Zp6 hcy hxa hxb hxo,Zjf,Zi7];exact ⟨k + 1,_,by omega,rfl,by go_num,Times1.step (wr:=wr.drewN nq) hblk hlen.out hlt hz.out hI.out hcy (Zh hB _) (by rw [hal.out];exact hlt1) (by rw [hbl.out];exact hlt2) ha.lt hb.lt (Nat.mod_lt _ (by decide)) (by omega)⟩
     case measure=>simp [intOf];omega
    ·obtain rfl : k = m:=by omega
     have HR : Hid (Times1 w a b w.heap.size (i + 1) 0 0 (wr.setCell ⟨w.heap.size,i + k,none⟩ (limb carry))):=by
      rw [<- hbl.out] at hP ⊢;exact hP.row (by rw [hal.out];exact hlt1)
     obtain ⟨out,hblk,hlen,hlt,hz,hI,hcy,hB⟩:=hP;have hsz:=hblk.lt;have hcg:=hblk.cell (i + k);rw [Z7 out (i + k) (by rw [hlen,hal.out,hbl.out];omega)] at hcg;have hfg:=hblk.frozen (i + k);clear hz hI hlen hblk
     go_wp2
     go_roundw
     case rel=>exact ⟨i + 1,by omega,by go_num,HR.out⟩
     case measure=>simp [intOf];omega
  ·obtain rfl : i = n:=by omega
   have HF : Hid (OutL w (fun l=>l.length = i + m /\ val l = val a * val b) (.returned (.slice (some ⟨w.heap.size,0,none⟩) (i + m) (i + m))) wr):=by
    rw [<- hbl.out];have h1:=hal.out;subst h1;exact Times1.stop hP (by rw [hbl.out];unfold maxLen;omega) rfl
   clear hP
   go_wp2
   go_ret;exact HF.out
def RMinus (w : World) (a b : List Nat) (k borrow : Nat) (v : Value) (wr : World) : Prop:=
 ∃ l,OwnL 147 wr w.heap.size v l /\ l.length = k /\ borrow <= 1 /\ val l + val (b.take k) = val (a.take k) + pw k * borrow /\ Below w.heap.size w wr
theorem RMinus.step {w w1 wb : World} {a b l : List Nat} {k borrow q s : Nat} {v' : Value} {X : Int} {row : Option Nat} (hlen : l.length = k) (hlt : Lt32 l) (hq : q <= 1)
    (hI : val l + val (b.take k) = val (a.take k) + pw k * borrow) (hB : Below w.heap.size w wb) (hown : w1.ownsRow w.heap.size 147 1 v' (k + 1) (l.map limb ++ [.int .u32 X]))
    (hg : wb.grownBy w1 row) (hr : ∀ j,row = some j -> w.heap.size <= j) (hs : s < 4294967296) (hX : X = s) (he : s + b[k]?.getD 0 + borrow = a[k]?.getD 0 + 4294967296 * q) : RMinus w a b (k + 1) q v' w1:=by
 refine ⟨l ++ [s],OwnL.snoc hlen.symm hown hlt hX hs,by simp [hlen],hq,?_,hB.grown hg hB.size hr⟩;rw [Zcd,hlen,Zv,Zv,Zai]
 have : pw k * (s + b[k]?.getD 0 + borrow) = pw k * (a[k]?.getD 0 + 4294967296 * q):=by rw [he]
 grind
theorem RMinus.stop {w wr : World} {a b : List Nat} {n borrow : Nat} {v : Value} (h : RMinus w a b n borrow v wr) (ha : a.length <= n) (hb : b.length <= n) (hab : val b <= val a) :
    ∃ A c l,v = .slice A n c /\ Lim wr A n c l /\ val l = val a - val b /\ Below w.heap.size w wr:=by
 obtain ⟨l,hown,hlen,hq,hI,hB⟩:=h;obtain ⟨A,c,hv,hL⟩:=hown.lim;rw [hlen] at hv hL;refine ⟨A,c,l,hv,hL,?_,hB⟩;rw [Zx ha,Zx hb] at hI;have:=hL.lt_pw
 rcases Nat.eq_zero_or_pos borrow with h0 | h0
 ·subst h0;omega
 ·have:=Nat.mul_le_mul_left (pw n) h0;omega
theorem Zjl (A B : Option Addr) (n c m d : Nat) (a b : List Nat) (w : World) (ha : Lim w A n c a) (hb : Lim w B m d b) (hmn : m <= n) (hab : val b <= val a) (hn9 : n <= 1000000000) :
    Calls Tryz.prog 199 #[.slice A n c,.slice B m d] w (OutL w fun l=>l = digits (val a - val b)):=by
 obtain ⟨i0,hi,hz0,hz1,hz2⟩:=info_parts Zbw;have hnc:=ha.2.1;have hmd:=hb.2.1;have hcm:=ha.2.2.1;have hdm:=hb.2.2.1;unfold maxLen at hcm hdm;have hla:=Za ha.len;have hlb:=Za hb.len;have hab:=Za hab;go_enter Tryz.func199,Tryz.ntmps199
 go_wp2
 go_loopw [5,6,7] (fun ov cv iv wr=>∃ k borrow : Nat,k <= n /\ cv = .int .i64 borrow /\ iv = .int .i64 k /\ RMinus w a b k borrow ov wr) (fun _ _ iv _=>n - (intOf iv).toNat)
 case atStart=>exact ⟨0,0,Nat.zero_le _,rfl,rfl,[],OwnL.nil _ _ _,rfl,by omega,by simp [val],Below.refl _ _⟩
 case round =>
  obtain ⟨k,borrow,hk,rfl,rfl,hP⟩:=hrel
  by_cases h1 : k < n
  ·obtain ⟨l,hown,hlen,hcy,hI,hB⟩:=hP
   have HLen:=Za hlen;have HI:=Za hI;clear hlen hI;have hxa:=ha.lt.get k;have hxb:=hb.lt.get k;obtain ⟨ba,oa,rfl,hca⟩:=(ha.below hB).at_ h1
   by_cases h2 : k < m
   ·obtain ⟨bb,ob,rfl,hcb⟩:=(hb.below hB).at_ h2
    by_cases h3 : a[k]?.getD 0 < borrow + b[k]?.getD 0
    ·go_wp2_with (at_builtin;refine Zo _ rfl (.tmp 37) (.tmp 40) 25 rfl w.heap.size 147 i0 _ 1 4 Tryz.underlying25 hi hz0 hz1 hz2 rfl (by omega) _ k (l.map limb) rfl (by have:=HLen.out;subst this;exact hown.1.alloc _) _ _ 1 1 _ rfl (Zar _ _ _) (by simp [Value.oneCell']) (by simp only [maxLen];omega) (by omega) (by have:=hB.size;simp;omega) ?_;intro v1 w1 hown1 hg1 hat1)
     go_roundw
     case rel=>exact ⟨k + 1,1,by omega,by go_num,by go_num,RMinus.step (s:=a[k]?.getD 0 + 4294967296 - borrow - b[k]?.getD 0) HLen.out hown.2 (by omega) HI.out (hB.alloc hB.size _) hown1 hg1 hown.row_ge (by omega) (by omega) (by omega)⟩
     case measure=>simp [intOf];omega
    ·go_wp2_with (at_builtin;refine Zo _ rfl (.tmp 37) (.tmp 40) 25 rfl w.heap.size 147 i0 _ 1 4 Tryz.underlying25 hi hz0 hz1 hz2 rfl (by omega) _ k (l.map limb) rfl (by have:=HLen.out;subst this;exact hown.1.alloc _) _ _ 1 1 _ rfl (Zar _ _ _) (by simp [Value.oneCell']) (by simp only [maxLen];omega) (by omega) (by have:=hB.size;simp;omega) ?_;intro v1 w1 hown1 hg1 hat1)
     go_roundw
     case rel=>exact ⟨k + 1,0,by omega,by go_num,by go_num,RMinus.step (s:=a[k]?.getD 0 - borrow - b[k]?.getD 0) HLen.out hown.2 (by omega) HI.out (hB.alloc hB.size _) hown1 hg1 hown.row_ge (by omega) (by omega) (by omega)⟩
     case measure=>simp [intOf];omega
   ·have hb0:=Za (getD_none (l:=b) (i:=k) (by rw [hlb.out];omega))
    by_cases h3 : a[k]?.getD 0 < borrow
    ·go_wp2_with (at_builtin;refine Zo _ rfl (.tmp 37) (.tmp 40) 25 rfl w.heap.size 147 i0 _ 1 4 Tryz.underlying25 hi hz0 hz1 hz2 rfl (by omega) _ k (l.map limb) rfl (by have:=HLen.out;subst this;exact hown.1.alloc _) _ _ 1 1 _ rfl (Zar _ _ _) (by simp [Value.oneCell']) (by simp only [maxLen];omega) (by omega) (by have:=hB.size;simp;omega) ?_;intro v1 w1 hown1 hg1 hat1)
     go_roundw
     case rel=>exact ⟨k + 1,1,by omega,by go_num,by go_num,RMinus.step (s:=a[k]?.getD 0 + 4294967296 - borrow) HLen.out hown.2 (by omega) HI.out (hB.alloc hB.size _) hown1 hg1 hown.row_ge (by omega) (by omega) (by rw [hb0.out];omega)⟩
     case measure=>simp [intOf];omega
    ·go_wp2_with (at_builtin;refine Zo _ rfl (.tmp 37) (.tmp 40) 25 rfl w.heap.size 147 i0 _ 1 4 Tryz.underlying25 hi hz0 hz1 hz2 rfl (by omega) _ k (l.map limb) rfl (by have:=HLen.out;subst this;exact hown.1.alloc _) _ _ 1 1 _ rfl (Zar _ _ _) (by simp [Value.oneCell']) (by simp only [maxLen];omega) (by omega) (by have:=hB.size;simp;omega) ?_;intro v1 w1 hown1 hg1 hat1)
     go_roundw
     case rel=>exact ⟨k + 1,0,by omega,by go_num,by go_num,RMinus.step (s:=a[k]?.getD 0 - borrow) HLen.out hown.2 (by omega) HI.out (hB.alloc hB.size _) hown1 hg1 hown.row_ge (by omega) (by omega) (by rw [hb0.out];omega)⟩
     case measure=>simp [intOf];omega
  ·obtain rfl : k = n:=by omega
   obtain ⟨A2,c2,l2,rfl,hL2,hv2,hB⟩:=hP.stop (by rw [hla.out];omega) (by rw [hlb.out];omega) hab.out;have hv2:=Za hv2;clear hP;go_wp2_with (go_at_call 174;refine (Zct _ _ _ _ _ hL2 hn9).mono ?_;rintro e w3 ⟨A3,n3,c3,l3,rfl,hL3,hl3,hb3⟩);go_ret;exact ⟨_,_,_,_,rfl,hL3,by rw [hl3,hv2.out],hB.trans (hb3.mono hB.size)⟩
theorem Zae {neg : Bool} {A : Option Addr} {n c : Nat} {l : List Nat} {w : World} (h : Lim w A n c l) (hk : okW neg l = true) :
    Calls Tryz.prog 44 #[.agg #[.bool neg,.slice A n c]] w fun e w'=>e = .returned (.int .i64 0) /\ Below w.heap.size w w':=
 (Zjb neg A n c l w h).mono fun _ _ ⟨he,hb⟩=>⟨by rw [he,hk];rfl,hb⟩
theorem Zib {neg : Bool} {A : Option Addr} {n c : Nat} {l : List Nat} {w : World} (h : Lim w A n c l) (hk : okW neg l = false) :
    Calls Tryz.prog 44 #[.agg #[.bool neg,.slice A n c]] w fun e w'=>e = .returned (.int .i64 8) /\ Below w.heap.size w w':=
 (Zjb neg A n c l w h).mono fun _ _ ⟨he,hb⟩=>⟨by rw [he,hk];rfl,hb⟩
theorem Zdh {na nb : Bool} {A B : Option Addr} {n c m d : Nat} {la lb : List Nat} {w : World} (hLa : Lim w A n c la) (hLb : Lim w B m d lb) (hk : (okW na la && okW nb lb) = true) :
    Calls Tryz.prog 132 #[.agg #[.bool na,.slice A n c],.agg #[.bool nb,.slice B m d]] w fun e w'=>e = .returned (.int .i64 0) /\ Below w.heap.size w w':=by
 have hB0 : Below w.heap.size w ((w.alloc (.cells #[.bool na,.slice A n c] 27)).alloc (.cells #[.bool nb,.slice B m d] 27)):=((Below.refl w.heap.size w).alloc (Nat.le_refl _) _).alloc (by simp) _
 obtain ⟨ka,kb⟩ : okW na la = true /\ okW nb lb = true:=by simpa using hk
 go_enter Tryz.func132,Tryz.ntmps132;go_wp2_with fail;refine (Zae (hLa.below hB0) (by first | assumption | simp_all)).mono ?_;rintro e w1 ⟨rfl,hb1⟩;obtain ⟨hc1,hf1⟩:=Zbd hb1
 have hz1 : w.heap.size + 1 < w1.heap.size:=by have:=hb1.size;simp at this;omega
 have hB1 : Below w.heap.size w w1:=hB0.trans (hb1.mono (by simp;omega))
 have g0 : w1.cell? ⟨w.heap.size,0,none⟩ = some (.bool na):=by simp [hc1,go_sem]
 have g1 : w1.cell? ⟨w.heap.size,1,none⟩ = some (.slice A n c):=by simp [hc1,go_sem]
 have g2 : w1.cell? ⟨w.heap.size + 1,0,none⟩ = some (.bool nb):=by simp [hc1,go_sem]
 have g3 : w1.cell? ⟨w.heap.size + 1,1,none⟩ = some (.slice B m d):=by simp [hc1,go_sem]
 clear hc1 hf1;go_wp2_with fail;refine (Zae (hLb.below hB1) (by first | assumption | simp_all)).mono ?_;rintro e w2 ⟨rfl,hb2⟩;go_wp2_with fail;go_ret;exact ⟨rfl,hB1.trans (hb2.mono hB1.size)⟩
theorem Zdj (na nb : Bool) (A B : Option Addr) (n c m d : Nat) (va vb : Nat) (w : World) (ha : Lim w A n c (digits va)) (hb : Lim w B m d (digits vb)) (hn : n <= 4096) (hm : m <= 4096) :
    Calls Tryz.prog 138 #[.agg #[.bool na,.slice A n c],.agg #[.bool nb,.slice B m d]] w (ResW w (sg na va + sg nb vb)):=by
 have hB0 : Below w.heap.size w (((w.alloc (.cells #[.bool na,.slice A n c] 27)).alloc (.cells #[.bool nb,.slice B m d] 27)).alloc (.cells #[.bool false,.slice none 0 0] 27)):=(((Below.refl w.heap.size w).alloc (Nat.le_refl _) _).alloc (by simp) _).alloc (by simp;omega) _;have hB0:=Za hB0;obtain ⟨cv,hcv⟩ : ∃ x : Int,Za8 (digits va) (digits vb) = x:=⟨_,rfl⟩;have HC:=Za hcv
 have hge : 0 <= cv ↔ vb <= va:=by rw [<- hcv];exact Zew
 have hge:=Za hge;have HLA:=Za ha.len;have HLB:=Za hb.len
 by_cases hs : na = nb
 ·subst hs
  clear hcv
  have HZZ : ∀ l : List Nat,val l = val (digits va) + val (digits vb) -> sg na (val l) = sg na va + sg na vb:=fun l h=>by rw [h,Zf,Zf,Zho]
  go_enter Tryz.func138,Tryz.ntmps138;go_wp2_with fail;have hB1 : Below w.heap.size w (((w.alloc (.cells #[.bool na,.slice A n c] 27)).alloc (.cells #[.bool na,.slice B m d] 27)).alloc (.cells #[.bool false,.slice none 0 0] 27)):=(((Below.refl w.heap.size w).alloc (Nat.le_refl _) _).alloc (by simp) _).alloc (by simp;omega) _;have ha1:=ha.below hB1;have hb1':=hb.below hB1
  have g7 : Blk (((w.alloc (.cells #[.bool na,.slice A n c] 27)).alloc (.cells #[.bool na,.slice B m d] 27)).alloc (.cells #[.bool false,.slice none 0 0] 27)) (w.heap.size + 1 + 1) 27 #[.bool false,.slice none 0 0]:=by
   have:=Blk.new ((w.alloc (.cells #[.bool na,.slice A n c] 27)).alloc (.cells #[.bool na,.slice B m d] 27)) 27 #[.bool false,.slice none 0 0];simp only [World.size_alloc] at this;exact this
  generalize hWW : (((w.alloc (.cells #[.bool na,.slice A n c] 27)).alloc (.cells #[.bool na,.slice B m d] 27)).alloc (.cells #[.bool false,.slice none 0 0] 27)) = w1 at *
  have g0 : w1.cell? ⟨w.heap.size,0,none⟩ = some (.bool na):=by rw [<- hWW];simp [go_sem]
  have g1 : w1.cell? ⟨w.heap.size,1,none⟩ = some (.slice A n c):=by rw [<- hWW];simp [go_sem]
  have g2 : w1.cell? ⟨w.heap.size + 1,0,none⟩ = some (.bool na):=by rw [<- hWW];simp [go_sem]
  have g3 : w1.cell? ⟨w.heap.size + 1,1,none⟩ = some (.slice B m d):=by rw [<- hWW];simp [go_sem]
  have hz1 : w.heap.size + 1 + 1 < w1.heap.size:=by rw [<- hWW];simp
  clear hWW;have g5:=g7.cell 0;have g6:=g7.cell 1;have g8:=g7.frozen 0;have g9:=g7.frozen 1
  simp at g5 g6
  go_region_held3 (fun w'=>w'.cell? ⟨w.heap.size,0,none⟩ = some (.bool na) /\ w'.cell? ⟨w.heap.size,1,none⟩ = some (.slice A n c) /\ w'.cell? ⟨w.heap.size + 1,0,none⟩ = some (.bool na) /\ w'.cell? ⟨w.heap.size + 1,1,none⟩ = some (.slice B m d))
   (((try dsimp only);(repeat' apply And.intro);all_goals (first | go_keep | (simp [*,go_sem];done))))
   (first
    | (go_at_call 137;refine (Zlc _ _ _ _ _ _ _ _ _ (by exact ha1) (by exact hb1') (by omega) (by omega)).mono ?_;rintro e w2 ⟨A2,n2,c2,l2,rfl,hL2,hP2,hb2⟩;have k0:=Zc hb2 g0;have k1:=Zc hb2 g1;have j0:=Zc hb2 g2;have k2:=Zc hb2 g3;have k3:=Zc hb2 g5;have k4:=Zc hb2 g6;have k5:=Zi hb2 g5 g8;have k6:=Zi hb2 g6 g9;have k7:=Zb hb2 g7)
    | (go_at_call 106;refine (Zaq _ _ _ _ _ _ (by exact hL2) (by have:=hL2.len;rw [hP2.1] at this;omega)).mono ?_;rintro e w3 ⟨hb3,neg3,A3,n3,c3,code3,rfl,hR3⟩;have m0:=Zc hb3 k0;have m1:=Zc hb3 k1;have i0:=Zc hb3 j0;have m2:=Zc hb3 k2;have m3:=Zc hb3 k3;have m4:=Zc hb3 k4;have m5:=Zi hb3 k3 k5;have m6:=Zi hb3 k4 k6;have m7:=Zb hb3 k7))
  have hB3 : Below w.heap.size w w3:=(hB1.trans ((Zq hb2).mono hB1.size)).trans (hb3.mono (Nat.le_trans hB1.size (Zq hb2).size))
  go_wp2
  have HZ:=HZZ l2 hP2.2;refine bodyPost_ret (v:=.tuple #[.agg #[.bool neg3,.slice A3 n3 c3],.int .i64 code3]) (by simp [results,Tryz.results138,go_sem,m3,m4]) rfl ?_;exact ResW.box (HZ ▸ hR3) hB3 (by omega) m7
 ·have hne : (na == nb) = false:=by simpa using hs
  by_cases hcc : 0 <= cv
  ·have hvl:=hge.out.1 hcc
   have HLE : Hid (m <= n):=by have:=Zr hvl;rw [ha.len,hb.len] at this;exact this
   have HVL : Hid (val (digits vb) <= val (digits va)):=by rw [Zf,Zf];exact hvl
   have HZZ : ∀ l : List Nat,l = digits (val (digits va) - val (digits vb)) -> sg na (val l) = sg na va + sg nb vb:=fun l h=>Zdp hs (by rw [h,Zf,Zf,Zf];omega)
   have HLL : Hid ((digits (val (digits va) - val (digits vb))).length <= 4096):=by
    have:=Zr (show val (digits va) - val (digits vb) <= va by rw [Zf,Zf];omega);rw [HLA.out] at this;exact Nat.le_trans this hn
   clear hcv hvl hs;go_enter Tryz.func138,Tryz.ntmps138;go_wp2_with fail;refine (Zat _ _ _ _ _ _ _ _ _ (ha.below hB0.out) (hb.below hB0.out)).mono ?_;rintro e w1 ⟨he1,hb1⟩;rw [HC.out] at he1;subst he1;obtain ⟨hc1,hf1⟩:=Zbd hb1
   have hz1 : w.heap.size + 1 + 1 < w1.heap.size:=by have:=hb1.size;simp at this;omega
   have hB1 : Below w.heap.size w w1:=hB0.out.trans (hb1.mono (by simp;omega))
   have g0 : w1.cell? ⟨w.heap.size,0,none⟩ = some (.bool na):=by simp [hc1,go_sem]
   have g1 : w1.cell? ⟨w.heap.size,1,none⟩ = some (.slice A n c):=by simp [hc1,go_sem]
   have g2 : w1.cell? ⟨w.heap.size + 1,0,none⟩ = some (.bool nb):=by simp [hc1,go_sem]
   have g3 : w1.cell? ⟨w.heap.size + 1,1,none⟩ = some (.slice B m d):=by simp [hc1,go_sem]
   have g7 : Blk w1 (w.heap.size + 1 + 1) 27 #[.bool false,.slice none 0 0]:=by
    refine Zb hb1 ?_;have:=Blk.new ((w.alloc (.cells #[.bool na,.slice A n c] 27)).alloc (.cells #[.bool nb,.slice B m d] 27)) 27 #[.bool false,.slice none 0 0];simp only [World.size_alloc] at this;exact this
   have g5:=g7.cell 0;have g6:=g7.cell 1;have g8:=g7.frozen 0;have g9:=g7.frozen 1
   simp at g5 g6
   clear hc1 hf1;have ha1:=ha.below hB1;have hb1':=hb.below hB1;go_wp2_with fail
   go_region_held3 (fun w'=>w'.cell? ⟨w.heap.size,0,none⟩ = some (.bool na) /\ w'.cell? ⟨w.heap.size,1,none⟩ = some (.slice A n c) /\ w'.cell? ⟨w.heap.size + 1,0,none⟩ = some (.bool nb) /\ w'.cell? ⟨w.heap.size + 1,1,none⟩ = some (.slice B m d))
    (((try dsimp only);(repeat' apply And.intro);all_goals (first | go_keep | (simp [*,go_sem];done))))
    (first
     | (go_at_call 199;refine (Zjl _ _ _ _ _ _ _ _ _ (by exact ha1) (by exact hb1') HLE.out HVL.out (by omega)).mono ?_;rintro e w2 ⟨A2,n2,c2,l2,rfl,hL2,hP2,hb2⟩;have k0:=Zc hb2 g0;have k1:=Zc hb2 g1;have j0:=Zc hb2 g2;have k2:=Zc hb2 g3;have k3:=Zc hb2 g5;have k4:=Zc hb2 g6;have k5:=Zi hb2 g5 g8;have k6:=Zi hb2 g6 g9;have k7:=Zb hb2 g7)
     | (go_at_call 106;refine (Zaq _ _ _ _ _ _ (by exact hL2) (by have h1:=hL2.len;rw [hP2] at h1;have h2:=HLL.out;omega)).mono ?_;rintro e w3 ⟨hb3,neg3,A3,n3,c3,code3,rfl,hR3⟩;have m0:=Zc hb3 k0;have m1:=Zc hb3 k1;have i0:=Zc hb3 j0;have m2:=Zc hb3 k2;have m3:=Zc hb3 k3;have m4:=Zc hb3 k4;have m5:=Zi hb3 k3 k5;have m6:=Zi hb3 k4 k6;have m7:=Zb hb3 k7))
   have hB3 : Below w.heap.size w w3:=(hB1.trans ((Zq hb2).mono hB1.size)).trans (hb3.mono (Nat.le_trans hB1.size (Zq hb2).size))
   go_wp2
   have HZ:=HZZ l2 hP2;refine bodyPost_ret (v:=.tuple #[.agg #[.bool neg3,.slice A3 n3 c3],.int .i64 code3]) (by simp [results,Tryz.results138,go_sem,m3,m4]) rfl ?_;exact ResW.box (HZ ▸ hR3) hB3 (by omega) m7
  ·have hvl : va <= vb:=by
     rcases Nat.lt_or_ge vb va with h | h
     ·exact absurd (hge.out.2 (Nat.le_of_lt h)) hcc
     ·exact h
   have HLE : Hid (n <= m):=by have:=Zr hvl;rw [ha.len,hb.len] at this;exact this
   have HVL : Hid (val (digits va) <= val (digits vb)):=by rw [Zf,Zf];exact hvl
   have HZZ : ∀ l : List Nat,l = digits (val (digits vb) - val (digits va)) -> sg nb (val l) = sg na va + sg nb vb:=fun l h=>by rw [Int.add_comm];exact Zdp (Ne.symm hs) (by rw [h,Zf,Zf,Zf];omega)
   have HLL : Hid ((digits (val (digits vb) - val (digits va))).length <= 4096):=by
    have:=Zr (show val (digits vb) - val (digits va) <= vb by rw [Zf,Zf];omega);rw [HLB.out] at this;exact Nat.le_trans this hm
   clear hcv hvl hs;go_enter Tryz.func138,Tryz.ntmps138;go_wp2_with fail;refine (Zat _ _ _ _ _ _ _ _ _ (ha.below hB0.out) (hb.below hB0.out)).mono ?_;rintro e w1 ⟨he1,hb1⟩;rw [HC.out] at he1;subst he1;obtain ⟨hc1,hf1⟩:=Zbd hb1
   have hz1 : w.heap.size + 1 + 1 < w1.heap.size:=by have:=hb1.size;simp at this;omega
   have hB1 : Below w.heap.size w w1:=hB0.out.trans (hb1.mono (by simp;omega))
   have g0 : w1.cell? ⟨w.heap.size,0,none⟩ = some (.bool na):=by simp [hc1,go_sem]
   have g1 : w1.cell? ⟨w.heap.size,1,none⟩ = some (.slice A n c):=by simp [hc1,go_sem]
   have g2 : w1.cell? ⟨w.heap.size + 1,0,none⟩ = some (.bool nb):=by simp [hc1,go_sem]
   have g3 : w1.cell? ⟨w.heap.size + 1,1,none⟩ = some (.slice B m d):=by simp [hc1,go_sem]
   have g7 : Blk w1 (w.heap.size + 1 + 1) 27 #[.bool false,.slice none 0 0]:=by
    refine Zb hb1 ?_;have:=Blk.new ((w.alloc (.cells #[.bool na,.slice A n c] 27)).alloc (.cells #[.bool nb,.slice B m d] 27)) 27 #[.bool false,.slice none 0 0];simp only [World.size_alloc] at this;exact this
   have g5:=g7.cell 0;have g6:=g7.cell 1;have g8:=g7.frozen 0;have g9:=g7.frozen 1
   simp at g5 g6
   clear hc1 hf1;have ha1:=ha.below hB1;have hb1':=hb.below hB1;go_wp2_with fail
   go_region_held3 (fun w'=>w'.cell? ⟨w.heap.size,0,none⟩ = some (.bool na) /\ w'.cell? ⟨w.heap.size,1,none⟩ = some (.slice A n c) /\ w'.cell? ⟨w.heap.size + 1,0,none⟩ = some (.bool nb) /\ w'.cell? ⟨w.heap.size + 1,1,none⟩ = some (.slice B m d))
    (((try dsimp only);(repeat' apply And.intro);all_goals (first | go_keep | (simp [*,go_sem];done))))
    (first
     | (go_at_call 199;refine (Zjl _ _ _ _ _ _ _ _ _ (by exact hb1') (by exact ha1) HLE.out HVL.out (by omega)).mono ?_;rintro e w2 ⟨A2,n2,c2,l2,rfl,hL2,hP2,hb2⟩;have k0:=Zc hb2 g0;have k1:=Zc hb2 g1;have j0:=Zc hb2 g2;have k2:=Zc hb2 g3;have k3:=Zc hb2 g5;have k4:=Zc hb2 g6;have k5:=Zi hb2 g5 g8;have k6:=Zi hb2 g6 g9;have k7:=Zb hb2 g7)
     | (go_at_call 106;refine (Zaq _ _ _ _ _ _ (by exact hL2) (by have h1:=hL2.len;rw [hP2] at h1;have h2:=HLL.out;omega)).mono ?_;rintro e w3 ⟨hb3,neg3,A3,n3,c3,code3,rfl,hR3⟩;have m0:=Zc hb3 k0;have m1:=Zc hb3 k1;have i0:=Zc hb3 j0;have m2:=Zc hb3 k2;have m3:=Zc hb3 k3;have m4:=Zc hb3 k4;have m5:=Zi hb3 k3 k5;have m6:=Zi hb3 k4 k6;have m7:=Zb hb3 k7))
   have hB3 : Below w.heap.size w w3:=(hB1.trans ((Zq hb2).mono hB1.size)).trans (hb3.mono (Nat.le_trans hB1.size (Zq hb2).size))
   go_wp2
   have HZ:=HZZ l2 hP2;refine bodyPost_ret (v:=.tuple #[.agg #[.bool neg3,.slice A3 n3 c3],.int .i64 code3]) (by simp [results,Tryz.results138,go_sem,m3,m4]) rfl ?_;exact ResW.box (HZ ▸ hR3) hB3 (by omega) m7
end Go.Proofs.YtaioanjcjijckaaGreat
