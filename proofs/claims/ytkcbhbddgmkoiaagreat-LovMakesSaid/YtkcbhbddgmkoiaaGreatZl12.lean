/- The reference of layer 1: plus, minus, times over limbs. -/
import Derived.Test.YtkcbhbddgmkoiaaGreatZl11
set_option maxRecDepth 100000
set_option maxHeartbeats 2000000
set_option linter.unusedSimpArgs false
set_option linter.unusedVariables false
namespace Go.Proofs.YtkcbhbddgmkoiaaGreat
open Go.RowKit
attribute [local go_sem] Zg
def RPlus (w : World) (a b : List Nat) (k carry : Nat) (v : Value) (wr : World) : Prop:=
 ∃ l,OwnL 149 wr w.heap.size v l /\ l.length = k /\ carry <= 1 /\ val l + pw k * carry = val (a.take k) + val (b.take k) /\ Below w.heap.size w wr
theorem RPlus.step {w w1 wb : World} {a b l : List Nat} {k carry : Nat} {v' : Value} {X : Int} {row : Option Nat} (hlen : l.length = k) (hlt : Lt32 l) (hc : carry <= 1)
    (hI : val l + pw k * carry = val (a.take k) + val (b.take k)) (hB : Below w.heap.size w wb) (hown : w1.ownsRow w.heap.size 149 1 v' (k + 1) (l.map limb ++ [.int .u32 X]))
    (hg : wb.grownBy w1 row) (hr : ∀ j,row = some j -> w.heap.size <= j) (ha : a[k]?.getD 0 < 4294967296) (hb : b[k]?.getD 0 < 4294967296)
    (hX : X = ((carry + a[k]?.getD 0 + b[k]?.getD 0) % 4294967296 : Nat)) : RPlus w a b (k + 1) ((carry + a[k]?.getD 0 + b[k]?.getD 0) / 4294967296) v' w1:=by
 refine ⟨l ++ [(carry + a[k]?.getD 0 + b[k]?.getD 0) % 4294967296],OwnL.snoc hlen.symm hown hlt hX (Nat.mod_lt _ (by decide)),by simp [hlen],by omega,?_,hB.grown hg hB.size hr⟩;rw [Zcs,hlen,Zw,Zw,Zah];have e : (carry + a[k]?.getD 0 + b[k]?.getD 0) % 4294967296 + 4294967296 * ((carry + a[k]?.getD 0 + b[k]?.getD 0) / 4294967296) = carry + a[k]?.getD 0 + b[k]?.getD 0:=Nat.mod_add_div _ _
 generalize (carry + a[k]?.getD 0 + b[k]?.getD 0) % 4294967296 = s at *
 generalize (carry + a[k]?.getD 0 + b[k]?.getD 0) / 4294967296 = q at *
 have : pw k * (s + 4294967296 * q) = pw k * (carry + a[k]?.getD 0 + b[k]?.getD 0):=by rw [e]
 grind
theorem RPlus.stop {w w1 wb : World} {a b l : List Nat} {k carry : Nat} {v' : Value} {row : Option Nat} (hlen : l.length = k) (hlt : Lt32 l) (hc : carry <= 1)
    (hI : val l + pw k * carry = val (a.take k) + val (b.take k)) (hB : Below w.heap.size w wb) (hown : w1.ownsRow w.heap.size 149 1 v' (k + 1) (l.map limb ++ [.int .u32 carry]))
    (hg : wb.grownBy w1 row) (hr : ∀ j,row = some j -> w.heap.size <= j) (ha : a.length <= k) (hb : b.length <= k) : OutL w (fun l=>l.length = k + 1 /\ val l = val a + val b) (.returned v') w1:=by
 refine OutL.of_own (OwnL.snoc hlen.symm hown hlt rfl (by omega)) (hB.grown hg hB.size hr) ⟨by simp [hlen],?_⟩;rw [Zcs,hlen,hI,Zy ha,Zy hb]
theorem Zps (A B : Option Addr) (n c m d : Nat) (a b : List Nat) (w : World) (ha : Lim w A n c a) (hb : Lim w B m d b) (hn9 : n <= 1000000000) (hm9 : m <= 1000000000) :
    Calls Tryz.prog 148 #[.slice A n c,.slice B m d] w (OutL w fun l=>l.length = max n m + 1 /\ val l = val a + val b):=by
 obtain ⟨i0,hi,hz0,hz1,hz2⟩:=info_parts Zb0;have hnc:=ha.2.1;have hmd:=hb.2.1;have hcm:=ha.2.2.1;have hdm:=hb.2.2.1;unfold maxLen at hcm hdm;have hla:=Za ha.len;have hlb:=Za hb.len;obtain ⟨N,hN,hN1,hN2,hN9⟩ : ∃ N,N = max n m /\ n <= N /\ m <= N /\ N <= 1000000000:=⟨_,rfl,by omega,by omega,by omega⟩;rw [<- hN];have HN:=Za hN;clear hN;go_enter Tryz.func148,Tryz.ntmps148
 go_wp2
 go_loopw [5,6,7] (fun ov cv iv wr=>∃ k carry : Nat,k <= N /\ cv = .int .u64 carry /\ iv = .int .i64 k /\ RPlus w a b k carry ov wr) (fun _ _ iv _=>N - (intOf iv).toNat)
 case atStart=>exact ⟨0,0,Nat.zero_le _,rfl,rfl,[],OwnL.nil _ _ _,rfl,by omega,by simp [val],Below.refl _ _⟩
 case round =>
  obtain ⟨k,carry,hk,rfl,rfl,l,hown,hlen,hcy,hI,hB⟩:=hrel;have HLen:=Za hlen;have HI:=Za hI;clear hlen hI;have hxa:=ha.lt.get k;have hxb:=hb.lt.get k
  by_cases h1 : k < n
  ·obtain ⟨ba,oa,rfl,hca⟩:=(ha.below hB).at_ h1
   by_cases h2 : k < m
   ·obtain ⟨bb,ob,rfl,hcb⟩:=(hb.below hB).at_ h2
    go_wp2_with (at_builtin;refine Zo _ rfl (.tmp 42) (.tmp 45) 60 rfl w.heap.size 149 i0 _ 1 4 Tryz.underlying60 hi hz0 hz1 hz2 rfl (by omega) _ k (l.map limb) rfl (by have:=HLen.out;subst this;exact hown.1.alloc _) _ _ 1 1 _ rfl (Zau _ _ _) (by simp [Value.oneCell']) (by simp only [maxLen];omega) (by omega) (by have:=hB.size;simp;omega) ?_;intro v1 w1 hown1 hg1 hat1)
    go_roundw
    case rel=>exact ⟨k + 1,_,by omega,by rw [show ((carry : Int) + ((a[k]?.getD 0 : Nat) : Int) + ((b[k]?.getD 0 : Nat) : Int)) / 4294967296 = (((carry + a[k]?.getD 0 + b[k]?.getD 0) / 4294967296 : Nat) : Int) by omega],by go_num,RPlus.step HLen.out hown.2 hcy HI.out (hB.alloc hB.size _) hown1 hg1 hown.row_ge (ha.lt.get k) (hb.lt.get k) (by omega)⟩
    case measure=>simp [intOf];omega
   ·have hb0:=Za (getD_none (l:=b) (i:=k) (by rw [hlb.out];omega))
    go_wp2_with (at_builtin;refine Zo _ rfl (.tmp 42) (.tmp 45) 60 rfl w.heap.size 149 i0 _ 1 4 Tryz.underlying60 hi hz0 hz1 hz2 rfl (by omega) _ k (l.map limb) rfl (by have:=HLen.out;subst this;exact hown.1.alloc _) _ _ 1 1 _ rfl (Zau _ _ _) (by simp [Value.oneCell']) (by simp only [maxLen];omega) (by omega) (by have:=hB.size;simp;omega) ?_;intro v1 w1 hown1 hg1 hat1)
    go_roundw
    case rel=>exact ⟨k + 1,_,by omega,by rw [hb0.out];rw [show ((carry : Int) + ((a[k]?.getD 0 : Nat) : Int)) / 4294967296 = (((carry + a[k]?.getD 0 + 0) / 4294967296 : Nat) : Int) by omega],by go_num,RPlus.step HLen.out hown.2 hcy HI.out (hB.alloc hB.size _) hown1 hg1 hown.row_ge (ha.lt.get k) (hb.lt.get k) (by rw [hb0.out];omega)⟩
    case measure=>simp [intOf];omega
  ·have ha0:=Za (getD_none (l:=a) (i:=k) (by rw [hla.out];omega))
   by_cases h2 : k < m
   ·obtain ⟨bb,ob,rfl,hcb⟩:=(hb.below hB).at_ h2
    go_wp2_with (at_builtin;refine Zo _ rfl (.tmp 42) (.tmp 45) 60 rfl w.heap.size 149 i0 _ 1 4 Tryz.underlying60 hi hz0 hz1 hz2 rfl (by omega) _ k (l.map limb) rfl (by have:=HLen.out;subst this;exact hown.1.alloc _) _ _ 1 1 _ rfl (Zau _ _ _) (by simp [Value.oneCell']) (by simp only [maxLen];omega) (by omega) (by have:=hB.size;simp;omega) ?_;intro v1 w1 hown1 hg1 hat1)
    go_roundw
    case rel=>exact ⟨k + 1,_,by omega,by rw [ha0.out];rw [show ((carry : Int) + ((b[k]?.getD 0 : Nat) : Int)) / 4294967296 = (((carry + 0 + b[k]?.getD 0) / 4294967296 : Nat) : Int) by omega],by go_num,RPlus.step HLen.out hown.2 hcy HI.out (hB.alloc hB.size _) hown1 hg1 hown.row_ge (ha.lt.get k) (hb.lt.get k) (by rw [ha0.out];omega)⟩
    case measure=>simp [intOf];omega
   ·have hkN:=Za (show k = N by have:=HN.out;omega)
    go_wp2_with (at_builtin;refine Zo _ rfl (.tmp 49) (.tmp 52) 60 rfl w.heap.size 149 i0 _ 1 4 Tryz.underlying60 hi hz0 hz1 hz2 rfl (by omega) _ k (l.map limb) rfl (by have:=HLen.out;subst this;exact hown.1.alloc _) _ _ 1 1 _ rfl (Zau _ _ _) (by simp [Value.oneCell']) (by simp only [maxLen];omega) (by omega) (by have:=hB.size;simp;omega) ?_;intro v1 w1 hown1 hg1 hat1);go_ret;rw [<- hkN.out];exact RPlus.stop HLen.out hown.2 hcy HI.out (hB.alloc hB.size _) hown1 hg1 hown.row_ge (by rw [hla.out];omega) (by rw [hlb.out];omega)
theorem Zns (A B : Option Addr) (n c m d : Nat) (a b : List Nat) (w : World) (ha : Lim w A n c a) (hb : Lim w B m d b) (hn : n <= 1000000000) (hm : m <= 1000000000) :
    Calls Tryz.prog 107 #[.slice A n c,.slice B m d] w (OutL w fun l=>l.length = n + m /\ val l = val a * val b):=by
 obtain ⟨i0,hi,hz0,hz1,hz2⟩:=info_parts Zb0;have hmk:=Zeb (P:=Tryz.prog) 60 149 Tryz.underlying60 hi hz0 hz1 hz2 ((n : Int) + m) (n + m) (by omega) (by omega);have hnc:=ha.2.1;have hmd:=hb.2.1;have hcm:=ha.2.2.1;have hdm:=hb.2.2.1;unfold maxLen at hcm hdm;have hal:=Za ha.len;have hbl:=Za hb.len;go_enter Tryz.func107,Tryz.ntmps107
 go_wp2
 go_loopw [6] (fun iv wr=>∃ i : Nat,i <= n /\ iv = .int .i64 i /\ Times1 w a b w.heap.size i 0 0 wr) (fun iv _=>n - (intOf iv).toNat)
 case atStart=>exact ⟨0,Nat.zero_le _,rfl,by have:=Times1.start w a b;rw [ha.len,hb.len] at this;exact this⟩
 case round =>
  obtain ⟨i,hi1,rfl,hP⟩:=hrel
  by_cases hlt1 : i < n
  ·have hB0 : Below w.heap.size w wr:=by obtain ⟨out,h1,h2,h3,h4,h5,h6,h7⟩:=hP;exact h7
   obtain ⟨ba,oa,rfl,hca⟩:=(ha.below hB0).at_ hlt1;have hxa:=ha.lt.get i;obtain ⟨wo,rfl⟩ : ∃ wo : World,wo = wr:=⟨_,rfl⟩
   go_wp2
   go_loopw [7,8] (fun cv kv wr=>∃ k carry : Nat,k <= m /\ cv = .int .u64 carry /\ kv = .int .i64 k /\ Times1 w a b w.heap.size i k carry wr) (fun _ kv _=>m - (intOf kv).toNat)
   case atStart=>exact ⟨0,0,Nat.zero_le _,rfl,rfl,hP⟩
   case round =>
    obtain ⟨k,carry,hk,rfl,rfl,hP⟩:=hrel
    by_cases hlt2 : k < m
    ·obtain ⟨out,hblk,hlen,hlt,hz,hI,hcy,hB⟩:=hP
     have hz:=Za hz;have hI:=Za hI;have hlen:=Za hlen;have hsz:=hblk.lt;obtain ⟨bb,ob,rfl,hcb⟩:=(hb.below hB).at_ hlt2;have hxb:=hb.lt.get k;have hcg:=hblk.cell (i + k);rw [Z7 out (i + k) (by rw [hlen.out,hal.out,hbl.out];omega)] at hcg;have hxo:=hlt.get (i + k);have hfg:=hblk.frozen (i + k);have hca':=(ha.below hB).cell hlt1;have s1 : IntKind.i64.wrap ((i : Int) + (k : Int)) = (i : Int) + (k : Int):=IntWalk.i64_in _ (by omega)
     have s2 : 0 <= (i : Int) + (k : Int):=by omega
     have s3 : ((i : Int) + (k : Int)).toNat = i + k:=by omega
     go_wp2
     go_quiet (fail)
     clear s1 s2 s3
     go_wp2
     go_roundw
     case rel =>
      rw [Zn6 hcy hxa hxb hxo,Zij,Zib];exact ⟨k + 1,_,by omega,rfl,by go_num,Times1.step (wr:=wr.drewN nq) hblk hlen.out hlt hz.out hI.out hcy (Zi hB _) (by rw [hal.out];exact hlt1) (by rw [hbl.out];exact hlt2) ha.lt hb.lt (Nat.mod_lt _ (by decide)) (by omega)⟩
     case measure=>simp [intOf];omega
    ·obtain rfl : k = m:=by omega
     have HR : Hid (Times1 w a b w.heap.size (i + 1) 0 0 (wr.setCell ⟨w.heap.size,i + k,none⟩ (limb carry))):=by
      rw [<- hbl.out] at hP ⊢;exact hP.row (by rw [hal.out];exact hlt1)
     obtain ⟨out,hblk,hlen,hlt,hz,hI,hcy,hB⟩:=hP;have hsz:=hblk.lt;have hcg:=hblk.cell (i + k);rw [Z7 out (i + k) (by rw [hlen,hal.out,hbl.out];omega)] at hcg;have hfg:=hblk.frozen (i + k);clear hz hI hlen hblk
     go_wp2
     go_roundw
     case rel=>exact ⟨i + 1,by omega,by go_num,HR.out⟩
     case measure=>simp [intOf];omega
  ·obtain rfl : i = n:=by omega
   have HF : Hid (OutL w (fun l=>l.length = i + m /\ val l = val a * val b) (.returned (.slice (some ⟨w.heap.size,0,none⟩) (i + m) (i + m))) wr):=by
    rw [<- hbl.out];have h1:=hal.out;subst h1;exact Times1.stop hP (by rw [hbl.out];unfold maxLen;omega) rfl
   clear hP
   go_wp2
   go_ret;exact HF.out
def RMinus (w : World) (a b : List Nat) (k borrow : Nat) (v : Value) (wr : World) : Prop:=
 ∃ l,OwnL 149 wr w.heap.size v l /\ l.length = k /\ borrow <= 1 /\ val l + val (b.take k) = val (a.take k) + pw k * borrow /\ Below w.heap.size w wr
theorem RMinus.step {w w1 wb : World} {a b l : List Nat} {k borrow q s : Nat} {v' : Value} {X : Int} {row : Option Nat} (hlen : l.length = k) (hlt : Lt32 l) (hq : q <= 1)
    (hI : val l + val (b.take k) = val (a.take k) + pw k * borrow) (hB : Below w.heap.size w wb) (hown : w1.ownsRow w.heap.size 149 1 v' (k + 1) (l.map limb ++ [.int .u32 X]))
    (hg : wb.grownBy w1 row) (hr : ∀ j,row = some j -> w.heap.size <= j) (hs : s < 4294967296) (hX : X = s) (he : s + b[k]?.getD 0 + borrow = a[k]?.getD 0 + 4294967296 * q) : RMinus w a b (k + 1) q v' w1:=by
 refine ⟨l ++ [s],OwnL.snoc hlen.symm hown hlt hX hs,by simp [hlen],hq,?_,hB.grown hg hB.size hr⟩;rw [Zcs,hlen,Zw,Zw,Zah]
 have : pw k * (s + b[k]?.getD 0 + borrow) = pw k * (a[k]?.getD 0 + 4294967296 * q):=by rw [he]
 grind
theorem RMinus.stop {w wr : World} {a b : List Nat} {n borrow : Nat} {v : Value} (h : RMinus w a b n borrow v wr) (ha : a.length <= n) (hb : b.length <= n) (hab : val b <= val a) :
    ∃ A c l,v = .slice A n c /\ Lim wr A n c l /\ val l = val a - val b /\ Below w.heap.size w wr:=by
 obtain ⟨l,hown,hlen,hq,hI,hB⟩:=h;obtain ⟨A,c,hv,hL⟩:=hown.lim;rw [hlen] at hv hL;refine ⟨A,c,l,hv,hL,?_,hB⟩;rw [Zy ha,Zy hb] at hI;have:=hL.lt_pw
 rcases Nat.eq_zero_or_pos borrow with h0 | h0
 ·subst h0;omega
 ·have:=Nat.mul_le_mul_left (pw n) h0;omega
theorem Zip (A B : Option Addr) (n c m d : Nat) (a b : List Nat) (w : World) (ha : Lim w A n c a) (hb : Lim w B m d b) (hmn : m <= n) (hab : val b <= val a) (hn9 : n <= 1000000000) :
    Calls Tryz.prog 149 #[.slice A n c,.slice B m d] w (OutL w fun l=>l = digits (val a - val b)):=by
 obtain ⟨i0,hi,hz0,hz1,hz2⟩:=info_parts Zb0;have hnc:=ha.2.1;have hmd:=hb.2.1;have hcm:=ha.2.2.1;have hdm:=hb.2.2.1;unfold maxLen at hcm hdm;have hla:=Za ha.len;have hlb:=Za hb.len;have hab:=Za hab;go_enter Tryz.func149,Tryz.ntmps149
 go_wp2
 go_loopw [5,6,7] (fun ov cv iv wr=>∃ k borrow : Nat,k <= n /\ cv = .int .i64 borrow /\ iv = .int .i64 k /\ RMinus w a b k borrow ov wr) (fun _ _ iv _=>n - (intOf iv).toNat)
 case atStart=>exact ⟨0,0,Nat.zero_le _,rfl,rfl,[],OwnL.nil _ _ _,rfl,by omega,by simp [val],Below.refl _ _⟩
 case round =>
  obtain ⟨k,borrow,hk,rfl,rfl,hP⟩:=hrel
  by_cases h1 : k < n
  ·obtain ⟨l,hown,hlen,hcy,hI,hB⟩:=hP
   have HLen:=Za hlen;have HI:=Za hI;clear hlen hI;have hxa:=ha.lt.get k;have hxb:=hb.lt.get k;obtain ⟨ba,oa,rfl,hca⟩:=(ha.below hB).at_ h1
   by_cases h2 : k < m
   ·obtain ⟨bb,ob,rfl,hcb⟩:=(hb.below hB).at_ h2
    by_cases h3 : a[k]?.getD 0 < borrow + b[k]?.getD 0
    ·go_wp2_with (at_builtin;refine Zo _ rfl (.tmp 37) (.tmp 40) 60 rfl w.heap.size 149 i0 _ 1 4 Tryz.underlying60 hi hz0 hz1 hz2 rfl (by omega) _ k (l.map limb) rfl (by have:=HLen.out;subst this;exact hown.1.alloc _) _ _ 1 1 _ rfl (Zau _ _ _) (by simp [Value.oneCell']) (by simp only [maxLen];omega) (by omega) (by have:=hB.size;simp;omega) ?_;intro v1 w1 hown1 hg1 hat1)
     go_roundw
     case rel=>exact ⟨k + 1,1,by omega,by go_num,by go_num,RMinus.step (s:=a[k]?.getD 0 + 4294967296 - borrow - b[k]?.getD 0) HLen.out hown.2 (by omega) HI.out (hB.alloc hB.size _) hown1 hg1 hown.row_ge (by omega) (by omega) (by omega)⟩
     case measure=>simp [intOf];omega
    ·go_wp2_with (at_builtin;refine Zo _ rfl (.tmp 37) (.tmp 40) 60 rfl w.heap.size 149 i0 _ 1 4 Tryz.underlying60 hi hz0 hz1 hz2 rfl (by omega) _ k (l.map limb) rfl (by have:=HLen.out;subst this;exact hown.1.alloc _) _ _ 1 1 _ rfl (Zau _ _ _) (by simp [Value.oneCell']) (by simp only [maxLen];omega) (by omega) (by have:=hB.size;simp;omega) ?_;intro v1 w1 hown1 hg1 hat1)
     go_roundw
     case rel=>exact ⟨k + 1,0,by omega,by go_num,by go_num,RMinus.step (s:=a[k]?.getD 0 - borrow - b[k]?.getD 0) HLen.out hown.2 (by omega) HI.out (hB.alloc hB.size _) hown1 hg1 hown.row_ge (by omega) (by omega) (by omega)⟩
     case measure=>simp [intOf];omega
   ·have hb0:=Za (getD_none (l:=b) (i:=k) (by rw [hlb.out];omega))
    by_cases h3 : a[k]?.getD 0 < borrow
    ·go_wp2_with (at_builtin;refine Zo _ rfl (.tmp 37) (.tmp 40) 60 rfl w.heap.size 149 i0 _ 1 4 Tryz.underlying60 hi hz0 hz1 hz2 rfl (by omega) _ k (l.map limb) rfl (by have:=HLen.out;subst this;exact hown.1.alloc _) _ _ 1 1 _ rfl (Zau _ _ _) (by simp [Value.oneCell']) (by simp only [maxLen];omega) (by omega) (by have:=hB.size;simp;omega) ?_;intro v1 w1 hown1 hg1 hat1)
     go_roundw
     case rel=>exact ⟨k + 1,1,by omega,by go_num,by go_num,RMinus.step (s:=a[k]?.getD 0 + 4294967296 - borrow) HLen.out hown.2 (by omega) HI.out (hB.alloc hB.size _) hown1 hg1 hown.row_ge (by omega) (by omega) (by rw [hb0.out];omega)⟩
     case measure=>simp [intOf];omega
    ·go_wp2_with (at_builtin;refine Zo _ rfl (.tmp 37) (.tmp 40) 60 rfl w.heap.size 149 i0 _ 1 4 Tryz.underlying60 hi hz0 hz1 hz2 rfl (by omega) _ k (l.map limb) rfl (by have:=HLen.out;subst this;exact hown.1.alloc _) _ _ 1 1 _ rfl (Zau _ _ _) (by simp [Value.oneCell']) (by simp only [maxLen];omega) (by omega) (by have:=hB.size;simp;omega) ?_;intro v1 w1 hown1 hg1 hat1)
     go_roundw
     case rel=>exact ⟨k + 1,0,by omega,by go_num,by go_num,RMinus.step (s:=a[k]?.getD 0 - borrow) HLen.out hown.2 (by omega) HI.out (hB.alloc hB.size _) hown1 hg1 hown.row_ge (by omega) (by omega) (by rw [hb0.out];omega)⟩
     case measure=>simp [intOf];omega
  ·obtain rfl : k = n:=by omega
   obtain ⟨A2,c2,l2,rfl,hL2,hv2,hB⟩:=hP.stop (by rw [hla.out];omega) (by rw [hlb.out];omega) hab.out;have hv2:=Za hv2;clear hP;go_wp2_with (go_at_call 129;refine (Zcl _ _ _ _ _ hL2 hn9).mono ?_;rintro e w3 ⟨A3,n3,c3,l3,rfl,hL3,hl3,hb3⟩);go_ret;exact ⟨_,_,_,_,rfl,hL3,by rw [hl3,hv2.out],hB.trans (hb3.mono hB.size)⟩
end Go.Proofs.YtkcbhbddgmkoiaaGreat
