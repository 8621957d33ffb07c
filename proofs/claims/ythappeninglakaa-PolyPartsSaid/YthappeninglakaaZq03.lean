/- The reference of layer 1: made, compare, Same. The -/
import Derived.Test.YthappeninglakaaZq02
set_option maxRecDepth 100000
set_option maxHeartbeats 2000000
set_option linter.unusedSimpArgs false
set_option linter.unusedVariables false
namespace Go.Proofs.Ythappeninglakaa
open Go.RowKit
attribute [local go_sem] Zj
theorem Zax (neg : Bool) (A : Option Addr) (n c : Nat) (l : List Nat) (w : World) (h : Lim w A n c l) (hn9 : n <= 1000000000) :
    Calls Try.prog 66 #[.bool neg,.slice A n c] w (ResW w (sg neg (val l))):=by
 have HI:=Zb (Zs (val l) 4096);have HP:=Zb (@length_digits_pos (val l));go_enter Try.func66,Try.ntmps66;go_wp2_with fail;refine (Zdc _ _ _ _ _ (h.alloc _) hn9).mono ?_;rintro e w1 ⟨A1,n1,c1,l1,rfl,hL,hl1,hb1⟩;subst hl1;have hlen:=Zb hL.len;have hnc:=hL.2.1;have hcm:=hL.2.2.1;unfold maxLen at hcm;have hb0:=Blk.new w 26 #[.bool false,.slice none 0 0];have m7:=Zd hb1 hb0;have hB1 : Below w.heap.size w w1:=((Below.refl w.heap.size w).alloc (Nat.le_refl _) _).trans (hb1.mono (by simp));have m3:=m7.cell 0;have m4:=m7.cell 1;have m5:=m7.frozen 0;have m6:=m7.frozen 1
 simp at m3 m4
 have HM:=Zb m7;clear m7 hb0
 by_cases h1 : n1 <= 4096
 ·by_cases h2 : 0 < n1
  ·have hd : decide (0 < n1) = true:=by simpa using h2
   cases neg
   ·go_wp2_with fail
    refine bodyPost_ret (v:=.tuple #[.agg #[.bool false,.slice A1 n1 c1],.int .i64 0]) (by simp [results,Try.results66,go_sem,m3,m4]) rfl ?_;refine ResW.box (.inl ⟨?_,rfl,?_,h1,?_⟩) hB1 (Nat.le_refl _) HM.out
    ·rw [Z5];exact HI.out.1 (by rw [hlen.out];exact h1)
    ·rw [Zko];rfl
    ·rw [Z5];exact hL
   ·go_wp2_with fail
    refine bodyPost_ret (v:=.tuple #[.agg #[.bool true,.slice A1 n1 c1],.int .i64 0]) (by simp [results,Try.results66,go_sem,m3,m4]) rfl ?_;refine ResW.box (.inl ⟨?_,rfl,?_,h1,?_⟩) hB1 (Nat.le_refl _) HM.out
    ·rw [Z5];exact HI.out.1 (by rw [hlen.out];exact h1)
    ·rw [Zko];have:=HP.out.1 (by rw [hlen.out];exact h2);simp [this]
    ·rw [Z5];exact hL
  ·obtain rfl : n1 = 0:=by omega
   cases neg
   all_goals
    go_wp2_with fail;refine bodyPost_ret (v:=.tuple #[.agg #[.bool false,.slice A1 0 c1],.int .i64 0]) (by simp [results,Try.results66,go_sem,m3,m4]) rfl ?_;refine ResW.box (.inl ⟨?_,rfl,?_,h1,?_⟩) hB1 (Nat.le_refl _) HM.out
    ·rw [Z5];exact HI.out.1 (by rw [hlen.out];exact h1)
    ·rw [Zko]
     have : ¬ 0 < val l:=fun hh=>by have:=HP.out.2 hh;rw [hlen.out] at this;omega
     simp [this]
    ·rw [Z5];exact hL
 ·have hp : pw 4096 <= val l:=by
    rcases Nat.lt_or_ge (val l) (pw 4096) with h' | h'
    ·have:=HI.out.2 h';rw [hlen.out] at this;exact absurd this h1
    ·exact h'
  have HPW:=Zb hp;clear hp;go_wp2_with fail;refine bodyPost_ret (v:=.tuple #[.agg #[.bool false,.slice none 0 0],.int .i64 16]) (by simp [results,Try.results66,go_sem,m3,m4]) rfl ?_;exact ResW.box (.inr ⟨by rw [Z5];exact HPW.out,rfl,rfl,rfl,rfl,rfl⟩) hB1 (Nat.le_refl _) HM.out
theorem Zcm (A B : Option Addr) (n c m d : Nat) (a b : List Nat) (w : World) (ha : Lim w A n c a) (hb : Lim w B m d b) :
    Calls Try.prog 44 #[.slice A n c,.slice B m d] w fun e w'=>e = .returned (.int .i64 (Zce a b)) /\ Below w.heap.size w w':=by
 have hnc:=ha.2.1;have hmd:=hb.2.1;have hcm:=ha.2.2.1;have hdm:=hb.2.2.1;unfold maxLen at hcm hdm
 by_cases h1 : n < m
 ·have hne : (((n : Nat) : Int) != m) = true:=by simp;omega
  have hd : decide (n < m) = true:=by simpa using h1
  have hr : Zce a b = -1:=by unfold Zce;rw [ha.len,hb.len,if_pos h1]
  rw [hr];go_enter Try.func44,Try.ntmps44
  go_wp2
  go_ret;exact ⟨rfl,Below.refl _ _⟩
 by_cases h2 : m < n
 ·have hne : (((n : Nat) : Int) != m) = true:=by simp;omega
  have hd : decide (n < m) = false:=by simpa using h1
  have hr : Zce a b = 1:=by unfold Zce;rw [ha.len,hb.len,if_neg h1,if_pos h2]
  rw [hr];go_enter Try.func44,Try.ntmps44
  go_wp2
  go_ret;exact ⟨rfl,Below.refl _ _⟩
 obtain rfl : n = m:=by omega
 have hne : (((n : Nat) : Int) != n) = false:=by simp
 go_enter Try.func44,Try.ntmps44
 go_wp2
 go_loopw [5] (fun iv wr=>∃ k : Nat,k <= n /\ iv = .int .i64 ((n : Int) - 1 - k) /\ Hid (∀ j,n - k <= j -> j < n -> a[j]?.getD 0 = b[j]?.getD 0) /\ Below w.heap.size w wr) (fun iv _=>(intOf iv + 1).toNat)
 case atStart=>exact ⟨0,Nat.zero_le _,by go_num,fun j h h'=>by omega,Below.refl _ _⟩
 case round =>
  obtain ⟨k,hk,rfl,he,hB⟩:=hrel
  by_cases hlt : k < n
  ·obtain ⟨ba,oa,rfl,hca⟩:=(ha.below hB).at_ (k:=n - 1 - k) (by omega)
   obtain ⟨bb,ob,rfl,hcb⟩:=(hb.below hB).at_ (k:=n - 1 - k) (by omega);have hla:=Zb ha.len;have hlb:=Zb hb.len
   by_cases t1 : a[n - 1 - k]?.getD 0 < b[n - 1 - k]?.getD 0
   ·have hd1 : decide (a[n - 1 - k]?.getD 0 < b[n - 1 - k]?.getD 0) = true:=by simpa using t1
    have HR : Hid (Zce a b = -1):=by
     have:=Zjd ha.len hb.len ha.lt (by omega) (fun j h h'=>he.out j (by omega) h') t1;unfold Hid Zce;rw [ha.len,hb.len];simp [this]
    go_wp2
    go_quiet (fail)
    go_wp2
    go_ret;exact ⟨Zfa HR.out.symm,(by first | exact Zr hB _ | exact Zr (Zr hB _) _)⟩
   ·have hd1 : decide (a[n - 1 - k]?.getD 0 < b[n - 1 - k]?.getD 0) = false:=by simpa using t1
    by_cases t2 : b[n - 1 - k]?.getD 0 < a[n - 1 - k]?.getD 0
    ·have hd2 : decide (b[n - 1 - k]?.getD 0 < a[n - 1 - k]?.getD 0) = true:=by simpa using t2
     have HR : Hid (Zce a b = 1):=by
      have:=Zjd hb.len ha.len hb.lt (by omega) (fun j h h'=>(he.out j (by omega) h').symm) t2;unfold Hid Zce;rw [ha.len,hb.len];simp [this];omega
     go_wp2
     go_quiet (fail)
     go_wp2
     go_quiet (fail)
     go_wp2
     go_ret;exact ⟨Zfa HR.out.symm,(by first | exact Zr hB _ | exact Zr (Zr hB _) _)⟩
    ·have hd2 : decide (b[n - 1 - k]?.getD 0 < a[n - 1 - k]?.getD 0) = false:=by simpa using t2
     have HE : Hid (∀ j,n - (k + 1) <= j -> j < n -> a[j]?.getD 0 = b[j]?.getD 0):=fun j h h'=>by
      rcases Nat.lt_or_ge j (n - k) with h3 | h3
      ·obtain rfl : j = n - 1 - k:=by omega
       omega
      ·exact he.out j h3 h'
     go_wp2
     go_quiet (fail)
     go_wp2
     go_quiet (fail)
     go_wp2
     go_roundw
     case rel=>exact ⟨k + 1,by omega,by go_num,HE,(by first | exact Zr hB _ | exact Zr (Zr hB _) _)⟩
     case measure=>simp [intOf];omega
  ·obtain rfl : k = n:=by omega
   have HR : Hid (Zce a b = 0):=by
    have:=Zsl ha.len hb.len (fun j hj=>he.out j (by omega) hj);unfold Hid;rw [this,Zgf]
   go_wp2
   go_ret;exact ⟨Zfa HR.out.symm,hB⟩
def Zhq (na nb : Bool) (a b : List Nat) : Bool:=(na == nb) && (Zce a b == 0)
theorem Zlh (na nb : Bool) (A B : Option Addr) (n c m d : Nat) (a b : List Nat) (w : World) (ha : Lim w A n c a) (hb : Lim w B m d b) :
    Calls Try.prog 22 #[.agg #[.bool na,.slice A n c],.agg #[.bool nb,.slice B m d]] w fun e w'=>e = .returned (.bool (Zhq na nb a b)) /\ Below w.heap.size w w':=by
 by_cases h : na = nb
 ·subst h
  have hs : Zhq na na a b = (Zce a b == 0):=by simp [Zhq]
  rw [hs]
  generalize hx : Zce a b = x at *
  have HX:=Zb hx;clear hx hs;go_enter Try.func22,Try.ntmps22;go_wp2_with (go_at_call 44;refine (Zcm _ _ _ _ _ _ _ _ _ ((ha.alloc _).alloc _) ((hb.alloc _).alloc _)).mono ?_;rintro e w1 ⟨he,hb1⟩;rw [HX.out] at he;subst he);go_ret;exact ⟨rfl,(((Below.refl w.heap.size w).alloc (Nat.le_refl _) _).alloc (by simp) _).trans (hb1.mono (by simp;omega))⟩
 ·have hne : (na == nb) = false:=by simpa using h
  have hs : Zhq na nb a b = false:=by simp [Zhq,hne]
  rw [hs];clear hs;go_enter Try.func22,Try.ntmps22
  go_wp2
  go_ret;exact ⟨rfl,((Below.refl w.heap.size w).alloc (Nat.le_refl _) _).alloc (by simp) _⟩
def RPlus (w : World) (a b : List Nat) (k carry : Nat) (v : Value) (wr : World) : Prop:=
 ∃ l,OwnL 71 wr w.heap.size v l /\ l.length = k /\ carry <= 1 /\ val l + pw k * carry = val (a.take k) + val (b.take k) /\ Below w.heap.size w wr
theorem RPlus.step {w w1 wb : World} {a b l : List Nat} {k carry : Nat} {v' : Value} {X : Int} {row : Option Nat} (hlen : l.length = k) (hlt : Lt32 l) (hc : carry <= 1)
    (hI : val l + pw k * carry = val (a.take k) + val (b.take k)) (hB : Below w.heap.size w wb) (hown : w1.ownsRow w.heap.size 71 1 v' (k + 1) (l.map limb ++ [.int .u32 X]))
    (hg : wb.grownBy w1 row) (hr : ∀ j,row = some j -> w.heap.size <= j) (ha : a[k]?.getD 0 < 4294967296) (hb : b[k]?.getD 0 < 4294967296)
    (hX : X = ((carry + a[k]?.getD 0 + b[k]?.getD 0) % 4294967296 : Nat)) : RPlus w a b (k + 1) ((carry + a[k]?.getD 0 + b[k]?.getD 0) / 4294967296) v' w1:=by
 refine ⟨l ++ [(carry + a[k]?.getD 0 + b[k]?.getD 0) % 4294967296],OwnL.snoc hlen.symm hown hlt hX (Nat.mod_lt _ (by decide)),by simp [hlen],by omega,?_,hB.grown hg hB.size hr⟩;rw [Zdo,hlen,Zx,Zx,Zal];have e : (carry + a[k]?.getD 0 + b[k]?.getD 0) % 4294967296 + 4294967296 * ((carry + a[k]?.getD 0 + b[k]?.getD 0) / 4294967296) = carry + a[k]?.getD 0 + b[k]?.getD 0:=Nat.mod_add_div _ _
 generalize (carry + a[k]?.getD 0 + b[k]?.getD 0) % 4294967296 = s at *
 generalize (carry + a[k]?.getD 0 + b[k]?.getD 0) / 4294967296 = q at *
 have : pw k * (s + 4294967296 * q) = pw k * (carry + a[k]?.getD 0 + b[k]?.getD 0):=by rw [e]
 grind
theorem RPlus.stop {w w1 wb : World} {a b l : List Nat} {k carry : Nat} {v' : Value} {row : Option Nat} (hlen : l.length = k) (hlt : Lt32 l) (hc : carry <= 1)
    (hI : val l + pw k * carry = val (a.take k) + val (b.take k)) (hB : Below w.heap.size w wb) (hown : w1.ownsRow w.heap.size 71 1 v' (k + 1) (l.map limb ++ [.int .u32 carry]))
    (hg : wb.grownBy w1 row) (hr : ∀ j,row = some j -> w.heap.size <= j) (ha : a.length <= k) (hb : b.length <= k) : OutL w (fun l=>l.length = k + 1 /\ val l = val a + val b) (.returned v') w1:=by
 refine OutL.of_own (OwnL.snoc hlen.symm hown hlt rfl (by omega)) (hB.grown hg hB.size hr) ⟨by simp [hlen],?_⟩;rw [Zdo,hlen,hI,Z1 ha,Z1 hb]
theorem Zr8 (A B : Option Addr) (n c m d : Nat) (a b : List Nat) (w : World) (ha : Lim w A n c a) (hb : Lim w B m d b) (hn9 : n <= 1000000000) (hm9 : m <= 1000000000) :
    Calls Try.prog 83 #[.slice A n c,.slice B m d] w (OutL w fun l=>l.length = max n m + 1 /\ val l = val a + val b):=by
 obtain ⟨i0,hi,hz0,hz1,hz2⟩:=info_parts Zcl;have hnc:=ha.2.1;have hmd:=hb.2.1;have hcm:=ha.2.2.1;have hdm:=hb.2.2.1;unfold maxLen at hcm hdm;have hla:=Zb ha.len;have hlb:=Zb hb.len;obtain ⟨N,hN,hN1,hN2,hN9⟩ : ∃ N,N = max n m /\ n <= N /\ m <= N /\ N <= 1000000000:=⟨_,rfl,by omega,by omega,by omega⟩;rw [<- hN];have HN:=Zb hN;clear hN;go_enter Try.func83,Try.ntmps83
 go_wp2
 go_loopw [5,6,7] (fun ov cv iv wr=>∃ k carry : Nat,k <= N /\ cv = .int .u64 carry /\ iv = .int .i64 k /\ RPlus w a b k carry ov wr) (fun _ _ iv _=>N - (intOf iv).toNat)
 case atStart=>exact ⟨0,0,Nat.zero_le _,rfl,rfl,[],OwnL.nil _ _ _,rfl,by omega,by simp [val],Below.refl _ _⟩
 case round =>
  obtain ⟨k,carry,hk,rfl,rfl,l,hown,hlen,hcy,hI,hB⟩:=hrel;have HLen:=Zb hlen;have HI:=Zb hI;clear hlen hI;have hxa:=ha.lt.get k;have hxb:=hb.lt.get k
  by_cases h1 : k < n
  ·obtain ⟨ba,oa,rfl,hca⟩:=(ha.below hB).at_ h1
   by_cases h2 : k < m
   ·obtain ⟨bb,ob,rfl,hcb⟩:=(hb.below hB).at_ h2
    go_wp2_with (at_builtin;refine Zq _ rfl (.tmp 42) (.tmp 45) 24 rfl w.heap.size 71 i0 _ 1 4 Try.underlying24 hi hz0 hz1 hz2 rfl (by omega) _ k (l.map limb) rfl (by have:=HLen.out;subst this;exact hown.1.alloc _) _ _ 1 1 _ rfl (Za6 _ _ _) (by simp [Value.oneCell']) (by simp only [maxLen];omega) (by omega) (by have:=hB.size;simp;omega) ?_;intro v1 w1 hown1 hg1 hat1)
    go_roundw
    case rel=>exact ⟨k + 1,_,by omega,by rw [show ((carry : Int) + ((a[k]?.getD 0 : Nat) : Int) + ((b[k]?.getD 0 : Nat) : Int)) / 4294967296 = (((carry + a[k]?.getD 0 + b[k]?.getD 0) / 4294967296 : Nat) : Int) by omega],by go_num,RPlus.step HLen.out hown.2 hcy HI.out (hB.alloc hB.size _) hown1 hg1 hown.row_ge (ha.lt.get k) (hb.lt.get k) (by omega)⟩
    case measure=>simp [intOf];omega
   ·have hb0:=Zb (Zbv (l:=b) (i:=k) (by rw [hlb.out];omega))
    go_wp2_with (at_builtin;refine Zq _ rfl (.tmp 42) (.tmp 45) 24 rfl w.heap.size 71 i0 _ 1 4 Try.underlying24 hi hz0 hz1 hz2 rfl (by omega) _ k (l.map limb) rfl (by have:=HLen.out;subst this;exact hown.1.alloc _) _ _ 1 1 _ rfl (Za6 _ _ _) (by simp [Value.oneCell']) (by simp only [maxLen];omega) (by omega) (by have:=hB.size;simp;omega) ?_;intro v1 w1 hown1 hg1 hat1)
    go_roundw
    case rel=>exact ⟨k + 1,_,by omega,by rw [hb0.out];rw [show ((carry : Int) + ((a[k]?.getD 0 : Nat) : Int)) / 4294967296 = (((carry + a[k]?.getD 0 + 0) / 4294967296 : Nat) : Int) by omega],by go_num,RPlus.step HLen.out hown.2 hcy HI.out (hB.alloc hB.size _) hown1 hg1 hown.row_ge (ha.lt.get k) (hb.lt.get k) (by rw [hb0.out];omega)⟩
    case measure=>simp [intOf];omega
  ·have ha0:=Zb (Zbv (l:=a) (i:=k) (by rw [hla.out];omega))
   by_cases h2 : k < m
   ·obtain ⟨bb,ob,rfl,hcb⟩:=(hb.below hB).at_ h2
    go_wp2_with (at_builtin;refine Zq _ rfl (.tmp 42) (.tmp 45) 24 rfl w.heap.size 71 i0 _ 1 4 Try.underlying24 hi hz0 hz1 hz2 rfl (by omega) _ k (l.map limb) rfl (by have:=HLen.out;subst this;exact hown.1.alloc _) _ _ 1 1 _ rfl (Za6 _ _ _) (by simp [Value.oneCell']) (by simp only [maxLen];omega) (by omega) (by have:=hB.size;simp;omega) ?_;intro v1 w1 hown1 hg1 hat1)
    go_roundw
    case rel=>exact ⟨k + 1,_,by omega,by rw [ha0.out];rw [show ((carry : Int) + ((b[k]?.getD 0 : Nat) : Int)) / 4294967296 = (((carry + 0 + b[k]?.getD 0) / 4294967296 : Nat) : Int) by omega],by go_num,RPlus.step HLen.out hown.2 hcy HI.out (hB.alloc hB.size _) hown1 hg1 hown.row_ge (ha.lt.get k) (hb.lt.get k) (by rw [ha0.out];omega)⟩
    case measure=>simp [intOf];omega
   ·have hkN:=Zb (show k = N by have:=HN.out;omega)
    go_wp2_with (at_builtin;refine Zq _ rfl (.tmp 49) (.tmp 52) 24 rfl w.heap.size 71 i0 _ 1 4 Try.underlying24 hi hz0 hz1 hz2 rfl (by omega) _ k (l.map limb) rfl (by have:=HLen.out;subst this;exact hown.1.alloc _) _ _ 1 1 _ rfl (Za6 _ _ _) (by simp [Value.oneCell']) (by simp only [maxLen];omega) (by omega) (by have:=hB.size;simp;omega) ?_;intro v1 w1 hown1 hg1 hat1);go_ret;rw [<- hkN.out];exact RPlus.stop HLen.out hown.2 hcy HI.out (hB.alloc hB.size _) hown1 hg1 hown.row_ge (by rw [hla.out];omega) (by rw [hlb.out];omega)
theorem Zpq (A B : Option Addr) (n c m d : Nat) (a b : List Nat) (w : World) (ha : Lim w A n c a) (hb : Lim w B m d b) (hn : n <= 1000000000) (hm : m <= 1000000000) :
    Calls Try.prog 68 #[.slice A n c,.slice B m d] w (OutL w fun l=>l.length = n + m /\ val l = val a * val b):=by
 obtain ⟨i0,hi,hz0,hz1,hz2⟩:=info_parts Zcl;have hmk:=Zfj (P:=Try.prog) 24 71 Try.underlying24 hi hz0 hz1 hz2 ((n : Int) + m) (n + m) (by omega) (by omega);have hnc:=ha.2.1;have hmd:=hb.2.1;have hcm:=ha.2.2.1;have hdm:=hb.2.2.1;unfold maxLen at hcm hdm;have hal:=Zb ha.len;have hbl:=Zb hb.len;go_enter Try.func68,Try.ntmps68
 go_wp2
 go_loopw [6] (fun iv wr=>∃ i : Nat,i <= n /\ iv = .int .i64 i /\ Times1 w a b w.heap.size i 0 0 wr) (fun iv _=>n - (intOf iv).toNat)
 case atStart=>exact ⟨0,Nat.zero_le _,rfl,by have:=Times1.start w a b;rw [ha.len,hb.len] at this;exact this⟩
 case round =>
  obtain ⟨i,hi1,rfl,hP⟩:=hrel
  by_cases hlt1 : i < n
  ·have hB0 : Below w.heap.size w wr:=by obtain ⟨out,h1,h2,h3,h4,h5,h6,h7⟩:=hP;exact h7
   obtain ⟨ba,oa,rfl,hca⟩:=(ha.below hB0).at_ hlt1;have hxa:=ha.lt.get i;obtain ⟨wo,rfl⟩ : ∃ wo : World,wo = wr:=⟨_,rfl⟩
   go_wp2
   go_loopw [7,8] (fun cv kv wr=>∃ k carry : Nat,k <= m /\ cv = .int .u64 carry /\ kv = .int .i64 k /\ Times1 w a b w.heap.size i k carry wr) (fun _ kv _=>m - (intOf kv).toNat)
   case atStart=>exact ⟨0,0,Nat.zero_le _,rfl,rfl,hP⟩
   case round =>
    obtain ⟨k,carry,hk,rfl,rfl,hP⟩:=hrel
    by_cases hlt2 : k < m
    ·obtain ⟨out,hblk,hlen,hlt,hz,hI,hcy,hB⟩:=hP
     have hz:=Zb hz;have hI:=Zb hI;have hlen:=Zb hlen;have hsz:=hblk.lt;obtain ⟨bb,ob,rfl,hcb⟩:=(hb.below hB).at_ hlt2;have hxb:=hb.lt.get k;have hcg:=hblk.cell (i + k);rw [Zab out (i + k) (by rw [hlen.out,hal.out,hbl.out];omega)] at hcg;have hxo:=hlt.get (i + k);have hfg:=hblk.frozen (i + k);have hca':=(ha.below hB).cell hlt1;have s1 : IntKind.i64.wrap ((i : Int) + (k : Int)) = (i : Int) + (k : Int):=IntWalk.i64_in _ (by omega)
     have s2 : 0 <= (i : Int) + (k : Int):=by omega
     have s3 : ((i : Int) + (k : Int)).toNat = i + k:=by omega
     go_wp2
     go_quiet (fail)
     clear s1 s2 s3
     go_wp2
     go_roundw
     case rel =>
      rw [Zpx hcy hxa hxb hxo,Zkn,Zke];exact ⟨k + 1,_,by omega,rfl,by go_num,Times1.step (wr:=wr.drewN nq) hblk hlen.out hlt hz.out hI.out hcy (Zr hB _) (by rw [hal.out];exact hlt1) (by rw [hbl.out];exact hlt2) ha.lt hb.lt (Nat.mod_lt _ (by decide)) (by omega)⟩
     case measure=>simp [intOf];omega
    ·obtain rfl : k = m:=by omega
     have HR : Hid (Times1 w a b w.heap.size (i + 1) 0 0 (wr.setCell ⟨w.heap.size,i + k,none⟩ (limb carry))):=by
      rw [<- hbl.out] at hP ⊢;exact hP.row (by rw [hal.out];exact hlt1)
     obtain ⟨out,hblk,hlen,hlt,hz,hI,hcy,hB⟩:=hP;have hsz:=hblk.lt;have hcg:=hblk.cell (i + k);rw [Zab out (i + k) (by rw [hlen,hal.out,hbl.out];omega)] at hcg;have hfg:=hblk.frozen (i + k);clear hz hI hlen hblk
     go_wp2
     go_roundw
     case rel=>exact ⟨i + 1,by omega,by go_num,HR.out⟩
     case measure=>simp [intOf];omega
  ·obtain rfl : i = n:=by omega
   have HF : Hid (OutL w (fun l=>l.length = i + m /\ val l = val a * val b) (.returned (.slice (some ⟨w.heap.size,0,none⟩) (i + m) (i + m))) wr):=by
    rw [<- hbl.out];have h1:=hal.out;subst h1;exact Times1.stop hP (by rw [hbl.out];unfold maxLen;omega) rfl
   clear hP
   go_wp2
   go_ret;exact HF.out
def RMinus (w : World) (a b : List Nat) (k borrow : Nat) (v : Value) (wr : World) : Prop:=
 ∃ l,OwnL 71 wr w.heap.size v l /\ l.length = k /\ borrow <= 1 /\ val l + val (b.take k) = val (a.take k) + pw k * borrow /\ Below w.heap.size w wr
theorem RMinus.step {w w1 wb : World} {a b l : List Nat} {k borrow q s : Nat} {v' : Value} {X : Int} {row : Option Nat} (hlen : l.length = k) (hlt : Lt32 l) (hq : q <= 1)
    (hI : val l + val (b.take k) = val (a.take k) + pw k * borrow) (hB : Below w.heap.size w wb) (hown : w1.ownsRow w.heap.size 71 1 v' (k + 1) (l.map limb ++ [.int .u32 X]))
    (hg : wb.grownBy w1 row) (hr : ∀ j,row = some j -> w.heap.size <= j) (hs : s < 4294967296) (hX : X = s) (he : s + b[k]?.getD 0 + borrow = a[k]?.getD 0 + 4294967296 * q) : RMinus w a b (k + 1) q v' w1:=by
 refine ⟨l ++ [s],OwnL.snoc hlen.symm hown hlt hX hs,by simp [hlen],hq,?_,hB.grown hg hB.size hr⟩;rw [Zdo,hlen,Zx,Zx,Zal]
 have : pw k * (s + b[k]?.getD 0 + borrow) = pw k * (a[k]?.getD 0 + 4294967296 * q):=by rw [he]
 grind
theorem RMinus.stop {w wr : World} {a b : List Nat} {n borrow : Nat} {v : Value} (h : RMinus w a b n borrow v wr) (ha : a.length <= n) (hb : b.length <= n) (hab : val b <= val a) :
    ∃ A c l,v = .slice A n c /\ Lim wr A n c l /\ val l = val a - val b /\ Below w.heap.size w wr:=by
 obtain ⟨l,hown,hlen,hq,hI,hB⟩:=h;obtain ⟨A,c,hv,hL⟩:=hown.lim;rw [hlen] at hv hL;refine ⟨A,c,l,hv,hL,?_,hB⟩;rw [Z1 ha,Z1 hb] at hI;have:=hL.lt_pw
 rcases Nat.eq_zero_or_pos borrow with h0 | h0
 ·subst h0;omega
 ·have:=Nat.mul_le_mul_left (pw n) h0;omega
theorem Zks (A B : Option Addr) (n c m d : Nat) (a b : List Nat) (w : World) (ha : Lim w A n c a) (hb : Lim w B m d b) (hmn : m <= n) (hab : val b <= val a) (hn9 : n <= 1000000000) :
    Calls Try.prog 84 #[.slice A n c,.slice B m d] w (OutL w fun l=>l = digits (val a - val b)):=by
 obtain ⟨i0,hi,hz0,hz1,hz2⟩:=info_parts Zcl;have hnc:=ha.2.1;have hmd:=hb.2.1;have hcm:=ha.2.2.1;have hdm:=hb.2.2.1;unfold maxLen at hcm hdm;have hla:=Zb ha.len;have hlb:=Zb hb.len;have hab:=Zb hab;go_enter Try.func84,Try.ntmps84
 go_wp2
 go_loopw [5,6,7] (fun ov cv iv wr=>∃ k borrow : Nat,k <= n /\ cv = .int .i64 borrow /\ iv = .int .i64 k /\ RMinus w a b k borrow ov wr) (fun _ _ iv _=>n - (intOf iv).toNat)
 case atStart=>exact ⟨0,0,Nat.zero_le _,rfl,rfl,[],OwnL.nil _ _ _,rfl,by omega,by simp [val],Below.refl _ _⟩
 case round =>
  obtain ⟨k,borrow,hk,rfl,rfl,hP⟩:=hrel
  by_cases h1 : k < n
  ·obtain ⟨l,hown,hlen,hcy,hI,hB⟩:=hP
   have HLen:=Zb hlen;have HI:=Zb hI;clear hlen hI;have hxa:=ha.lt.get k;have hxb:=hb.lt.get k;obtain ⟨ba,oa,rfl,hca⟩:=(ha.below hB).at_ h1
   by_cases h2 : k < m
   ·obtain ⟨bb,ob,rfl,hcb⟩:=(hb.below hB).at_ h2
    by_cases h3 : a[k]?.getD 0 < borrow + b[k]?.getD 0
    ·go_wp2_with (at_builtin;refine Zq _ rfl (.tmp 37) (.tmp 40) 24 rfl w.heap.size 71 i0 _ 1 4 Try.underlying24 hi hz0 hz1 hz2 rfl (by omega) _ k (l.map limb) rfl (by have:=HLen.out;subst this;exact hown.1.alloc _) _ _ 1 1 _ rfl (Za6 _ _ _) (by simp [Value.oneCell']) (by simp only [maxLen];omega) (by omega) (by have:=hB.size;simp;omega) ?_;intro v1 w1 hown1 hg1 hat1)
     go_roundw
     case rel=>exact ⟨k + 1,1,by omega,by go_num,by go_num,RMinus.step (s:=a[k]?.getD 0 + 4294967296 - borrow - b[k]?.getD 0) HLen.out hown.2 (by omega) HI.out (hB.alloc hB.size _) hown1 hg1 hown.row_ge (by omega) (by omega) (by omega)⟩
     case measure=>simp [intOf];omega
    ·go_wp2_with (at_builtin;refine Zq _ rfl (.tmp 37) (.tmp 40) 24 rfl w.heap.size 71 i0 _ 1 4 Try.underlying24 hi hz0 hz1 hz2 rfl (by omega) _ k (l.map limb) rfl (by have:=HLen.out;subst this;exact hown.1.alloc _) _ _ 1 1 _ rfl (Za6 _ _ _) (by simp [Value.oneCell']) (by simp only [maxLen];omega) (by omega) (by have:=hB.size;simp;omega) ?_;intro v1 w1 hown1 hg1 hat1)
     go_roundw
     case rel=>exact ⟨k + 1,0,by omega,by go_num,by go_num,RMinus.step (s:=a[k]?.getD 0 - borrow - b[k]?.getD 0) HLen.out hown.2 (by omega) HI.out (hB.alloc hB.size _) hown1 hg1 hown.row_ge (by omega) (by omega) (by omega)⟩
     case measure=>simp [intOf];omega
   ·have hb0:=Zb (Zbv (l:=b) (i:=k) (by rw [hlb.out];omega))
    by_cases h3 : a[k]?.getD 0 < borrow
    ·go_wp2_with (at_builtin;refine Zq _ rfl (.tmp 37) (.tmp 40) 24 rfl w.heap.size 71 i0 _ 1 4 Try.underlying24 hi hz0 hz1 hz2 rfl (by omega) _ k (l.map limb) rfl (by have:=HLen.out;subst this;exact hown.1.alloc _) _ _ 1 1 _ rfl (Za6 _ _ _) (by simp [Value.oneCell']) (by simp only [maxLen];omega) (by omega) (by have:=hB.size;simp;omega) ?_;intro v1 w1 hown1 hg1 hat1)
     go_roundw
     case rel=>exact ⟨k + 1,1,by omega,by go_num,by go_num,RMinus.step (s:=a[k]?.getD 0 + 4294967296 - borrow) HLen.out hown.2 (by omega) HI.out (hB.alloc hB.size _) hown1 hg1 hown.row_ge (by omega) (by omega) (by rw [hb0.out];omega)⟩
     case measure=>simp [intOf];omega
    ·go_wp2_with (at_builtin;refine Zq _ rfl (.tmp 37) (.tmp 40) 24 rfl w.heap.size 71 i0 _ 1 4 Try.underlying24 hi hz0 hz1 hz2 rfl (by omega) _ k (l.map limb) rfl (by have:=HLen.out;subst this;exact hown.1.alloc _) _ _ 1 1 _ rfl (Za6 _ _ _) (by simp [Value.oneCell']) (by simp only [maxLen];omega) (by omega) (by have:=hB.size;simp;omega) ?_;intro v1 w1 hown1 hg1 hat1)
     go_roundw
     case rel=>exact ⟨k + 1,0,by omega,by go_num,by go_num,RMinus.step (s:=a[k]?.getD 0 - borrow) HLen.out hown.2 (by omega) HI.out (hB.alloc hB.size _) hown1 hg1 hown.row_ge (by omega) (by omega) (by rw [hb0.out];omega)⟩
     case measure=>simp [intOf];omega
  ·obtain rfl : k = n:=by omega
   obtain ⟨A2,c2,l2,rfl,hL2,hv2,hB⟩:=hP.stop (by rw [hla.out];omega) (by rw [hlb.out];omega) hab.out;have hv2:=Zb hv2;clear hP;go_wp2_with (go_at_call 82;refine (Zdc _ _ _ _ _ hL2 hn9).mono ?_;rintro e w3 ⟨A3,n3,c3,l3,rfl,hL3,hl3,hb3⟩);go_ret;exact ⟨_,_,_,_,rfl,hL3,by rw [hl3,hv2.out],hB.trans (hb3.mono hB.size)⟩
end Go.Proofs.Ythappeninglakaa
