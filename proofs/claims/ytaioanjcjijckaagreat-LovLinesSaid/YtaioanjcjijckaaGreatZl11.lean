/- The reference of layer 1: Check, both, trim, made. The -/
import Derived.BigQuiet
import Derived.Deep.QuietTactic
import Derived.Test.YtaioanjcjijckaaGreatZl08
set_option maxRecDepth 100000
set_option maxHeartbeats 2000000
set_option linter.unusedSimpArgs false
set_option linter.unusedVariables false
namespace Go.Proofs.YtaioanjcjijckaaGreat
open Go.RowKit
attribute [local go_sem] Zg
theorem Zjb (neg : Bool) (A : Option Addr) (n c : Nat) (l : List Nat) (w : World) (h : Lim w A n c l) :
    Calls Tryz.prog 44 #[.agg #[.bool neg,.slice A n c]] w fun e w'=>e = .returned (.int .i64 (Zet (okW neg l))) /\ Below w.heap.size w w':=by
 have hnc:=h.2.1;have hcm:=h.2.2.1;unfold maxLen at hcm;have HLen:=Za h.len
 by_cases t1 : n <= 4096
 ·by_cases t2 : 0 < n
  ·obtain ⟨b1,o1,rfl,hx⟩:=h.at_ (k:=n - 1) (by omega)
   have hb1:=Zs hx
   have hd1 : ((n : Int) == 0) = false:=by simp;omega
   by_cases t3 : l[n - 1]?.getD 0 = 0
   ·have hx3 : (((l[n-1]?.getD 0 : Nat) : Int) == 0) = true:=by simp [t3]
    rw [Zn8 (by rw [HLen.out];exact t2) (by rw [HLen.out];exact t3)];clear t3 h;go_enter Tryz.func44,Tryz.ntmps44
    go_wp2
    go_ret;exact ⟨rfl,(Below.refl _ _).alloc (Nat.le_refl _) _⟩
   ·have hx3 : (((l[n-1]?.getD 0 : Nat) : Int) == 0) = false:=by simpa using t3
    rw [Ztd (by rw [HLen.out];exact t2) (by rw [HLen.out];exact t1) (by rw [HLen.out];exact t3)];clear t3 h
    cases neg
    all_goals
     go_enter Tryz.func44,Tryz.ntmps44
     go_wp2
     go_ret;exact ⟨rfl,(Below.refl _ _).alloc (Nat.le_refl _) _⟩
  ·obtain rfl : n = 0:=by omega
   rw [Zle HLen.out];clear h
   cases neg
   all_goals
    go_enter Tryz.func44,Tryz.ntmps44
    go_wp2
    go_ret;exact ⟨rfl,(Below.refl _ _).alloc (Nat.le_refl _) _⟩
 ·rw [Zp4 (by rw [HLen.out];omega)]
  clear h;go_enter Tryz.func44,Tryz.ntmps44
  go_wp2
  go_ret;exact ⟨rfl,(Below.refl _ _).alloc (Nat.le_refl _) _⟩
theorem Zct (A : Option Addr) (n c : Nat) (l : List Nat) (w : World) (h : Lim w A n c l) (hn9 : n <= 1000000000) :
    Calls Tryz.prog 174 #[.slice A n c] w (OutL w fun l'=>l' = digits (val l)):=by
 obtain ⟨i0,hi,hz0,hz1,hz2⟩:=info_parts Zbw;have hn:=h.2.1;have hm:=h.2.2.1;unfold maxLen at hm;go_enter Tryz.func174,Tryz.ntmps174
 go_wp2
 go_loop [3] (fun v=>∃ k : Nat,k <= n /\ v = .int .i64 k /\ Hid (∀ j,k <= j -> l[j]?.getD 0 = 0)) (fun v=>(intOf v).toNat)
 case atStart=>exact ⟨n,Nat.le_refl _,rfl,fun j hj=>by rw [List.getElem?_eq_none (by rw [h.len];exact hj)];rfl⟩
 case round =>
  obtain ⟨k,hk,rfl,hz⟩:=hrel
  by_cases hk0 : 0 < k
  ·obtain ⟨b,o,rfl,hcell⟩:=h.at_ (k:=k - 1) (by omega)
   by_cases hx : l[k-1]?.getD 0 = 0
   ·have hb : (((l[k-1]?.getD 0 : Nat) : Int) == 0) = true:=by simp [hx]
    clear h;have hx:=Za hx
    go_wp2
    go_round
    case rel=>exact ⟨k - 1,by omega,by go_num,fun j hj=>by
        rcases Nat.lt_or_ge j k with h' | h'
        ·obtain rfl : j = k - 1:=by omega
         exact hx.out
        ·exact hz.out j h'⟩
    case measure=>simp [intOf];omega
   ·have hb : (((l[k-1]?.getD 0 : Nat) : Int) == 0) = false:=by simpa using hx
    have HD:=Za (Zeg hz.out (Or.inr hx) h.lt);clear hx;go_wp2_with (at_builtin;refine Zo _ rfl (.tmp 18) (.tmp 21) 25 rfl w.heap.size 147 i0 _ 1 4 Tryz.underlying25 hi hz0 hz1 hz2 rfl (by omega) (.slice (some ⟨w.heap.size,0,none⟩) 0 0) 0 [] rfl (Zhi _ _ _) _ _ k c ((l.take k).map limb) rfl (by exact ((h.take hk).alloc _).reads) (Zcc _) (by simp only [maxLen];omega) (by omega) (by simp) ?_;intro v1 w1 hown1 hg1 hat1);go_ret;exact OutL.of_append hown1 (by rw [List.length_take,h.len];omega) (h.lt.take _) ((Below.refl _ _).alloc (Nat.le_refl _) _) hg1 (fun j hj=>by simp [Value.ownBlock] at hj;omega) HD.out.symm
  ·obtain rfl : k = 0:=by omega
   have HD:=Za (Zeg hz.out (Or.inl rfl) h.lt);go_wp2_with (at_builtin;refine Zo _ rfl (.tmp 18) (.tmp 21) 25 rfl w.heap.size 147 i0 _ 1 4 Tryz.underlying25 hi hz0 hz1 hz2 rfl (by omega) (.slice (some ⟨w.heap.size,0,none⟩) 0 0) 0 [] rfl (Zhi _ _ _) _ _ 0 c ((l.take 0).map limb) rfl (by exact ((h.take hk).alloc _).reads) (Zcc _) (by simp only [maxLen];omega) (by omega) (by simp) ?_;intro v1 w1 hown1 hg1 hat1);go_ret;exact OutL.of_append hown1 (by rw [List.length_take,h.len];omega) (h.lt.take _) ((Below.refl _ _).alloc (Nat.le_refl _) _) hg1 (fun j hj=>by simp [Value.ownBlock] at hj;omega) HD.out.symm
theorem Zaq (neg : Bool) (A : Option Addr) (n c : Nat) (l : List Nat) (w : World) (h : Lim w A n c l) (hn9 : n <= 1000000000) :
    Calls Tryz.prog 106 #[.bool neg,.slice A n c] w (ResW w (sg neg (val l))):=by
 have HI:=Za (Zl (val l) 4096);have HP:=Za (@length_digits_pos (val l));go_enter Tryz.func106,Tryz.ntmps106;go_wp2_with fail;refine (Zct _ _ _ _ _ (h.alloc _) hn9).mono ?_;rintro e w1 ⟨A1,n1,c1,l1,rfl,hL,hl1,hb1⟩;subst hl1;have hlen:=Za hL.len;have hnc:=hL.2.1;have hcm:=hL.2.2.1;unfold maxLen at hcm;have hb0:=Blk.new w 27 #[.bool false,.slice none 0 0];have m7:=Zb hb1 hb0;have hB1 : Below w.heap.size w w1:=((Below.refl w.heap.size w).alloc (Nat.le_refl _) _).trans (hb1.mono (by simp));have m3:=m7.cell 0;have m4:=m7.cell 1;have m5:=m7.frozen 0;have m6:=m7.frozen 1
 simp at m3 m4
 have HM:=Za m7;clear m7 hb0
 by_cases h1 : n1 <= 4096
 ·by_cases h2 : 0 < n1
  ·have hd : decide (0 < n1) = true:=by simpa using h2
   cases neg
   ·go_wp2_with fail
    refine bodyPost_ret (v:=.tuple #[.agg #[.bool false,.slice A1 n1 c1],.int .i64 0]) (by simp [results,Tryz.results106,go_sem,m3,m4]) rfl ?_;refine ResW.box (.inl ⟨?_,rfl,?_,h1,?_⟩) hB1 (Nat.le_refl _) HM.out
    ·rw [Zw];exact HI.out.1 (by rw [hlen.out];exact h1)
    ·rw [Zji];rfl
    ·rw [Zw];exact hL
   ·go_wp2_with fail
    refine bodyPost_ret (v:=.tuple #[.agg #[.bool true,.slice A1 n1 c1],.int .i64 0]) (by simp [results,Tryz.results106,go_sem,m3,m4]) rfl ?_;refine ResW.box (.inl ⟨?_,rfl,?_,h1,?_⟩) hB1 (Nat.le_refl _) HM.out
    ·rw [Zw];exact HI.out.1 (by rw [hlen.out];exact h1)
    ·rw [Zji];have:=HP.out.1 (by rw [hlen.out];exact h2);simp [this]
    ·rw [Zw];exact hL
  ·obtain rfl : n1 = 0:=by omega
   cases neg
   all_goals
    go_wp2_with fail;refine bodyPost_ret (v:=.tuple #[.agg #[.bool false,.slice A1 0 c1],.int .i64 0]) (by simp [results,Tryz.results106,go_sem,m3,m4]) rfl ?_;refine ResW.box (.inl ⟨?_,rfl,?_,h1,?_⟩) hB1 (Nat.le_refl _) HM.out
    ·rw [Zw];exact HI.out.1 (by rw [hlen.out];exact h1)
    ·rw [Zji]
     have : ¬ 0 < val l:=fun hh=>by have:=HP.out.2 hh;rw [hlen.out] at this;omega
     simp [this]
    ·rw [Zw];exact hL
 ·have hp : pw 4096 <= val l:=by
    rcases Nat.lt_or_ge (val l) (pw 4096) with h' | h'
    ·have:=HI.out.2 h';rw [hlen.out] at this;exact absurd this h1
    ·exact h'
  have HPW:=Za hp;clear hp;go_wp2_with fail;refine bodyPost_ret (v:=.tuple #[.agg #[.bool false,.slice none 0 0],.int .i64 16]) (by simp [results,Tryz.results106,go_sem,m3,m4]) rfl ?_;exact ResW.box (.inr ⟨by rw [Zw];exact HPW.out,rfl,rfl,rfl,rfl,rfl⟩) hB1 (Nat.le_refl _) HM.out
theorem Zat (A B : Option Addr) (n c m d : Nat) (a b : List Nat) (w : World) (ha : Lim w A n c a) (hb : Lim w B m d b) :
    Calls Tryz.prog 75 #[.slice A n c,.slice B m d] w fun e w'=>e = .returned (.int .i64 (Za8 a b)) /\ Below w.heap.size w w':=by
 have hnc:=ha.2.1;have hmd:=hb.2.1;have hcm:=ha.2.2.1;have hdm:=hb.2.2.1;unfold maxLen at hcm hdm
 by_cases h1 : n < m
 ·have hne : (((n : Nat) : Int) != m) = true:=by simp;omega
  have hd : decide (n < m) = true:=by simpa using h1
  have hr : Za8 a b = -1:=by unfold Za8;rw [ha.len,hb.len,if_pos h1]
  rw [hr];go_enter Tryz.func75,Tryz.ntmps75
  go_wp2
  go_ret;exact ⟨rfl,Below.refl _ _⟩
 by_cases h2 : m < n
 ·have hne : (((n : Nat) : Int) != m) = true:=by simp;omega
  have hd : decide (n < m) = false:=by simpa using h1
  have hr : Za8 a b = 1:=by unfold Za8;rw [ha.len,hb.len,if_neg h1,if_pos h2]
  rw [hr];go_enter Tryz.func75,Tryz.ntmps75
  go_wp2
  go_ret;exact ⟨rfl,Below.refl _ _⟩
 obtain rfl : n = m:=by omega
 have hne : (((n : Nat) : Int) != n) = false:=by simp
 go_enter Tryz.func75,Tryz.ntmps75
 go_wp2
 go_loopw [5] (fun iv wr=>∃ k : Nat,k <= n /\ iv = .int .i64 ((n : Int) - 1 - k) /\ Hid (∀ j,n - k <= j -> j < n -> a[j]?.getD 0 = b[j]?.getD 0) /\ Below w.heap.size w wr) (fun iv _=>(intOf iv + 1).toNat)
 case atStart=>exact ⟨0,Nat.zero_le _,by go_num,fun j h h'=>by omega,Below.refl _ _⟩
 case round =>
  obtain ⟨k,hk,rfl,he,hB⟩:=hrel
  by_cases hlt : k < n
  ·obtain ⟨ba,oa,rfl,hca⟩:=(ha.below hB).at_ (k:=n - 1 - k) (by omega)
   obtain ⟨bb,ob,rfl,hcb⟩:=(hb.below hB).at_ (k:=n - 1 - k) (by omega);have hla:=Za ha.len;have hlb:=Za hb.len
   by_cases t1 : a[n - 1 - k]?.getD 0 < b[n - 1 - k]?.getD 0
   ·have hd1 : decide (a[n - 1 - k]?.getD 0 < b[n - 1 - k]?.getD 0) = true:=by simpa using t1
    have HR : Hid (Za8 a b = -1):=by
     have:=Zh8 ha.len hb.len ha.lt (by omega) (fun j h h'=>he.out j (by omega) h') t1;unfold Hid Za8;rw [ha.len,hb.len];simp [this]
    go_wp2
    go_quiet (fail)
    go_wp2
    go_ret;exact ⟨Zfu HR.out.symm,(by first | exact Zh hB _ | exact Zh (Zh hB _) _)⟩
   ·have hd1 : decide (a[n - 1 - k]?.getD 0 < b[n - 1 - k]?.getD 0) = false:=by simpa using t1
    by_cases t2 : b[n - 1 - k]?.getD 0 < a[n - 1 - k]?.getD 0
    ·have hd2 : decide (b[n - 1 - k]?.getD 0 < a[n - 1 - k]?.getD 0) = true:=by simpa using t2
     have HR : Hid (Za8 a b = 1):=by
      have:=Zh8 hb.len ha.len hb.lt (by omega) (fun j h h'=>(he.out j (by omega) h').symm) t2;unfold Hid Za8;rw [ha.len,hb.len];simp [this];omega
     go_wp2
     go_quiet (fail)
     go_wp2
     go_quiet (fail)
     go_wp2
     go_ret;exact ⟨Zfu HR.out.symm,(by first | exact Zh hB _ | exact Zh (Zh hB _) _)⟩
    ·have hd2 : decide (b[n - 1 - k]?.getD 0 < a[n - 1 - k]?.getD 0) = false:=by simpa using t2
     have HE : Hid (∀ j,n - (k + 1) <= j -> j < n -> a[j]?.getD 0 = b[j]?.getD 0):=fun j h h'=>by
      rcases Nat.lt_or_ge j (n - k) with h3 | h3
      ·obtain rfl : j = n - 1 - k:=by omega
       omega
      ·exact he.out j h3 h'
     go_wp2
     go_quiet (fail)
     go_wp2
     go_quiet (fail)
     go_wp2
     go_roundw
     case rel=>exact ⟨k + 1,by omega,by go_num,HE,(by first | exact Zh hB _ | exact Zh (Zh hB _) _)⟩
     case measure=>simp [intOf];omega
  ·obtain rfl : k = n:=by omega
   have HR : Hid (Za8 a b = 0):=by
    have:=Zr9 ha.len hb.len (fun j hj=>he.out j (by omega) hj);unfold Hid;rw [this,Zkk]
   go_wp2
   go_ret;exact ⟨Zfu HR.out.symm,hB⟩
def Zd2 (na nb : Bool) (a b : List Nat) : Bool:=(na == nb) && (Za8 a b == 0)
theorem Zdc (na nb : Bool) (A B : Option Addr) (n c m d : Nat) (a b : List Nat) (w : World) (ha : Lim w A n c a) (hb : Lim w B m d b) :
    Calls Tryz.prog 19 #[.agg #[.bool na,.slice A n c],.agg #[.bool nb,.slice B m d]] w fun e w'=>e = .returned (.bool (Zd2 na nb a b)) /\ Below w.heap.size w w':=by
 by_cases h : na = nb
 ·subst h
  have hs : Zd2 na na a b = (Za8 a b == 0):=by simp [Zd2]
  rw [hs]
  generalize hx : Za8 a b = x at *
  have HX:=Za hx;clear hx hs;go_enter Tryz.func19,Tryz.ntmps19;go_wp2_with (go_at_call 75;refine (Zat _ _ _ _ _ _ _ _ _ ((ha.alloc _).alloc _) ((hb.alloc _).alloc _)).mono ?_;rintro e w1 ⟨he,hb1⟩;rw [HX.out] at he;subst he);go_ret;exact ⟨rfl,(((Below.refl w.heap.size w).alloc (Nat.le_refl _) _).alloc (by simp) _).trans (hb1.mono (by simp;omega))⟩
 ·have hne : (na == nb) = false:=by simpa using h
  have hs : Zd2 na nb a b = false:=by simp [Zd2,hne]
  rw [hs];clear hs;go_enter Tryz.func19,Tryz.ntmps19
  go_wp2
  go_ret;exact ⟨rfl,((Below.refl w.heap.size w).alloc (Nat.le_refl _) _).alloc (by simp) _⟩
def RPlus (w : World) (a b : List Nat) (k carry : Nat) (v : Value) (wr : World) : Prop:=
 ∃ l,OwnL 147 wr w.heap.size v l /\ l.length = k /\ carry <= 1 /\ val l + pw k * carry = val (a.take k) + val (b.take k) /\ Below w.heap.size w wr
theorem RPlus.step {w w1 wb : World} {a b l : List Nat} {k carry : Nat} {v' : Value} {X : Int} {row : Option Nat} (hlen : l.length = k) (hlt : Lt32 l) (hc : carry <= 1)
    (hI : val l + pw k * carry = val (a.take k) + val (b.take k)) (hB : Below w.heap.size w wb) (hown : w1.ownsRow w.heap.size 147 1 v' (k + 1) (l.map limb ++ [.int .u32 X]))
    (hg : wb.grownBy w1 row) (hr : ∀ j,row = some j -> w.heap.size <= j) (ha : a[k]?.getD 0 < 4294967296) (hb : b[k]?.getD 0 < 4294967296)
    (hX : X = ((carry + a[k]?.getD 0 + b[k]?.getD 0) % 4294967296 : Nat)) : RPlus w a b (k + 1) ((carry + a[k]?.getD 0 + b[k]?.getD 0) / 4294967296) v' w1:=by
 refine ⟨l ++ [(carry + a[k]?.getD 0 + b[k]?.getD 0) % 4294967296],OwnL.snoc hlen.symm hown hlt hX (Nat.mod_lt _ (by decide)),by simp [hlen],by omega,?_,hB.grown hg hB.size hr⟩;rw [Zcd,hlen,Zv,Zv,Zai];have e : (carry + a[k]?.getD 0 + b[k]?.getD 0) % 4294967296 + 4294967296 * ((carry + a[k]?.getD 0 + b[k]?.getD 0) / 4294967296) = carry + a[k]?.getD 0 + b[k]?.getD 0:=Nat.mod_add_div _ _
 generalize (carry + a[k]?.getD 0 + b[k]?.getD 0) % 4294967296 = s at *
 generalize (carry + a[k]?.getD 0 + b[k]?.getD 0) / 4294967296 = q at *
 have : pw k * (s + 4294967296 * q) = pw k * (carry + a[k]?.getD 0 + b[k]?.getD 0):=by rw [e]
 grind
theorem RPlus.stop {w w1 wb : World} {a b l : List Nat} {k carry : Nat} {v' : Value} {row : Option Nat} (hlen : l.length = k) (hlt : Lt32 l) (hc : carry <= 1)
    (hI : val l + pw k * carry = val (a.take k) + val (b.take k)) (hB : Below w.heap.size w wb) (hown : w1.ownsRow w.heap.size 147 1 v' (k + 1) (l.map limb ++ [.int .u32 carry]))
    (hg : wb.grownBy w1 row) (hr : ∀ j,row = some j -> w.heap.size <= j) (ha : a.length <= k) (hb : b.length <= k) : OutL w (fun l=>l.length = k + 1 /\ val l = val a + val b) (.returned v') w1:=by
 refine OutL.of_own (OwnL.snoc hlen.symm hown hlt rfl (by omega)) (hB.grown hg hB.size hr) ⟨by simp [hlen],?_⟩;rw [Zcd,hlen,hI,Zx ha,Zx hb]
theorem Zlc (A B : Option Addr) (n c m d : Nat) (a b : List Nat) (w : World) (ha : Lim w A n c a) (hb : Lim w B m d b) (hn9 : n <= 1000000000) (hm9 : m <= 1000000000) :
    Calls Tryz.prog 137 #[.slice A n c,.slice B m d] w (OutL w fun l=>l.length = max n m + 1 /\ val l = val a + val b):=by
 obtain ⟨i0,hi,hz0,hz1,hz2⟩:=info_parts Zbw;have hnc:=ha.2.1;have hmd:=hb.2.1;have hcm:=ha.2.2.1;have hdm:=hb.2.2.1;unfold maxLen at hcm hdm;have hla:=Za ha.len;have hlb:=Za hb.len;obtain ⟨N,hN,hN1,hN2,hN9⟩ : ∃ N,N = max n m /\ n <= N /\ m <= N /\ N <= 1000000000:=⟨_,rfl,by omega,by omega,by omega⟩;rw [<- hN];have HN:=Za hN;clear hN;go_enter Tryz.func137,Tryz.ntmps137
 go_wp2
 go_loopw [5,6,7] (fun ov cv iv wr=>∃ k carry : Nat,k <= N /\ cv = .int .u64 carry /\ iv = .int .i64 k /\ RPlus w a b k carry ov wr) (fun _ _ iv _=>N - (intOf iv).toNat)
 case atStart=>exact ⟨0,0,Nat.zero_le _,rfl,rfl,[],OwnL.nil _ _ _,rfl,by omega,by simp [val],Below.refl _ _⟩
 case round =>
  obtain ⟨k,carry,hk,rfl,rfl,l,hown,hlen,hcy,hI,hB⟩:=hrel;have HLen:=Za hlen;have HI:=Za hI;clear hlen hI;have hxa:=ha.lt.get k;have hxb:=hb.lt.get k
  by_cases h1 : k < n
  ·obtain ⟨ba,oa,rfl,hca⟩:=(ha.below hB).at_ h1
   by_cases h2 : k < m
   ·obtain ⟨bb,ob,rfl,hcb⟩:=(hb.below hB).at_ h2
    go_wp2_with (at_builtin;refine Zo _ rfl (.tmp 42) (.tmp 45) 25 rfl w.heap.size 147 i0 _ 1 4 Tryz.underlying25 hi hz0 hz1 hz2 rfl (by omega) _ k (l.map limb) rfl (by have:=HLen.out;subst this;exact hown.1.alloc _) _ _ 1 1 _ rfl (Zar _ _ _) (by simp [Value.oneCell']) (by simp only [maxLen];omega) (by omega) (by have:=hB.size;simp;omega) ?_;intro v1 w1 hown1 hg1 hat1)
    go_roundw
    case rel=>exact ⟨k + 1,_,by omega,by rw [show ((carry : Int) + ((a[k]?.getD 0 : Nat) : Int) + ((b[k]?.getD 0 : Nat) : Int)) / 4294967296 = (((carry + a[k]?.getD 0 + b[k]?.getD 0) / 4294967296 : Nat) : Int) by omega],by go_num,RPlus.step HLen.out hown.2 hcy HI.out (hB.alloc hB.size _) hown1 hg1 hown.row_ge (ha.lt.get k) (hb.lt.get k) (by omega)⟩
    case measure=>simp [intOf];omega
   ·have hb0:=Za (getD_none (l:=b) (i:=k) (by rw [hlb.out];omega))
    go_wp2_with (at_builtin;refine Zo _ rfl (.tmp 42) (.tmp 45) 25 rfl w.heap.size 147 i0 _ 1 4 Tryz.underlying25 hi hz0 hz1 hz2 rfl (by omega) _ k (l.map limb) rfl (by have:=HLen.out;subst this;exact hown.1.alloc _) _ _ 1 1 _ rfl (Zar _ _ _) (by simp [Value.oneCell']) (by simp only [maxLen];omega) (by omega) (by have:=hB.size;simp;omega) ?_;intro v1 w1 hown1 hg1 hat1)
    go_roundw
    case rel=>exact ⟨k + 1,_,by omega,by rw [hb0.out];rw [show ((carry : Int) + ((a[k]?.getD 0 : Nat) : Int)) / 4294967296 = (((carry + a[k]?.getD 0 + 0) / 4294967296 : Nat) : Int) by omega],by go_num,RPlus.step HLen.out hown.2 hcy HI.out (hB.alloc hB.size _) hown1 hg1 hown.row_ge (ha.lt.get k) (hb.lt.get k) (by rw [hb0.out];omega)⟩
    case measure=>simp [intOf];omega
  ·have ha0:=Za (getD_none (l:=a) (i:=k) (by rw [hla.out];omega))
   by_cases h2 : k < m
   ·obtain ⟨bb,ob,rfl,hcb⟩:=(hb.below hB).at_ h2
    go_wp2_with (at_builtin;refine Zo _ rfl (.tmp 42) (.tmp 45) 25 rfl w.heap.size 147 i0 _ 1 4 Tryz.underlying25 hi hz0 hz1 hz2 rfl (by omega) _ k (l.map limb) rfl (by have:=HLen.out;subst this;exact hown.1.alloc _) _ _ 1 1 _ rfl (Zar _ _ _) (by simp [Value.oneCell']) (by simp only [maxLen];omega) (by omega) (by have:=hB.size;simp;omega) ?_;intro v1 w1 hown1 hg1 hat1)
    go_roundw
    case rel=>exact ⟨k + 1,_,by omega,by rw [ha0.out];rw [show ((carry : Int) + ((b[k]?.getD 0 : Nat) : Int)) / 4294967296 = (((carry + 0 + b[k]?.getD 0) / 4294967296 : Nat) : Int) by omega],by go_num,RPlus.step HLen.out hown.2 hcy HI.out (hB.alloc hB.size _) hown1 hg1 hown.row_ge (ha.lt.get k) (hb.lt.get k) (by rw [ha0.out];omega)⟩
    case measure=>simp [intOf];omega
   ·have hkN:=Za (show k = N by have:=HN.out;omega)
    go_wp2_with (at_builtin;refine Zo _ rfl (.tmp 49) (.tmp 52) 25 rfl w.heap.size 147 i0 _ 1 4 Tryz.underlying25 hi hz0 hz1 hz2 rfl (by omega) _ k (l.map limb) rfl (by have:=HLen.out;subst this;exact hown.1.alloc _) _ _ 1 1 _ rfl (Zar _ _ _) (by simp [Value.oneCell']) (by simp only [maxLen];omega) (by omega) (by have:=hB.size;simp;omega) ?_;intro v1 w1 hown1 hg1 hat1);go_ret;rw [<- hkN.out];exact RPlus.stop HLen.out hown.2 hcy HI.out (hB.alloc hB.size _) hown1 hg1 hown.row_ge (by rw [hla.out];omega) (by rw [hlb.out];omega)
end Go.Proofs.YtaioanjcjijckaaGreat
