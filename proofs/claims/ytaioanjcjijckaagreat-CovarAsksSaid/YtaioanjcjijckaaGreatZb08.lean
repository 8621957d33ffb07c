/- The reference of layer 1: Check, both, trim, made. The -/
import Derived.BigQuiet
import Derived.Deep.QuietTactic
import Derived.Test.YtaioanjcjijckaaGreatZb06
set_option maxRecDepth 100000
set_option maxHeartbeats 2000000
set_option linter.unusedSimpArgs false
set_option linter.unusedVariables false
namespace Go.Proofs.YtaioanjcjijckaaGreat
open Go.RowKit
attribute [local go_sem] Zf
theorem Zju (neg:Bool) (A:Option Addr) (n c:Nat) (l:List Nat) (w:World) (h:Lim w A n c l) :
    Calls Tryz.prog 44 #[.agg #[.bool neg,.slice A n c]] w fun e w'=>e=.returned (.int .i64 (Zft (okW neg l)))/\Below w.heap.size w w':=by
 have hnc:=h.2.1;have hcm:=h.2.2.1;unfold maxLen at hcm;have HLen:=Za h.len
 by_cases t1:n <= 4096
 ·by_cases t2:0 < n
  ·obtain ⟨b1,o1,rfl,hx⟩:=h.at_ (k:=n - 1) (by omega)
   have hb1:=Z0 hx
   have hd1:((n:Int) == 0)=false:=by simp;omega
   by_cases t3:l[n - 1]?.getD 0=0
   ·have hx3:(((l[n-1]?.getD 0:Nat):Int) == 0)=true:=by simp [t3]
    rw [Zn2 (by rw [HLen.out];exact t2) (by rw [HLen.out];exact t3)];clear t3 h;go_enter Tryz.func44,Tryz.ntmps44
    go_wp2
    go_ret;exact ⟨rfl,(Below.refl _ _).alloc (Nat.le_refl _) _⟩
   ·have hx3:(((l[n-1]?.getD 0:Nat):Int) == 0)=false:=by simpa using t3
    rw [Ztr (by rw [HLen.out];exact t2) (by rw [HLen.out];exact t1) (by rw [HLen.out];exact t3)];clear t3 h
    cases neg
    all_goals
     go_enter Tryz.func44,Tryz.ntmps44
     go_wp2
     go_ret;exact ⟨rfl,(Below.refl _ _).alloc (Nat.le_refl _) _⟩
  ·obtain rfl:n=0:=by omega
   rw [Zl7 HLen.out];clear h
   cases neg
   all_goals
    go_enter Tryz.func44,Tryz.ntmps44
    go_wp2
    go_ret;exact ⟨rfl,(Below.refl _ _).alloc (Nat.le_refl _) _⟩
 ·rw [Zqw (by rw [HLen.out];omega)]
  clear h;go_enter Tryz.func44,Tryz.ntmps44
  go_wp2
  go_ret;exact ⟨rfl,(Below.refl _ _).alloc (Nat.le_refl _) _⟩
theorem Zdm (A:Option Addr) (n c:Nat) (l:List Nat) (w:World) (h:Lim w A n c l) (hn9:n <= 1000000000) :
    Calls Tryz.prog 174 #[.slice A n c] w (OutL w fun l'=>l'=digits (val l)):=by
 obtain ⟨i0,hi,hz0,hz1,hz2⟩:=info_parts Zco;have hn:=h.2.1;have hm:=h.2.2.1;unfold maxLen at hm;go_enter Tryz.func174,Tryz.ntmps174
 go_wp2
 go_loop [3] (fun v=>∃ k:Nat,k <= n/\v=.int .i64 k/\Hid (∀ j,k <= j->l[j]?.getD 0=0)) (fun v=>(intOf v).toNat)
 case atStart=>exact ⟨n,Nat.le_refl _,rfl,fun j hj=>by rw [List.getElem?_eq_none (by rw [h.len];exact hj)];rfl⟩
 case round =>
  obtain ⟨k,hk,rfl,hz⟩:=hrel
  by_cases hk0:0 < k
  ·obtain ⟨b,o,rfl,hcell⟩:=h.at_ (k:=k - 1) (by omega)
   by_cases hx:l[k-1]?.getD 0=0
   ·have hb:(((l[k-1]?.getD 0:Nat):Int) == 0)=true:=by simp [hx]
    clear h;have hx:=Za hx
    go_wp2
    go_round
    case rel=>exact ⟨k - 1,by omega,by go_num,fun j hj=>by
        rcases Nat.lt_or_ge j k with h' | h'
        ·obtain rfl:j=k - 1:=by omega
         exact hx.out
        ·exact hz.out j h'⟩
    case measure=>simp [intOf];omega
   ·have hb:(((l[k-1]?.getD 0:Nat):Int) == 0)=false:=by simpa using hx
    have HD:=Za (Zfh hz.out (Or.inr hx) h.lt);clear hx;go_wp2_with (at_builtin;refine Zu _ rfl (.tmp 18) (.tmp 21) 25 rfl w.heap.size 147 i0 _ 1 4 Tryz.underlying25 hi hz0 hz1 hz2 rfl (by omega) (.slice (some ⟨w.heap.size,0,none⟩) 0 0) 0 [] rfl (Zio _ _ _) _ _ k c ((l.take k).map limb) rfl (by exact ((h.take hk).alloc _).reads) (Zc2 _) (by simp only [maxLen];omega) (by omega) (by simp) ?_;intro v1 w1 hown1 hg1 hat1);go_ret;exact OutL.of_append hown1 (by rw [List.length_take,h.len];omega) (h.lt.take _) ((Below.refl _ _).alloc (Nat.le_refl _) _) hg1 (fun j hj=>by simp [Value.ownBlock] at hj;omega) HD.out.symm
  ·obtain rfl:k=0:=by omega
   have HD:=Za (Zfh hz.out (Or.inl rfl) h.lt);go_wp2_with (at_builtin;refine Zu _ rfl (.tmp 18) (.tmp 21) 25 rfl w.heap.size 147 i0 _ 1 4 Tryz.underlying25 hi hz0 hz1 hz2 rfl (by omega) (.slice (some ⟨w.heap.size,0,none⟩) 0 0) 0 [] rfl (Zio _ _ _) _ _ 0 c ((l.take 0).map limb) rfl (by exact ((h.take hk).alloc _).reads) (Zc2 _) (by simp only [maxLen];omega) (by omega) (by simp) ?_;intro v1 w1 hown1 hg1 hat1);go_ret;exact OutL.of_append hown1 (by rw [List.length_take,h.len];omega) (h.lt.take _) ((Below.refl _ _).alloc (Nat.le_refl _) _) hg1 (fun j hj=>by simp [Value.ownBlock] at hj;omega) HD.out.symm
theorem Za5 (neg:Bool) (A:Option Addr) (n c:Nat) (l:List Nat) (w:World) (h:Lim w A n c l) (hn9:n <= 1000000000) :
    Calls Tryz.prog 106 #[.bool neg,.slice A n c] w (ResW w (sg neg (val l))):=by
 have HI:=Za (Zo (val l) 4096);have HP:=Za (@length_digits_pos (val l));go_enter Tryz.func106,Tryz.ntmps106;go_wp2_with fail;refine (Zdm _ _ _ _ _ (h.alloc _) hn9).mono ?_;rintro e w1 ⟨A1,n1,c1,l1,rfl,hL,hl1,hb1⟩;subst hl1;have hlen:=Za hL.len;have hnc:=hL.2.1;have hcm:=hL.2.2.1;unfold maxLen at hcm;have hb0:=Blk.new w 27 #[.bool false,.slice none 0 0];have m7:=Zc hb1 hb0;have hB1:Below w.heap.size w w1:=((Below.refl w.heap.size w).alloc (Nat.le_refl _) _).trans (hb1.mono (by simp));have m3:=m7.cell 0;have m4:=m7.cell 1;have m5:=m7.frozen 0;have m6:=m7.frozen 1
 simp at m3 m4
 have HM:=Za m7;clear m7 hb0
 by_cases h1:n1 <= 4096
 ·by_cases h2:0 < n1
  ·have hd:decide (0 < n1)=true:=by simpa using h2
   cases neg
   ·go_wp2_with fail
    refine bodyPost_ret (v:=.tuple #[.agg #[.bool false,.slice A1 n1 c1],.int .i64 0]) (by simp [results,Tryz.results106,go_sem,m3,m4]) rfl ?_;refine ResW.box (.inl ⟨?_,rfl,?_,h1,?_⟩) hB1 (Nat.le_refl _) HM.out
    ·rw [Z6];exact HI.out.1 (by rw [hlen.out];exact h1)
    ·rw [Zj0];rfl
    ·rw [Z6];exact hL
   ·go_wp2_with fail
    refine bodyPost_ret (v:=.tuple #[.agg #[.bool true,.slice A1 n1 c1],.int .i64 0]) (by simp [results,Tryz.results106,go_sem,m3,m4]) rfl ?_;refine ResW.box (.inl ⟨?_,rfl,?_,h1,?_⟩) hB1 (Nat.le_refl _) HM.out
    ·rw [Z6];exact HI.out.1 (by rw [hlen.out];exact h1)
    ·rw [Zj0];have:=HP.out.1 (by rw [hlen.out];exact h2);simp [this]
    ·rw [Z6];exact hL
  ·obtain rfl:n1=0:=by omega
   cases neg
   all_goals
    go_wp2_with fail;refine bodyPost_ret (v:=.tuple #[.agg #[.bool false,.slice A1 0 c1],.int .i64 0]) (by simp [results,Tryz.results106,go_sem,m3,m4]) rfl ?_;refine ResW.box (.inl ⟨?_,rfl,?_,h1,?_⟩) hB1 (Nat.le_refl _) HM.out
    ·rw [Z6];exact HI.out.1 (by rw [hlen.out];exact h1)
    ·rw [Zj0]
     have:¬ 0 < val l:=fun hh=>by have:=HP.out.2 hh;rw [hlen.out] at this;omega
     simp [this]
    ·rw [Z6];exact hL
 ·have hp:pw 4096 <= val l:=by
    rcases Nat.lt_or_ge (val l) (pw 4096) with h' | h'
    ·have:=HI.out.2 h';rw [hlen.out] at this;exact absurd this h1
    ·exact h'
  have HPW:=Za hp;clear hp;go_wp2_with fail;refine bodyPost_ret (v:=.tuple #[.agg #[.bool false,.slice none 0 0],.int .i64 16]) (by simp [results,Tryz.results106,go_sem,m3,m4]) rfl ?_;exact ResW.box (.inr ⟨by rw [Z6];exact HPW.out,rfl,rfl,rfl,rfl,rfl⟩) hB1 (Nat.le_refl _) HM.out
theorem Zbg (A B:Option Addr) (n c m d:Nat) (a b:List Nat) (w:World) (ha:Lim w A n c a) (hb:Lim w B m d b) :
    Calls Tryz.prog 75 #[.slice A n c,.slice B m d] w fun e w'=>e=.returned (.int .i64 (Zbw a b))/\Below w.heap.size w w':=by
 have hnc:=ha.2.1;have hmd:=hb.2.1;have hcm:=ha.2.2.1;have hdm:=hb.2.2.1;unfold maxLen at hcm hdm
 by_cases h1:n < m
 ·have hne:(((n:Nat):Int) != m)=true:=by simp;omega
  have hd:decide (n < m)=true:=by simpa using h1
  have hr:Zbw a b=-1:=by unfold Zbw;rw [ha.len,hb.len,if_pos h1]
  rw [hr];go_enter Tryz.func75,Tryz.ntmps75
  go_wp2
  go_ret;exact ⟨rfl,Below.refl _ _⟩
 by_cases h2:m < n
 ·have hne:(((n:Nat):Int) != m)=true:=by simp;omega
  have hd:decide (n < m)=false:=by simpa using h1
  have hr:Zbw a b=1:=by unfold Zbw;rw [ha.len,hb.len,if_neg h1,if_pos h2]
  rw [hr];go_enter Tryz.func75,Tryz.ntmps75
  go_wp2
  go_ret;exact ⟨rfl,Below.refl _ _⟩
 obtain rfl:n=m:=by omega
 have hne:(((n:Nat):Int) != n)=false:=by simp
 go_enter Tryz.func75,Tryz.ntmps75
 go_wp2
 go_loopw [5] (fun iv wr=>∃ k:Nat,k <= n/\iv=.int .i64 ((n:Int) - 1 - k)/\Hid (∀ j,n - k <= j->j < n->a[j]?.getD 0=b[j]?.getD 0)/\Below w.heap.size w wr) (fun iv _=>(intOf iv+1).toNat)
 case atStart=>exact ⟨0,Nat.zero_le _,by go_num,fun j h h'=>by omega,Below.refl _ _⟩
 case round =>
  obtain ⟨k,hk,rfl,he,hB⟩:=hrel
  by_cases hlt:k < n
  ·obtain ⟨ba,oa,rfl,hca⟩:=(ha.below hB).at_ (k:=n - 1 - k) (by omega)
   obtain ⟨bb,ob,rfl,hcb⟩:=(hb.below hB).at_ (k:=n - 1 - k) (by omega);have hla:=Za ha.len;have hlb:=Za hb.len
   by_cases t1:a[n - 1 - k]?.getD 0 < b[n - 1 - k]?.getD 0
   ·have hd1:decide (a[n - 1 - k]?.getD 0 < b[n - 1 - k]?.getD 0)=true:=by simpa using t1
    have HR:Hid (Zbw a b=-1):=by
     have:=Zi4 ha.len hb.len ha.lt (by omega) (fun j h h'=>he.out j (by omega) h') t1;unfold Hid Zbw;rw [ha.len,hb.len];simp [this]
    go_wp2
    go_quiet (fail)
    go_wp2
    go_ret;exact ⟨Zgj HR.out.symm,(by first | exact Zi hB _ | exact Zi (Zi hB _) _)⟩
   ·have hd1:decide (a[n - 1 - k]?.getD 0 < b[n - 1 - k]?.getD 0)=false:=by simpa using t1
    by_cases t2:b[n - 1 - k]?.getD 0 < a[n - 1 - k]?.getD 0
    ·have hd2:decide (b[n - 1 - k]?.getD 0 < a[n - 1 - k]?.getD 0)=true:=by simpa using t2
     have HR:Hid (Zbw a b=1):=by
      have:=Zi4 hb.len ha.len hb.lt (by omega) (fun j h h'=>(he.out j (by omega) h').symm) t2;unfold Hid Zbw;rw [ha.len,hb.len];simp [this];omega
     go_wp2
     go_quiet (fail)
     go_wp2
     go_quiet (fail)
     go_wp2
     go_ret;exact ⟨Zgj HR.out.symm,(by first | exact Zi hB _ | exact Zi (Zi hB _) _)⟩
    ·have hd2:decide (b[n - 1 - k]?.getD 0 < a[n - 1 - k]?.getD 0)=false:=by simpa using t2
     have HE:Hid (∀ j,n - (k+1) <= j->j < n->a[j]?.getD 0=b[j]?.getD 0):=fun j h h'=>by
      rcases Nat.lt_or_ge j (n - k) with h3 | h3
      ·obtain rfl:j=n - 1 - k:=by omega
       omega
      ·exact he.out j h3 h'
     go_wp2
     go_quiet (fail)
     go_wp2
     go_quiet (fail)
     go_wp2
     go_roundw
     case rel=>exact ⟨k+1,by omega,by go_num,HE,(by first | exact Zi hB _ | exact Zi (Zi hB _) _)⟩
     case measure=>simp [intOf];omega
  ·obtain rfl:k=n:=by omega
   have HR:Hid (Zbw a b=0):=by
    have:=Zua ha.len hb.len (fun j hj=>he.out j (by omega) hj);unfold Hid;rw [this,Zli]
   go_wp2
   go_ret;exact ⟨Zgj HR.out.symm,hB⟩
def Ze4 (na nb:Bool) (a b:List Nat):Bool:=(na == nb) && (Zbw a b == 0)
theorem Zdb (na nb:Bool) (A B:Option Addr) (n c m d:Nat) (a b:List Nat) (w:World) (ha:Lim w A n c a) (hb:Lim w B m d b) :
    Calls Tryz.prog 19 #[.agg #[.bool na,.slice A n c],.agg #[.bool nb,.slice B m d]] w fun e w'=>e=.returned (.bool (Ze4 na nb a b))/\Below w.heap.size w w':=by
 by_cases h:na=nb
 ·subst h
  have hs:Ze4 na na a b=(Zbw a b == 0):=by simp [Ze4]
  rw [hs]
  generalize hx:Zbw a b=x at *
  have HX:=Za hx;clear hx hs;go_enter Tryz.func19,Tryz.ntmps19;go_wp2_with (go_at_call 75;refine (Zbg _ _ _ _ _ _ _ _ _ ((ha.alloc _).alloc _) ((hb.alloc _).alloc _)).mono ?_;rintro e w1 ⟨he,hb1⟩;rw [HX.out] at he;subst he);go_ret;exact ⟨rfl,(((Below.refl w.heap.size w).alloc (Nat.le_refl _) _).alloc (by simp) _).trans (hb1.mono (by simp;omega))⟩
 ·have hne:(na == nb)=false:=by simpa using h
  have hs:Ze4 na nb a b=false:=by simp [Ze4,hne]
  rw [hs];clear hs;go_enter Tryz.func19,Tryz.ntmps19
  go_wp2
  go_ret;exact ⟨rfl,((Below.refl w.heap.size w).alloc (Nat.le_refl _) _).alloc (by simp) _⟩
def RPlus (w:World) (a b:List Nat) (k carry:Nat) (v:Value) (wr:World):Prop:=
 ∃ l,OwnL 147 wr w.heap.size v l/\l.length=k/\carry <= 1/\val l+pw k * carry=val (a.take k)+val (b.take k)/\Below w.heap.size w wr
theorem RPlus.step {w w1 wb:World} {a b l:List Nat} {k carry:Nat} {v':Value} {X:Int} {row:Option Nat} (hlen:l.length=k) (hlt:Lt32 l) (hc:carry <= 1)
    (hI:val l+pw k * carry=val (a.take k)+val (b.take k)) (hB:Below w.heap.size w wb) (hown:w1.ownsRow w.heap.size 147 1 v' (k+1) (l.map limb ++ [.int .u32 X]))
    (hg:wb.grownBy w1 row) (hr:∀ j,row=some j->w.heap.size <= j) (ha:a[k]?.getD 0 < 4294967296) (hb:b[k]?.getD 0 < 4294967296)
    (hX:X=((carry+a[k]?.getD 0+b[k]?.getD 0) % 4294967296:Nat)):RPlus w a b (k+1) ((carry+a[k]?.getD 0+b[k]?.getD 0) / 4294967296) v' w1:=by
 refine ⟨l ++ [(carry+a[k]?.getD 0+b[k]?.getD 0) % 4294967296],OwnL.snoc hlen.symm hown hlt hX (Nat.mod_lt _ (by decide)),by simp [hlen],by omega,?_,hB.grown hg hB.size hr⟩;rw [Zdv,hlen,Z7,Z7,Zaq];have e:(carry+a[k]?.getD 0+b[k]?.getD 0) % 4294967296+4294967296 * ((carry+a[k]?.getD 0+b[k]?.getD 0) / 4294967296)=carry+a[k]?.getD 0+b[k]?.getD 0:=Nat.mod_add_div _ _
 generalize (carry+a[k]?.getD 0+b[k]?.getD 0) % 4294967296=s at *
 generalize (carry+a[k]?.getD 0+b[k]?.getD 0) / 4294967296=q at *
 have:pw k * (s+4294967296 * q)=pw k * (carry+a[k]?.getD 0+b[k]?.getD 0):=by rw [e]
 grind
theorem RPlus.stop {w w1 wb:World} {a b l:List Nat} {k carry:Nat} {v':Value} {row:Option Nat} (hlen:l.length=k) (hlt:Lt32 l) (hc:carry <= 1)
    (hI:val l+pw k * carry=val (a.take k)+val (b.take k)) (hB:Below w.heap.size w wb) (hown:w1.ownsRow w.heap.size 147 1 v' (k+1) (l.map limb ++ [.int .u32 carry]))
    (hg:wb.grownBy w1 row) (hr:∀ j,row=some j->w.heap.size <= j) (ha:a.length <= k) (hb:b.length <= k):OutL w (fun l=>l.length=k+1/\val l=val a+val b) (.returned v') w1:=by
 refine OutL.of_own (OwnL.snoc hlen.symm hown hlt rfl (by omega)) (hB.grown hg hB.size hr) ⟨by simp [hlen],?_⟩;rw [Zdv,hlen,hI,Zab ha,Zab hb]
theorem Zl6 (A B:Option Addr) (n c m d:Nat) (a b:List Nat) (w:World) (ha:Lim w A n c a) (hb:Lim w B m d b) (hn9:n <= 1000000000) (hm9:m <= 1000000000) :
    Calls Tryz.prog 137 #[.slice A n c,.slice B m d] w (OutL w fun l=>l.length=max n m+1/\val l=val a+val b):=by
 obtain ⟨i0,hi,hz0,hz1,hz2⟩:=info_parts Zco;have hnc:=ha.2.1;have hmd:=hb.2.1;have hcm:=ha.2.2.1;have hdm:=hb.2.2.1;unfold maxLen at hcm hdm;have hla:=Za ha.len;have hlb:=Za hb.len;obtain ⟨N,hN,hN1,hN2,hN9⟩:∃ N,N=max n m/\n <= N/\m <= N/\N <= 1000000000:=⟨_,rfl,by omega,by omega,by omega⟩;rw [<- hN];have HN:=Za hN;clear hN;go_enter Tryz.func137,Tryz.ntmps137
 go_wp2
 go_loopw [5,6,7] (fun ov cv iv wr=>∃ k carry:Nat,k <= N/\cv=.int .u64 carry/\iv=.int .i64 k/\RPlus w a b k carry ov wr) (fun _ _ iv _=>N - (intOf iv).toNat)
 case atStart=>exact ⟨0,0,Nat.zero_le _,rfl,rfl,[],OwnL.nil _ _ _,rfl,by omega,by simp [val],Below.refl _ _⟩
 case round =>
  obtain ⟨k,carry,hk,rfl,rfl,l,hown,hlen,hcy,hI,hB⟩:=hrel;have HLen:=Za hlen;have HI:=Za hI;clear hlen hI;have hxa:=ha.lt.get k;have hxb:=hb.lt.get k
  by_cases h1:k < n
  ·obtain ⟨ba,oa,rfl,hca⟩:=(ha.below hB).at_ h1
   by_cases h2:k < m
   ·obtain ⟨bb,ob,rfl,hcb⟩:=(hb.below hB).at_ h2
    go_wp2_with (at_builtin;refine Zu _ rfl (.tmp 42) (.tmp 45) 25 rfl w.heap.size 147 i0 _ 1 4 Tryz.underlying25 hi hz0 hz1 hz2 rfl (by omega) _ k (l.map limb) rfl (by have:=HLen.out;subst this;exact hown.1.alloc _) _ _ 1 1 _ rfl (Zbk _ _ _) (by simp [Value.oneCell']) (by simp only [maxLen];omega) (by omega) (by have:=hB.size;simp;omega) ?_;intro v1 w1 hown1 hg1 hat1)
    go_roundw
    case rel=>exact ⟨k+1,_,by omega,by rw [show ((carry:Int)+((a[k]?.getD 0:Nat):Int)+((b[k]?.getD 0:Nat):Int)) / 4294967296=(((carry+a[k]?.getD 0+b[k]?.getD 0) / 4294967296:Nat):Int) by omega],by go_num,RPlus.step HLen.out hown.2 hcy HI.out (hB.alloc hB.size _) hown1 hg1 hown.row_ge (ha.lt.get k) (hb.lt.get k) (by omega)⟩
    case measure=>simp [intOf];omega
   ·have hb0:=Za (getD_none (l:=b) (i:=k) (by rw [hlb.out];omega))
    go_wp2_with (at_builtin;refine Zu _ rfl (.tmp 42) (.tmp 45) 25 rfl w.heap.size 147 i0 _ 1 4 Tryz.underlying25 hi hz0 hz1 hz2 rfl (by omega) _ k (l.map limb) rfl (by have:=HLen.out;subst this;exact hown.1.alloc _) _ _ 1 1 _ rfl (Zbk _ _ _) (by simp [Value.oneCell']) (by simp only [maxLen];omega) (by omega) (by have:=hB.size;simp;omega) ?_;intro v1 w1 hown1 hg1 hat1)
    go_roundw
    case rel=>exact ⟨k+1,_,by omega,by rw [hb0.out];rw [show ((carry:Int)+((a[k]?.getD 0:Nat):Int)) / 4294967296=(((carry+a[k]?.getD 0+0) / 4294967296:Nat):Int) by omega],by go_num,RPlus.step HLen.out hown.2 hcy HI.out (hB.alloc hB.size _) hown1 hg1 hown.row_ge (ha.lt.get k) (hb.lt.get k) (by rw [hb0.out];omega)⟩
    case measure=>simp [intOf];omega
  ·have ha0:=Za (getD_none (l:=a) (i:=k) (by rw [hla.out];omega))
   by_cases h2:k < m
   ·obtain ⟨bb,ob,rfl,hcb⟩:=(hb.below hB).at_ h2
    go_wp2_with (at_builtin;refine Zu _ rfl (.tmp 42) (.tmp 45) 25 rfl w.heap.size 147 i0 _ 1 4 Tryz.underlying25 hi hz0 hz1 hz2 rfl (by omega) _ k (l.map limb) rfl (by have:=HLen.out;subst this;exact hown.1.alloc _) _ _ 1 1 _ rfl (Zbk _ _ _) (by simp [Value.oneCell']) (by simp only [maxLen];omega) (by omega) (by have:=hB.size;simp;omega) ?_;intro v1 w1 hown1 hg1 hat1)
    go_roundw
    case rel=>exact ⟨k+1,_,by omega,by rw [ha0.out];rw [show ((carry:Int)+((b[k]?.getD 0:Nat):Int)) / 4294967296=(((carry+0+b[k]?.getD 0) / 4294967296:Nat):Int) by omega],by go_num,RPlus.step HLen.out hown.2 hcy HI.out (hB.alloc hB.size _) hown1 hg1 hown.row_ge (ha.lt.get k) (hb.lt.get k) (by rw [ha0.out];omega)⟩
    case measure=>simp [intOf];omega
   ·have hkN:=Za (show k=N by have:=HN.out;omega)
    go_wp2_with (at_builtin;refine Zu _ rfl (.tmp 49) (.tmp 52) 25 rfl w.heap.size 147 i0 _ 1 4 Tryz.underlying25 hi hz0 hz1 hz2 rfl (by omega) _ k (l.map limb) rfl (by have:=HLen.out;subst this;exact hown.1.alloc _) _ _ 1 1 _ rfl (Zbk _ _ _) (by simp [Value.oneCell']) (by simp only [maxLen];omega) (by omega) (by have:=hB.size;simp;omega) ?_;intro v1 w1 hown1 hg1 hat1);go_ret;rw [<- hkN.out];exact RPlus.stop HLen.out hown.2 hcy HI.out (hB.alloc hB.size _) hown1 hg1 hown.row_ge (by rw [hla.out];omega) (by rw [hlb.out];omega)
theorem Zqp (A B:Option Addr) (n c m d:Nat) (a b:List Nat) (w:World) (ha:Lim w A n c a) (hb:Lim w B m d b) (hn:n <= 1000000000) (hm:m <= 1000000000) :
    Calls Tryz.prog 133 #[.slice A n c,.slice B m d] w (OutL w fun l=>l.length=n+m/\val l=val a * val b):=by
 obtain ⟨i0,hi,hz0,hz1,hz2⟩:=info_parts Zco;have hmk:=Zeo (P:=Tryz.prog) 25 147 Tryz.underlying25 hi hz0 hz1 hz2 ((n:Int)+m) (n+m) (by omega) (by omega);have hnc:=ha.2.1;have hmd:=hb.2.1;have hcm:=ha.2.2.1;have hdm:=hb.2.2.1;unfold maxLen at hcm hdm;have hal:=Za ha.len;have hbl:=Za hb.len;go_enter Tryz.func133,Tryz.ntmps133
 go_wp2
 go_loopw [6] (fun iv wr=>∃ i:Nat,i <= n/\iv=.int .i64 i/\Times1 w a b w.heap.size i 0 0 wr) (fun iv _=>n - (intOf iv).toNat)
 case atStart=>exact ⟨0,Nat.zero_le _,rfl,by have:=Times1.start w a b;rw [ha.len,hb.len] at this;exact this⟩
 case round =>
  obtain ⟨i,hi1,rfl,hP⟩:=hrel
  by_cases hlt1:i < n
  ·have hB0:Below w.heap.size w wr:=by obtain ⟨out,h1,h2,h3,h4,h5,h6,h7⟩:=hP;exact h7
   obtain ⟨ba,oa,rfl,hca⟩:=(ha.below hB0).at_ hlt1;have hxa:=ha.lt.get i;obtain ⟨wo,rfl⟩:∃ wo:World,wo=wr:=⟨_,rfl⟩
   go_wp2
   go_loopw [7,8] (fun cv kv wr=>∃ k carry:Nat,k <= m/\cv=.int .u64 carry/\kv=.int .i64 k/\Times1 w a b w.heap.size i k carry wr) (fun _ kv _=>m - (intOf kv).toNat)
   case atStart=>exact ⟨0,0,Nat.zero_le _,rfl,rfl,hP⟩
   case round =>
    obtain ⟨k,carry,hk,rfl,rfl,hP⟩:=hrel
    by_cases hlt2:k < m
    ·obtain ⟨out,hblk,hlen,hlt,hz,hI,hcy,hB⟩:=hP
     have hz:=Za hz;have hI:=Za hI;have hlen:=Za hlen;have hsz:=hblk.lt;obtain ⟨bb,ob,rfl,hcb⟩:=(hb.below hB).at_ hlt2;have hxb:=hb.lt.get k;have hcg:=hblk.cell (i+k);rw [Zai out (i+k) (by rw [hlen.out,hal.out,hbl.out];omega)] at hcg;have hxo:=hlt.get (i+k);have hfg:=hblk.frozen (i+k);have hca':=(ha.below hB).cell hlt1;have s1:IntKind.i64.wrap ((i:Int)+(k:Int))=(i:Int)+(k:Int):=IntWalk.i64_in _ (by omega)
     have s2:0 <= (i:Int)+(k:Int):=by omega
     have s3:((i:Int)+(k:Int)).toNat=i+k:=by omega
     go_wp2
     go_quiet (fail)
     clear s1 s2 s3
     go_wp2
     go_roundw
     case rel =>
      rw [Zre hcy hxa hxb hxo,Zkp,Zjp];exact ⟨k+1,_,by omega,rfl,by go_num,Times1.step (wr:=wr.drewN nq) hblk hlen.out hlt hz.out hI.out hcy (Zi hB _) (by rw [hal.out];exact hlt1) (by rw [hbl.out];exact hlt2) ha.lt hb.lt (Nat.mod_lt _ (by decide)) (by omega)⟩
     case measure=>simp [intOf];omega
    ·obtain rfl:k=m:=by omega
     have HR:Hid (Times1 w a b w.heap.size (i+1) 0 0 (wr.setCell ⟨w.heap.size,i+k,none⟩ (limb carry))):=by
      rw [<- hbl.out] at hP ⊢;exact hP.row (by rw [hal.out];exact hlt1)
     obtain ⟨out,hblk,hlen,hlt,hz,hI,hcy,hB⟩:=hP;have hsz:=hblk.lt;have hcg:=hblk.cell (i+k);rw [Zai out (i+k) (by rw [hlen,hal.out,hbl.out];omega)] at hcg;have hfg:=hblk.frozen (i+k);clear hz hI hlen hblk
     go_wp2
     go_roundw
     case rel=>exact ⟨i+1,by omega,by go_num,HR.out⟩
     case measure=>simp [intOf];omega
  ·obtain rfl:i=n:=by omega
   have HF:Hid (OutL w (fun l=>l.length=i+m/\val l=val a * val b) (.returned (.slice (some ⟨w.heap.size,0,none⟩) (i+m) (i+m))) wr):=by
    rw [<- hbl.out];have h1:=hal.out;subst h1;exact Times1.stop hP (by rw [hbl.out];unfold maxLen;omega) rfl
   clear hP
   go_wp2
   go_ret;exact HF.out
def RMinus (w:World) (a b:List Nat) (k borrow:Nat) (v:Value) (wr:World):Prop:=
 ∃ l,OwnL 147 wr w.heap.size v l/\l.length=k/\borrow <= 1/\val l+val (b.take k)=val (a.take k)+pw k * borrow/\Below w.heap.size w wr
theorem RMinus.step {w w1 wb:World} {a b l:List Nat} {k borrow q s:Nat} {v':Value} {X:Int} {row:Option Nat} (hlen:l.length=k) (hlt:Lt32 l) (hq:q <= 1)
    (hI:val l+val (b.take k)=val (a.take k)+pw k * borrow) (hB:Below w.heap.size w wb) (hown:w1.ownsRow w.heap.size 147 1 v' (k+1) (l.map limb ++ [.int .u32 X]))
    (hg:wb.grownBy w1 row) (hr:∀ j,row=some j->w.heap.size <= j) (hs:s < 4294967296) (hX:X=s) (he:s+b[k]?.getD 0+borrow=a[k]?.getD 0+4294967296 * q):RMinus w a b (k+1) q v' w1:=by
 refine ⟨l ++ [s],OwnL.snoc hlen.symm hown hlt hX hs,by simp [hlen],hq,?_,hB.grown hg hB.size hr⟩;rw [Zdv,hlen,Z7,Z7,Zaq]
 have:pw k * (s+b[k]?.getD 0+borrow)=pw k * (a[k]?.getD 0+4294967296 * q):=by rw [he]
 grind
theorem RMinus.stop {w wr:World} {a b:List Nat} {n borrow:Nat} {v:Value} (h:RMinus w a b n borrow v wr) (ha:a.length <= n) (hb:b.length <= n) (hab:val b <= val a) :
    ∃ A c l,v=.slice A n c/\Lim wr A n c l/\val l=val a - val b/\Below w.heap.size w wr:=by
 obtain ⟨l,hown,hlen,hq,hI,hB⟩:=h;obtain ⟨A,c,hv,hL⟩:=hown.lim;rw [hlen] at hv hL;refine ⟨A,c,l,hv,hL,?_,hB⟩;rw [Zab ha,Zab hb] at hI;have:=hL.lt_pw
 rcases Nat.eq_zero_or_pos borrow with h0 | h0
 ·subst h0;omega
 ·have:=Nat.mul_le_mul_left (pw n) h0;omega
theorem Zkt (A B:Option Addr) (n c m d:Nat) (a b:List Nat) (w:World) (ha:Lim w A n c a) (hb:Lim w B m d b) (hmn:m <= n) (hab:val b <= val a) (hn9:n <= 1000000000) :
    Calls Tryz.prog 199 #[.slice A n c,.slice B m d] w (OutL w fun l=>l=digits (val a - val b)):=by
 obtain ⟨i0,hi,hz0,hz1,hz2⟩:=info_parts Zco;have hnc:=ha.2.1;have hmd:=hb.2.1;have hcm:=ha.2.2.1;have hdm:=hb.2.2.1;unfold maxLen at hcm hdm;have hla:=Za ha.len;have hlb:=Za hb.len;have hab:=Za hab;go_enter Tryz.func199,Tryz.ntmps199
 go_wp2
 go_loopw [5,6,7] (fun ov cv iv wr=>∃ k borrow:Nat,k <= n/\cv=.int .i64 borrow/\iv=.int .i64 k/\RMinus w a b k borrow ov wr) (fun _ _ iv _=>n - (intOf iv).toNat)
 case atStart=>exact ⟨0,0,Nat.zero_le _,rfl,rfl,[],OwnL.nil _ _ _,rfl,by omega,by simp [val],Below.refl _ _⟩
 case round =>
  obtain ⟨k,borrow,hk,rfl,rfl,hP⟩:=hrel
  by_cases h1:k < n
  ·obtain ⟨l,hown,hlen,hcy,hI,hB⟩:=hP
   have HLen:=Za hlen;have HI:=Za hI;clear hlen hI;have hxa:=ha.lt.get k;have hxb:=hb.lt.get k;obtain ⟨ba,oa,rfl,hca⟩:=(ha.below hB).at_ h1
   by_cases h2:k < m
   ·obtain ⟨bb,ob,rfl,hcb⟩:=(hb.below hB).at_ h2
    by_cases h3:a[k]?.getD 0 < borrow+b[k]?.getD 0
    ·go_wp2_with (at_builtin;refine Zu _ rfl (.tmp 37) (.tmp 40) 25 rfl w.heap.size 147 i0 _ 1 4 Tryz.underlying25 hi hz0 hz1 hz2 rfl (by omega) _ k (l.map limb) rfl (by have:=HLen.out;subst this;exact hown.1.alloc _) _ _ 1 1 _ rfl (Zbk _ _ _) (by simp [Value.oneCell']) (by simp only [maxLen];omega) (by omega) (by have:=hB.size;simp;omega) ?_;intro v1 w1 hown1 hg1 hat1)
     go_roundw
     case rel=>exact ⟨k+1,1,by omega,by go_num,by go_num,RMinus.step (s:=a[k]?.getD 0+4294967296 - borrow - b[k]?.getD 0) HLen.out hown.2 (by omega) HI.out (hB.alloc hB.size _) hown1 hg1 hown.row_ge (by omega) (by omega) (by omega)⟩
     case measure=>simp [intOf];omega
    ·go_wp2_with (at_builtin;refine Zu _ rfl (.tmp 37) (.tmp 40) 25 rfl w.heap.size 147 i0 _ 1 4 Tryz.underlying25 hi hz0 hz1 hz2 rfl (by omega) _ k (l.map limb) rfl (by have:=HLen.out;subst this;exact hown.1.alloc _) _ _ 1 1 _ rfl (Zbk _ _ _) (by simp [Value.oneCell']) (by simp only [maxLen];omega) (by omega) (by have:=hB.size;simp;omega) ?_;intro v1 w1 hown1 hg1 hat1)
     go_roundw
     case rel=>exact ⟨k+1,0,by omega,by go_num,by go_num,RMinus.step (s:=a[k]?.getD 0 - borrow - b[k]?.getD 0) HLen.out hown.2 (by omega) HI.out (hB.alloc hB.size _) hown1 hg1 hown.row_ge (by omega) (by omega) (by omega)⟩
     case measure=>simp [intOf];omega
   ·have hb0:=Za (getD_none (l:=b) (i:=k) (by rw [hlb.out];omega))
    by_cases h3:a[k]?.getD 0 < borrow
    ·go_wp2_with (at_builtin;refine Zu _ rfl (.tmp 37) (.tmp 40) 25 rfl w.heap.size 147 i0 _ 1 4 Tryz.underlying25 hi hz0 hz1 hz2 rfl (by omega) _ k (l.map limb) rfl (by have:=HLen.out;subst this;exact hown.1.alloc _) _ _ 1 1 _ rfl (Zbk _ _ _) (by simp [Value.oneCell']) (by simp only [maxLen];omega) (by omega) (by have:=hB.size;simp;omega) ?_;intro v1 w1 hown1 hg1 hat1)
     go_roundw
     case rel=>exact ⟨k+1,1,by omega,by go_num,by go_num,RMinus.step (s:=a[k]?.getD 0+4294967296 - borrow) HLen.out hown.2 (by omega) HI.out (hB.alloc hB.size _) hown1 hg1 hown.row_ge (by omega) (by omega) (by rw [hb0.out];omega)⟩
     case measure=>simp [intOf];omega
    ·go_wp2_with (at_builtin;refine Zu _ rfl (.tmp 37) (.tmp 40) 25 rfl w.heap.size 147 i0 _ 1 4 Tryz.underlying25 hi hz0 hz1 hz2 rfl (by omega) _ k (l.map limb) rfl (by have:=HLen.out;subst this;exact hown.1.alloc _) _ _ 1 1 _ rfl (Zbk _ _ _) (by simp [Value.oneCell']) (by simp only [maxLen];omega) (by omega) (by have:=hB.size;simp;omega) ?_;intro v1 w1 hown1 hg1 hat1)
     go_roundw
     case rel=>exact ⟨k+1,0,by omega,by go_num,by go_num,RMinus.step (s:=a[k]?.getD 0 - borrow) HLen.out hown.2 (by omega) HI.out (hB.alloc hB.size _) hown1 hg1 hown.row_ge (by omega) (by omega) (by rw [hb0.out];omega)⟩
     case measure=>simp [intOf];omega
  ·obtain rfl:k=n:=by omega
   obtain ⟨A2,c2,l2,rfl,hL2,hv2,hB⟩:=hP.stop (by rw [hla.out];omega) (by rw [hlb.out];omega) hab.out;have hv2:=Za hv2;clear hP;go_wp2_with (go_at_call 174;refine (Zdm _ _ _ _ _ hL2 hn9).mono ?_;rintro e w3 ⟨A3,n3,c3,l3,rfl,hL3,hl3,hb3⟩);go_ret;exact ⟨_,_,_,_,rfl,hL3,by rw [hl3,hv2.out],hB.trans (hb3.mono hB.size)⟩
end Go.Proofs.YtaioanjcjijckaaGreat
