/- The reference of layer 1: left, short. -/
import Derived.Test.YtpehacgjclkhmaaGreatZy11
set_option maxRecDepth 100000
set_option maxHeartbeats 1000000
set_option linter.unusedSimpArgs false
set_option linter.unusedVariables false
namespace Go.Proofs.YtpehacgjclkhmaaGreat
open Go.RowKit
attribute [local go_sem] Zg
theorem Zi8 (A : Option Addr) (n c s : Nat) (l : List Nat) (w : World) (h : Lim w A n c l) (hs : s < 32) (hn9 : n <= 1000000) :
    Calls Tryz.prog 156 #[.slice A n c,.int .u64 s] w (fun e w'=>∃ v o,e = .returned v /\ OwnL 154 w' w.heap.size v o /\ o.length = n + 1 /\ val o = 2 ^ s * val l /\ Below w.heap.size w w'):=by
 obtain ⟨i0,hi,hz0,hz1,hz2⟩:=info_parts Zbt;have hnc:=h.2.1;have hcm:=h.2.2.1;unfold maxLen at hcm;go_enter Tryz.func156,Tryz.ntmps156;go_wp2_with fail
 go_loopw [7,6,5] (fun iv cv ov wr=>∃ i cy : Nat,i <= n /\ iv = .int .i64 i /\ cv = .int .u64 cy /\ LeftP w s l i cy ov wr) (fun iv _ _ _=>n - (intOf iv).toNat)
 case atStart=>exact ⟨0,0,Nat.zero_le _,rfl,rfl,[],OwnL.nil _ _ _,rfl,Nat.pow_pos (by omega),by simp [val],Below.refl _ _⟩
 case round =>
  obtain ⟨i,cy,hin,rfl,rfl,o,hown,hol,hcy,hI,hB⟩:=hrel;replace hol:=Za hol;replace hI:=Za hI
  by_cases hi' : i < n
  ·obtain ⟨b,of,rfl,hcell⟩:=(h.below hB).at_ hi'
   have hx:=h.lt.get i;obtain ⟨p,hp⟩ : ∃ p,2 ^ s = p:=⟨_,rfl⟩
   have hpb : p <= 2147483648:=by rw [<- hp];exact Nat.pow_le_pow_right (by omega) (show s <= 31 by omega)
   have hxb : p * l[i]?.getD 0 <= 2147483648 * 4294967295:=Nat.mul_le_mul hpb (by omega)
   have hor : IntKind.u64.wrap ((cy : Int) + IntKind.u64.wrap (((l[i]?.getD 0 : Nat) : Int) * 2 ^ s)) = ((cy + p * l[i]?.getD 0 : Nat) : Int):=by
    have e1 : (((l[i]?.getD 0 : Nat) : Int) * 2 ^ s) = ((p * l[i]?.getD 0 : Nat) : Int):=by rw [<- hp];push_cast;rw [Int.mul_comm]
    rw [hp] at hcy;rw [e1,IntKind.wrap_u64,IntKind.wrap_u64];omega
   rw [hp] at hcy;replace hp:=Za hp;have hs0 : Hid (val (l.take (i + 1)) = val (l.take i) + pw i * l[i]?.getD 0):=Zs l i;obtain ⟨x,hxe⟩ : ∃ x,l[i]?.getD 0 = x:=⟨_,rfl⟩;rw [hxe] at hcell hx hxb hor hs0;replace hxe:=Za hxe;obtain ⟨t,ht⟩ : ∃ t,cy + p * x = t:=⟨_,rfl⟩
   have htb : t / 4294967296 < p:=by
    rw [Nat.div_lt_iff_lt_mul (by omega),<- ht]
    have : p * x + p <= p * 4294967296:=by rw [<- Nat.mul_succ];exact Nat.mul_le_mul_left _ (by omega)
    omega
   have htb2 : t < 18446744073709551616:=by omega
   rw [ht] at hor;replace ht:=Za ht;go_wp2_with (go_loud (at_builtin;refine Zj _ rfl (.tmp 23) (.tmp 26) 25 rfl w.heap.size 154 i0 _ 1 4 Tryz.underlying25 hi hz0 hz1 hz2 rfl (by omega) _ i (o.map limb) rfl (by have:=hol.out;subst this;exact hown.1.alloc _) _ _ 1 1 _ rfl (Zag _ _ _) (by simp [Value.oneCell']) (by simp only [maxLen];omega) (by omega) (by have:=hB.size;simp;omega) ?_;intro v1 w1 hown1 hg1 hat1));have hown2 : OwnL 154 w1 w.heap.size v1 (o ++ [t % 4294967296]):=OwnL.snoc (s:=t % 4294967296) hol.out.symm hown1 hown.2 (by omega) (Nat.mod_lt _ (by decide));have hB1:=(hB.alloc hB.size _).grown hg1 (by have:=hB.size;simp;omega) hown.row_ge
   go_roundw
   case rel =>
    refine ⟨i + 1,t / 4294967296,by omega,by go_num,by go_num,_,hown2,by rw [List.length_append,hol.out];rfl,by rw [hp.out];exact htb,?_,hB1⟩;rw [Zbv,hol.out,hs0.out,hp.out,Nat.mul_add,Z8];have h1:=hI.out;rw [hp.out] at h1
    have h2 : pw i * (t % 4294967296) + 4294967296 * pw i * (t / 4294967296) = pw i * t:=by
     rw [Nat.mul_comm 4294967296 (pw i),Nat.mul_assoc,<- Nat.mul_add,Nat.mod_add_div]
    have h3 : p * (pw i * x) = pw i * (p * x):=by rw [Nat.mul_left_comm]
    rw [h3,<- h1,Nat.add_assoc,h2,<- ht.out,Nat.mul_add];omega
   case measure=>simp [intOf];omega
  ·obtain rfl : i = n:=by omega
   have hlen:=Za h.len;have hcy2 : cy < 4294967296:=Nat.lt_of_lt_of_le hcy (show 2 ^ s <= 4294967296 from Nat.le_trans (Nat.pow_le_pow_right (by decide) (show s <= 32 by omega)) (by decide))
   have hcm : ((cy : Int)) % 4294967296 = (cy : Int):=by omega
   clear h;go_wp2_with (go_loud (at_builtin;refine Zj _ rfl (.tmp 30) (.tmp 33) 25 rfl w.heap.size 154 i0 _ 1 4 Tryz.underlying25 hi hz0 hz1 hz2 rfl (by omega) _ i (o.map limb) rfl (by have:=hol.out;subst this;exact hown.1.alloc _) _ _ 1 1 _ rfl (Zag _ _ _) (by simp [Value.oneCell']) (by simp only [maxLen];omega) (by omega) (by have:=hB.size;simp;omega) ?_;intro v1 w1 hown1 hg1 hat1));have hown2 : OwnL 154 w1 w.heap.size v1 (o ++ [cy]):=OwnL.snoc (s:=cy) hol.out.symm hown1 hown.2 (by omega) hcy2;have hB1:=(hB.alloc hB.size _).grown hg1 (by have:=hB.size;simp;omega) hown.row_ge;go_ret;refine ⟨v1,_,rfl,hown2,by rw [List.length_append,hol.out];rfl,?_,hB1⟩;rw [Zbv,hol.out,hI.out,Zu (by rw [hlen.out];exact Nat.le_refl _)]
def RShortR (w : World) (g n D : Nat) (l : List Nat) (k r : Nat) (wr : World) : Prop:=
 ∃ o : List Nat,Blk wr g 154 (Zk o) /\ o.length = n /\ Lt32 o /\ r < D /\ val (o.drop k) * D + r = val (l.drop k) /\ Below w.heap.size w wr
theorem Zmk (A : Option Addr) (n c d : Nat) (l : List Nat) (w : World) (hl : Lim w A n c l) (hd0 : 0 < d) (hd : d < 4294967296) (hn9 : n <= 1000000) :
    Calls Tryz.prog 157 #[.slice A n c,limb d] w (Zjy w (val l) d):=by
 obtain ⟨i0,hi,hz0,hz1,hz2⟩:=info_parts Zbt;have hmk:=Zel (P:=Tryz.prog) 25 154 Tryz.underlying25 hi hz0 hz1 hz2 (n : Int) n rfl (by omega);have hnc:=hl.2.1;have hcm:=hl.2.2.1;unfold maxLen at hcm;have hlen:=Za hl.len
 have hdz : ((d : Int) == 0) = false:=by simp;omega
 have hdz' : (d : Int) ≠ 0:=by omega
 go_enter Tryz.func157,Tryz.ntmps157;go_wp2_with fail
 go_loopw [8,7] (fun iv rv wr=>∃ k r : Nat,k <= n /\ iv = .int .i64 ((k : Int) - 1) /\ rv = .int .u64 r /\ RShortR w w.heap.size n d l k r wr) (fun iv _ _=>(intOf iv + 1).toNat)
 case atStart=>exact ⟨n,0,Nat.le_refl _,rfl,rfl,List.replicate n 0,Blk.new _ _ _,by simp,Lt32.replicate _,hd0,by rw [List.drop_of_length_le (by simp),List.drop_of_length_le (by rw [hlen.out];exact Nat.le_refl _)];simp [val],(Below.refl _ _).alloc (Nat.le_refl _) _⟩
 case round =>
  obtain ⟨k,r,hk,rfl,rfl,o,hblk,hol,hot,hr,hI,hB⟩:=hrel;replace hol:=Za hol;replace hI:=Za hI
  rcases k with _ | k
  ·have hI2:=hI.out
   rw [List.drop_zero,List.drop_zero] at hI2;obtain ⟨e1,e2⟩:=Zjx (U:=val l) (V:=d) (q:=val o) (R:=r) (by omega) hr;have hLo:=Lim.of_blk hblk hot (by rw [hol.out];unfold maxLen;omega);rw [hol.out] at hLo
   have hr32 : r < 4294967296:=by omega
   have hrm : ((r : Int)) % 4294967296 = (r : Int):=by omega
   replace e1:=Za e1;replace e2:=Za e2;clear hI2;go_wp2_with fail;refine (Zcf _ _ _ _ _ hLo (by omega)).mono ?_;rintro e w2 ⟨A2,n2,c2,l2,rfl,hL2,rfl,hb2⟩
   have hLr : ∀ t,Lim (w2.alloc (.cells #[limb r] t)) (some ⟨w2.heap.size,0,none⟩) 1 1 [r]:=fun t=>by
    have:=Lim.of_blk (l:=[r]) (Blk.new w2 t (Zk [r])) (Lt32.cons hr32 Lt32.nil) (by simp [maxLen]);exact this
   replace hLr:=Za hLr;go_wp2_with fail;refine (Zcf _ _ _ _ _ (hLr.out _) (by omega)).mono ?_;rintro e w3 ⟨A3,n3,c3,l3,rfl,hL3,hl3,hb3⟩;have hb3' : Below w2.heap.size w2 w3:=((Below.refl w2.heap.size w2).alloc (Nat.le_refl _) _).trans (hb3.mono (by simp));replace hl3:=Za hl3;go_wp2_with fail
   go_ret2
   refine ⟨_,_,_,_,_,_,rfl,by rw [<- e1.out];exact hL2.below hb3',?_,(hB.trans (hb2.mono hB.size)).trans (hb3'.mono (Nat.le_trans hB.size hb2.size))⟩;have:=hl3.out;rw [show val [r] = r by simp [val]] at this;rw [<- e2.out,<- this];exact hL3
  ·obtain ⟨b,of,rfl,hcell⟩:=(hl.below hB).at_ (k:=k) (by omega)
   have hx:=hl.lt.get k;have hcg:=hblk.cell k;rw [Z4 o k (by rw [hol.out];omega)] at hcg;have hfg:=hblk.frozen k
   have hrb : r * 4294967296 + l[k]?.getD 0 < 18446744073709551616:=by omega
   go_wp2_with fail;obtain ⟨x,hxe⟩ : ∃ x,l[k]?.getD 0 = x:=⟨_,rfl⟩;rw [hxe] at hx hrb ⊢
   have e1 : ((r : Int) * 4294967296 + (x : Int)) / (d : Int) % 4294967296 = (((r * 4294967296 + x) / d : Nat) : Int):=by
    have : (r * 4294967296 + x) / d < 4294967296:=by
     rw [Nat.div_lt_iff_lt_mul hd0];have:=Nat.mul_le_mul_left 4294967296 (show r + 1 <= d by omega);omega
    rw [show ((r : Int) * 4294967296 + (x : Int)) / (d : Int) = (((r * 4294967296 + x) / d : Nat) : Int) by simp]
    generalize (r * 4294967296 + x) / d = z at *
    omega
   have e2 : ((r : Int) * 4294967296 + (x : Int)) % (d : Int) = (((r * 4294967296 + x) % d : Nat) : Int):=by simp
   have hq : (r * 4294967296 + x) / d < 4294967296:=by
    rw [Nat.div_lt_iff_lt_mul hd0];have:=Nat.mul_le_mul_left 4294967296 (show r + 1 <= d by omega);omega
   have hr' : (r * 4294967296 + x) % d < d:=Nat.mod_lt _ hd0
   have he : (r * 4294967296 + x) / d * d + (r * 4294967296 + x) % d = r * 4294967296 + x:=by rw [Nat.mul_comm];exact Nat.div_add_mod _ _
   rw [e1,e2]
   generalize (r * 4294967296 + x) / d = q at *
   generalize (r * 4294967296 + x) % d = r' at *
   refine ⟨⟨k,r',by omega,rfl,rfl,o.set k q,by rw [<- Zao];exact hblk.set_ _ _,by rw [List.length_set];exact hol.out,hot.set _ hq,hr',?_,hB.setCell (p:=⟨w.heap.size,k,none⟩) (Nat.le_refl _) _⟩,by simp [intOf] <;> omega⟩;exact Zip (by rw [hol.out];omega) (by rw [hlen.out];omega) hI.out (by rw [hxe];exact he)
end Go.Proofs.YtpehacgjclkhmaaGreat
