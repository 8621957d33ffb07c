/- The reference of layer 1: left, short. Package wide: left, -/
import Derived.Test.YtaioanjcjijckaaGreatZl17
set_option maxRecDepth 100000
set_option maxHeartbeats 4000000
set_option linter.unusedSimpArgs false
set_option linter.unusedVariables false
namespace Go.Proofs.YtaioanjcjijckaaGreat
open Go.RowKit
attribute [local go_sem] Zg
theorem Zhe (A : Option Addr) (n c s : Nat) (l : List Nat) (w : World) (h : Lim w A n c l) (hs : s < 32) (hn9 : n <= 1000000) :
    Calls Tryz.prog 196 #[.slice A n c,.int .u64 s] w (fun e w'=>∃ v o,e = .returned v /\ OwnL 147 w' w.heap.size v o /\ o.length = n + 1 /\ val o = 2 ^ s * val l /\ Below w.heap.size w w'):=by
 obtain ⟨i0,hi,hz0,hz1,hz2⟩:=info_parts Zbw;have hnc:=h.2.1;have hcm:=h.2.2.1;unfold maxLen at hcm;go_enter Tryz.func196,Tryz.ntmps196;go_wp2_with fail
 go_loopw [7,6,5] (fun iv cv ov wr=>∃ i cy : Nat,i <= n /\ iv = .int .i64 i /\ cv = .int .u64 cy /\ LeftP w s l i cy ov wr) (fun iv _ _ _=>n - (intOf iv).toNat)
 case atStart=>exact ⟨0,0,Nat.zero_le _,rfl,rfl,[],OwnL.nil _ _ _,rfl,Nat.pow_pos (by omega),by simp [val],Below.refl _ _⟩
 case round =>
  obtain ⟨i,cy,hin,rfl,rfl,o,hown,hol,hcy,hI,hB⟩:=hrel;replace hol:=Za hol;replace hI:=Za hI
  by_cases hi' : i < n
  ·obtain ⟨b,of,rfl,hcell⟩:=(h.below hB).at_ hi'
   have hx:=h.lt.get i;obtain ⟨p,hp⟩ : ∃ p,2 ^ s = p:=⟨_,rfl⟩
   have hpb : p <= 2147483648:=by rw [<- hp];exact Nat.pow_le_pow_right (by omega) (show s <= 31 by omega)
   have hxb : p * l[i]?.getD 0 <= 2147483648 * 4294967295:=Nat.mul_le_mul hpb (by omega)
   have hor : IntKind.u64.wrap ((cy : Int) + IntKind.u64.wrap (((l[i]?.getD 0 : Nat) : Int) * 2 ^ s)) = ((cy + p * l[i]?.getD 0 : Nat) : Int):=by
    have e1 : (((l[i]?.getD 0 : Nat) : Int) * 2 ^ s) = ((p * l[i]?.getD 0 : Nat) : Int):=by rw [<- hp];push_cast;rw [Int.mul_comm]
    rw [hp] at hcy;rw [e1,IntKind.wrap_u64,IntKind.wrap_u64];omega
   rw [hp] at hcy;replace hp:=Za hp;have hs0 : Hid (val (l.take (i + 1)) = val (l.take i) + pw i * l[i]?.getD 0):=Zv l i;obtain ⟨x,hxe⟩ : ∃ x,l[i]?.getD 0 = x:=⟨_,rfl⟩;rw [hxe] at hcell hx hxb hor hs0;replace hxe:=Za hxe;obtain ⟨t,ht⟩ : ∃ t,cy + p * x = t:=⟨_,rfl⟩
   have htb : t / 4294967296 < p:=by
    rw [Nat.div_lt_iff_lt_mul (by omega),<- ht]
    have : p * x + p <= p * 4294967296:=by rw [<- Nat.mul_succ];exact Nat.mul_le_mul_left _ (by omega)
    omega
   have htb2 : t < 18446744073709551616:=by omega
   rw [ht] at hor;replace ht:=Za ht;go_wp2_with (go_loud (at_builtin;refine Zo _ rfl (.tmp 23) (.tmp 26) 25 rfl w.heap.size 147 i0 _ 1 4 Tryz.underlying25 hi hz0 hz1 hz2 rfl (by omega) _ i (o.map limb) rfl (by have:=hol.out;subst this;exact hown.1.alloc _) _ _ 1 1 _ rfl (Zar _ _ _) (by simp [Value.oneCell']) (by simp only [maxLen];omega) (by omega) (by have:=hB.size;simp;omega) ?_;intro v1 w1 hown1 hg1 hat1));have hown2 : OwnL 147 w1 w.heap.size v1 (o ++ [t % 4294967296]):=OwnL.snoc (s:=t % 4294967296) hol.out.symm hown1 hown.2 (by omega) (Nat.mod_lt _ (by decide));have hB1:=(hB.alloc hB.size _).grown hg1 (by have:=hB.size;simp;omega) hown.row_ge
   go_roundw
   case rel =>
    refine ⟨i + 1,t / 4294967296,by omega,by go_num,by go_num,_,hown2,by rw [List.length_append,hol.out];rfl,by rw [hp.out];exact htb,?_,hB1⟩;rw [Zcd,hol.out,hs0.out,hp.out,Nat.mul_add,Zai];have h1:=hI.out;rw [hp.out] at h1
    have h2 : pw i * (t % 4294967296) + 4294967296 * pw i * (t / 4294967296) = pw i * t:=by
     rw [Nat.mul_comm 4294967296 (pw i),Nat.mul_assoc,<- Nat.mul_add,Nat.mod_add_div]
    have h3 : p * (pw i * x) = pw i * (p * x):=by rw [Nat.mul_left_comm]
    rw [h3,<- h1,Nat.add_assoc,h2,<- ht.out,Nat.mul_add];omega
   case measure=>simp [intOf];omega
  ·obtain rfl : i = n:=by omega
   have hlen:=Za h.len;have hcy2 : cy < 4294967296:=Nat.lt_of_lt_of_le hcy (show 2 ^ s <= 4294967296 from Nat.le_trans (Nat.pow_le_pow_right (by decide) (show s <= 32 by omega)) (by decide))
   have hcm : ((cy : Int)) % 4294967296 = (cy : Int):=by omega
   clear h;go_wp2_with (go_loud (at_builtin;refine Zo _ rfl (.tmp 30) (.tmp 33) 25 rfl w.heap.size 147 i0 _ 1 4 Tryz.underlying25 hi hz0 hz1 hz2 rfl (by omega) _ i (o.map limb) rfl (by have:=hol.out;subst this;exact hown.1.alloc _) _ _ 1 1 _ rfl (Zar _ _ _) (by simp [Value.oneCell']) (by simp only [maxLen];omega) (by omega) (by have:=hB.size;simp;omega) ?_;intro v1 w1 hown1 hg1 hat1));have hown2 : OwnL 147 w1 w.heap.size v1 (o ++ [cy]):=OwnL.snoc (s:=cy) hol.out.symm hown1 hown.2 (by omega) hcy2;have hB1:=(hB.alloc hB.size _).grown hg1 (by have:=hB.size;simp;omega) hown.row_ge;go_ret;refine ⟨v1,_,rfl,hown2,by rw [List.length_append,hol.out];rfl,?_,hB1⟩;rw [Zcd,hol.out,hI.out,Zx (by rw [hlen.out];exact Nat.le_refl _)]
def RShortR (w : World) (g n D : Nat) (l : List Nat) (k r : Nat) (wr : World) : Prop:=
 ∃ o : List Nat,Blk wr g 147 (Zn o) /\ o.length = n /\ Lt32 o /\ r < D /\ val (o.drop k) * D + r = val (l.drop k) /\ Below w.heap.size w wr
theorem Ziw (A : Option Addr) (n c d : Nat) (l : List Nat) (w : World) (hl : Lim w A n c l) (hd0 : 0 < d) (hd : d < 4294967296) (hn9 : n <= 1000000) :
    Calls Tryz.prog 197 #[.slice A n c,limb d] w (Zjw w (val l) d):=by
 obtain ⟨i0,hi,hz0,hz1,hz2⟩:=info_parts Zbw;have hmk:=Zdx (P:=Tryz.prog) 25 147 Tryz.underlying25 hi hz0 hz1 hz2 (n : Int) n rfl (by omega);have hnc:=hl.2.1;have hcm:=hl.2.2.1;unfold maxLen at hcm;have hlen:=Za hl.len
 have hdz : ((d : Int) == 0) = false:=by simp;omega
 have hdz' : (d : Int) ≠ 0:=by omega
 go_enter Tryz.func197,Tryz.ntmps197;go_wp2_with fail
 go_loopw [8,7] (fun iv rv wr=>∃ k r : Nat,k <= n /\ iv = .int .i64 ((k : Int) - 1) /\ rv = .int .u64 r /\ RShortR w w.heap.size n d l k r wr) (fun iv _ _=>(intOf iv + 1).toNat)
 case atStart=>exact ⟨n,0,Nat.le_refl _,rfl,rfl,List.replicate n 0,Blk.new _ _ _,by simp,Lt32.replicate _,hd0,by rw [List.drop_of_length_le (by simp),List.drop_of_length_le (by rw [hlen.out];exact Nat.le_refl _)];simp [val],(Below.refl _ _).alloc (Nat.le_refl _) _⟩
 case round =>
  obtain ⟨k,r,hk,rfl,rfl,o,hblk,hol,hot,hr,hI,hB⟩:=hrel;replace hol:=Za hol;replace hI:=Za hI
  rcases k with _ | k
  ·have hI2:=hI.out
   rw [List.drop_zero,List.drop_zero] at hI2;obtain ⟨e1,e2⟩:=Zlp (U:=val l) (V:=d) (q:=val o) (R:=r) (by omega) hr;have hLo:=Lim.of_blk hblk hot (by rw [hol.out];unfold maxLen;omega);rw [hol.out] at hLo
   have hr32 : r < 4294967296:=by omega
   have hrm : ((r : Int)) % 4294967296 = (r : Int):=by omega
   replace e1:=Za e1;replace e2:=Za e2;clear hI2;go_wp2_with fail;refine (Zct _ _ _ _ _ hLo (by omega)).mono ?_;rintro e w2 ⟨A2,n2,c2,l2,rfl,hL2,rfl,hb2⟩
   have hLr : ∀ t,Lim (w2.alloc (.cells #[limb r] t)) (some ⟨w2.heap.size,0,none⟩) 1 1 [r]:=fun t=>by
    have:=Lim.of_blk (l:=[r]) (Blk.new w2 t (Zn [r])) (Lt32.cons hr32 Lt32.nil) (by simp [maxLen]);exact this
   replace hLr:=Za hLr;go_wp2_with fail;refine (Zct _ _ _ _ _ (hLr.out _) (by omega)).mono ?_;rintro e w3 ⟨A3,n3,c3,l3,rfl,hL3,hl3,hb3⟩;have hb3' : Below w2.heap.size w2 w3:=((Below.refl w2.heap.size w2).alloc (Nat.le_refl _) _).trans (hb3.mono (by simp));replace hl3:=Za hl3;go_wp2_with fail
   go_ret2
   refine ⟨_,_,_,_,_,_,rfl,by rw [<- e1.out];exact hL2.below hb3',?_,(hB.trans (hb2.mono hB.size)).trans (hb3'.mono (Nat.le_trans hB.size hb2.size))⟩;have:=hl3.out;rw [show val [r] = r by simp [val]] at this;rw [<- e2.out,<- this];exact hL3
  ·obtain ⟨b,of,rfl,hcell⟩:=(hl.below hB).at_ (k:=k) (by omega)
   have hx:=hl.lt.get k;have hcg:=hblk.cell k;rw [Z7 o k (by rw [hol.out];omega)] at hcg;have hfg:=hblk.frozen k
   have hrb : r * 4294967296 + l[k]?.getD 0 < 18446744073709551616:=by omega
   go_wp2_with fail;obtain ⟨x,hxe⟩ : ∃ x,l[k]?.getD 0 = x:=⟨_,rfl⟩;rw [hxe] at hx hrb ⊢
   have e1 : ((r : Int) * 4294967296 + (x : Int)) / (d : Int) % 4294967296 = (((r * 4294967296 + x) / d : Nat) : Int):=by
    have : (r * 4294967296 + x) / d < 4294967296:=by
     rw [Nat.div_lt_iff_lt_mul hd0];have:=Nat.mul_le_mul_left 4294967296 (show r + 1 <= d by omega);omega
    rw [show ((r : Int) * 4294967296 + (x : Int)) / (d : Int) = (((r * 4294967296 + x) / d : Nat) : Int) by simp]
    generalize (r * 4294967296 + x) / d = z at *
    omega
   have e2 : ((r : Int) * 4294967296 + (x : Int)) % (d : Int) = (((r * 4294967296 + x) % d : Nat) : Int):=by simp
   have hq : (r * 4294967296 + x) / d < 4294967296:=by
    rw [Nat.div_lt_iff_lt_mul hd0];have:=Nat.mul_le_mul_left 4294967296 (show r + 1 <= d by omega);omega
   have hr' : (r * 4294967296 + x) % d < d:=Nat.mod_lt _ hd0
   have he : (r * 4294967296 + x) / d * d + (r * 4294967296 + x) % d = r * 4294967296 + x:=by rw [Nat.mul_comm];exact Nat.div_add_mod _ _
   rw [e1,e2]
   generalize (r * 4294967296 + x) / d = q at *
   generalize (r * 4294967296 + x) % d = r' at *
   refine ⟨⟨k,r',by omega,rfl,rfl,o.set k q,by rw [<- Za0];exact hblk.set_ _ _,by rw [List.length_set];exact hol.out,hot.set _ hq,hr',?_,hB.setCell (p:=⟨w.heap.size,k,none⟩) (Nat.le_refl _) _⟩,by simp [intOf] <;> omega⟩;exact Zj8 (by rw [hol.out];omega) (by rw [hlen.out];omega) hI.out (by rw [hxe];exact he)
theorem Zh7 (q : Nat) : pw q = 2 ^ (32 * q):=by
 induction q with
 | zero=>rw [Zbr]
 | succ q ih=>rw [Zai,ih,show 32 * (q + 1) = 32 * q + 32 by omega,Nat.pow_add,Nat.mul_comm]
theorem Zki (q : Nat) : val (List.replicate q 0) = 0:=by
 induction q with
 | zero=>rfl
 | succ q ih=>rw [List.replicate_succ];simp [val,ih]
theorem Zge (q : Nat) : Lt32 (List.replicate q 0):=fun x hx=>by
 rw [List.eq_of_mem_replicate hx];decide
def LeftQ (w : World) (q s : Nat) (l : List Nat) (i cy : Nat) (v : Value) (wr : World) : Prop:=
 ∃ o,OwnL 147 wr w.heap.size v o /\ o.length = q + i /\ cy < 2 ^ s /\ val o + pw (q + i) * cy = pw q * (2 ^ s * val (l.take i)) /\ Below w.heap.size w wr
theorem Zq4 (A : Option Addr) (n c k : Nat) (l : List Nat) (w : World) (h : Lim w A n c l) (hk : k <= 1000000) (hn9 : n <= 1000000) :
    Calls Tryz.prog 150 #[.slice A n c,.int .i64 k] w (fun e w'=>∃ v o,e = .returned v /\ OwnL 147 w' w.heap.size v o /\ val o = 2 ^ k * val l /\ Below w.heap.size w w'):=by
 obtain ⟨q,hq⟩ : ∃ q,k / 32 = q:=⟨_,rfl⟩;obtain ⟨s,hsk⟩ : ∃ s,k % 32 = s:=⟨_,rfl⟩
 have hs : s < 32:=by omega
 have hq9 : q <= 1000000:=by omega
 have hpk : 2 ^ k = pw q * 2 ^ s:=by
  have e : k = 32 * q + s:=by omega
  rw [e,Nat.pow_add,Zh7]
 obtain ⟨i0,hi,hz0,hz1,hz2⟩:=info_parts Zbw;have hnc:=h.2.1;have hcm:=h.2.2.1;unfold maxLen at hcm
 have hmc : madeCells (Value.int .u32 0).cells ((q + n + 1) * 1) = Zn (List.replicate (q + n + 1) 0):=by
  rw [Nat.mul_one]
  apply Array.toList_inj.1
  rw [show (Value.int .u32 0).cells = #[.int .u32 0] from rfl,toList_madeCells_one]
  simp [Zn,limb]
 have hmk : ∀ W : World,(Instr.makeSlice 25 (.int .i64 (q : Int)) (.int .i64 ((q : Int) + (n : Int) + 1))).run Tryz.prog W = .ok (.slice (some ⟨W.heap.size,0,none⟩) q (q + n + 1)) (W.alloc (.cells (Zn (List.replicate (q + n + 1) 0)) 147)):=fun W=>by
  have hr:=run_make (P:=Tryz.prog) W 25 147 i0 _ Tryz.underlying25 hi hz0 .i64 .i64 (q : Int) ((q : Int) + (n : Int) + 1) (by omega) (by omega) (by rw [hz2];omega) (by omega);rw [hr,hz1];rw [show ((q : Int) + (n : Int) + 1).toNat = q + n + 1 by omega,hmc]
  rfl
 have hO : OwnL 147 (w.alloc (.cells (Zn (List.replicate (q + n + 1) 0)) 147)) w.heap.size (.slice (some ⟨w.heap.size,0,none⟩) q (q + n + 1)) (List.replicate q 0):=by
  refine ⟨⟨by simp,.inr ⟨w.heap.size,q + n + 1,_,by simp,Nat.le_refl _,heap_alloc_new _ _,by simp;omega,by unfold maxLen;omega,by simp [Zn],?_⟩⟩,Zge q⟩
  simp [Zn,List.take_replicate,limb]
  omega
 have q3 : ((k : Int) / 32) = (q : Int):=by omega
 have q4 : ((k : Int) % 32) = (s : Int):=by omega
 replace hq:=Za hq;replace hsk:=Za hsk;replace hpk:=Za hpk;replace hmc:=Za hmc;go_enter Tryz.func150,Tryz.ntmps150;go_wp2_with fail
 go_loopw [20,6,5] (fun iv cv ov wr=>∃ i cy : Nat,i <= n /\ iv = .int .i64 i /\ cv = .int .u64 cy /\ LeftQ w q s l i cy ov wr) (fun iv _ _ _=>n - (intOf iv).toNat)
 case atStart=>exact ⟨0,0,Nat.zero_le _,rfl,rfl,_,hO,by simp,Nat.pow_pos (by omega),by rw [Zki];simp [val],(Below.refl _ _).alloc (Nat.le_refl _) _⟩
 case round =>
  obtain ⟨i,cy,hin,rfl,rfl,o,hown,hol,hcy,hI,hB⟩:=hrel;replace hol:=Za hol;replace hI:=Za hI
  by_cases hi' : i < n
  ·obtain ⟨b,of,rfl,hcell⟩:=(h.below hB).at_ hi'
   have hx:=h.lt.get i;obtain ⟨p,hp⟩ : ∃ p,2 ^ s = p:=⟨_,rfl⟩
   have hpb : p <= 2147483648:=by rw [<- hp];exact Nat.pow_le_pow_right (by omega) (show s <= 31 by omega)
   have hxb : p * l[i]?.getD 0 <= 2147483648 * 4294967295:=Nat.mul_le_mul hpb (by omega)
   have hor : bits .or .u64 (cy : Int) (IntKind.u64.wrap (((l[i]?.getD 0 : Nat) : Int) * 2 ^ s)) = ((cy + p * l[i]?.getD 0 : Nat) : Int):=by
    have e1 : (((l[i]?.getD 0 : Nat) : Int) * 2 ^ s) = ((p * l[i]?.getD 0 : Nat) : Int):=by rw [<- hp];push_cast;rw [Int.mul_comm]
    have hcp : cy < 18446744073709551616:=by omega
    rw [e1,IntKind.wrap_u64,show (((p * l[i]?.getD 0 : Nat) : Int) % 18446744073709551616) = ((p * l[i]?.getD 0 : Nat) : Int) by omega,u64_or_nat _ _ hcp (by omega),<- hp,Zs2 hcy]
   rw [hp] at hcy;replace hp:=Za hp;have hs0 : Hid (val (l.take (i + 1)) = val (l.take i) + pw i * l[i]?.getD 0):=Zv l i;obtain ⟨x,hxe⟩ : ∃ x,l[i]?.getD 0 = x:=⟨_,rfl⟩;rw [hxe] at hcell hx hxb hor hs0;replace hxe:=Za hxe;obtain ⟨t,ht⟩ : ∃ t,cy + p * x = t:=⟨_,rfl⟩
   have htb : t / 4294967296 < p:=by
    rw [Nat.div_lt_iff_lt_mul (by omega),<- ht]
    have : p * x + p <= p * 4294967296:=by rw [<- Nat.mul_succ];exact Nat.mul_le_mul_left _ (by omega)
    omega
   rw [ht] at hor;replace ht:=Za ht;go_wp2_with (at_builtin;refine Zo _ rfl (.tmp 31) (.tmp 34) 25 rfl w.heap.size 147 i0 _ 1 4 Tryz.underlying25 hi hz0 hz1 hz2 rfl (by omega) _ (q + i) (o.map limb) rfl (by have h9:=hown.1;rw [hol.out] at h9;exact h9.alloc _) _ _ 1 1 _ rfl (Zar _ _ _) (by simp [Value.oneCell']) (by simp only [maxLen];omega) (by omega) (by have:=hB.size;simp;omega) ?_;intro v1 w1 hown1 hg1 hat1);have hown2 : OwnL 147 w1 w.heap.size v1 (o ++ [t % 4294967296]):=OwnL.snoc (s:=t % 4294967296) hol.out.symm hown1 hown.2 (by omega) (Nat.mod_lt _ (by decide));have hB1:=(hB.alloc hB.size _).grown hg1 (by have:=hB.size;simp;omega) hown.row_ge
   go_roundw
   case rel =>
    refine ⟨i + 1,t / 4294967296,by omega,by go_num,by go_num,_,hown2,by rw [List.length_append,hol.out];rfl,by rw [hp.out];exact htb,?_,hB1⟩;rw [Zcd,hol.out,hs0.out,hp.out,Nat.mul_add,Nat.mul_add,<- Nat.add_assoc q i 1,Zai];have h1:=hI.out;rw [hp.out] at h1
    have h2 : pw (q + i) * (t % 4294967296) + 4294967296 * pw (q + i) * (t / 4294967296) = pw (q + i) * t:=by
     rw [Nat.mul_comm 4294967296 (pw (q + i)),Nat.mul_assoc,<- Nat.mul_add,Nat.mod_add_div]
    have h3 : pw q * (p * (pw i * x)) = pw (q + i) * (p * x):=by rw [Zen,Nat.mul_assoc,Nat.mul_left_comm p]
    rw [h3,<- h1,Nat.add_assoc,h2,<- ht.out,Nat.mul_add];omega
   case measure=>simp [intOf];omega
  ·obtain rfl : i = n:=by omega
   have hlen:=Za h.len;have hcy2 : cy < 4294967296:=Nat.lt_of_lt_of_le hcy (show 2 ^ s <= 4294967296 from Nat.le_trans (Nat.pow_le_pow_right (by decide) (show s <= 32 by omega)) (by decide))
   have hcm : ((cy : Int)) % 4294967296 = (cy : Int):=by omega
   clear h;go_wp2_with (at_builtin;refine Zo _ rfl (.tmp 39) (.tmp 42) 25 rfl w.heap.size 147 i0 _ 1 4 Tryz.underlying25 hi hz0 hz1 hz2 rfl (by omega) _ (q + i) (o.map limb) rfl (by have h9:=hown.1;rw [hol.out] at h9;exact h9.alloc _) _ _ 1 1 _ rfl (Zar _ _ _) (by simp [Value.oneCell']) (by simp only [maxLen];omega) (by omega) (by have:=hB.size;simp;omega) ?_;intro v1 w1 hown1 hg1 hat1);have hown2 : OwnL 147 w1 w.heap.size v1 (o ++ [cy]):=OwnL.snoc (s:=cy) hol.out.symm hown1 hown.2 (by omega) hcy2;have hB1:=(hB.alloc hB.size _).grown hg1 (by have:=hB.size;simp;omega) hown.row_ge;go_ret;refine ⟨v1,_,rfl,hown2,?_,hB1⟩;rw [Zcd,hol.out,hI.out,Zx (by rw [hlen.out];exact Nat.le_refl _),hpk.out,Nat.mul_assoc]
theorem Zsv {t : Array Value} {d : Nat} {u : Value} (h : t[d]? = some u) : t.setIfInBounds d u = t:=by
 apply Array.ext
 ·simp
 ·intro i h1 h2
  rw [Array.getElem_setIfInBounds (by simpa using h1)]
  split
  ·rename_i e
   subst e;rw [Array.getElem?_eq_getElem h2] at h
   injection h with h
   exact h.symm
  ·rfl
section
variable {P : Program} {ops : Array Oper} {Q : Exit -> Act -> World -> Prop} {md : Region.Mode} {L : List Nat} {S : World -> Prop} {f1 f2 d1 d2 F : Nat} {t1 t2 : TypeId} {z1 z2 : Array Value}
theorem Zab {i : Nat} {o : Oper} {K : Act -> World -> Prop} {a : Act} {w : World} (ho : ops[i]? = some o)
    (h : ∀ K' : Act -> World -> Prop,Shut (∀ a w,K a w -> K' a w) -> if Region.wanted o (yielded ops a.tmps) = true then Oper.wp P o a w K' Q else K' (a.put o.dst undef) w) : wpOp P ops Q i K a w:=
 wpOp_step ho (fun K' hK=>h K' hK)
end
def Zak (md : Region.Mode) (ops : Array Oper) (i : Nat) : List Nat:=match ops[i]? with | some o=>(o.after.toList.filter (fun e=>Region.binds md e)).map (·.on) | none=>[]
def Zap (ops : Array Oper) (i : Nat) : Nat:=match ops[i]? with | some o=>o.dst.getD 0 | none=>0
def Zas (R : List Nat) (l : Array Bool) : Array Bool:=R.foldl (fun l i=>l.setIfInBounds i true) l
def clo (md : Region.Mode) (ops : Array Oper) : List Nat -> List Nat -> List Nat
 | [],c=>c
 | r :: rs,c=>clo md ops rs (if c.contains r then Zak md ops r ++ c else c)
def Za6 : List Nat -> Bool
 | []=>true
 | x :: l=>!l.contains x && Za6 l
def Zao : List Nat -> Act -> (Nat -> Value) -> Act
 | [],a,_=>a
 | d :: ds,a,ν=>Zao ds (a.put (some d) (ν d)) ν
def upd (ν : Nat -> Value) (d : Nat) (v : Value) : Nat -> Value:=fun k=>if k = d then v else ν k
theorem Zsr {a : Act} {d e : Nat} {u v : Value} (h : d ≠ e) : (a.put (some d) u).put (some e) v = (a.put (some e) v).put (some d) u:=by
 simp only [Act.put];rw [Array.setIfInBounds_comm _ _ h]
theorem Zqs {ds : List Nat} {a : Act} {ν : Nat -> Value} {d : Nat} {v : Value} (h : d ∉ ds) : Zao ds (a.put (some d) v) ν = (Zao ds a ν).put (some d) v:=by
 induction ds generalizing a with
 | nil=>rfl
 | cons e ds ih =>
  have h1 : d ≠ e:=fun h'=>h (h' ▸ List.mem_cons_self ..)
  show Zao ds ((a.put (some d) v).put (some e) (ν e)) ν = _;rw [Zsr h1,ih (fun h'=>h (List.mem_cons_of_mem _ h'))]
  rfl
theorem Zjx {ds : List Nat} {a : Act} {ν : Nat -> Value} {d : Nat} {v : Value} (h : d ∉ ds) : Zao ds a (upd ν d v) = Zao ds a ν:=by
 induction ds generalizing a with
 | nil=>rfl
 | cons e ds ih =>
  have h1 : e ≠ d:=fun h'=>h (h' ▸ List.mem_cons_self ..)
  show Zao ds (a.put (some e) (upd ν d v e)) (upd ν d v) = Zao ds (a.put (some e) (ν e)) ν;rw [ih (fun h'=>h (List.mem_cons_of_mem _ h'))];simp only [upd,if_neg h1]
theorem put_put {a : Act} {d : Nat} {u v : Value} : (a.put (some d) u).put (some d) v = a.put (some d) v:=by
 simp only [Act.put];rw [Array.setIfInBounds_setIfInBounds]
theorem Za2 {x : Nat} {l : List Nat} (h : Za6 (x :: l) = true) : x ∉ l /\ Za6 l = true:=by
 simp only [Za6,Bool.and_eq_true,Bool.not_eq_true'] at h;exact ⟨fun hx=>by rw [List.contains_iff_mem.2 hx] at h;exact absurd h.1 (by simp),h.2⟩
theorem Zhm {ds : List Nat} {a : Act} {ν : Nat -> Value} {d : Nat} {v : Value} (h : d ∈ ds) (hn : Za6 ds = true) : (Zao ds a ν).put (some d) v = Zao ds a (upd ν d v):=by
 induction ds generalizing a with
 | nil=>cases h
 | cons e ds ih =>
  obtain ⟨h1,h2⟩:=Za2 hn;show (Zao ds (a.put (some e) (ν e)) ν).put (some d) v = Zao ds (a.put (some e) (upd ν d v e)) (upd ν d v)
  by_cases hd : d = e
  ·subst hd
   rw [<- Zqs h1,put_put,Zjx h1];simp only [upd,if_true]
  ·rcases List.mem_cons.1 h with h' | h'
   ·exact absurd h' hd
   ·rw [ih h' h2]
    simp only [upd,if_neg (Ne.symm hd)]
theorem Zol {ds : List Nat} {a : Act} : Zao ds a (fun d=>a.tmps.getD d undef) = a:=by
 induction ds with
 | nil=>rfl
 | cons d ds ih =>
  show Zao ds (a.put (some d) (a.tmps.getD d undef)) _ = a
  have : a.put (some d) (a.tmps.getD d undef) = a:=by
   cases a with
   | mk t df =>
    simp only [Act.put]
    congr 1
    rcases Nat.lt_or_ge d t.size with h | h
    ·exact Zsv (by rw [Array.getD_eq_getD_getElem?,Array.getElem?_eq_getElem h];rfl)
    ·exact Array.setIfInBounds_eq_of_size_le h
  rw [this];exact ih
theorem Zbg (R : List Nat) (l : Array Bool) (k : Nat) : (Zas R l).getD k true = if k ∈ R then true else l.getD k true:=by
 unfold Zas
 induction R generalizing l with
 | nil=>simp
 | cons r R ih =>
  rw [List.foldl_cons,ih]
  by_cases h1 : k ∈ R
  ·rw [if_pos h1,if_pos (List.mem_cons_of_mem _ h1)]
  ·rw [if_neg h1]
   by_cases h2 : k = r
   ·subst h2
    rw [if_pos (List.mem_cons_self ..)];rw [Array.getD_eq_getD_getElem?,Array.getElem?_setIfInBounds]
    split
    ·split <;> rfl
    ·rename_i h;exact absurd rfl h
   ·rw [if_neg (fun h=>by rcases List.mem_cons.1 h with h | h;exact h2 h;exact h1 h),Go.getD_set_ne true (Ne.symm h2)]
theorem Zel (R : List Nat) (l : Array Bool) : (Zas R l).size = l.size:=by
 unfold Zas
 induction R generalizing l with
 | nil=>rfl
 | cons r R ih=>rw [List.foldl_cons,ih];simp
theorem Zo0 {l m : Array Bool} (hs : l.size = m.size) (h : ∀ k,l.getD k true = m.getD k true) : l = m:=by
 apply Array.ext hs
 intro i h1 h2;have:=h i;rw [Array.getD_eq_getD_getElem?,Array.getD_eq_getD_getElem?,Array.getElem?_eq_getElem h1,Array.getElem?_eq_getElem h2] at this;exact this
section
variable {P : Program} {ops : Array Oper} {Q : Exit -> Act -> World -> Prop} {md : Region.Mode} {L : List Nat} {S : World -> Prop}
theorem Zoa {l : Array Bool} {R : List Nat} (hd : ∀ r ∈ R,l.getD r false = true -> ∀ p ∈ Zak md ops r,l.getD p false = true) :
    ∀ (rs : List Nat) (c : List Nat),(∀ r ∈ rs,r ∈ R) -> (∀ x ∈ c,l.getD x false = true) -> ∀ x ∈ clo md ops rs c,l.getD x false = true
 | [],c,_,hc,x,hx=>hc x hx
 | r :: rs,c,hr,hc,x,hx=>by
  refine Zoa hd rs _ (fun y hy=>hr y (List.mem_cons_of_mem _ hy)) (fun y hy=>?_) x hx
  split at hy
  ·rename_i h1
   rcases List.mem_append.1 hy with h2 | h2
   ·exact hd r (hr r (List.mem_cons_self ..)) (hc r (List.contains_iff_mem.1 h1)) y h2
   ·exact hc y h2
  ·exact hc y hy
theorem Zc9 {l : Array Bool} {k : Nat} (h : l.getD k false = true) : l.getD k true = true:=by
 rw [Array.getD_eq_getD_getElem?] at h ⊢
 cases hk : l[k]? with
 | none=>rfl
 | some b=>rw [hk] at h;exact h
theorem Zac {l : Array Bool} {k j : Nat} (h : l.getD k false = true) : (l.setIfInBounds j true).getD k false = true:=by
 by_cases hkj : j = k
 ·subst hkj
  rw [Array.getD_eq_getD_getElem?,Array.getElem?_setIfInBounds_self];rw [Array.getD_eq_getD_getElem?] at h
  split
  ·rfl
  ·rename_i h1;rw [Array.getElem?_eq_none (by omega)] at h;cases h
 ·rw [Go.getD_set_ne false hkj];exact h
theorem Zi8 {i : Nat} {l : Array Bool} (h : i ∈ Region.ready md ops l) : l.getD i true = false /\ i < ops.size /\ ∀ p ∈ Zak md ops i,l.getD p false = true:=by
 obtain ⟨h1,o,ho,h2⟩:=mem_ready.1 h;refine ⟨h1,(Array.getElem?_eq_some_iff.1 ho).1,fun p hp=>?_⟩;unfold Zak at hp;rw [ho] at hp;obtain ⟨e,he,rfl⟩:=List.mem_map.1 hp;rw [List.mem_filter] at he;exact h2 e (by simpa using he.1) he.2
theorem Zfb {i : Nat} {l : Array Bool} (h1 : l.getD i true = false) {o : Oper} (ho : ops[i]? = some o) (h : ∀ p ∈ Zak md ops i,l.getD p false = true) : i ∈ Region.ready md ops l:=by
 refine mem_ready.2 ⟨h1,o,ho,fun e he hb=>h _ ?_⟩;unfold Zak;rw [ho];exact List.mem_map.2 ⟨e,List.mem_filter.2 ⟨by simpa using he,hb⟩,rfl⟩
def left (R : List Nat) (l : Array Bool) : Nat:=(R.filter fun r=>!l.getD r true).length
theorem Zi9 {f : Nat -> Nat} : ∀ {R : List Nat},Za6 (R.map f) = true -> Za6 R = true
 | [],_=>rfl
 | r :: R,h=>by
  obtain ⟨h1,h2⟩:=Za2 (x:=f r) (l:=R.map f) h;simp only [Za6,Bool.and_eq_true,Bool.not_eq_true'];refine ⟨?_,Zi9 h2⟩
  cases hc : R.contains r with
  | false=>rfl
  | true=>exact absurd (List.mem_map.2 ⟨r,List.contains_iff_mem.1 hc,rfl⟩) h1
theorem Zd7 {f : Nat -> Nat} : ∀ {R : List Nat},Za6 (R.map f) = true -> ∀ {r i : Nat},r ∈ R -> i ∈ R -> r ≠ i -> f r ≠ f i
 | [],_,_,_,h,_,_=>by cases h
 | x :: R,h,r,i,hr,hi,hne=>by
  obtain ⟨h1,h2⟩:=Za2 (x:=f x) (l:=R.map f) h
  rcases List.mem_cons.1 hr with hr' | hr'
  ·rcases List.mem_cons.1 hi with hi' | hi'
   ·exact absurd (hr'.trans hi'.symm) hne
   ·exact fun e=>h1 (List.mem_map.2 ⟨i,hi',by rw [<- e,hr']⟩)
  ·rcases List.mem_cons.1 hi with hi' | hi'
   ·exact fun e=>h1 (List.mem_map.2 ⟨r,hr',by rw [e,hi']⟩)
   ·exact Zd7 h2 hr' hi' hne
theorem Zq2 {R : List Nat} {l : Array Bool} {i : Nat} (hi : i ∉ R) : left R (l.setIfInBounds i true) = left R l:=by
 unfold left
 congr 1
 apply List.filter_congr
 intro r hr;rw [Go.getD_set_ne true (fun e : i = r=>hi (e ▸ hr))]
theorem Zi2 {R : List Nat} {l : Array Bool} {i : Nat} (hn : Za6 R = true) (hi : i ∈ R) (h : l.getD i true = false) : left R (l.setIfInBounds i true) + 1 = left R l:=by
 have hlt : i < l.size:=by
  rcases Nat.lt_or_ge i l.size with h' | h'
  ·exact h'
  ·rw [Array.getD_eq_getD_getElem?,Array.getElem?_eq_none h'] at h;cases h
 have hset : (l.setIfInBounds i true).getD i true = true:=by
  rw [Array.getD_eq_getD_getElem?,Array.getElem?_setIfInBounds_self,if_pos hlt];rfl
 induction R with
 | nil=>cases hi
 | cons r R ih =>
  obtain ⟨n1,n2⟩:=Za2 hn
  by_cases hr : i = r
  ·subst hr
   have:=Zq2 (l:=l) n1;unfold left at this ⊢;rw [List.filter_cons_of_neg (by simp [hset]),List.filter_cons_of_pos (by simp [h]),this]
   rfl
  ·have hi2 : i ∈ R:=by
     rcases List.mem_cons.1 hi with h' | h'
     ·exact absurd h' hr
     ·exact h'
   have:=ih n2 hi2;unfold left at this ⊢
   by_cases hb : l.getD r true = true
   ·rw [List.filter_cons_of_neg (by rw [Go.getD_set_ne true hr];simp [hb]),List.filter_cons_of_neg (by simp [hb])];exact this
   ·rw [List.filter_cons_of_pos (by rw [Go.getD_set_ne true hr];simpa using hb),List.filter_cons_of_pos (by simpa using hb),List.length_cons,List.length_cons,this]
theorem Znt (R : List (Nat × Nat)) (h : R.all (fun p=>Zap ops p.1 == p.2) = true) : (R.map (·.1)).map (Zap ops) = R.map (·.2):=by
 rw [List.map_map]
 apply List.map_congr_left
 intro p hp;rw [List.all_eq_true] at h
 simpa using h p hp
end
section
variable {P : Program} {ops : Array Oper} {Q : Exit -> Act -> World -> Prop} {md : Region.Mode} {L : List Nat} {S : World -> Prop}
theorem Zha {i : Nat} {oi : Oper} {v : Value} (hi : ops[i]? = some oi) (hsel : ∀ (j : Nat) (o : Oper) cs b,ops[j]? = some o -> o.op ≠ .select cs b)
    (hQ : ∀ c a w,Q (.panic c) (a.put oi.dst v) w -> Q (.panic c) a w) (hiL : L.contains i = false) :
    ∀ (fuel : Nat) (listed : Array Bool) (a : Act) (w : World),
     (∀ j oj,ops[j]? = some oj -> j ≠ i -> listed.getD j true = false -> (∀ e ∈ oj.after,Region.binds md e = true -> e.on ≠ i) -> oi.apart ops oj = true) ->
     i ∈ Region.ready md ops listed -> YieldsIf P ops (fun _=>True) oi v a -> (Zci L listed = true -> S w) ->
     Z8 P md ops Q L S fuel (listed.setIfInBounds i true) (a.put oi.dst v) w -> Z8 P md ops Q L S (fuel + 1) listed a w:=by
 have hiL' : i ∉ L:=fun h=>by
  rw [List.contains_iff_mem.2 h] at hiL
  cases hiL
 intro fuel
 induction fuel with
 | zero =>
  intro listed a w _ hr hy hS H;refine ⟨fun h=>(by rw [h] at hr;cases hr),fun j hj=>?_⟩
  by_cases hji : j = i
  ·subst hji;exact hy.wpOp hi trivial ⟨fun h=>hS (by rwa [Zb0 hiL'] at h),H⟩
  ·have:=ready_mono hj hji
   rw [H.1] at this
   cases this
 | succ fuel ih =>
  intro listed a w hfree hr hy hS H;refine ⟨fun h=>(by rw [h] at hr;cases hr),fun j hj=>?_⟩
  by_cases hji : j = i
  ·subst hji;exact hy.wpOp hi trivial ⟨fun h=>hS (by rwa [Zb0 hiL'] at h),H⟩
  ·have h1:=H.2 j (ready_mono hj hji)
   obtain ⟨hjun,oj,hoj,hall⟩:=mem_ready.1 hj
   have hnot : ∀ e ∈ oj.after,Region.binds md e = true -> e.on ≠ i:=fun e he hb heq=>by
    have h1:=hall e he hb;have h0:=(mem_ready.1 hr).1;rw [heq] at h1
    rcases Nat.lt_or_ge i listed.size with h' | h'
    ·simp [h'] at h0 h1;rw [h0] at h1;cases h1
    ·simp [Array.getElem?_eq_none h'] at h1
   have h2:=wpOp_putIf hoj (hfree j oj hoj hji hjun hnot) (fun cs b=>hsel i oi cs b hi) (fun cs b=>hsel j oj cs b hoj) hQ hy h1
   have hfree' : ∀ k ok,ops[k]? = some ok -> k ≠ i -> (listed.setIfInBounds j true).getD k true = false ->
       (∀ e ∈ ok.after,Region.binds md e = true -> e.on ≠ i) -> oi.apart ops ok = true:=fun k ok hk hki hun hno=>by
    refine hfree k ok hk hki ?_ hno
    by_cases hjk : j = k
    ·subst hjk;exact hjun
    ·rw [Go.getD_set_ne true hjk] at hun;exact hun
   refine wpOp_mono (fun a' w' h3=>?_) h2
   have hSj : Zci L (listed.setIfInBounds j true) = true -> S w':=fun h=>h3.2.1 (by
    rw [Array.setIfInBounds_comm _ _ (Ne.symm hji),Zb0 hiL'];exact h)
   refine ⟨hSj,ih (listed.setIfInBounds j true) a' w' hfree' (ready_mono hr (Ne.symm hji)) h3.1 hSj ?_⟩;rw [Array.setIfInBounds_comm _ _ hji];exact h3.2.2
theorem Zm {i : Nat} {oi : Oper} {v : Value} {fuel : Nat} {listed : Array Bool} {a : Act} {w : World} (hi : ops[i]? = some oi)
    (hs : Region.noSelect ops = true) (hf : Region.free md ops listed i = true) (hr : (Region.ready md ops listed).contains i = true) (hL : L.contains i = false)
    (hy : YieldsIf P ops (fun _=>True) oi v a) (hS : Zci L listed = true -> S w)
    (h : Z8 P md ops (OnlyNormal Q) L S fuel (listed.setIfInBounds i true) (a.put oi.dst v) w) : Z8 P md ops (OnlyNormal Q) L S (fuel + 1) listed a w:=
 Zha hi (Region.noSelect_spec hs) (fun _ _ _ h=>(h : False).elim) hL fuel listed a w (Region.free_spec hi hf) (by simpa using hr) hy hS h
end
section
variable {P : Program} {ops : Array Oper} {Q : Exit -> Act -> World -> Prop} {md : Region.Mode} {L : List Nat} {S : World -> Prop}
end
def Zlx (md : Region.Mode) (ops : Array Oper) (L : List Nat) : List Nat -> Array Bool -> Bool
 | [],_=>true
 | i :: is,l=>Region.free md ops l i && (Region.ready md ops l).contains i && !L.contains i && Zlx md ops L is (l.setIfInBounds i true)
section
variable {P : Program} {ops : Array Oper} {Q : Exit -> Act -> World -> Prop} {md : Region.Mode} {L : List Nat} {S : World -> Prop}
theorem Zlb (hs : Region.noSelect ops = true) {w : World} (hS : S w) : ∀ (is : List Nat) (F : Nat) (listed : Array Bool) (a : Act),Zlx md ops L is listed = true -> Zfj P ops (fun _=>True) is a (fun a'=>Z8 P md ops (OnlyNormal Q) L S F (Zg8 is listed) a' w) -> Z8 P md ops (OnlyNormal Q) L S (F + is.length) listed a w
 | [],F,l,a,_,h=>h
 | i :: is,F,l,a,hc,h=>by
  obtain ⟨oi,v,ho,hy,h2⟩:=h;simp only [Zlx,Bool.and_eq_true,Bool.not_eq_true'] at hc;exact Zm ho hs hc.1.1.1 hc.1.1.2 hc.1.2 hy (fun _=>hS) (Zlb hs hS is F _ _ hc.2 h2)
theorem Ztx {F : Nat} {listed : Array Bool} {a : Act} {w : World} (k : Nat) (is : List Nat) (hk : is.length = k) (hc : (Region.noSelect ops && Zlx md ops L is listed) = true) (hS : S w)
    (h : Zfj P ops (fun _=>True) is a (fun a'=>Z8 P md ops (OnlyNormal Q) L S F (Zg8 is listed) a' w)) : Z8 P md ops (OnlyNormal Q) L S (F + k) listed a w:=by
 rw [Bool.and_eq_true] at hc;subst hk;exact Zlb hc.1 hS is F listed a hc.2 h
end
def Zam (R : List Nat) (att : Nat -> List Nat) : List Nat:=R.flatMap fun i=>i :: att i
def Zf1 (md : Region.Mode) (ops : Array Oper) (l : Array Bool) (i : Nat) : List Nat -> List Nat -> Bool
 | [],_=>true
 | u :: us,done=>(match ops[u]? with | some o=>o.dst.isSome | none=>false) && (Zak md ops u).contains i && !l.getD u true && (Zak md ops u).all (fun p=>p == i || done.contains p || l.getD p false || (Zak md ops i).contains p) &&
     ((List.range ops.size).all fun j=>j == u || (j == i || done.contains j || l.getD j false || (Zak md ops i).contains j) || (Zak md ops j).contains u || (match ops[u]?,ops[j]? with | some ou,some oj=>ou.apart ops oj | _,_=>true)) && Zf1 md ops l i us (u :: done)
def Zpy (md : Region.Mode) (ops : Array Oper) (att : Nat -> List Nat) : List Nat -> Array Bool -> Bool
 | [],_=>true
 | r :: rs,l=>!l.getD r true && (match ops[r]? with | some o=>o.dst.isSome | none=>false) && (Zak md ops r).all (fun p=>l.getD p false) && Zpy md ops att rs (Zas (r :: att r) l)
def Ztw (md : Region.Mode) (ops : Array Oper) (R F : List Nat) (l : Array Bool) : Bool:=
 (List.range ops.size).all fun k=>F.contains k || l.getD k true || (Zak md ops k).any (fun p=>!F.contains p && !l.getD p false) || (R.all fun r=>(clo md ops F.reverse (Zak md ops k)).contains r)
def Zit (md : Region.Mode) (ops : Array Oper) (R : List Nat) (att : Nat -> List Nat) (l : Array Bool) : Bool:=
 Zpy md ops att R l && Ztw md ops R (Zam R att) l && Za6 ((Zam R att).map (Zap ops)) && decide (l.size = ops.size) && R.all (fun i=>Zf1 md ops l i (att i) []) && Region.noSelect ops
section
variable {P : Program} {ops : Array Oper} {Q : Exit -> Act -> World -> Prop} {md : Region.Mode} {L : List Nat} {S : World -> Prop}
def Zod (P : Program) (ops : Array Oper) (Φ : Nat -> Value -> World -> Prop) (w : World) : List Nat -> Act -> Prop
 | [],_=>True
 | u :: us,a=>∃ o v,ops[u]? = some o /\ YieldsIf P ops (fun _=>True) o v a /\ Φ u v w /\ Zod P ops Φ w us (a.put o.dst v)
theorem Zfd {l : Array Bool} {i : Nat} (h : i < l.size) : (l.setIfInBounds i true).getD i false = true:=by
 rw [Array.getD_eq_getD_getElem?,Array.getElem?_setIfInBounds_self,if_pos h];rfl
theorem Zba {us : List Nat} {l : Array Bool} {k : Nat} (h : l.getD k false = true) : (Zas us l).getD k false = true:=by
 induction us generalizing l with
 | nil=>exact h
 | cons u us ih=>exact ih (l:=l.setIfInBounds u true) (Zac h)
theorem Ziq {us : List Nat} {l : Array Bool} {k : Nat} (hk : k ∈ us) (h : k < l.size) : (Zas us l).getD k false = true:=by
 induction us generalizing l with
 | nil=>cases hk
 | cons u us ih =>
  rcases List.mem_cons.1 hk with rfl | hk
  ·exact Zba (us:=us) (Zfd h)
  ·exact ih (l:=l.setIfInBounds u true) hk (by simp;exact h)
theorem Zpp {Φ : Nat -> Value -> World -> Prop} {l0 : Array Bool} {i : Nat} {R : List Nat} {a0 : Act} {w : World} {F : Nat} (hns : Region.noSelect ops = true) (hnd : Za6 (R.map (Zap ops)) = true) (hiR : i ∈ R) :
    ∀ (us done : List Nat) (l : Array Bool) (ν : Nat -> Value),Zf1 md ops l0 i us done = true -> (∀ u ∈ us,u ∈ R) -> (∀ u ∈ us,u ∉ L) -> (∀ u ∈ us,l.getD u true = false) -> l.size = ops.size -> Za6 us = true ->
     (∀ p,l0.getD p false = true -> l.getD p false = true) -> l.getD i false = true -> (∀ p ∈ Zak md ops i,l.getD p false = true) -> (∀ u ∈ done,l.getD u false = true) -> S w ->
     Zod P ops Φ w us (Zao (R.map (Zap ops)) a0 ν) ->
     (∀ ν',(∀ k,(∀ u ∈ us,Zap ops u ≠ k) -> ν' k = ν k) -> (∀ u ∈ us,Φ u (ν' (Zap ops u)) w) -> Z8 P md ops (OnlyNormal Q) L S F (Zas us l) (Zao (R.map (Zap ops)) a0 ν') w) ->
     Z8 P md ops (OnlyNormal Q) L S (us.length + F) l (Zao (R.map (Zap ops)) a0 ν) w:=by
 intro us
 induction us with
 | nil =>
  intro done l ν _ _ _ _ _ _ _ _ _ _ _ _ h;rw [show ([] : List Nat).length + F = F by simp];exact h ν (fun _ _=>rfl) (fun u hu=>by cases hu)
 | cons u us ih =>
  intro done l ν hat hR hL hun hsz hndu hl0 hi hp hdone hS htr h;simp only [Zf1,Bool.and_eq_true,List.all_eq_true] at hat;obtain ⟨⟨⟨⟨⟨h1,h2⟩,h3⟩,h4⟩,h5⟩,h6⟩:=hat;obtain ⟨o,v,ho,hy,hΦ,htr2⟩:=htr;obtain ⟨n1,n2⟩:=Za2 hndu;have husz : u < ops.size:=(Array.getElem?_eq_some_iff.1 ho).1;have hu0:=hun u (List.mem_cons_self ..)
  have hready : u ∈ Region.ready md ops l:=Zfb hu0 ho (fun p hp2=>by
   have h7:=h4 p hp2;simp only [Bool.or_eq_true,beq_iff_eq] at h7
   rcases h7 with ((h7 | h7) | h7) | h7
   ·rw [h7];exact hi
   ·exact hdone p (List.contains_iff_mem.1 h7)
   ·exact hl0 p h7
   ·exact hp p (List.contains_iff_mem.1 h7))
  have hdst : o.dst = some (Zap ops u):=by
   rw [ho] at h1;obtain ⟨d,hd⟩:=Option.isSome_iff_exists.1 h1;unfold Zap;rw [ho];simp only [hd,Option.getD_some]
  have hdn : Zap ops u ∈ R.map (Zap ops):=List.mem_map.2 ⟨u,hR u (List.mem_cons_self ..),rfl⟩;rw [List.length_cons,Nat.add_right_comm]
  refine Zha ho (Region.noSelect_spec hns) (fun _ _ _ h=>(h : False).elim) (by
   cases hc : L.contains u with
   | false=>rfl
   | true=>exact absurd (List.contains_iff_mem.1 hc) (hL u (List.mem_cons_self ..))) _ l _ w (fun j oj hoj hju hjl hnw=>?_) hready hy (fun _=>hS) ?_
  ·have h7:=h5 j (List.mem_range.2 (Array.getElem?_eq_some_iff.1 hoj).1)
   simp only [Bool.or_eq_true,beq_iff_eq] at h7
   rcases h7 with ((h7 | h7) | h7) | h7
   ·exact absurd h7 hju
   ·exfalso
    have h8 : l.getD j false = true:=by
     rcases h7 with ((h7 | h7) | h7) | h7
     ·rw [h7];exact hi
     ·exact hdone j (List.contains_iff_mem.1 h7)
     ·exact hl0 j h7
     ·exact hp j (List.contains_iff_mem.1 h7)
    rw [Zc9 h8] at hjl
    cases hjl
   ·exfalso
    have h8:=List.contains_iff_mem.1 h7;unfold Zak at h8;rw [hoj] at h8;obtain ⟨e,he,he2⟩:=List.mem_map.1 h8;rw [List.mem_filter] at he;exact hnw e (by simpa using he.1) he.2 he2
   ·rw [ho,hoj] at h7;exact h7
  ·rw [hdst,Zhm hdn hnd]
   refine ih (u :: done) (l.setIfInBounds u true) (upd ν (Zap ops u) v) h6 (fun x hx=>hR x (List.mem_cons_of_mem _ hx)) (fun x hx=>hL x (List.mem_cons_of_mem _ hx)) (fun x hx=>?_) (by simp;exact hsz) n2 (fun p hp2=>Zac (hl0 p hp2)) (Zac hi) (fun p hp2=>Zac (hp p hp2)) (fun x hx=>?_) hS ?_ (fun ν' k1 k2=>?_)
   ·rw [Go.getD_set_ne true (fun e : u = x=>n1 (e ▸ hx))]
    exact hun x (List.mem_cons_of_mem _ hx)
   ·rcases List.mem_cons.1 hx with rfl | hx
    ·exact Zfd (by omega)
    ·exact Zac (hdone x hx)
   ·rw [hdst,Zhm hdn hnd] at htr2
    exact htr2
   ·refine h ν' (fun k hk=>?_) (fun x hx=>?_)
    ·rw [k1 k (fun x hx=>hk x (List.mem_cons_of_mem _ hx))]
     simp only [upd,if_neg (Ne.symm (hk u (List.mem_cons_self ..)))]
    ·rcases List.mem_cons.1 hx with rfl | hx
     ·have h9 : ∀ y ∈ us,Zap ops y ≠ Zap ops x:=fun y hy=>Zd7 hnd (hR y (List.mem_cons_of_mem _ hy)) (hR x (List.mem_cons_self ..)) (fun e=>n1 (e ▸ hy))
      rw [k1 _ h9];simp only [upd,if_true];exact hΦ
     ·exact k2 x hx
theorem Zi3 {us : List Nat} {l : Array Bool} {k : Nat} (h : (Zas us l).getD k false = true) : k ∈ us \/ l.getD k false = true:=by
 induction us generalizing l with
 | nil=>exact .inr h
 | cons u us ih =>
  rcases ih (l:=l.setIfInBounds u true) h with h1 | h1
  ·exact .inl (List.mem_cons_of_mem _ h1)
  ·by_cases hk : u = k
   ·exact .inl (hk ▸ List.mem_cons_self ..)
   ·rw [Go.getD_set_ne false hk] at h1;exact .inr h1
theorem Ze8 {us : List Nat} {l : Array Bool} {k : Nat} (h : (Zas us l).getD k true = false) : l.getD k true = false:=by
 rw [Zbg] at h
 split at h
 ·cases h
 ·exact h
theorem Zgj {att : Nat -> List Nat} : ∀ (R : List Nat) (l0 : Array Bool),Zpy md ops att R l0 = true -> (∀ r ∈ R,l0.getD r true = false /\ ∃ o d,ops[r]? = some o /\ o.dst = some d) /\
      ∀ l : Array Bool,l.size = l0.size -> (∀ k,l0.getD k false = true -> l.getD k false = true) -> (∀ r ∈ R,l.getD r true = true -> ∀ u ∈ att r,l.getD u false = true) -> (∃ r ∈ R,l.getD r true = false) -> ∃ r ∈ R,l.getD r true = false /\ ∀ p ∈ Zak md ops r,l.getD p false = true
 | [],_,_=>⟨fun r hr=>(by cases hr),fun l _ _ _ ⟨r,hr,_⟩=>(by cases hr)⟩
 | r :: R,l0,h=>by
  simp only [Zpy,Bool.and_eq_true,Bool.not_eq_true',List.all_eq_true] at h;obtain ⟨⟨⟨h1,h2⟩,h3⟩,h4⟩:=h;obtain ⟨k1,k2⟩:=Zgj R _ h4;refine ⟨fun x hx=>?_,fun l hsz hl hat hu=>?_⟩
  ·rcases List.mem_cons.1 hx with rfl | hx
   ·refine ⟨h1,?_⟩
    cases ho : ops[x]? with
    | none=>rw [ho] at h2;cases h2
    | some o =>
     rw [ho] at h2;obtain ⟨d,hd⟩:=Option.isSome_iff_exists.1 h2;exact ⟨o,d,rfl,hd⟩
   ·obtain ⟨m1,m2⟩:=k1 x hx
    exact ⟨Ze8 m1,m2⟩
  ·by_cases hr : l.getD r true = false
   ·exact ⟨r,List.mem_cons_self ..,hr,fun p hp=>hl p (h3 p hp)⟩
   ·have hr2 : l.getD r true = true:=by simpa using hr
    have hrs : r < l0.size:=by
     rcases Nat.lt_or_ge r l0.size with h' | h'
     ·exact h'
     ·rw [Array.getD_eq_getD_getElem?,Array.getElem?_eq_none h'] at h1;cases h1
    have hrl : r < l.size:=by omega
    have hrf : l.getD r false = true:=by
     rw [Array.getD_eq_getD_getElem?,Array.getElem?_eq_getElem hrl] at hr2 ⊢;exact hr2
    obtain ⟨x,hx,hx2⟩:=k2 l (by rw [Zel];exact hsz) (fun k hk=>by
     rcases Zi3 hk with h5 | h5
     ·rcases List.mem_cons.1 h5 with rfl | h5
      ·exact hrf
      ·exact hat r (List.mem_cons_self ..) hr2 k h5
     ·exact hl k h5) (fun y hy=>hat y (List.mem_cons_of_mem _ hy)) (by
     obtain ⟨y,hy,hy2⟩:=hu
     rcases List.mem_cons.1 hy with rfl | hy
     ·exact absurd hy2 hr
     ·exact ⟨y,hy,hy2⟩)
    exact ⟨x,List.mem_cons_of_mem _ hx,hx2⟩
theorem Zlz {R : List Nat} (hn : Za6 R = true) : ∀ (us : List Nat) (l : Array Bool),Za6 us = true -> (∀ u ∈ us,u ∈ R) -> (∀ u ∈ us,l.getD u true = false) -> left R (Zas us l) + us.length = left R l:=by
 intro us
 induction us with
 | nil=>intro l _ _ _;rfl
 | cons u us ih =>
  intro l h1 h2 h3;obtain ⟨n1,n2⟩:=Za2 h1;have h4:=Zi2 hn (h2 u (List.mem_cons_self ..)) (h3 u (List.mem_cons_self ..))
  have h5:=ih (l.setIfInBounds u true) n2 (fun x hx=>h2 x (List.mem_cons_of_mem _ hx)) (fun x hx=>by
   rw [Go.getD_set_ne true (fun e : u = x=>n1 (e ▸ hx))]
   exact h3 x (List.mem_cons_of_mem _ hx))
  show left R (Zas us (l.setIfInBounds u true)) + (us.length + 1) = _;omega
theorem Zc7 : ∀ {a b : List Nat},Za6 (a ++ b) = true -> Za6 b = true
 | [],_,h=>h
 | _ :: a,_,h=>Zc7 (a:=a) (Za2 h).2
theorem Zdn : ∀ {a b : List Nat},Za6 (a ++ b) = true -> Za6 a = true
 | [],_,_=>rfl
 | x :: a,b,h=>by
  obtain ⟨h1,h2⟩:=Za2 (x:=x) (l:=a ++ b) h;simp only [Za6,Bool.and_eq_true,Bool.not_eq_true'];refine ⟨?_,Zdn h2⟩
  cases hc : a.contains x with
  | false=>rfl
  | true=>exact absurd (List.mem_append_left _ (List.contains_iff_mem.1 hc)) h1
theorem Zhw : ∀ {a b : List Nat},Za6 (a ++ b) = true -> ∀ x,x ∈ a -> x ∉ b
 | [],_,_,x,hx=>by cases hx
 | y :: a,b,h,x,hx=>by
  obtain ⟨h1,h2⟩:=Za2 (x:=y) (l:=a ++ b) h
  rcases List.mem_cons.1 hx with hx' | hx'
  ·intro hb;exact h1 (List.mem_append_right _ (hx' ▸ hb))
  ·exact Zhw h2 x hx'
theorem Zns {att : Nat -> List Nat} : ∀ {R : List Nat},Za6 (Zam R att) = true -> ∀ r ∈ R,Za6 (r :: att r) = true /\ ∀ r' ∈ R,r' ≠ r -> ∀ x ∈ r :: att r,x ∉ r' :: att r'
 | [],_,r,hr=>by cases hr
 | y :: R,h,r,hr=>by
  have e : Zam (y :: R) att = (y :: att y) ++ Zam R att:=rfl;rw [e] at h;have h1:=Zdn h;have h2:=Zc7 h;have h3:=Zhw h
  have hmem : ∀ z ∈ R,∀ x ∈ z :: att z,x ∈ Zam R att:=fun z hz x hx=>List.mem_flatMap.2 ⟨z,hz,hx⟩
  by_cases hry : r = y
  ·subst hry
   refine ⟨h1,fun r' hr' hne x hx hx2=>?_⟩
   rcases List.mem_cons.1 hr' with h4 | h4
   ·exact hne h4
   ·exact h3 x hx (hmem r' h4 x hx2)
  ·have hrR : r ∈ R:=by
     rcases List.mem_cons.1 hr with h4 | h4
     ·exact absurd h4 hry
     ·exact h4
   obtain ⟨k1,k2⟩:=Zns h2 r hrR;refine ⟨k1,fun r' hr' hne x hx hx2=>?_⟩
   by_cases hr'y : r' = y
   ·subst hr'y
    exact h3 x hx2 (hmem r hrR x hx)
   ·rcases List.mem_cons.1 hr' with h4 | h4
    ·exact hr'y h4
    ·exact k2 r' h4 hne x hx hx2
theorem Zsb (R : List Nat) (att : Nat -> List Nat) (D : List Nat) (hDR : ∀ i ∈ D,i ∈ R) (Φ : Nat -> Value -> World -> Prop) {l0 : Array Bool} {a0 : Act} {w0 : World} (hok : Zit md ops R att l0 = true) (hL : ∀ u ∈ Zam R att,u ∉ L)
    (hst : ∀ i ∈ Zam R att,∀ v w w',Below w.heap.size w w' -> Φ i v w -> Φ i v w') (hS : ∀ w',Below w0.heap.size w0 w' -> S w') {F : Nat}
    (hop : ∀ i ∈ R,∀ (ν : Nat -> Value) (w : World),Below w0.heap.size w0 w -> (∀ j ∈ Zam R att,j ∈ Zak md ops i -> Φ j (ν (Zap ops j)) w) ->
     wpOp P ops (OnlyNormal Q) i (fun a' w'=>∃ v,a' = (Zao ((Zam R att).map (Zap ops)) a0 ν).put (some (Zap ops i)) v /\ Φ i v w' /\ Below w.heap.size w w' /\ Zod P ops Φ w' (att i) a' /\ (i ∈ D -> ∀ j ∈ D,∀ u,Φ j u w -> v ≠ u)) (Zao ((Zam R att).map (Zap ops)) a0 ν) w)
    (hfin : ∀ (ν : Nat -> Value) (w : World),Below w0.heap.size w0 w -> (∀ i ∈ Zam R att,Φ i (ν (Zap ops i)) w) -> (∀ i ∈ D,∀ j ∈ D,i ≠ j -> ν (Zap ops i) ≠ ν (Zap ops j)) -> Z8 P md ops (OnlyNormal Q) L S F (Zas (Zam R att) l0) (Zao ((Zam R att).map (Zap ops)) a0 ν) w) :
    ∀ (n : Nat) (l : Array Bool) (ν : Nat -> Value) (w : World),n = left (Zam R att) l -> l.size = l0.size -> (∀ k,k ∉ Zam R att -> l.getD k true = l0.getD k true) -> (∀ k,l0.getD k false = true -> l.getD k false = true) ->
     (∀ r ∈ Zam R att,l.getD r false = true -> ∀ p ∈ Zak md ops r,l.getD p false = true) ->
     (∀ r ∈ R,∀ u ∈ att r,(l.getD r true = true -> l.getD u false = true) /\ (l.getD r true = false -> l.getD u true = false)) -> Below w0.heap.size w0 w -> (∀ r ∈ Zam R att,l.getD r true = true -> Φ r (ν (Zap ops r)) w) -> (∀ i ∈ D,∀ j ∈ D,i ≠ j -> l.getD i true = true -> l.getD j true = true -> ν (Zap ops i) ≠ ν (Zap ops j)) ->
     Z8 P md ops (OnlyNormal Q) L S (n + F) l (Zao ((Zam R att).map (Zap ops)) a0 ν) w:=by
 simp only [Zit,Bool.and_eq_true,decide_eq_true_eq] at hok;obtain ⟨⟨⟨⟨⟨hto,hou⟩,hnd⟩,hsz0⟩,hato⟩,hns⟩:=hok;rw [List.all_eq_true] at hato;obtain ⟨t1,t2⟩:=Zgj R l0 hto;have hndf:=Zi9 hnd
 have hmemR : ∀ r ∈ R,r ∈ Zam R att:=fun r hr=>List.mem_flatMap.2 ⟨r,hr,List.mem_cons_self ..⟩
 have hmemU : ∀ r ∈ R,∀ u ∈ att r,u ∈ Zam R att:=fun r hr u hu=>List.mem_flatMap.2 ⟨r,hr,List.mem_cons_of_mem _ hu⟩
 have hattp : ∀ r ∈ R,∀ u ∈ att r,r ∈ Zak md ops u /\ (∃ o,ops[u]? = some o):=fun r hr=>by
  have : ∀ (us done : List Nat),Zf1 md ops l0 r us done = true -> ∀ u ∈ us,r ∈ Zak md ops u /\ (∃ o,ops[u]? = some o):=by
   intro us
   induction us with
   | nil=>intro _ _ u hu;cases hu
   | cons x us ih =>
    intro done h u hu;simp only [Zf1,Bool.and_eq_true] at h
    rcases List.mem_cons.1 hu with rfl | hu
    ·refine ⟨List.contains_iff_mem.1 h.1.1.1.1.2,?_⟩
     cases ho : ops[u]? with
     | none=>have:=h.1.1.1.1.1;rw [ho] at this;cases this
     | some o=>exact ⟨o,rfl⟩
    ·exact ih _ h.2 u hu
  exact this (att r) [] (hato r hr)
 intro n
 induction n using Nat.strongRecOn with
 | _ n ih =>
  intro l ν w hn hsz hK hM hD hA hb hΦ hNE
  have hsize : ∀ r ∈ Zam R att,r < l.size:=fun x hx=>by
   obtain ⟨r,hr,hx2⟩:=List.mem_flatMap.1 hx
   rcases List.mem_cons.1 hx2 with rfl | hx2
   ·obtain ⟨-,o,d,ho,-⟩:=t1 x hr
    have:=(Array.getElem?_eq_some_iff.1 ho).1;omega
   ·obtain ⟨-,o,ho⟩:=hattp r hr x hx2
    have:=(Array.getElem?_eq_some_iff.1 ho).1;omega
  have htf : ∀ k,k < l.size -> l.getD k true = true -> l.getD k false = true:=fun k hk h=>by
   rw [Array.getD_eq_getD_getElem?,Array.getElem?_eq_getElem hk] at h ⊢;exact h
  by_cases hex : ∃ r ∈ R,l.getD r true = false
  ·obtain ⟨r,hr,hr1,hr2⟩:=t2 l hsz hM (fun r hr h u hu=>(hA r hr u hu).1 h) hex
   obtain ⟨-,o,d,ho,-⟩:=t1 r hr;have hready:=Zfb (md:=md) hr1 ho hr2
   obtain ⟨m,rfl⟩ : ∃ m,n = m + 1:=by
    have:=Zi2 hndf (hmemR r hr) hr1;exact ⟨left (Zam R att) (l.setIfInBounds r true),by omega⟩
   rw [Nat.add_right_comm];refine ⟨fun h0=>(by rw [h0] at hready;cases hready),fun i hi=>?_⟩;obtain ⟨hi1,hi2,hi3⟩:=Zi8 hi
   have hiF : i ∈ Zam R att:=by
    apply Classical.byContradiction
    intro hni;unfold Ztw at hou;rw [List.all_eq_true] at hou;have h1:=hou i (List.mem_range.2 hi2);simp only [Bool.or_eq_true,List.any_eq_true,List.all_eq_true,Bool.and_eq_true,Bool.not_eq_true'] at h1
    rcases h1 with ((h1 | h1) | ⟨p,hp,h2,h3⟩) | h1
    ·exact hni (List.contains_iff_mem.1 h1)
    ·rw [hK i hni,h1] at hi1;cases hi1
    ·have hpR : p ∉ Zam R att:=fun h=>by rw [List.contains_iff_mem.2 h] at h2;cases h2
     have h4:=hi3 p hp;have h5:=Zc9 h4;rw [hK p hpR] at h5
     have hps : p < l.size:=by
      rcases Nat.lt_or_ge p l.size with h' | h'
      ·exact h'
      ·rw [Array.getD_eq_getD_getElem?,Array.getElem?_eq_none h'] at h4;cases h4
     rw [Array.getD_eq_getD_getElem?,Array.getElem?_eq_getElem (by omega)] at h5 h3;simp only [Option.getD_some] at h5 h3;rw [h5] at h3;cases h3
    ·have h2:=Zoa (md:=md) (ops:=ops) (l:=l) (R:=Zam R att) hD (Zam R att).reverse (Zak md ops i) (fun r hr=>List.mem_reverse.1 hr) hi3
     have h3:=Zc9 (h2 r (List.contains_iff_mem.1 (h1 r hr)));rw [hr1] at h3;cases h3
   have hiR : i ∈ R:=by
    obtain ⟨r',hr',hx⟩:=List.mem_flatMap.1 hiF
    rcases List.mem_cons.1 hx with rfl | hx
    ·exact hr'
    ·exfalso
     have h1:=Zc9 (hi3 r' (hattp r' hr' i hx).1);have h2:=Zc9 ((hA r' hr' i hx).1 h1);rw [hi1] at h2;cases h2
   have hdn : Zap ops i ∈ (Zam R att).map (Zap ops):=List.mem_map.2 ⟨i,hiF,rfl⟩;obtain ⟨own1,own2⟩:=Zns hndf i hiR;obtain ⟨ni,nus⟩:=Za2 own1;refine wpOp_mono (fun a' w' h=>?_) (hop i hiR ν w hb fun j hj hp=>hΦ j hj (Zc9 (hi3 j hp)));obtain ⟨v,rfl,hv,hb2,htr,hne⟩:=h;have hb3:=hb.trans (hb2.mono hb.size);refine ⟨fun _=>hS _ hb3,?_⟩;rw [Zhm hdn hnd] at htr ⊢;have hset : (l.setIfInBounds i true).getD i false = true:=Zfd (hsize i hiF)
   have hund : ∀ u ∈ att i,(l.setIfInBounds i true).getD u true = false:=fun u hu=>by
    rw [Go.getD_set_ne true (fun e : i = u=>ni (e ▸ hu))];exact (hA i hiR u hu).2 hi1
   have hlt:=Zi2 hndf hiF hi1;have hlm:=Zlz hndf (att i) (l.setIfInBounds i true) nus (hmemU i hiR) hund
   have hm : m = (att i).length + left (Zam R att) (Zas (att i) (l.setIfInBounds i true)):=by omega
   rw [hm,Nat.add_assoc];refine Zpp (R:=Zam R att) hns hnd hiF (att i) [] (l.setIfInBounds i true) _ (hato i hiR) (hmemU i hiR) (fun u hu=>hL u (hmemU i hiR u hu)) hund (by simp;omega) nus (fun p hp=>Zac (hM p hp)) hset (fun p hp=>Zac (hi3 p hp)) (fun u hu=>by cases hu) (hS _ hb3) htr (fun ν' k1 k2=>?_)
   have hνi : ν' (Zap ops i) = v:=by
    rw [k1 _ (fun u hu=>Zd7 hnd (hmemU i hiR u hu) hiF (fun e=>ni (e ▸ hu)))];simp only [upd,if_true]
   have hνo : ∀ x ∈ Zam R att,x ≠ i -> x ∉ att i -> ν' (Zap ops x) = ν (Zap ops x):=fun x hx h1 h2=>by
    rw [k1 _ (fun u hu=>Zd7 hnd (hmemU i hiR u hu) hx (fun e=>h2 (e ▸ hu)))];simp only [upd,if_neg (Zd7 hnd hx hiF h1)]
   refine ih _ (by omega) (Zas (att i) (l.setIfInBounds i true)) ν' w' rfl (by rw [Zel];simp;exact hsz) (fun k hk=>?_) (fun k hk=>Zba (Zac (hM k hk))) (fun x hx hxt p hp=>?_) (fun r' hr' u hu=>?_) hb3 (fun x hx hxt=>?_) (fun a ha b hb' hab hat hbt=>?_)
   ·rw [Zbg,if_neg (fun h=>hk (hmemU i hiR k h)),Go.getD_set_ne true (fun e : i = k=>hk (e ▸ hiF))]
    exact hK k hk
   ·rcases Zi3 hxt with h1 | h1
    ·-- an operation of the train
     have h2 : ∀ (us done : List Nat),Zf1 md ops l0 i us done = true -> (∀ u ∈ done,(Zas (att i) (l.setIfInBounds i true)).getD u false = true) -> (∀ u ∈ us,u ∈ att i) -> ∀ u ∈ us,∀ p ∈ Zak md ops u,(Zas (att i) (l.setIfInBounds i true)).getD p false = true:=by
      intro us
      induction us with
      | nil=>intro _ _ _ _ u hu;cases hu
      | cons y us ihu =>
       intro done h hd hall u hu p hp;simp only [Zf1,Bool.and_eq_true,List.all_eq_true] at h
       rcases List.mem_cons.1 hu with rfl | hu
       ·have h7:=h.1.1.2 p hp
        simp only [Bool.or_eq_true,beq_iff_eq] at h7
        rcases h7 with ((h7 | h7) | h7) | h7
        ·rw [h7];exact Zba hset
        ·exact hd p (List.contains_iff_mem.1 h7)
        ·exact Zba (Zac (hM p h7))
        ·exact Zba (Zac (hi3 p (List.contains_iff_mem.1 h7)))
       ·refine ihu (y :: done) h.2 (fun z hz=>?_) (fun z hz=>hall z (List.mem_cons_of_mem _ hz)) u hu p hp
        rcases List.mem_cons.1 hz with rfl | hz
        ·exact Ziq (hall z (List.mem_cons_self ..)) (by simp;exact hsize z (hmemU i hiR z (hall z (List.mem_cons_self ..))))
        ·exact hd z hz
     exact h2 (att i) [] (hato i hiR) (fun u hu=>by cases hu) (fun u hu=>hu) x h1 p hp
    ·by_cases hxi : i = x
     ·subst hxi;exact Zba (Zac (hi3 p hp))
     ·rw [Go.getD_set_ne false hxi] at h1
      exact Zba (Zac (hD x hx h1 p hp))
   ·by_cases hri : r' = i
    ·subst hri
     refine ⟨fun _=>Ziq hu (by simp;exact hsize u (hmemU r' hr' u hu)),fun h=>?_⟩;have h1:=Ze8 h;rw [Zc9 hset] at h1;cases h1
    ·have hd1:=own2 r' hr' hri
     have hu1 : u ∉ att i:=fun h=>hd1 u (List.mem_cons_of_mem _ h) (List.mem_cons_of_mem _ hu)
     have hu2 : i ≠ u:=fun h=>hd1 i (List.mem_cons_self ..) (h ▸ List.mem_cons_of_mem _ hu)
     have hr1' : r' ∉ att i:=fun h=>hd1 r' (List.mem_cons_of_mem _ h) (List.mem_cons_self ..)
     refine ⟨fun h=>?_,fun h=>?_⟩
     ·rw [Zbg,if_neg hr1',Go.getD_set_ne true (Ne.symm hri)] at h
      exact Zba (Zac ((hA r' hr' u hu).1 h))
     ·rw [Zbg,if_neg hr1',Go.getD_set_ne true (Ne.symm hri)] at h
      rw [Zbg,if_neg hu1,Go.getD_set_ne true hu2];exact (hA r' hr' u hu).2 h
   ·by_cases hxi : x = i
    ·subst hxi;rw [hνi];exact hv
    ·by_cases hxa : x ∈ att i
     ·exact k2 x hxa
     ·rw [hνo x hx hxi hxa]
      rw [Zbg,if_neg hxa,Go.getD_set_ne true (Ne.symm hxi)] at hxt;exact hst x hx _ _ _ hb2 (hΦ x hx hxt)
   ·have hDa : ∀ x ∈ D,x ∉ att i:=fun x hx h=>by
      by_cases hxi : x = i
      ·exact ni (hxi ▸ h)
      ·exact own2 x (hDR x hx) hxi x (List.mem_cons_of_mem _ h) (List.mem_cons_self ..)
    have hold : ∀ x ∈ D,x ≠ i -> (Zas (att i) (l.setIfInBounds i true)).getD x true = true -> ν' (Zap ops x) = ν (Zap ops x) /\ l.getD x true = true:=fun x hx hxi h=>by
     rw [Zbg,if_neg (hDa x hx),Go.getD_set_ne true (Ne.symm hxi)] at h;exact ⟨hνo x (hmemR x (hDR x hx)) hxi (hDa x hx),h⟩
    by_cases hai : a = i
    ·have hbi : b ≠ i:=fun h=>hab (hai.trans h.symm)
     obtain ⟨e1,e2⟩:=hold b hb' hbi hbt;rw [hai,hνi,e1];exact hne (hai ▸ ha) b hb' _ (hΦ b (hmemR b (hDR b hb')) e2)
    ·obtain ⟨e1,e2⟩:=hold a ha hai hat
     by_cases hbi : b = i
     ·rw [hbi,hνi,e1]
      exact fun h=>hne (hbi ▸ hb') a ha _ (hΦ a (hmemR a (hDR a ha)) e2) h.symm
     ·obtain ⟨e3,e4⟩:=hold b hb' hbi hbt
      rw [e1,e3];exact hNE a ha b hb' hab e2 e4
  ·have hall : ∀ x ∈ Zam R att,l.getD x true = true:=fun x hx=>by
     obtain ⟨r,hr,hx2⟩:=List.mem_flatMap.1 hx
     have h1 : l.getD r true = true:=by
      cases h : l.getD r true with
      | true=>rfl
      | false=>exact absurd ⟨r,hr,h⟩ hex
     rcases List.mem_cons.1 hx2 with rfl | hx2
     ·exact h1
     ·exact Zc9 ((hA r hr x hx2).1 h1)
   have h0 : left (Zam R att) l = 0:=by
    unfold left;rw [List.length_eq_zero_iff,List.filter_eq_nil_iff];intro r hr;rw [hall r hr];simp
   have : l = Zas (Zam R att) l0:=by
    refine Zo0 (by rw [Zel];exact hsz) fun k=>?_
    rw [Zbg]
    by_cases hk : k ∈ Zam R att
    ·rw [if_pos hk];exact hall k hk
    ·rw [if_neg hk];exact hK k hk
   subst this;rw [hn,h0,Nat.zero_add];exact hfin ν w hb (fun i hi=>hΦ i hi (hall i hi)) (fun i hi j hj hij=>hNE i hi j hj hij (hall i (hmemR i (hDR i hi))) (hall j (hmemR j (hDR j hj))))
theorem Zmw (DP : List (Nat × Nat)) (RP : List (Nat × Nat)) (att : Nat -> List Nat) (FP : List (Nat × Nat)) (Φ : Nat -> Value -> World -> Prop) (F : Nat) {l0 : Array Bool} {a0 : Act} {w0 : World}
    (hok : (Zit md ops (RP.map (·.1)) att l0 && (Zam (RP.map (·.1)) att == FP.map (·.1)) && FP.all (fun p=>Zap ops p.1 == p.2) && RP.all (fun p=>Zap ops p.1 == p.2) && FP.all (fun p=>!L.contains p.1) && DP.all (fun p=>RP.contains p)) = true)
    (hst : ∀ p ∈ FP,∀ v w w',Below w.heap.size w w' -> Φ p.1 v w -> Φ p.1 v w') (hS : ∀ w',Below w0.heap.size w0 w' -> S w')
    (hop : ∀ p ∈ RP,∀ (ν : Nat -> Value) (w : World),Below w0.heap.size w0 w -> (∀ q ∈ FP,(Zak md ops p.1).contains q.1 = true -> Φ q.1 (ν q.2) w) ->
     wpOp P ops (OnlyNormal Q) p.1 (fun a' w'=>∃ v,a' = (Zao (FP.map (·.2)) a0 ν).put (some p.2) v /\ Φ p.1 v w' /\ Below w.heap.size w w' /\ Zod P ops Φ w' (att p.1) a' /\ (p ∈ DP -> ∀ q ∈ DP,∀ u,Φ q.1 u w -> v ≠ u)) (Zao (FP.map (·.2)) a0 ν) w)
    (hfin : ∀ (ν : Nat -> Value) (w : World),Below w0.heap.size w0 w -> (∀ p ∈ FP,Φ p.1 (ν p.2) w) -> (∀ p ∈ DP,∀ q ∈ DP,p ≠ q -> ν p.2 ≠ ν q.2) -> Z8 P md ops (OnlyNormal Q) L S F (Zas (FP.map (·.1)) l0) (Zao (FP.map (·.2)) a0 ν) w) :
    Z8 P md ops (OnlyNormal Q) L S (FP.length + F) l0 a0 w0:=by
 simp only [Bool.and_eq_true,beq_iff_eq] at hok;obtain ⟨⟨⟨⟨⟨h1,h2⟩,h3⟩,h4⟩,h5⟩,h6⟩:=hok;rw [List.all_eq_true] at h6;have hD:=Znt (ops:=ops) FP h3;rw [<- h2] at hD;rw [List.all_eq_true] at h3 h4 h5
 have hmem : ∀ i,i ∈ Zam (RP.map (·.1)) att -> ∃ p ∈ FP,p.1 = i:=fun i hi=>by
  rw [h2] at hi;exact List.mem_map.1 hi
 have hall:=h1;simp only [Zit,Bool.and_eq_true,decide_eq_true_eq] at h1;obtain ⟨⟨⟨⟨⟨hto,-⟩,hnd⟩,hsz0⟩,hato⟩,-⟩:=h1;obtain ⟨t1,-⟩:=Zgj _ l0 hto
 have hund : ∀ i ∈ Zam (RP.map (·.1)) att,l0.getD i true = false:=fun x hx=>by
  obtain ⟨r,hr,hx2⟩:=List.mem_flatMap.1 hx
  rcases List.mem_cons.1 hx2 with rfl | hx2
  ·exact (t1 x hr).1
  ·rw [List.all_eq_true] at hato
   have : ∀ (us done : List Nat),Zf1 md ops l0 r us done = true -> ∀ u ∈ us,l0.getD u true = false:=by
    intro us
    induction us with
    | nil=>intro _ _ u hu;cases hu
    | cons y us ih =>
     intro done h u hu;simp only [Zf1,Bool.and_eq_true,Bool.not_eq_true'] at h
     rcases List.mem_cons.1 hu with rfl | hu
     ·exact h.1.1.1.2
     ·exact ih _ h.2 u hu
   exact this _ _ (hato r hr) x hx2
 have hlen : left (Zam (RP.map (·.1)) att) l0 = FP.length:=by
  unfold left;rw [List.filter_eq_self.2 (fun r hr=>by rw [hund r hr];rfl),h2,List.length_map]
 have h:=Zsb (P:=P) (ops:=ops) (Q:=Q) (md:=md) (L:=L) (S:=S) (RP.map (·.1)) att (DP.map (·.1)) (fun i hi=>by
  obtain ⟨p,hp,rfl⟩:=List.mem_map.1 hi
  exact List.mem_map.2 ⟨p,List.contains_iff_mem.1 (h6 p hp),rfl⟩) Φ (F:=F) (a0:=a0) (w0:=w0) hall (fun u hu=>by
  obtain ⟨p,hp,rfl⟩:=hmem u hu;have:=h5 p hp;intro hc;rw [List.contains_iff_mem.2 hc] at this
  cases this) (fun i hi=>by
  obtain ⟨p,hp,rfl⟩:=hmem i hi
  exact hst p hp) hS (fun i hi ν w hb hP=>by
  obtain ⟨p,hp,rfl⟩:=List.mem_map.1 hi
  have:=hop p hp ν w hb (fun q hq hc=>by
   have hq2:=hP q.1 (by rw [h2];exact List.mem_map.2 ⟨q,hq,rfl⟩) (List.contains_iff_mem.1 hc);have e:=h3 q hq;simp only [beq_iff_eq] at e;rw [e] at hq2
   exact hq2)
  have e:=h4 p hp;simp only [beq_iff_eq] at e;rw [hD,e];refine wpOp_mono (fun a' w' h=>?_) this;obtain ⟨v,k1,k2,k3,k4,k5⟩:=h;refine ⟨v,k1,k2,k3,k4,fun hi j hj u hu=>?_⟩;obtain ⟨p',hp',hpe⟩:=List.mem_map.1 hi;obtain ⟨q',hq',rfl⟩:=List.mem_map.1 hj;have e1:=h4 p' (List.contains_iff_mem.1 (h6 p' hp'));simp only [beq_iff_eq] at e1;have : p' = p:=Prod.ext hpe (by rw [<- e1,<- e,hpe])
  exact k5 (this ▸ hp') q' hq' u hu) (fun ν w hb hf hne=>by
  rw [hD,h2]
  exact hfin ν w hb (fun p hp=>by
   have hq2:=hf p.1 (by rw [h2];exact List.mem_map.2 ⟨p,hp,rfl⟩);have e:=h3 p hp;simp only [beq_iff_eq] at e;rw [e] at hq2
   exact hq2) (fun p hp q hq hpq=>by
   have e1:=h4 p (List.contains_iff_mem.1 (h6 p hp));have e2:=h4 q (List.contains_iff_mem.1 (h6 q hq));simp only [beq_iff_eq] at e1 e2;have:=hne p.1 (List.mem_map.2 ⟨p,hp,rfl⟩) q.1 (List.mem_map.2 ⟨q,hq,rfl⟩) (fun h=>hpq (Prod.ext h (by rw [<- e1,<- e2,h])));rw [e1,e2] at this
   exact this)) FP.length l0 (fun d=>a0.tmps.getD d undef) w0 hlen.symm rfl (fun _ _=>rfl) (fun _ h=>h)
  (fun r hr h=>by have h1:=Zc9 h;rw [hund r hr] at h1;cases h1)
  (fun r hr u hu=>⟨fun h=>(by rw [hund r (List.mem_flatMap.2 ⟨r,hr,List.mem_cons_self ..⟩)] at h;cases h),fun _=>hund u (List.mem_flatMap.2 ⟨r,hr,List.mem_cons_of_mem _ hu⟩)⟩)
  (Below.refl _ _) (fun r hr h=>by rw [hund r hr] at h;cases h)
  (fun i hi j hj _ h _=>by
   obtain ⟨p,hp,rfl⟩:=List.mem_map.1 hi;rw [hund p.1 (List.mem_flatMap.2 ⟨p.1,List.mem_map.2 ⟨p,List.contains_iff_mem.1 (h6 p hp),rfl⟩,List.mem_cons_self ..⟩)] at h
   cases h)
 rw [Zol] at h;exact h
theorem Zcp (RP : List (Nat × Nat)) (att : Nat -> List Nat) (FP : List (Nat × Nat)) (Φ : Nat -> Value -> World -> Prop) (F : Nat) {l0 : Array Bool} {a0 : Act} {w0 : World}
    (hok : (Zit md ops (RP.map (·.1)) att l0 && (Zam (RP.map (·.1)) att == FP.map (·.1)) && FP.all (fun p=>Zap ops p.1 == p.2) && RP.all (fun p=>Zap ops p.1 == p.2) && FP.all (fun p=>!L.contains p.1)) = true)
    (hst : ∀ p ∈ FP,∀ v w w',Below w.heap.size w w' -> Φ p.1 v w -> Φ p.1 v w') (hS : ∀ w',Below w0.heap.size w0 w' -> S w')
    (hop : ∀ p ∈ RP,∀ (ν : Nat -> Value) (w : World),Below w0.heap.size w0 w -> (∀ q ∈ FP,(Zak md ops p.1).contains q.1 = true -> Φ q.1 (ν q.2) w) ->
     wpOp P ops (OnlyNormal Q) p.1 (fun a' w'=>∃ v,a' = (Zao (FP.map (·.2)) a0 ν).put (some p.2) v /\ Φ p.1 v w' /\ Below w.heap.size w w' /\ Zod P ops Φ w' (att p.1) a') (Zao (FP.map (·.2)) a0 ν) w)
    (hfin : ∀ (ν : Nat -> Value) (w : World),Below w0.heap.size w0 w -> (∀ p ∈ FP,Φ p.1 (ν p.2) w) -> Z8 P md ops (OnlyNormal Q) L S F (Zas (FP.map (·.1)) l0) (Zao (FP.map (·.2)) a0 ν) w) :
    Z8 P md ops (OnlyNormal Q) L S (FP.length + F) l0 a0 w0:=
 Zmw [] RP att FP Φ F (by rw [hok];rfl) hst hS (fun p hp ν w hb hP=>wpOp_mono (fun a' w' h=>by
  obtain ⟨v,k1,k2,k3,k4⟩:=h
  exact ⟨v,k1,k2,k3,k4,fun h=>by cases h⟩) (hop p hp ν w hb hP)) (fun ν w hb hf _=>hfin ν w hb hf)
end
def shG (B0 q n L : Nat) (i : Nat) (v : Value) (w : World) : Prop:=
 if i = 4 then OwnL 147 w B0 v (List.replicate q 0) /\ ∃ g,v = .slice (some ⟨g,0,none⟩) q q
 else ∃ A c o,v = .slice A (n + 1) c /\ Lim w A (n + 1) c o /\ val o = L
theorem Zqq {B0 q n L i : Nat} {v : Value} {w w' : World} (hb : Below w.heap.size w w') (h : shG B0 q n L i v w) : shG B0 q n L i v w':=by
 unfold shG at h ⊢
 split at h
 ·rename_i h1;rw [if_pos h1];exact ⟨h.1.kept hb,h.2⟩
 ·rename_i h1;rw [if_neg h1]
  obtain ⟨A,c,o,e,h2,h3⟩:=h;exact ⟨A,c,o,e,h2.below hb,h3⟩
theorem sg_mulS {z : Int} {P : Nat} (h : 0 < P) : sg (decide (z < 0)) (P * z.natAbs) = (P : Int) * z:=by
 unfold sg
 by_cases h0 : z < 0
 ·simp only [h0,decide_true,if_true]
  rw [Int.natCast_mul,show ((z.natAbs : Nat) : Int) = -z by omega,Int.mul_neg,Int.neg_neg]
 ·simp only [h0,decide_false,if_false,Bool.false_eq_true]
  rw [Int.natCast_mul,show ((z.natAbs : Nat) : Int) = z by omega]
theorem Zrt (neg : Bool) (A : Option Addr) (n c k : Nat) (z : Int) (P : Nat) (w : World) (hz : Wd w neg A n c z) (hk : k <= 131072) (hP : P = 2 ^ k) (hsm : ((P : Int) * z).natAbs < pw 4096) :
    Calls Tryz.prog 135 #[.agg #[.bool neg,.slice A n c],.int .i64 k] w (NumE w ((P : Int) * z)):=by
 obtain ⟨W0,hW0,hB0,⟨q0,q1⟩,s0⟩:=Zdm w 27 #[.bool neg,.slice A n c] 27 #[.bool false,.slice none 0 0]
 have hmx : Tryz.prog.follows .mixedOrders = true:=by kernel_rfl
 obtain ⟨i0,hi,hz0,hz1,hz2⟩:=info_parts Zbw;obtain ⟨q,hq⟩ : ∃ q,k / 32 = q:=⟨_,rfl⟩;obtain ⟨s,hsk⟩ : ∃ s,k % 32 = s:=⟨_,rfl⟩
 have hs : s < 32:=by omega
 have hq9 : q <= 4096:=by omega
 have hPP : Hid (P = pw q * 2 ^ s):=Za (by
  have e : k = 32 * q + s:=by omega
  rw [hP,e,Nat.pow_add,Zh7])
 have hP0 : Hid (0 < P):=Za (by rw [hP];exact Nat.two_pow_pos k);have hneg:=Za hz.1;have hn9:=hz.2.1;have hgood : Hid (okW neg (digits z.natAbs) = true):=hz.ok;have hL:=Za (fun X (hb : Below w.heap.size w X)=>hz.lim.below hb)
 have q3 : ((k : Int) / 32) = (q : Int):=by omega
 have q4 : ((k : Int) % 32) = (s : Int):=by omega
 have q5 : (k : Int).tmod 32 = (s : Int):=by rw [Int.tmod_eq_emod_of_nonneg (by omega)];exact q4
 have q6 : IntKind.i64.wrap (q : Int) = (q : Int):=IntWalk.i64_in _ (by omega);have q7 : IntKind.u64.wrap (s : Int) = (s : Int):=IntWalk.u64_in _ (by omega);have t1 : decide ((k : Int) < -131072) = false:=decide_eq_false (by omega);have t2 : decide ((131072 : Int) < (k : Int)) = false:=decide_eq_false (by omega);have t2' : decide (131072 < k) = false:=decide_eq_false (by omega);have t3 : decide ((0 : Int) <= (k : Int)) = true:=decide_eq_true (by omega);have hncap:=hz.lim.2.1;have hcap:=hz.lim.2.2.1;unfold maxLen at hcap;obtain ⟨a0,a1,-⟩:=q0.two;replace hsm:=Za hsm;replace hP:=Za hP;replace hW0:=Za hW0;replace hB0:=Za hB0;have hqq:=Za (And.intro q0 q1);clear q0 q1 hz;replace hq:=Za hq;replace hsk:=Za hsk;replace hk:=Za hk;go_enter Tryz.func135,Tryz.ntmps135;have hW0':=hW0.out;go_wp2_with fail;clear hW0 hW0';refine (Zae (hL.out W0 hB0.out) hgood.out).mono ?_;rintro e w1 ⟨rfl,hb1⟩;have hB1:=hB0.out.trans (hb1.mono hB0.out.size);obtain ⟨q0,q1⟩:=hqq.out;replace q0:=Zb hb1 q0;replace q1:=Zb hb1 q1;clear hb1 hqq hB0 a0 a1;obtain ⟨a0,a1,-⟩:=q0.two;obtain ⟨x0,x1,f0,f1⟩:=q1.two;have hqq:=Za (And.intro q0 q1);clear q0 q1;have hs1:=hB1.size;replace hB1:=Za hB1;go_wp2_with fail;have hr1 : Below w1.heap.size w1 w1.drew:=Zh (Below.refl _ _) 1;have hSv : Hid (∀ wx,Below w1.heap.size w1 wx -> wx.cell? ⟨w.heap.size,0,none⟩ = some (.bool neg) /\ wx.cell? ⟨w.heap.size,1,none⟩ = some (.slice A n c)):=Za (fun wx hbx=>⟨Zc hbx a0,Zc hbx a1⟩);refine wp_heldS [] hmx hSv hr1 (fun _=>?_)
 refine Zty 9 [0,1,2,3,5,6,7,8,9] rfl (by kernel_rfl) (hSv.out _ hr1) ?_
 iterate 9 (refine tk1 (v:=?_) rfl (Or.inl ⟨by kernel_rfl,?_⟩) ?_;rotate_left;(· intro W2 hSw;(try dsimp only at hSw);go_simp;try with_reducible rfl);try simp only [Act.put,putL_a,putL_z,putL_s,putG_a,putG_s,putG_z])
 refine tk0 ?_;refine Zcp [(4,28),(10,34)] (fun _=>[]) [(4,28),(10,34)] (shG w1.heap.size q n (2 ^ s * z.natAbs)) 6 (by kernel_rfl) (fun _ _ _ _ _ hb h=>Zqq hb h) (fun wx h=>hSv.out _ (hr1.trans (h.mono hr1.size))) ?hop1 ?hfin1
 case hop1 =>
  intro p hp;simp only [List.mem_cons,List.not_mem_nil,or_false] at hp;simp only [List.map_cons,List.map_nil,Zao,Act.put,putL_a,putL_z,putL_s]
  rcases hp with rfl | rfl
  ·intro ν wx hb hP
   have hbx:=hr1.trans (hb.mono hr1.size);have hmk:=Zdx (P:=Tryz.prog) 25 147 Tryz.underlying25 hi hz0 hz1 hz2 (q : Int) q rfl (by omega) wx
   have hO : OwnL 147 (wx.alloc (.cells (Zn (List.replicate q 0)) 147)) w1.heap.size (.slice (some ⟨wx.heap.size,0,none⟩) q q) (List.replicate q 0):=by
    refine ⟨⟨by simp,.inr ⟨wx.heap.size,q,_,by simp,hbx.size,heap_alloc_new _ _,by simp,by unfold maxLen;omega,by simp [Zn],?_⟩⟩,Zge q⟩
    simp [Zn,List.take_replicate,limb]
   refine Zab (i:=4) rfl (fun K hK=>?_);go_simp;exact hK.out _ _ ⟨_,rfl,(by unfold shG;rw [if_pos rfl];exact ⟨hO,_,rfl⟩),(Below.refl _ _).alloc (Nat.le_refl _) _,trivial⟩
  ·intro ν wx hb hP
   have hbx:=hr1.trans (hb.mono hr1.size);refine Zab (i:=10) rfl (fun K hK=>?_);go_simp;refine (Zhe A n c s _ wx (hL.out wx (hB1.out.trans (hbx.mono hB1.out.size))) hs (by omega)).mono ?_;rintro e w5 ⟨v,o,rfl,hO,hlen,hval,hb5⟩;obtain ⟨A5,c5,rfl,h5⟩:=hO.lim;rw [hlen] at h5 ⊢;rw [Zf] at hval;exact hK.out _ _ ⟨_,rfl,(by unfold shG;rw [if_neg (by decide)];exact ⟨_,_,_,rfl,h5,hval⟩),hb5,trivial⟩
 case hfin1 =>
  intro ν wx hb hP;have h0:=hP (4,28) (by simp);have h1:=hP (10,34) (by simp);simp only [shG,if_true] at h0;unfold shG at h1;rw [if_neg (by decide)] at h1;obtain ⟨hO,g,h0⟩:=h0;obtain ⟨A5,c5,o,h1,h5,hval⟩:=h1;simp only [List.map_cons,List.map_nil,Zao,Act.put,putL_a,putL_z,putL_s];rw [h0] at hO;rw [h0,h1];clear h0 h1 hP ν;have hbx:=hr1.trans (hb.mono hr1.size)
  have hcs : n + 1 <= 4097:=by omega
  refine Ze (i:=11) rfl (by kernel_rfl) (fun K hK=>?_);rw [if_pos (by rfl)];refine Zf2 _ (.tmp 28) (.tmp 34) 25 rfl w1.heap.size 147 i0 _ 1 4 Tryz.underlying25 hi hz0 hz1 hz2 rfl (by omega) _ q ((List.replicate q 0).map limb) rfl (by have:=hO.1;rw [List.length_replicate] at this;exact this) _ A5 (n + 1) c5 _ rfl h5.reads (Zcc _) (by unfold maxLen;omega) (by omega) hbx.size ?_;intro v7 w7 hr7 hg7 _;have hO7 : OwnL 147 w7 w1.heap.size v7 (List.replicate q 0 ++ o):=OwnL.append (by simp) h5.len.symm hr7 (Zge q) h5.lt;have hj7 : Below w1.heap.size w1 w7:=hbx.grown hg7 hbx.size (fun x hx=>hO.row_ge x hx);obtain ⟨A7,c7,e7,h7⟩:=hO7.lim;obtain ⟨N7,hN7⟩ : ∃ N,(List.replicate q 0 ++ o).length = N:=⟨_,rfl⟩
  have hl7 : N7 <= 1000000000:=by rw [<- hN7,List.length_append,List.length_replicate,h5.len];omega
  rw [hN7] at e7 h7;subst e7;replace hN7:=Za hN7;refine hK.out _ _ (fun _=>hSv.out _ hj7) ?_;clear hK K hr7 hg7 hO7
  try simp only [Act.put,putL_a,putL_z,putL_s]
  refine Ze (i:=12) rfl (by kernel_rfl) (fun K hK=>?_);go_simp;refine (Zaq neg A7 _ c7 _ w7 h7 hl7).mono ?_;rintro e w8 ⟨hb8,n8,A8,k8,c8,code,rfl,hR⟩
  have hv : sg neg (val (List.replicate q 0 ++ o)) = (P : Int) * z:=by
   rw [Zek,Zki,List.length_replicate,hval,Nat.zero_add,<- Nat.mul_assoc,<- hPP.out,hneg.out];exact sg_mulS hP0.out
  rw [hv] at hR;obtain rfl:=hR.code0 hsm.out;have hW:=hR.small hsm.out;have hj8:=hj7.trans (hb8.mono hj7.size);refine hK.out _ _ (fun _=>hSv.out _ hj8) ?_;clear hK K hR hv
  try simp only [Act.put,putL_a,putL_z,putL_s]
  refine Zty 2 [13,14] rfl (by kernel_rfl) (hSv.out _ hj8) ?_
  iterate 2 (refine tk1 (v:=?_) rfl (Or.inl ⟨by kernel_rfl,?_⟩) ?_;rotate_left;(· intro W2 hSw;(try dsimp only at hSw);go_simp;try with_reducible rfl);try simp only [Act.put,putL_a,putL_z,putL_s,putG_a,putG_s,putG_z])
  refine tk0 ?_;obtain ⟨q0,q1⟩:=hqq.out;replace q1:=Zb hj8 q1;obtain ⟨Wb,hWb,hBb,qb,kW2,kB2,sb⟩:=Z6 n8 A8 k8 c8 (hB1.out.trans (hj8.mono hB1.out.size)) (by omega) q1;replace q0:=kB2 _ _ _ (by omega) (Zb hj8 q0);obtain ⟨d0,d1,-⟩:=q0.two;obtain ⟨v0,v1,u0,u1⟩:=q1.two;refine Ze (i:=15) rfl (by kernel_rfl) (fun K hK=>?_);go_simp;(try rw [hWb]);refine hK.out _ _ (fun _=>⟨d0,d1⟩) ?_;clear hK K
  try simp only [Act.put,putL_a,putL_z,putL_s]
  refine Ztx 1 [16] rfl (by kernel_rfl) ⟨d0,d1⟩ ?_
  (refine tk1 (v:=?_) rfl (Or.inl ⟨by kernel_rfl,?_⟩) ?_;rotate_left;(· intro W2 _;go_simp;try with_reducible rfl);try simp only [Act.put,putL_a,putL_z,putL_s,putG_a,putG_s,putG_z])
  refine tk0 ?_;refine Zj (by kernel_rfl) ?_ _;refine OnlyNormal.normal ?_;have HZ:=Za (kW2 _ _ _ _ _ hW);obtain ⟨y0,y1,-⟩:=qb.two;replace hBb:=Za hBb;clear v0 v1 u0 u1 hWb d0 d1 hW hb8 hj8;go_wp2_with fail;refine bodyPost_ret (v:=.tuple #[.agg #[.bool n8,.slice A8 k8 c8],.int .i64 0]) (by simp [results,Tryz.results135,go_sem,y0,y1]) rfl ?_;exact ⟨hBb.out,_,_,_,_,rfl,HZ.out⟩
end Go.Proofs.YtaioanjcjijckaaGreat
