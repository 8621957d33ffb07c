/- Package wide: Cmp, and the order of two numbers. Package -/
import Derived.Test.YthappeninglakaaZq11
set_option maxRecDepth 100000
set_option maxHeartbeats 1000000
set_option linter.unusedSimpArgs false
set_option linter.unusedVariables false
namespace Go.Proofs.Ythappeninglakaa
open Go.RowKit
attribute [local go_sem] Zj
def Zht (w : World) : Value -> List Nat
 | .slice (some ad) n _=>(List.range n).map fun k=>match w.cell? (ad.add k) with | some (.int _ x)=>x.toNat | _=>0
 | _=>[]
theorem Lim.mem {w : World} {A : Option Addr} {n c : Nat} {l : List Nat} (h : Lim w A n c l) : Zht w (.slice A n c) = l:=by
 rcases A with _ | ad
 ·have hn : n = 0:=by
    rcases Nat.eq_zero_or_pos n with h0 | h0
    ·exact h0
    ·obtain ⟨b,o,e,_⟩:=h.2.2.2.2 h0
     cases e
  subst hn;exact (List.eq_nil_of_length_eq_zero h.len).symm
 ·unfold Zht
  apply List.ext_getElem (by simp [h.len])
  intro i h1 h2;obtain ⟨b,o,e,hc⟩:=h.at_ (k:=i) (by rw [<- h.len];exact h2)
  injection e with e
  subst e;simp only [List.getElem_map,List.getElem_range,Zj,hc]
  simp [List.getElem?_eq_getElem h2]
def GcdR (w : World) (t : TypeId) (G : Nat) (xv yv : Value) (wr : World) : Prop:=
 ∃ (u v : Nat) (A : Option Addr) (n c : Nat) (B : Option Addr) (m d : Nat),xv = .slice A n c /\ yv = .slice B m d /\ Lim wr A n c (digits u) /\ Lim wr B m d (digits v) /\ n <= 4096 /\ m <= 4096 /\ Nat.gcd u v = G /\ Blk wr (w.heap.size + 1 + 1) t #[.bool false,.slice none 0 0] /\ Below w.heap.size w wr
theorem Zs9 (na nb : Bool) (A B : Option Addr) (n c m d : Nat) (za zb : Int) (w : World) (ha : Wd w na A n c za) (hb : Wd w nb B m d zb) :
    Calls Try.prog 35 #[.agg #[.bool na,.slice A n c],.agg #[.bool nb,.slice B m d]] w (ResW w (Nat.gcd za.natAbs zb.natAbs : Nat)):=by
 have hLa:=ha.lim;have hLb:=hb.lim;have hn:=ha.2.1;have hm:=hb.2.1
 have hB0 : ∀ X Y Z V : Obj,Below w.heap.size w ((((w.alloc X).alloc Y).alloc Z).alloc V):=fun X Y Z V=>((((Below.refl w.heap.size w).alloc (Nat.le_refl _) _).alloc (by simp) _).alloc (by simp;omega) _).alloc (by simp;omega) _
 have hW : ∀ X Y Z t,WL ((((w.alloc X).alloc Y).alloc Z).alloc (.cells #[.bool na,.slice A n c,.bool nb,.slice B m d] t)) (some ⟨w.heap.size + 1 + 1 + 1,0,none⟩) 2 2 [⟨na,A,n,c,digits za.natAbs⟩,⟨nb,B,m,d,digits zb.natAbs⟩]:=fun X Y Z t=>by
  have:=WL.two (neg:=na) (neg':=nb) (((hLa.alloc X).alloc Y).alloc Z) (((hLb.alloc X).alloc Y).alloc Z) t;simp only [World.size_alloc] at this;exact this
 have hW:=Zb hW;have hB0:=Zb hB0;have hgood : Hid (okW na (digits za.natAbs) = true /\ okW nb (digits zb.natAbs) = true):=⟨ha.ok,hb.ok⟩;clear ha hb
 generalize za.natAbs = va at *
 generalize zb.natAbs = vb at *
 obtain ⟨G,hG⟩ : ∃ G,Nat.gcd va vb = G:=⟨_,rfl⟩;rw [hG];replace hG:=Zb hG;go_enter Try.func35,Try.ntmps35;go_wp2_with fail;refine (Zdl (hW.out _ _ _ _) (by have:=hgood.out;simp [WE.ok,this])).mono ?_;rintro e w1 ⟨rfl,hb1⟩;obtain ⟨hc1,hf1⟩:=Zca hb1
 have hz1 : w.heap.size + 1 + 1 + 1 < w1.heap.size:=by have:=hb1.size;simp at this;omega
 have hB1 : Below w.heap.size w w1:=(hB0.out _ _ _ _).trans (hb1.mono (by simp;omega))
 have g1 : w1.cell? ⟨w.heap.size,1,none⟩ = some (.slice A n c):=by simp [hc1,go_sem]
 have g2 : w1.cell? ⟨w.heap.size + 1,1,none⟩ = some (.slice B m d):=by simp [hc1,go_sem]
 have g7 : Blk w1 (w.heap.size + 1 + 1) 26 #[.bool false,.slice none 0 0]:=by
  refine Zd hb1 (Blk.alloc ?_ _);have:=Blk.new ((w.alloc (.cells #[.bool na,.slice A n c] 26)).alloc (.cells #[.bool nb,.slice B m d] 26)) 26 #[.bool false,.slice none 0 0];simp only [World.size_alloc] at this;exact this
 have hLa1:=hLa.below hB1;have hLb1:=hLb.below hB1;replace g7:=Zb g7;clear hc1 hf1;go_wp2_with fail
 go_region_held3 (fun w'=>w'.cell? ⟨w.heap.size,1,none⟩ = some (.slice A n c) /\ w'.cell? ⟨w.heap.size + 1,1,none⟩ = some (.slice B m d))
  (((try dsimp only);(repeat' apply And.intro);all_goals (first | go_keep | (simp [*,go_sem];done))))
  ((go_at_call 56;refine (Zgh _ _ _ _ _ (by exact hLa1) (by omega)).mono ?_;rintro e w2 ⟨v2,rfl,hO2,hb2⟩;obtain ⟨A2,c2,hv2,hL2⟩:=hO2.lim;rw [hLa1.len] at hv2 hL2;subst hv2;clear hO2;have k1:=Za hb2 g1;have k2:=Za hb2 g2))
 have hb2':=Zm hb2;have hB2 : Below w.heap.size w w2:=hB1.trans (hb2'.mono hB1.size);have m7 : Hid (Blk w2 (w.heap.size + 1 + 1) 26 #[.bool false,.slice none 0 0]):=Zd hb2' g7.out;have hLb2:=hLb1.below hb2';go_wp2_with fail
 go_loopw [7,8] (fun xv yv wr=>GcdR w 26 G xv yv wr) (fun _ yv wr=>val (Zht wr yv))
 case atStart=>exact ⟨va,vb,_,_,_,_,_,_,rfl,rfl,hL2,hLb2,hn,hm,hG.out,m7.out,hB2⟩
 case round =>
  obtain ⟨u,v,A5,n5,c5,B5,m5,d5,rfl,rfl,hLu,hLv,hn5,hm5,hg,hb7,hBr⟩:=hrel;replace hg:=Zb hg;replace hb7:=Zb hb7
  by_cases hm0 : 0 < m5
  ·have hv0 : 0 < v:=by rw [<- hLv.len] at hm0;exact length_digits_pos.1 hm0
   have hmem:=Zb hLv.mem;go_wp2_with fail;refine (Zfh _ _ _ _ _ _ u v _ hLu hLv (by omega) hv0).mono ?_;rintro e w5 ⟨A6,n6,c6,B6,m6,d6,rfl,hLq,hLr,hb5⟩;go_wp2_with fail
   go_roundw
   case rel=>exact ⟨v,u % v,_,_,_,_,_,_,rfl,rfl,hLv.below hb5,hLr,hm5,by have:=Zy (Nat.le_of_lt (Nat.mod_lt u hv0));rw [hLr.len,hLv.len] at this;omega,by rw [<- hg.out,Nat.gcd_comm u v,Nat.gcd_rec v u,Nat.gcd_comm],Zd hb5 hb7.out,hBr.trans (hb5.mono hBr.size)⟩
   case measure=>simp only [hmem.out,hLr.mem,Zg];exact Nat.mod_lt u hv0
  ·obtain rfl : m5 = 0:=by omega
   have hv0 : v = 0:=by
    rcases Nat.eq_zero_or_pos v with h | h
    ·exact h
    ·have:=length_digits_pos.2 h;rw [hLv.len] at this;omega
   subst hv0
   have hgu : Hid (u = G):=by have:=hg.out;rw [Nat.gcd_zero_right] at this;exact this
   have g8:=hb7.out;have g3:=g8.cell 0;have g4:=g8.cell 1;have g5:=g8.frozen 0;have g6:=g8.frozen 1
   simp at g3 g4
   clear g8;go_wp2_with fail;refine (Zgh _ _ _ _ _ hLu (by omega)).mono ?_;rintro e w5 ⟨v5,rfl,hO5,hb5⟩;obtain ⟨A6,c6,hv6,hL6⟩:=hO5.lim;rw [hLu.len] at hv6 hL6;subst hv6;go_wp2_with fail;refine (Zbk _ _ _ _ _ _ hL6).mono ?_;rintro e w6 ⟨hb6,neg6,A7,n7,c7,code7,rfl,hR7⟩;have hB6 : Below w.heap.size w w6:=(hBr.trans (hb5.mono hBr.size)).trans (hb6.mono (Nat.le_trans hBr.size hb5.size));have m8:=Zd hb6 (Zd hb5 hb7.out);have m3:=m8.cell 0;have m4:=m8.cell 1;have m5:=m8.frozen 0;have m6:=m8.frozen 1
   simp at m3 m4
   replace m8:=Zb m8;go_wp2_with fail
   have HZ : sg false (val (digits u)) = (G : Int):=by rw [Zg,hgu.out];rfl
   refine bodyPost_ret (v:=.tuple #[.agg #[.bool neg6,.slice A7 n7 c7],.int .i64 code7]) (by simp [results,Try.results35,go_sem,m3,m4]) rfl ?_;exact ResW.box (HZ ▸ hR7) hB6 (by omega) m8.out
theorem Zlm (A : Option Addr) (n c s : Nat) (l : List Nat) (w : World) (h : Lim w A n c l) (hs : s < 32) (hn9 : n <= 1000000) :
    Calls Try.prog 86 #[.slice A n c,.int .u64 s] w (fun e w'=>∃ v o,e = .returned v /\ OwnL 71 w' w.heap.size v o /\ o.length = n + 1 /\ val o = 2 ^ s * val l /\ Below w.heap.size w w'):=by
 obtain ⟨i0,hi,hz0,hz1,hz2⟩:=info_parts Zcl;have hnc:=h.2.1;have hcm:=h.2.2.1;unfold maxLen at hcm;go_enter Try.func86,Try.ntmps86;go_wp2_with fail
 go_loopw [7,6,5] (fun iv cv ov wr=>∃ i cy : Nat,i <= n /\ iv = .int .i64 i /\ cv = .int .u64 cy /\ LeftP w s l i cy ov wr) (fun iv _ _ _=>n - (intOf iv).toNat)
 case atStart=>exact ⟨0,0,Nat.zero_le _,rfl,rfl,[],OwnL.nil _ _ _,rfl,Nat.pow_pos (by omega),by simp [val],Below.refl _ _⟩
 case round =>
  obtain ⟨i,cy,hin,rfl,rfl,o,hown,hol,hcy,hI,hB⟩:=hrel;replace hol:=Zb hol;replace hI:=Zb hI
  by_cases hi' : i < n
  ·obtain ⟨b,of,rfl,hcell⟩:=(h.below hB).at_ hi'
   have hx:=h.lt.get i;obtain ⟨p,hp⟩ : ∃ p,2 ^ s = p:=⟨_,rfl⟩
   have hpb : p <= 2147483648:=by rw [<- hp];exact Nat.pow_le_pow_right (by omega) (show s <= 31 by omega)
   have hxb : p * l[i]?.getD 0 <= 2147483648 * 4294967295:=Nat.mul_le_mul hpb (by omega)
   have hor : IntKind.u64.wrap ((cy : Int) + IntKind.u64.wrap (((l[i]?.getD 0 : Nat) : Int) * 2 ^ s)) = ((cy + p * l[i]?.getD 0 : Nat) : Int):=by
    have e1 : (((l[i]?.getD 0 : Nat) : Int) * 2 ^ s) = ((p * l[i]?.getD 0 : Nat) : Int):=by rw [<- hp];push_cast;rw [Int.mul_comm]
    rw [hp] at hcy;rw [e1,IntKind.wrap_u64,IntKind.wrap_u64];omega
   rw [hp] at hcy;replace hp:=Zb hp;have hs0 : Hid (val (l.take (i + 1)) = val (l.take i) + pw i * l[i]?.getD 0):=Zx l i;obtain ⟨x,hxe⟩ : ∃ x,l[i]?.getD 0 = x:=⟨_,rfl⟩;rw [hxe] at hcell hx hxb hor hs0;replace hxe:=Zb hxe;obtain ⟨t,ht⟩ : ∃ t,cy + p * x = t:=⟨_,rfl⟩
   have htb : t / 4294967296 < p:=by
    rw [Nat.div_lt_iff_lt_mul (by omega),<- ht]
    have : p * x + p <= p * 4294967296:=by rw [<- Nat.mul_succ];exact Nat.mul_le_mul_left _ (by omega)
    omega
   have htb2 : t < 18446744073709551616:=by omega
   rw [ht] at hor;replace ht:=Zb ht;go_wp2_with (go_loud (at_builtin;refine Zq _ rfl (.tmp 23) (.tmp 26) 24 rfl w.heap.size 71 i0 _ 1 4 Try.underlying24 hi hz0 hz1 hz2 rfl (by omega) _ i (o.map limb) rfl (by have:=hol.out;subst this;exact hown.1.alloc _) _ _ 1 1 _ rfl (Za6 _ _ _) (by simp [Value.oneCell']) (by simp only [maxLen];omega) (by omega) (by have:=hB.size;simp;omega) ?_;intro v1 w1 hown1 hg1 hat1));have hown2 : OwnL 71 w1 w.heap.size v1 (o ++ [t % 4294967296]):=OwnL.snoc (s:=t % 4294967296) hol.out.symm hown1 hown.2 (by omega) (Nat.mod_lt _ (by decide));have hB1:=(hB.alloc hB.size _).grown hg1 (by have:=hB.size;simp;omega) hown.row_ge
   go_roundw
   case rel =>
    refine ⟨i + 1,t / 4294967296,by omega,by go_num,by go_num,_,hown2,by rw [List.length_append,hol.out];rfl,by rw [hp.out];exact htb,?_,hB1⟩;rw [Zdo,hol.out,hs0.out,hp.out,Nat.mul_add,Zal];have h1:=hI.out;rw [hp.out] at h1
    have h2 : pw i * (t % 4294967296) + 4294967296 * pw i * (t / 4294967296) = pw i * t:=by
     rw [Nat.mul_comm 4294967296 (pw i),Nat.mul_assoc,<- Nat.mul_add,Nat.mod_add_div]
    have h3 : p * (pw i * x) = pw i * (p * x):=by rw [Nat.mul_left_comm]
    rw [h3,<- h1,Nat.add_assoc,h2,<- ht.out,Nat.mul_add];omega
   case measure=>simp [intOf];omega
  ·obtain rfl : i = n:=by omega
   have hlen:=Zb h.len;have hcy2 : cy < 4294967296:=Nat.lt_of_lt_of_le hcy (show 2 ^ s <= 4294967296 from Nat.le_trans (Nat.pow_le_pow_right (by decide) (show s <= 32 by omega)) (by decide))
   have hcm : ((cy : Int)) % 4294967296 = (cy : Int):=by omega
   clear h;go_wp2_with (go_loud (at_builtin;refine Zq _ rfl (.tmp 30) (.tmp 33) 24 rfl w.heap.size 71 i0 _ 1 4 Try.underlying24 hi hz0 hz1 hz2 rfl (by omega) _ i (o.map limb) rfl (by have:=hol.out;subst this;exact hown.1.alloc _) _ _ 1 1 _ rfl (Za6 _ _ _) (by simp [Value.oneCell']) (by simp only [maxLen];omega) (by omega) (by have:=hB.size;simp;omega) ?_;intro v1 w1 hown1 hg1 hat1));have hown2 : OwnL 71 w1 w.heap.size v1 (o ++ [cy]):=OwnL.snoc (s:=cy) hol.out.symm hown1 hown.2 (by omega) hcy2;have hB1:=(hB.alloc hB.size _).grown hg1 (by have:=hB.size;simp;omega) hown.row_ge;go_ret;refine ⟨v1,_,rfl,hown2,by rw [List.length_append,hol.out];rfl,?_,hB1⟩;rw [Zdo,hol.out,hI.out,Z1 (by rw [hlen.out];exact Nat.le_refl _)]
def RShortR (w : World) (g n D : Nat) (l : List Nat) (k r : Nat) (wr : World) : Prop:=
 ∃ o : List Nat,Blk wr g 71 (Zt o) /\ o.length = n /\ Lt32 o /\ r < D /\ val (o.drop k) * D + r = val (l.drop k) /\ Below w.heap.size w wr
theorem Zo1 (A : Option Addr) (n c d : Nat) (l : List Nat) (w : World) (hl : Lim w A n c l) (hd0 : 0 < d) (hd : d < 4294967296) (hn9 : n <= 1000000) :
    Calls Try.prog 85 #[.slice A n c,limb d] w (Zmm w (val l) d):=by
 obtain ⟨i0,hi,hz0,hz1,hz2⟩:=info_parts Zcl;have hmk:=Zfj (P:=Try.prog) 24 71 Try.underlying24 hi hz0 hz1 hz2 (n : Int) n rfl (by omega);have hnc:=hl.2.1;have hcm:=hl.2.2.1;unfold maxLen at hcm;have hlen:=Zb hl.len
 have hdz : ((d : Int) == 0) = false:=by simp;omega
 have hdz' : (d : Int) ≠ 0:=by omega
 go_enter Try.func85,Try.ntmps85;go_wp2_with fail
 go_loopw [8,7] (fun iv rv wr=>∃ k r : Nat,k <= n /\ iv = .int .i64 ((k : Int) - 1) /\ rv = .int .u64 r /\ RShortR w w.heap.size n d l k r wr) (fun iv _ _=>(intOf iv + 1).toNat)
 case atStart=>exact ⟨n,0,Nat.le_refl _,rfl,rfl,List.replicate n 0,Blk.new _ _ _,by simp,Lt32.replicate _,hd0,by rw [List.drop_of_length_le (by simp),List.drop_of_length_le (by rw [hlen.out];exact Nat.le_refl _)];simp [val],(Below.refl _ _).alloc (Nat.le_refl _) _⟩
 case round =>
  obtain ⟨k,r,hk,rfl,rfl,o,hblk,hol,hot,hr,hI,hB⟩:=hrel;replace hol:=Zb hol;replace hI:=Zb hI
  rcases k with _ | k
  ·have hI2:=hI.out
   rw [List.drop_zero,List.drop_zero] at hI2;obtain ⟨e1,e2⟩:=Zml (U:=val l) (V:=d) (q:=val o) (R:=r) (by omega) hr;have hLo:=Lim.of_blk hblk hot (by rw [hol.out];unfold maxLen;omega);rw [hol.out] at hLo
   have hr32 : r < 4294967296:=by omega
   have hrm : ((r : Int)) % 4294967296 = (r : Int):=by omega
   replace e1:=Zb e1;replace e2:=Zb e2;clear hI2;go_wp2_with fail;refine (Zdc _ _ _ _ _ hLo (by omega)).mono ?_;rintro e w2 ⟨A2,n2,c2,l2,rfl,hL2,rfl,hb2⟩
   have hLr : ∀ t,Lim (w2.alloc (.cells #[limb r] t)) (some ⟨w2.heap.size,0,none⟩) 1 1 [r]:=fun t=>by
    have:=Lim.of_blk (l:=[r]) (Blk.new w2 t (Zt [r])) (Lt32.cons hr32 Lt32.nil) (by simp [maxLen]);exact this
   replace hLr:=Zb hLr;go_wp2_with fail;refine (Zdc _ _ _ _ _ (hLr.out _) (by omega)).mono ?_;rintro e w3 ⟨A3,n3,c3,l3,rfl,hL3,hl3,hb3⟩;have hb3' : Below w2.heap.size w2 w3:=((Below.refl w2.heap.size w2).alloc (Nat.le_refl _) _).trans (hb3.mono (by simp));replace hl3:=Zb hl3;go_wp2_with fail
   go_ret2
   refine ⟨_,_,_,_,_,_,rfl,by rw [<- e1.out];exact hL2.below hb3',?_,(hB.trans (hb2.mono hB.size)).trans (hb3'.mono (Nat.le_trans hB.size hb2.size))⟩;have:=hl3.out;rw [show val [r] = r by simp [val]] at this;rw [<- e2.out,<- this];exact hL3
  ·obtain ⟨b,of,rfl,hcell⟩:=(hl.below hB).at_ (k:=k) (by omega)
   have hx:=hl.lt.get k;have hcg:=hblk.cell k;rw [Zab o k (by rw [hol.out];omega)] at hcg;have hfg:=hblk.frozen k
   have hrb : r * 4294967296 + l[k]?.getD 0 < 18446744073709551616:=by omega
   go_wp2_with fail;obtain ⟨x,hxe⟩ : ∃ x,l[k]?.getD 0 = x:=⟨_,rfl⟩;rw [hxe] at hx hrb ⊢
   have e1 : ((r : Int) * 4294967296 + (x : Int)) / (d : Int) % 4294967296 = (((r * 4294967296 + x) / d : Nat) : Int):=by
    have : (r * 4294967296 + x) / d < 4294967296:=by
     rw [Nat.div_lt_iff_lt_mul hd0];have:=Nat.mul_le_mul_left 4294967296 (show r + 1 <= d by omega);omega
    rw [show ((r : Int) * 4294967296 + (x : Int)) / (d : Int) = (((r * 4294967296 + x) / d : Nat) : Int) by simp]
    generalize (r * 4294967296 + x) / d = z at *
    omega
   have e2 : ((r : Int) * 4294967296 + (x : Int)) % (d : Int) = (((r * 4294967296 + x) % d : Nat) : Int):=by simp
   have hq : (r * 4294967296 + x) / d < 4294967296:=by
    rw [Nat.div_lt_iff_lt_mul hd0];have:=Nat.mul_le_mul_left 4294967296 (show r + 1 <= d by omega);omega
   have hr' : (r * 4294967296 + x) % d < d:=Nat.mod_lt _ hd0
   have he : (r * 4294967296 + x) / d * d + (r * 4294967296 + x) % d = r * 4294967296 + x:=by rw [Nat.mul_comm];exact Nat.div_add_mod _ _
   rw [e1,e2]
   generalize (r * 4294967296 + x) / d = q at *
   generalize (r * 4294967296 + x) % d = r' at *
   refine ⟨⟨k,r',by omega,rfl,rfl,o.set k q,by rw [<- Za8];exact hblk.set_ _ _,by rw [List.length_set];exact hol.out,hot.set _ hq,hr',?_,hB.setCell (p:=⟨w.heap.size,k,none⟩) (Nat.le_refl _) _⟩,by simp [intOf] <;> omega⟩;exact Zk7 (by rw [hol.out];omega) (by rw [hlen.out];omega) hI.out (by rw [hxe];exact he)
end Go.Proofs.Ythappeninglakaa
