/- Package frac: Floor. Package wide: left, by any number of -/
import Derived.Deep.LoopGhost
import Derived.Test.YtpehacgjclkhmaaGreatZy43
set_option maxRecDepth 100000
set_option maxHeartbeats 8000000
set_option linter.unusedSimpArgs false
set_option linter.unusedVariables false
namespace Go.Proofs.YtpehacgjclkhmaaGreat
open Go.RowKit
attribute [local go_sem] Zg
theorem Zow (na nb : Bool) (A B : Option Addr) (n c m d : Nat) (x : Rat) (w : World) (hx : Fr w na A n c nb B m d x) (hs : Sm x) :
    Calls Tryz.prog 80 #[.agg #[.bool na,.slice A n c,.bool nb,.slice B m d]] w (NumE w (Int.fdiv x.num x.den)):=by
 obtain ⟨W0,hW0,hB0,⟨q0,q1,q2⟩,s0⟩:=Zcp w 29 #[.bool na,.slice A n c,.bool nb,.slice B m d] 27 #[.bool false,.slice none 0 0] 30 #[.int .i64 0];have hX:=Za (hx.below hB0)
 have hmx : Tryz.prog.follows .mixedOrders = true:=by kernel_rfl
 clear hx hs;replace hW0:=Za hW0;obtain ⟨a0,a1,a2,a3,-⟩:=q0.four;have hq:=Za (And.intro q0 (And.intro q1 q2));clear q0 q1 q2
 go_enter_defers Tryz.func80,Tryz.ntmps80
 have hW0':=hW0.out;go_wp2_with fail;clear hW0 hW0';refine (Zbr na nb A B n c m d x W0 hX.out).mono ?_;rintro e w1 ⟨rfl,hb1⟩;have hB1 : Below w.heap.size w w1:=hB0.trans (hb1.mono hB0.size);have s1 : W0.heap.size <= w1.heap.size:=hb1.size;replace hX:=Za (hX.out.below hb1);obtain ⟨q0,q1,q2⟩:=hq.out;replace q0:=Zc hb1 q0;replace q1:=Zc hb1 q1;replace q2:=Zc hb1 q2;clear hq hb1 hB0 a0 a1 a2 a3;obtain ⟨a0,a1,a2,a3,-⟩:=q0.four;have hq:=Za (And.intro q0 (And.intro q1 q2));clear q0 q1 q2;go_wp2_with fail;refine (Zcc w1).mono ?_;rintro e w1 ⟨rfl,rfl⟩;go_wp2_with fail;refine (Zcw na nb A B n c m d x.num x.den w1 hX.out.1 hX.out.2 (by have:=x.den_pos;omega)).mono ?_;rintro e w2 ⟨hb2,nq,Aq,kq,cq,nr,Ar,kr,cr,rfl,hQ,hR⟩;have hB2 : Below w.heap.size w w2:=hB1.trans (hb2.mono hB1.size);have s2 : w1.heap.size <= w2.heap.size:=hb2.size;replace hX:=Za (hX.out.below hb2);obtain ⟨q0,q1,q2⟩:=hq.out;replace q0:=((Zc hb2 q0).alloc (.cells #[.bool nq,.slice Aq kq cq] 27)).alloc (.cells #[.bool nr,.slice Ar kr cr] 27);replace q1:=((Zc hb2 q1).alloc (.cells #[.bool nq,.slice Aq kq cq] 27)).alloc (.cells #[.bool nr,.slice Ar kr cr] 27);replace q2:=((Zc hb2 q2).alloc (.cells #[.bool nq,.slice Aq kq cq] 27)).alloc (.cells #[.bool nr,.slice Ar kr cr] 27);have q4 : Blk ((w2.alloc (.cells #[.bool nq,.slice Aq kq cq] 27)).alloc (.cells #[.bool nr,.slice Ar kr cr] 27)) w2.heap.size 27 #[.bool nq,.slice Aq kq cq]:=(Blk.new w2 _ _).alloc _
 have q5 : Blk ((w2.alloc (.cells #[.bool nq,.slice Aq kq cq] 27)).alloc (.cells #[.bool nr,.slice Ar kr cr] 27)) (w2.heap.size + 1) 27 #[.bool nr,.slice Ar kr cr]:=by
  have:=Blk.new (w2.alloc (.cells #[.bool nq,.slice Aq kq cq] 27)) 27 #[.bool nr,.slice Ar kr cr];simp only [World.size_alloc] at this;exact this
 have hB3 : Below w.heap.size w ((w2.alloc (.cells #[.bool nq,.slice Aq kq cq] 27)).alloc (.cells #[.bool nr,.slice Ar kr cr] 27)):=(hB2.alloc hB2.size _).alloc (by have:=hB2.size;simp;omega) _;have hX3:=(hX.out.alloc (.cells #[.bool nq,.slice Aq kq cq] 27)).alloc (.cells #[.bool nr,.slice Ar kr cr] 27);have hQ3:=(hQ.alloc (.cells #[.bool nq,.slice Aq kq cq] 27)).alloc (.cells #[.bool nr,.slice Ar kr cr] 27);have hR3:=(hR.alloc (.cells #[.bool nq,.slice Aq kq cq] 27)).alloc (.cells #[.bool nr,.slice Ar kr cr] 27);have e1:=q2.frozen 0;have e0:=q2.cell 0;simp only [List.getElem?_toArray,List.getElem?_cons_zero] at e0;have hs2:=hB2.size;clear hq hb2 hB1 a0 a1 a2 a3 hQ hR hX;have hX:=Za hX3;have hQ:=Za hQ3;have hR:=Za hR3;have hq:=Za (And.intro q0 (And.intro q1 (And.intro q2 (And.intro q4 q5))));clear q0 q1 q2 q4 q5 hX3 hQ3 hR3;replace hB3:=Za hB3;go_wp2_with fail;obtain ⟨q0,q1,q2,q4,q5⟩:=hq.out;obtain ⟨W5,hW5,hB5,q2',kW,kB,s5⟩:=Za3 0 hB3.out (by omega) q2;replace q0:=kB _ _ _ (by omega) q0;replace q1:=kB _ _ _ (by omega) q1;replace q4:=kB _ _ _ (by omega) q4;replace q5:=kB _ _ _ (by omega) q5;replace hX : Hid (Fr W5 na A n c nb B m d x):=Za ⟨kW _ _ _ _ _ hX.out.1,kW _ _ _ _ _ hX.out.2⟩;replace hQ:=Za (kW _ _ _ _ _ hQ.out);replace hR:=Za (kW _ _ _ _ _ hR.out);rw [hW5];clear hq hB3 q2 kW kB hW5 e0 e1 q5 hR hX;obtain ⟨c0,c1,-⟩:=q4.two;obtain ⟨x0,x1,f0,f1⟩:=q1.two;have e0:=q2'.cell 0;have e1:=q2'.frozen 0;simp only [List.getElem?_toArray,List.getElem?_cons_zero] at e0
 have hq:=Za (And.intro q1 (And.intro q2' q4));clear q0 q1 q2' q4;replace hB5:=Za hB5;refine Zaa [] (fun wx=>wx.cell? ⟨w2.heap.size,0,none⟩ = some (.bool nq) /\ wx.cell? ⟨w2.heap.size,1,none⟩ = some (.slice Aq kq cq) /\ wx.cell? ⟨w.heap.size + 1 + 1,0,none⟩ = some (.int .i64 0)) hmx ⟨c0,c1,e0⟩ (fun _=>?_);refine Zrd 2 [0,1] rfl (by kernel_rfl) ⟨c0,c1,e0⟩ ?_
 iterate 2 (refine tk1 (v:=?_) rfl (Or.inl ⟨by kernel_rfl,?_⟩) ?_;rotate_left;(· intro W2 hSw;(try dsimp only at hSw);go_simp;try with_reducible rfl);try simp only [Act.put,putL_a,putL_z,putL_s,putG_a,putG_s,putG_z])
 refine tk0 ?_;obtain ⟨u1,u2,u4⟩:=hq.out;obtain ⟨Wa,hWa,hBa,qa,kW,kB,sa⟩:=Zax nq Aq kq cq hB5.out (by omega) u1;replace u2:=kB _ _ _ (by omega) u2;replace u4:=kB _ _ _ (by omega) u4;have HZ:=kW _ _ _ _ _ hQ.out;have g0:=u2.cell 0;have g1:=u2.frozen 0;simp only [List.getElem?_toArray,List.getElem?_cons_zero] at g0;obtain ⟨v0,v1,-⟩:=u4.two;refine Ze (i:=2) rfl (by kernel_rfl) (fun K hK=>?_);go_simp;(try rw [hWa]);refine hK.out _ _ (fun _=>⟨v0,v1,g0⟩) ?_;clear hK K
 try simp only [Act.put,putL_a,putL_z,putL_s,putG_a,putG_s,putG_z]
 obtain ⟨Wb,hWb,hBb,qb,kW2,kB2,sb⟩:=Za3 0 hBa (by omega) u2;replace qa:=kB2 _ _ _ (by omega) qa;replace HZ:=kW2 _ _ _ _ _ HZ;replace u4:=kB2 _ _ _ (by omega) u4;obtain ⟨z0,z1,-⟩:=u4.two;have z2:=qb.cell 0;simp only [List.getElem?_toArray,List.getElem?_cons_zero] at z2;refine Ze (i:=3) rfl (by kernel_rfl) (fun K hK=>?_);go_simp;(try rw [hWb]);refine hK.out _ _ (fun _=>⟨z0,z1,z2⟩) ?_;clear hK K
 try simp only [Act.put,putL_a,putL_z,putL_s,putG_a,putG_s,putG_z]
 refine Zl (by kernel_rfl) ?_ _;refine OnlyNormal.normal ?_;obtain ⟨y0,y1,-⟩:=qa.two;have y4:=qb.cell 0;simp only [List.getElem?_toArray,List.getElem?_cons_zero] at y4;replace HZ:=Za HZ;replace hBb:=Za hBb;clear hBa kW kB kW2 kB2 u1 u2 hWa hWb x0 x1 f0 f1 e0 e1 g0 g1 c0 c1 hq;go_wp2_with fail;refine leaves_cons (f:=128) (args:=#[.pointer (some ⟨w.heap.size + 1 + 1,0,none⟩)]) (by simp) (by simp [go_sem]) ?_;refine (Za9 _ _).mono ?_;rintro e u' w'' ⟨rfl,rfl,rfl⟩;refine ⟨.tuple #[.agg #[.bool nq,.slice Aq kq cq],.int .i64 0],by simp [results,Tryz.results80,go_sem,y0,y1,y4],?_⟩;exact ⟨Zi hBb.out 1,_,_,_,_,rfl,HZ.out⟩
theorem Zj1 (q : Nat) : pw q = 2 ^ (32 * q):=by
 induction q with
 | zero=>rw [Zb0]
 | succ q ih=>rw [Z8,ih,show 32 * (q + 1) = 32 * q + 32 by omega,Nat.pow_add,Nat.mul_comm]
theorem Zn8 (q : Nat) : val (List.replicate q 0) = 0:=by
 induction q with
 | zero=>rfl
 | succ q ih=>rw [List.replicate_succ];simp [val,ih]
theorem Zmo (q : Nat) : Lt32 (List.replicate q 0):=fun x hx=>by
 rw [List.eq_of_mem_replicate hx];decide
def LeftQ (w : World) (q s : Nat) (l : List Nat) (i cy : Nat) (v : Value) (wr : World) : Prop:=
 ∃ o,OwnL 154 wr w.heap.size v o /\ o.length = q + i /\ cy < 2 ^ s /\ val o + pw (q + i) * cy = pw q * (2 ^ s * val (l.take i)) /\ Below w.heap.size w wr
theorem Zon (A : Option Addr) (n c k : Nat) (l : List Nat) (w : World) (h : Lim w A n c l) (hk : k <= 1000000) (hn9 : n <= 1000000) :
    Calls Tryz.prog 133 #[.slice A n c,.int .i64 k] w (fun e w'=>∃ v o,e = .returned v /\ OwnL 154 w' w.heap.size v o /\ val o = 2 ^ k * val l /\ Below w.heap.size w w'):=by
 obtain ⟨q,hq⟩ : ∃ q,k / 32 = q:=⟨_,rfl⟩;obtain ⟨s,hsk⟩ : ∃ s,k % 32 = s:=⟨_,rfl⟩
 have hs : s < 32:=by omega
 have hq9 : q <= 1000000:=by omega
 have hpk : 2 ^ k = pw q * 2 ^ s:=by
  have e : k = 32 * q + s:=by omega
  rw [e,Nat.pow_add,Zj1]
 obtain ⟨i0,hi,hz0,hz1,hz2⟩:=info_parts Zbt;have hnc:=h.2.1;have hcm:=h.2.2.1;unfold maxLen at hcm
 have hmc : madeCells (Value.int .u32 0).cells ((q + n + 1) * 1) = Zk (List.replicate (q + n + 1) 0):=by
  rw [Nat.mul_one]
  apply Array.toList_inj.1
  rw [show (Value.int .u32 0).cells = #[.int .u32 0] from rfl,toList_madeCells_one]
  simp [Zk,limb]
 have hmk : ∀ W : World,(Instr.makeSlice 25 (.int .i64 (q : Int)) (.int .i64 ((q : Int) + (n : Int) + 1))).run Tryz.prog W = .ok (.slice (some ⟨W.heap.size,0,none⟩) q (q + n + 1)) (W.alloc (.cells (Zk (List.replicate (q + n + 1) 0)) 154)):=fun W=>by
  have hr:=run_make (P:=Tryz.prog) W 25 154 i0 _ Tryz.underlying25 hi hz0 .i64 .i64 (q : Int) ((q : Int) + (n : Int) + 1) (by omega) (by omega) (by rw [hz2];omega) (by omega);rw [hr,hz1];rw [show ((q : Int) + (n : Int) + 1).toNat = q + n + 1 by omega,hmc]
  rfl
 have hO : OwnL 154 (w.alloc (.cells (Zk (List.replicate (q + n + 1) 0)) 154)) w.heap.size (.slice (some ⟨w.heap.size,0,none⟩) q (q + n + 1)) (List.replicate q 0):=by
  refine ⟨⟨by simp,.inr ⟨w.heap.size,q + n + 1,_,by simp,Nat.le_refl _,heap_alloc_new _ _,by simp;omega,by unfold maxLen;omega,by simp [Zk],?_⟩⟩,Zmo q⟩
  simp [Zk,List.take_replicate,limb]
  omega
 have q3 : ((k : Int) / 32) = (q : Int):=by omega
 have q4 : ((k : Int) % 32) = (s : Int):=by omega
 replace hq:=Za hq;replace hsk:=Za hsk;replace hpk:=Za hpk;replace hmc:=Za hmc;go_enter Tryz.func133,Tryz.ntmps133;go_wp2_with fail
 go_loopw [20,6,5] (fun iv cv ov wr=>∃ i cy : Nat,i <= n /\ iv = .int .i64 i /\ cv = .int .u64 cy /\ LeftQ w q s l i cy ov wr) (fun iv _ _ _=>n - (intOf iv).toNat)
 case atStart=>exact ⟨0,0,Nat.zero_le _,rfl,rfl,_,hO,by simp,Nat.pow_pos (by omega),by rw [Zn8];simp [val],(Below.refl _ _).alloc (Nat.le_refl _) _⟩
 case round =>
  obtain ⟨i,cy,hin,rfl,rfl,o,hown,hol,hcy,hI,hB⟩:=hrel;replace hol:=Za hol;replace hI:=Za hI
  by_cases hi' : i < n
  ·obtain ⟨b,of,rfl,hcell⟩:=(h.below hB).at_ hi'
   have hx:=h.lt.get i;obtain ⟨p,hp⟩ : ∃ p,2 ^ s = p:=⟨_,rfl⟩
   have hpb : p <= 2147483648:=by rw [<- hp];exact Nat.pow_le_pow_right (by omega) (show s <= 31 by omega)
   have hxb : p * l[i]?.getD 0 <= 2147483648 * 4294967295:=Nat.mul_le_mul hpb (by omega)
   have hor : bits .or .u64 (cy : Int) (IntKind.u64.wrap (((l[i]?.getD 0 : Nat) : Int) * 2 ^ s)) = ((cy + p * l[i]?.getD 0 : Nat) : Int):=by
    have e1 : (((l[i]?.getD 0 : Nat) : Int) * 2 ^ s) = ((p * l[i]?.getD 0 : Nat) : Int):=by rw [<- hp];push_cast;rw [Int.mul_comm]
    have hcp : cy < 18446744073709551616:=by omega
    rw [e1,IntKind.wrap_u64,show (((p * l[i]?.getD 0 : Nat) : Int) % 18446744073709551616) = ((p * l[i]?.getD 0 : Nat) : Int) by omega,u64_or_nat _ _ hcp (by omega),<- hp,Zql hcy]
   rw [hp] at hcy;replace hp:=Za hp;have hs0 : Hid (val (l.take (i + 1)) = val (l.take i) + pw i * l[i]?.getD 0):=Zs l i;obtain ⟨x,hxe⟩ : ∃ x,l[i]?.getD 0 = x:=⟨_,rfl⟩;rw [hxe] at hcell hx hxb hor hs0;replace hxe:=Za hxe;obtain ⟨t,ht⟩ : ∃ t,cy + p * x = t:=⟨_,rfl⟩
   have htb : t / 4294967296 < p:=by
    rw [Nat.div_lt_iff_lt_mul (by omega),<- ht]
    have : p * x + p <= p * 4294967296:=by rw [<- Nat.mul_succ];exact Nat.mul_le_mul_left _ (by omega)
    omega
   rw [ht] at hor;replace ht:=Za ht;go_wp2_with (at_builtin;refine Zj _ rfl (.tmp 31) (.tmp 34) 25 rfl w.heap.size 154 i0 _ 1 4 Tryz.underlying25 hi hz0 hz1 hz2 rfl (by omega) _ (q + i) (o.map limb) rfl (by have h9:=hown.1;rw [hol.out] at h9;exact h9.alloc _) _ _ 1 1 _ rfl (Zag _ _ _) (by simp [Value.oneCell']) (by simp only [maxLen];omega) (by omega) (by have:=hB.size;simp;omega) ?_;intro v1 w1 hown1 hg1 hat1);have hown2 : OwnL 154 w1 w.heap.size v1 (o ++ [t % 4294967296]):=OwnL.snoc (s:=t % 4294967296) hol.out.symm hown1 hown.2 (by omega) (Nat.mod_lt _ (by decide));have hB1:=(hB.alloc hB.size _).grown hg1 (by have:=hB.size;simp;omega) hown.row_ge
   go_roundw
   case rel =>
    refine ⟨i + 1,t / 4294967296,by omega,by go_num,by go_num,_,hown2,by rw [List.length_append,hol.out];rfl,by rw [hp.out];exact htb,?_,hB1⟩;rw [Zbv,hol.out,hs0.out,hp.out,Nat.mul_add,Nat.mul_add,<- Nat.add_assoc q i 1,Z8];have h1:=hI.out;rw [hp.out] at h1
    have h2 : pw (q + i) * (t % 4294967296) + 4294967296 * pw (q + i) * (t / 4294967296) = pw (q + i) * t:=by
     rw [Nat.mul_comm 4294967296 (pw (q + i)),Nat.mul_assoc,<- Nat.mul_add,Nat.mod_add_div]
    have h3 : pw q * (p * (pw i * x)) = pw (q + i) * (p * x):=by rw [Zdr,Nat.mul_assoc,Nat.mul_left_comm p]
    rw [h3,<- h1,Nat.add_assoc,h2,<- ht.out,Nat.mul_add];omega
   case measure=>simp [intOf];omega
  ·obtain rfl : i = n:=by omega
   have hlen:=Za h.len;have hcy2 : cy < 4294967296:=Nat.lt_of_lt_of_le hcy (show 2 ^ s <= 4294967296 from Nat.le_trans (Nat.pow_le_pow_right (by decide) (show s <= 32 by omega)) (by decide))
   have hcm : ((cy : Int)) % 4294967296 = (cy : Int):=by omega
   clear h;go_wp2_with (at_builtin;refine Zj _ rfl (.tmp 39) (.tmp 42) 25 rfl w.heap.size 154 i0 _ 1 4 Tryz.underlying25 hi hz0 hz1 hz2 rfl (by omega) _ (q + i) (o.map limb) rfl (by have h9:=hown.1;rw [hol.out] at h9;exact h9.alloc _) _ _ 1 1 _ rfl (Zag _ _ _) (by simp [Value.oneCell']) (by simp only [maxLen];omega) (by omega) (by have:=hB.size;simp;omega) ?_;intro v1 w1 hown1 hg1 hat1);have hown2 : OwnL 154 w1 w.heap.size v1 (o ++ [cy]):=OwnL.snoc (s:=cy) hol.out.symm hown1 hown.2 (by omega) hcy2;have hB1:=(hB.alloc hB.size _).grown hg1 (by have:=hB.size;simp;omega) hown.row_ge;go_ret;refine ⟨v1,_,rfl,hown2,?_,hB1⟩;rw [Zbv,hol.out,hI.out,Zu (by rw [hlen.out];exact Nat.le_refl _),hpk.out,Nat.mul_assoc]
def BitsN (z : Nat) (b : Nat) : Prop:=z < 2 ^ b /\ (b = 0 ↔ z = 0)
theorem Zpi {u k t b : Nat} (hl : (digits u).length = k + 1) (ht : (digits u)[k]?.getD 0 = t) (hb : t < 2 ^ b) (ht0 : 0 < t) : BitsN u (32 * k + b):=by
 have h1:=Zs (digits u) k;rw [Zu (by rw [hl];exact Nat.le_refl _),Zf,ht] at h1
 have h2 : val ((digits u).take k) < pw k:=by
  have h:=Zdc (l:=(digits u).take k) (fun x hx=>Zc6 u x (List.mem_of_mem_take hx));rw [List.length_take,hl,Nat.min_eq_left (by omega)] at h;exact h
 have h3 : u < pw k * 2 ^ b:=by
  have h4 : pw k * (t + 1) <= pw k * 2 ^ b:=Nat.mul_le_mul_left _ hb;rw [Nat.mul_add] at h4;omega
 refine ⟨by rw [Nat.pow_add,<- Zj1];exact h3,⟨fun h=>?_,fun h=>?_⟩⟩
 ·have : b = 0:=by omega
  rw [this] at hb;omega
 ·subst h
  have : (digits 0).length = 0:=by rw [Zy];rfl
  omega
theorem Zpy (neg : Bool) (A : Option Addr) (n c : Nat) (z : Int) (w : World) (hz : Wd w neg A n c z) :
    Calls Tryz.prog 131 #[.agg #[.bool neg,.slice A n c]] w fun e w'=>∃ b : Nat,e = .returned (.tuple #[.int .i64 b,.int .i64 0]) /\ BitsN z.natAbs b /\ b <= 32 * n /\ Below w.heap.size w w':=by
 have hL:=hz.lim;have hn:=hz.2.1;have hlen:=hL.len;have hcm:=hL.2.2.1;unfold maxLen at hcm;obtain ⟨u,hu⟩ : ∃ u,z.natAbs = u:=⟨_,rfl⟩;have hgood : Hid (okW neg (digits z.natAbs) = true):=hz.ok;rw [hu] at hL hlen hgood ⊢;replace hu:=Za hu
 have hW : ∀ X t,WL ((w.alloc X).alloc (.cells #[.bool neg,.slice A n c] t)) (some ⟨w.heap.size + 1,0,none⟩) 1 1 [⟨neg,A,n,c,digits u⟩]:=fun X t=>by
  have:=WL.one (neg:=neg) (hL.alloc X) t;simp only [World.size_alloc] at this;exact this
 have hW:=Za hW
 have hB0 : ∀ X Y : Obj,Below w.heap.size w ((w.alloc X).alloc Y):=fun X Y=>((Below.refl w.heap.size w).alloc (Nat.le_refl _) _).alloc (by simp) _
 have hB0:=Za hB0;replace hlen:=Za hlen;clear hz;go_enter Tryz.func131,Tryz.ntmps131;go_wp2_with fail;refine (Zbe (hW.out _ _) (by have:=hgood.out;simp [WE.ok,this])).mono ?_;rintro e w1 ⟨rfl,hb1⟩;obtain ⟨hc1,hf1⟩:=Zbk hb1;have hB1 : Below w.heap.size w w1:=(hB0.out _ _).trans (hb1.mono (by simp;omega))
 have g0 : w1.cell? ⟨w.heap.size,0,none⟩ = some (.bool neg):=by simp [hc1,go_sem]
 have g1 : w1.cell? ⟨w.heap.size,1,none⟩ = some (.slice A n c):=by simp [hc1,go_sem]
 have hL1:=Za (hL.below hB1);clear hc1 hf1 hB0 hL hb1 hW hgood;replace hB1:=Za hB1
 cases n with
 | zero =>
  have t1 : decide ((((0 : Nat) : Int)) = 0) = true:=by decide
  go_wp2_with fail;go_returns
  have hu0 : u = 0:=by
   rcases Nat.eq_zero_or_pos u with h | h
   ·exact h
   ·have:=length_digits_pos.2 h
    have:=hlen.out;omega
  exact ⟨0,rfl,⟨by rw [hu0];decide,⟨fun _=>hu0,fun _=>rfl⟩⟩,by omega,hB1.out⟩
 | succ k =>
  have t1 : (((k : Int) + 1) == 0) = false:=by simp;omega
  have t1' : decide ((k : Int) + 1 = 0) = false:=decide_eq_false (by omega);obtain ⟨b,of,rfl,hcell⟩:=hL1.out.at_ (show k < k + 1 by omega);have hx:=hL1.out.lt.get k;have htop:=Zcd (v:=u) (by rw [hlen.out];omega);rw [hlen.out,Nat.add_sub_cancel] at htop;obtain ⟨t,ht⟩ : ∃ t,(digits u)[k]?.getD 0 = t:=⟨_,rfl⟩;rw [ht] at hcell hx htop;have hbl:=Zjj t (by omega);have l : Lib.bitLen t <= 32:=Lib.bitLen_le t 32 (by omega) (by omega)
  have HC : Hid (∀ W : World,Calls Tryz.prog 163 #[limb t] W fun e w'=>e = .returned (.int .i64 (Lib.bitLen t : Nat)) /\ w' = W):=fun W=>by
   have:=Zi1 (t : Int) W (by omega) (by omega);rw [show ((t : Int)).toNat = t from rfl] at this;exact this
  have hfin:=Za (Zpi hlen.out ht hbl (by omega));obtain ⟨bl,hbb⟩ : ∃ x,Lib.bitLen t = x:=⟨_,rfl⟩;rw [hbb] at l HC hfin;have hw1 : IntKind.i64.wrap (k : Int) = (k : Int):=IntWalk.i64_in _ (by omega);have hw2 : IntKind.i64.wrap (32 * (k : Int)) = 32 * (k : Int):=IntWalk.i64_in _ (by omega);have hw3 : IntKind.i64.wrap (32 * (k : Int) + (bl : Int)) = 32 * (k : Int) + (bl : Int):=IntWalk.i64_in _ (by omega);clear ht hbb hbl htop hL1;go_wp2_with (refine (HC.out _).mono ?_;rintro e w' ⟨rfl,rfl⟩);go_returns;exact ⟨32 * k + bl,by first | rfl | (push_cast;rfl),hfin.out,by omega,hB1.out⟩
theorem Zid (a : Int) : 0 <= a * a:=by
 rcases Int.lt_or_le a 0 with h | h
 ·have:=Int.mul_nonneg (show 0 <= -a by omega) (show 0 <= -a by omega)
  rw [Int.neg_mul_neg] at this;exact this
 ·exact Int.mul_nonneg h h
theorem Zlo {a b H : Int} (ha : 0 <= a) (h : a + b <= 2 * H) : a * b <= H * H:=by
 have h1 : a * b <= a * (2 * H - a):=Int.mul_le_mul_of_nonneg_left (by omega) ha;have h2:=Zid (H - a)
 have h3 : (H - a) * (H - a) = H * H - a * (2 * H - a):=by grind
 omega
theorem Zn4 {s x : Nat} (hx : 0 < x) : s < ((s / x + x) / 2 + 1) * ((s / x + x) / 2 + 1):=by
 have h1 : s < (s / x + 1) * x:=by
  have:=Nat.lt_mul_div_succ s hx;rw [Nat.mul_comm] at this;exact this
 obtain ⟨q,hq⟩ : ∃ q,s / x = q:=⟨_,rfl⟩;rw [hq] at h1 ⊢;obtain ⟨h,hh⟩ : ∃ h,(q + x) / 2 = h:=⟨_,rfl⟩;rw [hh]
 have h2 : q + x <= 2 * h + 1:=by omega
 have h3:=Zlo (a:=((q + 1 : Nat) : Int)) (b:=(x : Int)) (H:=((h + 1 : Nat) : Int)) (by omega) (by omega)
 have h4 : (q + 1) * x <= (h + 1) * (h + 1):=by exact_mod_cast h3
 omega
theorem Zl8 {s x : Nat} (h : x <= (s / x + x) / 2) : x * x <= s:=by
 have h1 : x <= s / x:=by omega
 have h2:=Nat.div_mul_le_self s x;have h3 : x * x <= s / x * x:=Nat.mul_le_mul_right x h1;omega
def IsRoot (s r : Nat) : Prop:=r * r <= s /\ s < (r + 1) * (r + 1)
theorem IsRoot.unique {s r t : Nat} (h : IsRoot s r) (k : IsRoot s t) : r = t:=by
 obtain ⟨h1,h2⟩:=h;obtain ⟨k1,k2⟩:=k
 rcases Nat.lt_trichotomy r t with h3 | h3 | h3
 ·have : (r + 1) * (r + 1) <= t * t:=Nat.mul_le_mul h3 h3
  omega
 ·exact h3
 ·have : (t + 1) * (t + 1) <= r * r:=Nat.mul_le_mul h3 h3
  omega
theorem Zki {s x : Nat} (hs : s < (x + 1) * (x + 1)) (h : x <= (s / x + x) / 2) : IsRoot s x:=⟨Zl8 h,hs⟩
theorem Zbx {w : World} (t : TypeId) (cs : Array Value) : ∃ W,w.alloc (.cells cs t) = W /\ Blk W w.heap.size t cs /\ Below w.heap.size w W:=
 ⟨_,rfl,Blk.new _ _ _,(Below.refl _ _).alloc (Nat.le_refl _) _⟩
noncomputable def rootN (z : Nat) : Nat:=@dite Nat (∃ r,IsRoot z r) (Classical.propDecidable _) (fun h=>Classical.choose h) (fun _=>0)
theorem Zdd {z r : Nat} (h : IsRoot z r) : rootN z = r:=by
 unfold rootN;rw [@dif_pos _ (Classical.propDecidable _) ⟨r,h⟩];exact (Classical.choose_spec (⟨r,h⟩ : ∃ r,IsRoot z r)).unique h
theorem lim_one {w : World} {g : Nat} {t : TypeId} (h : Blk w g t #[.int .u32 1]) : Lim w (some ⟨g,0,none⟩) 1 1 [1]:=by
 refine ⟨rfl,Nat.le_refl _,by unfold maxLen;omega,fun x hx=>?_,fun _=>⟨g,0,rfl,fun k hk=>?_⟩⟩
 ·rw [List.mem_singleton] at hx;subst hx;decide
 ·obtain rfl : k = 0:=by omega
  exact h.cell 0
theorem Zqe {u b : Nat} (h : u < 2 ^ b) : u < (2 ^ ((b + 1) / 2) + 1) * (2 ^ ((b + 1) / 2) + 1):=by
 have h1 : 2 ^ b <= 2 ^ ((b + 1) / 2 + (b + 1) / 2):=Nat.pow_le_pow_right (by decide) (by omega);rw [Nat.pow_add] at h1;have h2 : 2 ^ ((b + 1) / 2) * 2 ^ ((b + 1) / 2) <= (2 ^ ((b + 1) / 2) + 1) * (2 ^ ((b + 1) / 2) + 1):=Nat.mul_le_mul (by omega) (by omega);omega
theorem Znh {m k : Nat} (h : m <= 32 * k) : 2 ^ m <= pw k:=by
 rw [Zj1];exact Nat.pow_le_pow_right (by decide) h
theorem cmp_geS {a b : Nat} : (0 <= Zbp (a : Int) (b : Int)) ↔ b <= a:=by
 unfold Zbp
 split
 ·constructor <;> intro h <;> omega
 ·split
  ·constructor <;> intro h <;> omega
  ·constructor <;> intro h <;> omega
theorem Zqa (neg : Bool) (A : Option Addr) (n c : Nat) (z : Int) (w : World) (hz : Wd w neg A n c z) (h0 : 0 <= z) :
    Calls Tryz.prog 81 #[.agg #[.bool neg,.slice A n c]] w (NumE w (rootN z.natAbs : Nat)):=by
 have hneg:=hz.1
 obtain rfl : neg = false:=by rw [hneg];exact decide_eq_false (by omega)
 have hn:=hz.2.1;obtain ⟨W0,hW0,hB0,⟨q1,q2⟩,s0⟩:=Zfg w 27 #[.bool false,.slice A n c] 27 #[.bool false,.slice none 0 0];obtain ⟨Y1,hY1,qz,hbY⟩:=Zbx (w:=W0) 27 #[.bool false,.slice A n c];have hzw:=hz;have hgood : Hid (okW false (digits z.natAbs) = true):=hz.ok;have hz0:=Za (hz.below hB0)
 have hWL : Hid (WL Y1 (some ⟨W0.heap.size,0,none⟩) 1 1 [⟨false,A,n,c,digits z.natAbs⟩]):=Za (by
  rw [<- hY1];exact WL.one hz0.out.lim _)
 obtain ⟨gz,hgz⟩ : ∃ g,W0.heap.size = g:=⟨_,rfl⟩;rw [hgz] at hWL;obtain ⟨c10,c11,-⟩:=q1.two;replace q1:=Za (Zc hbY q1);replace q2:=Za (Zc hbY q2);replace hz0:=Za (hz0.out.below hbY);have hBY:=Za (hB0.trans (hbY.mono hB0.size));obtain ⟨d10,d11,-⟩:=q1.out.two;obtain ⟨u,hu⟩ : ∃ u,z.natAbs = u:=⟨_,rfl⟩;rw [hu] at hWL hgood ⊢
 have hzu : z = (u : Int):=by omega
 subst hzu;replace hu:=Za hu;clear hz hzw hneg h0 hbY hB0;replace s0:=Za s0;go_enter Tryz.func81,Tryz.ntmps81;go_wp2_with fail;(try rw [hW0]);(try rw [hgz]);(try rw [hY1]);clear hW0 hY1 hgz qz s0 c10 c11;refine (Zbe hWL.out (by have:=hgood.out;simp [WE.ok,this])).mono ?_;rintro e w1 ⟨rfl,hb1⟩;replace q1:=Za (Zc hb1 q1.out);replace q2:=Za (Zc hb1 q2.out);replace hz0:=Za (hz0.out.below hb1);have hB2:=Za (hBY.out.trans (hb1.mono hBY.out.size));clear hBY;clear hb1 hWL hgood d10 d11;obtain ⟨d10,d11,-⟩:=q1.out.two;go_wp2_with fail;refine (Zpy false A n c u w1 hz0.out).mono ?_;rintro e w3 ⟨b,rfl,hbn,hb32,hb1⟩;replace q1:=Za (Zc hb1 q1.out);replace q2:=Za (Zc hb1 q2.out);replace hz0:=Za (hz0.out.below hb1);have hB4:=Za (hB2.out.trans (hb1.mono hB2.out.size));clear hB2;clear hb1;rw [Int.natAbs_natCast] at hbn;obtain ⟨m,hm⟩ : ∃ m,(b + 1) / 2 = m:=⟨_,rfl⟩
 have hq2 : ((b : Int) + 1) / 2 = (m : Int):=by omega
 have hq2' : ((b : Int) + 1).tdiv 2 = (m : Int):=by rw [Int.tdiv_eq_ediv_of_nonneg (by omega)];omega
 have hbw : IntKind.i64.wrap ((b : Int) + 1) = (b : Int) + 1:=IntWalk.i64_in _ (by omega);have hmw : IntKind.i64.wrap (m : Int) = (m : Int):=IntWalk.i64_in _ (by omega)
 have hm9 : m <= 65536:=by omega
 have hup:=Zqe hbn.1;rw [hm] at hup;have hx9 : 2 ^ m < pw 4096:=Nat.lt_of_le_of_lt (Znh (k:=2048) (by omega)) (Zgi (by decide));have hx0 : 0 < 2 ^ m:=Nat.pow_pos (by decide);obtain ⟨x0,hx⟩ : ∃ x,2 ^ m = x:=⟨_,rfl⟩;rw [hx] at hup hx9 hx0;have hxH:=Za hx;replace hup:=Za hup;replace hx9:=Za hx9;replace hm:=Za hm;clear hx;obtain ⟨g5,hg6⟩ : ∃ g,w3.heap.size = g:=⟨_,rfl⟩;obtain ⟨V7,hV8,q9,hb10⟩:=Zbx (w:=w3) 154 #[.int .u32 1];rw [hg6] at q9;replace q1:=Za (Zc hb10 q1.out);replace q2:=Za (Zc hb10 q2.out);replace hz0:=Za (hz0.out.below hb10);have hB11:=Za (hB4.out.trans (hb10.mono hB4.out.size));clear hB4;clear hb10;replace q9:=Za q9;have hl1:=Za (lim_one q9.out);clear d10 d11;go_wp2_with fail;(try rw [hg6]);(try rw [hV8]);clear hV8;replace hg6:=Za hg6;refine (Zon (some ⟨g5,0,none⟩) 1 1 m [1] V7 hl1.out (by omega) (by decide)).mono ?_;rintro e w12 ⟨v,o,rfl,hO,hvo,hb1⟩;replace q1:=Za (Zc hb1 q1.out);replace q2:=Za (Zc hb1 q2.out);replace hz0:=Za (hz0.out.below hb1);replace q9:=Za (Zc hb1 q9.out);replace hl1:=Za (hl1.out.below hb1);have hB13:=Za (hB11.out.trans (hb1.mono hB11.out.size));clear hB11;clear hb1;obtain ⟨A1,c1,rfl,hLo⟩:=hO.lim
 have hvo2 : val o = x0:=by
  rw [hvo,hxH.out];show x0 * (1 + 4294967296 * 0) = x0;omega
 have hLc:=hLo.canon.1;have hoc:=hLo.2.2.1;have hoc2:=hLo.2.1;unfold maxLen at hoc;rw [hvo2] at hLc;have hLo':=Za hLo;have hLc':=Za hLc;clear hLo hLc hO hvo hl1;go_wp2_with fail;refine (Zcm A1 o.length c1 o w12 hLo'.out).mono ?_;rintro e w9 ⟨rfl,rfl⟩;rw [hvo2];clear hLo';obtain ⟨d10,d11,-⟩:=q1.out.two;have hcx:=hLc'.out.2.1;have hcc:=hLc'.out.2.2.1;unfold maxLen at hcc;clear hq2 hq2' hbw hmw;go_wp2_with fail;have hB9:=hB13
 go_loopg [7,8,9,10,11] x0 (fun x rv v8 v9 v10 v11 wr=>∃ (A' : Option Addr) (c' : Nat),rv = .slice A' (digits x).length c' /\ Hid (Lim wr A' (digits x).length c' (digits x)) /\ 0 < x /\ Hid (u < (x + 1) * (x + 1)) /\ Hid (x < pw 4096) /\ Hid (Below w12.heap.size w12 wr))
 case atStart=>exact ⟨_,_,rfl,hLc',hx0,hup,hx9,Za (Below.refl _ _)⟩
 case round =>
  obtain ⟨wi,rfl⟩ : ∃ x : World,x = wr:=⟨_,rfl⟩;obtain ⟨A',c',rfl,hLx,hxp,hux,hxs,hBi⟩:=hrel;have hxc:=hLx.out.2.1;have hxc2:=hLx.out.2.2.1;unfold maxLen at hxc2;have hxl : (digits gk).length <= 4096:=(Zn _ _).2 hxs.out;have k1:=Za (Zc hBi.out q1.out);have k2:=Za (Zc hBi.out q2.out);have hzi:=Za (hz0.out.below hBi.out);have hBw:=Za (hB9.out.trans (hBi.out.mono hB9.out.size));obtain ⟨d10,d11,-⟩:=k1.out.two;clear hLc' hB9
  cases b with
  | zero =>
   have hu0:=hbn.2.1 rfl;have hr0':=Za (Zdd (z:=u) (r:=0) ⟨by omega,by omega⟩)
   have hbp : decide ((0 : Int) < ((0 : Nat) : Int)) = false:=by decide
   obtain ⟨e0,e1,f0,f1⟩:=k2.out.two;obtain ⟨U,hU,hBU,q3,kW,-,-⟩:=Zax false none 0 0 hBw.out (Nat.le_succ _) k2.out;obtain ⟨r0,r1,-⟩:=q3.two;clear hbn;go_wp2_with fail;(try rw [hU]);refine bodyPost_ret (v:=.tuple #[.agg #[.bool false,.slice none 0 0],.int .i64 0]) (by simp [results,Tryz.results81,go_sem,r0,r1]) rfl ?_;exact ⟨hBU,_,_,_,_,rfl,by rw [hr0'.out];exact Wd.zero _⟩
  | succ b' =>
   have hbp : decide ((0 : Int) < ((b' + 1 : Nat) : Int)) = true:=decide_eq_true (by omega);have hbp' : decide ((0 : Int) < (b' : Int) + 1) = true:=decide_eq_true (by omega);go_wp2_with fail;refine (Zc0 A A' n c _ c' u gk wi (by have h9:=hzi.out.lim;rw [Int.natAbs_natCast] at h9;exact h9) hLx.out (by omega) hxp).mono ?_;rintro e w301 ⟨Aq,nq,cq,Ar,nr,cr,rfl,hQ,-,hb1⟩;replace hBi:=Za (hBi.out.trans (hb1.mono hBi.out.size));replace k1:=Za (Zc hb1 k1.out);replace k2:=Za (Zc hb1 k2.out);replace hzi:=Za (hzi.out.below hb1);replace hLx:=Za (hLx.out.below hb1);have hB302:=Za (hBw.out.trans (hb1.mono hBw.out.size));clear hBw;clear hb1;have hqn:=hQ.len;have hqc:=hQ.2.1;have hqc2:=hQ.2.2.1;unfold maxLen at hqc2
   have hql : nq <= 4096:=by
    rw [<- hqn];have h1 : u / gk <= u:=Nat.div_le_self _ _;have h2:=Zp h1;have h3:=hzi.out.lim.len;rw [Int.natAbs_natCast] at h3;omega
   clear d10 d11;replace hQ:=Za hQ;go_wp2_with fail;refine (Zho Aq A' nq cq _ c' _ _ w301 hQ.out hLx.out (by omega) (by omega)).mono ?_;rintro e w303 ⟨Ap,np,cp,lp,rfl,hLp,⟨hpl,hpv⟩,hb1⟩;replace hBi:=Za (hBi.out.trans (hb1.mono hBi.out.size));replace k1:=Za (Zc hb1 k1.out);replace k2:=Za (Zc hb1 k2.out);replace hzi:=Za (hzi.out.below hb1);replace hLx:=Za (hLx.out.below hb1);replace hQ:=Za (hQ.out.below hb1);have hB304:=Za (hB302.out.trans (hb1.mono hB302.out.size));clear hB302;clear hb1;rw [Zf,Zf] at hpv;have hpc:=hLp.2.1;have hpc2:=hLp.2.2.1;unfold maxLen at hpc2
   have hpn : np <= 4097:=by have:=hLp.len;omega
   clear hQ;replace hLp:=Za hLp;go_wp2_with fail;refine (Zio Ap np cp 1 lp w303 hLp.out (by decide) (by omega)).mono ?_;rintro e w305 ⟨Ah,nh,ch,oh,bh,rfl,hLh,hhv,hb1⟩;replace hBi:=Za (hBi.out.trans (hb1.mono hBi.out.size));replace k1:=Za (Zc hb1 k1.out);replace k2:=Za (Zc hb1 k2.out);replace hzi:=Za (hzi.out.below hb1);replace hLx:=Za (hLx.out.below hb1);replace hLp:=Za (hLp.out.below hb1);have hB306:=Za (hB304.out.trans (hb1.mono hB304.out.size));clear hB304;clear hb1;rw [hpv] at hhv;have hhc:=hLh.2.1;have hhc2:=hLh.2.2.1;unfold maxLen at hhc2;obtain ⟨y,hy⟩ : ∃ y,(u / gk + gk) / 2 = y:=⟨_,rfl⟩
   have hhy : val oh = y:=by rw [hhv,<- hy]
   have hLc:=hLh.canon.1;rw [hhy] at hLc;have hLh':=Za hLh;have hLc':=Za hLc;replace hy:=Za hy;clear hLh hLc hhv hpv;clear hLp;go_wp2_with fail;refine (Zcm Ah nh ch oh w305 hLh'.out).mono ?_;rintro e w9 ⟨rfl,rfl⟩;rw [hhy];have hyc:=hLc'.out.2.1;have hyc2:=hLc'.out.2.2.1;unfold maxLen at hyc2;clear hLh';go_wp2_with fail;refine (Za5 Ah A' _ ch _ c' _ _ w305 hLc'.out hLx.out).mono ?_;rintro e w307 ⟨rfl,hb1⟩;replace hBi:=Za (hBi.out.trans (hb1.mono hBi.out.size));replace k1:=Za (Zc hb1 k1.out);replace k2:=Za (Zc hb1 k2.out);replace hzi:=Za (hzi.out.below hb1);replace hLx:=Za (hLx.out.below hb1);replace hLc':=Za (hLc'.out.below hb1);have hB308:=Za (hB306.out.trans (hb1.mono hB306.out.size));clear hB306;clear hb1;rw [Zdw]
   by_cases hge : gk <= y
   case pos =>
    have t1 : decide (0 <= Zbp (y : Int) (gk : Int)) = true:=decide_eq_true (cmp_geS.2 hge);have hroot : Hid (rootN u = gk):=Za (Zdd (Zki hux.out (by rw [hy.out];exact hge)));replace hge:=Za hge;obtain ⟨E,hE⟩ : ∃ E,Zbp (y : Int) (gk : Int) = E:=⟨_,rfl⟩;rw [hE] at t1 ⊢;replace hE:=Za hE;go_wp2_with fail;refine (Zas false A' _ c' _ w307 hLx.out).mono ?_;rintro e w309 ⟨hb1,rn,rA,rk,rc,code,rfl,hP⟩;replace hBi:=Za (hBi.out.trans (hb1.mono hBi.out.size));replace k1:=Za (Zc hb1 k1.out);replace k2:=Za (Zc hb1 k2.out);replace hzi:=Za (hzi.out.below hb1);replace hLx:=Za (hLx.out.below hb1);replace hLc':=Za (hLc'.out.below hb1);have hB310:=Za (hB308.out.trans (hb1.mono hB308.out.size));clear hB308;clear hb1;rw [Zf] at hP
    have hs9 : (sg false gk).natAbs < pw 4096:=by show ((gk : Nat) : Int).natAbs < _;rw [Int.natAbs_natCast];exact hxs.out
    have hW9:=hP.small hs9;obtain rfl : code = 0:=hP.code0 hs9;obtain ⟨e0,e1,f0,f1⟩:=k2.out.two;clear hP hs9;obtain ⟨U,hU,hBU,q3,kW,-,-⟩:=Zax rn rA rk rc hB310.out (Nat.le_succ _) k2.out;obtain ⟨r0,r1,-⟩:=q3.two;have hW10:=Za (kW _ _ _ _ _ hW9);clear kW hW9;go_wp2_with fail;(try rw [hU]);refine bodyPost_ret (v:=.tuple #[.agg #[.bool rn,.slice rA rk rc],.int .i64 0]) (by simp [results,Tryz.results81,go_sem,r0,r1]) rfl ?_;exact ⟨hBU,_,_,_,_,rfl,by rw [hroot.out];exact hW10.out⟩
   have t1 : decide (0 <= Zbp (y : Int) (gk : Int)) = false:=decide_eq_false (fun h=>hge (cmp_geS.1 h));have hup2 : Hid (u < (y + 1) * (y + 1)):=Za (by rw [<- hy.out];exact Zn4 hxp)
   have hyp : 0 < y:=by
    rcases Nat.eq_zero_or_pos y with h | h
    ·exfalso
     have h1:=hup2.out;rw [h] at h1
     have h2 : u = 0:=by omega
     have h3:=hbn.2.2 h2;omega
    ·exact h
   have hys : Hid (y < pw 4096):=Za (by have:=hxs.out;omega);obtain ⟨E,hE⟩ : ∃ E,Zbp (y : Int) (gk : Int) = E:=⟨_,rfl⟩;rw [hE] at t1 ⊢;replace hE:=Za hE
   have hlt : y < gk:=by omega
   replace hge:=Za hge;go_wp2_with fail
   go_roundg y
   case measure=>omega
   case rel=>exact ⟨_,_,rfl,hLc',hyp,hup2,hys,hBi⟩
noncomputable def sgR (rs : List RX) (k : Int) : Nat:=rootN (Int.fdiv (Zm (qM rs) k.toNat k.toNat).num (Zm (qM rs) k.toNat k.toNat).den).natAbs
noncomputable def sgE (rs : List RX) (k : Int) : Int:=if Za4 rs k = 0 then (if sgR rs k <= 4611686018427387904 then 0 else 16) else Za4 rs k
noncomputable def sgV (rs : List RX) (k : Int) : Int:=if Za4 rs k = 0 then (if sgR rs k <= 4611686018427387904 then (sgR rs k : Int) else 0) else 0
def SigPost (rs : List RX) (k : Int) (w : World) (e : Ending) (w' : World) : Prop:=
 e = .returned (.tuple #[.int .i64 (sgV rs k),.int .i64 (sgE rs k)]) /\ Below w.heap.size w w'
theorem sg_dir {rs : List RX} {k : Int} (h : Za4 rs k ≠ 0) : sgE rs k = Za4 rs k /\ sgV rs k = 0:=by
 unfold sgE sgV;rw [if_neg h,if_neg h];exact ⟨rfl,rfl⟩
theorem sg_ok {rs : List RX} {k : Int} (h : Za4 rs k = 0) {r : Nat} (e : sgR rs k = r) (hr : r <= 4611686018427387904) : sgE rs k = 0 /\ sgV rs k = r:=by
 subst e;unfold sgE sgV;rw [if_pos h,if_pos h,if_pos hr,if_pos hr];exact ⟨rfl,rfl⟩
theorem Zpq {rs : List RX} {k : Int} (h : Za4 rs k = 0) {r : Nat} (e : sgR rs k = r) (hr : ¬ r <= 4611686018427387904) : sgE rs k = 16 /\ sgV rs k = 0:=by
 subst e;unfold sgE sgV;rw [if_pos h,if_pos h,if_neg hr,if_neg hr];exact ⟨rfl,rfl⟩
theorem Zk9 {x : Rat} (h : 0 < x) : 0 <= Int.fdiv x.num x.den:=by
 have h1 : 0 < x.num:=num_pos0.2 h;have h2:=x.den_pos;rw [Int.fdiv_eq_ediv_of_nonneg _ (by omega)];exact Int.ediv_nonneg (by omega) (by omega)
theorem Znl (A : Option Addr) (n c : Nat) (rs : List RX) (kk : Int) (w : World) (h : MXL w A n c rs) (hF : FacC rs) (hk1 : -9223372036854775808 <= kk) (hk2 : kk <= 9223372036854775807) :
    Calls Tryz.prog 34 #[.slice A n c,.int .i64 kk] w (SigPost rs kk w):=by
 have hnl:=Za h.1;have hnc:=h.2.1;have hcm:=h.2.2.1;unfold maxLen at hcm;have hD:=Za (Zat A n c rs kk w h hF hk1 hk2);have hH:=Za h;clear h hF;go_enter Tryz.func34,Tryz.ntmps34;go_wp2_with fail;refine hD.out.mono ?_;rintro e w1 ⟨hB1,hcase⟩;clear hD
 rcases hcase with ⟨hd0,A2,c2,rfl,hFL⟩ | ⟨hdn,rfl⟩
 case inr =>
  obtain ⟨D,hDD⟩ : ∃ D,Za4 rs kk = D:=⟨_,rfl⟩;have hsg:=Za (sg_dir hdn);rw [hDD] at hdn hsg ⊢
  have t0 : (D == 0) = false:=by simpa using hdn
  have t0' : decide (D = 0) = false:=by simpa using hdn
  have t0'' : (D != 0) = true:=by rw [bne,t0];rfl
  replace hdn:=Za hdn;replace hDD:=Za hDD;go_wp2_with fail;go_returns;exact ⟨by rw [hsg.out.1,hsg.out.2];(try rfl),hB1⟩
 have hfc:=hFL.cap;unfold maxLen at hfc;clear hFL
 have hn6 : n = 6:=by
  rw [<- hnl.out]
  by_cases e0 : Za8 rs = 0
  ·by_cases e6 : rs.length = 6
   ·exact e6
   ·rw [Zf1 e0 e6] at hd0;exact absurd hd0 (by decide)
  ·rw [Zd1 rfl e0] at hd0;exact absurd hd0 e0
 have hc0 : Za8 rs = 0:=by
  by_cases e0 : Za8 rs = 0
  ·exact e0
  ·rw [Zd1 rfl e0] at hd0;exact absurd hd0 e0
 subst hn6
 have hkr : 0 <= kk /\ kk <= 5:=by
  by_cases e1 : 0 <= kk /\ kk <= 5
  ·exact e1
  ·rw [Zek hc0 hnl.out e1] at hd0;exact absurd hd0 (by decide)
 obtain ⟨hcV,hcS,hcP⟩:=Zmj hc0;have hM:=Za ((hcV.good hH.out).below hB1);obtain ⟨k,hkk⟩ : ∃ k : Nat,kk = k:=⟨kk.toNat,by omega⟩;subst hkk
 have hk6 : k < 6:=by omega
 have hrow : ((qM rs)[k]?.getD []).length = 6:=hcV.row hH.out k hk6;have hSm : Sm (Zm (qM rs) k k):=(hcV.small64 hH.out).smC (by decide) k k
 have hdg : 0 < Zm (qM rs) k k:=by
  have h1:=Zf3 (A:=Zm (qM rs)) (n:=rs.length) (fun i k hi hk=>symB_iff.1 hcS i k (by unfold qM;rw [List.length_map];exact hi) (by unfold qM;rw [List.length_map];exact hk)) hcP (by rw [hnl.out];exact hk6) k 0 (by omega);exact h1
 obtain ⟨z,hz⟩ : ∃ z,Int.fdiv (Zm (qM rs) k k).num (Zm (qM rs) k k).den = z:=⟨_,rfl⟩
 have hz0 : 0 <= z:=by rw [<- hz];exact Zk9 hdg
 obtain ⟨r,hr⟩ : ∃ r,rootN z.natAbs = r:=⟨_,rfl⟩
 have hR : sgR rs (k : Int) = r:=by
  rw [<- hr,<- hz];unfold sgR;rw [Int.toNat_natCast]
 obtain ⟨g1,o1,A',n',c',rfl,k0,hRw⟩:=hM.out.at_ hk6
 have hn' : n' = 6:=by rw [<- hRw.len];exact hrow
 subst hn';have hrcap:=hRw.cap;unfold maxLen at hrcap;obtain ⟨g2,o2,xn,xA,xk,xc,xm,xB,xj,xd,rfl,⟨x0,x1,x2,x3⟩,hX⟩:=hRw.at_ hk6;have eX : ((qM rs)[k]?.getD [])[k]?.getD 0 = Zm (qM rs) k k:=rfl;rw [eX] at hX
 have bk6 : (k : Int) < 6:=by omega
 have bk6' : (k : Int) < ((6 : Nat) : Int):=by omega
 replace hX:=Za hX;replace hz:=Za hz;replace hr:=Za hr;replace hR:=Za hR;replace hz0:=Za hz0;replace hd0:=Za hd0;replace hSm:=Za hSm;clear eX hRw hdg hrow hcV hcS hcP hc0 hH hM hkr;go_wp2_with fail;refine (Zow xn xm xA xB xk xc xj xd _ w1 hX.out hSm.out).mono ?_;rintro e w2 ⟨hb2,nq,Aq,kq,cq,rfl,hQ⟩;rw [hz.out] at hQ;have hB2 : Below w.heap.size w w2:=hB1.trans (hb2.mono hB1.size);have hs2:=hB2.size;clear hb2 hX hz x0 x1 x2 x3 k0;obtain ⟨W2,hW2⟩ : ∃ W,w2.alloc (.cells #[.bool nq,.slice Aq kq cq] 27) = W:=⟨_,rfl⟩
 have hB3 : Below w.heap.size w W2:=by rw [<- hW2];exact hB2.alloc hs2 _
 have hQ2 : Wd W2 nq Aq kq cq z:=by rw [<- hW2];exact hQ.alloc _
 have q2 : Blk W2 w2.heap.size 27 #[.bool nq,.slice Aq kq cq]:=by rw [<- hW2];exact Blk.new w2 _ _
 obtain ⟨c0,c1,-⟩:=q2.two;clear q2 hQ;replace hQ2:=Za hQ2;replace hB3:=Za hB3;replace hB2:=Za hB2;go_wp2_with fail;clear hW2;refine (Zqa nq Aq kq cq z W2 hQ2.out hz0.out).mono ?_;rintro e w3 ⟨hb3,nr,Ar,kr,cr,rfl,hS⟩;rw [hr.out] at hS;have hB4 : Below w.heap.size w w3:=hB3.out.trans (hb3.mono hB3.out.size);clear hb3 hQ2 c0 c1 hB3 hB2;have hs3:=hB4.size;obtain ⟨W4,hW4⟩ : ∃ W,w3.alloc (.cells #[.bool nr,.slice Ar kr cr] 27) = W:=⟨_,rfl⟩
 have hB5 : Below w.heap.size w W4:=by rw [<- hW4];exact hB4.alloc hs3 _
 have hS2 : Wd W4 nr Ar kr cr (r : Nat):=by rw [<- hW4];exact hS.alloc _
 have q2 : Blk W4 w3.heap.size 27 #[.bool nr,.slice Ar kr cr]:=by rw [<- hW4];exact Blk.new w3 _ _
 obtain ⟨c0,c1,-⟩:=q2.two;clear q2 hS;replace hS2:=Za hS2;replace hB5:=Za hB5;replace hB4:=Za hB4;go_wp2_with fail;clear hW4;refine (Znr nr Ar kr cr _ W4 hS2.out).mono ?_;rintro e w5 ⟨rfl,hb5⟩;have hB6 : Below w.heap.size w w5:=hB5.out.trans (hb5.mono hB5.out.size);clear hb5 hS2 c0 c1 hB4 hB5
 by_cases hfit : r < 9223372036854775808
 case neg =>
  rw [Zei (by omega),Zeg (by omega)];have hsg:=Za (Zpq hd0.out hR.out (by omega));replace hfit:=Za hfit;go_wp2_with fail;go_returns;exact ⟨by rw [hsg.out.1,hsg.out.2];(try rfl),hB6⟩
 rw [Zfp (by omega),Zft (by omega)]
 by_cases hbig : r <= 4611686018427387904
 case neg =>
  have hsg:=Za (Zpq hd0.out hR.out hbig);have t1 : decide (4611686018427387904 < r) = true:=decide_eq_true (by omega);have t2 : decide ((4611686018427387904 : Int) < (r : Int)) = true:=decide_eq_true (by omega);go_wp2_with fail;go_returns;exact ⟨by rw [hsg.out.1,hsg.out.2];(try rfl),hB6⟩
 have hsg:=Za (sg_ok hd0.out hR.out hbig);have t1 : decide (4611686018427387904 < r) = false:=decide_eq_false (by omega);have t2 : decide ((4611686018427387904 : Int) < (r : Int)) = false:=decide_eq_false (by omega);go_wp2_with fail;go_returns;exact ⟨by rw [hsg.out.1,hsg.out.2];(try rfl),hB6⟩
end Go.Proofs.YtpehacgjclkhmaaGreat
