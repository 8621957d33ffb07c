/- Packages wide and reference of wide: Int. Package frac: -/
import Derived.Deep.LoopGhost
import Derived.Test.YtpehacgjclkhmaaGreatZx39
set_option maxRecDepth 100000
set_option maxHeartbeats 8000000
set_option linter.unusedSimpArgs false
set_option linter.unusedVariables false
namespace Go.Proofs.YtpehacgjclkhmaaGreat
open Go.RowKit
attribute [local go_sem] Zg
def Zkt (z : Int) : Bool:=decide (-9223372036854775808 <= z) && decide (z < 9223372036854775808)
def intV (z : Int) : Int:=if Zkt z = true then z else 0
def intE (z : Int) : Int:=if Zkt z = true then 0 else 16
theorem Zid {z : Int} (h : -9223372036854775808 <= z /\ z < 9223372036854775808) : intV z = z:=by unfold intV Zkt;simp [h.1,h.2]
theorem Zif {z : Int} (h : -9223372036854775808 <= z /\ z < 9223372036854775808) : intE z = 0:=by unfold intE Zkt;simp [h.1,h.2]
theorem Zhb {z : Int} (h : ¬ (-9223372036854775808 <= z /\ z < 9223372036854775808)) : intV z = 0:=by
 unfold intV Zkt;rw [if_neg];simpa using h
theorem Zha {z : Int} (h : ¬ (-9223372036854775808 <= z /\ z < 9223372036854775808)) : intE z = 16:=by
 unfold intE Zkt;rw [if_neg];simpa using h
theorem or_shl {x y : Nat} (hx : x < 4294967296) : x ||| y * 4294967296 = x + y * 4294967296:=by
 have h:=Nat.shiftLeft_add_eq_or_of_lt (i:=32) (b:=x) (by omega) y;rw [Nat.shiftLeft_eq] at h;rw [Nat.or_comm,<- h,Nat.add_comm]
theorem Zq7 {u : Nat} (h : (digits u).length <= 2) : u < 18446744073709551616:=by
 have:=(Zm u 2).1 h
 have e : pw 2 = 18446744073709551616:=by decide
 omega
theorem Zou {u : Nat} (h : 2 < (digits u).length) : 18446744073709551616 <= u:=by
 have:=Zdc h
 have e : pw 2 = 18446744073709551616:=by decide
 omega
theorem pw1 : pw 1 = 4294967296:=by decide
theorem pw2 : pw 2 = 18446744073709551616:=by decide
theorem neg64 {u : Nat} (h : u <= 9223372036854775808) (h0 : 0 < u) : wrap64 (IntKind.u64.wrap (-(u : Int))) = -(u : Int):=by
 rw [IntKind.wrap_u64];unfold wrap64;omega
theorem or64 {a b r : Nat} (ha : a < 18446744073709551616) (hb : b < 18446744073709551616) (h : a ||| b = r) (hr : r < 18446744073709551616) : bits .or .u64 (a : Int) (b : Int) = (r : Int):=by
 have h64 : ∀ x : Nat,x < 18446744073709551616 -> (BitVec.ofInt 64 (x : Int)).toNat = x:=fun x hx=>by
  rw [BitVec.ofInt_natCast,BitVec.toNat_ofNat];exact Nat.mod_eq_of_lt hx
 show IntKind.u64.wrap ((BitVec.ofInt 64 (a : Int) ||| BitVec.ofInt 64 (b : Int)).toNat : Int) = _;rw [BitVec.toNat_or,h64 a ha,h64 b hb,h];exact IntWalk.u64_in _ (by omega)
theorem Zsv {a b : Nat} (ha : a < 4294967296) (hb : b < 4294967296) : bits .or .u64 (a : Int) ((b : Int) * 4294967296) = ((a + b * 4294967296 : Nat) : Int):=by
 have e : ((b : Int) * 4294967296) = ((b * 4294967296 : Nat) : Int):=by omega
 rw [e];exact or64 (by omega) (by omega) (or_shl ha) (by omega)
theorem Zps {a : Nat} (ha : a < 4294967296) : bits .or .u64 0 (a : Int) = (a : Int):=or64 (a:=0) (by omega) (by omega) (Nat.zero_or a) (by omega)
theorem limb0 {u : Nat} (h : u < 18446744073709551616) : (digits u)[0]?.getD 0 = u % 4294967296:=by
 by_cases h0 : u = 0
 ·subst h0;rw [Z2];rfl
 ·rw [Za4 h0];rfl
theorem limb1 {u : Nat} (h : u < 18446744073709551616) : (digits u)[1]?.getD 0 = u / 4294967296:=by
 by_cases h0 : u = 0
 ·subst h0;rw [Z2];rfl
 ·rw [Za4 h0]
  by_cases h1 : u / 4294967296 = 0
  ·rw [h1,Z2];rfl
  ·rw [Za4 h1]
   show u / 4294967296 % 4294967296 = _;omega
theorem wInt_ok (neg : Bool) (A : Option Addr) (n c : Nat) (z : Int) (w : World) (hz : Wd w neg A n c z) :
    Calls Tryz.prog 82 #[.agg #[.bool neg,.slice A n c]] w fun e w'=>e = .returned (.tuple #[.int .i64 (intV z),.int .i64 (intE z)]) /\ Below w.heap.size w w':=by
 have hL:=hz.lim;have hn:=hz.2.1;have hneg:=hz.1;have hlen:=hL.len
 have hW : ∀ X t,WL ((w.alloc X).alloc (.cells #[.bool neg,.slice A n c] t)) (some ⟨w.heap.size + 1,0,none⟩) 1 1 [⟨neg,A,n,c,digits z.natAbs⟩]:=fun X t=>by
  have:=WL.one (neg:=neg) (hL.alloc X) t;simp only [World.size_alloc] at this;exact this
 have hW:=Zb hW
 have hB0 : ∀ X Y : Obj,Below w.heap.size w ((w.alloc X).alloc Y):=fun X Y=>((Below.refl w.heap.size w).alloc (Nat.le_refl _) _).alloc (by simp) _
 have hB0:=Zb hB0;have hgood : Hid (okW neg (digits z.natAbs) = true):=hz.ok;replace hneg:=Zb hneg;replace hlen:=Zb hlen;clear hz;go_enter Tryz.func82,Tryz.ntmps82;go_wp2_with fail;refine (Zcf (hW.out _ _) (by have:=hgood.out;simp [WE.ok,this])).mono ?_;rintro e w1 ⟨rfl,hb1⟩;obtain ⟨hc1,hf1⟩:=Zbm hb1
 have hz1 : w.heap.size + 1 < w1.heap.size:=by have:=hb1.size;simp at this;omega
 have hB1 : Below w.heap.size w w1:=(hB0.out _ _).trans (hb1.mono (by simp;omega))
 have g0 : w1.cell? ⟨w.heap.size,0,none⟩ = some (.bool neg):=by simp [hc1,go_sem]
 have g1 : w1.cell? ⟨w.heap.size,1,none⟩ = some (.slice A n c):=by simp [hc1,go_sem]
 have hL1:=Zb (hL.below hB1);clear hc1 hf1 hB0 hL hb1 hW hgood;obtain ⟨u,hu⟩ : ∃ u,z.natAbs = u:=⟨_,rfl⟩;rw [hu] at hL1 hlen;replace hB1:=Zb hB1
 by_cases h2 : 2 < n
 ·have u2 : decide ((2 : Int) < (n : Int)) = true:=decide_eq_true (by omega)
  have hbig : ¬ (-9223372036854775808 <= z /\ z < 9223372036854775808):=by
   have:=Zou (u:=u) (by rw [hlen.out];exact h2);omega
  go_wp2_with fail;go_returns;exact ⟨by rw [Zhb hbig,Zha hbig];rfl,hB1.out⟩
 have u2 : decide ((2 : Int) < (n : Int)) = false:=decide_eq_false (by omega);have hu64 : u < 18446744073709551616:=Zq7 (by rw [hlen.out];omega);go_wp2_with fail
 go_loopg [21,5] n (fun k iv uv wr=>wr = w1 /\ ∃ i : Nat,i + k = n /\ iv = .int .i64 i /\ ∃ X : Nat,uv = .int .u64 X /\ Hid (X = u % pw i))
 case atStart=>exact ⟨rfl,0,by omega,rfl,0,rfl,Zb (by rw [Zci];omega)⟩
 case round =>
  obtain ⟨rfl,i,hik,rfl,X,rfl,hX⟩:=hrel
  cases gk with
  | zero =>
   obtain rfl : i = n:=by omega
   have t1 : decide ((i : Int) < (i : Int)) = false:=by simp
   have hXu : u = X:=by
    have h1:=hX.out;have h2:=Za8 u;rw [hlen.out] at h2;rw [h1,Nat.mod_eq_of_lt h2]
   subst hXu;clear hX
   cases hn2 : neg with
   | true =>
    subst hn2
    have hzn : z = -(u : Int) /\ 0 < u:=by have:=hneg.out;simp at this;omega
    by_cases hle : u <= 9223372036854775808
    ·have v1 : decide ((u : Int) <= 9223372036854775808) = true:=decide_eq_true (by omega)
     have hfit : -9223372036854775808 <= z /\ z < 9223372036854775808:=by omega
     go_wp2_with fail;go_returns;refine ⟨?_,hB1.out⟩;rw [Zid hfit,Zif hfit];rw [hzn.1];exact congrArg (fun x=>Ending.returned (.tuple #[.int .i64 x,.int .i64 0])) (neg64 hle hzn.2)
    ·have v1 : decide ((u : Int) <= 9223372036854775808) = false:=decide_eq_false (by omega)
     have hfit : ¬ (-9223372036854775808 <= z /\ z < 9223372036854775808):=by omega
     go_wp2_with fail;go_returns;exact ⟨by rw [Zhb hfit,Zha hfit];rfl,hB1.out⟩
   | false =>
    subst hn2
    have hzn : z = (u : Int):=by have:=hneg.out;simp at this;omega
    by_cases hle : u < 9223372036854775808
    ·have v1 : decide ((u : Int) < 9223372036854775808) = true:=decide_eq_true (by omega)
     have hfit : -9223372036854775808 <= z /\ z < 9223372036854775808:=by omega
     go_wp2_with fail;go_returns;refine ⟨?_,hB1.out⟩;rw [Zid hfit,Zif hfit];rw [hzn];rfl
    ·have v1 : decide ((u : Int) < 9223372036854775808) = false:=decide_eq_false (by omega)
     have hfit : ¬ (-9223372036854775808 <= z /\ z < 9223372036854775808):=by omega
     go_wp2_with fail;go_returns;exact ⟨by rw [Zhb hfit,Zha hfit];rfl,hB1.out⟩
  | succ gk' =>
   obtain rfl : gk' = n - (i + 1):=by omega
   have t1 : decide ((i : Int) < (n : Int)) = true:=decide_eq_true (by omega)
   have bi : (i : Int) < (n : Int):=by omega
   obtain ⟨g,o,rfl,hcell⟩:=hL1.out.at_ (k:=i) (by omega)
   rcases (show i = 0 \/ i = 1 by omega) with rfl | rfl
   case inl =>
    have hc0 : wr.cell? ⟨g,o,none⟩ = some (.int .u32 ((u % 4294967296 : Nat) : Int)):=by
     have:=hcell;rw [limb0 hu64] at this;exact this
    clear hcell;have hx0 : Hid (X = 0):=Zb (by have:=hX.out;rw [this,Zci];omega);obtain rfl:=hx0.out;have hor : Hid (bits .or .u64 0 (((u % 4294967296 : Nat)) : Int) = ((u % 4294967296 : Nat) : Int)):=Zb (Zps (by omega));go_wp2_with fail
    go_roundg (n - 1)
    case measure=>omega
    case rel=>exact ⟨rfl,1,by omega,by go_num,_,congrArg _ hor.out,Zb (by rw [pw1])⟩
   case inr =>
    have hc0 : wr.cell? ⟨g,o + 1,none⟩ = some (.int .u32 ((u / 4294967296 : Nat) : Int)):=by
     have:=hcell;rw [limb1 hu64] at this;exact this
    clear hcell;obtain ⟨X0,rfl,hx0,hx1⟩ : ∃ X0,X = X0 /\ X0 = u % 4294967296 /\ X0 < 4294967296:=⟨X,rfl,by have:=hX.out;rw [pw1] at this;exact this,by have:=hX.out;rw [pw1] at this;omega⟩;have hor : Hid (bits .or .u64 ((u % 4294967296 : Nat) : Int) (((u / 4294967296 : Nat) : Int) * 4294967296) = ((u % 4294967296 + u / 4294967296 * 4294967296 : Nat) : Int)):=Zb (Zsv (by omega) (by omega));go_wp2_with fail
    go_roundg (n - 2)
    case measure=>omega
    case rel=>exact ⟨rfl,2,by omega,by go_num,_,congrArg _ hor.out,Zb (by rw [pw2];omega)⟩
def Zjh (x : Rat) : Int:=if (x.den : Int) < Int.fmod x.num x.den + Int.fmod x.num x.den \/ (x.den : Int) = Int.fmod x.num x.den + Int.fmod x.num x.den /\ Int.fdiv x.num x.den % 2 = 1 then Int.fdiv x.num x.den + 1 else Int.fdiv x.num x.den
def NumE (w : World) (z : Int) (e : Ending) (w' : World) : Prop:=
 Below w.heap.size w w' /\ ∃ neg A n c,e = .returned (.tuple #[.agg #[.bool neg,.slice A n c],.int .i64 0]) /\ Wd w' neg A n c z
theorem fmod_le {x : Rat} : 0 <= Int.fmod x.num x.den /\ Int.fmod x.num x.den < x.den:=by
 have h:=x.den_pos;rw [Int.fmod_eq_emod_of_nonneg _ (by omega)];exact ⟨Int.emod_nonneg _ (by omega),Int.emod_lt_of_pos _ (by omega)⟩
theorem Zpj {x : Rat} {k : Nat} (h : x.num.natAbs < k) : (Int.fdiv x.num x.den).natAbs <= k:=by
 have h0:=x.den_pos;rw [Int.fdiv_eq_ediv_of_nonneg _ (by omega)]
 have h2 : x.num / (x.den : Int) <= k:=Int.ediv_le_of_le_mul (by omega) (by
  have : (k : Int) * 1 <= (k : Int) * (x.den : Int):=Int.mul_le_mul_of_nonneg_left (by omega) (by omega)
  omega)
 have h3 : -(k : Int) <= x.num / (x.den : Int):=Int.le_ediv_of_mul_le (by omega) (by
  have : (-(k : Int)) * (x.den : Int) <= -(k : Int) * 1:=Int.mul_le_mul_of_nonpos_left (by omega) (by omega)
  omega)
 omega
theorem Zk4 {x : Rat} (h : (x.den : Int) < Int.fmod x.num x.den + Int.fmod x.num x.den \/ (x.den : Int) = Int.fmod x.num x.den + Int.fmod x.num x.den /\ Int.fdiv x.num x.den % 2 = 1) : Zjh x = Int.fdiv x.num x.den + 1:=if_pos h
theorem Zfd {x : Rat} (h : ¬ ((x.den : Int) < Int.fmod x.num x.den + Int.fmod x.num x.den \/ (x.den : Int) = Int.fmod x.num x.den + Int.fmod x.num x.den /\ Int.fdiv x.num x.den % 2 = 1)) : Zjh x = Int.fdiv x.num x.den:=if_neg h
theorem Zt4 {u : Nat} : (digits u)[0]?.getD 0 % 2 = u % 2:=by
 by_cases h0 : u = 0
 ·subst h0;rw [Z2];rfl
 ·rw [Za4 h0]
  show u % 4294967296 % 2 = u % 2;omega
theorem and_one {u : Nat} (hu : u < 4294967296) : bits .and .u32 (u : Int) 1 = ((u % 2 : Nat) : Int):=by
 have h64 : ∀ x : Nat,x < 4294967296 -> (BitVec.ofInt 32 (x : Int)).toNat = x:=fun x hx=>by
  rw [BitVec.ofInt_natCast,BitVec.toNat_ofNat];exact Nat.mod_eq_of_lt hx
 show IntKind.u32.wrap ((BitVec.ofInt 32 (u : Int) &&& BitVec.ofInt 32 ((1 : Nat) : Int)).toNat : Int) = _;rw [BitVec.toNat_and,h64 u hu,h64 1 (by omega),Nat.and_one_is_mod];exact IntWalk.u32_in _ (by omega)
theorem Zrc (na nb : Bool) (A B : Option Addr) (n c m d : Nat) (x : Rat) (w : World) (hx : Fr w na A n c nb B m d x) (hs : Sm x) :
    Calls Tryz.prog 140 #[.agg #[.bool na,.slice A n c,.bool nb,.slice B m d]] w (NumE w (Zjh x)):=by
 obtain ⟨W0,hW0,hB0,⟨q0,q1,q2⟩,s0⟩:=Zbh w 29 #[.bool na,.slice A n c,.bool nb,.slice B m d] 27 #[.bool false,.slice none 0 0] 30 #[.int .i64 0];have hX:=Zb (hx.below hB0)
 have hmx : Tryz.prog.follows .mixedOrders = true:=by kernel_rfl
 have hbig:=Zc7 (a:=1000) (b:=4096) (by decide)
 have hbig2 : pw 1000 + pw 1000 + 2 < pw 4096:=by
  have h1:=Zdv (a:=1001) (b:=4096) (by decide);have h2 : pw 1001 = 4294967296 * pw 1000:=Zak 1000;have h3:=Zdb 1000;omega
 have hrr : Hid ((Int.fmod x.num x.den + Int.fmod x.num x.den).natAbs < pw 4096):=Zb (by have h1:=fmod_le (x:=x);have h2:=hs.2;omega);have hqq : Hid ((Int.fdiv x.num x.den + 1).natAbs < pw 4096):=Zb (by have h1:=Zpj (x:=x) hs.1;omega);clear hx hs hbig hbig2;replace hW0:=Zb hW0;obtain ⟨a0,a1,a2,a3,-⟩:=q0.four;have hq:=Zb (And.intro q0 (And.intro q1 q2));clear q0 q1 q2
 go_enter_defers Tryz.func140,Tryz.ntmps140
 have hW0':=hW0.out;go_wp2_with fail;clear hW0 hW0';refine (Zcq na nb A B n c m d x W0 hX.out).mono ?_;rintro e w1 ⟨rfl,hb1⟩;have hB1 : Below w.heap.size w w1:=hB0.trans (hb1.mono hB0.size);have s1 : W0.heap.size <= w1.heap.size:=hb1.size;replace hX:=Zb (hX.out.below hb1);obtain ⟨q0,q1,q2⟩:=hq.out;replace q0:=Zc hb1 q0;replace q1:=Zc hb1 q1;replace q2:=Zc hb1 q2;clear hq hb1 hB0 a0 a1 a2 a3;obtain ⟨a0,a1,a2,a3,-⟩:=q0.four;have hq:=Zb (And.intro q0 (And.intro q1 q2));clear q0 q1 q2;go_wp2_with fail;refine (Zc5 w1).mono ?_;rintro e w1 ⟨rfl,rfl⟩;go_wp2_with fail;refine (Zd7 na nb A B n c m d x.num x.den w1 hX.out.1 hX.out.2 (by have:=x.den_pos;omega)).mono ?_;rintro e w2 ⟨hb2,nq,Aq,kq,cq,nr,Ar,kr,cr,rfl,hQ,hR⟩;have hB2 : Below w.heap.size w w2:=hB1.trans (hb2.mono hB1.size);have s2 : w1.heap.size <= w2.heap.size:=hb2.size;replace hX:=Zb (hX.out.below hb2);obtain ⟨q0,q1,q2⟩:=hq.out;replace q0:=((Zc hb2 q0).alloc (.cells #[.bool nq,.slice Aq kq cq] 27)).alloc (.cells #[.bool nr,.slice Ar kr cr] 27);replace q1:=((Zc hb2 q1).alloc (.cells #[.bool nq,.slice Aq kq cq] 27)).alloc (.cells #[.bool nr,.slice Ar kr cr] 27);replace q2:=((Zc hb2 q2).alloc (.cells #[.bool nq,.slice Aq kq cq] 27)).alloc (.cells #[.bool nr,.slice Ar kr cr] 27);have q4 : Blk ((w2.alloc (.cells #[.bool nq,.slice Aq kq cq] 27)).alloc (.cells #[.bool nr,.slice Ar kr cr] 27)) w2.heap.size 27 #[.bool nq,.slice Aq kq cq]:=(Blk.new w2 _ _).alloc _
 have q5 : Blk ((w2.alloc (.cells #[.bool nq,.slice Aq kq cq] 27)).alloc (.cells #[.bool nr,.slice Ar kr cr] 27)) (w2.heap.size + 1) 27 #[.bool nr,.slice Ar kr cr]:=by
  have:=Blk.new (w2.alloc (.cells #[.bool nq,.slice Aq kq cq] 27)) 27 #[.bool nr,.slice Ar kr cr];simp only [World.size_alloc] at this;exact this
 have hB3 : Below w.heap.size w ((w2.alloc (.cells #[.bool nq,.slice Aq kq cq] 27)).alloc (.cells #[.bool nr,.slice Ar kr cr] 27)):=(hB2.alloc hB2.size _).alloc (by have:=hB2.size;simp;omega) _;have hX3:=(hX.out.alloc (.cells #[.bool nq,.slice Aq kq cq] 27)).alloc (.cells #[.bool nr,.slice Ar kr cr] 27);have hQ3:=(hQ.alloc (.cells #[.bool nq,.slice Aq kq cq] 27)).alloc (.cells #[.bool nr,.slice Ar kr cr] 27);have hR3:=(hR.alloc (.cells #[.bool nq,.slice Aq kq cq] 27)).alloc (.cells #[.bool nr,.slice Ar kr cr] 27);have e1:=q2.frozen 0;have e0:=q2.cell 0;simp only [List.getElem?_toArray,List.getElem?_cons_zero] at e0;have hs2:=hB2.size;clear hq hb2 hB1 a0 a1 a2 a3 hQ hR hX;have hX:=Zb hX3;have hQ:=Zb hQ3;have hR:=Zb hR3;have hq:=Zb (And.intro q0 (And.intro q1 (And.intro q2 (And.intro q4 q5))));clear q0 q1 q2 q4 q5 hX3 hQ3 hR3;replace hB3:=Zb hB3;go_wp2_with fail;obtain ⟨q0,q1,q2,q4,q5⟩:=hq.out;obtain ⟨W5,hW5,hB5,q2',kW,kB,s5⟩:=Zaz 0 hB3.out (by omega) q2;replace q0:=kB _ _ _ (by omega) q0;replace q1:=kB _ _ _ (by omega) q1;replace q4:=kB _ _ _ (by omega) q4;replace q5:=kB _ _ _ (by omega) q5;replace hX : Hid (Fr W5 na A n c nb B m d x):=Zb ⟨kW _ _ _ _ _ hX.out.1,kW _ _ _ _ _ hX.out.2⟩;replace hQ:=Zb (kW _ _ _ _ _ hQ.out);replace hR:=Zb (kW _ _ _ _ _ hR.out);rw [hW5];clear hq hB3 q2 kW kB hW5 e0 e1;refine (Zc5 W5).mono ?_;rintro e W5 ⟨rfl,rfl⟩;obtain ⟨r0,r1,-⟩:=q5.two;obtain ⟨-,-,r2,r3,-⟩:=q0.four;have hq:=Zb (And.intro q1 (And.intro q2' q4));clear q0 q1 q2' q4 q5
 replace hB5:=Zb hB5;go_wp2_with fail;have hSv : Hid (∀ wx,Below W5.heap.size W5 wx -> wx.cell? ⟨w2.heap.size + 1,0,none⟩ = some (.bool nr) /\ wx.cell? ⟨w2.heap.size + 1,1,none⟩ = some (.slice Ar kr cr) /\ wx.cell? ⟨w.heap.size,2,none⟩ = some (.bool nb) /\ wx.cell? ⟨w.heap.size,3,none⟩ = some (.slice B m d)):=Zb (fun wx hbx=>⟨Za hbx r0,Za hbx r1,Za hbx r2,Za hbx r3⟩);have hr : Below W5.heap.size W5 W5.drew:=Zj (Below.refl _ _) 1;refine wp_heldS [] hmx hSv hr (fun hxs=>?_);refine Zu3 4 [0,1,6,7] rfl (by kernel_rfl) (hSv.out _ hr) ?_
 iterate 4 (refine tk1 (v:=?_) rfl (Or.inl ⟨by kernel_rfl,?_⟩) ?_;rotate_left;(· intro W2 hSw;(try dsimp only at hSw);go_simp;try with_reducible rfl);try simp only [Act.put,putL_a,putL_z,putL_s,putG_a,putG_s,putG_z])
 refine tk0 ?_;refine Ze (i:=2) rfl (by kernel_rfl) (fun K hK=>?_);go_simp;refine (Zl5 nr nr Ar Ar kr cr kr cr _ _ W5.drew (hR.out.below hr) (hR.out.below hr)).mono ?_;rintro e w6 ⟨hb6,np,P,k,q,code,rfl,hRes⟩;have hr6:=hr.trans (hb6.mono hr.size);have hP:=Zb (hRes.small hrr.out);have hcode:=hRes.code0 hrr.out;subst hcode;clear hRes hrr;refine hK.out _ _ (fun _=>hSv.out _ hr6) ?_;clear hK K
 try simp only [Act.put,putL_a,putL_z,putL_s]
 refine Zu3 2 [3,4] rfl (by kernel_rfl) (hSv.out _ hr6) ?_
 iterate 2 (refine tk1 (v:=?_) rfl (Or.inl ⟨by kernel_rfl,?_⟩) ?_;rotate_left;(· intro W2 hSw;(try dsimp only at hSw);go_simp;try with_reducible rfl);try simp only [Act.put,putL_a,putL_z,putL_s,putG_a,putG_s,putG_z])
 refine tk0 ?_;refine Ze (i:=5) rfl (by kernel_rfl) (fun K hK=>?_);go_simp;refine (Zb3 np P k q w6).mono ?_;rintro e w7 ⟨rfl,hb7⟩;have hr7:=hr6.trans (hb7.mono hr6.size);replace hP:=Zb (hP.out.below hb7);refine hK.out _ _ (fun _=>hSv.out _ hr7) ?_;clear hK K
 try simp only [Act.put,putL_a,putL_z,putL_s]
 refine Ze (i:=8) rfl (by kernel_rfl) (fun K hK=>?_);go_simp;refine (Zmp np nb P B k q m d _ _ w7 hP.out (hX.out.2.below hr7)).mono ?_;rintro e w8 ⟨rfl,hb8⟩;have hr8:=hr7.trans (hb8.mono hr7.size);refine hK.out _ _ (fun _=>hSv.out _ hr8) ?_;clear hK K
 try simp only [Act.put,putL_a,putL_z,putL_s]
 refine Zu3 5 [9,10,11,12,13] rfl (by kernel_rfl) (hSv.out _ hr8) ?_
 iterate 5 (refine tk1 (v:=?_) rfl (Or.inl ⟨by kernel_rfl,?_⟩) ?_;rotate_left;(· intro W2 hSw;(try dsimp only at hSw);go_simp;try with_reducible rfl);try simp only [Act.put,putL_a,putL_z,putL_s,putG_a,putG_s,putG_z])
 refine tk0 ?_;refine Zl (by kernel_rfl) ?_ _;refine OnlyNormal.normal ?_;obtain ⟨q1,q2,q4⟩:=hq.out;replace q1:=Zc hr8 q1;replace q2:=Zc hr8 q2;replace q4:=Zc hr8 q4;replace hQ:=Zb (hQ.out.below hr8);have hB8:=hB5.out.trans (hr8.mono hB5.out.size);have s8:=hr8.size;clear hq hr hr6 hr7 hr8 hb6 hb7 hb8 hSv hxs hR hX hP hB5 r0 r1 r2 r3;replace hqq:=hqq
 rcases Int.lt_trichotomy (x.den : Int) (Int.fmod x.num x.den + Int.fmod x.num x.den) with hlt | heq | hgt
 case inl =>
  have hz:=Zk4 (x:=x) (.inl hlt)
  have hc : Zbv (Int.fmod x.num x.den + Int.fmod x.num x.den) (x.den : Int) = 1:=by unfold Zbv;rw [if_neg (by omega),if_pos hlt]
  rw [hc];clear hlt hc;replace hz:=Zb hz;go_wp2_with fail;obtain ⟨c0,c1,-⟩:=q4.two;have hSv : Hid (∀ wx,Below w8.heap.size w8 wx -> wx.cell? ⟨w2.heap.size,0,none⟩ = some (.bool nq) /\ wx.cell? ⟨w2.heap.size,1,none⟩ = some (.slice Aq kq cq)):=Zb (fun wx hbx=>⟨Za hbx c0,Za hbx c1⟩);have hr : Below w8.heap.size w8 w8.drew:=Zj (Below.refl _ _) 1;have hqh:=Zb (And.intro q1 (And.intro q2 q4));have hBh:=Zb hB8;clear q1 q2 q4 hB8 c0 c1;refine wp_heldS [6] hmx hSv hr (fun hxs=>?_);refine Zu3 1 [0] rfl (by kernel_rfl) (hSv.out _ hr) ?_
  (refine tk1 (v:=?_) rfl (Or.inl ⟨by kernel_rfl,?_⟩) ?_;rotate_left;(· intro W2 hSw;(try dsimp only at hSw);go_simp;try with_reducible rfl);try simp only [Act.put,putL_a,putL_z,putL_s,putG_a,putG_s,putG_z])
  refine tk0 ?_;refine Ze (i:=1) rfl (by kernel_rfl) (fun K hK=>?_);go_simp;refine (Zpn w8.drew).mono ?_;rintro e w11 ⟨hb11,n1,A1,k1,c1,rfl,hO⟩;have hr11:=hr.trans (hb11.mono hr.size);replace hO:=Zb hO;refine hK.out _ _ (fun _=>hSv.out _ hr11) ?_;clear hK K
  try simp only [Act.put,putL_a,putL_z,putL_s]
  refine Ze (i:=2) rfl (by kernel_rfl) (fun K hK=>?_);go_simp;refine (Zl5 nq n1 Aq A1 kq cq k1 c1 _ _ w11 (hQ.out.below hr11) hO.out).mono ?_;rintro e w12 ⟨hb12,np,P,k,q,code,rfl,hRes⟩;have hr12:=hr11.trans (hb12.mono hr11.size);have hP:=Zb (hRes.small hqq.out);have hcode:=hRes.code0 hqq.out;subst hcode;clear hRes hqq hO;refine hK.out _ _ (fun _=>hSv.out _ hr12) ?_;clear hK K
  try simp only [Act.put,putL_a,putL_z,putL_s]
  refine Zu3 2 [3,4] rfl (by kernel_rfl) (hSv.out _ hr12) ?_
  iterate 2 (refine tk1 (v:=?_) rfl (Or.inl ⟨by kernel_rfl,?_⟩) ?_;rotate_left;(· intro W2 hSw;(try dsimp only at hSw);go_simp;try with_reducible rfl);try simp only [Act.put,putL_a,putL_z,putL_s,putG_a,putG_s,putG_z])
  refine tk0 ?_;refine Ze (i:=5) rfl (by kernel_rfl) (fun K hK=>?_);go_simp;refine (Zb3 np P k q w12).mono ?_;rintro e w13 ⟨rfl,hb13⟩;have hr13:=hr12.trans (hb13.mono hr12.size);replace hP:=Zb (hP.out.below hb13);obtain ⟨q1,q2,q4⟩:=hqh.out;replace q1:=Zc hr13 q1;replace q2:=Zc hr13 q2;replace q4:=Zc hr13 q4;have hB13:=hBh.out.trans (hr13.mono hBh.out.size);obtain ⟨x0,x1,f0,f1⟩:=q4.two;refine hK.out _ _ (fun _=>hSv.out _ hr13) ?_;clear hK K
  try simp only [Act.put,putL_a,putL_z,putL_s]
  refine Zp (i:=6) rfl (by kernel_rfl) (by kernel_rfl) (fun K hK=>?_);go_simp;obtain ⟨W14,hW14,hB14,q4',kW,kB,s14⟩:=Za0 np P k q hB13 (by omega) q4;rw [hW14];clear hW14 x0 x1 f0 f1;replace q1:=kB _ _ _ (by omega) q1;replace q2:=kB _ _ _ (by omega) q2;replace hP:=Zb (kW _ _ _ _ _ hP.out);have s13:=hr13.size;clear kW kB;refine hK.out _ _ ?_;clear hK K
  try simp only [Act.put,putL_a,putL_z,putL_s]
  refine Zl (by kernel_rfl) ?_ _;refine OnlyNormal.normal ?_;clear hr hr11 hr12 hr13 hb11 hb12 hb13 hSv hxs hqh hBh q4 hB13;obtain ⟨c0,c1,-⟩:=q4'.two;obtain ⟨x0,x1,f0,f1⟩:=q1.two;have e0:=q2.cell 0;have e1:=q2.frozen 0;simp only [List.getElem?_toArray,List.getElem?_cons_zero] at e0;have hBh:=Zb hB14;have hqh:=Zb (And.intro q1 (And.intro q2 q4'));clear q1 q2 q4' hB14;go_wp2_with fail;obtain ⟨u1,u2,u4⟩:=hqh.out;obtain ⟨Wa,hWa,hBa,qa,kW,kB,sa⟩:=Za0 np P k q hBh.out (by omega) u1;replace u2:=kB _ _ _ (by omega) u2;have HZ:=kW _ _ _ _ _ hP.out;rw [hWa];obtain ⟨Wb,hWb,hBb,qb,kW2,kB2,sb⟩:=Zaz 0 hBa (by omega) u2;replace qa:=kB2 _ _ _ (by omega) qa;replace HZ:=kW2 _ _ _ _ _ HZ;rw [hWb];obtain ⟨y0,y1,-⟩:=qa.two;have y4:=qb.cell 0;simp only [List.getElem?_toArray,List.getElem?_cons_zero] at y4;refine leaves_cons (f:=128) (args:=#[.pointer (some ⟨w.heap.size + 1 + 1,0,none⟩)]) (by simp) (by simp [go_sem]) ?_;refine (Zbt _ _).mono ?_;rintro e u' w'' ⟨rfl,rfl,rfl⟩;refine ⟨.tuple #[.agg #[.bool np,.slice P k q],.int .i64 0],by simp [results,Tryz.results140,go_sem,y0,y1,y4],?_⟩;exact ⟨hBb,_,_,_,_,rfl,by rw [hz.out];exact HZ⟩
 case inr.inr =>
  have hz:=Zfd (x:=x) (by omega)
  have hc : Zbv (Int.fmod x.num x.den + Int.fmod x.num x.den) (x.den : Int) = -1:=by unfold Zbv;rw [if_pos hgt]
  rw [hc];clear hgt hc;replace hz:=Zb hz;obtain ⟨c0,c1,-⟩:=q4.two;obtain ⟨x0,x1,f0,f1⟩:=q1.two;have e0:=q2.cell 0;have e1:=q2.frozen 0;simp only [List.getElem?_toArray,List.getElem?_cons_zero] at e0;have hBh:=Zb hB8;have hqh:=Zb (And.intro q1 (And.intro q2 q4));clear q1 q2 q4 hB8;go_wp2_with fail;obtain ⟨u1,u2,u4⟩:=hqh.out;obtain ⟨Wa,hWa,hBa,qa,kW,kB,sa⟩:=Za0 nq Aq kq cq hBh.out (by omega) u1;replace u2:=kB _ _ _ (by omega) u2;have HZ:=kW _ _ _ _ _ hQ.out;rw [hWa];obtain ⟨Wb,hWb,hBb,qb,kW2,kB2,sb⟩:=Zaz 0 hBa (by omega) u2;replace qa:=kB2 _ _ _ (by omega) qa;replace HZ:=kW2 _ _ _ _ _ HZ;rw [hWb];obtain ⟨y0,y1,-⟩:=qa.two;have y4:=qb.cell 0;simp only [List.getElem?_toArray,List.getElem?_cons_zero] at y4;refine leaves_cons (f:=128) (args:=#[.pointer (some ⟨w.heap.size + 1 + 1,0,none⟩)]) (by simp) (by simp [go_sem]) ?_;refine (Zbt _ _).mono ?_;rintro e u' w'' ⟨rfl,rfl,rfl⟩;refine ⟨.tuple #[.agg #[.bool nq,.slice Aq kq cq],.int .i64 0],by simp [results,Tryz.results140,go_sem,y0,y1,y4],?_⟩;exact ⟨hBb,_,_,_,_,rfl,by rw [hz.out];exact HZ⟩
 case inr.inl =>
  have hc : Zbv (Int.fmod x.num x.den + Int.fmod x.num x.den) (x.den : Int) = 0:=by unfold Zbv;rw [if_neg (by omega),if_neg (by omega)]
  rw [hc];replace heq:=Zb heq;clear hc;have hk0:=hQ.out.lim.len;have hkm:=hQ.out.2.1;replace hk0:=Zb hk0;obtain ⟨c0,c1,-⟩:=q4.two;replace hB8:=Zb hB8;have hqy:=Zb (And.intro q1 (And.intro q2 q4));clear q1 q2 q4
  by_cases hk : kq = 0
  case pos =>
   subst hk
   have hq0 : Int.fdiv x.num x.den = 0:=by
    have:=digits_eq_nil.1 (List.length_eq_zero_iff.1 hk0.out);omega
   have hz:=Zfd (x:=x) (by rw [hq0];have:=heq.out;omega);clear hq0 hk0;replace hz:=Zb hz;go_wp2_with fail;refine (Zei nq Aq 0 cq w8 (by omega) true (by decide)).mono ?_;rintro e w9 ⟨rfl,hb9⟩;obtain ⟨q1,q2,q4⟩:=hqy.out;replace q1:=Zc hb9 q1;replace q2:=Zc hb9 q2;replace q4:=Zc hb9 q4;replace hQ:=Zb (hQ.out.below hb9);have hB9:=hB8.out.trans (hb9.mono hB8.out.size);have s9:=hb9.size;clear hqy hB8 c0 c1 hb9;obtain ⟨c0,c1,-⟩:=q4.two;obtain ⟨x0,x1,f0,f1⟩:=q1.two;have e0:=q2.cell 0;have e1:=q2.frozen 0;simp only [List.getElem?_toArray,List.getElem?_cons_zero] at e0;have hBh:=Zb hB9;have hqh:=Zb (And.intro q1 (And.intro q2 q4));clear q1 q2 q4 hB9;go_wp2_with fail;obtain ⟨u1,u2,u4⟩:=hqh.out;obtain ⟨Wa,hWa,hBa,qa,kW,kB,sa⟩:=Za0 nq Aq 0 cq hBh.out (by omega) u1;replace u2:=kB _ _ _ (by omega) u2;have HZ:=kW _ _ _ _ _ hQ.out;rw [hWa];obtain ⟨Wb,hWb,hBb,qb,kW2,kB2,sb⟩:=Zaz 0 hBa (by omega) u2;replace qa:=kB2 _ _ _ (by omega) qa;replace HZ:=kW2 _ _ _ _ _ HZ;rw [hWb];obtain ⟨y0,y1,-⟩:=qa.two;have y4:=qb.cell 0;simp only [List.getElem?_toArray,List.getElem?_cons_zero] at y4;refine leaves_cons (f:=128) (args:=#[.pointer (some ⟨w.heap.size + 1 + 1,0,none⟩)]) (by simp) (by simp [go_sem]) ?_;refine (Zbt _ _).mono ?_;rintro e u' w'' ⟨rfl,rfl,rfl⟩;refine ⟨.tuple #[.agg #[.bool nq,.slice Aq 0 cq],.int .i64 0],by simp [results,Tryz.results140,go_sem,y0,y1,y4],?_⟩;exact ⟨hBb,_,_,_,_,rfl,by rw [hz.out];exact HZ⟩
  case neg =>
   have hkb : ((kq : Int) == 0) = false:=by simp;omega
   obtain ⟨gq,oq,rfl,hcell⟩:=hQ.out.lim.at_ (k:=0) (by omega);go_wp2_with fail;refine (Zei nq _ kq cq w8 (by omega) false hkb).mono ?_;rintro e w9 ⟨rfl,hb9⟩;obtain ⟨q1,q2,q4⟩:=hqy.out;replace q1:=Zc hb9 q1;replace q2:=Zc hb9 q2;replace q4:=Zc hb9 q4;replace hQ:=Zb (hQ.out.below hb9);have hc9 : w9.cell? ⟨gq,oq,none⟩ = some (.int .u32 (((digits (Int.fdiv x.num x.den).natAbs)[0]?.getD 0 : Nat) : Int)):=Za hb9 hcell;have hB9:=Zb (hB8.out.trans (hb9.mono hB8.out.size));have s9:=hb9.size;clear hqy hB8 c0 c1 hb9 hcell;obtain ⟨c0,c1,-⟩:=q4.two
   have bk : (0 : Int) < (kq : Int):=by omega
   obtain ⟨u,hu⟩ : ∃ u,(digits (Int.fdiv x.num x.den).natAbs)[0]?.getD 0 = u:=⟨_,rfl⟩;have hou:=Zt4 (u:=(Int.fdiv x.num x.den).natAbs)
   have hu32 : u < 4294967296:=by rw [<- hu];exact (Zfj _).get _
   rw [hu] at hc9 hou;have hbit : bits .and .u32 (u : Int) 1 = ((u % 2 : Nat) : Int):=and_one hu32;replace hou:=Zb hou;clear hu;have hqy:=Zb (And.intro q1 (And.intro q2 q4));clear q1 q2 q4
   by_cases hodd : u % 2 = 1
   case pos =>
    have hz:=Zk4 (x:=x) (.inr ⟨heq.out,by have:=hou.out;omega⟩);rw [hodd] at hbit;replace hz:=Zb hz;replace hodd:=Zb hodd;obtain ⟨q1,q2,q4⟩:=hqy.out;clear hqy c0 c1;obtain ⟨c0,c1,-⟩:=q4.two;have hB9':=hB9.out;clear hB9;go_wp2_with fail;obtain ⟨c0,c1,-⟩:=q4.two;have hSv : Hid (∀ wx,Below w9.heap.size w9 wx -> wx.cell? ⟨w2.heap.size,0,none⟩ = some (.bool nq) /\ wx.cell? ⟨w2.heap.size,1,none⟩ = some (.slice (some ⟨gq,oq,none⟩) kq cq)):=Zb (fun wx hbx=>⟨Za hbx c0,Za hbx c1⟩);have hr : Below w9.heap.size w9 w9.drew:=Zj (Below.refl _ _) 1;have hqh:=Zb (And.intro q1 (And.intro q2 q4));have hBh:=Zb hB9';clear q1 q2 q4 hB9' c0 c1;refine wp_heldS [6] hmx hSv hr (fun hxs=>?_);refine Zu3 1 [0] rfl (by kernel_rfl) (hSv.out _ hr) ?_
    (refine tk1 (v:=?_) rfl (Or.inl ⟨by kernel_rfl,?_⟩) ?_;rotate_left;(· intro W2 hSw;(try dsimp only at hSw);go_simp;try with_reducible rfl);try simp only [Act.put,putL_a,putL_z,putL_s,putG_a,putG_s,putG_z])
    refine tk0 ?_;refine Ze (i:=1) rfl (by kernel_rfl) (fun K hK=>?_);go_simp;refine (Zpn w9.drew).mono ?_;rintro e w11 ⟨hb11,n1,A1,k1,c1,rfl,hO⟩;have hr11:=hr.trans (hb11.mono hr.size);replace hO:=Zb hO;refine hK.out _ _ (fun _=>hSv.out _ hr11) ?_;clear hK K
    try simp only [Act.put,putL_a,putL_z,putL_s]
    refine Ze (i:=2) rfl (by kernel_rfl) (fun K hK=>?_);go_simp;refine (Zl5 nq n1 (some ⟨gq,oq,none⟩) A1 kq cq k1 c1 _ _ w11 (hQ.out.below hr11) hO.out).mono ?_;rintro e w12 ⟨hb12,np,P,k,q,code,rfl,hRes⟩;have hr12:=hr11.trans (hb12.mono hr11.size);have hP:=Zb (hRes.small hqq.out);have hcode:=hRes.code0 hqq.out;subst hcode;clear hRes hqq hO;refine hK.out _ _ (fun _=>hSv.out _ hr12) ?_;clear hK K
    try simp only [Act.put,putL_a,putL_z,putL_s]
    refine Zu3 2 [3,4] rfl (by kernel_rfl) (hSv.out _ hr12) ?_
    iterate 2 (refine tk1 (v:=?_) rfl (Or.inl ⟨by kernel_rfl,?_⟩) ?_;rotate_left;(· intro W2 hSw;(try dsimp only at hSw);go_simp;try with_reducible rfl);try simp only [Act.put,putL_a,putL_z,putL_s,putG_a,putG_s,putG_z])
    refine tk0 ?_;refine Ze (i:=5) rfl (by kernel_rfl) (fun K hK=>?_);go_simp;refine (Zb3 np P k q w12).mono ?_;rintro e w13 ⟨rfl,hb13⟩;have hr13:=hr12.trans (hb13.mono hr12.size);replace hP:=Zb (hP.out.below hb13);obtain ⟨q1,q2,q4⟩:=hqh.out;replace q1:=Zc hr13 q1;replace q2:=Zc hr13 q2;replace q4:=Zc hr13 q4;have hB13:=hBh.out.trans (hr13.mono hBh.out.size);obtain ⟨x0,x1,f0,f1⟩:=q4.two;refine hK.out _ _ (fun _=>hSv.out _ hr13) ?_;clear hK K
    try simp only [Act.put,putL_a,putL_z,putL_s]
    refine Zp (i:=6) rfl (by kernel_rfl) (by kernel_rfl) (fun K hK=>?_);go_simp;obtain ⟨W14,hW14,hB14,q4',kW,kB,s14⟩:=Za0 np P k q hB13 (by omega) q4;rw [hW14];clear hW14 x0 x1 f0 f1;replace q1:=kB _ _ _ (by omega) q1;replace q2:=kB _ _ _ (by omega) q2;replace hP:=Zb (kW _ _ _ _ _ hP.out);have s13:=hr13.size;clear kW kB;refine hK.out _ _ ?_;clear hK K
    try simp only [Act.put,putL_a,putL_z,putL_s]
    refine Zl (by kernel_rfl) ?_ _;refine OnlyNormal.normal ?_;clear hr hr11 hr12 hr13 hb11 hb12 hb13 hSv hxs hqh hBh q4 hB13;obtain ⟨c0,c1,-⟩:=q4'.two;obtain ⟨x0,x1,f0,f1⟩:=q1.two;have e0:=q2.cell 0;have e1:=q2.frozen 0;simp only [List.getElem?_toArray,List.getElem?_cons_zero] at e0;have hBh:=Zb hB14;have hqh:=Zb (And.intro q1 (And.intro q2 q4'));clear q1 q2 q4' hB14;go_wp2_with fail;obtain ⟨u1,u2,u4⟩:=hqh.out;obtain ⟨Wa,hWa,hBa,qa,kW,kB,sa⟩:=Za0 np P k q hBh.out (by omega) u1;replace u2:=kB _ _ _ (by omega) u2;have HZ:=kW _ _ _ _ _ hP.out;rw [hWa];obtain ⟨Wb,hWb,hBb,qb,kW2,kB2,sb⟩:=Zaz 0 hBa (by omega) u2;replace qa:=kB2 _ _ _ (by omega) qa;replace HZ:=kW2 _ _ _ _ _ HZ;rw [hWb];obtain ⟨y0,y1,-⟩:=qa.two;have y4:=qb.cell 0;simp only [List.getElem?_toArray,List.getElem?_cons_zero] at y4;refine leaves_cons (f:=128) (args:=#[.pointer (some ⟨w.heap.size + 1 + 1,0,none⟩)]) (by simp) (by simp [go_sem]) ?_;refine (Zbt _ _).mono ?_;rintro e u' w'' ⟨rfl,rfl,rfl⟩;refine ⟨.tuple #[.agg #[.bool np,.slice P k q],.int .i64 0],by simp [results,Tryz.results140,go_sem,y0,y1,y4],?_⟩;exact ⟨hBb,_,_,_,_,rfl,by rw [hz.out];exact HZ⟩
   case neg =>
    have hev : u % 2 = 0:=by omega
    have hz:=Zfd (x:=x) (by have h1:=hou.out;have h2:=heq.out;omega);rw [hev] at hbit;replace hz:=Zb hz;replace hodd:=Zb hodd;replace hev:=Zb hev;obtain ⟨q1,q2,q4⟩:=hqy.out;have hB9':=hB9.out;clear hqy hB9 c0 c1;obtain ⟨c0,c1,-⟩:=q4.two;obtain ⟨x0,x1,f0,f1⟩:=q1.two;have e0:=q2.cell 0;have e1:=q2.frozen 0;simp only [List.getElem?_toArray,List.getElem?_cons_zero] at e0;have hBh:=Zb hB9';have hqh:=Zb (And.intro q1 (And.intro q2 q4));clear q1 q2 q4 hB9';go_wp2_with fail;obtain ⟨u1,u2,u4⟩:=hqh.out;obtain ⟨Wa,hWa,hBa,qa,kW,kB,sa⟩:=Za0 nq (some ⟨gq,oq,none⟩) kq cq hBh.out (by omega) u1;replace u2:=kB _ _ _ (by omega) u2;have HZ:=kW _ _ _ _ _ hQ.out;rw [hWa];obtain ⟨Wb,hWb,hBb,qb,kW2,kB2,sb⟩:=Zaz 0 hBa (by omega) u2;replace qa:=kB2 _ _ _ (by omega) qa;replace HZ:=kW2 _ _ _ _ _ HZ;rw [hWb];obtain ⟨y0,y1,-⟩:=qa.two;have y4:=qb.cell 0;simp only [List.getElem?_toArray,List.getElem?_cons_zero] at y4;refine leaves_cons (f:=128) (args:=#[.pointer (some ⟨w.heap.size + 1 + 1,0,none⟩)]) (by simp) (by simp [go_sem]) ?_;refine (Zbt _ _).mono ?_;rintro e u' w'' ⟨rfl,rfl,rfl⟩;refine ⟨.tuple #[.agg #[.bool nq,.slice (some ⟨gq,oq,none⟩) kq cq],.int .i64 0],by simp [results,Tryz.results140,go_sem,y0,y1,y4],?_⟩;exact ⟨hBb,_,_,_,_,rfl,by rw [hz.out];exact HZ⟩
def St.cells (s : St) : Array Value:=#[.int .i64 s.t,.int .i64 s.p0,.int .i64 s.p1,.int .i64 s.p2,.int .i64 s.v0,.int .i64 s.v1,.int .i64 s.v2]
def St.num (s : St) : Nat -> Int
 | 0=>s.p0
 | 1=>s.p1
 | 2=>s.p2
 | 3=>s.v0
 | 4=>s.v1
 | _=>s.v2
def mvS (s : St) (ns : Nat -> Int) (i : Nat) : St:=
 ⟨s.t,if 0 < i then wrap64 (s.p0 + ns 0) else s.p0,if 1 < i then wrap64 (s.p1 + ns 1) else s.p1,if 2 < i then wrap64 (s.p2 + ns 2) else s.p2,if 3 < i then wrap64 (s.v0 + ns 3) else s.v0,if 4 < i then wrap64 (s.v1 + ns 4) else s.v1,if 5 < i then wrap64 (s.v2 + ns 5) else s.v2⟩
theorem mvS_set (s : St) (ns : Nat -> Int) {i : Nat} (h : i < 6) : (mvS s ns i).cells.setIfInBounds (i + 1) (.int .i64 (wrap64 (s.num i + ns i))) = (mvS s ns (i + 1)).cells:=by
 rcases (show i = 0 \/ i = 1 \/ i = 2 \/ i = 3 \/ i = 4 \/ i = 5 by omega) with rfl | rfl | rfl | rfl | rfl | rfl <;> rfl
theorem mvS_get (s : St) (ns : Nat -> Int) {i : Nat} (h : i < 6) : (mvS s ns i).cells[i + 1]? = some (.int .i64 (s.num i)):=by
 rcases (show i = 0 \/ i = 1 \/ i = 2 \/ i = 3 \/ i = 4 \/ i = 5 by omega) with rfl | rfl | rfl | rfl | rfl | rfl <;> rfl
theorem St.noLimb (s : St) : NoLimb s.cells:=fun i x=>by
 unfold St.cells
 rcases i with _ | _ | _ | _ | _ | _ | _ | i <;> simp
theorem Ztd {t : TypeId} {B : Nat} {w0 w : World} {g : Nat} {s0 : St} (s : St) (hB : Below B w0 w) (hs : B <= g) (hb : Blk w g t s0.cells) :
    ∃ W,((((((w.setCell ⟨g,0,none⟩ (.int .i64 s.t)).setCell ⟨g,1,none⟩ (.int .i64 s.p0)).setCell ⟨g,2,none⟩ (.int .i64 s.p1)).setCell ⟨g,3,none⟩ (.int .i64 s.p2)).setCell ⟨g,4,none⟩ (.int .i64 s.v0)).setCell ⟨g,5,none⟩ (.int .i64 s.v1)).setCell ⟨g,6,none⟩ (.int .i64 s.v2) = W /\ Below B w0 W /\ Blk W g t s.cells:=by
 refine ⟨_,rfl,?_,?_⟩
 ·exact ((((((hB.setCell (p:=⟨g,0,none⟩) hs _).setCell (p:=⟨g,1,none⟩) hs _).setCell (p:=⟨g,2,none⟩) hs _).setCell (p:=⟨g,3,none⟩) hs _).setCell (p:=⟨g,4,none⟩) hs _).setCell (p:=⟨g,5,none⟩) hs _).setCell (p:=⟨g,6,none⟩) hs _
 ·have h0 : Blk w g t #[.int .i64 s0.t,.int .i64 s0.p0,.int .i64 s0.p1,.int .i64 s0.p2,.int .i64 s0.v0,.int .i64 s0.v1,.int .i64 s0.v2]:=hb
  have h1 : Blk _ g t #[.int .i64 s.t,.int .i64 s0.p0,.int .i64 s0.p1,.int .i64 s0.p2,.int .i64 s0.v0,.int .i64 s0.v1,.int .i64 s0.v2]:=h0.set_ 0 (.int .i64 s.t);have h2 : Blk _ g t #[.int .i64 s.t,.int .i64 s.p0,.int .i64 s0.p1,.int .i64 s0.p2,.int .i64 s0.v0,.int .i64 s0.v1,.int .i64 s0.v2]:=h1.set_ 1 (.int .i64 s.p0);have h3 : Blk _ g t #[.int .i64 s.t,.int .i64 s.p0,.int .i64 s.p1,.int .i64 s0.p2,.int .i64 s0.v0,.int .i64 s0.v1,.int .i64 s0.v2]:=h2.set_ 2 (.int .i64 s.p1);have h4 : Blk _ g t #[.int .i64 s.t,.int .i64 s.p0,.int .i64 s.p1,.int .i64 s.p2,.int .i64 s0.v0,.int .i64 s0.v1,.int .i64 s0.v2]:=h3.set_ 3 (.int .i64 s.p2);have h5 : Blk _ g t #[.int .i64 s.t,.int .i64 s.p0,.int .i64 s.p1,.int .i64 s.p2,.int .i64 s.v0,.int .i64 s0.v1,.int .i64 s0.v2]:=h4.set_ 4 (.int .i64 s.v0);have h6 : Blk _ g t #[.int .i64 s.t,.int .i64 s.p0,.int .i64 s.p1,.int .i64 s.p2,.int .i64 s.v0,.int .i64 s.v1,.int .i64 s0.v2]:=h5.set_ 5 (.int .i64 s.v1);have h7 : Blk _ g t #[.int .i64 s.t,.int .i64 s.p0,.int .i64 s.p1,.int .i64 s.p2,.int .i64 s.v0,.int .i64 s.v1,.int .i64 s.v2]:=h6.set_ 6 (.int .i64 s.v2);exact h7
theorem set_one {t : TypeId} {B : Nat} {w0 w : World} {g k : Nat} {cs : Array Value} (v : Value) (hB : Below B w0 w) (hs : B <= g) (hb : Blk w g t cs) (hl : NoLimb cs) :
    ∃ W,w.setCell ⟨g,k,none⟩ v = W /\ Below B w0 W /\ Blk W g t (cs.setIfInBounds k v) /\ Zqr w W g:=
 ⟨_,rfl,hB.setCell (p:=⟨g,k,none⟩) hs _,hb.set_ k v,fun na A' n' c' z hW=>⟨hW.1,hW.2.1,hW.2.2.set_box hb hl _ _⟩,fun g' t' cs' hg h=>h.far hg _,by simp⟩
theorem Blk.frozen7 {t : TypeId} {w : World} {g : Nat} {s : St} (hb : Blk w g t s.cells) : w.frozen? ⟨g,0,none⟩ = false /\ w.frozen? ⟨g,1,none⟩ = false /\ w.frozen? ⟨g,2,none⟩ = false /\ w.frozen? ⟨g,3,none⟩ = false /\ w.frozen? ⟨g,4,none⟩ = false /\ w.frozen? ⟨g,5,none⟩ = false /\ w.frozen? ⟨g,6,none⟩ = false:=
 ⟨hb.frozen 0,hb.frozen 1,hb.frozen 2,hb.frozen 3,hb.frozen 4,hb.frozen 5,hb.frozen 6⟩
def Zdg (dir : List Rat) (d : Int) (i : Nat) : Int:=Zjh ((dir[i]?.getD 0) * (d : Rat))
def Zd2 (z : Int) : Prop:=-1152921504606846976 <= z /\ z <= 1152921504606846976
def movB (s : St) (dir : List Rat) (d : Int) : Prop:=(∀ i,i < 6 -> Zd2 (Zdg dir d i)) /\ stE (mvS s (Zdg dir d) 6) = 0
open Classical in
noncomputable def movE (s : St) (dir : List Rat) (d : Int) : Int:=if movB s dir d then 0 else 24
def St.zero : St:=⟨0,0,0,0,0,0,0⟩
open Classical in
noncomputable def movV (s : St) (dir : List Rat) (d : Int) : St:=if movB s dir d then mvS s (Zdg dir d) 6 else St.zero
theorem Ztw {s : St} {dir : List Rat} {d : Int} {i : Nat} (hi : i < 6) (h : ¬ Zd2 (Zdg dir d i)) : movE s dir d = 24 /\ movV s dir d = St.zero:=by
 have hb : ¬ movB s dir d:=fun hb=>h (hb.1 i hi)
 exact ⟨if_neg hb,if_neg hb⟩
theorem Zs8 {s : St} {dir : List Rat} {d : Int} (h : stE (mvS s (Zdg dir d) 6) ≠ 0) : movE s dir d = 24 /\ movV s dir d = St.zero:=by
 have hb : ¬ movB s dir d:=fun hb=>h hb.2
 exact ⟨if_neg hb,if_neg hb⟩
theorem Zqz {s : St} {dir : List Rat} {d : Int} (h : ∀ i,i < 6 -> Zd2 (Zdg dir d i)) (h2 : stE (mvS s (Zdg dir d) 6) = 0) : movE s dir d = 0 /\ movV s dir d = mvS s (Zdg dir d) 6:=
 ⟨if_pos ⟨h,h2⟩,if_pos ⟨h,h2⟩⟩
theorem Zre (i g : Nat) (hi : i < 6) (w : World) :
    Calls Tryz.prog 139 #[.int .i64 i,.pointer (some ⟨g,0,none⟩)] w fun e w'=>e = .returned (.pointer (some ⟨g,i + 1,none⟩)) /\ w' = w:=by
 rcases (show i = 0 \/ i = 1 \/ i = 2 \/ i = 3 \/ i = 4 \/ i = 5 by omega) with rfl | rfl | rfl | rfl | rfl | rfl
 all_goals
  go_enter Tryz.func139,Tryz.ntmps139;go_wp2_with fail;go_ret;exact ⟨rfl,rfl⟩
theorem Zgy {t : TypeId} {B : Nat} {w0 w : World} {g : Nat} {s0 : St} (hB : Below B w0 w) (hs : B <= g) (hb : Blk w g t s0.cells) : ∃ W,(((((((w.setCell ⟨g,0,none⟩ (.int .i64 0)).setCell ⟨g,1,none⟩ (.int .i64 0)).setCell ⟨g,2,none⟩ (.int .i64 0)).setCell ⟨g,3,none⟩ (.int .i64 0)).setCell ⟨g,4,none⟩ (.int .i64 0)).setCell ⟨g,5,none⟩ (.int .i64 0)).setCell ⟨g,6,none⟩ (.int .i64 0)) = W /\ Below B w0 W /\ Blk W g t St.zero.cells:=Ztd St.zero hB hs hb
def MovPost (s : St) (dir : List Rat) (d : Int) (w : World) (e : Ending) (w' : World) : Prop:=
 e = .returned (.tuple #[.agg (movV s dir d).cells,.int .i64 (movE s dir d)]) /\ Below w.heap.size w w'
def Zoo (dir : List Rat) (d : Int) : Prop:=Sm (d : Rat) /\ ∀ i : Nat,Sm (dir[i]?.getD 0) /\ Sm (dir[i]?.getD 0 * (d : Rat))
theorem Zfy (z : Int) : Rat.divInt z 1 = (z : Rat):=by
 rw [Rat.divInt_eq_div];grind
theorem move_ok (s : St) (A : Option Addr) (c : Nat) (dir : List Rat) (d : Int) (w : World) (hD : FL w A 6 c dir) (hS : Zoo dir d) (hd1 : -9223372036854775808 <= d) (hd2 : d <= 9223372036854775807) :
    Calls Tryz.prog 85 #[.agg #[.int .i64 s.t,.int .i64 s.p0,.int .i64 s.p1,.int .i64 s.p2,.int .i64 s.v0,.int .i64 s.v1,.int .i64 s.v2],.slice A 6 c,.int .i64 d] w (MovPost s dir d w):=by
 have hcap:=hD.cap;unfold maxLen at hcap;obtain ⟨W0,hW0,hB0,⟨q0,q1⟩,s0⟩:=Zd4 w 46 #[.int .i64 s.t,.int .i64 s.p0,.int .i64 s.p1,.int .i64 s.p2,.int .i64 s.v0,.int .i64 s.v1,.int .i64 s.v2] 46 #[.int .i64 0,.int .i64 0,.int .i64 0,.int .i64 0,.int .i64 0,.int .i64 0,.int .i64 0]
 have hmf : ∀ (fn : Fn) (first cap : Array Value) (w : World),(Instr.makeFunc fn first cap).run Tryz.prog w = .ok (.func fn first cap) w:=fun _ _ _ _=>rfl
 have q0' : Blk W0 w.heap.size 46 s.cells:=q0;have q1' : Blk W0 (w.heap.size + 1) 46 St.zero.cells:=q1;have hDh:=Zb hD;have hOf:=Zb (fun W=>Zqh d 1 W hd1 hd2 (by omega) (by omega));replace hS:=Zb hS;clear q0 q1 hD;have hq:=Zb (And.intro q0' q1');clear q0' q1';replace hW0:=Zb hW0;replace hB0:=Zb hB0;go_enter Tryz.func85,Tryz.ntmps85;have hW0':=hW0.out;go_wp2_with fail;clear hW0 hW0';refine (hOf.out W0).mono ?_;rintro e w1 ⟨hb1,yn,yA,yk,yc,ym,yB,yj,yd,rfl,hY⟩;rw [Zfy] at hY;have s1 : W0.heap.size <= w1.heap.size:=hb1.size;obtain ⟨q0,q1⟩:=hq.out;replace q0:=(Zc hb1 q0).alloc (.cells #[.bool yn,.slice yA yk yc,.bool ym,.slice yB yj yd] 29);replace q1:=(Zc hb1 q1).alloc (.cells #[.bool yn,.slice yA yk yc,.bool ym,.slice yB yj yd] 29);have q9 : Blk (w1.alloc (.cells #[.bool yn,.slice yA yk yc,.bool ym,.slice yB yj yd] 29)) w1.heap.size 29 #[.bool yn,.slice yA yk yc,.bool ym,.slice yB yj yd]:=Blk.new _ _ _;have hB1:=(hB0.out.trans (hb1.mono hB0.out.size)).alloc (by have:=hB0.out.size;omega) (.cells #[.bool yn,.slice yA yk yc,.bool ym,.slice yB yj yd] 29);have hY1:=hY.alloc (.cells #[.bool yn,.slice yA yk yc,.bool ym,.slice yB yj yd] 29);obtain ⟨V,hV⟩ : ∃ V,w1.alloc (.cells #[.bool yn,.slice yA yk yc,.bool ym,.slice yB yj yd] 29) = V:=⟨_,rfl⟩
 have sV : V.heap.size = w1.heap.size + 1:=by rw [<- hV];simp
 rw [hV] at q0 q1 q9 hB1 hY1;obtain ⟨g9,hg9⟩ : ∃ g,w1.heap.size = g:=⟨_,rfl⟩;rw [hg9] at q9;have hs0:=hB0.out.size
 have hg9' : w.heap.size + 1 + 1 <= g9:=by omega
 clear hq hB0 hb1 hY hOf;have hq:=Zb (And.intro q0 (And.intro q1 q9));replace hY1:=Zb hY1;replace hB1:=Zb hB1;replace hV:=Zb hV;clear q0 q1 q9;go_wp2_with fail;rw [hV.out];clear hV hg9
 go_loopg [25] 6 (fun k iv wr=>∃ i : Nat,i + k = 6 /\ iv = .int .i64 i /\ Hid (Below w.heap.size w wr) /\ Hid (∀ j,j < i -> Zd2 (Zdg dir d j)) /\ Hid (Blk wr w.heap.size 46 (mvS s (Zdg dir d) i).cells /\ Blk wr (w.heap.size + 1) 46 St.zero.cells /\ Blk wr g9 29 #[.bool yn,.slice yA yk yc,.bool ym,.slice yB yj yd]) /\ Hid (Fr wr yn yA yk yc ym yB yj yd (d : Rat)))
 case atStart=>exact ⟨0,by omega,rfl,hB1,Zb (fun j hj=>by omega),hq,hY1⟩
 case round =>
  clear hq hY1 hB1;obtain ⟨wi,rfl⟩ : ∃ x : World,x = wr:=⟨_,rfl⟩;obtain ⟨i,hik,rfl,hBi,hN,hq,hY⟩:=hrel;have sBi:=hBi.out.size
  cases gk with
  | zero =>
   obtain rfl : i = 6:=by omega
   have t5 : decide (((6 : Nat) : Int) < ((6 : Nat) : Int)) = false:=by decide
   obtain ⟨q0,q1,q9⟩:=hq.out;obtain ⟨S6,hS6⟩ : ∃ S,mvS s (Zdg dir d) 6 = S:=⟨_,rfl⟩;rw [hS6] at q0;obtain ⟨c0,c1,c2,c3,c4,c5,c6⟩:=Zca (show Blk wi w.heap.size 46 #[.int .i64 S6.t,.int .i64 S6.p0,.int .i64 S6.p1,.int .i64 S6.p2,.int .i64 S6.v0,.int .i64 S6.v1,.int .i64 S6.v2] from q0);clear hq hY;have hq:=Zb (And.intro q0 q1);clear q0 q1 q9;go_wp2_with fail;refine (Zks S6 wi).mono ?_;rintro e w5 ⟨rfl,hb5⟩;obtain ⟨q0,q1⟩:=hq.out;replace q0:=Zc hb5 q0;replace q1:=Zc hb5 q1;have hB5:=hBi.out.trans (hb5.mono hBi.out.size);clear c0 c1 c2 c3 c4 c5 c6 hq hb5;obtain ⟨E,hE⟩ : ∃ E,stE S6 = E:=⟨_,rfl⟩;rw [hE];obtain ⟨f0,f1,f2,f3,f4,f5,f6⟩:=q1.frozen7;obtain ⟨x0,x1,x2,x3,x4,x5,x6⟩:=Zca (show Blk w5 (w.heap.size + 1) 46 #[.int .i64 0,.int .i64 0,.int .i64 0,.int .i64 0,.int .i64 0,.int .i64 0,.int .i64 0] from q1)
   by_cases h0 : E = 0
   case neg =>
    have t0 : (E == 0) = false:=by simpa using h0
    have t0' : decide (E = 0) = false:=by simpa using h0
    have t0'' : (E != 0) = true:=by rw [bne,t0];rfl
    have hM:=Zb (Zs8 (s:=s) (dir:=dir) (d:=d) (by rw [hS6,hE];exact h0));have hqq:=Zb (And.intro hB5 q1);clear hS6 hE hB5 q1 q0;replace h0:=Zb h0;go_wp2_with fail;obtain ⟨W6,hW6,hB6,q6⟩:=Zgy hqq.out.1 (by omega) hqq.out.2;rw [hW6];obtain ⟨y0,y1,y2,y3,y4,y5,y6⟩:=Zca (show Blk W6 (w.heap.size + 1) 46 #[.int .i64 0,.int .i64 0,.int .i64 0,.int .i64 0,.int .i64 0,.int .i64 0,.int .i64 0] from q6);refine bodyPost_ret (v:=.tuple #[.agg #[.int .i64 0,.int .i64 0,.int .i64 0,.int .i64 0,.int .i64 0,.int .i64 0,.int .i64 0],.int .i64 24]) (by simp [results,Tryz.results85,go_sem,y0,y1,y2,y3,y4,y5,y6]) rfl ?_;exact ⟨by rw [hM.out.1,hM.out.2];rfl,hB6⟩
   subst h0;have hM:=Zb (Zqz (s:=s) (dir:=dir) (d:=d) (fun j hj=>hN.out j hj) (by rw [hS6,hE]));rw [hS6] at hM;obtain ⟨c0,c1,c2,c3,c4,c5,c6⟩:=Zca (show Blk w5 w.heap.size 46 #[.int .i64 S6.t,.int .i64 S6.p0,.int .i64 S6.p1,.int .i64 S6.p2,.int .i64 S6.v0,.int .i64 S6.v1,.int .i64 S6.v2] from q0);have hqq:=Zb (And.intro hB5 q1);clear hS6 hE hB5 q1 q0;go_wp2_with fail;obtain ⟨W6,hW6,hB6,q6⟩:=Ztd S6 hqq.out.1 (by omega) hqq.out.2;rw [hW6];obtain ⟨y0,y1,y2,y3,y4,y5,y6⟩:=Zca (show Blk W6 (w.heap.size + 1) 46 #[.int .i64 S6.t,.int .i64 S6.p0,.int .i64 S6.p1,.int .i64 S6.p2,.int .i64 S6.v0,.int .i64 S6.v1,.int .i64 S6.v2] from q6);refine bodyPost_ret (v:=.tuple #[.agg #[.int .i64 S6.t,.int .i64 S6.p0,.int .i64 S6.p1,.int .i64 S6.p2,.int .i64 S6.v0,.int .i64 S6.v1,.int .i64 S6.v2],.int .i64 0]) (by simp [results,Tryz.results85,go_sem,y0,y1,y2,y3,y4,y5,y6]) rfl ?_;exact ⟨by rw [hM.out.1,hM.out.2];rfl,hB6⟩
  | succ t' =>
   obtain rfl : t' = 6 - (i + 1):=by omega
   have hi6 : i < 6:=by omega
   have t5 : decide ((i : Int) < 6) = true:=decide_eq_true (by omega);have t5' : decide ((i : Int) < ((6 : Nat) : Int)) = true:=decide_eq_true (by omega)
   have bi : (i : Int) < 6:=by omega
   have bi' : (i : Int) < ((6 : Nat) : Int):=by omega
   obtain ⟨g2,o2,fn,fA,fk,fc,fm,fB,fj,fd,rfl,⟨x0,x1,x2,x3⟩,hX⟩:=(hDh.out.below hBi.out).at_ hi6;obtain ⟨q0,q1,q9⟩:=hq.out;have l9:=q9.lt;replace q0:=q0.alloc (.cells #[.bool fn,.slice fA fk fc,.bool fm,.slice fB fj fd] 29);replace q1:=q1.alloc (.cells #[.bool fn,.slice fA fk fc,.bool fm,.slice fB fj fd] 29);replace q9:=q9.alloc (.cells #[.bool fn,.slice fA fk fc,.bool fm,.slice fB fj fd] 29);have q12 : Blk (wi.alloc (.cells #[.bool fn,.slice fA fk fc,.bool fm,.slice fB fj fd] 29)) wi.heap.size 29 #[.bool fn,.slice fA fk fc,.bool fm,.slice fB fj fd]:=Blk.new _ _ _;have hB2:=hBi.out.alloc sBi (.cells #[.bool fn,.slice fA fk fc,.bool fm,.slice fB fj fd] 29);have hX2:=hX.alloc (.cells #[.bool fn,.slice fA fk fc,.bool fm,.slice fB fj fd] 29);have hY2:=hY.out.alloc (.cells #[.bool fn,.slice fA fk fc,.bool fm,.slice fB fj fd] 29);obtain ⟨y0,y1,y2,y3,-⟩:=q9.four;obtain ⟨V2,hV2⟩ : ∃ V,wi.alloc (.cells #[.bool fn,.slice fA fk fc,.bool fm,.slice fB fj fd] 29) = V:=⟨_,rfl⟩
   have sV2 : V2.heap.size = wi.heap.size + 1:=by rw [<- hV2];simp
   rw [hV2] at q0 q1 q9 q12 hB2 hX2 hY2;clear hq hX hY;have hq:=Zb (And.intro q0 (And.intro q1 (And.intro q9 q12)));clear q0 q1 q9 q12;replace hX2:=Zb hX2;replace hY2:=Zb hY2;replace hB2:=Zb hB2;replace hV2:=Zb hV2;go_wp2_with fail;rw [hV2.out];refine (Zqm fn fm yn ym fA fB yA yB fk fc fj fd yk yc yj yd _ _ V2 hX2.out hY2.out (hS.out.2 i).1 hS.out.1).mono ?_;rintro e w5 ⟨hb5,nx,Ax,kx,cx,ny,Ay,ky,cy,rfl,hF⟩;obtain ⟨q0,q1,q9,q12⟩:=hq.out;have s5:=hb5.size;replace q0:=Zc hb5 q0;replace q1:=Zc hb5 q1;replace q9:=Zc hb5 q9;replace q12:=Zc hb5 q12;have hB5:=hB2.out.trans (hb5.mono hB2.out.size);have hY5:=Zb (hY2.out.below hb5);have sB2:=hB2.out.size;clear hq hX2 hY2 hB2 hV2 hb5 y0 y1 y2 y3 x0 x1 x2 x3;obtain ⟨z0,z1,z2,z3,f0,f1,f2,f3⟩:=q12.four;have hq:=Zb (And.intro q0 (And.intro q1 (And.intro q9 q12)));clear q0 q1 q9 q12;replace hF:=Zb hF;replace hB5:=Zb hB5;go_wp2_with fail;obtain ⟨q0,q1,q9,q12⟩:=hq.out;obtain ⟨W6,hW6,hB6,q12',kW,kB,s6⟩:=Z6 nx Ax kx cx ny Ay ky cy hB5.out (by omega) q12;rw [hW6];replace q0:=kB _ _ _ (by omega) q0;replace q1:=kB _ _ _ (by omega) q1;replace q9:=kB _ _ _ (by omega) q9;have hY6 : Hid (Fr W6 yn yA yk yc ym yB yj yd (d : Rat)):=Zb ⟨kW _ _ _ _ _ hY5.out.1,kW _ _ _ _ _ hY5.out.2⟩;have hF6 : Fr W6 nx Ax kx cx ny Ay ky cy (dir[i]?.getD 0 * (d : Rat)):=⟨kW _ _ _ _ _ hF.out.1,kW _ _ _ _ _ hF.out.2⟩;clear hq hW6 hB5 q12 q12' kW kB z0 z1 z2 z3 f0 f1 f2 f3 hF hY5;refine (Zrc nx ny Ax Ay kx cx ky cy _ W6 hF6 (hS.out.2 i).2).mono ?_
   rintro e w7 ⟨hb7,nz,Az,kz,cz,rfl,hZ⟩;have s7:=hb7.size;replace q0:=(Zc hb7 q0).alloc (.cells #[.bool nz,.slice Az kz cz] 27);replace q1:=(Zc hb7 q1).alloc (.cells #[.bool nz,.slice Az kz cz] 27);replace q9:=(Zc hb7 q9).alloc (.cells #[.bool nz,.slice Az kz cz] 27);have hY7:=(hY6.out.below hb7).alloc (.cells #[.bool nz,.slice Az kz cz] 27);have hB7:=(hB6.trans (hb7.mono hB6.size)).alloc (by have:=hB6.size;omega) (.cells #[.bool nz,.slice Az kz cz] 27);have hZ7:=hZ.alloc (.cells #[.bool nz,.slice Az kz cz] 27);have sB6:=hB6.size;obtain ⟨V8,hV8⟩ : ∃ V,w7.alloc (.cells #[.bool nz,.slice Az kz cz] 27) = V:=⟨_,rfl⟩
   have sV8 : V8.heap.size = w7.heap.size + 1:=by rw [<- hV8];simp
   rw [hV8] at q0 q1 q9 hY7 hB7 hZ7;obtain ⟨z,hz⟩ : ∃ z,Zjh (dir[i]?.getD 0 * (d : Rat)) = z:=⟨_,rfl⟩;rw [hz] at hZ7;have hzw : Zdg dir d i = z:=hz;clear hF6 hB6 hb7 hZ hY6 hz;have hq:=Zb (And.intro q0 (And.intro q1 q9));clear q0 q1 q9;replace hY7:=Zb hY7;replace hB7:=Zb hB7;replace hZ7:=Zb hZ7;replace hV8:=Zb hV8;replace hzw:=Zb hzw;go_wp2_with fail;rw [hV8.out];refine (wInt_ok nz Az kz cz z V8 hZ7.out).mono ?_;rintro e w9 ⟨rfl,hb9⟩;obtain ⟨q0,q1,q9⟩:=hq.out;have s9:=hb9.size;replace q0:=Zc hb9 q0;replace q1:=Zc hb9 q1;replace q9:=Zc hb9 q9;replace hY7:=Zb (hY7.out.below hb9);have hB9:=hB7.out.trans (hb9.mono hB7.out.size);clear hq hV8 hb9 hZ7 hB7
   by_cases hn : Zd2 z
   case neg =>
    have hM:=Zb (Ztw (s:=s) (dir:=dir) (d:=d) hi6 (by rw [hzw.out];exact hn));obtain ⟨f0,f1,f2,f3,f4,f5,f6⟩:=q1.frozen7;obtain ⟨x0,x1,x2,x3,x4,x5,x6⟩:=Zca (show Blk w9 (w.heap.size + 1) 46 #[.int .i64 0,.int .i64 0,.int .i64 0,.int .i64 0,.int .i64 0,.int .i64 0,.int .i64 0] from q1);have hqq:=Zb (And.intro hB9 q1);clear hB9 q1 q0 q9 hY7 hzw hN
    by_cases hfit : -9223372036854775808 <= z /\ z < 9223372036854775808
    case neg =>
     rw [Zha hfit,Zhb hfit];clear hfit hn;go_wp2_with fail;obtain ⟨W6,hW6,hB6,q6⟩:=Zgy hqq.out.1 (by omega) hqq.out.2;rw [hW6];obtain ⟨y0,y1,y2,y3,y4,y5,y6⟩:=Zca (show Blk W6 (w.heap.size + 1) 46 #[.int .i64 0,.int .i64 0,.int .i64 0,.int .i64 0,.int .i64 0,.int .i64 0,.int .i64 0] from q6);refine bodyPost_ret (v:=.tuple #[.agg #[.int .i64 0,.int .i64 0,.int .i64 0,.int .i64 0,.int .i64 0,.int .i64 0,.int .i64 0],.int .i64 24]) (by simp [results,Tryz.results85,go_sem,y0,y1,y2,y3,y4,y5,y6]) rfl ?_;exact ⟨by rw [hM.out.1,hM.out.2];rfl,hB6⟩
    rw [Zif hfit,Zid hfit]
    by_cases hgt : 1152921504606846976 < z
    case pos =>
     have t6 : decide (1152921504606846976 < z) = true:=decide_eq_true hgt;clear hfit hn hgt;go_wp2_with fail;obtain ⟨W6,hW6,hB6,q6⟩:=Zgy hqq.out.1 (by omega) hqq.out.2;rw [hW6];obtain ⟨y0,y1,y2,y3,y4,y5,y6⟩:=Zca (show Blk W6 (w.heap.size + 1) 46 #[.int .i64 0,.int .i64 0,.int .i64 0,.int .i64 0,.int .i64 0,.int .i64 0,.int .i64 0] from q6);refine bodyPost_ret (v:=.tuple #[.agg #[.int .i64 0,.int .i64 0,.int .i64 0,.int .i64 0,.int .i64 0,.int .i64 0,.int .i64 0],.int .i64 24]) (by simp [results,Tryz.results85,go_sem,y0,y1,y2,y3,y4,y5,y6]) rfl ?_;exact ⟨by rw [hM.out.1,hM.out.2];rfl,hB6⟩
    case neg =>
     have t6 : decide (1152921504606846976 < z) = false:=decide_eq_false hgt;have t7 : decide (z < -1152921504606846976) = true:=decide_eq_true (by unfold Zd2 at hn;omega);clear hfit hn hgt;go_wp2_with fail;obtain ⟨W6,hW6,hB6,q6⟩:=Zgy hqq.out.1 (by omega) hqq.out.2;rw [hW6];obtain ⟨y0,y1,y2,y3,y4,y5,y6⟩:=Zca (show Blk W6 (w.heap.size + 1) 46 #[.int .i64 0,.int .i64 0,.int .i64 0,.int .i64 0,.int .i64 0,.int .i64 0,.int .i64 0] from q6);refine bodyPost_ret (v:=.tuple #[.agg #[.int .i64 0,.int .i64 0,.int .i64 0,.int .i64 0,.int .i64 0,.int .i64 0,.int .i64 0],.int .i64 24]) (by simp [results,Tryz.results85,go_sem,y0,y1,y2,y3,y4,y5,y6]) rfl ?_;exact ⟨by rw [hM.out.1,hM.out.2];rfl,hB6⟩
   have hfit : -9223372036854775808 <= z /\ z < 9223372036854775808:=by unfold Zd2 at hn;omega
   rw [Zif hfit,Zid hfit];have t6 : decide (1152921504606846976 < z) = false:=decide_eq_false (by unfold Zd2 at hn;omega);have t7 : decide (z < -1152921504606846976) = false:=decide_eq_false (by unfold Zd2 at hn;omega)
   have hN2 : Hid (∀ j,j < i + 1 -> Zd2 (Zdg dir d j)):=Zb (fun j hj=>by
    by_cases e : j = i
    ·subst e;rw [hzw.out];exact hn
    ·exact hN.out j (by omega))
   replace hn:=Zb hn;have hq:=Zb (And.intro q0 (And.intro q1 q9))
   have hcx : w9.cell? ⟨w.heap.size,i + 1,none⟩ = some (.int .i64 (s.num i)):=by
    have:=q0.cell (i + 1);rw [mvS_get s _ hi6] at this;exact this
   have hfx:=q0.frozen (i + 1);obtain ⟨xn,hxn⟩ : ∃ x,s.num i = x:=⟨_,rfl⟩;rw [hxn] at hcx;clear q0 q1 q9 hfit;replace hB9:=Zb hB9;replace hxn:=Zb hxn;have hnum:=Zb (fun W=>Zre i w.heap.size hi6 W);go_wp2_with fail;refine (hnum.out _).mono ?_;rintro e w9 ⟨rfl,rfl⟩;go_wp2_with fail;obtain ⟨q0,q1,q9⟩:=hq.out;obtain ⟨W10,hW10,hB10,q0',kW,kB,s10⟩:=set_one (.int .i64 (wrap64 (xn + z))) hB9.out (Nat.le_refl _) q0 (St.noLimb _);rw [hW10];replace q1:=kB _ _ _ (by omega) q1;replace q9:=kB _ _ _ (by omega) q9;have hY10 : Hid (Fr W10 yn yA yk yc ym yB yj yd (d : Rat)):=Zb ⟨kW _ _ _ _ _ hY7.out.1,kW _ _ _ _ _ hY7.out.2⟩
   have q0'' : Blk W10 w.heap.size 46 (mvS s (Zdg dir d) (i + 1)).cells:=by
    have h:=mvS_set s (Zdg dir d) hi6;rw [hzw.out,hxn.out] at h;rw [<- h];exact q0'
   have hfin:=Zb (And.intro q0'' (And.intro q1 q9));replace hB10:=Zb hB10;clear hq hW10 hB9 q0 q0' q0'' q1 q9 kW kB hY7 hcx hfx
   go_roundg (6 - (i + 1))
   case measure=>omega
   case rel=>exact ⟨i + 1,by omega,by go_num,hB10,hN2,hfin,hY10⟩
end Go.Proofs.YtpehacgjclkhmaaGreat
