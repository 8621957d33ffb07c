/- Packages wide and reference of wide: Int. A region that -/
import Derived.Deep.LoopGhost
import Derived.Test.YtpehacgjclkhmaaGreatZy14
set_option maxRecDepth 100000
set_option maxHeartbeats 4000000
set_option linter.unusedSimpArgs false
set_option linter.unusedVariables false
namespace Go.Proofs.YtpehacgjclkhmaaGreat
open Go.RowKit
attribute [local go_sem] Zg
def Zi0 (z : Int) : Bool:=decide (-9223372036854775808 <= z) && decide (z < 9223372036854775808)
def intV (z : Int) : Int:=if Zi0 z = true then z else 0
def intE (z : Int) : Int:=if Zi0 z = true then 0 else 16
theorem Zfp {z : Int} (h : -9223372036854775808 <= z /\ z < 9223372036854775808) : intV z = z:=by unfold intV Zi0;simp [h.1,h.2]
theorem Zft {z : Int} (h : -9223372036854775808 <= z /\ z < 9223372036854775808) : intE z = 0:=by unfold intE Zi0;simp [h.1,h.2]
theorem Zei {z : Int} (h : ¬ (-9223372036854775808 <= z /\ z < 9223372036854775808)) : intV z = 0:=by
 unfold intV Zi0;rw [if_neg];simpa using h
theorem Zeg {z : Int} (h : ¬ (-9223372036854775808 <= z /\ z < 9223372036854775808)) : intE z = 16:=by
 unfold intE Zi0;rw [if_neg];simpa using h
theorem or_shl {x y : Nat} (hx : x < 4294967296) : x ||| y * 4294967296 = x + y * 4294967296:=by
 have h:=Nat.shiftLeft_add_eq_or_of_lt (i:=32) (b:=x) (by omega) y;rw [Nat.shiftLeft_eq] at h;rw [Nat.or_comm,<- h,Nat.add_comm]
theorem Zn5 {u : Nat} (h : (digits u).length <= 2) : u < 18446744073709551616:=by
 have:=(Zn u 2).1 h
 have e : pw 2 = 18446744073709551616:=by decide
 omega
theorem Zl2 {u : Nat} (h : 2 < (digits u).length) : 18446744073709551616 <= u:=by
 have:=Zcq h
 have e : pw 2 = 18446744073709551616:=by decide
 omega
theorem pw1 : pw 1 = 4294967296:=by decide
theorem pw2 : pw 2 = 18446744073709551616:=by decide
theorem neg64 {u : Nat} (h : u <= 9223372036854775808) (h0 : 0 < u) : wrap64 (IntKind.u64.wrap (-(u : Int))) = -(u : Int):=by
 rw [IntKind.wrap_u64];unfold wrap64;omega
theorem or64 {a b r : Nat} (ha : a < 18446744073709551616) (hb : b < 18446744073709551616) (h : a ||| b = r) (hr : r < 18446744073709551616) : bits .or .u64 (a : Int) (b : Int) = (r : Int):=by
 have h64 : ∀ x : Nat,x < 18446744073709551616 -> (BitVec.ofInt 64 (x : Int)).toNat = x:=fun x hx=>by
  rw [BitVec.ofInt_natCast,BitVec.toNat_ofNat];exact Nat.mod_eq_of_lt hx
 show IntKind.u64.wrap ((BitVec.ofInt 64 (a : Int) ||| BitVec.ofInt 64 (b : Int)).toNat : Int) = _;rw [BitVec.toNat_or,h64 a ha,h64 b hb,h];exact IntWalk.u64_in _ (by omega)
theorem Zph {a b : Nat} (ha : a < 4294967296) (hb : b < 4294967296) : bits .or .u64 (a : Int) ((b : Int) * 4294967296) = ((a + b * 4294967296 : Nat) : Int):=by
 have e : ((b : Int) * 4294967296) = ((b * 4294967296 : Nat) : Int):=by omega
 rw [e];exact or64 (by omega) (by omega) (or_shl ha) (by omega)
theorem Zm1 {a : Nat} (ha : a < 4294967296) : bits .or .u64 0 (a : Int) = (a : Int):=or64 (a:=0) (by omega) (by omega) (Nat.zero_or a) (by omega)
theorem limb0 {u : Nat} (h : u < 18446744073709551616) : (digits u)[0]?.getD 0 = u % 4294967296:=by
 by_cases h0 : u = 0
 ·subst h0;rw [Zy];rfl
 ·rw [Zav h0];rfl
theorem limb1 {u : Nat} (h : u < 18446744073709551616) : (digits u)[1]?.getD 0 = u / 4294967296:=by
 by_cases h0 : u = 0
 ·subst h0;rw [Zy];rfl
 ·rw [Zav h0]
  by_cases h1 : u / 4294967296 = 0
  ·rw [h1,Zy];rfl
  ·rw [Zav h1]
   show u / 4294967296 % 4294967296 = _;omega
theorem Znr (neg : Bool) (A : Option Addr) (n c : Nat) (z : Int) (w : World) (hz : Wd w neg A n c z) :
    Calls Tryz.prog 82 #[.agg #[.bool neg,.slice A n c]] w fun e w'=>e = .returned (.tuple #[.int .i64 (intV z),.int .i64 (intE z)]) /\ Below w.heap.size w w':=by
 have hL:=hz.lim;have hn:=hz.2.1;have hneg:=hz.1;have hlen:=hL.len
 have hW : ∀ X t,WL ((w.alloc X).alloc (.cells #[.bool neg,.slice A n c] t)) (some ⟨w.heap.size + 1,0,none⟩) 1 1 [⟨neg,A,n,c,digits z.natAbs⟩]:=fun X t=>by
  have:=WL.one (neg:=neg) (hL.alloc X) t;simp only [World.size_alloc] at this;exact this
 have hW:=Za hW
 have hB0 : ∀ X Y : Obj,Below w.heap.size w ((w.alloc X).alloc Y):=fun X Y=>((Below.refl w.heap.size w).alloc (Nat.le_refl _) _).alloc (by simp) _
 have hB0:=Za hB0;have hgood : Hid (okW neg (digits z.natAbs) = true):=hz.ok;replace hneg:=Za hneg;replace hlen:=Za hlen;clear hz;go_enter Tryz.func82,Tryz.ntmps82;go_wp2_with fail;refine (Zbe (hW.out _ _) (by have:=hgood.out;simp [WE.ok,this])).mono ?_;rintro e w1 ⟨rfl,hb1⟩;obtain ⟨hc1,hf1⟩:=Zbk hb1
 have hz1 : w.heap.size + 1 < w1.heap.size:=by have:=hb1.size;simp at this;omega
 have hB1 : Below w.heap.size w w1:=(hB0.out _ _).trans (hb1.mono (by simp;omega))
 have g0 : w1.cell? ⟨w.heap.size,0,none⟩ = some (.bool neg):=by simp [hc1,go_sem]
 have g1 : w1.cell? ⟨w.heap.size,1,none⟩ = some (.slice A n c):=by simp [hc1,go_sem]
 have hL1:=Za (hL.below hB1);clear hc1 hf1 hB0 hL hb1 hW hgood;obtain ⟨u,hu⟩ : ∃ u,z.natAbs = u:=⟨_,rfl⟩;rw [hu] at hL1 hlen;replace hB1:=Za hB1
 by_cases h2 : 2 < n
 ·have u2 : decide ((2 : Int) < (n : Int)) = true:=decide_eq_true (by omega)
  have hbig : ¬ (-9223372036854775808 <= z /\ z < 9223372036854775808):=by
   have:=Zl2 (u:=u) (by rw [hlen.out];exact h2);omega
  go_wp2_with fail;go_returns;exact ⟨by rw [Zei hbig,Zeg hbig];rfl,hB1.out⟩
 have u2 : decide ((2 : Int) < (n : Int)) = false:=decide_eq_false (by omega);have hu64 : u < 18446744073709551616:=Zn5 (by rw [hlen.out];omega);go_wp2_with fail
 go_loopg [21,5] n (fun k iv uv wr=>wr = w1 /\ ∃ i : Nat,i + k = n /\ iv = .int .i64 i /\ ∃ X : Nat,uv = .int .u64 X /\ Hid (X = u % pw i))
 case atStart=>exact ⟨rfl,0,by omega,rfl,0,rfl,Za (by rw [Zb0];omega)⟩
 case round =>
  obtain ⟨rfl,i,hik,rfl,X,rfl,hX⟩:=hrel
  cases gk with
  | zero =>
   obtain rfl : i = n:=by omega
   have t1 : decide ((i : Int) < (i : Int)) = false:=by simp
   have hXu : u = X:=by
    have h1:=hX.out;have h2:=Za1 u;rw [hlen.out] at h2;rw [h1,Nat.mod_eq_of_lt h2]
   subst hXu;clear hX
   cases hn2 : neg with
   | true =>
    subst hn2
    have hzn : z = -(u : Int) /\ 0 < u:=by have:=hneg.out;simp at this;omega
    by_cases hle : u <= 9223372036854775808
    ·have v1 : decide ((u : Int) <= 9223372036854775808) = true:=decide_eq_true (by omega)
     have hfit : -9223372036854775808 <= z /\ z < 9223372036854775808:=by omega
     go_wp2_with fail;go_returns;refine ⟨?_,hB1.out⟩;rw [Zfp hfit,Zft hfit];rw [hzn.1];exact congrArg (fun x=>Ending.returned (.tuple #[.int .i64 x,.int .i64 0])) (neg64 hle hzn.2)
    ·have v1 : decide ((u : Int) <= 9223372036854775808) = false:=decide_eq_false (by omega)
     have hfit : ¬ (-9223372036854775808 <= z /\ z < 9223372036854775808):=by omega
     go_wp2_with fail;go_returns;exact ⟨by rw [Zei hfit,Zeg hfit];rfl,hB1.out⟩
   | false =>
    subst hn2
    have hzn : z = (u : Int):=by have:=hneg.out;simp at this;omega
    by_cases hle : u < 9223372036854775808
    ·have v1 : decide ((u : Int) < 9223372036854775808) = true:=decide_eq_true (by omega)
     have hfit : -9223372036854775808 <= z /\ z < 9223372036854775808:=by omega
     go_wp2_with fail;go_returns;refine ⟨?_,hB1.out⟩;rw [Zfp hfit,Zft hfit];rw [hzn];rfl
    ·have v1 : decide ((u : Int) < 9223372036854775808) = false:=decide_eq_false (by omega)
     have hfit : ¬ (-9223372036854775808 <= z /\ z < 9223372036854775808):=by omega
     go_wp2_with fail;go_returns;exact ⟨by rw [Zei hfit,Zeg hfit];rfl,hB1.out⟩
  | succ gk' =>
   obtain rfl : gk' = n - (i + 1):=by omega
   have t1 : decide ((i : Int) < (n : Int)) = true:=decide_eq_true (by omega)
   have bi : (i : Int) < (n : Int):=by omega
   obtain ⟨g,o,rfl,hcell⟩:=hL1.out.at_ (k:=i) (by omega)
   rcases (show i = 0 \/ i = 1 by omega) with rfl | rfl
   case inl =>
    have hc0 : wr.cell? ⟨g,o,none⟩ = some (.int .u32 ((u % 4294967296 : Nat) : Int)):=by
     have:=hcell;rw [limb0 hu64] at this;exact this
    clear hcell;have hx0 : Hid (X = 0):=Za (by have:=hX.out;rw [this,Zb0];omega);obtain rfl:=hx0.out;have hor : Hid (bits .or .u64 0 (((u % 4294967296 : Nat)) : Int) = ((u % 4294967296 : Nat) : Int)):=Za (Zm1 (by omega));go_wp2_with fail
    go_roundg (n - 1)
    case measure=>omega
    case rel=>exact ⟨rfl,1,by omega,by go_num,_,congrArg _ hor.out,Za (by rw [pw1])⟩
   case inr =>
    have hc0 : wr.cell? ⟨g,o + 1,none⟩ = some (.int .u32 ((u / 4294967296 : Nat) : Int)):=by
     have:=hcell;rw [limb1 hu64] at this;exact this
    clear hcell;obtain ⟨X0,rfl,hx0,hx1⟩ : ∃ X0,X = X0 /\ X0 = u % 4294967296 /\ X0 < 4294967296:=⟨X,rfl,by have:=hX.out;rw [pw1] at this;exact this,by have:=hX.out;rw [pw1] at this;omega⟩;have hor : Hid (bits .or .u64 ((u % 4294967296 : Nat) : Int) (((u / 4294967296 : Nat) : Int) * 4294967296) = ((u % 4294967296 + u / 4294967296 * 4294967296 : Nat) : Int)):=Za (Zph (by omega) (by omega));go_wp2_with fail
    go_roundg (n - 2)
    case measure=>omega
    case rel=>exact ⟨rfl,2,by omega,by go_num,_,congrArg _ hor.out,Za (by rw [pw2];omega)⟩
theorem OnlyNormal.imp {Q : Exit -> Act -> World -> Prop} (e : Exit) (a : Act) (w : World) (h : OnlyNormal Q e a w) : Q e a w:=by
 cases e <;> first | exact h | exact (h : False).elim
theorem Zaa {P : Program} {id : Nat} {ops : Array Oper} {Q : Exit -> Act -> World -> Prop} {a : Act} {w : World} (L : List Nat) (S : World -> Prop) (hm : P.follows .mixedOrders = true)
    (hS : S w.drew) (h : S w.drew -> Z0 P .any ops (OnlyNormal Q) L S ops.size (Array.replicate ops.size false) a w.drew) : (Code.region id ops true).wp P Q a w:=
 Code.wp_mono OnlyNormal.imp (wp_region_any hm (Ze6 _ _ _ _ (h hS)))
theorem wp_heldS {P : Program} {id : Nat} {ops : Array Oper} {Q : Exit -> Act -> World -> Prop} {a : Act} {w w0 : World} {B : Nat} {S : World -> Prop} (L : List Nat) (hm : P.follows .mixedOrders = true)
    (hv : Hid (∀ wx,Below B w0 wx -> S wx)) (hb : Below B w0 w.drew) (h : S w.drew -> Z0 P .any ops (OnlyNormal Q) L S ops.size (Array.replicate ops.size false) a w.drew) : (Code.region id ops true).wp P Q a w:=Zaa L S hm (hv.out _ hb) h
theorem Zoz {l n : Nat} {P : Program} {id : Nat} {ops : Array Oper} {Q : Exit -> Act -> World -> Prop} {a : Act} {w w0 : World} {B : Nat} {S : World -> Prop} (L : List Nat) (hm : P.follows .mixedOrders = true) (hnd : Zfv ops = true)
    (hv : Hid (∀ wx,Below B w0 wx -> S wx)) (hb : Below B w0 w.drew) (h : S w.drew -> Z0 P .any ops (OnlyNormal Q) L S ops.size (Array.replicate ops.size false) a w.drew) : (Code.region id ops true).wpIn (Fence.wide.inRound l) n P Q a w:=Zbz L S hm hnd (hv.out _ hb) h
theorem ResP.code0 {w : World} {z : Int} {neg : Bool} {A : Option Addr} {n c : Nat} {code : Int} (h : ResP w z neg A n c code) (hs : z.natAbs < pw 4096) : code = 0:=by
 rcases h with ⟨_,h,_⟩ | ⟨h,_⟩
 ·exact h
 ·omega
def Zk4 (w : World) (x y : Int) (e : Ending) (w' : World) : Prop:=
 Below w.heap.size w w' /\ ∃ na A n c nb B m d,e = .returned (.tuple #[.agg #[.bool na,.slice A n c],.agg #[.bool nb,.slice B m d]]) /\ Wd w' na A n c x /\ Wd w' nb B m d y
theorem Mul1_ok (na nb na' nb' : Bool) (A B A' B' : Option Addr) (n c m d n' c' m' d' : Nat) (a b : Rat) (w : World) (ha : Fr w na A n c nb B m d a) (hb : Fr w na' A' n' c' nb' B' m' d' b)
    (hs : (a.num * b.num).natAbs < pw 4096) (ht : ((a.den : Int) * (b.den : Nat)).natAbs < pw 4096) :
    Calls Tryz.prog 146 #[.agg #[.bool na,.slice A n c,.bool nb,.slice B m d],.agg #[.bool na',.slice A' n' c',.bool nb',.slice B' m' d']] w (Zk4 w (a.num * b.num) ((a.den : Int) * (b.den : Nat))):=by
 obtain ⟨W0,hW0,hB0,⟨q0,q1,q2,q3⟩,s0⟩:=Zf5 w 29 #[.bool na,.slice A n c,.bool nb,.slice B m d] 29 #[.bool na',.slice A' n' c',.bool nb',.slice B' m' d'] 27 #[.bool false,.slice none 0 0] 27 #[.bool false,.slice none 0 0]
 have hmx : Tryz.prog.follows .mixedOrders = true:=by kernel_rfl
 have hA:=Za (ha.below hB0);have hD:=Za (hb.below hB0);replace hs:=Za hs;replace ht:=Za ht;have sz:=Za hB0.size;have hB:=Za hB0;clear ha hb hB0 s0;replace q0:=Za q0;replace q1:=Za q1;replace q2:=Za q2;replace q3:=Za q3;obtain ⟨a0,a1,a2,a3,-⟩:=q0.out.four;obtain ⟨b0,b1,b2,b3,-⟩:=q1.out.four;replace hW0:=Za hW0;go_enter Tryz.func146,Tryz.ntmps146;go_wp2_with fail;rw [hW0.out];clear hW0;refine Zaa [17] (fun W'=>W'.cell? ⟨w.heap.size,0,none⟩ = some (.bool na) /\ W'.cell? ⟨w.heap.size,1,none⟩ = some (.slice A n c) /\ W'.cell? ⟨w.heap.size,2,none⟩ = some (.bool nb) /\ W'.cell? ⟨w.heap.size,3,none⟩ = some (.slice B m d) /\ W'.cell? ⟨w.heap.size + 1,0,none⟩ = some (.bool na') /\ W'.cell? ⟨w.heap.size + 1,1,none⟩ = some (.slice A' n' c') /\ W'.cell? ⟨w.heap.size + 1,2,none⟩ = some (.bool nb') /\ W'.cell? ⟨w.heap.size + 1,3,none⟩ = some (.slice B' m' d')) hmx ⟨a0,a1,a2,a3,b0,b1,b2,b3⟩ (fun _=>?_);refine Zrd 8 [0,1,2,3,8,9,10,11] rfl (by kernel_rfl) ⟨a0,a1,a2,a3,b0,b1,b2,b3⟩ ?_
 iterate 8 (refine tk1 (v:=?_) rfl (Or.inl ⟨by kernel_rfl,?_⟩) ?_;rotate_left;(· intro W2 hSw;(try dsimp only at hSw);go_simp;try with_reducible rfl);try simp only [Act.put,putL_a,putL_z,putL_s,putG_a,putG_s,putG_z])
 refine tk0 ?_;refine Ze (i:=4) rfl (by kernel_rfl) (fun K hK=>?_);go_simp;refine (Zhz na na' A A' n c n' c' a.num b.num W0.drew hA.out.1 hD.out.1).mono ?_;rintro e w1 ⟨hb1,np,P,k,q,code,rfl,hR⟩;replace hb1:=Zq hb1;have hP:=Za (hR.small hs.out);have hcode:=hR.code0 hs.out;subst hcode;clear hs hR;replace q0:=Za (Zc hb1 q0.out);replace q1:=Za (Zc hb1 q1.out);replace q2:=Za (Zc hb1 q2.out);replace q3:=Za (Zc hb1 q3.out);replace hA:=Za (hA.out.below hb1);replace hD:=Za (hD.out.below hb1);replace hB:=Za (hB.out.trans (hb1.mono sz.out));replace sz:=Za (Nat.le_trans sz.out hb1.size);clear a0 a1 a2 a3 b0 b1 b2 b3;obtain ⟨a0,a1,a2,a3,-⟩:=q0.out.four;obtain ⟨b0,b1,b2,b3,-⟩:=q1.out.four;clear hb1;refine hK.out _ _ (fun _=>⟨a0,a1,a2,a3,b0,b1,b2,b3⟩) ?_;clear hK K
 try simp only [Act.put,putL_a,putL_z,putL_s]
 refine Zrd 2 [5,6] rfl (by kernel_rfl) ⟨a0,a1,a2,a3,b0,b1,b2,b3⟩ ?_
 iterate 2 (refine tk1 (v:=?_) rfl (Or.inl ⟨by kernel_rfl,?_⟩) ?_;rotate_left;(· intro W2 hSw;(try dsimp only at hSw);go_simp;try with_reducible rfl);try simp only [Act.put,putL_a,putL_z,putL_s,putG_a,putG_s,putG_z])
 refine tk0 ?_;refine Ze (i:=7) rfl (by kernel_rfl) (fun K hK=>?_);go_simp;refine (Zby np P k q w1).mono ?_;rintro e w2 ⟨rfl,hb2⟩;replace hP:=Za (hP.out.below hb2);replace q0:=Za (Zc hb2 q0.out);replace q1:=Za (Zc hb2 q1.out);replace q2:=Za (Zc hb2 q2.out);replace q3:=Za (Zc hb2 q3.out);replace hA:=Za (hA.out.below hb2);replace hD:=Za (hD.out.below hb2);replace hB:=Za (hB.out.trans (hb2.mono sz.out));replace sz:=Za (Nat.le_trans sz.out hb2.size);clear a0 a1 a2 a3 b0 b1 b2 b3;obtain ⟨a0,a1,a2,a3,-⟩:=q0.out.four;obtain ⟨b0,b1,b2,b3,-⟩:=q1.out.four;clear hb2;refine hK.out _ _ (fun _=>⟨a0,a1,a2,a3,b0,b1,b2,b3⟩) ?_;clear hK K
 try simp only [Act.put,putL_a,putL_z,putL_s]
 refine Ze (i:=12) rfl (by kernel_rfl) (fun K hK=>?_);go_simp;refine (Zhz nb nb' B B' m d m' d' a.den b.den w2 hA.out.2 hD.out.2).mono ?_;rintro e w3 ⟨hb3,np',P',k',q',code,rfl,hR⟩;replace hP:=Za (hP.out.below hb3);have hP':=Za (hR.small ht.out);have hcode:=hR.code0 ht.out;subst hcode;clear ht hR;replace q0:=Za (Zc hb3 q0.out);replace q1:=Za (Zc hb3 q1.out);replace q2:=Za (Zc hb3 q2.out);replace q3:=Za (Zc hb3 q3.out);replace hA:=Za (hA.out.below hb3);replace hD:=Za (hD.out.below hb3);replace hB:=Za (hB.out.trans (hb3.mono sz.out));replace sz:=Za (Nat.le_trans sz.out hb3.size);clear a0 a1 a2 a3 b0 b1 b2 b3;obtain ⟨a0,a1,a2,a3,-⟩:=q0.out.four;obtain ⟨b0,b1,b2,b3,-⟩:=q1.out.four;clear hb3;refine hK.out _ _ (fun _=>⟨a0,a1,a2,a3,b0,b1,b2,b3⟩) ?_;clear hK K
 try simp only [Act.put,putL_a,putL_z,putL_s]
 refine Zrd 2 [13,14] rfl (by kernel_rfl) ⟨a0,a1,a2,a3,b0,b1,b2,b3⟩ ?_
 iterate 2 (refine tk1 (v:=?_) rfl (Or.inl ⟨by kernel_rfl,?_⟩) ?_;rotate_left;(· intro W2 hSw;(try dsimp only at hSw);go_simp;try with_reducible rfl);try simp only [Act.put,putL_a,putL_z,putL_s,putG_a,putG_s,putG_z])
 refine tk0 ?_;refine Ze (i:=15) rfl (by kernel_rfl) (fun K hK=>?_);go_simp;refine (Zby np' P' k' q' w3).mono ?_;rintro e w4 ⟨rfl,hb4⟩;replace hP:=Za (hP.out.below hb4);replace hP':=Za (hP'.out.below hb4);replace q0:=Za (Zc hb4 q0.out);replace q1:=Za (Zc hb4 q1.out);replace q2:=Za (Zc hb4 q2.out);replace q3:=Za (Zc hb4 q3.out);replace hA:=Za (hA.out.below hb4);replace hD:=Za (hD.out.below hb4);replace hB:=Za (hB.out.trans (hb4.mono sz.out));replace sz:=Za (Nat.le_trans sz.out hb4.size);clear a0 a1 a2 a3 b0 b1 b2 b3;obtain ⟨a0,a1,a2,a3,-⟩:=q0.out.four;obtain ⟨b0,b1,b2,b3,-⟩:=q1.out.four;clear hb4;obtain ⟨x0,x1,f0,f1⟩:=q2.out.two;refine hK.out _ _ (fun _=>⟨a0,a1,a2,a3,b0,b1,b2,b3⟩) ?_;clear hK K
 try simp only [Act.put,putL_a,putL_z,putL_s]
 refine Ze (i:=16) rfl (by kernel_rfl) (fun K hK=>?_);go_simp;obtain ⟨W5,hW5,hB5,q2',kW,kB,s5⟩:=Zax np P k q hB.out (by omega) q2.out;rw [hW5];clear hW5 x0 x1 f0 f1 a0 a1 a2 a3 b0 b1 b2 b3 hA hD;replace q0:=kB _ _ _ (by omega) q0.out;replace q1:=kB _ _ _ (by omega) q1.out;obtain ⟨a0,a1,a2,a3,-⟩:=q0.four;obtain ⟨b0,b1,b2,b3,-⟩:=q1.four;replace q3:=Za (kB _ _ _ (by omega) q3.out);replace hP:=Za (kW _ _ _ _ _ hP.out);replace hP':=Za (kW _ _ _ _ _ hP'.out);clear kW kB q2 hB q0 q1;obtain ⟨y0,y1,g0,g1⟩:=q3.out.two;refine hK.out _ _ (fun _=>⟨a0,a1,a2,a3,b0,b1,b2,b3⟩) ?_;clear hK K
 try simp only [Act.put,putL_a,putL_z,putL_s]
 refine Zt (i:=17) rfl (by kernel_rfl) (by kernel_rfl) (fun K hK=>?_);go_simp;obtain ⟨W6,hW6,hB6,q3',kW,kB,s6⟩:=Zax np' P' k' q' hB5 (by omega) q3.out;rw [hW6];clear hW6 y0 y1 g0 g1 a0 a1 a2 a3 b0 b1 b2 b3;replace q2':=kB _ _ _ (by omega) q2';replace hP:=Za (kW _ _ _ _ _ hP.out);replace hP':=Za (kW _ _ _ _ _ hP'.out);clear kW kB q3 hB5;refine hK.out _ _ ?_;clear hK K
 try simp only [Act.put,putL_a,putL_z,putL_s]
 refine Zl (by kernel_rfl) ?_ _;refine OnlyNormal.normal ?_;obtain ⟨r0,r1,-⟩:=q2'.two;obtain ⟨r2,r3,-⟩:=q3'.two;go_wp2_with fail;refine bodyPost_ret (v:=.tuple #[.agg #[.bool np,.slice P k q],.agg #[.bool np',.slice P' k' q']]) (by simp [results,Tryz.results146,go_sem,r0,r1,r2,r3]) rfl ?_;exact ⟨hB6,_,_,_,_,_,_,_,_,rfl,hP.out,hP'.out⟩
end Go.Proofs.YtpehacgjclkhmaaGreat
