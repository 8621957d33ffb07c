/- The reference of layer 1: digit. -/
import Derived.Deep.CutBlock
import Derived.Deep.DeepCutAuto
import Derived.Test.YthappeninglakaaZq13
set_option maxRecDepth 100000
set_option maxHeartbeats 4000000
set_option linter.unusedSimpArgs false
set_option linter.unusedVariables false
namespace Go.Proofs.Ythappeninglakaa
open Go.RowKit
attribute [local go_sem] Zj
theorem Zk8 {l l0 v : List Nat} {i c s c' : Nat} (hi : i < l.length) (hI : val (l.take i) + pw i * c = val (l0.take i) + val (v.take i)) (he : s + 4294967296 * c' = c + l0[i]?.getD 0 + v[i]?.getD 0) :
    val ((l.set i s).take (i + 1)) + pw (i + 1) * c' = val (l0.take (i + 1)) + val (v.take (i + 1)):=by
 rw [Zx,Zx v,Zx l0,List.take_set_of_le (Nat.le_refl i),List.getElem?_set_self hi,Zal];simp only [Option.getD_some]
 have e : pw i * s + pw i * (4294967296 * c') = pw i * c + pw i * l0[i]?.getD 0 + pw i * v[i]?.getD 0:=by rw [<- Nat.mul_add,<- Nat.mul_add,<- Nat.mul_add,he]
 have e2 : 4294967296 * pw i * c' = pw i * (4294967296 * c'):=by rw [Nat.mul_comm 4294967296,Nat.mul_assoc]
 rw [e2];omega
theorem Zf3 {q v : Nat} (h : 0 < q) : (q - 1) * v + v = q * v:=by
 obtain ⟨k,rfl⟩ : ∃ k,q = k + 1:=⟨q - 1,by omega⟩;rw [Nat.add_sub_cancel,Nat.succ_mul]
theorem Zrf {q v1 v2 r u2 top : Nat} (h1 : q * v1 + r = top) (h2 : r * 4294967296 + u2 < q * v2) : top * 4294967296 + u2 < q * (v1 * 4294967296 + v2):=by
 have e : q * (v1 * 4294967296 + v2) = q * v1 * 4294967296 + q * v2:=by rw [Nat.mul_add,Nat.mul_assoc]
 rw [e,<- h1,Nat.add_mul,Nat.add_assoc];exact Nat.add_lt_add_left h2 _
def WinF (w : World) (g off n : Nat) (w' : World) : Prop:=
 w.grownBy w' (some g) /\ (∀ j,(j < off \/ off + n <= j) -> w'.cell? ⟨g,j,none⟩ = w.cell? ⟨g,j,none⟩) /\ (∀ j,w'.frozen? ⟨g,j,none⟩ = w.frozen? ⟨g,j,none⟩)
theorem WinF.refl (w : World) (g off n : Nat) : WinF w g off n w:=⟨World.grownBy.refl w _,fun _ _=>rfl,fun _=>rfl⟩
theorem WinF.set_ {w w' : World} {g off n i : Nat} (h : WinF w g off n w') (hi : i < n) (u : Value) : WinF w g off n (w'.setCell ⟨g,off + i,none⟩ u):=
 ⟨Zf7 h.1,fun j hj=>(World.cell?_setCell_other _ _ _ _ (by simp <;> omega)).trans (h.2.1 j hj),fun j=>(World.frozen?_setCell _ _ _ _).trans (h.2.2 j)⟩
theorem WinF.drewN {w w' : World} {g off n : Nat} (h : WinF w g off n w') (k : Nat) : WinF w g off n (w'.drewN k):=⟨⟨h.1.os,h.1.tape,h.1.output,h.1.size,h.1.block⟩,h.2.1,h.2.2⟩
theorem Zox {w w' : World} {g k : Nat} {u l : List Nat} (h : MutL w g 0 u) (hk : k + l.length <= u.length) (hf : WinF w g k l.length w') (hl : MutL w' g k l) : MutL w' g 0 (splice u k l):=fun j hj=>by
 rw [Zdi hk] at hj;rw [Nat.zero_add]
 by_cases hin : k <= j /\ j < k + l.length
 ·obtain ⟨i,rfl⟩ : ∃ i,j = k + i:=⟨j - k,by omega⟩
  rw [Zk4 hk (by omega)];exact hl i (by omega)
 ·rw [Zjy hk (by omega)]
  have:=h j hj;rw [Nat.zero_add] at this;exact ⟨(hf.2.1 j (by omega)).trans this.1,(hf.2.2 j).trans this.2⟩
def Zsj (w : World) (g off : Nat) (u v : List Nat) (e : Ending) (w' : World) : Prop:=
 ∃ l,e = .returned (limb (val u / val v)) /\ l.length = u.length /\ Lt32 l /\ val l = val u % val v /\ MutL w' g off l /\ WinF w g off u.length w'
def DSub (w : World) (g off n q : Nat) (u v : List Nat) (i cy b : Nat) (wr : World) : Prop:=
 ∃ l,MutL wr g off l /\ l.length = n + 1 /\ Lt32 l /\ (∀ j,i <= j -> l[j]?.getD 0 = u[j]?.getD 0) /\ val (l.take i) + q * val (v.take i) = val (u.take i) + pw i * (cy + b) /\ WinF w g off (n + 1) wr
def DAdd (w : World) (g off n : Nat) (l0 v : List Nat) (i c : Nat) (wr : World) : Prop:=
 ∃ l,MutL wr g off l /\ l.length = n + 1 /\ Lt32 l /\ (∀ j,i <= j -> l[j]?.getD 0 = l0[j]?.getD 0) /\ val (l.take i) + pw i * c = val (l0.take i) + val (v.take i) /\ WinF w g off (n + 1) wr
theorem Zrx (g off n c d : Nat) (bv ov : Nat) (u v : List Nat) (w : World) (hu : MutL w g off u) (hul : u.length = n + 1) (hut : Lt32 u) (hnc : n + 1 <= c) (hcm : c <= maxLen) (hn9 : n <= 1000000) (hn0 : 2 <= n)
    (hv : Lim w (some ⟨bv,ov,none⟩) n d v) (hne : bv ≠ g) (hlt : val u < 4294967296 * val v) (htop : 2147483648 <= v[n - 1]?.getD 0) :
    Calls Try.prog 87 #[.slice (some ⟨g,off,none⟩) (n + 1) c,.slice (some ⟨bv,ov,none⟩) n d] w (Zsj w g off u v):=by
 unfold maxLen at hcm;have hnd:=hv.2.1;have hdm:=hv.2.2.1;unfold maxLen at hdm;have hvl:=hv.len
 have hV : 0 < val v:=by
  rcases Nat.eq_zero_or_pos (val v) with h0 | h0
  ·rw [h0] at hlt;omega
  ·exact h0
 have ht2:=top2_le hvl (by omega);have ht3:=top3_lt hul (by omega) hut;have hc1:=hv.cell (k:=n - 1) (by omega);have hc2:=hv.cell (k:=n - 2) (by omega);have hd0:=(hu n (by omega)).1;have hd1:=(hu (n - 1) (by omega)).1;have hd2:=(hu (n - 2) (by omega)).1;have hv1:=hv.lt.get (n - 1);have hv2:=hv.lt.get (n - 2);have hu0:=hut.get n;have hu1:=hut.get (n - 1);have hu2:=hut.get (n - 2);have htl:=Zm2 hvl (by omega);have htu:=Zpy hul (by omega) hut
 generalize hx1 : v[n - 1]?.getD 0 = v1 at *
 generalize hx2 : v[n - 2]?.getD 0 = v2 at *
 generalize hy0 : u[n]?.getD 0 = u0 at *
 generalize hy1 : u[n - 1]?.getD 0 = u1 at *
 generalize hy2 : u[n - 2]?.getD 0 = u2 at *
 obtain ⟨Q,hQ⟩ : ∃ Q,val u / val v = Q:=⟨_,rfl⟩
 have hQlt : Q < 4294967296:=by rw [<- hQ,Nat.div_lt_iff_lt_mul hV];exact hlt
 obtain ⟨top,htopE⟩ : ∃ t,u0 * 4294967296 + u1 = t:=⟨_,rfl⟩;rw [htopE] at ht3 htu
 have htb : top < 18446744073709551616:=by omega
 have hguess : Q <= top / v1:=by rw [<- hQ];exact Zlg (by omega) htl htu
 have hgb : top / v1 < 8589934592:=by rw [Nat.div_lt_iff_lt_mul (by omega)];omega
 have hge : top / v1 * v1 + top % v1 = top:=by rw [Nat.mul_comm];exact Nat.div_add_mod _ _
 have hless : ∀ q r,q * v1 + r = top -> r * 4294967296 + u2 < q * v2 -> Q < q:=fun q r h1 h2=>by
  rw [<- hQ];exact Zmn ht2 ht3 (Zrf h1 h2)
 replace hless:=Zb hless;replace hge:=Zb hge;replace htopE:=Zb htopE;replace hQ:=Zb hQ;replace hul:=Zb hul;replace hvl:=Zb hvl;replace hx1:=Zb hx1;replace hx2:=Zb hx2;replace hy0:=Zb hy0;replace hy1:=Zb hy1;replace hy2:=Zb hy2;clear ht2 ht3 htl htu;go_enter Try.func87,Try.ntmps87;go_wp2_with fail
 go_quiet (fail)
 go_wp2_with fail
 go_quiet (fail)
 go_upto_block 0 with fail
 have ecast : ((u0 : Int) * 4294967296 + (u1 : Int)) = (top : Int):=by have:=htopE.out;omega
 rw [ecast,show (top : Int) / (v1 : Int) = ((top / v1 : Nat) : Int) from rfl,show (top : Int) % (v1 : Int) = ((top % v1 : Nat) : Int) from rfl];replace ecast:=Zb ecast
 generalize top / v1 = q0 at *
 generalize top % v1 = r0 at *
 have hB0 : WinF w g off (n + 1) (w.drewN 0):=WinF.refl _ _ _ _
 go_cut [7,8] (fun qv _ wx=>∃ q : Nat,qv = .int .u64 q /\ Q <= q /\ q < 4294967296 /\ ∃ m,wx = w.drewN m)
 case first =>
  go_wp2_with fail
  go_loopw [7,8] (fun qv rv wr=>∃ q r : Nat,qv = .int .u64 q /\ rv = .int .u64 r /\ Q <= q /\ q < 8589934592 /\ Hid (q * v1 + r = top) /\ ∃ m,wr = w.drewN m) (fun qv _ _=>(intOf qv).toNat)
  case atStart=>exact ⟨q0,r0,rfl,rfl,hguess,hgb,hge,_,World.drewN_drewN _ _ _⟩
  case round =>
   obtain ⟨q,r,rfl,rfl,hq1,hq2,hqr,m0,rfl⟩:=hrel;clear hguess hgb hge
   have hrb : r < 18446744073709551616:=by have:=hqr.out;omega
   by_cases hb32 : 4294967296 <= q
   ·have d1 : decide (4294967296 <= q) = true:=by simpa using hb32
    have d2 : decide ((4294967296 : Int) <= (q : Int)) = true:=by simp;omega
    have hq0 : 0 < q:=by omega
    have hrv : r + v1 < 18446744073709551616:=by
     have h1:=hqr.out;have h2 : (q - 1) * v1 + v1 = q * v1:=Zf3 hq0;omega
    have hqr2 : Hid ((q - 1) * v1 + (r + v1) = top):=by
     have h1:=hqr.out;have h2 : (q - 1) * v1 + v1 = q * v1:=Zf3 hq0;unfold Hid;omega
    have hw7 : IntKind.u64.wrap ((r : Int) + (v1 : Int)) = ((r + v1 : Nat) : Int):=by rw [IntKind.wrap_u64];omega
    obtain ⟨r1,hr1⟩ : ∃ r1,r + v1 = r1:=⟨_,rfl⟩;rw [hr1] at hw7 hrv hqr2;replace hr1:=Zb hr1
    have eq1 : ((q : Int) - 1) = ((q - 1 : Nat) : Int):=by omega
    replace eq1:=Zb eq1
    by_cases hbrk : 4294967296 <= r1 /\ q - 1 < 4294967296
    ·obtain ⟨k1,k2⟩:=hbrk
     have d7 : decide (4294967296 <= r1) = true:=by simpa using k1
     have d8 : decide ((4294967296 : Int) <= (r1 : Int)) = true:=by simp;omega
     have d9 : decide ((q : Int) - 1 < 4294967296) = true:=by simp;omega
     go_wp2_with fail
     go_quiet (fail)
     go_wp2_with fail
     go_meet
     exact ⟨q - 1,by rw [eq1.out],by omega,k2,_,(by first | rfl | exact World.drewN_drewN _ _ _)⟩
    ·have hrnd : Hid (∀ (k : Nat) (wx : World),wx = w.drewN k -> ((∃ q_1 r_1 : Nat,Value.int IntKind.u64 ((q : Int) - 1) = Value.int IntKind.u64 (q_1 : Int) /\ Value.int IntKind.u64 (r1 : Int) = Value.int IntKind.u64 (r_1 : Int) /\ Q <= q_1 /\ q_1 < 8589934592 /\ Hid (q_1 * v1 + r_1 = top) /\ ∃ m,wx = w.drewN m) /\ (intOf (Value.int IntKind.u64 ((q : Int) - 1))).toNat < (intOf (Value.int IntKind.u64 (q : Int))).toNat)):=
       fun k wx hk=>⟨⟨q - 1,r1,by rw [eq1.out],rfl,by omega,by omega,hqr2,k,hk⟩,by simp [intOf];omega⟩
     by_cases k1 : 4294967296 <= r1
     ·have k2 : ¬ q - 1 < 4294967296:=fun h=>hbrk ⟨k1,h⟩
      have d7 : decide (4294967296 <= r1) = true:=by simpa using k1
      have d8 : decide ((4294967296 : Int) <= (r1 : Int)) = true:=by simp;omega
      have d9 : decide ((q : Int) - 1 < 4294967296) = false:=by simp;omega
      go_wp2_with fail
      go_quiet (fail)
      go_wp2_with fail;exact hrnd.out _ _ ((by first | rfl | exact World.drewN_drewN _ _ _))
     ·have d7 : decide (4294967296 <= r1) = false:=by simpa using k1
      have d8 : decide ((4294967296 : Int) <= (r1 : Int)) = false:=by simp;omega
      go_wp2_with fail
      go_quiet (fail)
      go_wp2_with fail;exact hrnd.out _ _ ((by first | rfl | exact World.drewN_drewN _ _ _))
   ·have d1 : decide (4294967296 <= q) = false:=by simpa using hb32
    have d2 : decide ((4294967296 : Int) <= (q : Int)) = false:=by simp;omega
    by_cases hr32 : r < 4294967296
    ·have d3 : decide (r < 4294967296) = true:=by simpa using hr32
     have d4 : decide ((r : Int) < (4294967296 : Int)) = true:=by simp;omega
     obtain ⟨p2,hp2⟩ : ∃ p2,q * v2 = p2:=⟨_,rfl⟩
     have hp2b : p2 < 18446744073709551616:=by rw [<- hp2];exact Nat.lt_of_le_of_lt (Nat.mul_le_mul (show q <= 4294967295 by omega) (show v2 <= 4294967295 by omega)) (by decide)
     have hw : IntKind.u64.wrap ((q : Int) * (v2 : Int)) = (p2 : Int):=by
      rw [show (q : Int) * (v2 : Int) = (p2 : Int) by rw [<- hp2];push_cast;rfl,IntKind.wrap_u64];omega
     replace hp2:=Zb hp2
     by_cases ht5 : r * 4294967296 + u2 < p2
     ·have d5 : decide (r * 4294967296 + u2 < p2) = true:=decide_eq_true ht5
      have d6 : decide ((r : Int) * 4294967296 + (u2 : Int) < (p2 : Int)) = true:=decide_eq_true (by omega);have hQq : Q < q:=hless.out q r hqr.out (by rw [hp2.out];exact ht5)
      have hq0 : 0 < q:=by omega
      have hrv : r + v1 < 18446744073709551616:=by
       have h1:=hqr.out;have h2 : (q - 1) * v1 + v1 = q * v1:=Zf3 hq0;omega
      have hqr2 : Hid ((q - 1) * v1 + (r + v1) = top):=by
       have h1:=hqr.out;have h2 : (q - 1) * v1 + v1 = q * v1:=Zf3 hq0;unfold Hid;omega
      have hw7 : IntKind.u64.wrap ((r : Int) + (v1 : Int)) = ((r + v1 : Nat) : Int):=by rw [IntKind.wrap_u64];omega
      obtain ⟨r1,hr1⟩ : ∃ r1,r + v1 = r1:=⟨_,rfl⟩;rw [hr1] at hw7 hrv hqr2;replace hr1:=Zb hr1
      have eq1 : ((q : Int) - 1) = ((q - 1 : Nat) : Int):=by omega
      replace eq1:=Zb eq1
      by_cases hbrk : 4294967296 <= r1 /\ q - 1 < 4294967296
      ·obtain ⟨k1,k2⟩:=hbrk
       have d7 : decide (4294967296 <= r1) = true:=by simpa using k1
       have d8 : decide ((4294967296 : Int) <= (r1 : Int)) = true:=by simp;omega
       have d9 : decide ((q : Int) - 1 < 4294967296) = true:=by simp;omega
       go_wp2_with fail
       go_quiet (fail)
       go_wp2_with fail
       go_meet
       exact ⟨q - 1,by rw [eq1.out],by omega,k2,_,(by first | rfl | exact World.drewN_drewN _ _ _)⟩
      ·have hrnd : Hid (∀ (k : Nat) (wx : World),wx = w.drewN k -> ((∃ q_1 r_1 : Nat,Value.int IntKind.u64 ((q : Int) - 1) = Value.int IntKind.u64 (q_1 : Int) /\ Value.int IntKind.u64 (r1 : Int) = Value.int IntKind.u64 (r_1 : Int) /\ Q <= q_1 /\ q_1 < 8589934592 /\ Hid (q_1 * v1 + r_1 = top) /\ ∃ m,wx = w.drewN m) /\ (intOf (Value.int IntKind.u64 ((q : Int) - 1))).toNat < (intOf (Value.int IntKind.u64 (q : Int))).toNat)):=
         fun k wx hk=>⟨⟨q - 1,r1,by rw [eq1.out],rfl,by omega,by omega,hqr2,k,hk⟩,by simp [intOf];omega⟩
       by_cases k1 : 4294967296 <= r1
       ·have k2 : ¬ q - 1 < 4294967296:=fun h=>hbrk ⟨k1,h⟩
        have d7 : decide (4294967296 <= r1) = true:=by simpa using k1
        have d8 : decide ((4294967296 : Int) <= (r1 : Int)) = true:=by simp;omega
        have d9 : decide ((q : Int) - 1 < 4294967296) = false:=by simp;omega
        go_wp2_with fail
        go_quiet (fail)
        go_wp2_with fail;exact hrnd.out _ _ ((by first | rfl | exact World.drewN_drewN _ _ _))
       ·have d7 : decide (4294967296 <= r1) = false:=by simpa using k1
        have d8 : decide ((4294967296 : Int) <= (r1 : Int)) = false:=by simp;omega
        go_wp2_with fail
        go_quiet (fail)
        go_wp2_with fail;exact hrnd.out _ _ ((by first | rfl | exact World.drewN_drewN _ _ _))
     ·have d5 : decide (r * 4294967296 + u2 < p2) = false:=decide_eq_false ht5
      have d6 : decide ((r : Int) * 4294967296 + (u2 : Int) < (p2 : Int)) = false:=decide_eq_false (by omega);go_wp2_with fail
      go_quiet (fail)
      go_wp2_with fail
      go_meet
      exact ⟨q,rfl,hq1,by omega,_,(by first | rfl | exact World.drewN_drewN _ _ _)⟩
    ·have d3 : decide (r < 4294967296) = false:=by simpa using hr32
     have d4 : decide ((r : Int) < (4294967296 : Int)) = false:=by simp;omega
     go_wp2_with fail
     go_quiet (fail)
     go_wp2_with fail
     go_meet
     exact ⟨q,rfl,hq1,by omega,_,(by first | rfl | exact World.drewN_drewN _ _ _)⟩
 case rest =>
  obtain ⟨q,rfl,hq1,hq2,m0,rfl⟩:=hcut;clear hguess hgb hge hless;go_wp2_with fail;have huM : MutL (w.drewN m0) g off u:=hu
  have hvM : ∀ (wr : World),WinF w g off (n + 1) wr -> Lim wr (some ⟨bv,ov,none⟩) n d v:=fun wr h=>⟨hv.1,hv.2.1,hv.2.2.1,hv.2.2.2.1,fun hn=>⟨bv,ov,rfl,fun k hk=>(World.cell?_of_block (a:=⟨bv,ov + k,none⟩) (h.1.block bv (Zn (hv.cell (k:=0) (by omega))) (fun e=>hne (by injection e)))).trans (hv.cell hk)⟩⟩
  replace hvM:=Zb hvM
  go_loopw [11,10,9] (fun iv cv bw wr=>∃ i cy b : Nat,i <= n + 1 /\ iv = .int .i64 i /\ cy < 4294967296 /\ cv = .int .u64 cy /\ b <= 1 /\ bw = .int .i64 b /\ DSub w g off n q u v i cy b wr /\ (i = n + 1 -> cy = 0)) (fun iv _ _ _=>n + 1 - (intOf iv).toNat)
  case atStart=>exact ⟨0,0,0,by omega,rfl,by omega,rfl,by omega,rfl,⟨u,huM,hul.out,hut,fun _ _=>rfl,by simp [val],(WinF.refl _ _ _ _).drewN m0⟩,by omega⟩
  case round =>
   obtain ⟨i,cy,b,hin,rfl,hcy,rfl,hb1,rfl,⟨l,hl,hll,hlt',hsame,hI,hF⟩,hcz⟩:=hrel;replace hll:=Zb hll;replace hsame:=Zb hsame;replace hI:=Zb hI;have hy:=hut.get i
   rcases Nat.lt_trichotomy i n with hi | hi | hi
   ·obtain ⟨hcu,hfu⟩:=hl i (by rw [hll.out];omega)
    rw [hsame.out i (Nat.le_refl _)] at hcu;have hcv:=(hvM.out _ hF).cell (k:=i) hi;have hx:=hv.lt.get i
    have hst : ∀ lo c' d' b' : Nat,lo + 4294967296 * c' = cy + q * v[i]?.getD 0 -> d' + lo + b = u[i]?.getD 0 + 4294967296 * b' -> val ((l.set i d').take (i + 1)) + q * val (v.take (i + 1)) = val (u.take (i + 1)) + pw (i + 1) * (c' + b'):=
     fun lo c' d' b' h1 h2=>Zh2 (by rw [hll.out];omega) hI.out h1 h2
    replace hst:=Zb hst;obtain ⟨x,hxe⟩ : ∃ x,v[i]?.getD 0 = x:=⟨_,rfl⟩;obtain ⟨y,hye⟩ : ∃ y,u[i]?.getD 0 = y:=⟨_,rfl⟩;rw [hxe] at hcv hx hst;rw [hye] at hcu hy hst;replace hxe:=Zb hxe;replace hye:=Zb hye;have hw:=Znw hcy hq2 hx
    have htb : cy + q * x < 18446744073709551616:=by
     have h : q * x <= 4294967295 * 4294967295:=Nat.mul_le_mul (by omega) (by omega);omega
    obtain ⟨T,hT⟩ : ∃ T,cy + q * x = T:=⟨_,rfl⟩;rw [hT] at hw htb hst
    have hand : bits BinOp.and IntKind.u64 (T : Int) 4294967295 = ((T % 4294967296 : Nat) : Int):=by
     rw [show (4294967295 : Int) = ((4294967295 : Nat) : Int) from rfl,u64_and_nat _ _ htb (by omega),show 4294967295 = 2 ^ 32 - 1 by rfl,Nat.and_two_pow_sub_one_eq_mod]
    have hcT : T / 4294967296 < 4294967296:=by omega
    replace hT:=Zb hT;have hlo : T % 4294967296 < 4294967296:=Nat.mod_lt _ (by decide);obtain ⟨lo,hloe⟩ : ∃ lo,T % 4294967296 = lo:=⟨_,rfl⟩;rw [hloe] at hand hlo;replace hloe:=Zb hloe
    have hh : Hid (lo + 4294967296 * (T / 4294967296) = T):=by unfold Hid;rw [<- hloe.out];exact Nat.mod_add_div _ _
    by_cases hneg : (y : Int) - lo - b < 0
    ·have d1 : decide ((y : Int) - lo - b < 0) = true:=decide_eq_true hneg
     go_wp2_with fail;obtain ⟨d',hd'⟩ : ∃ d' : Nat,(y : Int) - lo - b + 4294967296 = (d' : Int):=⟨((y : Int) - lo - b + 4294967296).toNat,by omega⟩;rw [hd']
     have hd32 : d' < 4294967296:=by omega
     have hfin:=hst.out lo (T / 4294967296) d' 1 hh.out (by omega);refine ⟨⟨i + 1,(T / 4294967296),1,by omega,by go_num,hcT,rfl,by omega,rfl,⟨l.set i d',hl.set_ (by rw [hll.out];omega) d',by rw [List.length_set];exact hll.out,hlt'.set i hd32,fun j hj=>by rw [getD_set_ne _ (by omega)];exact hsame.out j (by omega),hfin,hF.set_ (by omega) _⟩,by omega⟩,by simp [intOf] <;> omega⟩
    ·have d1 : decide ((y : Int) - lo - b < 0) = false:=decide_eq_false hneg
     go_wp2_with fail;obtain ⟨d',hd'⟩ : ∃ d' : Nat,(y : Int) - lo - b = (d' : Int):=⟨((y : Int) - lo - b).toNat,by omega⟩;rw [hd']
     have hd32 : d' < 4294967296:=by omega
     have hfin:=hst.out lo (T / 4294967296) d' 0 hh.out (by omega);refine ⟨⟨i + 1,(T / 4294967296),0,by omega,by go_num,hcT,rfl,by omega,rfl,⟨l.set i d',hl.set_ (by rw [hll.out];omega) d',by rw [List.length_set];exact hll.out,hlt'.set i hd32,fun j hj=>by rw [getD_set_ne _ (by omega)];exact hsame.out j (by omega),hfin,hF.set_ (by omega) _⟩,by omega⟩,by simp [intOf] <;> omega⟩
   ·subst hi
    obtain ⟨hcu,hfu⟩:=hl i (by rw [hll.out];omega);rw [hsame.out i (Nat.le_refl _)] at hcu
    have hst : ∀ d' b' : Nat,d' + cy + b = u[i]?.getD 0 + 4294967296 * b' -> val ((l.set i d').take (i + 1)) + q * val (v.take (i + 1)) = val (u.take (i + 1)) + pw (i + 1) * (0 + b'):=
     fun d' b' h2=>Zh2 (by rw [hll.out];omega) hI.out (by rw [Zbv (by rw [hvl.out];exact Nat.le_refl _),Nat.mul_zero,Nat.mul_zero,Nat.add_zero]) h2
    replace hst:=Zb hst;obtain ⟨y,hye⟩ : ∃ y,u[i]?.getD 0 = y:=⟨_,rfl⟩;rw [hye] at hcu hy hst;replace hye:=Zb hye
    have hand : bits BinOp.and IntKind.u64 (cy : Int) 4294967295 = (cy : Int):=by
     rw [show (4294967295 : Int) = ((4294967295 : Nat) : Int) from rfl,u64_and_nat _ _ (by omega) (by omega),show 4294967295 = 2 ^ 32 - 1 by rfl,Nat.and_two_pow_sub_one_eq_mod,Nat.mod_eq_of_lt hcy]
    have hc0 : (cy : Int) / 4294967296 = 0:=by omega
    by_cases hneg : (y : Int) - cy - b < 0
    ·have d1 : decide ((y : Int) - cy - b < 0) = true:=decide_eq_true hneg
     go_wp2_with fail;obtain ⟨d',hd'⟩ : ∃ d' : Nat,(y : Int) - cy - b + 4294967296 = (d' : Int):=⟨((y : Int) - cy - b + 4294967296).toNat,by omega⟩;rw [hd']
     have hd32 : d' < 4294967296:=by omega
     have hfin:=hst.out d' 1  (by omega);refine ⟨⟨i + 1,0,1,by omega,by go_num,(by omega),by go_num,by omega,rfl,⟨l.set i d',hl.set_ (by rw [hll.out];omega) d',by rw [List.length_set];exact hll.out,hlt'.set i hd32,fun j hj=>by rw [getD_set_ne _ (by omega)];exact hsame.out j (by omega),hfin,hF.set_ (by omega) _⟩,by omega⟩,by simp [intOf] <;> omega⟩
    ·have d1 : decide ((y : Int) - cy - b < 0) = false:=decide_eq_false hneg
     go_wp2_with fail;obtain ⟨d',hd'⟩ : ∃ d' : Nat,(y : Int) - cy - b = (d' : Int):=⟨((y : Int) - cy - b).toNat,by omega⟩;rw [hd']
     have hd32 : d' < 4294967296:=by omega
     have hfin:=hst.out d' 0  (by omega);refine ⟨⟨i + 1,0,0,by omega,by go_num,(by omega),by go_num,by omega,rfl,⟨l.set i d',hl.set_ (by rw [hll.out];omega) d',by rw [List.length_set];exact hll.out,hlt'.set i hd32,fun j hj=>by rw [getD_set_ne _ (by omega)];exact hsame.out j (by omega),hfin,hF.set_ (by omega) _⟩,by omega⟩,by simp [intOf] <;> omega⟩
   ·obtain rfl : i = n + 1:=by omega
    obtain rfl : cy = 0:=hcz rfl
    have hI2 : Hid (val l + q * val v = val u + pw (n + 1) * b):=by
     have h1:=hI.out;rw [Z1 (by rw [hll.out];exact Nat.le_refl _),Z1 (by rw [hvl.out];omega),Z1 (by rw [hul.out];exact Nat.le_refl _),Nat.zero_add] at h1;exact h1
    clear hI hsame hcz;have hq3 : Q <= q:=hq1;go_wp2_with fail
    go_loopw [9,7] (fun bw qw wr=>∃ (q b : Nat) (l : List Nat),bw = .int .i64 b /\ qw = .int .u64 q /\ b <= 1 /\ Q <= q /\ q < 4294967296 /\ MutL wr g off l /\ l.length = n + 1 /\ Lt32 l /\ Hid (val l + q * val v = val u + pw (n + 1) * b) /\ WinF w g off (n + 1) wr) (fun _ qw _=>(intOf qw).toNat)
    case atStart=>exact ⟨q,b,l,rfl,rfl,hb1,hq3,hq2,hl,hll.out,hlt',hI2,hF⟩
    case round =>
     clear hI2 hl hll hlt' hF;obtain ⟨q,b,l,rfl,rfl,hb1,hq3,hq2,hl,hll,hlt',hI2,hF⟩:=hrel;replace hll:=Zb hll
     rcases Nat.eq_zero_or_pos b with rfl | hb0
     ·obtain ⟨hit1,hit2⟩:=Zl0 (U:=val u) (q:=q) (W:=val l) hV (by have:=hI2.out;rw [Nat.mul_zero] at this;exact this) (by rw [hQ.out];exact hq3)
      have hP : Hid (Zsj w g off u v (.returned (limb q)) wr):=⟨l,by rw [<- hit1],by rw [hll.out,hul.out],hlt',hit2,hl,by rw [hul.out];exact hF⟩
      have hqm : ((q : Int)) % 4294967296 = (q : Int):=by omega
      clear hit1 hit2 hI2;go_wp2_with fail;go_ret;exact hP.out
     ·obtain rfl : b = 1:=by omega
      have hmiss : Q < q:=by
       have:=Zj3 (q:=q) (W:=val l) (M:=pw (n + 1)) hV (by have:=hI2.out;rw [Nat.mul_one] at this;exact this) (by have:=Zen hlt';rw [hll.out] at this;exact this);rw [hQ.out] at this;exact this
      go_wp2_with fail
      go_loopw [13,10] (fun iv cv wr=>∃ i cy : Nat,i <= n + 1 /\ iv = .int .i64 i /\ cy <= 1 /\ cv = .int .u64 cy /\ DAdd w g off n l v i cy wr) (fun iv _ _=>n + 1 - (intOf iv).toNat)
      case atStart=>exact ⟨0,0,by omega,rfl,by omega,rfl,l,hl,hll.out,hlt',fun _ _=>rfl,by simp [val],hF⟩
      case round =>
       obtain ⟨i,cy,hin,rfl,hcy,rfl,l2,hl2,hll2,hlt2,hsame,hI,hF2⟩:=hrel;replace hll2:=Zb hll2;replace hsame:=Zb hsame;replace hI:=Zb hI;have hyl:=hlt'.get i
       rcases Nat.lt_trichotomy i n with hi | hi | hi
       ·obtain ⟨hcu,hfu⟩:=hl2 i (by rw [hll2.out];omega)
        rw [hsame.out i (Nat.le_refl _)] at hcu;have hcv:=(hvM.out _ hF2).cell (k:=i) hi;have hx:=hv.lt.get i
        have hst : ∀ s c' : Nat,s + 4294967296 * c' = cy + l[i]?.getD 0 + v[i]?.getD 0 -> val ((l2.set i s).take (i + 1)) + pw (i + 1) * c' = val (l.take (i + 1)) + val (v.take (i + 1)):=
         fun s c' h=>Zk8 (by rw [hll2.out];omega) hI.out h
        replace hst:=Zb hst;obtain ⟨x,hxe⟩ : ∃ x,v[i]?.getD 0 = x:=⟨_,rfl⟩;obtain ⟨y,hye⟩ : ∃ y,l[i]?.getD 0 = y:=⟨_,rfl⟩;rw [hxe] at hcv hx hst;rw [hye] at hcu hyl hst;replace hxe:=Zb hxe;replace hye:=Zb hye;go_wp2_with fail
        have e1 : ((cy : Int) + y + x) % 4294967296 = (((cy + y + x) % 4294967296 : Nat) : Int):=by omega
        have e2 : ((cy : Int) + y + x) / 4294967296 = (((cy + y + x) / 4294967296 : Nat) : Int):=by omega
        rw [e1,e2];refine ⟨⟨i + 1,(cy + y + x) / 4294967296,by omega,by go_num,by omega,rfl,l2.set i ((cy + y + x) % 4294967296),hl2.set_ (by rw [hll2.out];omega) _,by rw [List.length_set];exact hll2.out,hlt2.set i (by omega),fun j hj=>by rw [getD_set_ne _ (by omega)];exact hsame.out j (by omega),hst.out _ _ (by omega),hF2.set_ (by omega) _⟩,by simp [intOf] <;> omega⟩
       ·subst hi
        obtain ⟨hcu,hfu⟩:=hl2 i (by rw [hll2.out];omega);rw [hsame.out i (Nat.le_refl _)] at hcu
        have hst : ∀ s c' : Nat,s + 4294967296 * c' = cy + l[i]?.getD 0 -> val ((l2.set i s).take (i + 1)) + pw (i + 1) * c' = val (l.take (i + 1)) + val (v.take (i + 1)):=
         fun s c' h=>Zk8 (by rw [hll2.out];omega) hI.out (by rw [Zbv (l:=v) (by rw [hvl.out];exact Nat.le_refl _),Nat.add_zero];exact h)
        replace hst:=Zb hst;obtain ⟨y,hye⟩ : ∃ y,l[i]?.getD 0 = y:=⟨_,rfl⟩;rw [hye] at hcu hyl hst;replace hye:=Zb hye;go_wp2_with fail
        have e1 : ((cy : Int) + y) % 4294967296 = (((cy + y) % 4294967296 : Nat) : Int):=by omega
        have e2 : ((cy : Int) + y) / 4294967296 = (((cy + y) / 4294967296 : Nat) : Int):=by omega
        rw [e1,e2];refine ⟨⟨i + 1,(cy + y) / 4294967296,by omega,by go_num,by omega,rfl,l2.set i ((cy + y) % 4294967296),hl2.set_ (by rw [hll2.out];omega) _,by rw [List.length_set];exact hll2.out,hlt2.set i (by omega),fun j hj=>by rw [getD_set_ne _ (by omega)];exact hsame.out j (by omega),hst.out _ _ (by omega),hF2.set_ (by omega) _⟩,by simp [intOf] <;> omega⟩
       ·obtain rfl : i = n + 1:=by omega
        have hfin : Hid (val l2 + (q - 1) * val v = val u + pw (n + 1) * (1 - cy)):=by
         have h1:=hI.out;rw [Z1 (by rw [hll2.out];exact Nat.le_refl _),Z1 (by rw [hll.out];exact Nat.le_refl _),Z1 (by rw [hvl.out];omega)] at h1;have h2:=hI2.out;have h3:=Zf3 (v:=val v) (show 0 < q by omega);rw [Nat.mul_one] at h2;unfold Hid
         rcases Nat.eq_zero_or_pos cy with rfl | h0
         ·rw [Nat.mul_zero] at h1
          rw [Nat.sub_zero,Nat.mul_one];omega
         ·obtain rfl : cy = 1:=by omega
          rw [Nat.mul_one] at h1;rw [Nat.sub_self,Nat.mul_zero];omega
        clear hI hsame
        have e3 : ((q : Int) - 1) = ((q - 1 : Nat) : Int):=by omega
        have e4 : ((1 : Int) - cy) = ((1 - cy : Nat) : Int):=by omega
        replace e3:=Zb e3;replace e4:=Zb e4;go_wp2_with fail
        go_roundw
        case rel=>exact ⟨q - 1,1 - cy,l2,by rw [<- e4.out],by rw [<- e3.out],by omega,by omega,by omega,hl2,hll2.out,hlt2,hfin,hF2⟩
        case measure=>simp [intOf] <;> omega
end Go.Proofs.Ythappeninglakaa
