/- Reference of wide: Bits. -/
import Derived.Deep.LoopGhost
import Derived.Test.YtaioanjcjijckaaGreatZl20
set_option maxRecDepth 100000
set_option maxHeartbeats 2000000
set_option linter.unusedSimpArgs false
set_option linter.unusedVariables false
namespace Go.Proofs.YtaioanjcjijckaaGreat
open Go.RowKit
attribute [local go_sem] Zg
theorem Zr4 {t j : Nat} : t / 2 ^ j / 2 = t / 2 ^ (j + 1):=by
 rw [Nat.div_div_eq_div_mul,<- Nat.pow_succ]
theorem Zpm {t j : Nat} (h : t / 2 ^ j = 0) : t < 2 ^ j:=by
 rcases Nat.div_eq_zero_iff.1 h with h | h
 ·exact absurd h (Nat.ne_of_gt (Nat.two_pow_pos j))
 ·exact h
theorem Zpf {t j : Nat} (ht : t < 4294967296) (h : t / 2 ^ j ≠ 0) : j < 32:=by
 rcases Nat.lt_or_ge j 32 with h1 | h1
 ·exact h1
 ·have h2 : 2 ^ 32 <= 2 ^ j:=Nat.pow_le_pow_right (by decide) h1
  exact absurd (Nat.div_eq_of_lt (by omega)) h
theorem Ztc (neg : Bool) (A : Option Addr) (n c : Nat) (z : Int) (w : World) (hz : Wd w neg A n c z) :
    Calls Tryz.prog 134 #[.agg #[.bool neg,.slice A n c]] w fun e w'=>∃ b : Nat,e = .returned (.tuple #[.int .i64 b,.int .i64 0]) /\ BitsN z.natAbs b /\ b <= 32 * n /\ Below w.heap.size w w':=by
 have hL:=hz.lim;have hn:=hz.2.1;have hlen:=hL.len;have hcm:=hL.2.2.1;unfold maxLen at hcm
 have hB0 : ∀ X : Obj,Below w.heap.size w (w.alloc X):=fun X=>(Below.refl w.heap.size w).alloc (Nat.le_refl _) _
 have hB0:=Za hB0;have hgood : Hid (okW neg (digits z.natAbs) = true):=hz.ok;obtain ⟨u,hu⟩ : ∃ u,z.natAbs = u:=⟨_,rfl⟩;rw [hu] at hL hlen hgood ⊢;replace hu:=Za hu;replace hlen:=Za hlen;have hLx:=Za (fun X=>hL.alloc X);clear hz;go_enter Tryz.func134,Tryz.ntmps134;go_wp2_with fail;refine (Zae (hLx.out _) hgood.out).mono ?_;rintro e w1 ⟨rfl,hb1⟩;obtain ⟨hc1,hf1⟩:=Zbd hb1
 have hz1 : w.heap.size < w1.heap.size:=by have:=hb1.size;simp at this;omega
 have hB1 : Below w.heap.size w w1:=(hB0.out _).trans (hb1.mono (by simp))
 have g0 : w1.cell? ⟨w.heap.size,0,none⟩ = some (.bool neg):=by simp [hc1,go_sem]
 have g1 : w1.cell? ⟨w.heap.size,1,none⟩ = some (.slice A n c):=by simp [hc1,go_sem]
 have hL1:=Za (hL.below hB1);clear hc1 hf1 hB0 hL hb1 hLx;replace hB1:=Za hB1
 cases n with
 | zero =>
  have t1 : decide ((((0 : Nat) : Int)) = 0) = true:=by decide
  go_wp2_with fail;refine (Zae hL1.out hgood.out).mono ?_;rintro e w2 ⟨rfl,hb2⟩;have hB2:=hB1.out.trans (hb2.mono hB1.out.size);go_wp2_with fail;go_returns
  have hu0 : u = 0:=by
   rcases Nat.eq_zero_or_pos u with h | h
   ·exact h
   ·have:=length_digits_pos.2 h
    have:=hlen.out;omega
  exact ⟨0,rfl,⟨by rw [hu0];decide,⟨fun _=>hu0,fun _=>rfl⟩⟩,by omega,hB2⟩
 | succ k =>
  have t1 : (((k : Int) + 1) == 0) = false:=by simp;omega
  have t1' : decide ((k : Int) + 1 = 0) = false:=decide_eq_false (by omega);obtain ⟨b,of,rfl,hcell⟩:=hL1.out.at_ (show k < k + 1 by omega);have hx:=hL1.out.lt.get k;have htop:=Zb4 (v:=u) (by rw [hlen.out];omega);rw [hlen.out,Nat.add_sub_cancel] at htop;obtain ⟨t,ht⟩ : ∃ t,(digits u)[k]?.getD 0 = t:=⟨_,rfl⟩;rw [ht] at hcell hx htop;have hw1 : IntKind.i64.wrap (k : Int) = (k : Int):=IntWalk.i64_in _ (by omega);have hw2 : IntKind.i64.wrap (32 * (k : Int)) = 32 * (k : Int):=IntWalk.i64_in _ (by omega);replace ht:=Za ht;replace htop:=Za htop;clear hL1 hgood;go_wp2_with fail
  go_loopg [4,5] t (fun m nv xv wr=>wr = w1 /\ ∃ j x : Nat,Hid (x = t / 2 ^ j) /\ x <= m /\ j <= 32 /\ nv = .int .i64 ((32 * k + j : Nat) : Int) /\ xv = .int .u32 (x : Int))
  case atStart=>exact ⟨rfl,0,t,Za (by simp),Nat.le_refl _,by omega,by go_num,rfl⟩
  case round =>
   obtain ⟨rfl,j,x,hxe,hxm,hj,rfl,rfl⟩:=hrel
   by_cases hx0 : x = 0
   ·subst hx0
    have t5 : decide ((0 : Int) < ((0 : Nat) : Int)) = false:=by decide
    have hfin:=Za (Zmj hlen.out ht.out (Zpm hxe.out.symm) (by have:=htop.out;omega));go_wp2_with fail;go_returns;exact ⟨32 * k + j,by first | rfl | (push_cast;rfl),hfin.out,by omega,hB1.out⟩
   ·have t5 : decide ((0 : Int) < (x : Int)) = true:=decide_eq_true (by omega)
    have t5' : decide (0 < x) = true:=decide_eq_true (by omega);have hj32 : j < 32:=Zpf hx (by rw [<- hxe.out];exact hx0)
    have hx2 : x < 4294967296:=by have:=Nat.div_le_self t (2 ^ j);rw [hxe.out];omega
    have hxh : Hid (x / 2 = t / 2 ^ (j + 1)):=Za (by rw [hxe.out,Zr4]);clear hxe;go_wp2_with fail
    go_roundg (x / 2)
    case measure=>omega
    case rel=>exact ⟨rfl,j + 1,x / 2,hxh,Nat.le_refl _,by omega,by go_num,by go_num⟩
end Go.Proofs.YtaioanjcjijckaaGreat
