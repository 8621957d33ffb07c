/- The reference of layer 1: over. The reference of layer 1: -/
import Derived.BigQuiet
import Derived.Deep.QuietTactic
import Derived.Test.YthappeninglakaaZq14
set_option maxRecDepth 100000
set_option maxHeartbeats 2000000
set_option linter.unusedSimpArgs false
set_option linter.unusedVariables false
namespace Go.Proofs.Ythappeninglakaa
open Go.RowKit
attribute [local go_sem] Zj
theorem DivR.step2 {w wr w5 : World} {g q : Nat} {A : Option Addr} {c m nq : Nat} {vl lu lq : List Nat} {a b s k : Nat} {l : List Nat} (hD : DivI (2 ^ s * a) (2 ^ s * b) m lu lq (k + 1)) (hq : lq.length = nq) (hM : MutL wr g 0 lu) (hB : Blk wr q 71 (Zt lq))
    (hL : Lim wr A m c vl) (hw : Below w.heap.size w wr) (hv : val vl = 2 ^ s * b) (hlen : l.length = m + 1) (hlt : Lt32 l) (hl : val l = val ((lu.drop k).take (m + 1)) % val vl) (hQ : val ((lu.drop k).take (m + 1)) / val vl < 4294967296)
    (hl5 : MutL w5 g k l) (hF : WinF wr g k (m + 1) w5) (hgq : g ≠ q) (hA : ∀ b o,A = some ⟨b,o,none⟩ -> b ≠ g /\ b ≠ q) (hg : w.heap.size <= g) (hqs : w.heap.size <= q) :
    DivR w g q A c m nq vl a b s k (w5.setCell ⟨q,k,none⟩ (limb (val ((lu.drop k).take (m + 1)) / val vl))):=by
 have hVm : 2 ^ s * b <= pw m:=by rw [<- hv];exact Nat.le_of_lt hL.lt_pw
 have hlen2 : k + l.length <= lu.length:=by have:=hD.2.2.1;have:=hD.2.2.2.1;omega
 have hB5 : Blk w5 q 71 (Zt lq):=(hF.1.block q hB.lt (fun e=>hgq (by injection e with e;exact e.symm))).trans hB
 refine ⟨splice lu k l,lq.set k (val ((lu.drop k).take (m + 1)) / val vl),hD.step hVm hlen hlt hQ (by rw [hv]) (by rw [<- hv];exact hl),by rw [List.length_set];exact hq,
  (Zox hM hlen2 (by rw [hlen];exact hF) hl5).far hgq,?_,Lim.far ?_ (fun b o e=>(hA b o e).2),?_⟩
 ·rw [<- Za8];exact hB5.set_ _ _
 ·exact ⟨hL.1,hL.2.1,hL.2.2.1,hL.2.2.2.1,fun hn=>by
    obtain ⟨b,o,e,hc⟩:=hL.2.2.2.2 hn
    exact ⟨b,o,e,fun j hj=>(World.cell?_of_block (a:=⟨b,o + j,none⟩) (hF.1.block b (Zn (hc 0 hn)) (fun e2=>(hA b o e).1 (by injection e2)))).trans (hc j hj)⟩⟩
 ·exact (hw.grown hF.1 hw.size (fun j hj=>by injection hj with hj;omega)).setCell (p:=⟨q,k,none⟩) hqs _
def ShiftI (x : Nat) (sv : Value) : Prop:=∃ s : Nat,sv = .int .u64 (s : Int) /\ s <= 31 /\ 2 ^ s * x < 4294967296
def ShrR (w0 : World) (s : Nat) (rest : List Nat) (i : Nat) (v : Value) (wr : World) : Prop:=
 ∃ o,OwnL 71 wr w0.heap.size v o /\ o.length = i /\ val o + pw i * (val (rest.drop i) / 2 ^ s) = val rest / 2 ^ s /\ Below w0.heap.size w0 wr
theorem Zrv (A B : Option Addr) (n c m d : Nat) (a b : Nat) (w : World) (ha : Lim w A n c (digits a)) (hb : Lim w B m d (digits b)) (hn : n <= 100000) (h : a < b) :
    Calls Try.prog 70 #[.slice A n c,.slice B m d] w (Zmm w a b):=by
 have hcv : Hid (Zce (digits a) (digits b) < 0):=by
  have:=(Zfq (va:=a) (vb:=b));unfold Hid;omega
 obtain ⟨cv,hcv2⟩ : ∃ x : Int,Zce (digits a) (digits b) = x:=⟨_,rfl⟩
 have hneg : cv < 0:=by rw [<- hcv2];exact hcv.out
 have HC:=Zb hcv2;clear hcv hcv2;go_enter Try.func70,Try.ntmps70;go_wp2_with fail;refine (Zcm _ _ _ _ _ _ _ _ _ ha hb).mono ?_;rintro e w1 ⟨he1,hb1⟩;rw [HC.out] at he1;subst he1;go_wp2_with fail;refine (Zdc _ _ _ _ _ (ha.below hb1) (by omega)).mono ?_;rintro e w2 ⟨A2,n2,c2,l2,rfl,hL,hl2,hb2⟩;replace hl2:=Zb hl2;go_wp2_with fail
 go_ret2
 have hB : Below w.heap.size w w2:=hb1.trans (hb2.mono hb1.size);exact ⟨_,_,_,_,_,_,rfl,by rw [Nat.div_eq_of_lt h,Z6];exact Lim.nil _ _ _ (Nat.zero_le _),by rw [Nat.mod_eq_of_lt h];have:=hl2.out;rw [Zg] at this;rw [<- this];exact hL,hB⟩
theorem Ztq (A B : Option Addr) (n c m d : Nat) (a b : Nat) (w : World) (ha : Lim w A n c (digits a)) (hb : Lim w B m d (digits b)) (hn : n <= 100000) (h : b <= a) (hm : m = 1) :
    Calls Try.prog 70 #[.slice A n c,.slice B m d] w (Zmm w a b):=by
 subst hm;have hnc:=ha.2.1;have hcm:=ha.2.2.1;have hmd:=hb.2.1;have hdm:=hb.2.2.1;unfold maxLen at hcm hdm;obtain ⟨cv,hcv2⟩ : ∃ x : Int,Zce (digits a) (digits b) = x:=⟨_,rfl⟩
 have hneg : ¬ cv < 0:=by rw [<- hcv2];have:=(Zfq (va:=a) (vb:=b));omega
 have hneg' : decide (cv < 0) = false:=by simpa using hneg
 have HC:=Zb hcv2;clear hcv2 hneg;obtain ⟨hd1,hb0,hb32⟩:=Zj1 hb.len;obtain ⟨g,o,rfl,hcell⟩:=hb.at_ (k:=0) (by omega);rw [hd1] at hcell
 simp at hcell
 replace hd1:=Zb hd1;have hva:=Zb (Zg a);go_enter Try.func70,Try.ntmps70;go_wp2_with fail;refine (Zcm _ _ _ _ _ _ _ _ _ ha hb).mono ?_;rintro e w1 ⟨he1,hb1⟩;rw [HC.out] at he1;subst he1;have hcell1:=Za hb1 hcell;go_wp2_with fail;refine (Zo1 _ _ _ b _ _ (ha.below hb1) hb0 hb32 (by omega)).mono ?_;rintro e w2 ⟨A2,n2,c2,A3,n3,c3,rfl,hL2,hL3,hb2⟩;rw [hva.out] at hL2 hL3;go_wp2_with fail
 go_ret2
 exact ⟨_,_,_,_,_,_,rfl,hL2,hL3,hb1.trans (hb2.mono hb1.size)⟩
theorem Zrw (A B : Option Addr) (n c m d : Nat) (a b : Nat) (w : World) (ha : Lim w A n c (digits a)) (hb : Lim w B m d (digits b)) (hn : n <= 100000) (h : b <= a) (hm : 2 <= m) :
    Calls Try.prog 70 #[.slice A n c,.slice B m d] w (Zmm w a b):=by
 have hnc:=ha.2.1;have hcm:=ha.2.2.1;have hmd:=hb.2.1;have hdm:=hb.2.2.1;unfold maxLen at hcm hdm
 have hmn : m <= n:=by have:=Zy h;rw [ha.len,hb.len] at this;exact this
 obtain ⟨i0,hi,hz0,hz1,hz2⟩:=info_parts Zcl;have hmk:=Zfj (P:=Try.prog) 24 71 Try.underlying24 hi hz0 hz1 hz2 ((n : Int) + 1 - m) (n + 1 - m) (by omega) (by omega);obtain ⟨cv,hcv2⟩ : ∃ x : Int,Zce (digits a) (digits b) = x:=⟨_,rfl⟩
 have hneg : ¬ cv < 0:=by rw [<- hcv2];have:=(Zfq (va:=a) (vb:=b));omega
 have hneg' : decide (cv < 0) = false:=by simpa using hneg
 have HC:=Zb hcv2;clear hcv2 hneg
 have hm1 : ((m : Int) == 1) = false:=by simp;omega
 obtain ⟨g,o,rfl,hcell⟩:=hb.at_ (k:=m - 1) (by omega);have hlen:=hb.len;have htop:=Zep (v:=b) (by omega);have htl:=Zm2 hlen (by omega);have htlt:=hb.lt.get (m - 1);have hblt:=Zc3 b;rw [hlen] at htop hblt;have htl2:=Zga hlen (by omega) hb.lt;rw [Zg] at htl htl2;obtain ⟨x,hx⟩ : ∃ x,(digits b)[m - 1]?.getD 0 = x:=⟨_,rfl⟩;rw [hx] at hcell htop htl htlt htl2;replace hlen:=Zb hlen;replace hx:=Zb hx;have hva:=Zb (Zg a);have hvb:=Zb (Zg b);go_enter Try.func70,Try.ntmps70;go_wp2_with fail;refine (Zcm _ _ _ _ _ _ _ _ _ ha hb).mono ?_;rintro e w1 ⟨he1,hb1⟩;rw [HC.out] at he1;subst he1;have hcell1:=Za hb1 hcell
 have hxp : 0 < x:=by omega
 go_wp2_with fail
 go_loop [7] (fun sv=>ShiftI x sv) (fun sv=>31 - (intOf sv).toNat)
 case atStart=>exact ⟨0,rfl,by omega,by simpa using htlt⟩
 case round =>
  obtain ⟨s,rfl,hs31,hsx⟩:=hrel
  have hwx : IntKind.u32.wrap ((x : Int) * 2 ^ s) = ((2 ^ s * x : Nat) : Int):=by
   have e1 : ((x : Int) * 2 ^ s) = ((2 ^ s * x : Nat) : Int):=by push_cast;rw [Int.mul_comm]
   rw [e1,IntKind.wrap_u32];omega
  obtain ⟨y,hy⟩ : ∃ y,2 ^ s * x = y:=⟨_,rfl⟩;rw [hy] at hwx hsx
  by_cases hlt2 : y < 2147483648
  ·have hs30 : s < 31:=by
     rcases Nat.lt_or_ge s 31 with h' | h'
     ·exact h'
     ·exfalso
      obtain rfl : s = 31:=by omega
      have : 2 ^ 31 * 1 <= 2 ^ 31 * x:=Nat.mul_le_mul_left _ hxp;rw [hy] at this
      simp at this
      omega
   have hy2 : 2 ^ (s + 1) * x < 4294967296:=by rw [Nat.pow_succ,Nat.mul_comm (2 ^ s),Nat.mul_assoc,hy];omega
   replace hy:=Zb hy;have d1 : decide (y < 2147483648) = true:=decide_eq_true hlt2;have d2 : decide ((y : Int) < 2147483648) = true:=decide_eq_true (by omega);clear hlt2;go_wp2_with fail;exact ⟨⟨s + 1,by go_num,by omega,hy2⟩,by simp [intOf];omega⟩
  ·replace hy:=Zb hy
   have d1 : decide (y < 2147483648) = false:=decide_eq_false hlt2;have d2 : decide ((y : Int) < 2147483648) = false:=decide_eq_false (by omega);clear hlt2;go_wp2_with fail
   have hyb : 2147483648 <= y:=by have:=of_decide_eq_false d1;omega
   clear d1 d2
   have hs : s < 32:=by omega
   have hxs : x + 1 <= 2 ^ (32 - s):=by
    have h1 : 2 ^ s * x < 2 ^ s * 2 ^ (32 - s):=by
     rw [<- Nat.pow_add,show s + (32 - s) = 32 by omega,hy.out];exact hsx
    exact Nat.lt_of_mul_lt_mul_left h1
   have ha1:=ha.below hb1;have hb1':=hb.below hb1;refine (Zlm _ m d s (digits b) _ hb1' hs (by omega)).mono ?_;rintro e w3 ⟨v3,o3,rfl,hO3,hl3,hv3,hb3⟩;obtain ⟨g3,c3,hv3',hg3,hg3s,hc3,hcm3,hM3⟩:=hO3.mut (by omega);rw [hl3] at hv3' hc3;subst hv3';have hL3 : Lim w3 (some ⟨g3,0,none⟩) (m + 1) c3 o3:=hM3.lim hl3 hc3 hcm3 hO3.2;unfold maxLen at hcm3;replace hl3:=Zb hl3;replace hv3:=Zb hv3;clear hO3 hM3;go_wp2_with fail;refine (Zlm A n c s (digits a) _ (ha1.below hb3) hs (by omega)).mono ?_;rintro e w4 ⟨v4,o4,rfl,hO4,hl4,hv4,hb4⟩;obtain ⟨g4,c4,hv4',hg4,hg4s,hc4,hcm4,hM4⟩:=hO4.mut (by omega);rw [hl4] at hv4' hc4;subst hv4';unfold maxLen at hcm4;replace hl4:=Zb hl4;replace hv4:=Zb hv4;go_wp2_with fail;replace hvb:=hvb.out;replace hva:=hva.out;rw [hvb] at hv3;rw [hva] at hv4;have hl3':=hl3.out;have hv3':=hv3.out
   have hp31 : 2 ^ s * (x + 1) <= 4294967296:=by
    have h1 : 2 ^ s * (x + 1) <= 2 ^ s * 2 ^ (32 - s):=Nat.mul_le_mul_left _ hxs;rw [<- Nat.pow_add,show s + (32 - s) = 32 by omega] at h1;exact h1
   have hVlt : 2 ^ s * b < pw m:=by
    have h1 : 2 ^ s * b < 2 ^ s * ((x + 1) * pw (m - 1)):=Nat.mul_lt_mul_of_pos_left htl2 (Nat.pow_pos (by omega))
    have h2 : 2 ^ s * ((x + 1) * pw (m - 1)) <= 4294967296 * pw (m - 1):=by rw [<- Nat.mul_assoc];exact Nat.mul_le_mul_right _ hp31
    rw [<- Zal,show m - 1 + 1 = m by omega] at h2;omega
   have hvl : val (o3.take m) = 2 ^ s * b:=by
    have h1:=Z4 o3 m (by omega)
    rcases Nat.eq_zero_or_pos (val (o3.drop m)) with h0 | h0
    ·rw [h0] at h1;omega
    ·have:=Nat.mul_le_mul_left (pw m) h0;omega
   have hLv:=(hL3.take (k:=m) (by omega)).below hb4
   have hbp : y * pw (m - 1) <= 2 ^ s * b:=by
    have h1 : 2 ^ s * (x * pw (m - 1)) <= 2 ^ s * b:=Nat.mul_le_mul_left _ htl;rw [<- Nat.mul_assoc,hy.out] at h1;exact h1
   have htv : 2147483648 <= (o3.take m)[m - 1]?.getD 0:=by
    have h1:=Zga (v:=o3.take m) (n:=m) (by rw [List.length_take,hl3'];omega) (by omega) hLv.lt;rw [hvl] at h1;have h2:=Nat.lt_of_mul_lt_mul_right (Nat.lt_of_le_of_lt hbp h1);omega
   have hw4 : Below w.heap.size w w4:=(hb1.trans (hb3.mono hb1.size)).trans (hb4.mono (Nat.le_trans hb1.size hb3.size))
   have hstart : DivR w g4 w4.heap.size (some ⟨g3,0,none⟩) c3 m (n + 1 - m) (o3.take m) a b s (n + 1 - m) (w4.alloc (.cells (Zt (List.replicate (n + 1 - m) 0)) 71)):=by
    have h1:=DivI.start (a:=digits a) (b:=digits b) (u:=o4) (s:=s) (n:=m) (by rw [hva];exact hv4.out) (by rw [hl4.out,ha.len]) hO4.2 (by rw [ha.len];exact hmn) ha.lt (by rw [hvb];have:=Nat.mul_le_mul_right (pw (m - 1)) (show 1 <= x by omega);omega) (by omega);rw [hva,hvb,ha.len] at h1;exact ⟨o4,_,h1,by simp,hM4.below ((Below.refl _ _).alloc (Nat.le_refl _) _),Blk.new _ _ _,hLv.alloc _,hw4.alloc hw4.size _⟩
   have hA3 : ∀ b o,some (⟨g3,0,none⟩ : Addr) = some ⟨b,o,none⟩ -> b ≠ g4 /\ b ≠ w4.heap.size:=fun b o e=>by
    injection e with e
    injection e with e1 e2
    have:=hb4.size;omega
   have hgs : w.heap.size <= g4:=by have:=hb1.size;have:=hb3.size;omega
   have hne : g4 ≠ w4.heap.size:=by omega
   have hne34 : g3 ≠ g4:=by omega
   clear hM4 hO4 hl4 hv4 hv3 hl3 hva hvb hcell hcell1 hv3' hl3';replace hvl:=Zb hvl;replace hbp:=Zb hbp
   go_loopw [11] (fun jv wr=>∃ k : Nat,k <= n + 1 - m /\ jv = .int .i64 ((k : Int) - 1) /\ DivR w g4 w4.heap.size (some ⟨g3,0,none⟩) c3 m (n + 1 - m) (o3.take m) a b s k wr) (fun jv _=>(intOf jv + 1).toNat)
   case atStart=>exact ⟨n + 1 - m,Nat.le_refl _,rfl,hstart⟩
   case round =>
    obtain ⟨k,hk,rfl,lu,lq,hD,hq,hM,hBq,hLr,hBr⟩:=hrel;replace hq:=Zb hq
    rcases k with _ | k
    ·obtain ⟨e1,e2⟩:=hD.stop
     have hb0 : 0 < b:=by
      rcases Nat.eq_zero_or_pos b with h0 | h0
      ·subst h0
       rw [Z6] at hlen;have:=hlen.out
       simp at this
       omega
      ·exact h0
     have hLu : Lim wr (some ⟨g4,0,none⟩) (n + 1) c4 lu:=hM.lim (by have:=hD.2.2.1;have:=hq.out;omega) hc4 (by unfold maxLen;omega) hD.1
     have hLq : Lim wr (some ⟨w4.heap.size,0,none⟩) (n + 1 - m) (n + 1 - m) lq:=by
      have:=Lim.of_blk hBq hD.2.1 (by rw [hq.out];unfold maxLen;omega);rw [hq.out] at this;exact this
     have hlu : val (lu.take m) = 2 ^ s * (a % b):=by
      have h1:=Z4 lu m (by rw [hLu.len];omega);have h2 : 2 ^ s * (a % b) < 2 ^ s * b:=Nat.mul_lt_mul_of_pos_left (Nat.mod_lt _ hb0) (Nat.pow_pos (by omega))
      rcases Nat.eq_zero_or_pos (val (lu.drop m)) with h0 | h0
      ·rw [h0] at h1;omega
      ·have:=Nat.mul_le_mul_left (pw m) h0;omega
     have hLt:=hLu.take (k:=m) (by omega)
     have hsh : Hid (val (lu.take m) / 2 ^ s = a % b):=by
      unfold Hid;rw [hlu,Nat.mul_div_cancel_left _ (Nat.pow_pos (by omega))]
     obtain ⟨rs,hrs⟩ : ∃ rs,lu.take m = rs:=⟨_,rfl⟩;rw [hrs] at hLt hsh;have hrl:=Zb hLt.len;replace e1:=Zb e1;clear hD e2 hlu hrs hM hBq hLu hbp hvl htv hVlt;go_wp2_with fail;obtain ⟨wo,rfl⟩ : ∃ wo : World,wo = wr:=⟨_,rfl⟩
     go_loopw [14,13] (fun iv ov wr=>∃ i : Nat,i <= m /\ iv = .int .i64 i /\ ShrR wo s rs i ov wr) (fun iv _ _=>m - (intOf iv).toNat)
     case atStart=>exact ⟨0,Nat.zero_le _,rfl,[],OwnL.nil _ _ _,rfl,by simp [val,Zdh],Below.refl _ _⟩
     case round =>
      obtain ⟨i,hi1,rfl,o,hown,hol,hI,hB⟩:=hrel;replace hol:=Zb hol;replace hI:=Zb hI;have hLt2:=hLt.below hB
      by_cases him : i < m
      ·have hst:=Ztk (r:=rs) (i:=i) (s:=s) (by omega) (by rw [hrl.out];exact him) hLt.lt
       have hci:=hLt2.cell him;rw [Nat.zero_add] at hci;have hxi:=hLt.lt.get i;have hxj:=hLt.lt.get (i + 1);obtain ⟨p,hp⟩ : ∃ p,2 ^ s = p:=⟨_,rfl⟩
       have hp0 : 0 < p:=by rw [<- hp];exact Nat.pow_pos (by omega)
       have hp0' : (0 : Int) < (p : Int):=by omega
       have hpc : ((2 : Int) ^ s) = (p : Int):=by rw [<- hp];push_cast;rfl
       rw [hp] at hst;obtain ⟨y0,hy0⟩ : ∃ y,rs[i]?.getD 0 = y:=⟨_,rfl⟩;obtain ⟨y1,hy1⟩ : ∃ y,rs[i + 1]?.getD 0 = y:=⟨_,rfl⟩;rw [hy0] at hci hxi hst;rw [hy1] at hxj hst;replace hst:=Zb hst;replace hy0:=Zb hy0;obtain ⟨X,hX⟩ : ∃ X,y0 + 4294967296 * y1 = X:=⟨_,rfl⟩;rw [hX] at hst
       have hXb : X < 18446744073709551616:=by omega
       have hnx : Hid (∀ (v1 : Value) (w1 : World) (Z : Int),Z = ((X / p % 4294967296 : Nat) : Int) -> w1.ownsRow wo.heap.size 71 1 v1 (i + 1) (o.map limb ++ [.int .u32 Z]) -> Below wo.heap.size wo w1 -> ShrR wo s rs (i + 1) v1 w1):=fun v1 w1 Z hZ h1 h2=>by
        refine ⟨o ++ [X / p % 4294967296],OwnL.snoc hol.out.symm h1 hown.2 hZ (Nat.mod_lt _ (by decide)),by rw [List.length_append,hol.out];rfl,?_,h2⟩;rw [Zdo,hol.out,hp];have h3:=hI.out;rw [hp,hst.out] at h3;rw [<- h3,Zal,Nat.mul_add,Nat.mul_comm 4294967296 (pw i),Nat.mul_assoc];omega
       have hval : ∀ Y : Int,Y = (X : Int) -> Y / 2 ^ s % 4294967296 = ((X / p % 4294967296 : Nat) : Int):=fun Y hY=>by
        rw [hY,hpc,show (X : Int) / (p : Int) = ((X / p : Nat) : Int) from rfl]
        generalize X / p = z at *
        omega
       have hvw : ∀ Y : Int,Y = (X : Int) -> IntKind.u32.wrap (Y / 2 ^ s) = ((X / p % 4294967296 : Nat) : Int):=fun Y hY=>by
        rw [IntKind.wrap_u32];exact hval Y hY
       replace hval:=Zb hval;replace hvw:=Zb hvw;replace hpc:=Zb hpc;replace hp:=Zb hp
       by_cases him2 : i + 1 < m
       ·have hcj:=hLt2.cell him2
        rw [Nat.zero_add] at hcj
        have hXe : Hid ((y0 : Int) + (y1 : Int) * 4294967296 = (X : Int)):=by unfold Hid;omega
        replace hX:=Zb hX;rw [hy1] at hcj;replace hy1:=Zb hy1;go_wp2_with (at_builtin;refine Zq _ rfl (.tmp 101) (.tmp 106) 24 rfl wo.heap.size 71 i0 _ 1 4 Try.underlying24 hi hz0 hz1 hz2 rfl (by omega) _ i (o.map limb) rfl (by have:=hol.out;subst this;exact hown.1.alloc _) _ _ 1 1 _ rfl (Za6 _ _ _) (by simp [Value.oneCell']) (by simp only [maxLen];omega) (by omega) (by have:=hB.size;simp;omega) ?_;intro v1 w1 hown1 hg1 hat1);have hB1:=(hB.alloc hB.size _).grown hg1 (by have:=hB.size;simp;omega) hown.row_ge
        go_roundw
        case rel=>((repeat apply Exists.intro);exact ⟨⟨i + 1,by omega,by go_num,hnx.out _ _ _ (by first | exact hvw.out _ hXe.out | exact hval.out _ hXe.out) hown1 hB1⟩,rfl⟩)
        case measure=>simp [intOf];omega
       ·have hXe : Hid ((y0 : Int) = (X : Int)):=by
          have : y1 = 0:=by rw [<- hy1];exact Zbv (by rw [hrl.out];omega)
          unfold Hid;omega
        replace hX:=Zb hX;replace hy1:=Zb hy1;have d9 : decide (i + 1 < m) = false:=decide_eq_false him2;have d8 : decide ((i : Int) + 1 < (m : Int)) = false:=decide_eq_false (by omega);go_wp2_with (at_builtin;refine Zq _ rfl (.tmp 101) (.tmp 106) 24 rfl wo.heap.size 71 i0 _ 1 4 Try.underlying24 hi hz0 hz1 hz2 rfl (by omega) _ i (o.map limb) rfl (by have:=hol.out;subst this;exact hown.1.alloc _) _ _ 1 1 _ rfl (Za6 _ _ _) (by simp [Value.oneCell']) (by simp only [maxLen];omega) (by omega) (by have:=hB.size;simp;omega) ?_;intro v1 w1 hown1 hg1 hat1);have hB1:=(hB.alloc hB.size _).grown hg1 (by have:=hB.size;simp;omega) hown.row_ge
        go_roundw
        case rel=>((repeat apply Exists.intro);exact ⟨⟨i + 1,by omega,by go_num,hnx.out _ _ _ (by first | exact hvw.out _ hXe.out | exact hval.out _ hXe.out) hown1 hB1⟩,rfl⟩)
        case measure=>simp [intOf];omega
      ·obtain rfl : i = m:=by omega
       have hI2 : Hid (val o = a % b):=by
        have h1:=hI.out;rw [List.drop_of_length_le (by rw [hrl.out];exact Nat.le_refl _)] at h1;simp only [val,Nat.zero_div,Nat.mul_zero,Nat.add_zero] at h1;unfold Hid;rw [h1];exact hsh.out
       obtain ⟨A6,c6,hv6,hL6⟩:=hown.lim;rw [hol.out] at hv6 hL6;subst hv6;have hLq2:=hLq.below hB;go_wp2_with fail;refine (Zdc _ _ _ _ _ hLq2 (by omega)).mono ?_;rintro e w7 ⟨A7,n7,c7,l7,rfl,hL7,rfl,hb7⟩;go_wp2_with fail;refine (Zdc _ _ _ _ _ (hL6.below hb7) (by omega)).mono ?_;rintro e w8 ⟨A8,n8,c8,l8,rfl,hL8,rfl,hb8⟩;rw [e1.out] at hL7;rw [hI2.out] at hL8;go_wp2_with fail
       go_ret2
       have hBB : Below w.heap.size w wr:=hBr.trans (hB.mono hBr.size);exact ⟨_,_,_,_,_,_,rfl,hL7.below hb8,hL8,(hBB.trans (hb7.mono hBB.size)).trans (hb8.mono (Nat.le_trans hBB.size hb7.size))⟩
    ·have hD':=hD
     obtain ⟨d1,d2,d3,d4,d5,d6,d7⟩:=hD';replace d3:=Zb d3;replace d5:=Zb d5;replace d7:=Zb d7;have hcq:=hBq.cell k;rw [Zab lq k (by rw [hq.out];omega)] at hcq;have hfq:=hBq.frozen k;go_wp2_with fail;have hVm : 2 ^ s * b <= pw m:=Nat.le_of_lt hVlt;obtain ⟨hw1,hw2⟩:=hD.win hVm
     have hwlen : ((lu.drop k).take (m + 1)).length = m + 1:=by rw [List.length_take,List.length_drop,d3.out];omega
     have hMw : MutL wr g4 k ((lu.drop k).take (m + 1)):=by
      have:=hM.win (k:=k) (n:=m + 1) (by rw [d3.out];omega)
      rwa [Nat.zero_add] at this
     have hwlt : val ((lu.drop k).take (m + 1)) < 4294967296 * val (o3.take m):=by rw [hw1,hvl.out];exact hw2
     rw [show k + m + 1 - k = m + 1 by omega];refine (Zrx g4 k m (c4 - k) c3 g3 0 _ _ _ hMw hwlen ((d1.drop k).take (m + 1)) (by omega) (by unfold maxLen;omega) (by omega) (by omega) hLr hne34 hwlt htv).mono ?_;rintro e w5 ⟨l,rfl,hll,hlt',hlv,hM5,hF5⟩
     have hQlt : val ((lu.drop k).take (m + 1)) / val (o3.take m) < 4294967296:=by
      have hV0 : 0 < val (o3.take m):=by
       rcases Nat.eq_zero_or_pos (val (o3.take m)) with h0 | h0
       ·rw [h0] at hwlt;omega
       ·exact h0
      rw [Nat.div_lt_iff_lt_mul hV0];exact hwlt
     rw [hwlen] at hll hF5;have hfin:=DivR.step2 (wr:=wr) hD hq.out hM hBq hLr hBr hvl.out hll hlt' hlv hQlt hM5 hF5 hne hA3 hgs hw4.size;have hBq5 : Blk w5 w4.heap.size 71 (Zt lq):=(hF5.1.block _ hBq.lt (fun e=>hne (by injection e with e;exact e.symm))).trans hBq;have hcq5:=hBq5.cell k;rw [Zab lq k (by rw [hq.out];omega)] at hcq5;have hfq5:=hBq5.frozen k;obtain ⟨Q,hQ⟩ : ∃ Q,val ((lu.drop k).take (m + 1)) / val (o3.take m) = Q:=⟨_,rfl⟩;rw [hQ] at hfin hQlt ⊢;clear hcq hfq hlv hll hQ hw1 hwlen hwlt hw2;replace hfin:=Zb hfin;go_wp2_with fail
     go_roundw
     case rel=>exact ⟨k,by omega,by go_num,hfin.out⟩
     case measure=>simp [intOf] <;> omega
theorem Zhr (A B : Option Addr) (n c m d : Nat) (a b : Nat) (w : World) (ha : Lim w A n c (digits a)) (hb : Lim w B m d (digits b)) (hn : n <= 100000) (hb0 : 0 < b) :
    Calls Try.prog 70 #[.slice A n c,.slice B m d] w (Zmm w a b):=by
 rcases Nat.lt_or_ge a b with h | h
 ·exact Zrv A B n c m d a b w ha hb hn h
 ·rcases Nat.lt_or_ge m 2 with h2 | h2
  ·have h1 : 0 < (digits b).length:=length_digits_pos.2 hb0
   rw [hb.len] at h1;exact Ztq A B n c m d a b w ha hb hn h (by omega)
  ·exact Zrw A B n c m d a b w ha hb hn h h2
theorem Zqa (neg : Bool) (A : Option Addr) (n c : Nat) (z : Int) (w : World) (hz : Wd w neg A n c z) :
    Calls Try.prog 48 #[.agg #[.bool neg,.slice A n c]] w (ResW w (-z)):=by
 have hL:=hz.lim;have hn:=hz.2.1
 have hB0 : ∀ X Y : Obj,Below w.heap.size w ((w.alloc X).alloc Y):=fun X Y=>((Below.refl w.heap.size w).alloc (Nat.le_refl _) _).alloc (by simp) _
 have hB0:=Zb hB0;have hgood : Hid (okW neg (digits z.natAbs) = true):=hz.ok;have hsg:=Zb hz.sgEq;clear hz;go_enter Try.func48,Try.ntmps48;go_wp2_with fail;refine (Zgo ((hL.alloc _).alloc _) hgood.out).mono ?_;rintro e w1 ⟨rfl,hb1⟩;obtain ⟨hc1,hf1⟩:=Zca hb1
 have hz1 : w.heap.size + 1 < w1.heap.size:=by have:=hb1.size;simp at this;omega
 have hB1 : Below w.heap.size w w1:=(hB0.out _ _).trans (hb1.mono (by simp;omega))
 have g7 : Hid (Blk w1 (w.heap.size + 1) 26 #[.bool false,.slice none 0 0]):=by
  refine Zd hb1 ?_;have:=Blk.new (w.alloc (.cells #[.bool neg,.slice A n c] 26)) 26 #[.bool false,.slice none 0 0];simp only [World.size_alloc] at this;exact this
 have hL1:=hL.below hB1;go_wp2_with fail;refine (Zax _ _ _ _ _ _ hL1 (by omega)).mono ?_;rintro e w2 ⟨hb2,neg3,A3,n3,c3,code3,rfl,hR3⟩;have hB2 : Below w.heap.size w w2:=hB1.trans (hb2.mono hB1.size);have m8:=Zd hb2 g7.out;have m3:=m8.cell 0;have m4:=m8.cell 1;have m5:=m8.frozen 0;have m6:=m8.frozen 1
 simp at m3 m4
 replace m8:=Zb m8;clear hc1 hf1;go_wp2_with fail
 have HZ : sg (!neg) (val (digits z.natAbs)) = -z:=by have h1:=hsg.out;rw [Zpi,h1]
 refine bodyPost_ret (v:=.tuple #[.agg #[.bool neg3,.slice A3 n3 c3],.int .i64 code3]) (by simp [results,Try.results48,go_sem,m3,m4]) rfl ?_;exact ResW.box (HZ ▸ hR3) hB2 (by omega) m8.out
theorem Zmd (na nb : Bool) (A B : Option Addr) (n c m d : Nat) (za zb : Int) (w : World) (ha : Wd w na A n c za) (hb : Wd w nb B m d zb) :
    Calls Try.prog 65 #[.agg #[.bool na,.slice A n c],.agg #[.bool nb,.slice B m d]] w (ResW w (Nat.gcd za.natAbs zb.natAbs : Nat)):=by
 have hLa:=ha.lim;have hLb:=hb.lim;have hn:=ha.2.1;have hm:=hb.2.1
 have hB0 : ∀ X Y Z : Obj,Below w.heap.size w (((w.alloc X).alloc Y).alloc Z):=fun X Y Z=>(((Below.refl w.heap.size w).alloc (Nat.le_refl _) _).alloc (by simp) _).alloc (by simp;omega) _
 have hB0:=Zb hB0
 have hgood : Hid ((okW na (digits za.natAbs) && okW nb (digits zb.natAbs)) = true):=by unfold Hid;rw [ha.ok,hb.ok];rfl
 clear ha hb
 generalize za.natAbs = va at *
 generalize zb.natAbs = vb at *
 obtain ⟨G,hG⟩ : ∃ G,Nat.gcd va vb = G:=⟨_,rfl⟩;rw [hG];replace hG:=Zb hG;go_enter Try.func65,Try.ntmps65;go_wp2_with fail;refine (Zd5 (((hLa.alloc _).alloc _).alloc _) (((hLb.alloc _).alloc _).alloc _) hgood.out).mono ?_;rintro e w1 ⟨rfl,hb1⟩;obtain ⟨hc1,hf1⟩:=Zca hb1
 have hz1 : w.heap.size + 1 + 1 < w1.heap.size:=by have:=hb1.size;simp at this;omega
 have hB1 : Below w.heap.size w w1:=(hB0.out _ _ _).trans (hb1.mono (by simp;omega))
 have g1 : w1.cell? ⟨w.heap.size,1,none⟩ = some (.slice A n c):=by simp [hc1,go_sem]
 have g2 : w1.cell? ⟨w.heap.size + 1,1,none⟩ = some (.slice B m d):=by simp [hc1,go_sem]
 have g7 : Blk w1 (w.heap.size + 1 + 1) 26 #[.bool false,.slice none 0 0]:=by
  refine Zd hb1 ?_;have:=Blk.new ((w.alloc (.cells #[.bool na,.slice A n c] 26)).alloc (.cells #[.bool nb,.slice B m d] 26)) 26 #[.bool false,.slice none 0 0];simp only [World.size_alloc] at this;exact this
 have hLa1:=hLa.below hB1;have hLb1:=hLb.below hB1;replace g7:=Zb g7;clear hc1 hf1;go_wp2_with fail
 go_quiet (fail)
 have m7 : Hid (Blk (w1.drewN nq) (w.heap.size + 1 + 1) 26 #[.bool false,.slice none 0 0]):=Blk.drewN g7.out nq;have hB2 : Below w.heap.size w (w1.drewN nq):=Zr hB1 nq;go_wp2_with fail
 go_loopw [6,7] (fun xv yv wr=>GcdR w 26 G xv yv wr) (fun _ yv wr=>val (Zht wr yv))
 case atStart=>exact ⟨va,vb,_,_,_,_,_,_,rfl,rfl,hLa1,hLb1,hn,hm,hG.out,m7.out,hB2⟩
 case round =>
  obtain ⟨u,v,A5,n5,c5,B5,m5,d5,rfl,rfl,hLu,hLv,hn5,hm5,hg,hb7,hBr⟩:=hrel;replace hg:=Zb hg;replace hb7:=Zb hb7
  by_cases hm0 : 0 < m5
  ·have hv0 : 0 < v:=by rw [<- hLv.len] at hm0;exact length_digits_pos.1 hm0
   have hmem:=Zb hLv.mem;go_wp2_with fail;refine (Zhr _ _ _ _ _ _ u v _ hLu hLv (by omega) hv0).mono ?_;rintro e w5 ⟨A6,n6,c6,B6,m6,d6,rfl,hLq,hLr,hb5⟩;go_wp2_with fail
   go_roundw
   case rel=>exact ⟨v,u % v,_,_,_,_,_,_,rfl,rfl,hLv.below hb5,hLr,hm5,by have:=Zy (Nat.le_of_lt (Nat.mod_lt u hv0));rw [hLr.len,hLv.len] at this;omega,by rw [<- hg.out,Nat.gcd_comm u v,Nat.gcd_rec v u,Nat.gcd_comm],Zd hb5 hb7.out,hBr.trans (hb5.mono hBr.size)⟩
   case measure=>simp only [hmem.out,hLr.mem,Zg];exact Nat.mod_lt u hv0
  ·obtain rfl : m5 = 0:=by omega
   have hv0 : v = 0:=by
    rcases Nat.eq_zero_or_pos v with h | h
    ·exact h
    ·have:=length_digits_pos.2 h;rw [hLv.len] at this;omega
   subst hv0
   have hgu : Hid (u = G):=by have:=hg.out;rw [Nat.gcd_zero_right] at this;exact this
   have g8:=hb7.out;have g3:=g8.cell 0;have g4:=g8.cell 1;have g5:=g8.frozen 0;have g6:=g8.frozen 1
   simp at g3 g4
   clear g8;go_wp2_with fail;refine (Zax _ _ _ _ _ _ hLu (by omega)).mono ?_;rintro e w6 ⟨hb6,neg6,A7,n7,c7,code7,rfl,hR7⟩;have hB6 : Below w.heap.size w w6:=hBr.trans (hb6.mono hBr.size);have m8:=Zd hb6 hb7.out;have m3:=m8.cell 0;have m4:=m8.cell 1;have m5:=m8.frozen 0;have m6:=m8.frozen 1
   simp at m3 m4
   replace m8:=Zb m8;go_wp2_with fail
   have HZ : sg false (val (digits u)) = (G : Int):=by rw [Zg,hgu.out];rfl
   refine bodyPost_ret (v:=.tuple #[.agg #[.bool neg6,.slice A7 n7 c7],.int .i64 code7]) (by simp [results,Try.results65,go_sem,m3,m4]) rfl ?_;exact ResW.box (HZ ▸ hR7) hB6 (by omega) m8.out
end Go.Proofs.Ythappeninglakaa
