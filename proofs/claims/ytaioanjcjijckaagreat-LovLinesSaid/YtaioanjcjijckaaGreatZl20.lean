/- The reference of layer 1: over. Reference of wide: over, a -/
import Derived.Deep.LoopGhost
import Derived.Test.YtaioanjcjijckaaGreatZl19
set_option maxRecDepth 100000
set_option maxHeartbeats 4000000
set_option linter.unusedSimpArgs false
set_option linter.unusedVariables false
namespace Go.Proofs.YtaioanjcjijckaaGreat
open Go.RowKit
attribute [local go_sem] Zg
theorem DivR.step2 {w wr w5 : World} {g q : Nat} {A : Option Addr} {c m nq : Nat} {vl lu lq : List Nat} {a b s k : Nat} {l : List Nat} (hD : DivI (2 ^ s * a) (2 ^ s * b) m lu lq (k + 1)) (hq : lq.length = nq) (hM : MutL wr g 0 lu) (hB : Blk wr q 147 (Zn lq))
    (hL : Lim wr A m c vl) (hw : Below w.heap.size w wr) (hv : val vl = 2 ^ s * b) (hlen : l.length = m + 1) (hlt : Lt32 l) (hl : val l = val ((lu.drop k).take (m + 1)) % val vl) (hQ : val ((lu.drop k).take (m + 1)) / val vl < 4294967296)
    (hl5 : MutL w5 g k l) (hF : WinF wr g k (m + 1) w5) (hgq : g ≠ q) (hA : ∀ b o,A = some ⟨b,o,none⟩ -> b ≠ g /\ b ≠ q) (hg : w.heap.size <= g) (hqs : w.heap.size <= q) :
    DivR w g q A c m nq vl a b s k (w5.setCell ⟨q,k,none⟩ (limb (val ((lu.drop k).take (m + 1)) / val vl))):=by
 have hVm : 2 ^ s * b <= pw m:=by rw [<- hv];exact Nat.le_of_lt hL.lt_pw
 have hlen2 : k + l.length <= lu.length:=by have:=hD.2.2.1;have:=hD.2.2.2.1;omega
 have hB5 : Blk w5 q 147 (Zn lq):=(hF.1.block q hB.lt (fun e=>hgq (by injection e with e;exact e.symm))).trans hB
 refine ⟨splice lu k l,lq.set k (val ((lu.drop k).take (m + 1)) / val vl),hD.step hVm hlen hlt hQ (by rw [hv]) (by rw [<- hv];exact hl),by rw [List.length_set];exact hq,
  (Zot hM hlen2 (by rw [hlen];exact hF) hl5).far hgq,?_,Lim.far ?_ (fun b o e=>(hA b o e).2),?_⟩
 ·rw [<- Za0];exact hB5.set_ _ _
 ·exact ⟨hL.1,hL.2.1,hL.2.2.1,hL.2.2.2.1,fun hn=>by
    obtain ⟨b,o,e,hc⟩:=hL.2.2.2.2 hn
    exact ⟨b,o,e,fun j hj=>(World.cell?_of_block (a:=⟨b,o + j,none⟩) (hF.1.block b (Zs (hc 0 hn)) (fun e2=>(hA b o e).1 (by injection e2)))).trans (hc j hj)⟩⟩
 ·exact (hw.grown hF.1 hw.size (fun j hj=>by injection hj with hj;omega)).setCell (p:=⟨q,k,none⟩) hqs _
def ShiftI (x : Nat) (sv : Value) : Prop:=∃ s : Nat,sv = .int .u64 (s : Int) /\ s <= 31 /\ 2 ^ s * x < 4294967296
def ShrR (w0 : World) (s : Nat) (rest : List Nat) (i : Nat) (v : Value) (wr : World) : Prop:=
 ∃ o,OwnL 147 wr w0.heap.size v o /\ o.length = i /\ val o + pw i * (val (rest.drop i) / 2 ^ s) = val rest / 2 ^ s /\ Below w0.heap.size w0 wr
theorem Zrk (A B : Option Addr) (n c m d : Nat) (a b : Nat) (w : World) (ha : Lim w A n c (digits a)) (hb : Lim w B m d (digits b)) (hn : n <= 100000) (h : a < b) :
    Calls Tryz.prog 136 #[.slice A n c,.slice B m d] w (Zjw w a b):=by
 have hcv : Hid (Za8 (digits a) (digits b) < 0):=by
  have:=(Zew (va:=a) (vb:=b));unfold Hid;omega
 obtain ⟨cv,hcv2⟩ : ∃ x : Int,Za8 (digits a) (digits b) = x:=⟨_,rfl⟩
 have hneg : cv < 0:=by rw [<- hcv2];exact hcv.out
 have HC:=Za hcv2;clear hcv hcv2;go_enter Tryz.func136,Tryz.ntmps136;go_wp2_with fail;refine (Zat _ _ _ _ _ _ _ _ _ ha hb).mono ?_;rintro e w1 ⟨he1,hb1⟩;rw [HC.out] at he1;subst he1;go_wp2_with fail;refine (Zct _ _ _ _ _ (ha.below hb1) (by omega)).mono ?_;rintro e w2 ⟨A2,n2,c2,l2,rfl,hL,hl2,hb2⟩;replace hl2:=Za hl2;go_wp2_with fail
 go_ret2
 have hB : Below w.heap.size w w2:=hb1.trans (hb2.mono hb1.size);exact ⟨_,_,_,_,_,_,rfl,by rw [Nat.div_eq_of_lt h,Zy];exact Lim.nil _ _ _ (Nat.zero_le _),by rw [Nat.mod_eq_of_lt h];have:=hl2.out;rw [Zf] at this;rw [<- this];exact hL,hB⟩
theorem Ztg (A B : Option Addr) (n c m d : Nat) (a b : Nat) (w : World) (ha : Lim w A n c (digits a)) (hb : Lim w B m d (digits b)) (hn : n <= 100000) (h : b <= a) (hm : m = 1) :
    Calls Tryz.prog 136 #[.slice A n c,.slice B m d] w (Zjw w a b):=by
 subst hm;have hnc:=ha.2.1;have hcm:=ha.2.2.1;have hmd:=hb.2.1;have hdm:=hb.2.2.1;unfold maxLen at hcm hdm;obtain ⟨cv,hcv2⟩ : ∃ x : Int,Za8 (digits a) (digits b) = x:=⟨_,rfl⟩
 have hneg : ¬ cv < 0:=by rw [<- hcv2];have:=(Zew (va:=a) (vb:=b));omega
 have hneg' : decide (cv < 0) = false:=by simpa using hneg
 have HC:=Za hcv2;clear hcv2 hneg;obtain ⟨hd1,hb0,hb32⟩:=Zix hb.len;obtain ⟨g,o,rfl,hcell⟩:=hb.at_ (k:=0) (by omega);rw [hd1] at hcell
 simp at hcell
 replace hd1:=Za hd1;have hva:=Za (Zf a);go_enter Tryz.func136,Tryz.ntmps136;go_wp2_with fail;refine (Zat _ _ _ _ _ _ _ _ _ ha hb).mono ?_;rintro e w1 ⟨he1,hb1⟩;rw [HC.out] at he1;subst he1;have hcell1:=Zc hb1 hcell;go_wp2_with fail;refine (Ziw _ _ _ b _ _ (ha.below hb1) hb0 hb32 (by omega)).mono ?_;rintro e w2 ⟨A2,n2,c2,A3,n3,c3,rfl,hL2,hL3,hb2⟩;rw [hva.out] at hL2 hL3;go_wp2_with fail
 go_ret2
 exact ⟨_,_,_,_,_,_,rfl,hL2,hL3,hb1.trans (hb2.mono hb1.size)⟩
theorem Zro (A B : Option Addr) (n c m d : Nat) (a b : Nat) (w : World) (ha : Lim w A n c (digits a)) (hb : Lim w B m d (digits b)) (hn : n <= 100000) (h : b <= a) (hm : 2 <= m) :
    Calls Tryz.prog 136 #[.slice A n c,.slice B m d] w (Zjw w a b):=by
 have hnc:=ha.2.1;have hcm:=ha.2.2.1;have hmd:=hb.2.1;have hdm:=hb.2.2.1;unfold maxLen at hcm hdm
 have hmn : m <= n:=by have:=Zr h;rw [ha.len,hb.len] at this;exact this
 obtain ⟨i0,hi,hz0,hz1,hz2⟩:=info_parts Zbw;have hmk:=Zdx (P:=Tryz.prog) 25 147 Tryz.underlying25 hi hz0 hz1 hz2 ((n : Int) + 1 - m) (n + 1 - m) (by omega) (by omega);obtain ⟨cv,hcv2⟩ : ∃ x : Int,Za8 (digits a) (digits b) = x:=⟨_,rfl⟩
 have hneg : ¬ cv < 0:=by rw [<- hcv2];have:=(Zew (va:=a) (vb:=b));omega
 have hneg' : decide (cv < 0) = false:=by simpa using hneg
 have HC:=Za hcv2;clear hcv2 hneg
 have hm1 : ((m : Int) == 1) = false:=by simp;omega
 obtain ⟨g,o,rfl,hcell⟩:=hb.at_ (k:=m - 1) (by omega);have hlen:=hb.len;have htop:=Zb4 (v:=b) (by omega);have htl:=Zma hlen (by omega);have htlt:=hb.lt.get (m - 1);have hblt:=Zaz b;rw [hlen] at htop hblt;have htl2:=Zfm hlen (by omega) hb.lt;rw [Zf] at htl htl2;obtain ⟨x,hx⟩ : ∃ x,(digits b)[m - 1]?.getD 0 = x:=⟨_,rfl⟩;rw [hx] at hcell htop htl htlt htl2;replace hlen:=Za hlen;replace hx:=Za hx;have hva:=Za (Zf a);have hvb:=Za (Zf b);go_enter Tryz.func136,Tryz.ntmps136;go_wp2_with fail;refine (Zat _ _ _ _ _ _ _ _ _ ha hb).mono ?_;rintro e w1 ⟨he1,hb1⟩;rw [HC.out] at he1;subst he1;have hcell1:=Zc hb1 hcell
 have hxp : 0 < x:=by omega
 go_wp2_with fail
 go_loop [7] (fun sv=>ShiftI x sv) (fun sv=>31 - (intOf sv).toNat)
 case atStart=>exact ⟨0,rfl,by omega,by simpa using htlt⟩
 case round =>
  obtain ⟨s,rfl,hs31,hsx⟩:=hrel
  have hwx : IntKind.u32.wrap ((x : Int) * 2 ^ s) = ((2 ^ s * x : Nat) : Int):=by
   have e1 : ((x : Int) * 2 ^ s) = ((2 ^ s * x : Nat) : Int):=by push_cast;rw [Int.mul_comm]
   rw [e1,IntKind.wrap_u32];omega
  obtain ⟨y,hy⟩ : ∃ y,2 ^ s * x = y:=⟨_,rfl⟩;rw [hy] at hwx hsx
  by_cases hlt2 : y < 2147483648
  ·have hs30 : s < 31:=by
     rcases Nat.lt_or_ge s 31 with h' | h'
     ·exact h'
     ·exfalso
      obtain rfl : s = 31:=by omega
      have : 2 ^ 31 * 1 <= 2 ^ 31 * x:=Nat.mul_le_mul_left _ hxp;rw [hy] at this
      simp at this
      omega
   have hy2 : 2 ^ (s + 1) * x < 4294967296:=by rw [Nat.pow_succ,Nat.mul_comm (2 ^ s),Nat.mul_assoc,hy];omega
   replace hy:=Za hy;have d1 : decide (y < 2147483648) = true:=decide_eq_true hlt2;have d2 : decide ((y : Int) < 2147483648) = true:=decide_eq_true (by omega);clear hlt2;go_wp2_with fail;exact ⟨⟨s + 1,by go_num,by omega,hy2⟩,by simp [intOf];omega⟩
  ·replace hy:=Za hy
   have d1 : decide (y < 2147483648) = false:=decide_eq_false hlt2;have d2 : decide ((y : Int) < 2147483648) = false:=decide_eq_false (by omega);clear hlt2;go_wp2_with fail
   have hyb : 2147483648 <= y:=by have:=of_decide_eq_false d1;omega
   clear d1 d2
   have hs : s < 32:=by omega
   have hxs : x + 1 <= 2 ^ (32 - s):=by
    have h1 : 2 ^ s * x < 2 ^ s * 2 ^ (32 - s):=by
     rw [<- Nat.pow_add,show s + (32 - s) = 32 by omega,hy.out];exact hsx
    exact Nat.lt_of_mul_lt_mul_left h1
   have ha1:=ha.below hb1;have hb1':=hb.below hb1;refine (Zhe _ m d s (digits b) _ hb1' hs (by omega)).mono ?_;rintro e w3 ⟨v3,o3,rfl,hO3,hl3,hv3,hb3⟩;obtain ⟨g3,c3,hv3',hg3,hg3s,hc3,hcm3,hM3⟩:=hO3.mut (by omega);rw [hl3] at hv3' hc3;subst hv3';have hL3 : Lim w3 (some ⟨g3,0,none⟩) (m + 1) c3 o3:=hM3.lim hl3 hc3 hcm3 hO3.2;unfold maxLen at hcm3;replace hl3:=Za hl3;replace hv3:=Za hv3;clear hO3 hM3;go_wp2_with fail;refine (Zhe A n c s (digits a) _ (ha1.below hb3) hs (by omega)).mono ?_;rintro e w4 ⟨v4,o4,rfl,hO4,hl4,hv4,hb4⟩;obtain ⟨g4,c4,hv4',hg4,hg4s,hc4,hcm4,hM4⟩:=hO4.mut (by omega);rw [hl4] at hv4' hc4;subst hv4';unfold maxLen at hcm4;replace hl4:=Za hl4;replace hv4:=Za hv4;go_wp2_with fail;replace hvb:=hvb.out;replace hva:=hva.out;rw [hvb] at hv3;rw [hva] at hv4;have hl3':=hl3.out;have hv3':=hv3.out
   have hp31 : 2 ^ s * (x + 1) <= 4294967296:=by
    have h1 : 2 ^ s * (x + 1) <= 2 ^ s * 2 ^ (32 - s):=Nat.mul_le_mul_left _ hxs;rw [<- Nat.pow_add,show s + (32 - s) = 32 by omega] at h1;exact h1
   have hVlt : 2 ^ s * b < pw m:=by
    have h1 : 2 ^ s * b < 2 ^ s * ((x + 1) * pw (m - 1)):=Nat.mul_lt_mul_of_pos_left htl2 (Nat.pow_pos (by omega))
    have h2 : 2 ^ s * ((x + 1) * pw (m - 1)) <= 4294967296 * pw (m - 1):=by rw [<- Nat.mul_assoc];exact Nat.mul_le_mul_right _ hp31
    rw [<- Zai,show m - 1 + 1 = m by omega] at h2;omega
   have hvl : val (o3.take m) = 2 ^ s * b:=by
    have h1:=Z2 o3 m (by omega)
    rcases Nat.eq_zero_or_pos (val (o3.drop m)) with h0 | h0
    ·rw [h0] at h1;omega
    ·have:=Nat.mul_le_mul_left (pw m) h0;omega
   have hLv:=(hL3.take (k:=m) (by omega)).below hb4
   have hbp : y * pw (m - 1) <= 2 ^ s * b:=by
    have h1 : 2 ^ s * (x * pw (m - 1)) <= 2 ^ s * b:=Nat.mul_le_mul_left _ htl;rw [<- Nat.mul_assoc,hy.out] at h1;exact h1
   have htv : 2147483648 <= (o3.take m)[m - 1]?.getD 0:=by
    have h1:=Zfm (v:=o3.take m) (n:=m) (by rw [List.length_take,hl3'];omega) (by omega) hLv.lt;rw [hvl] at h1;have h2:=Nat.lt_of_mul_lt_mul_right (Nat.lt_of_le_of_lt hbp h1);omega
   have hw4 : Below w.heap.size w w4:=(hb1.trans (hb3.mono hb1.size)).trans (hb4.mono (Nat.le_trans hb1.size hb3.size))
   have hstart : DivR w g4 w4.heap.size (some ⟨g3,0,none⟩) c3 m (n + 1 - m) (o3.take m) a b s (n + 1 - m) (w4.alloc (.cells (Zn (List.replicate (n + 1 - m) 0)) 147)):=by
    have h1:=DivI.start (a:=digits a) (b:=digits b) (u:=o4) (s:=s) (n:=m) (by rw [hva];exact hv4.out) (by rw [hl4.out,ha.len]) hO4.2 (by rw [ha.len];exact hmn) ha.lt (by rw [hvb];have:=Nat.mul_le_mul_right (pw (m - 1)) (show 1 <= x by omega);omega) (by omega);rw [hva,hvb,ha.len] at h1;exact ⟨o4,_,h1,by simp,hM4.below ((Below.refl _ _).alloc (Nat.le_refl _) _),Blk.new _ _ _,hLv.alloc _,hw4.alloc hw4.size _⟩
   have hA3 : ∀ b o,some (⟨g3,0,none⟩ : Addr) = some ⟨b,o,none⟩ -> b ≠ g4 /\ b ≠ w4.heap.size:=fun b o e=>by
    injection e with e
    injection e with e1 e2
    have:=hb4.size;omega
   have hgs : w.heap.size <= g4:=by have:=hb1.size;have:=hb3.size;omega
   have hne : g4 ≠ w4.heap.size:=by omega
   have hne34 : g3 ≠ g4:=by omega
   clear hM4 hO4 hl4 hv4 hv3 hl3 hva hvb hcell hcell1 hv3' hl3';replace hvl:=Za hvl;replace hbp:=Za hbp
   go_loopw [11] (fun jv wr=>∃ k : Nat,k <= n + 1 - m /\ jv = .int .i64 ((k : Int) - 1) /\ DivR w g4 w4.heap.size (some ⟨g3,0,none⟩) c3 m (n + 1 - m) (o3.take m) a b s k wr) (fun jv _=>(intOf jv + 1).toNat)
   case atStart=>exact ⟨n + 1 - m,Nat.le_refl _,rfl,hstart⟩
   case round =>
    obtain ⟨k,hk,rfl,lu,lq,hD,hq,hM,hBq,hLr,hBr⟩:=hrel;replace hq:=Za hq
    rcases k with _ | k
    ·obtain ⟨e1,e2⟩:=hD.stop
     have hb0 : 0 < b:=by
      rcases Nat.eq_zero_or_pos b with h0 | h0
      ·subst h0
       rw [Zy] at hlen;have:=hlen.out
       simp at this
       omega
      ·exact h0
     have hLu : Lim wr (some ⟨g4,0,none⟩) (n + 1) c4 lu:=hM.lim (by have:=hD.2.2.1;have:=hq.out;omega) hc4 (by unfold maxLen;omega) hD.1
     have hLq : Lim wr (some ⟨w4.heap.size,0,none⟩) (n + 1 - m) (n + 1 - m) lq:=by
      have:=Lim.of_blk hBq hD.2.1 (by rw [hq.out];unfold maxLen;omega);rw [hq.out] at this;exact this
     have hlu : val (lu.take m) = 2 ^ s * (a % b):=by
      have h1:=Z2 lu m (by rw [hLu.len];omega);have h2 : 2 ^ s * (a % b) < 2 ^ s * b:=Nat.mul_lt_mul_of_pos_left (Nat.mod_lt _ hb0) (Nat.pow_pos (by omega))
      rcases Nat.eq_zero_or_pos (val (lu.drop m)) with h0 | h0
      ·rw [h0] at h1;omega
      ·have:=Nat.mul_le_mul_left (pw m) h0;omega
     have hLt:=hLu.take (k:=m) (by omega)
     have hsh : Hid (val (lu.take m) / 2 ^ s = a % b):=by
      unfold Hid;rw [hlu,Nat.mul_div_cancel_left _ (Nat.pow_pos (by omega))]
     obtain ⟨rs,hrs⟩ : ∃ rs,lu.take m = rs:=⟨_,rfl⟩;rw [hrs] at hLt hsh;have hrl:=Za hLt.len;replace e1:=Za e1;clear hD e2 hlu hrs hM hBq hLu hbp hvl htv hVlt;go_wp2_with fail;obtain ⟨wo,rfl⟩ : ∃ wo : World,wo = wr:=⟨_,rfl⟩
     go_loopw [14,13] (fun iv ov wr=>∃ i : Nat,i <= m /\ iv = .int .i64 i /\ ShrR wo s rs i ov wr) (fun iv _ _=>m - (intOf iv).toNat)
     case atStart=>exact ⟨0,Nat.zero_le _,rfl,[],OwnL.nil _ _ _,rfl,by simp [val,Zbr],Below.refl _ _⟩
     case round =>
      obtain ⟨i,hi1,rfl,o,hown,hol,hI,hB⟩:=hrel;replace hol:=Za hol;replace hI:=Za hI;have hLt2:=hLt.below hB
      by_cases him : i < m
      ·have hst:=Ztb (r:=rs) (i:=i) (s:=s) (by omega) (by rw [hrl.out];exact him) hLt.lt
       have hci:=hLt2.cell him;rw [Nat.zero_add] at hci;have hxi:=hLt.lt.get i;have hxj:=hLt.lt.get (i + 1);obtain ⟨p,hp⟩ : ∃ p,2 ^ s = p:=⟨_,rfl⟩
       have hp0 : 0 < p:=by rw [<- hp];exact Nat.pow_pos (by omega)
       have hp0' : (0 : Int) < (p : Int):=by omega
       have hpc : ((2 : Int) ^ s) = (p : Int):=by rw [<- hp];push_cast;rfl
       rw [hp] at hst;obtain ⟨y0,hy0⟩ : ∃ y,rs[i]?.getD 0 = y:=⟨_,rfl⟩;obtain ⟨y1,hy1⟩ : ∃ y,rs[i + 1]?.getD 0 = y:=⟨_,rfl⟩;rw [hy0] at hci hxi hst;rw [hy1] at hxj hst;replace hst:=Za hst;replace hy0:=Za hy0;obtain ⟨X,hX⟩ : ∃ X,y0 + 4294967296 * y1 = X:=⟨_,rfl⟩;rw [hX] at hst
       have hXb : X < 18446744073709551616:=by omega
       have hnx : Hid (∀ (v1 : Value) (w1 : World) (Z : Int),Z = ((X / p % 4294967296 : Nat) : Int) -> w1.ownsRow wo.heap.size 147 1 v1 (i + 1) (o.map limb ++ [.int .u32 Z]) -> Below wo.heap.size wo w1 -> ShrR wo s rs (i + 1) v1 w1):=fun v1 w1 Z hZ h1 h2=>by
        refine ⟨o ++ [X / p % 4294967296],OwnL.snoc hol.out.symm h1 hown.2 hZ (Nat.mod_lt _ (by decide)),by rw [List.length_append,hol.out];rfl,?_,h2⟩;rw [Zcd,hol.out,hp];have h3:=hI.out;rw [hp,hst.out] at h3;rw [<- h3,Zai,Nat.mul_add,Nat.mul_comm 4294967296 (pw i),Nat.mul_assoc];omega
       have hval : ∀ Y : Int,Y = (X : Int) -> Y / 2 ^ s % 4294967296 = ((X / p % 4294967296 : Nat) : Int):=fun Y hY=>by
        rw [hY,hpc,show (X : Int) / (p : Int) = ((X / p : Nat) : Int) from rfl]
        generalize X / p = z at *
        omega
       have hvw : ∀ Y : Int,Y = (X : Int) -> IntKind.u32.wrap (Y / 2 ^ s) = ((X / p % 4294967296 : Nat) : Int):=fun Y hY=>by
        rw [IntKind.wrap_u32];exact hval Y hY
       replace hval:=Za hval;replace hvw:=Za hvw;replace hpc:=Za hpc;replace hp:=Za hp
       by_cases him2 : i + 1 < m
       ·have hcj:=hLt2.cell him2
        rw [Nat.zero_add] at hcj
        have hXe : Hid ((y0 : Int) + (y1 : Int) * 4294967296 = (X : Int)):=by unfold Hid;omega
        replace hX:=Za hX;rw [hy1] at hcj;replace hy1:=Za hy1;go_wp2_with (at_builtin;refine Zo _ rfl (.tmp 101) (.tmp 106) 25 rfl wo.heap.size 147 i0 _ 1 4 Tryz.underlying25 hi hz0 hz1 hz2 rfl (by omega) _ i (o.map limb) rfl (by have:=hol.out;subst this;exact hown.1.alloc _) _ _ 1 1 _ rfl (Zar _ _ _) (by simp [Value.oneCell']) (by simp only [maxLen];omega) (by omega) (by have:=hB.size;simp;omega) ?_;intro v1 w1 hown1 hg1 hat1);have hB1:=(hB.alloc hB.size _).grown hg1 (by have:=hB.size;simp;omega) hown.row_ge
        go_roundw
        case rel=>((repeat apply Exists.intro);exact ⟨⟨i + 1,by omega,by go_num,hnx.out _ _ _ (by first | exact hvw.out _ hXe.out | exact hval.out _ hXe.out) hown1 hB1⟩,rfl⟩)
        case measure=>simp [intOf];omega
       ·have hXe : Hid ((y0 : Int) = (X : Int)):=by
          have : y1 = 0:=by rw [<- hy1];exact getD_none (by rw [hrl.out];omega)
          unfold Hid;omega
        replace hX:=Za hX;replace hy1:=Za hy1;have d9 : decide (i + 1 < m) = false:=decide_eq_false him2;have d8 : decide ((i : Int) + 1 < (m : Int)) = false:=decide_eq_false (by omega);go_wp2_with (at_builtin;refine Zo _ rfl (.tmp 101) (.tmp 106) 25 rfl wo.heap.size 147 i0 _ 1 4 Tryz.underlying25 hi hz0 hz1 hz2 rfl (by omega) _ i (o.map limb) rfl (by have:=hol.out;subst this;exact hown.1.alloc _) _ _ 1 1 _ rfl (Zar _ _ _) (by simp [Value.oneCell']) (by simp only [maxLen];omega) (by omega) (by have:=hB.size;simp;omega) ?_;intro v1 w1 hown1 hg1 hat1);have hB1:=(hB.alloc hB.size _).grown hg1 (by have:=hB.size;simp;omega) hown.row_ge
        go_roundw
        case rel=>((repeat apply Exists.intro);exact ⟨⟨i + 1,by omega,by go_num,hnx.out _ _ _ (by first | exact hvw.out _ hXe.out | exact hval.out _ hXe.out) hown1 hB1⟩,rfl⟩)
        case measure=>simp [intOf];omega
      ·obtain rfl : i = m:=by omega
       have hI2 : Hid (val o = a % b):=by
        have h1:=hI.out;rw [List.drop_of_length_le (by rw [hrl.out];exact Nat.le_refl _)] at h1;simp only [val,Nat.zero_div,Nat.mul_zero,Nat.add_zero] at h1;unfold Hid;rw [h1];exact hsh.out
       obtain ⟨A6,c6,hv6,hL6⟩:=hown.lim;rw [hol.out] at hv6 hL6;subst hv6;have hLq2:=hLq.below hB;go_wp2_with fail;refine (Zct _ _ _ _ _ hLq2 (by omega)).mono ?_;rintro e w7 ⟨A7,n7,c7,l7,rfl,hL7,rfl,hb7⟩;go_wp2_with fail;refine (Zct _ _ _ _ _ (hL6.below hb7) (by omega)).mono ?_;rintro e w8 ⟨A8,n8,c8,l8,rfl,hL8,rfl,hb8⟩;rw [e1.out] at hL7;rw [hI2.out] at hL8;go_wp2_with fail
       go_ret2
       have hBB : Below w.heap.size w wr:=hBr.trans (hB.mono hBr.size);exact ⟨_,_,_,_,_,_,rfl,hL7.below hb8,hL8,(hBB.trans (hb7.mono hBB.size)).trans (hb8.mono (Nat.le_trans hBB.size hb7.size))⟩
    ·have hD':=hD
     obtain ⟨d1,d2,d3,d4,d5,d6,d7⟩:=hD';replace d3:=Za d3;replace d5:=Za d5;replace d7:=Za d7;have hcq:=hBq.cell k;rw [Z7 lq k (by rw [hq.out];omega)] at hcq;have hfq:=hBq.frozen k;go_wp2_with fail;have hVm : 2 ^ s * b <= pw m:=Nat.le_of_lt hVlt;obtain ⟨hw1,hw2⟩:=hD.win hVm
     have hwlen : ((lu.drop k).take (m + 1)).length = m + 1:=by rw [List.length_take,List.length_drop,d3.out];omega
     have hMw : MutL wr g4 k ((lu.drop k).take (m + 1)):=by
      have:=hM.win (k:=k) (n:=m + 1) (by rw [d3.out];omega)
      rwa [Nat.zero_add] at this
     have hwlt : val ((lu.drop k).take (m + 1)) < 4294967296 * val (o3.take m):=by rw [hw1,hvl.out];exact hw2
     rw [show k + m + 1 - k = m + 1 by omega];refine (Zrp g4 k m (c4 - k) c3 g3 0 _ _ _ hMw hwlen ((d1.drop k).take (m + 1)) (by omega) (by unfold maxLen;omega) (by omega) (by omega) hLr hne34 hwlt htv).mono ?_;rintro e w5 ⟨l,rfl,hll,hlt',hlv,hM5,hF5⟩
     have hQlt : val ((lu.drop k).take (m + 1)) / val (o3.take m) < 4294967296:=by
      have hV0 : 0 < val (o3.take m):=by
       rcases Nat.eq_zero_or_pos (val (o3.take m)) with h0 | h0
       ·rw [h0] at hwlt;omega
       ·exact h0
      rw [Nat.div_lt_iff_lt_mul hV0];exact hwlt
     rw [hwlen] at hll hF5;have hfin:=DivR.step2 (wr:=wr) hD hq.out hM hBq hLr hBr hvl.out hll hlt' hlv hQlt hM5 hF5 hne hA3 hgs hw4.size;have hBq5 : Blk w5 w4.heap.size 147 (Zn lq):=(hF5.1.block _ hBq.lt (fun e=>hne (by injection e with e;exact e.symm))).trans hBq;have hcq5:=hBq5.cell k;rw [Z7 lq k (by rw [hq.out];omega)] at hcq5;have hfq5:=hBq5.frozen k;obtain ⟨Q,hQ⟩ : ∃ Q,val ((lu.drop k).take (m + 1)) / val (o3.take m) = Q:=⟨_,rfl⟩;rw [hQ] at hfin hQlt ⊢;clear hcq hfq hlv hll hQ hw1 hwlen hwlt hw2;replace hfin:=Za hfin;go_wp2_with fail
     go_roundw
     case rel=>exact ⟨k,by omega,by go_num,hfin.out⟩
     case measure=>simp [intOf] <;> omega
theorem Ze6 (A B : Option Addr) (n c m d : Nat) (a b : Nat) (w : World) (ha : Lim w A n c (digits a)) (hb : Lim w B m d (digits b)) (hn : n <= 100000) (hb0 : 0 < b) :
    Calls Tryz.prog 136 #[.slice A n c,.slice B m d] w (Zjw w a b):=by
 rcases Nat.lt_or_ge a b with h | h
 ·exact Zrk A B n c m d a b w ha hb hn h
 ·rcases Nat.lt_or_ge m 2 with h2 | h2
  ·have h1 : 0 < (digits b).length:=length_digits_pos.2 hb0
   rw [hb.len] at h1;exact Ztg A B n c m d a b w ha hb hn h (by omega)
  ·exact Zro A B n c m d a b w ha hb hn h h2
theorem Zq0 {l : List Nat} {d : Nat} (h : 2 <= l.length) : Za8 l [d] = 1:=by
 unfold Za8
 have h1 : ¬ (l.length < [d].length):=by rw [List.length_singleton];omega
 have h2 : [d].length < l.length:=by rw [List.length_singleton];omega
 first
 | (rw [if_neg h1,if_pos h2])
 | (rw [if_pos h2])
 | simp_all
theorem Zsi (A : Option Addr) (n c b : Nat) (l : List Nat) (g : Nat) (w : World) (ha : Lim w A n c l) (hb : Lim w (some ⟨g,0,none⟩) 1 1 [b]) (hn : n <= 100000) (h2 : 2 <= n) (hb0 : 0 < b) (hb32 : b < 4294967296) :
    Calls Tryz.prog 136 #[.slice A n c,.slice (some ⟨g,0,none⟩) 1 1] w (Zjw w (val l) b):=by
 have hnc:=ha.2.1;have hcm:=ha.2.2.1;unfold maxLen at hcm;have HC : Hid (Za8 l [b] = 1):=Za (Zq0 (by rw [ha.len];exact h2));obtain ⟨g',o,e',hcell⟩:=hb.at_ (k:=0) (by omega)
 cases e'
 simp at hcell
 go_enter Tryz.func136,Tryz.ntmps136;go_wp2_with fail;refine (Zat _ _ _ _ _ _ _ _ _ ha hb).mono ?_;rintro e w1 ⟨he1,hb1⟩;rw [HC.out] at he1;subst he1;have hcell1:=Zc hb1 hcell;go_wp2_with fail;refine (Ziw _ _ _ b _ _ (ha.below hb1) hb0 hb32 (by omega)).mono ?_;rintro e w2 ⟨A2,n2,c2,A3,n3,c3,rfl,hL2,hL3,hb2⟩;go_wp2_with fail
 go_ret2
 exact ⟨_,_,_,_,_,_,rfl,hL2,hL3,hb1.trans (hb2.mono hb1.size)⟩
def Zkn (z : Int) : Bool:=decide (-9223372036854775808 <= z) && decide (z < 9223372036854775808)
def intV (z : Int) : Int:=if Zkn z = true then z else 0
def intE (z : Int) : Int:=if Zkn z = true then 0 else 16
theorem Zcw {z : Int} (h : -9223372036854775808 <= z /\ z < 9223372036854775808) : intV z = z:=by unfold intV Zkn;simp [h.1,h.2]
theorem Zcx {z : Int} (h : -9223372036854775808 <= z /\ z < 9223372036854775808) : intE z = 0:=by unfold intE Zkn;simp [h.1,h.2]
theorem Zcf {z : Int} (h : ¬ (-9223372036854775808 <= z /\ z < 9223372036854775808)) : intV z = 0:=by
 unfold intV Zkn;rw [if_neg];simpa using h
theorem Zce {z : Int} (h : ¬ (-9223372036854775808 <= z /\ z < 9223372036854775808)) : intE z = 16:=by
 unfold intE Zkn;rw [if_neg];simpa using h
theorem or_shl {x y : Nat} (hx : x < 4294967296) : x ||| y * 4294967296 = x + y * 4294967296:=by
 have h:=Nat.shiftLeft_add_eq_or_of_lt (i:=32) (b:=x) (by omega) y;rw [Nat.shiftLeft_eq] at h;rw [Nat.or_comm,<- h,Nat.add_comm]
theorem Zkd {u : Nat} (h : (digits u).length <= 2) : u < 18446744073709551616:=by
 have:=(Zl u 2).1 h
 have e : pw 2 = 18446744073709551616:=by decide
 omega
theorem Zif {u : Nat} (h : 2 < (digits u).length) : 18446744073709551616 <= u:=by
 have:=Zc5 h
 have e : pw 2 = 18446744073709551616:=by decide
 omega
theorem pw1 : pw 1 = 4294967296:=by decide
theorem pw2 : pw 2 = 18446744073709551616:=by decide
theorem neg64 {u : Nat} (h : u <= 9223372036854775808) (h0 : 0 < u) : wrap64 (IntKind.u64.wrap (-(u : Int))) = -(u : Int):=by
 rw [IntKind.wrap_u64];unfold wrap64;omega
theorem or64 {a b r : Nat} (ha : a < 18446744073709551616) (hb : b < 18446744073709551616) (h : a ||| b = r) (hr : r < 18446744073709551616) : bits .or .u64 (a : Int) (b : Int) = (r : Int):=by
 have h64 : ∀ x : Nat,x < 18446744073709551616 -> (BitVec.ofInt 64 (x : Int)).toNat = x:=fun x hx=>by
  rw [BitVec.ofInt_natCast,BitVec.toNat_ofNat];exact Nat.mod_eq_of_lt hx
 show IntKind.u64.wrap ((BitVec.ofInt 64 (a : Int) ||| BitVec.ofInt 64 (b : Int)).toNat : Int) = _;rw [BitVec.toNat_or,h64 a ha,h64 b hb,h];exact IntWalk.u64_in _ (by omega)
theorem Zr0 {a b : Nat} (ha : a < 4294967296) (hb : b < 4294967296) : bits .or .u64 (a : Int) ((b : Int) * 4294967296) = ((a + b * 4294967296 : Nat) : Int):=by
 have e : ((b : Int) * 4294967296) = ((b * 4294967296 : Nat) : Int):=by omega
 rw [e];exact or64 (by omega) (by omega) (or_shl ha) (by omega)
theorem Zo7 {a : Nat} (ha : a < 4294967296) : bits .or .u64 0 (a : Int) = (a : Int):=or64 (a:=0) (by omega) (by omega) (Nat.zero_or a) (by omega)
theorem limb0 {u : Nat} (h : u < 18446744073709551616) : (digits u)[0]?.getD 0 = u % 4294967296:=by
 by_cases h0 : u = 0
 ·subst h0;rw [Zy];rfl
 ·rw [Za5 h0];rfl
theorem limb1 {u : Nat} (h : u < 18446744073709551616) : (digits u)[1]?.getD 0 = u / 4294967296:=by
 by_cases h0 : u = 0
 ·subst h0;rw [Zy];rfl
 ·rw [Za5 h0]
  by_cases h1 : u / 4294967296 = 0
  ·rw [h1,Zy];rfl
  ·rw [Za5 h1]
   show u / 4294967296 % 4294967296 = _;omega
theorem Zpz (neg : Bool) (A : Option Addr) (n c : Nat) (z : Int) (w : World) (hz : Wd w neg A n c z) :
    Calls Tryz.prog 85 #[.agg #[.bool neg,.slice A n c]] w fun e w'=>e = .returned (.tuple #[.int .i64 (intV z),.int .i64 (intE z)]) /\ Below w.heap.size w w':=by
 have hL:=hz.lim;have hn:=hz.2.1;have hneg:=hz.1;have hlen:=hL.len
 have hW : ∀ X t,WL ((w.alloc X).alloc (.cells #[.bool neg,.slice A n c] t)) (some ⟨w.heap.size + 1,0,none⟩) 1 1 [⟨neg,A,n,c,digits z.natAbs⟩]:=fun X t=>by
  have:=WL.one (neg:=neg) (hL.alloc X) t;simp only [World.size_alloc] at this;exact this
 have hW:=Za hW
 have hB0 : ∀ X Y : Obj,Below w.heap.size w ((w.alloc X).alloc Y):=fun X Y=>((Below.refl w.heap.size w).alloc (Nat.le_refl _) _).alloc (by simp) _
 have hB0:=Za hB0;have hgood : Hid (okW neg (digits z.natAbs) = true):=hz.ok;replace hneg:=Za hneg;replace hlen:=Za hlen;clear hz;go_enter Tryz.func85,Tryz.ntmps85;go_wp2_with fail;refine (Zbs (hW.out _ _) (by have:=hgood.out;simp [WE.ok,this])).mono ?_;rintro e w1 ⟨rfl,hb1⟩;obtain ⟨hc1,hf1⟩:=Zbd hb1
 have hz1 : w.heap.size + 1 < w1.heap.size:=by have:=hb1.size;simp at this;omega
 have hB1 : Below w.heap.size w w1:=(hB0.out _ _).trans (hb1.mono (by simp;omega))
 have g0 : w1.cell? ⟨w.heap.size,0,none⟩ = some (.bool neg):=by simp [hc1,go_sem]
 have g1 : w1.cell? ⟨w.heap.size,1,none⟩ = some (.slice A n c):=by simp [hc1,go_sem]
 have hL1:=Za (hL.below hB1);clear hc1 hf1 hB0 hL hb1 hW hgood;obtain ⟨u,hu⟩ : ∃ u,z.natAbs = u:=⟨_,rfl⟩;rw [hu] at hL1 hlen;replace hB1:=Za hB1
 by_cases h2 : 2 < n
 ·have u2 : decide ((2 : Int) < (n : Int)) = true:=decide_eq_true (by omega)
  have hbig : ¬ (-9223372036854775808 <= z /\ z < 9223372036854775808):=by
   have:=Zif (u:=u) (by rw [hlen.out];exact h2);omega
  go_wp2_with fail;go_returns;exact ⟨by rw [Zcf hbig,Zce hbig];rfl,hB1.out⟩
 have u2 : decide ((2 : Int) < (n : Int)) = false:=decide_eq_false (by omega);have hu64 : u < 18446744073709551616:=Zkd (by rw [hlen.out];omega);go_wp2_with fail
 go_loopg [21,5] n (fun k iv uv wr=>wr = w1 /\ ∃ i : Nat,i + k = n /\ iv = .int .i64 i /\ ∃ X : Nat,uv = .int .u64 X /\ Hid (X = u % pw i))
 case atStart=>exact ⟨rfl,0,by omega,rfl,0,rfl,Za (by rw [Zbr];omega)⟩
 case round =>
  obtain ⟨rfl,i,hik,rfl,X,rfl,hX⟩:=hrel
  cases gk with
  | zero =>
   obtain rfl : i = n:=by omega
   have t1 : decide ((i : Int) < (i : Int)) = false:=by simp
   have hXu : u = X:=by
    have h1:=hX.out;have h2:=Zaz u;rw [hlen.out] at h2;rw [h1,Nat.mod_eq_of_lt h2]
   subst hXu;clear hX
   cases hn2 : neg with
   | true =>
    subst hn2
    have hzn : z = -(u : Int) /\ 0 < u:=by have:=hneg.out;simp at this;omega
    by_cases hle : u <= 9223372036854775808
    ·have v1 : decide ((u : Int) <= 9223372036854775808) = true:=decide_eq_true (by omega)
     have hfit : -9223372036854775808 <= z /\ z < 9223372036854775808:=by omega
     go_wp2_with fail;go_returns;refine ⟨?_,hB1.out⟩;rw [Zcw hfit,Zcx hfit];rw [hzn.1];exact congrArg (fun x=>Ending.returned (.tuple #[.int .i64 x,.int .i64 0])) (neg64 hle hzn.2)
    ·have v1 : decide ((u : Int) <= 9223372036854775808) = false:=decide_eq_false (by omega)
     have hfit : ¬ (-9223372036854775808 <= z /\ z < 9223372036854775808):=by omega
     go_wp2_with fail;go_returns;exact ⟨by rw [Zcf hfit,Zce hfit];rfl,hB1.out⟩
   | false =>
    subst hn2
    have hzn : z = (u : Int):=by have:=hneg.out;simp at this;omega
    by_cases hle : u < 9223372036854775808
    ·have v1 : decide ((u : Int) < 9223372036854775808) = true:=decide_eq_true (by omega)
     have hfit : -9223372036854775808 <= z /\ z < 9223372036854775808:=by omega
     go_wp2_with fail;go_returns;refine ⟨?_,hB1.out⟩;rw [Zcw hfit,Zcx hfit];rw [hzn];rfl
    ·have v1 : decide ((u : Int) < 9223372036854775808) = false:=decide_eq_false (by omega)
     have hfit : ¬ (-9223372036854775808 <= z /\ z < 9223372036854775808):=by omega
     go_wp2_with fail;go_returns;exact ⟨by rw [Zcf hfit,Zce hfit];rfl,hB1.out⟩
  | succ gk' =>
   obtain rfl : gk' = n - (i + 1):=by omega
   have t1 : decide ((i : Int) < (n : Int)) = true:=decide_eq_true (by omega)
   have bi : (i : Int) < (n : Int):=by omega
   obtain ⟨g,o,rfl,hcell⟩:=hL1.out.at_ (k:=i) (by omega)
   rcases (show i = 0 \/ i = 1 by omega) with rfl | rfl
   case inl =>
    have hc0 : wr.cell? ⟨g,o,none⟩ = some (.int .u32 ((u % 4294967296 : Nat) : Int)):=by
     have:=hcell;rw [limb0 hu64] at this;exact this
    clear hcell;have hx0 : Hid (X = 0):=Za (by have:=hX.out;rw [this,Zbr];omega);obtain rfl:=hx0.out;have hor : Hid (bits .or .u64 0 (((u % 4294967296 : Nat)) : Int) = ((u % 4294967296 : Nat) : Int)):=Za (Zo7 (by omega));go_wp2_with fail
    go_roundg (n - 1)
    case measure=>omega
    case rel=>exact ⟨rfl,1,by omega,by go_num,_,congrArg _ hor.out,Za (by rw [pw1])⟩
   case inr =>
    have hc0 : wr.cell? ⟨g,o + 1,none⟩ = some (.int .u32 ((u / 4294967296 : Nat) : Int)):=by
     have:=hcell;rw [limb1 hu64] at this;exact this
    clear hcell;obtain ⟨X0,rfl,hx0,hx1⟩ : ∃ X0,X = X0 /\ X0 = u % 4294967296 /\ X0 < 4294967296:=⟨X,rfl,by have:=hX.out;rw [pw1] at this;exact this,by have:=hX.out;rw [pw1] at this;omega⟩;have hor : Hid (bits .or .u64 ((u % 4294967296 : Nat) : Int) (((u / 4294967296 : Nat) : Int) * 4294967296) = ((u % 4294967296 + u / 4294967296 * 4294967296 : Nat) : Int)):=Za (Zr0 (by omega) (by omega));go_wp2_with fail
    go_roundg (n - 2)
    case measure=>omega
    case rel=>exact ⟨rfl,2,by omega,by go_num,_,congrArg _ hor.out,Za (by rw [pw2];omega)⟩
theorem Zqa (neg : Bool) (A : Option Addr) (n c : Nat) (z : Int) (w : World) (hz : Wd w neg A n c z) :
    Calls Tryz.prog 87 #[.agg #[.bool neg,.slice A n c]] w fun e w'=>e = .returned (.tuple #[.int .i64 (intV z),.int .i64 (intE z)]) /\ Below w.heap.size w w':=by
 have hL:=hz.lim;have hn:=hz.2.1;have hneg:=hz.1;have hlen:=hL.len
 have hB0 : ∀ X : Obj,Below w.heap.size w (w.alloc X):=fun X=>(Below.refl w.heap.size w).alloc (Nat.le_refl _) _
 have hB0:=Za hB0;have hgood : Hid (okW neg (digits z.natAbs) = true):=hz.ok;replace hneg:=Za hneg;replace hlen:=Za hlen;have hLx:=Za (fun X=>hL.alloc X);clear hz;go_enter Tryz.func87,Tryz.ntmps87;go_wp2_with fail;refine (Zae (hLx.out _) hgood.out).mono ?_;rintro e w1 ⟨rfl,hb1⟩;obtain ⟨hc1,hf1⟩:=Zbd hb1
 have hz1 : w.heap.size < w1.heap.size:=by have:=hb1.size;simp at this;omega
 have hB1 : Below w.heap.size w w1:=(hB0.out _).trans (hb1.mono (by simp))
 have g0 : w1.cell? ⟨w.heap.size,0,none⟩ = some (.bool neg):=by simp [hc1,go_sem]
 have g1 : w1.cell? ⟨w.heap.size,1,none⟩ = some (.slice A n c):=by simp [hc1,go_sem]
 have hL1:=Za (hL.below hB1);clear hc1 hf1 hB0 hL hb1 hLx hgood;obtain ⟨u,hu⟩ : ∃ u,z.natAbs = u:=⟨_,rfl⟩;rw [hu] at hL1 hlen;replace hB1:=Za hB1;go_wp2_with fail
 by_cases h2 : 2 < n
 ·have hbig : ¬ (-9223372036854775808 <= z /\ z < 9223372036854775808):=by
    have:=Zif (u:=u) (by rw [hlen.out];exact h2);omega
  go_loopg [5,4] n (fun k iv uv wr=>wr = w1 /\ iv = .int .i64 ((n : Int) - 1) /\ uv = .int .u64 0)
  case atStart=>exact ⟨rfl,by go_num,rfl⟩
  case round =>
   obtain ⟨rfl,rfl,rfl⟩:=hrel;have t1 : decide ((0 : Int) <= (n : Int) - 1) = true:=decide_eq_true (by omega);have t2 : decide ((1 : Int) < (n : Int) - 1) = true:=decide_eq_true (by omega);go_wp2_with fail;go_returns;exact ⟨by rw [Zcf hbig,Zce hbig];rfl,hB1.out⟩
 have hu64 : u < 18446744073709551616:=Zkd (by rw [hlen.out];omega);have hun : Hid (u < pw n):=Za (by have:=Zaz u;rw [hlen.out] at this;exact this)
 go_loopg [5,4] n (fun k iv uv wr=>wr = w1 /\ k <= n /\ iv = .int .i64 ((k : Int) - 1) /\ ∃ X : Nat,uv = .int .u64 X /\ Hid (X = u / pw k))
 case atStart=>exact ⟨rfl,Nat.le_refl _,by go_num,0,rfl,Za (by rw [Nat.div_eq_of_lt hun.out])⟩
 case round =>
  obtain ⟨rfl,hkn,rfl,X,rfl,hX⟩:=hrel
  cases gk with
  | zero =>
   have hXu : u = X:=by
    have h1:=hX.out;rw [Zbr,Nat.div_one] at h1;exact h1.symm
   subst hXu;clear hX
   cases hn2 : neg with
   | true =>
    subst hn2
    have hzn : z = -(u : Int) /\ 0 < u:=by have:=hneg.out;simp at this;omega
    by_cases hle : u <= 9223372036854775808
    ·have v1 : decide ((u : Int) <= 9223372036854775808) = true:=decide_eq_true (by omega)
     have hfit : -9223372036854775808 <= z /\ z < 9223372036854775808:=by omega
     go_wp2_with fail;go_returns;refine ⟨?_,hB1.out⟩;rw [Zcw hfit,Zcx hfit];rw [hzn.1];exact congrArg (fun x=>Ending.returned (.tuple #[.int .i64 x,.int .i64 0])) (neg64 hle hzn.2)
    ·have v1 : decide ((u : Int) <= 9223372036854775808) = false:=decide_eq_false (by omega)
     have hfit : ¬ (-9223372036854775808 <= z /\ z < 9223372036854775808):=by omega
     go_wp2_with fail;go_returns;exact ⟨by rw [Zcf hfit,Zce hfit];rfl,hB1.out⟩
   | false =>
    subst hn2
    have hzn : z = (u : Int):=by have:=hneg.out;simp at this;omega
    by_cases hle : u < 9223372036854775808
    ·have v1 : decide ((u : Int) < 9223372036854775808) = true:=decide_eq_true (by omega)
     have hfit : -9223372036854775808 <= z /\ z < 9223372036854775808:=by omega
     go_wp2_with fail;go_returns;refine ⟨?_,hB1.out⟩;rw [Zcw hfit,Zcx hfit];rw [hzn];rfl
    ·have v1 : decide ((u : Int) < 9223372036854775808) = false:=decide_eq_false (by omega)
     have hfit : ¬ (-9223372036854775808 <= z /\ z < 9223372036854775808):=by omega
     go_wp2_with fail;go_returns;exact ⟨by rw [Zcf hfit,Zce hfit];rfl,hB1.out⟩
  | succ gk' =>
   have t1 : decide ((0 : Int) <= ((gk' + 1 : Nat) : Int) - 1) = true:=decide_eq_true (by omega);have t2 : decide ((1 : Int) < ((gk' + 1 : Nat) : Int) - 1) = false:=decide_eq_false (by omega);obtain ⟨g,o,rfl,hcell⟩:=hL1.out.at_ (k:=gk') (by omega)
   rcases (show gk' = 0 \/ gk' = 1 by omega) with rfl | rfl
   case inl =>
    have hc0 : wr.cell? ⟨g,o,none⟩ = some (.int .u32 ((u % 4294967296 : Nat) : Int)):=by
     have:=hcell;rw [limb0 hu64] at this;exact this
    clear hcell;obtain ⟨X0,rfl,hx0⟩ : ∃ X0,X = X0 /\ X0 = u / 4294967296:=⟨X,rfl,by have:=hX.out;rw [pw1] at this;exact this⟩;subst hx0
    have bi : (0 : Int) < (n : Int):=by omega
    go_wp2_with fail
    go_roundg 0
    case measure=>omega
    case rel=>exact ⟨rfl,by omega,by go_num,u,by go_num,Za (by rw [Zbr,Nat.div_one])⟩
   case inr =>
    have hc0 : wr.cell? ⟨g,o + 1,none⟩ = some (.int .u32 ((u / 4294967296 : Nat) : Int)):=by
     have:=hcell;rw [limb1 hu64] at this;exact this
    clear hcell;have hx0 : Hid (X = 0):=Za (by have:=hX.out;rw [this];exact Nat.div_eq_of_lt (by rw [pw2];exact hu64));obtain rfl:=hx0.out
    have bi : (1 : Int) < (n : Int):=by omega
    go_wp2_with fail
    go_roundg 1
    case measure=>omega
    case rel=>exact ⟨rfl,by omega,by go_num,_,by go_num,Za (by rw [pw1])⟩
def BitsN (z : Nat) (b : Nat) : Prop:=z < 2 ^ b /\ (b = 0 ↔ z = 0)
theorem Zmj {u k t b : Nat} (hl : (digits u).length = k + 1) (ht : (digits u)[k]?.getD 0 = t) (hb : t < 2 ^ b) (ht0 : 0 < t) : BitsN u (32 * k + b):=by
 have h1:=Zv (digits u) k;rw [Zx (by rw [hl];exact Nat.le_refl _),Zf,ht] at h1
 have h2 : val ((digits u).take k) < pw k:=by
  have h:=Zdw (l:=(digits u).take k) (fun x hx=>Zb2 u x (List.mem_of_mem_take hx));rw [List.length_take,hl,Nat.min_eq_left (by omega)] at h;exact h
 have h3 : u < pw k * 2 ^ b:=by
  have h4 : pw k * (t + 1) <= pw k * 2 ^ b:=Nat.mul_le_mul_left _ hb;rw [Nat.mul_add] at h4;omega
 refine ⟨by rw [Nat.pow_add,<- Zh7];exact h3,⟨fun h=>?_,fun h=>?_⟩⟩
 ·have : b = 0:=by omega
  rw [this] at hb;omega
 ·subst h
  have : (digits 0).length = 0:=by rw [Zy];rfl
  omega
theorem Zsf (neg : Bool) (A : Option Addr) (n c : Nat) (z : Int) (w : World) (hz : Wd w neg A n c z) :
    Calls Tryz.prog 148 #[.agg #[.bool neg,.slice A n c]] w fun e w'=>∃ b : Nat,e = .returned (.tuple #[.int .i64 b,.int .i64 0]) /\ BitsN z.natAbs b /\ b <= 32 * n /\ Below w.heap.size w w':=by
 have hL:=hz.lim;have hn:=hz.2.1;have hlen:=hL.len;have hcm:=hL.2.2.1;unfold maxLen at hcm;obtain ⟨u,hu⟩ : ∃ u,z.natAbs = u:=⟨_,rfl⟩;have hgood : Hid (okW neg (digits z.natAbs) = true):=hz.ok;rw [hu] at hL hlen hgood ⊢;replace hu:=Za hu
 have hW : ∀ X t,WL ((w.alloc X).alloc (.cells #[.bool neg,.slice A n c] t)) (some ⟨w.heap.size + 1,0,none⟩) 1 1 [⟨neg,A,n,c,digits u⟩]:=fun X t=>by
  have:=WL.one (neg:=neg) (hL.alloc X) t;simp only [World.size_alloc] at this;exact this
 have hW:=Za hW
 have hB0 : ∀ X Y : Obj,Below w.heap.size w ((w.alloc X).alloc Y):=fun X Y=>((Below.refl w.heap.size w).alloc (Nat.le_refl _) _).alloc (by simp) _
 have hB0:=Za hB0;replace hlen:=Za hlen;clear hz;go_enter Tryz.func148,Tryz.ntmps148;go_wp2_with fail;refine (Zbs (hW.out _ _) (by have:=hgood.out;simp [WE.ok,this])).mono ?_;rintro e w1 ⟨rfl,hb1⟩;obtain ⟨hc1,hf1⟩:=Zbd hb1;have hB1 : Below w.heap.size w w1:=(hB0.out _ _).trans (hb1.mono (by simp;omega))
 have g0 : w1.cell? ⟨w.heap.size,0,none⟩ = some (.bool neg):=by simp [hc1,go_sem]
 have g1 : w1.cell? ⟨w.heap.size,1,none⟩ = some (.slice A n c):=by simp [hc1,go_sem]
 have hL1:=Za (hL.below hB1);clear hc1 hf1 hB0 hL hb1 hW hgood;replace hB1:=Za hB1
 cases n with
 | zero =>
  have t1 : decide ((((0 : Nat) : Int)) = 0) = true:=by decide
  go_wp2_with fail;go_returns
  have hu0 : u = 0:=by
   rcases Nat.eq_zero_or_pos u with h | h
   ·exact h
   ·have:=length_digits_pos.2 h
    have:=hlen.out;omega
  exact ⟨0,rfl,⟨by rw [hu0];decide,⟨fun _=>hu0,fun _=>rfl⟩⟩,by omega,hB1.out⟩
 | succ k =>
  have t1 : (((k : Int) + 1) == 0) = false:=by simp;omega
  have t1' : decide ((k : Int) + 1 = 0) = false:=decide_eq_false (by omega);obtain ⟨b,of,rfl,hcell⟩:=hL1.out.at_ (show k < k + 1 by omega);have hx:=hL1.out.lt.get k;have htop:=Zb4 (v:=u) (by rw [hlen.out];omega);rw [hlen.out,Nat.add_sub_cancel] at htop;obtain ⟨t,ht⟩ : ∃ t,(digits u)[k]?.getD 0 = t:=⟨_,rfl⟩;rw [ht] at hcell hx htop;have hbl:=Zk7 t (by omega);have l : Lib.bitLen t <= 32:=Lib.bitLen_le t 32 (by omega) (by omega)
  have HC : Hid (∀ W : World,Calls Tryz.prog 203 #[limb t] W fun e w'=>e = .returned (.int .i64 (Lib.bitLen t : Nat)) /\ w' = W):=fun W=>by
   have:=Zkq (t : Int) W (by omega) (by omega);rw [show ((t : Int)).toNat = t from rfl] at this;exact this
  have hfin:=Za (Zmj hlen.out ht hbl (by omega));obtain ⟨bl,hbb⟩ : ∃ x,Lib.bitLen t = x:=⟨_,rfl⟩;rw [hbb] at l HC hfin;have hw1 : IntKind.i64.wrap (k : Int) = (k : Int):=IntWalk.i64_in _ (by omega);have hw2 : IntKind.i64.wrap (32 * (k : Int)) = 32 * (k : Int):=IntWalk.i64_in _ (by omega);have hw3 : IntKind.i64.wrap (32 * (k : Int) + (bl : Int)) = 32 * (k : Int) + (bl : Int):=IntWalk.i64_in _ (by omega);clear ht hbb hbl htop hL1;go_wp2_with (refine (HC.out _).mono ?_;rintro e w' ⟨rfl,rfl⟩);go_returns;exact ⟨32 * k + bl,by first | rfl | (push_cast;rfl),hfin.out,by omega,hB1.out⟩
end Go.Proofs.YtaioanjcjijckaaGreat
