/- Package wide: divide. -/
import Derived.Test.YthappeninglakaaZq10
set_option maxRecDepth 100000
set_option maxHeartbeats 2000000
set_option linter.unusedSimpArgs false
set_option linter.unusedVariables false
namespace Go.Proofs.Ythappeninglakaa
open Go.RowKit
attribute [local go_sem] Zj
def Zmm (w : World) (a b : Nat) (e : Ending) (w' : World) : Prop:=
 ∃ A n c B m d,e = .returned (.tuple #[.slice A n c,.slice B m d]) /\ Lim w' A n c (digits (a / b)) /\ Lim w' B m d (digits (a % b)) /\ Below w.heap.size w w'
theorem Blk.setCells {w : World} {g g' o : Nat} {t : TypeId} {cs : Array Value} {us : List Value} (h : Blk w g t cs) (hne : g ≠ g') : Blk (w.setCells g' o us) g t cs:=by
 induction us generalizing o w with
 | nil=>exact h
 | cons u us ih=>exact ih (h.far hne u)
theorem Zjt {B : Nat} {w w' : World} {g o : Nat} {us : List Value} (h : Below B w w') (hg : B <= g) : Below B w (w'.setCells g o us):=by
 induction us generalizing o w' with
 | nil=>exact h
 | cons u us ih=>exact ih (h.setCell (p:=⟨g,o,none⟩) hg u)
theorem Zga {v : List Nat} {n : Nat} (hn : v.length = n) (h0 : 0 < n) (hlt : Lt32 v) : val v < (v[n - 1]?.getD 0 + 1) * pw (n - 1):=by
 have e:=Z4 v (n - 1) (by omega);rw [Za3 (by omega),List.drop_of_length_le (by omega)] at e;have h1:=Zen (hlt.take (n - 1));rw [List.length_take,Nat.min_eq_left (by omega)] at h1;simp only [val] at e;rw [e,Nat.add_mul,Nat.one_mul,Nat.mul_comm (v[n - 1]?.getD 0)];simp only [Nat.mul_zero,Nat.add_zero];omega
theorem Zj1 {v : Nat} (h : (digits v).length = 1) : digits v = [v] /\ 0 < v /\ v < 4294967296:=by
 have hv : 0 < v:=length_digits_pos.1 (by omega);have hlt:=Zc3 v;rw [h] at hlt;have : v < 4294967296:=hlt;refine ⟨?_,hv,this⟩;rw [Zcw (by omega),Nat.div_eq_of_lt this,Nat.mod_eq_of_lt this,Z6]
theorem Zm8 (A B : Option Addr) (n c m d : Nat) (a b : Nat) (w : World) (ha : Lim w A n c (digits a)) (hb : Lim w B m d (digits b)) (hn : n <= 100000) (h : a < b) :
    Calls Try.prog 57 #[.slice A n c,.slice B m d] w (Zmm w a b):=by
 have hcv : Hid (Zce (digits a) (digits b) < 0):=by
  have:=(Zfq (va:=a) (vb:=b));unfold Hid;omega
 obtain ⟨cv,hcv2⟩ : ∃ x : Int,Zce (digits a) (digits b) = x:=⟨_,rfl⟩
 have hneg : cv < 0:=by rw [<- hcv2];exact hcv.out
 have HC:=Zb hcv2;clear hcv hcv2;go_enter Try.func57,Try.ntmps57;go_wp2_with fail;refine (Zc0 _ _ _ _ _ _ _ _ _ ha hb).mono ?_;rintro e w1 ⟨he1,hb1⟩;rw [HC.out] at he1;subst he1;go_wp2_with fail;refine (Zgh _ _ _ _ _ (ha.below hb1) (by omega)).mono ?_;rintro e w2 ⟨v,rfl,hO,hb2⟩;obtain ⟨A2,c2,hv,hL⟩:=hO.lim;subst hv;go_wp2_with fail
 go_ret2
 have hB : Below w.heap.size w w2:=hb1.trans (hb2.mono hb1.size);exact ⟨_,_,_,_,_,_,rfl,by rw [Nat.div_eq_of_lt h,Z6];exact Lim.nil _ _ _ (Nat.zero_le _),by rw [Nat.mod_eq_of_lt h];rw [show (digits a).length = n from ha.len] at hL ⊢;exact hL,hB⟩
theorem Zo2 (A B : Option Addr) (n c m d : Nat) (a b : Nat) (w : World) (ha : Lim w A n c (digits a)) (hb : Lim w B m d (digits b)) (hn : n <= 100000) (h : b <= a) (hm : m = 1) :
    Calls Try.prog 57 #[.slice A n c,.slice B m d] w (Zmm w a b):=by
 subst hm;have hnc:=ha.2.1;have hcm:=ha.2.2.1;have hmd:=hb.2.1;have hdm:=hb.2.2.1;unfold maxLen at hcm hdm;obtain ⟨cv,hcv2⟩ : ∃ x : Int,Zce (digits a) (digits b) = x:=⟨_,rfl⟩
 have hneg : ¬ cv < 0:=by rw [<- hcv2];have:=(Zfq (va:=a) (vb:=b));omega
 have hneg' : decide (cv < 0) = false:=by simpa using hneg
 have HC:=Zb hcv2;clear hcv2 hneg;obtain ⟨hd1,hb0,hb32⟩:=Zj1 hb.len;obtain ⟨g,o,rfl,hcell⟩:=hb.at_ (k:=0) (by omega);rw [hd1] at hcell
 simp at hcell
 replace hd1:=Zb hd1;have hr32 : a % b < 4294967296:=Nat.lt_trans (Nat.mod_lt _ hb0) hb32;have hva:=Zb (Zg a);go_enter Try.func57,Try.ntmps57;go_wp2_with fail;refine (Zc0 _ _ _ _ _ _ _ _ _ ha hb).mono ?_;rintro e w1 ⟨he1,hb1⟩;rw [HC.out] at he1;subst he1;have hcell1:=Za hb1 hcell;go_wp2_with fail;refine (Zrd _ _ _ b _ _ (ha.below hb1) hb0 hb32 (by omega)).mono ?_;rintro e w2 ⟨A2,n2,c2,rfl,hL2,hb2⟩;rw [hva.out] at hL2 ⊢;obtain ⟨r,hr⟩ : ∃ r,a % b = r:=⟨_,rfl⟩;rw [hr] at hr32 ⊢;replace hr:=Zb hr
 have hL3 : ∀ t,Lim (w2.alloc (.cells #[limb r] t)) (some ⟨w2.heap.size,0,none⟩) 1 1 [r]:=fun t=>by
  have:=Lim.of_blk (l:=[r]) (Blk.new w2 t (Zt [r])) (Lt32.cons hr32 Lt32.nil) (by simp [maxLen]);exact this
 have HL3:=Zb hL3
 have hcan : canon [r] = digits r:=by have:=Zn9 (Lt32.cons hr32 Lt32.nil);simpa [val] using this
 go_wp2_with fail;refine (Zer _ _ _ _ _ (HL3.out _)).mono ?_;rintro e w3 ⟨rfl,rfl⟩;go_wp2_with fail
 go_ret2
 have hL4:=(HL3.out 71).canon.1;rw [show val [r] = r by simp [val]] at hL4 ⊢;refine ⟨_,_,_,_,_,_,rfl,hL2.alloc _,by rw [hr.out];exact hL4,((hb1.trans (hb2.mono hb1.size))).alloc (Nat.le_trans hb1.size hb2.size) _⟩
theorem Lim.far {w : World} {A : Option Addr} {n c : Nat} {l : List Nat} (h : Lim w A n c l) {p : Addr} {u : Value} (hne : ∀ b o,A = some ⟨b,o,none⟩ -> b ≠ p.block) : Lim (w.setCell p u) A n c l:=
 ⟨h.1,h.2.1,h.2.2.1,h.2.2.2.1,fun hn=>by
  obtain ⟨b,o,e,hc⟩:=h.2.2.2.2 hn;have hb:=hne b o e
  exact ⟨b,o,e,fun k hk=>(World.cell?_setCell_other w _ _ u (fun e2=>hb (by rw [e2]))).trans (hc k hk)⟩⟩
theorem Lim.setCells {A : Option Addr} {n c g : Nat} {l : List Nat} {us : List Value} (hne : ∀ b o,A = some ⟨b,o,none⟩ -> b ≠ g) : ∀ {w : World} {o : Nat},Lim w A n c l -> Lim (w.setCells g o us) A n c l:=by
 induction us with
 | nil=>exact fun h=>h
 | cons u us ih=>exact fun h=>ih (h.far hne)
theorem MutL.far {w : World} {g off : Nat} {l : List Nat} (h : MutL w g off l) {p : Addr} {u : Value} (hne : g ≠ p.block) : MutL (w.setCell p u) g off l:=fun j hj =>
 ⟨(World.cell?_setCell_other w _ _ u (fun e2=>hne (by rw [e2]))).trans (h j hj).1,by rw [World.frozen?_setCell];exact (h j hj).2⟩
theorem MutL.lim {w : World} {g : Nat} {l : List Nat} {n c : Nat} (h : MutL w g 0 l) (hl : l.length = n) (hnc : n <= c) (hcm : c <= maxLen) (hlt : Lt32 l) : Lim w (some ⟨g,0,none⟩) n c l:=
 ⟨hl,hnc,hcm,hlt,fun _=>⟨g,0,rfl,fun k hk=>(h k (by omega)).1⟩⟩
def DivR (w : World) (g q : Nat) (A : Option Addr) (c m nq : Nat) (vl : List Nat) (a b s k : Nat) (wr : World) : Prop:=
 ∃ lu lq,DivI (2 ^ s * a) (2 ^ s * b) m lu lq k /\ lq.length = nq /\ MutL wr g 0 lu /\ Blk wr q 71 (Zt lq) /\ Lim wr A m c vl /\ Below w.heap.size w wr
theorem DivR.step {w wr wr1 : World} {g q : Nat} {A : Option Addr} {c m nq : Nat} {vl lu lq : List Nat} {a b s k : Nat} {l : List Nat} (hD : DivI (2 ^ s * a) (2 ^ s * b) m lu lq (k + 1)) (hq : lq.length = nq) (hM : MutL wr g 0 lu) (hB : Blk wr q 71 (Zt lq))
    (hL : Lim wr A m c vl) (hw : Below w.heap.size w wr) (hv : val vl = 2 ^ s * b) (hlen : l.length = m + 1) (hlt : Lt32 l) (hl : val l = val ((lu.drop k).take (m + 1)) % val vl) (hb1 : Below wr.heap.size wr wr1) (hQ : val ((lu.drop k).take (m + 1)) / val vl < 4294967296)
    (hgq : g ≠ q) (hA : ∀ b o,A = some ⟨b,o,none⟩ -> b ≠ g /\ b ≠ q) (hg : w.heap.size <= g) (hqs : w.heap.size <= q) :
    DivR w g q A c m nq vl a b s k ((wr1.setCells g k (l.map limb)).setCell ⟨q,k,none⟩ (limb (val ((lu.drop k).take (m + 1)) / val vl))):=by
 have hVm : 2 ^ s * b <= pw m:=by rw [<- hv];exact Nat.le_of_lt hL.lt_pw
 have hlen2 : k + l.length <= lu.length:=by have:=hD.2.2.1;have:=hD.2.2.2.1;omega
 refine ⟨splice lu k l,lq.set k (val ((lu.drop k).take (m + 1)) / val vl),hD.step hVm hlen hlt hQ (by rw [hv]) (by rw [<- hv];exact hl),by rw [List.length_set];exact hq,
  ((hM.below hb1).splice hlen2).far hgq,?_,((hL.below hb1).setCells (fun b o e=>(hA b o e).1)).far (fun b o e=>(hA b o e).2),?_⟩
 ·rw [<- Za8]
  exact ((hB.below hb1 hB.lt).setCells (Ne.symm hgq)).set_ _ _
 ·exact (Zjt (hw.trans (hb1.mono hw.size)) hg).setCell (p:=⟨q,k,none⟩) hqs _
theorem Znt (A B : Option Addr) (n c m d : Nat) (a b : Nat) (w : World) (ha : Lim w A n c (digits a)) (hb : Lim w B m d (digits b)) (hn : n <= 100000) (h : b <= a) (hm : 2 <= m) :
    Calls Try.prog 57 #[.slice A n c,.slice B m d] w (Zmm w a b):=by
 have hnc:=ha.2.1;have hcm:=ha.2.2.1;have hmd:=hb.2.1;have hdm:=hb.2.2.1;unfold maxLen at hcm hdm
 have hmn : m <= n:=by have:=Zy h;rw [ha.len,hb.len] at this;exact this
 obtain ⟨i0,hi,hz0,hz1,hz2⟩:=info_parts Zcl;have hmk:=Zfj (P:=Try.prog) 24 71 Try.underlying24 hi hz0 hz1 hz2 ((n : Int) + 1 - m) (n + 1 - m) (by omega) (by omega);obtain ⟨cv,hcv2⟩ : ∃ x : Int,Zce (digits a) (digits b) = x:=⟨_,rfl⟩
 have hneg : ¬ cv < 0:=by rw [<- hcv2];have:=(Zfq (va:=a) (vb:=b));omega
 have hneg' : decide (cv < 0) = false:=by simpa using hneg
 have HC:=Zb hcv2;clear hcv2 hneg
 have hm1 : ((m : Int) == 1) = false:=by simp;omega
 obtain ⟨g,o,rfl,hcell⟩:=hb.at_ (k:=m - 1) (by omega);have hlen:=hb.len;have htop:=Zep (v:=b) (by omega);have htl:=Zm2 hlen (by omega);have htlt:=hb.lt.get (m - 1);have hblt:=Zc3 b;rw [hlen] at htop hblt;have htl2:=Zga hlen (by omega) hb.lt;rw [Zg] at htl htl2;obtain ⟨x,hx⟩ : ∃ x,(digits b)[m - 1]?.getD 0 = x:=⟨_,rfl⟩;rw [hx] at hcell htop htl htlt htl2;replace hlen:=Zb hlen;replace hx:=Zb hx;have hva:=Zb (Zg a);have hvb:=Zb (Zg b);go_enter Try.func57,Try.ntmps57;go_wp2_with fail;refine (Zc0 _ _ _ _ _ _ _ _ _ ha hb).mono ?_;rintro e w1 ⟨he1,hb1⟩;rw [HC.out] at he1;subst he1;have hcell1:=Za hb1 hcell;go_wp2_with fail;refine (Zs3 x _ (by omega) htlt).mono ?_;rintro e w2 ⟨s,rfl,hs,hxs,rfl⟩;have ha1:=ha.below hb1;have hb1':=hb.below hb1;go_wp2_with fail
 go_region_with (first
  | (go_at_call 75;((with_reducible refine (Znz (some ⟨g,o,none⟩) m d s (digits b) _ hb1'.drew hs (by omega)).mono ?_));rintro e w3 ⟨v3,o3,rfl,hO3,hl3,hv3,hb3⟩;obtain ⟨A3,c3,hv3',hL3⟩:=hO3.lim;rw [hl3] at hv3' hL3;subst hv3';have hnc3:=hL3.2.1;have hcm3:=hL3.2.2.1;unfold maxLen at hcm3;replace hl3:=Zb hl3;replace hv3:=Zb hv3;clear hO3)
  | (go_at_call 75;((with_reducible refine (Znz A n c s (digits a) _ (ha1.drew.below hb3) hs (by omega)).mono ?_));rintro e w4 ⟨v4,o4,rfl,hO4,hl4,hv4,hb4⟩;obtain ⟨g4,c4,hv4',hg4,hg4s,hc4,hcm4,hM4⟩:=hO4.mut (by omega);rw [hl4] at hv4' hc4;subst hv4';unfold maxLen at hcm4;replace hl4:=Zb hl4;replace hv4:=Zb hv4))
 all_goals go_wp2_with fail
 all_goals
  replace hvb:=hvb.out;replace hva:=hva.out;rw [hvb] at hv3;rw [hva] at hv4;have hl3':=hl3.out;have hv3':=hv3.out
  have hp31 : 2 ^ s * (x + 1) <= 4294967296:=by
   have h1 : 2 ^ s * (x + 1) <= 2 ^ s * 2 ^ (32 - s):=Nat.mul_le_mul_left _ hxs;rw [<- Nat.pow_add,show s + (32 - s) = 32 by omega] at h1;exact h1
  have hVlt : 2 ^ s * b < pw m:=by
   have h1 : 2 ^ s * b < 2 ^ s * ((x + 1) * pw (m - 1)):=Nat.mul_lt_mul_of_pos_left htl2 (Nat.pow_pos (by omega))
   have h2 : 2 ^ s * ((x + 1) * pw (m - 1)) <= 4294967296 * pw (m - 1):=by rw [<- Nat.mul_assoc];exact Nat.mul_le_mul_right _ hp31
   rw [<- Zal,show m - 1 + 1 = m by omega] at h2;omega
  have hvl : val (o3.take m) = 2 ^ s * b:=by
   have h1:=Z4 o3 m (by omega)
   rcases Nat.eq_zero_or_pos (val (o3.drop m)) with h0 | h0
   ·rw [h0] at h1;omega
   ·have:=Nat.mul_le_mul_left (pw m) h0;omega
  have hLv:=(hL3.take (k:=m) (by omega)).below hb4
  have hbp : pw (m - 1) <= 2 ^ s * b:=by
   have h1:=Nat.mul_le_mul_right (pw (m - 1)) (show 1 <= x by omega);have h2 : 1 * b <= 2 ^ s * b:=Nat.mul_le_mul_right _ (Nat.pow_pos (by omega));omega
  have htv : (o3.take m)[m - 1]?.getD 0 ≠ 0:=fun h0=>by
   have h1:=Zga (v:=o3.take m) (n:=m) (by rw [List.length_take,hl3'];omega) (by omega) hLv.lt;rw [h0,hvl] at h1;omega
  have hw4 : Below w.heap.size w w4:=(hb1.trans ((Zm hb3).mono hb1.size)).trans (hb4.mono (Nat.le_trans hb1.size (Zm hb3).size))
  have hstart : DivR w g4 w4.heap.size A3 c3 m (n + 1 - m) (o3.take m) a b s (n + 1 - m) (w4.alloc (.cells (Zt (List.replicate (n + 1 - m) 0)) 71)):=by
   have h1:=DivI.start (a:=digits a) (b:=digits b) (u:=o4) (s:=s) (n:=m) (by rw [hva];exact hv4.out) (by rw [hl4.out,ha.len]) hO4.2 (by rw [ha.len];exact hmn) ha.lt (by rw [hvb];have:=Nat.mul_le_mul_right (pw (m - 1)) (show 1 <= x by omega);omega) (by omega);rw [hva,hvb,ha.len] at h1;exact ⟨o4,_,h1,by simp,hM4.below ((Below.refl _ _).alloc (Nat.le_refl _) _),Blk.new _ _ _,hLv.alloc _,hw4.alloc hw4.size _⟩
  have hA3 : ∀ b o,A3 = some ⟨b,o,none⟩ -> b ≠ g4 /\ b ≠ w4.heap.size:=fun b o e=>by
   subst e;have h1:=Zn (hL3.cell (k:=0) (by omega));have:=hb4.size;simp only [] at h1;omega
  have hgs : w.heap.size <= g4:=by have:=hb1.size;have:=(Zm hb3).size;omega
  have hne : g4 ≠ w4.heap.size:=by omega
  clear hM4 hO4 hl4 hv4 hv3 hl3 hva hvb hcell hcell1 hv3' hl3';replace hvl:=Zb hvl
  go_loopw [12] (fun jv wr=>∃ k : Nat,k <= n + 1 - m /\ jv = .int .i64 ((k : Int) - 1) /\ DivR w g4 w4.heap.size A3 c3 m (n + 1 - m) (o3.take m) a b s k wr) (fun jv _=>(intOf jv + 1).toNat)
  case atStart=>exact ⟨n + 1 - m,Nat.le_refl _,rfl,hstart⟩
  case round =>
   obtain ⟨k,hk,rfl,lu,lq,hD,hq,hM,hBq,hLr,hBr⟩:=hrel;replace hq:=Zb hq
   rcases k with _ | k
   ·obtain ⟨e1,e2⟩:=hD.stop
    have hLu : Lim wr (some ⟨g4,0,none⟩) (n + 1) c4 lu:=hM.lim (by have:=hD.2.2.1;have:=hq.out;omega) hc4 (by unfold maxLen;omega) hD.1
    have hLq : Lim wr (some ⟨w4.heap.size,0,none⟩) (n + 1 - m) (n + 1 - m) lq:=by
     have:=Lim.of_blk hBq hD.2.1 (by rw [hq.out];unfold maxLen;omega);rw [hq.out] at this;exact this
    have hLu2:=hLu.canon.1;replace e1:=Zb e1;replace e2:=Zb e2;clear hD;go_wp2_with fail;refine (Zer _ _ _ _ _ hLu).mono ?_;rintro e w5 ⟨rfl,rfl⟩;go_wp2_with fail;refine (Zqf _ _ _ s _ _ hLu2 hs (by have:=hLu.canon.2;omega)).mono ?_;rintro e w6 ⟨A6,n6,c6,o6,b6,rfl,hL6,hv6,hb6⟩
    have hz : Hid (val o6 = a % b):=by
     unfold Hid;rw [hv6,Zg,e2.out,Nat.mul_div_cancel_left _ (Nat.pow_pos (by omega))]
    clear hv6;have hLq6:=hLq.below hb6;go_wp2_with fail;refine (Zer _ _ _ _ _ hLq6).mono ?_;rintro e w7 ⟨rfl,rfl⟩;go_wp2_with fail;refine (Zer _ _ _ _ _ hL6).mono ?_;rintro e w8 ⟨rfl,rfl⟩;go_wp2_with fail
    go_ret2
    refine ⟨_,_,_,_,_,_,rfl,?_,?_,hBr.trans (hb6.mono hBr.size)⟩
    ·rw [<- e1.out];exact hLq6.canon.1
    ·rw [<- hz.out];exact hL6.canon.1
   ·have hD':=hD
    obtain ⟨d1,d2,d3,d4,d5,d6,d7⟩:=hD';replace d3:=Zb d3;replace d5:=Zb d5;replace d7:=Zb d7;have hcq:=hBq.cell k;rw [Zab lq k (by rw [hq.out];omega)] at hcq;have hfq:=hBq.frozen k;go_wp2_with fail;have hVm : 2 ^ s * b <= pw m:=Nat.le_of_lt hVlt;obtain ⟨hw1,hw2⟩:=hD.win hVm
    have hwlen : ((lu.drop k).take (m + 1)).length = m + 1:=by rw [List.length_take,List.length_drop,d3.out];omega
    have hMw : MutL wr g4 k ((lu.drop k).take (m + 1)):=by
     have:=hM.win (k:=k) (n:=m + 1) (by rw [d3.out];omega)
     rwa [Nat.zero_add] at this
    have hwlt : val ((lu.drop k).take (m + 1)) < 4294967296 * val (o3.take m):=by rw [hw1,hvl.out];exact hw2
    rw [show k + m + 1 - k = m + 1 by omega];refine (Zta g4 k m (c4 - k) c3 A3 _ _ _ hMw hwlen ((d1.drop k).take (m + 1)) (by omega) (by unfold maxLen;omega) (by omega) (by omega) hLr hwlt htv).mono ?_;rintro e w5 ⟨l,w6,rfl,hll,hlt',hlv,hb6,hw5⟩
    have hQlt : val ((lu.drop k).take (m + 1)) / val (o3.take m) < 4294967296:=by
     rw [Nat.div_lt_iff_lt_mul (by omega)];exact hwlt
    have hfin:=DivR.step (wr:=wr) hD hq.out hM hBq hLr hBr hvl.out (by rw [hll];exact hwlen) hlt' hlv hb6 hQlt hne hA3 hgs hw4.size;rw [<- hw5] at hfin
    have hBq5 : Blk w5 w4.heap.size 71 (Zt lq):=by rw [hw5];exact (hBq.below hb6 hBq.lt).setCells (Ne.symm hne)
    have hcq5:=hBq5.cell k;rw [Zab lq k (by rw [hq.out];omega)] at hcq5;have hfq5:=hBq5.frozen k;obtain ⟨Q,hQ⟩ : ∃ Q,val ((lu.drop k).take (m + 1)) / val (o3.take m) = Q:=⟨_,rfl⟩;rw [hQ] at hfin hQlt ⊢;clear hcq hfq hw5 hlv hll hQ hw1 hwlen hwlt hw2;replace hfin:=Zb hfin;go_wp2_with fail
    go_roundw
    case rel=>exact ⟨k,by omega,by go_num,hfin.out⟩
    case measure=>simp [intOf] <;> omega
theorem Zfh (A B : Option Addr) (n c m d : Nat) (a b : Nat) (w : World) (ha : Lim w A n c (digits a)) (hb : Lim w B m d (digits b)) (hn : n <= 100000) (hb0 : 0 < b) :
    Calls Try.prog 57 #[.slice A n c,.slice B m d] w (Zmm w a b):=by
 rcases Nat.lt_or_ge a b with h | h
 ·exact Zm8 A B n c m d a b w ha hb hn h
 ·rcases Nat.lt_or_ge m 2 with h2 | h2
  ·have h1 : 0 < (digits b).length:=length_digits_pos.2 hb0
   rw [hb.len] at h1;exact Zo2 A B n c m d a b w ha hb hn h (by omega)
  ·exact Znt A B n c m d a b w ha hb hn h h2
end Go.Proofs.Ythappeninglakaa
