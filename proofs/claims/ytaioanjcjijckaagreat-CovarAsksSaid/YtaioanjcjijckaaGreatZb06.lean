/- Package wide: divide. Package wide: Add, Sub, Mul. Package -/
import Derived.BigQuiet
import Derived.Deep.QuietTactic
import Derived.Test.YtaioanjcjijckaaGreatZb04
import Derived.Test.YtaioanjcjijckaaGreatZb05
set_option maxRecDepth 100000
set_option maxHeartbeats 2000000
set_option linter.unusedSimpArgs false
set_option linter.unusedVariables false
namespace Go.Proofs.YtaioanjcjijckaaGreat
open Go.RowKit
attribute [local go_sem] Zf
def Zk4 (w:World) (a b:Nat) (e:Ending) (w':World):Prop:=
 ∃ A n c B m d,e=.returned (.tuple #[.slice A n c,.slice B m d])/\Lim w' A n c (digits (a / b))/\Lim w' B m d (digits (a % b))/\Below w.heap.size w w'
theorem Blk.setCells {w:World} {g g' o:Nat} {t:TypeId} {cs:Array Value} {us:List Value} (h:Blk w g t cs) (hne:g ≠ g'):Blk (w.setCells g' o us) g t cs:=by
 induction us generalizing o w with
 | nil=>exact h
 | cons u us ih=>exact ih (h.far hne u)
theorem Zkc {B:Nat} {w w':World} {g o:Nat} {us:List Value} (h:Below B w w') (hg:B <= g):Below B w (w'.setCells g o us):=by
 induction us generalizing o w' with
 | nil=>exact h
 | cons u us ih=>exact ih (h.setCell (p:=⟨g,o,none⟩) hg u)
theorem Zgl {v:List Nat} {n:Nat} (hn:v.length=n) (h0:0 < n) (hlt:Lt32 v):val v < (v[n - 1]?.getD 0+1) * pw (n - 1):=by
 have e:=Zac v (n - 1) (by omega);rw [Zbj (by omega),List.drop_of_length_le (by omega)] at e;have h1:=Zen (hlt.take (n - 1));rw [List.length_take,Nat.min_eq_left (by omega)] at h1;simp only [val] at e;rw [e,Nat.add_mul,Nat.one_mul,Nat.mul_comm (v[n - 1]?.getD 0)];simp only [Nat.mul_zero,Nat.add_zero];omega
theorem Zjh {v:Nat} (h:(digits v).length=1):digits v=[v]/\0 < v/\v < 4294967296:=by
 have hv:0 < v:=length_digits_pos.1 (by omega);have hlt:=Zcc v;rw [h] at hlt;have:v < 4294967296:=hlt;refine ⟨?_,hv,this⟩;rw [Zc6 (by omega),Nat.div_eq_of_lt this,Nat.mod_eq_of_lt this,Zah]
theorem Zn5 (A B:Option Addr) (n c m d:Nat) (a b:Nat) (w:World) (ha:Lim w A n c (digits a)) (hb:Lim w B m d (digits b)) (hn:n <= 100000) (h:a < b) :
    Calls Tryz.prog 151 #[.slice A n c,.slice B m d] w (Zk4 w a b):=by
 have hcv:Hid (Zbw (digits a) (digits b) < 0):=by
  have:=(Zf5 (va:=a) (vb:=b));unfold Hid;omega
 obtain ⟨cv,hcv2⟩:∃ x:Int,Zbw (digits a) (digits b)=x:=⟨_,rfl⟩
 have hneg:cv < 0:=by rw [<- hcv2];exact hcv.out
 have HC:=Za hcv2;clear hcv hcv2;go_enter Tryz.func151,Tryz.ntmps151;go_wp2_with fail;refine (Zb8 _ _ _ _ _ _ _ _ _ ha hb).mono ?_;rintro e w1 ⟨he1,hb1⟩;rw [HC.out] at he1;subst he1;go_wp2_with fail;refine (Zgg _ _ _ _ _ (ha.below hb1) (by omega)).mono ?_;rintro e w2 ⟨v,rfl,hO,hb2⟩;obtain ⟨A2,c2,hv,hL⟩:=hO.lim;subst hv;go_wp2_with fail
 go_ret2
 have hB:Below w.heap.size w w2:=hb1.trans (hb2.mono hb1.size);exact ⟨_,_,_,_,_,_,rfl,by rw [Nat.div_eq_of_lt h,Zah];exact Lim.nil _ _ _ (Nat.zero_le _),by rw [Nat.mod_eq_of_lt h];rw [show (digits a).length=n from ha.len] at hL ⊢;exact hL,hB⟩
theorem Zpc (A B:Option Addr) (n c m d:Nat) (a b:Nat) (w:World) (ha:Lim w A n c (digits a)) (hb:Lim w B m d (digits b)) (hn:n <= 100000) (h:b <= a) (hm:m=1) :
    Calls Tryz.prog 151 #[.slice A n c,.slice B m d] w (Zk4 w a b):=by
 subst hm;have hnc:=ha.2.1;have hcm:=ha.2.2.1;have hmd:=hb.2.1;have hdm:=hb.2.2.1;unfold maxLen at hcm hdm;obtain ⟨cv,hcv2⟩:∃ x:Int,Zbw (digits a) (digits b)=x:=⟨_,rfl⟩
 have hneg:¬ cv < 0:=by rw [<- hcv2];have:=(Zf5 (va:=a) (vb:=b));omega
 have hneg':decide (cv < 0)=false:=by simpa using hneg
 have HC:=Za hcv2;clear hcv2 hneg;obtain ⟨hd1,hb0,hb32⟩:=Zjh hb.len;obtain ⟨g,o,rfl,hcell⟩:=hb.at_ (k:=0) (by omega);rw [hd1] at hcell
 simp at hcell
 replace hd1:=Za hd1;have hr32:a % b < 4294967296:=Nat.lt_trans (Nat.mod_lt _ hb0) hb32;have hva:=Za (Zh a);go_enter Tryz.func151,Tryz.ntmps151;go_wp2_with fail;refine (Zb8 _ _ _ _ _ _ _ _ _ ha hb).mono ?_;rintro e w1 ⟨he1,hb1⟩;rw [HC.out] at he1;subst he1;have hcell1:=Zb hb1 hcell;go_wp2_with fail;refine (Zrt _ _ _ b _ _ (ha.below hb1) hb0 hb32 (by omega)).mono ?_;rintro e w2 ⟨A2,n2,c2,rfl,hL2,hb2⟩;rw [hva.out] at hL2 ⊢;obtain ⟨r,hr⟩:∃ r,a % b=r:=⟨_,rfl⟩;rw [hr] at hr32 ⊢;replace hr:=Za hr
 have hL3:∀ t,Lim (w2.alloc (.cells #[limb r] t)) (some ⟨w2.heap.size,0,none⟩) 1 1 [r]:=fun t=>by
  have:=Lim.of_blk (l:=[r]) (Blk.new w2 t (Zt [r])) (Lt32.cons hr32 Lt32.nil) (by simp [maxLen]);exact this
 have HL3:=Za hL3
 have hcan:canon [r]=digits r:=by have:=Zou (Lt32.cons hr32 Lt32.nil);simpa [val] using this
 go_wp2_with fail;refine (Ze3 _ _ _ _ _ (HL3.out _)).mono ?_;rintro e w3 ⟨rfl,rfl⟩;go_wp2_with fail
 go_ret2
 have hL4:=(HL3.out 147).canon.1;rw [show val [r]=r by simp [val]] at hL4 ⊢;refine ⟨_,_,_,_,_,_,rfl,hL2.alloc _,by rw [hr.out];exact hL4,((hb1.trans (hb2.mono hb1.size))).alloc (Nat.le_trans hb1.size hb2.size) _⟩
theorem Lim.far {w:World} {A:Option Addr} {n c:Nat} {l:List Nat} (h:Lim w A n c l) {p:Addr} {u:Value} (hne:∀ b o,A=some ⟨b,o,none⟩->b ≠ p.block):Lim (w.setCell p u) A n c l:=
 ⟨h.1,h.2.1,h.2.2.1,h.2.2.2.1,fun hn=>by
  obtain ⟨b,o,e,hc⟩:=h.2.2.2.2 hn;have hb:=hne b o e
  exact ⟨b,o,e,fun k hk=>(World.cell?_setCell_other w _ _ u (fun e2=>hb (by rw [e2]))).trans (hc k hk)⟩⟩
theorem Lim.setCells {A:Option Addr} {n c g:Nat} {l:List Nat} {us:List Value} (hne:∀ b o,A=some ⟨b,o,none⟩->b ≠ g):∀ {w:World} {o:Nat},Lim w A n c l->Lim (w.setCells g o us) A n c l:=by
 induction us with
 | nil=>exact fun h=>h
 | cons u us ih=>exact fun h=>ih (h.far hne)
theorem MutL.far {w:World} {g off:Nat} {l:List Nat} (h:MutL w g off l) {p:Addr} {u:Value} (hne:g ≠ p.block):MutL (w.setCell p u) g off l:=fun j hj =>
 ⟨(World.cell?_setCell_other w _ _ u (fun e2=>hne (by rw [e2]))).trans (h j hj).1,by rw [World.frozen?_setCell];exact (h j hj).2⟩
theorem MutL.lim {w:World} {g:Nat} {l:List Nat} {n c:Nat} (h:MutL w g 0 l) (hl:l.length=n) (hnc:n <= c) (hcm:c <= maxLen) (hlt:Lt32 l):Lim w (some ⟨g,0,none⟩) n c l:=
 ⟨hl,hnc,hcm,hlt,fun _=>⟨g,0,rfl,fun k hk=>(h k (by omega)).1⟩⟩
def DivR (w:World) (g q:Nat) (A:Option Addr) (c m nq:Nat) (vl:List Nat) (a b s k:Nat) (wr:World):Prop:=
 ∃ lu lq,DivI (2 ^ s * a) (2 ^ s * b) m lu lq k/\lq.length=nq/\MutL wr g 0 lu/\Blk wr q 147 (Zt lq)/\Lim wr A m c vl/\Below w.heap.size w wr
theorem DivR.step {w wr wr1:World} {g q:Nat} {A:Option Addr} {c m nq:Nat} {vl lu lq:List Nat} {a b s k:Nat} {l:List Nat} (hD:DivI (2 ^ s * a) (2 ^ s * b) m lu lq (k+1)) (hq:lq.length=nq) (hM:MutL wr g 0 lu) (hB:Blk wr q 147 (Zt lq))
    (hL:Lim wr A m c vl) (hw:Below w.heap.size w wr) (hv:val vl=2 ^ s * b) (hlen:l.length=m+1) (hlt:Lt32 l) (hl:val l=val ((lu.drop k).take (m+1)) % val vl) (hb1:Below wr.heap.size wr wr1) (hQ:val ((lu.drop k).take (m+1)) / val vl < 4294967296)
    (hgq:g ≠ q) (hA:∀ b o,A=some ⟨b,o,none⟩->b ≠ g/\b ≠ q) (hg:w.heap.size <= g) (hqs:w.heap.size <= q) :
    DivR w g q A c m nq vl a b s k ((wr1.setCells g k (l.map limb)).setCell ⟨q,k,none⟩ (limb (val ((lu.drop k).take (m+1)) / val vl))):=by
 have hVm:2 ^ s * b <= pw m:=by rw [<- hv];exact Nat.le_of_lt hL.lt_pw
 have hlen2:k+l.length <= lu.length:=by have:=hD.2.2.1;have:=hD.2.2.2.1;omega
 refine ⟨splice lu k l,lq.set k (val ((lu.drop k).take (m+1)) / val vl),hD.step hVm hlen hlt hQ (by rw [hv]) (by rw [<- hv];exact hl),by rw [List.length_set];exact hq,
  ((hM.below hb1).splice hlen2).far hgq,?_,((hL.below hb1).setCells (fun b o e=>(hA b o e).1)).far (fun b o e=>(hA b o e).2),?_⟩
 ·rw [<- Zbq]
  exact ((hB.below hb1 hB.lt).setCells (Ne.symm hgq)).set_ _ _
 ·exact (Zkc (hw.trans (hb1.mono hw.size)) hg).setCell (p:=⟨q,k,none⟩) hqs _
theorem Zoh (A B:Option Addr) (n c m d:Nat) (a b:Nat) (w:World) (ha:Lim w A n c (digits a)) (hb:Lim w B m d (digits b)) (hn:n <= 100000) (h:b <= a) (hm:2 <= m) :
    Calls Tryz.prog 151 #[.slice A n c,.slice B m d] w (Zk4 w a b):=by
 have hnc:=ha.2.1;have hcm:=ha.2.2.1;have hmd:=hb.2.1;have hdm:=hb.2.2.1;unfold maxLen at hcm hdm
 have hmn:m <= n:=by have:=Zw h;rw [ha.len,hb.len] at this;exact this
 obtain ⟨i0,hi,hz0,hz1,hz2⟩:=info_parts Zco;have hmk:=Zeo (P:=Tryz.prog) 25 147 Tryz.underlying25 hi hz0 hz1 hz2 ((n:Int)+1 - m) (n+1 - m) (by omega) (by omega);obtain ⟨cv,hcv2⟩:∃ x:Int,Zbw (digits a) (digits b)=x:=⟨_,rfl⟩
 have hneg:¬ cv < 0:=by rw [<- hcv2];have:=(Zf5 (va:=a) (vb:=b));omega
 have hneg':decide (cv < 0)=false:=by simpa using hneg
 have HC:=Za hcv2;clear hcv2 hneg
 have hm1:((m:Int) == 1)=false:=by simp;omega
 obtain ⟨g,o,rfl,hcell⟩:=hb.at_ (k:=m - 1) (by omega);have hlen:=hb.len;have htop:=Zdk (v:=b) (by omega);have htl:=Zmn hlen (by omega);have htlt:=hb.lt.get (m - 1);have hblt:=Zcc b;rw [hlen] at htop hblt;have htl2:=Zgl hlen (by omega) hb.lt;rw [Zh] at htl htl2;obtain ⟨x,hx⟩:∃ x,(digits b)[m - 1]?.getD 0=x:=⟨_,rfl⟩;rw [hx] at hcell htop htl htlt htl2;replace hlen:=Za hlen;replace hx:=Za hx;have hva:=Za (Zh a);have hvb:=Za (Zh b);go_enter Tryz.func151,Tryz.ntmps151;go_wp2_with fail;refine (Zb8 _ _ _ _ _ _ _ _ _ ha hb).mono ?_;rintro e w1 ⟨he1,hb1⟩;rw [HC.out] at he1;subst he1;have hcell1:=Zb hb1 hcell;go_wp2_with fail;refine (Zuq x _ (by omega) htlt).mono ?_;rintro e w2 ⟨s,rfl,hs,hxs,rfl⟩;have ha1:=ha.below hb1;have hb1':=hb.below hb1;go_wp2_with fail
 go_region_with (first
  | (go_at_call 150;((with_reducible refine (Zon (some ⟨g,o,none⟩) m d s (digits b) _ hb1'.drew hs (by omega)).mono ?_));rintro e w3 ⟨v3,o3,rfl,hO3,hl3,hv3,hb3⟩;obtain ⟨A3,c3,hv3',hL3⟩:=hO3.lim;rw [hl3] at hv3' hL3;subst hv3';have hnc3:=hL3.2.1;have hcm3:=hL3.2.2.1;unfold maxLen at hcm3;replace hl3:=Za hl3;replace hv3:=Za hv3;clear hO3)
  | (go_at_call 150;((with_reducible refine (Zon A n c s (digits a) _ (ha1.drew.below hb3) hs (by omega)).mono ?_));rintro e w4 ⟨v4,o4,rfl,hO4,hl4,hv4,hb4⟩;obtain ⟨g4,c4,hv4',hg4,hg4s,hc4,hcm4,hM4⟩:=hO4.mut (by omega);rw [hl4] at hv4' hc4;subst hv4';unfold maxLen at hcm4;replace hl4:=Za hl4;replace hv4:=Za hv4))
 all_goals go_wp2_with fail
 all_goals
  replace hvb:=hvb.out;replace hva:=hva.out;rw [hvb] at hv3;rw [hva] at hv4;have hl3':=hl3.out;have hv3':=hv3.out
  have hp31:2 ^ s * (x+1) <= 4294967296:=by
   have h1:2 ^ s * (x+1) <= 2 ^ s * 2 ^ (32 - s):=Nat.mul_le_mul_left _ hxs;rw [<- Nat.pow_add,show s+(32 - s)=32 by omega] at h1;exact h1
  have hVlt:2 ^ s * b < pw m:=by
   have h1:2 ^ s * b < 2 ^ s * ((x+1) * pw (m - 1)):=Nat.mul_lt_mul_of_pos_left htl2 (Nat.pow_pos (by omega))
   have h2:2 ^ s * ((x+1) * pw (m - 1)) <= 4294967296 * pw (m - 1):=by rw [<- Nat.mul_assoc];exact Nat.mul_le_mul_right _ hp31
   rw [<- Zaq,show m - 1+1=m by omega] at h2;omega
  have hvl:val (o3.take m)=2 ^ s * b:=by
   have h1:=Zac o3 m (by omega)
   rcases Nat.eq_zero_or_pos (val (o3.drop m)) with h0 | h0
   ·rw [h0] at h1;omega
   ·have:=Nat.mul_le_mul_left (pw m) h0;omega
  have hLv:=(hL3.take (k:=m) (by omega)).below hb4
  have hbp:pw (m - 1) <= 2 ^ s * b:=by
   have h1:=Nat.mul_le_mul_right (pw (m - 1)) (show 1 <= x by omega);have h2:1 * b <= 2 ^ s * b:=Nat.mul_le_mul_right _ (Nat.pow_pos (by omega));omega
  have htv:(o3.take m)[m - 1]?.getD 0 ≠ 0:=fun h0=>by
   have h1:=Zgl (v:=o3.take m) (n:=m) (by rw [List.length_take,hl3'];omega) (by omega) hLv.lt;rw [h0,hvl] at h1;omega
  have hw4:Below w.heap.size w w4:=(hb1.trans ((Zq hb3).mono hb1.size)).trans (hb4.mono (Nat.le_trans hb1.size (Zq hb3).size))
  have hstart:DivR w g4 w4.heap.size A3 c3 m (n+1 - m) (o3.take m) a b s (n+1 - m) (w4.alloc (.cells (Zt (List.replicate (n+1 - m) 0)) 147)):=by
   have h1:=DivI.start (a:=digits a) (b:=digits b) (u:=o4) (s:=s) (n:=m) (by rw [hva];exact hv4.out) (by rw [hl4.out,ha.len]) hO4.2 (by rw [ha.len];exact hmn) ha.lt (by rw [hvb];have:=Nat.mul_le_mul_right (pw (m - 1)) (show 1 <= x by omega);omega) (by omega);rw [hva,hvb,ha.len] at h1;exact ⟨o4,_,h1,by simp,hM4.below ((Below.refl _ _).alloc (Nat.le_refl _) _),Blk.new _ _ _,hLv.alloc _,hw4.alloc hw4.size _⟩
  have hA3:∀ b o,A3=some ⟨b,o,none⟩->b ≠ g4/\b ≠ w4.heap.size:=fun b o e=>by
   subst e;have h1:=Z0 (hL3.cell (k:=0) (by omega));have:=hb4.size;simp only [] at h1;omega
  have hgs:w.heap.size <= g4:=by have:=hb1.size;have:=(Zq hb3).size;omega
  have hne:g4 ≠ w4.heap.size:=by omega
  clear hM4 hO4 hl4 hv4 hv3 hl3 hva hvb hcell hcell1 hv3' hl3';replace hvl:=Za hvl
  go_loopw [12] (fun jv wr=>∃ k:Nat,k <= n+1 - m/\jv=.int .i64 ((k:Int) - 1)/\DivR w g4 w4.heap.size A3 c3 m (n+1 - m) (o3.take m) a b s k wr) (fun jv _=>(intOf jv+1).toNat)
  case atStart=>exact ⟨n+1 - m,Nat.le_refl _,rfl,hstart⟩
  case round =>
   obtain ⟨k,hk,rfl,lu,lq,hD,hq,hM,hBq,hLr,hBr⟩:=hrel;replace hq:=Za hq
   rcases k with _ | k
   ·obtain ⟨e1,e2⟩:=hD.stop
    have hLu:Lim wr (some ⟨g4,0,none⟩) (n+1) c4 lu:=hM.lim (by have:=hD.2.2.1;have:=hq.out;omega) hc4 (by unfold maxLen;omega) hD.1
    have hLq:Lim wr (some ⟨w4.heap.size,0,none⟩) (n+1 - m) (n+1 - m) lq:=by
     have:=Lim.of_blk hBq hD.2.1 (by rw [hq.out];unfold maxLen;omega);rw [hq.out] at this;exact this
    have hLu2:=hLu.canon.1;replace e1:=Za e1;replace e2:=Za e2;clear hD;go_wp2_with fail;refine (Ze3 _ _ _ _ _ hLu).mono ?_;rintro e w5 ⟨rfl,rfl⟩;go_wp2_with fail;refine (Zlb _ _ _ s _ _ hLu2 hs (by have:=hLu.canon.2;omega)).mono ?_;rintro e w6 ⟨A6,n6,c6,o6,b6,rfl,hL6,hv6,hb6⟩
    have hz:Hid (val o6=a % b):=by
     unfold Hid;rw [hv6,Zh,e2.out,Nat.mul_div_cancel_left _ (Nat.pow_pos (by omega))]
    clear hv6;have hLq6:=hLq.below hb6;go_wp2_with fail;refine (Ze3 _ _ _ _ _ hLq6).mono ?_;rintro e w7 ⟨rfl,rfl⟩;go_wp2_with fail;refine (Ze3 _ _ _ _ _ hL6).mono ?_;rintro e w8 ⟨rfl,rfl⟩;go_wp2_with fail
    go_ret2
    refine ⟨_,_,_,_,_,_,rfl,?_,?_,hBr.trans (hb6.mono hBr.size)⟩
    ·rw [<- e1.out];exact hLq6.canon.1
    ·rw [<- hz.out];exact hL6.canon.1
   ·have hD':=hD
    obtain ⟨d1,d2,d3,d4,d5,d6,d7⟩:=hD';replace d3:=Za d3;replace d5:=Za d5;replace d7:=Za d7;have hcq:=hBq.cell k;rw [Zai lq k (by rw [hq.out];omega)] at hcq;have hfq:=hBq.frozen k;go_wp2_with fail;have hVm:2 ^ s * b <= pw m:=Nat.le_of_lt hVlt;obtain ⟨hw1,hw2⟩:=hD.win hVm
    have hwlen:((lu.drop k).take (m+1)).length=m+1:=by rw [List.length_take,List.length_drop,d3.out];omega
    have hMw:MutL wr g4 k ((lu.drop k).take (m+1)):=by
     have:=hM.win (k:=k) (n:=m+1) (by rw [d3.out];omega)
     rwa [Nat.zero_add] at this
    have hwlt:val ((lu.drop k).take (m+1)) < 4294967296 * val (o3.take m):=by rw [hw1,hvl.out];exact hw2
    rw [show k+m+1 - k=m+1 by omega];refine (Zti g4 k m (c4 - k) c3 A3 _ _ _ hMw hwlen ((d1.drop k).take (m+1)) (by omega) (by unfold maxLen;omega) (by omega) (by omega) hLr hwlt htv).mono ?_;rintro e w5 ⟨l,w6,rfl,hll,hlt',hlv,hb6,hw5⟩
    have hQlt:val ((lu.drop k).take (m+1)) / val (o3.take m) < 4294967296:=by
     rw [Nat.div_lt_iff_lt_mul (by omega)];exact hwlt
    have hfin:=DivR.step (wr:=wr) hD hq.out hM hBq hLr hBr hvl.out (by rw [hll];exact hwlen) hlt' hlv hb6 hQlt hne hA3 hgs hw4.size;rw [<- hw5] at hfin
    have hBq5:Blk w5 w4.heap.size 147 (Zt lq):=by rw [hw5];exact (hBq.below hb6 hBq.lt).setCells (Ne.symm hne)
    have hcq5:=hBq5.cell k;rw [Zai lq k (by rw [hq.out];omega)] at hcq5;have hfq5:=hBq5.frozen k;obtain ⟨Q,hQ⟩:∃ Q,val ((lu.drop k).take (m+1)) / val (o3.take m)=Q:=⟨_,rfl⟩;rw [hQ] at hfin hQlt ⊢;clear hcq hfq hw5 hlv hll hQ hw1 hwlen hwlt hw2;replace hfin:=Za hfin;go_wp2_with fail
    go_roundw
    case rel=>exact ⟨k,by omega,by go_num,hfin.out⟩
    case measure=>simp [intOf] <;> omega
theorem Zfo (A B:Option Addr) (n c m d:Nat) (a b:Nat) (w:World) (ha:Lim w A n c (digits a)) (hb:Lim w B m d (digits b)) (hn:n <= 100000) (hb0:0 < b) :
    Calls Tryz.prog 151 #[.slice A n c,.slice B m d] w (Zk4 w a b):=by
 rcases Nat.lt_or_ge a b with h | h
 ·exact Zn5 A B n c m d a b w ha hb hn h
 ·rcases Nat.lt_or_ge m 2 with h2 | h2
  ·have h1:0 < (digits b).length:=length_digits_pos.2 hb0
   rw [hb.len] at h1;exact Zpc A B n c m d a b w ha hb hn h (by omega)
  ·exact Zoh A B n c m d a b w ha hb hn h h2
def BadW (w:World) (e:Ending) (w':World):Prop:=e=.returned (.tuple #[.agg #[.bool false,.slice none 0 0],.int .i64 8])/\Below w.heap.size w w'
theorem Zpo (s:Bool) (v:Nat):sg (!s) v=- sg s v:=by cases s <;> simp [sg]
theorem Zty (s t:Bool) (a b:Nat):sg (s != t) (a * b)=sg s a * sg t b:=by cases s <;> cases t <;> simp [sg,Int.neg_mul,Int.mul_neg]
theorem Neg_ok (neg:Bool) (A:Option Addr) (n c:Nat) (z:Int) (w:World) (hz:Wd w neg A n c z) :
    Calls Tryz.prog 221 #[.agg #[.bool neg,.slice A n c]] w (ResW w (-z)):=by
 have hL:=hz.lim;have hn:=hz.2.1
 have hW:∀ X Y t,WL (((w.alloc X).alloc Y).alloc (.cells #[.bool neg,.slice A n c] t)) (some ⟨w.heap.size+1+1,0,none⟩) 1 1 [⟨neg,A,n,c,digits z.natAbs⟩]:=fun X Y t=>by
  have:=WL.one (neg:=neg) ((hL.alloc X).alloc Y) t;simp only [World.size_alloc] at this;exact this
 have hW:=Za hW
 have hB0:∀ X Y Z:Obj,Below w.heap.size w (((w.alloc X).alloc Y).alloc Z):=fun X Y Z=>(((Below.refl w.heap.size w).alloc (Nat.le_refl _) _).alloc (by simp) _).alloc (by simp;omega) _
 have hB0:=Za hB0;have hgood:Hid (okW neg (digits z.natAbs)=true):=hz.ok;have hsg:=Za hz.sgEq;clear hz;go_enter Tryz.func221,Tryz.ntmps221;go_wp2_with fail;refine (Zc0 (hW.out _ _ _) (by have:=hgood.out;simp [WE.ok,this])).mono ?_;rintro e w1 ⟨rfl,hb1⟩;obtain ⟨hc1,hf1⟩:=Zca hb1
 have hz1:w.heap.size+1+1 < w1.heap.size:=by have:=hb1.size;simp at this;omega
 have hB1:Below w.heap.size w w1:=(hB0.out _ _ _).trans (hb1.mono (by simp;omega))
 have g0:w1.cell? ⟨w.heap.size,0,none⟩=some (.bool neg):=by simp [hc1,go_sem]
 have g1:w1.cell? ⟨w.heap.size,1,none⟩=some (.slice A n c):=by simp [hc1,go_sem]
 have g7:Blk w1 (w.heap.size+1) 27 #[.bool false,.slice none 0 0]:=by
  refine Zc hb1 (Blk.alloc ?_ _);have:=Blk.new (w.alloc (.cells #[.bool neg,.slice A n c] 27)) 27 #[.bool false,.slice none 0 0];simp only [World.size_alloc] at this;exact this
 have g3:=g7.cell 0;have g4:=g7.cell 1;have g5:=g7.frozen 0;have g6:=g7.frozen 1
 simp at g3 g4
 have hL1:=hL.below hB1;clear hc1 hf1;go_wp2_with fail
 go_region_held3 (fun w'=>w'.cell? ⟨w.heap.size,0,none⟩=some (.bool neg)/\w'.cell? ⟨w.heap.size,1,none⟩=some (.slice A n c))
  (((try dsimp only);(repeat' apply And.intro);all_goals (first | go_keep | (simp [*,go_sem];done))))
  (first
   | (go_at_call 204;refine (Zgg _ _ _ _ _ (by exact hL1) (by omega)).mono ?_;rintro e w2 ⟨v2,rfl,hO2,hb2⟩;obtain ⟨A2,c2,hv2,hL2⟩:=hO2.lim;subst hv2;clear hO2;have k0:=Zb hb2 g0;have k1:=Zb hb2 g1;have k3:=Zb hb2 g3;have k4:=Zb hb2 g4;have k5:=Zk hb2 g3 g5;have k6:=Zk hb2 g4 g6;have k7:=Zc hb2 g7)
   | (go_at_call 155;refine (Zbt _ _ _ _ _ _ (by exact hL2)).mono ?_;rintro e w3 ⟨hb3,neg3,A3,n3,c3,code3,rfl,hR3⟩;have m0:=Zb hb3 k0;have m1:=Zb hb3 k1;have m3:=Zb hb3 k3;have m4:=Zb hb3 k4;have m5:=Zk hb3 k3 k5;have m6:=Zk hb3 k4 k6;have m7:=Zc hb3 k7))
 have hB3:Below w.heap.size w w3:=(hB1.trans ((Zq hb2).mono hB1.size)).trans (hb3.mono (Nat.le_trans hB1.size (Zq hb2).size))
 have HZ:sg (!neg) (val (digits z.natAbs))=-z:=by
  have h1:=hsg.out;rw [Zpo,h1]
 go_wp2
 refine bodyPost_ret (v:=.tuple #[.agg #[.bool neg3,.slice A3 n3 c3],.int .i64 code3]) (by simp [results,Tryz.results221,go_sem,m3,m4]) rfl ?_;exact ResW.box (HZ ▸ hR3) hB3 (by omega) m7
def Zbo (a b:Int):Int:=if a < b then -1 else if b < a then 1 else 0
theorem Zb9 (a b:Nat):Zbw (digits a) (digits b)=Zbo a b:=by
 unfold Zbw Zbo;rw [Zh,Zh];have h1:a <= b->(digits a).length <= (digits b).length:=Zw;have h2:b <= a->(digits b).length <= (digits a).length:=Zw
 (repeat' split) <;> first | rfl | omega
theorem to_ok (na nb:Bool) (A B:Option Addr) (n c m d:Nat) (za zb:Int) (w:World) (ha:Wd w na A n c za) (hb:Wd w nb B m d zb) :
    Calls Tryz.prog 195 #[.agg #[.bool na,.slice A n c],.agg #[.bool nb,.slice B m d]] w fun e w'=>e=.returned (.int .i64 (Zbo za zb))/\Below w.heap.size w w':=by
 have hLa:=ha.lim;have hLb:=hb.lim;have hna:=ha.1;have hnb:=hb.1
 have hB0:∀ X Y:Obj,Below w.heap.size w ((w.alloc X).alloc Y):=fun X Y=>((Below.refl w.heap.size w).alloc (Nat.le_refl _) _).alloc (by simp) _
 have hB0:=Za hB0;have HC1:=Za (Zb9 za.natAbs zb.natAbs);have HC2:=Za (Zb9 zb.natAbs za.natAbs)
 have hP:Hid (∀ (e:Ending) (w':World),(e=.returned (.int .i64 (Zbw (digits za.natAbs) (digits zb.natAbs)))/\Below w.heap.size w w')->(na=false/\nb=false)->e=.returned (.int .i64 (Zbo za zb))/\Below w.heap.size w w'):=fun e w' ⟨h1,h2⟩ ⟨h3,h4⟩=>by
  subst h3 h4
  have h5:¬ za < 0:=by intro h;simp [h] at hna
  have h6:¬ zb < 0:=by intro h;simp [h] at hnb
  refine ⟨?_,h2⟩;rw [h1,HC1.out,show ((za.natAbs:Nat):Int)=za by omega,show ((zb.natAbs:Nat):Int)=zb by omega]
 have hN:Hid (∀ (e:Ending) (w':World),(e=.returned (.int .i64 (Zbw (digits zb.natAbs) (digits za.natAbs)))/\Below w.heap.size w w')->(na=true/\nb=true)->e=.returned (.int .i64 (Zbo za zb))/\Below w.heap.size w w'):=fun e w' ⟨h1,h2⟩ ⟨h3,h4⟩=>by
  subst h3 h4
  have h5:za < 0:=by by_cases h:za < 0;exact h;simp [h] at hna
  have h6:zb < 0:=by by_cases h:zb < 0;exact h;simp [h] at hnb
  refine ⟨?_,h2⟩;rw [h1,HC2.out]
  congr 2
  unfold Zbo
  split <;> split <;> (try split) <;> omega
 have hM:Hid (∀ b,na=b->nb=!b->Ending.returned (.int .i64 (if b then -1 else 1))=.returned (.int .i64 (Zbo za zb))):=fun b h3 h4=>by
  refine Zgj ?_;unfold Zbo
  cases b
  ·have h5:¬ za < 0:=by intro h;simp [h,h3] at hna
   have h6:zb < 0:=by by_cases h:zb < 0;exact h;simp [h,h4] at hnb
   rw [if_neg (show ¬ za < zb by omega),if_pos (show zb < za by omega)];rfl
  ·have h5:za < 0:=by by_cases h:za < 0;exact h;simp [h,h3] at hna
   have h6:¬ zb < 0:=by intro h;simp [h,h4] at hnb
   rw [if_pos (show za < zb by omega)];rfl
 clear ha hb hna hnb
 cases na <;> cases nb
 ·go_enter Tryz.func195,Tryz.ntmps195
  go_wp2_with (go_at_call 154;((with_reducible refine (Zb8 _ _ _ _ _ _ _ _ _ ((hLa.alloc _).alloc _) ((hLb.alloc _).alloc _)).mono ?_));rintro e w1 ⟨rfl,hb1⟩);go_ret;exact hP.out _ _ ⟨rfl,(hB0.out _ _).trans (hb1.mono (by simp;omega))⟩ (by simp)
 ·go_enter Tryz.func195,Tryz.ntmps195
  go_wp2_with fail;go_ret;exact ⟨hM.out false rfl rfl,hB0.out _ _⟩
 ·go_enter Tryz.func195,Tryz.ntmps195
  go_wp2_with fail;go_ret;exact ⟨hM.out true rfl rfl,hB0.out _ _⟩
 ·go_enter Tryz.func195,Tryz.ntmps195
  go_wp2_with (go_at_call 154;((with_reducible refine (Zb8 _ _ _ _ _ _ _ _ _ ((hLb.alloc _).alloc _) ((hLa.alloc _).alloc _)).mono ?_));rintro e w1 ⟨rfl,hb1⟩);go_ret;exact hN.out _ _ ⟨rfl,(hB0.out _ _).trans (hb1.mono (by simp;omega))⟩ (by simp)
theorem Znb (na nb:Bool) (A B:Option Addr) (n c m d:Nat) (za zb:Int) (w:World) (ha:Wd w na A n c za) (hb:Wd w nb B m d zb) :
    Calls Tryz.prog 129 #[.agg #[.bool na,.slice A n c],.agg #[.bool nb,.slice B m d]] w fun e w'=>e=.returned (.tuple #[.int .i64 (Zbo za zb),.int .i64 0])/\Below w.heap.size w w':=by
 have hLa:=ha.lim;have hLb:=hb.lim
 have hB0:∀ X Y Z:Obj,Below w.heap.size w (((w.alloc X).alloc Y).alloc Z):=fun X Y Z=>(((Below.refl w.heap.size w).alloc (Nat.le_refl _) _).alloc (by simp) _).alloc (by simp;omega) _
 have hW:∀ X Y t,WL (((w.alloc X).alloc Y).alloc (.cells #[.bool na,.slice A n c,.bool nb,.slice B m d] t)) (some ⟨w.heap.size+1+1,0,none⟩) 2 2 [⟨na,A,n,c,digits za.natAbs⟩,⟨nb,B,m,d,digits zb.natAbs⟩]:=fun X Y t=>by
  have:=WL.two (neg:=na) (neg':=nb) ((hLa.alloc X).alloc Y) ((hLb.alloc X).alloc Y) t;simp only [World.size_alloc] at this;exact this
 have hW:=Za hW;have hB0:=Za hB0;have hgood:Hid (okW na (digits za.natAbs)=true/\okW nb (digits zb.natAbs)=true):=⟨ha.ok,hb.ok⟩
 have hmf:∀ (fn:Fn) (first cap:Array Value) (w:World),(Instr.makeFunc fn first cap).run Tryz.prog w=.ok (.func fn first cap) w:=fun _ _ _ _=>rfl
 have HA:=Za ha;have HB:=Za hb;clear ha hb;go_enter Tryz.func129,Tryz.ntmps129;go_wp2_with fail;refine (Zc0 (hW.out _ _ _) (by have:=hgood.out;simp [WE.ok,this])).mono ?_;rintro e w1 ⟨rfl,hb1⟩;obtain ⟨hc1,hf1⟩:=Zca hb1
 have hz1:w.heap.size+1+1 < w1.heap.size:=by have:=hb1.size;simp at this;omega
 have hB1:Below w.heap.size w w1:=(hB0.out _ _ _).trans (hb1.mono (by simp;omega));go_wp2_with fail;refine (to_ok na nb A B n c m d za zb _ (HA.out.below hB1) (HB.out.below hB1)).mono ?_;rintro e w2 ⟨rfl,hb2⟩;go_wp2_with fail
 go_ret2
 exact ⟨rfl,hB1.trans (hb2.mono hB1.size)⟩
def Zh4 (w:World):Value->List Nat
 | .slice (some ad) n _=>(List.range n).map fun k=>match w.cell? (ad.add k) with | some (.int _ x)=>x.toNat | _=>0
 | _=>[]
theorem Lim.mem {w:World} {A:Option Addr} {n c:Nat} {l:List Nat} (h:Lim w A n c l):Zh4 w (.slice A n c)=l:=by
 rcases A with _ | ad
 ·have hn:n=0:=by
    rcases Nat.eq_zero_or_pos n with h0 | h0
    ·exact h0
    ·obtain ⟨b,o,e,_⟩:=h.2.2.2.2 h0
     cases e
  subst hn;exact (List.eq_nil_of_length_eq_zero h.len).symm
 ·unfold Zh4
  apply List.ext_getElem (by simp [h.len])
  intro i h1 h2;obtain ⟨b,o,e,hc⟩:=h.at_ (k:=i) (by rw [<- h.len];exact h2)
  injection e with e
  subst e;simp only [List.getElem_map,List.getElem_range,Zf,hc]
  simp [List.getElem?_eq_getElem h2]
def GcdR (w:World) (t:TypeId) (G:Nat) (xv yv:Value) (wr:World):Prop:=
 ∃ (u v:Nat) (A:Option Addr) (n c:Nat) (B:Option Addr) (m d:Nat),xv=.slice A n c/\yv=.slice B m d/\Lim wr A n c (digits u)/\Lim wr B m d (digits v)/\n <= 4096/\m <= 4096/\Nat.gcd u v=G/\Blk wr (w.heap.size+1+1) t #[.bool false,.slice none 0 0]/\Below w.heap.size w wr
theorem Zjn (na nb:Bool) (A B:Option Addr) (n c m d:Nat) (za zb:Int) (w:World) (ha:Wd w na A n c za) (hb:Wd w nb B m d zb) :
    Calls Tryz.prog 179 #[.agg #[.bool na,.slice A n c],.agg #[.bool nb,.slice B m d]] w (ResW w (Nat.gcd za.natAbs zb.natAbs:Nat)):=by
 have hLa:=ha.lim;have hLb:=hb.lim;have hn:=ha.2.1;have hm:=hb.2.1
 have hB0:∀ X Y Z V:Obj,Below w.heap.size w ((((w.alloc X).alloc Y).alloc Z).alloc V):=fun X Y Z V=>((((Below.refl w.heap.size w).alloc (Nat.le_refl _) _).alloc (by simp) _).alloc (by simp;omega) _).alloc (by simp;omega) _
 have hW:∀ X Y Z t,WL ((((w.alloc X).alloc Y).alloc Z).alloc (.cells #[.bool na,.slice A n c,.bool nb,.slice B m d] t)) (some ⟨w.heap.size+1+1+1,0,none⟩) 2 2 [⟨na,A,n,c,digits za.natAbs⟩,⟨nb,B,m,d,digits zb.natAbs⟩]:=fun X Y Z t=>by
  have:=WL.two (neg:=na) (neg':=nb) (((hLa.alloc X).alloc Y).alloc Z) (((hLb.alloc X).alloc Y).alloc Z) t;simp only [World.size_alloc] at this;exact this
 have hW:=Za hW;have hB0:=Za hB0;have hgood:Hid (okW na (digits za.natAbs)=true/\okW nb (digits zb.natAbs)=true):=⟨ha.ok,hb.ok⟩;clear ha hb
 generalize za.natAbs=va at *
 generalize zb.natAbs=vb at *
 obtain ⟨G,hG⟩:∃ G,Nat.gcd va vb=G:=⟨_,rfl⟩;rw [hG];replace hG:=Za hG;go_enter Tryz.func179,Tryz.ntmps179;go_wp2_with fail;refine (Zc0 (hW.out _ _ _ _) (by have:=hgood.out;simp [WE.ok,this])).mono ?_;rintro e w1 ⟨rfl,hb1⟩;obtain ⟨hc1,hf1⟩:=Zca hb1
 have hz1:w.heap.size+1+1+1 < w1.heap.size:=by have:=hb1.size;simp at this;omega
 have hB1:Below w.heap.size w w1:=(hB0.out _ _ _ _).trans (hb1.mono (by simp;omega))
 have g1:w1.cell? ⟨w.heap.size,1,none⟩=some (.slice A n c):=by simp [hc1,go_sem]
 have g2:w1.cell? ⟨w.heap.size+1,1,none⟩=some (.slice B m d):=by simp [hc1,go_sem]
 have g7:Blk w1 (w.heap.size+1+1) 27 #[.bool false,.slice none 0 0]:=by
  refine Zc hb1 (Blk.alloc ?_ _);have:=Blk.new ((w.alloc (.cells #[.bool na,.slice A n c] 27)).alloc (.cells #[.bool nb,.slice B m d] 27)) 27 #[.bool false,.slice none 0 0];simp only [World.size_alloc] at this;exact this
 have hLa1:=hLa.below hB1;have hLb1:=hLb.below hB1;replace g7:=Za g7;clear hc1 hf1;go_wp2_with fail
 go_region_held3 (fun w'=>w'.cell? ⟨w.heap.size,1,none⟩=some (.slice A n c)/\w'.cell? ⟨w.heap.size+1,1,none⟩=some (.slice B m d))
  (((try dsimp only);(repeat' apply And.intro);all_goals (first | go_keep | (simp [*,go_sem];done))))
  ((go_at_call 204;refine (Zgg _ _ _ _ _ (by exact hLa1) (by omega)).mono ?_;rintro e w2 ⟨v2,rfl,hO2,hb2⟩;obtain ⟨A2,c2,hv2,hL2⟩:=hO2.lim;rw [hLa1.len] at hv2 hL2;subst hv2;clear hO2;have k1:=Zb hb2 g1;have k2:=Zb hb2 g2))
 have hb2':=Zq hb2;have hB2:Below w.heap.size w w2:=hB1.trans (hb2'.mono hB1.size);have m7:Hid (Blk w2 (w.heap.size+1+1) 27 #[.bool false,.slice none 0 0]):=Zc hb2' g7.out;have hLb2:=hLb1.below hb2';go_wp2_with fail
 go_loopw [7,8] (fun xv yv wr=>GcdR w 27 G xv yv wr) (fun _ yv wr=>val (Zh4 wr yv))
 case atStart=>exact ⟨va,vb,_,_,_,_,_,_,rfl,rfl,hL2,hLb2,hn,hm,hG.out,m7.out,hB2⟩
 case round =>
  obtain ⟨u,v,A5,n5,c5,B5,m5,d5,rfl,rfl,hLu,hLv,hn5,hm5,hg,hb7,hBr⟩:=hrel;replace hg:=Za hg;replace hb7:=Za hb7
  by_cases hm0:0 < m5
  ·have hv0:0 < v:=by rw [<- hLv.len] at hm0;exact length_digits_pos.1 hm0
   have hmem:=Za hLv.mem;go_wp2_with fail;refine (Zfo _ _ _ _ _ _ u v _ hLu hLv (by omega) hv0).mono ?_;rintro e w5 ⟨A6,n6,c6,B6,m6,d6,rfl,hLq,hLr,hb5⟩;go_wp2_with fail
   go_roundw
   case rel=>exact ⟨v,u % v,_,_,_,_,_,_,rfl,rfl,hLv.below hb5,hLr,hm5,by have:=Zw (Nat.le_of_lt (Nat.mod_lt u hv0));rw [hLr.len,hLv.len] at this;omega,by rw [<- hg.out,Nat.gcd_comm u v,Nat.gcd_rec v u,Nat.gcd_comm],Zc hb5 hb7.out,hBr.trans (hb5.mono hBr.size)⟩
   case measure=>simp only [hmem.out,hLr.mem,Zh];exact Nat.mod_lt u hv0
  ·obtain rfl:m5=0:=by omega
   have hv0:v=0:=by
    rcases Nat.eq_zero_or_pos v with h | h
    ·exact h
    ·have:=length_digits_pos.2 h;rw [hLv.len] at this;omega
   subst hv0
   have hgu:Hid (u=G):=by have:=hg.out;rw [Nat.gcd_zero_right] at this;exact this
   have g8:=hb7.out;have g3:=g8.cell 0;have g4:=g8.cell 1;have g5:=g8.frozen 0;have g6:=g8.frozen 1
   simp at g3 g4
   clear g8;go_wp2_with fail;refine (Zgg _ _ _ _ _ hLu (by omega)).mono ?_;rintro e w5 ⟨v5,rfl,hO5,hb5⟩;obtain ⟨A6,c6,hv6,hL6⟩:=hO5.lim;rw [hLu.len] at hv6 hL6;subst hv6;go_wp2_with fail;refine (Zbt _ _ _ _ _ _ hL6).mono ?_;rintro e w6 ⟨hb6,neg6,A7,n7,c7,code7,rfl,hR7⟩;have hB6:Below w.heap.size w w6:=(hBr.trans (hb5.mono hBr.size)).trans (hb6.mono (Nat.le_trans hBr.size hb5.size));have m8:=Zc hb6 (Zc hb5 hb7.out);have m3:=m8.cell 0;have m4:=m8.cell 1;have m5:=m8.frozen 0;have m6:=m8.frozen 1
   simp at m3 m4
   replace m8:=Za m8;go_wp2_with fail
   have HZ:sg false (val (digits u))=(G:Int):=by rw [Zh,hgu.out];rfl
   refine bodyPost_ret (v:=.tuple #[.agg #[.bool neg6,.slice A7 n7 c7],.int .i64 code7]) (by simp [results,Tryz.results179,go_sem,m3,m4]) rfl ?_;exact ResW.box (HZ ▸ hR7) hB6 (by omega) m8.out
theorem Gcd_bad (na nb:Bool) (A B:Option Addr) (n c m d:Nat) (la lb:List Nat) (w:World) (hLa:Lim w A n c la) (hLb:Lim w B m d lb) (hbad:(okW na la && okW nb lb)=false) :
    Calls Tryz.prog 179 #[.agg #[.bool na,.slice A n c],.agg #[.bool nb,.slice B m d]] w (BadW w):=by
 have hB0:∀ X Y Z V:Obj,Below w.heap.size w ((((w.alloc X).alloc Y).alloc Z).alloc V):=fun X Y Z V=>((((Below.refl w.heap.size w).alloc (Nat.le_refl _) _).alloc (by simp) _).alloc (by simp;omega) _).alloc (by simp;omega) _
 have hW:∀ X Y Z t,WL ((((w.alloc X).alloc Y).alloc Z).alloc (.cells #[.bool na,.slice A n c,.bool nb,.slice B m d] t)) (some ⟨w.heap.size+1+1+1,0,none⟩) 2 2 [⟨na,A,n,c,la⟩,⟨nb,B,m,d,lb⟩]:=fun X Y Z t=>by
  have:=WL.two (neg:=na) (neg':=nb) (((hLa.alloc X).alloc Y).alloc Z) (((hLb.alloc X).alloc Y).alloc Z) t;simp only [World.size_alloc] at this;exact this
 have hW:=Za hW;have hB0:=Za hB0;have hbad:=Za hbad;go_enter Tryz.func179,Tryz.ntmps179;go_wp2_with fail;refine (Zsg (hW.out _ _ _ _) (by have:=hbad.out;simpa [WE.ok] using this)).mono ?_;rintro e w1 ⟨rfl,hb1⟩;obtain ⟨hc1,hf1⟩:=Zca hb1
 have hz1:w.heap.size+1+1+1 < w1.heap.size:=by have:=hb1.size;simp at this;omega
 have hB1:Below w.heap.size w w1:=(hB0.out _ _ _ _).trans (hb1.mono (by simp;omega));go_wp2_with fail
 have hg:w1.cell? ⟨w.heap.size+1+1,0,none⟩=some (.bool false):=by simp [hc1,go_sem]
 have hg':w1.cell? ⟨w.heap.size+1+1,1,none⟩=some (.slice none 0 0):=by simp [hc1,go_sem]
 refine bodyPost_ret (v:=.tuple #[.agg #[.bool false,.slice none 0 0],.int .i64 8]) (by simp [results,Tryz.results179,go_sem,hg,hg']) rfl ?_;exact ⟨rfl,(hB1.setCell (p:=⟨w.heap.size+1+1,0,none⟩) (by simp;omega) _).setCell (p:=⟨w.heap.size+1+1,1,none⟩) (by simp;omega) _⟩
theorem fdm {z d q r:Int} (h:z=d * q+r) (hr:(0 <= r/\r < d) \/ (d < r/\r <= 0)):Int.fdiv z d=q/\Int.fmod z d=r:=by
 rcases hr with ⟨h1,h2⟩ | ⟨h1,h2⟩
 ·exact (Int.fdiv_fmod_unique (by omega)).2 ⟨by omega,h1,h2⟩
 ·exact (Int.fdiv_fmod_unique' (by omega)).2 ⟨by omega,by omega,h2⟩
theorem Zge (na nb:Bool) (U V:Nat) (hV:0 < V) (h:U % V=0 \/ na=nb):Int.fdiv (sg na U) (sg nb V)=sg (na != nb) (U / V:Nat)/\Int.fmod (sg na U) (sg nb V)=sg nb (U % V:Nat):=by
 have h1:=Nat.div_add_mod U V;have h2:=Nat.mod_lt U hV
 generalize U / V=x at *
 generalize U % V=y at *
 subst h1
 have e:((V * x+y:Nat):Int)=(V:Int) * x+y:=by push_cast;rfl
 apply fdm
 ·cases na <;> cases nb <;> simp only [sg,e] <;> simp at h ⊢ <;> grind
 ·cases na <;> cases nb <;> simp [sg] at h ⊢ <;> omega
theorem Zlg (na nb:Bool) (U V:Nat) (hV:0 < V) (hy:0 < U % V) (h:na ≠ nb):Int.fdiv (sg na U) (sg nb V)=sg (na != nb) (U / V+1:Nat)/\Int.fmod (sg na U) (sg nb V)=sg nb (V - U % V:Nat):=by
 have h1:=Nat.div_add_mod U V;have h2:=Nat.mod_lt U hV
 generalize U / V=x at *
 generalize U % V=y at *
 subst h1
 have e:((V * x+y:Nat):Int)=(V:Int) * x+y:=by push_cast;rfl
 have e2:((V - y:Nat):Int)=(V:Int) - y:=by omega
 apply fdm
 ·cases na <;> cases nb <;> simp only [sg,e,e2] <;> simp at h ⊢ <;> grind
 ·cases na <;> cases nb <;> simp [sg] at h ⊢ <;> omega
end Go.Proofs.YtaioanjcjijckaaGreat
