/- The law CovarParts: both sides yield the same. Arguments -/
import Derived.Test.YtkcbhbddgmkoiaaGreatZc46
set_option maxRecDepth 100000
set_option maxHeartbeats 8000000
set_option linter.unusedSimpArgs false
set_option linter.unusedVariables false
namespace Go.Proofs.YtkcbhbddgmkoiaaGreat
open Go.RowKit
attribute [local go_sem] Zg
theorem PartPost.shape {rs : List RX} {ls : List Int} {w w' : World} {e : Ending} (h : PartPost rs ls w e w') : ∃ A n c,e = .returned (.tuple #[.slice A n c,.int .i64 (Zdd rs ls)]):=by
 rcases h with ⟨-,⟨h0,v,L,rfl,hM⟩ | ⟨-,rfl⟩⟩
 ·obtain ⟨A,c,rfl,-⟩:=hM.mflA
  rw [h0];exact ⟨_,_,_,rfl⟩
 ·exact ⟨_,_,_,rfl⟩
theorem PartPost.xm {rs : List RX} {ls : List Int} {w w' : World} {A : Option Addr} {n c : Nat} {E : Int} (h : PartPost rs ls w (.returned (.tuple #[.slice A n c,.int .i64 E])) w') : n = (if Zdd rs ls = 0 then (Zfn (qM rs) ls).length else 0) /\ XM w' A n c (if Zdd rs ls = 0 then (Zfn (qM rs) ls).map fun r=>r.map dfQ else []):=by
 rcases h with ⟨-,⟨h0,v,L,e,hM⟩ | ⟨h0,e⟩⟩
 ·obtain ⟨A',c',rfl,hF⟩:=hM.mflA
  cases e
  rw [if_pos h0,if_pos h0];exact ⟨rfl,hF.xm⟩
 ·cases e
  rw [if_neg h0,if_neg h0];exact ⟨rfl,XM.nil _⟩
theorem ImgPost.shape {rs : List RX} {js : List (List Int)} {w w' : World} {e : Ending} (h : ImgPost rs js w e w') : ∃ A n c E,e = .returned (.tuple #[.slice A n c,.int .i64 E]):=by
 rcases h with ⟨-,⟨-,rt,-,⟨-,v,L,rfl,hM⟩ | ⟨-,rfl⟩⟩ | ⟨-,rfl⟩⟩
 ·obtain ⟨A,c,rfl,-⟩:=hM.mflA
  exact ⟨_,_,_,_,rfl⟩
 ·exact ⟨_,_,_,_,rfl⟩
 ·exact ⟨_,_,_,_,rfl⟩
theorem ImgPost.pair {rs : List RX} {js : List (List Int)} {w w' v v' : World} {A B : Option Addr} {n c m d : Nat} {E E' : Int} (h : ImgPost rs js w (.returned (.tuple #[.slice A n c,.int .i64 E])) w') (k : ImgPost rs js v (.returned (.tuple #[.slice B m d,.int .i64 E'])) v') : E = E' /\ n = m /\ ∃ D,XM w' A n c D /\ XM v' B m d D:=by
 rcases h with ⟨-,⟨h0,rt,hs,h2⟩ | ⟨h0,e⟩⟩
 ·rcases k with ⟨-,⟨k0,ru,ks,k2⟩ | ⟨k0,-⟩⟩
  ·have hc:=Zrg (hs.trans ks.symm)
   rcases h2 with ⟨h3,v1,L,e,hM⟩ | ⟨h3,e⟩
   ·rcases k2 with ⟨k3,v2,L2,e2,kM⟩ | ⟨k3,-⟩
    ·obtain ⟨A',c',rfl,hF⟩:=hM.mflA
     obtain ⟨B',d',rfl,kF⟩:=kM.mflA
     cases e;cases e2
     exact ⟨rfl,rfl,_,hF.xm,kF.xm⟩
    ·exact absurd (hc ▸ h3) k3
   ·rcases k2 with ⟨k3,-⟩ | ⟨k3,e2⟩
    ·exact absurd (hc.symm ▸ k3) h3
    ·cases e;cases e2
     exact ⟨rfl,rfl,_,XM.nil _,XM.nil _⟩
  ·exact absurd h0 k0
 ·rcases k with ⟨-,⟨k0,-⟩ | ⟨k0,e2⟩⟩
  ·exact absurd k0 h0
  ·cases e;cases e2
   exact ⟨rfl,rfl,_,XM.nil _,XM.nil _⟩
theorem Zpl (A B C : Option Addr) (n c m d k f : Nat) (rs : List RX) (ls : List Int) (ri : List RI) (w : World) (h : MXL w A n c rs) (hl : LimI w B m d ls) (hj : MIL w C k f ri) :
    Calls Tryz.prog 3 #[.slice A n c,.slice B m d,.slice C k f] w fun e w'=>e = .returned (.bool true) /\ Below w.heap.size w w':=by
 have hcm:=h.2.2.1;have hnc:=h.2.1;have hmd:=hl.2.1;have hdm:=hl.2.2.1;have hkf:=hj.2.1;have hfm:=hj.2.2.1;unfold maxLen at hcm hdm hfm;have hnl:=Za h.1;have hH:=Za h;have hV:=Za hl;have hJ:=Za hj;clear h hl hj;go_enter Tryz.func3,Tryz.ntmps3;go_wp2_with fail;refine (Zks A n c rs w hH.out).mono ?_;rintro e w1 ⟨b,rfl,hb1,hcalm⟩
 cases b
 case true =>
  clear hcalm;go_wp2_with fail;go_ret;exact ⟨rfl,hb1⟩
 have hcal:=Za (hcalm rfl);clear hcalm
 by_cases hm10 : 10 < m
 ·have t1 : decide ((10 : Int) < (m : Int)) = true:=decide_eq_true (by omega)
  go_wp2_with fail;go_ret;exact ⟨rfl,hb1⟩
 have t1 : decide ((10 : Int) < (m : Int)) = false:=decide_eq_false (by omega)
 have hfin : ∀ (hk : k <= 4 \/ 6 < k /\ k <= 10),Hid (k <= 4 \/ 6 < k):=fun hk=>Za (by omega)
 by_cases hk4 : 4 < k
 ·have t2 : decide ((4 : Int) < (k : Int)) = true:=decide_eq_true (by omega)
  by_cases hk6 : k <= 6
  ·have t3 : decide ((k : Int) <= 6) = true:=decide_eq_true (by omega)
   go_wp2_with fail;go_ret;exact ⟨rfl,hb1⟩
  have t3 : decide ((k : Int) <= 6) = false:=decide_eq_false (by omega)
  by_cases hk10 : 10 < k
  ·have t4 : decide ((10 : Int) < (k : Int)) = true:=decide_eq_true (by omega)
   go_wp2_with fail;go_ret;exact ⟨rfl,hb1⟩
  have t4 : decide ((10 : Int) < (k : Int)) = false:=decide_eq_false (by omega);have hkk:=hfin (by omega);clear hfin;go_wp2_with fail
  go_loopg [7] k (fun t iv wr=>∃ i : Nat,i + t = k /\ iv = .int .i64 i /\ Below w.heap.size w wr)
  case atStart=>exact ⟨0,by omega,rfl,hb1⟩
  case round =>
   clear hb1;obtain ⟨w1,rfl⟩ : ∃ x : World,x = wr:=⟨_,rfl⟩;obtain ⟨i,hik,rfl,hb1⟩:=hrel
   cases gk with
   | succ t =>
    obtain rfl : t = k - (i + 1):=by omega
    have hin : i < k:=by omega
    have t5 : decide ((i : Int) < (k : Int)) = true:=decide_eq_true (by omega)
    have bi : (i : Int) < (k : Int):=by omega
    obtain ⟨g,o,⟨aA,aN,aC,aL⟩,rfl,he,c0,hLa⟩:=(hJ.out.below hb1).at_ hin;simp only at c0 hLa;have hal:=Nat.le_trans hLa.2.1 hLa.2.2.1;unfold maxLen at hal;replace he:=Za he;clear hLa
    by_cases ha10 : 10 < aN
    ·have t6 : decide ((10 : Int) < (aN : Int)) = true:=decide_eq_true (by omega)
     go_wp2_with fail;go_ret;exact ⟨rfl,hb1⟩
    ·have t6 : decide ((10 : Int) < (aN : Int)) = false:=decide_eq_false (by omega)
     go_wp2_with fail
     go_roundg (k - (i + 1))
     case measure=>omega
     case rel=>exact ⟨i + 1,by omega,by go_num,hb1⟩
   | zero =>
    obtain rfl : k = i:=by omega
    have t5 : decide ((k : Int) < (k : Int)) = false:=by simp
    have hFC : Hid (FacC rs):=Za (FacC.of hH.out hcal.out.2.2 (fun h6=>by
     have h1:=hcal.out.1;rw [hnl.out] at h1
     have h4 : n <= 4:=by omega
     have h2 : (4 * n + 4 + 1) * n <= 21 * 4:=Nat.mul_le_mul (by omega) h4
     omega))
    have hn4 : Hid (Zal rs = 0 -> n <= 4):=Za (fun h0=>by
     have h1:=(Zfx h0).2.1;have h2:=hcal.out.1;rw [hnl.out] at h1 h2
     omega)
    obtain ⟨E,hE⟩ : ∃ E,Zal rs = E:=⟨_,rfl⟩;replace hE:=Za hE
    have hm9 : m <= 100:=by omega
    have hk9 : k <= 100:=by omega
    go_wp2_with fail;refine (Zj8 A n c rs B m d ls w1 (hH.out.below hb1) (hV.out.below hb1) hFC.out hm9).mono ?_;rintro e w2 hP;obtain ⟨A1,n1,c1,rfl⟩:=hP.shape;have hb2:=hP.1;have hB2:=hb1.trans (hb2.mono hb1.size);have hX1:=Za hP.xm;clear hP;go_wp2_with fail;refine (Zhh A n c rs B m d ls w2 (hH.out.below hB2) (hV.out.below hB2) hFC.out hm9).mono ?_;rintro e w3 hP;obtain ⟨A2,n2,c2,rfl⟩:=hP.shape;have hb3:=hP.1;have hB3:=hB2.trans (hb3.mono hB2.size);have hX2:=Za hP.xm
    have hnn : n2 = n1:=by rw [hX2.out.1,hX1.out.1]
    subst hnn;clear hP;go_wp2_with fail;refine (Zip A n c rs C k f ri w3 (hH.out.below hB3) (hJ.out.below hB3) hFC.out hcal.out.2.2 hn4.out hkk.out hk9).mono ?_;rintro e w4 hI1;obtain ⟨A3,n3,c3,E3,rfl⟩:=hI1.shape;have hb4:=hI1.1;have hB4:=hB3.trans (hb4.mono hB3.size);replace hI1:=Za hI1;go_wp2_with fail;refine (Zf7 A n c rs C k f ri w4 (hH.out.below hB4) (hJ.out.below hB4) hFC.out hcal.out.2.2 hn4.out hkk.out hk9).mono ?_;rintro e w5 hI2;obtain ⟨A4,n4,c4,E4,rfl⟩:=hI2.shape;have hb5:=hI2.1;have hB5:=hB4.trans (hb5.mono hB4.size);obtain ⟨rfl,rfl,D,hD1,hD2⟩:=hI1.out.pair hI2;replace hD1:=Za hD1;replace hD2:=Za hD2;clear hI1 hI2;go_wp2_with fail;refine (Zft A n c rs w5 (hH.out.below hB5) hFC.out E hE.out).mono ?_;rintro e w6 ⟨rfl,hb6⟩;have hB6:=hB5.trans (hb6.mono hB5.size);go_wp2_with fail;refine (Zcf A n c rs w6 (hH.out.below hB6) hFC.out E hE.out).mono ?_;rintro e w7 ⟨rfl,hb7⟩;have hB7:=hB6.trans (hb7.mono hB6.size);have h27 : Below w2.heap.size w2 w7:=((hb3.trans (hb4.mono hb3.size)).trans (hb5.mono (hb3.trans (hb4.mono hb3.size)).size)).trans ((hb6.trans (hb7.mono hb6.size)).mono ((hb3.trans (hb4.mono hb3.size)).trans (hb5.mono (hb3.trans (hb4.mono hb3.size)).size)).size);have h37 : Below w3.heap.size w3 w7:=(hb4.trans (hb5.mono hb4.size)).trans ((hb6.trans (hb7.mono hb6.size)).mono (hb4.trans (hb5.mono hb4.size)).size);go_wp2_with fail;refine (Ze8 A1 A2 n2 c1 c2 _ w7 (hX1.out.2.below h27) (hX2.out.2.below h37)).mono ?_;rintro e w8 ⟨rfl,hb8⟩
    have hB8:=hB7.trans (hb8.mono hB7.size);have h48 : Below w4.heap.size w4 w8:=(hb5.trans ((hb6.trans (hb7.mono hb6.size)).mono hb5.size)).trans (hb8.mono (hb5.trans ((hb6.trans (hb7.mono hb6.size)).mono hb5.size)).size);have h58 : Below w5.heap.size w5 w8:=(hb6.trans (hb7.mono hb6.size)).trans (hb8.mono (hb6.trans (hb7.mono hb6.size)).size);go_wp2_with fail;refine (Ze8 A3 A4 _ c3 c4 D w8 (hD1.out.below h48) (hD2.out.below h58)).mono ?_;rintro e w9 ⟨rfl,hb9⟩;have hB9:=hB8.trans (hb9.mono hB8.size);go_wp2_with fail;go_ret;exact ⟨by simp,hB9⟩
 ·have t2 : decide ((4 : Int) < (k : Int)) = false:=decide_eq_false (by omega)
  have t4 : decide ((10 : Int) < (k : Int)) = false:=decide_eq_false (by omega);have hkk:=hfin (by omega);clear hfin;go_wp2_with fail
  go_loopg [7] k (fun t iv wr=>∃ i : Nat,i + t = k /\ iv = .int .i64 i /\ Below w.heap.size w wr)
  case atStart=>exact ⟨0,by omega,rfl,hb1⟩
  case round =>
   clear hb1;obtain ⟨w1,rfl⟩ : ∃ x : World,x = wr:=⟨_,rfl⟩;obtain ⟨i,hik,rfl,hb1⟩:=hrel
   cases gk with
   | succ t =>
    obtain rfl : t = k - (i + 1):=by omega
    have hin : i < k:=by omega
    have t5 : decide ((i : Int) < (k : Int)) = true:=decide_eq_true (by omega)
    have bi : (i : Int) < (k : Int):=by omega
    obtain ⟨g,o,⟨aA,aN,aC,aL⟩,rfl,he,c0,hLa⟩:=(hJ.out.below hb1).at_ hin;simp only at c0 hLa;have hal:=Nat.le_trans hLa.2.1 hLa.2.2.1;unfold maxLen at hal;replace he:=Za he;clear hLa
    by_cases ha10 : 10 < aN
    ·have t6 : decide ((10 : Int) < (aN : Int)) = true:=decide_eq_true (by omega)
     go_wp2_with fail;go_ret;exact ⟨rfl,hb1⟩
    ·have t6 : decide ((10 : Int) < (aN : Int)) = false:=decide_eq_false (by omega)
     go_wp2_with fail
     go_roundg (k - (i + 1))
     case measure=>omega
     case rel=>exact ⟨i + 1,by omega,by go_num,hb1⟩
   | zero =>
    obtain rfl : k = i:=by omega
    have t5 : decide ((k : Int) < (k : Int)) = false:=by simp
    have hFC : Hid (FacC rs):=Za (FacC.of hH.out hcal.out.2.2 (fun h6=>by
     have h1:=hcal.out.1;rw [hnl.out] at h1
     have h4 : n <= 4:=by omega
     have h2 : (4 * n + 4 + 1) * n <= 21 * 4:=Nat.mul_le_mul (by omega) h4
     omega))
    have hn4 : Hid (Zal rs = 0 -> n <= 4):=Za (fun h0=>by
     have h1:=(Zfx h0).2.1;have h2:=hcal.out.1;rw [hnl.out] at h1 h2
     omega)
    obtain ⟨E,hE⟩ : ∃ E,Zal rs = E:=⟨_,rfl⟩;replace hE:=Za hE
    have hm9 : m <= 100:=by omega
    have hk9 : k <= 100:=by omega
    go_wp2_with fail;refine (Zj8 A n c rs B m d ls w1 (hH.out.below hb1) (hV.out.below hb1) hFC.out hm9).mono ?_;rintro e w2 hP;obtain ⟨A1,n1,c1,rfl⟩:=hP.shape;have hb2:=hP.1;have hB2:=hb1.trans (hb2.mono hb1.size);have hX1:=Za hP.xm;clear hP;go_wp2_with fail;refine (Zhh A n c rs B m d ls w2 (hH.out.below hB2) (hV.out.below hB2) hFC.out hm9).mono ?_;rintro e w3 hP;obtain ⟨A2,n2,c2,rfl⟩:=hP.shape;have hb3:=hP.1;have hB3:=hB2.trans (hb3.mono hB2.size);have hX2:=Za hP.xm
    have hnn : n2 = n1:=by rw [hX2.out.1,hX1.out.1]
    subst hnn;clear hP;go_wp2_with fail;refine (Zip A n c rs C k f ri w3 (hH.out.below hB3) (hJ.out.below hB3) hFC.out hcal.out.2.2 hn4.out hkk.out hk9).mono ?_;rintro e w4 hI1;obtain ⟨A3,n3,c3,E3,rfl⟩:=hI1.shape;have hb4:=hI1.1;have hB4:=hB3.trans (hb4.mono hB3.size);replace hI1:=Za hI1;go_wp2_with fail;refine (Zf7 A n c rs C k f ri w4 (hH.out.below hB4) (hJ.out.below hB4) hFC.out hcal.out.2.2 hn4.out hkk.out hk9).mono ?_;rintro e w5 hI2;obtain ⟨A4,n4,c4,E4,rfl⟩:=hI2.shape;have hb5:=hI2.1;have hB5:=hB4.trans (hb5.mono hB4.size);obtain ⟨rfl,rfl,D,hD1,hD2⟩:=hI1.out.pair hI2;replace hD1:=Za hD1;replace hD2:=Za hD2;clear hI1 hI2;go_wp2_with fail;refine (Zft A n c rs w5 (hH.out.below hB5) hFC.out E hE.out).mono ?_;rintro e w6 ⟨rfl,hb6⟩;have hB6:=hB5.trans (hb6.mono hB5.size);go_wp2_with fail;refine (Zcf A n c rs w6 (hH.out.below hB6) hFC.out E hE.out).mono ?_;rintro e w7 ⟨rfl,hb7⟩;have hB7:=hB6.trans (hb7.mono hB6.size);have h27 : Below w2.heap.size w2 w7:=((hb3.trans (hb4.mono hb3.size)).trans (hb5.mono (hb3.trans (hb4.mono hb3.size)).size)).trans ((hb6.trans (hb7.mono hb6.size)).mono ((hb3.trans (hb4.mono hb3.size)).trans (hb5.mono (hb3.trans (hb4.mono hb3.size)).size)).size);have h37 : Below w3.heap.size w3 w7:=(hb4.trans (hb5.mono hb4.size)).trans ((hb6.trans (hb7.mono hb6.size)).mono (hb4.trans (hb5.mono hb4.size)).size);go_wp2_with fail;refine (Ze8 A1 A2 n2 c1 c2 _ w7 (hX1.out.2.below h27) (hX2.out.2.below h37)).mono ?_;rintro e w8 ⟨rfl,hb8⟩
    have hB8:=hB7.trans (hb8.mono hB7.size);have h48 : Below w4.heap.size w4 w8:=(hb5.trans ((hb6.trans (hb7.mono hb6.size)).mono hb5.size)).trans (hb8.mono (hb5.trans ((hb6.trans (hb7.mono hb6.size)).mono hb5.size)).size);have h58 : Below w5.heap.size w5 w8:=(hb6.trans (hb7.mono hb6.size)).trans (hb8.mono (hb6.trans (hb7.mono hb6.size)).size);go_wp2_with fail;refine (Ze8 A3 A4 _ c3 c4 D w8 (hD1.out.below h48) (hD2.out.below h58)).mono ?_;rintro e w9 ⟨rfl,hb9⟩;have hB9:=hB8.trans (hb9.mono hB8.size);go_wp2_with fail;go_ret;exact ⟨by simp,hB9⟩
open Go.ChangeShapes Go.WideShapes Go.Deep Go.RowKit
theorem Zoi {z : Int} (h : (Lit.int .u32 z).wf = true) : 0 <= z /\ z <= 4294967295:=by
 simp only [Lit.wf,Bool.and_eq_true,decide_eq_true_eq] at h;exact h
section
variable {H : Type} {enc : TypeId × Value -> H} {w : World} {base : Nat} {spare : Nat -> Bool} {held : Bool}
theorem Zot {fuel : Nat} {cs : List Value} {x : DataW H × List MemPlace} (h : DataW.trod enc Tryz.prog w base spare held fuel 60 cs = some x) : ∃ (A : Option Addr) (n c : Nat) (l : List Nat),cs = [.slice A n c] /\ Lim w A n c l:=by
 rcases open_ints Tryz.underlying60 Tryz.underlying149 (by kernel_rfl) h with ⟨rfl,_⟩ | ⟨a,len,cap,zs,rfl,_,hl,hm,hz,_,hcell,hwf⟩
 ·exact ⟨none,0,0,[],rfl,Lim.nil _ _ _ (Nat.zero_le _)⟩
 ·have hlz : len <= zs.length:=by rw [hz];split <;> omega
  refine ⟨some a,len,cap,(zs.take len).map Int.toNat,rfl,by simp;omega,hl,hm,fun v hv=>?_,fun hn=>?_⟩
  ·obtain ⟨z,hz1,rfl⟩:=List.mem_map.1 hv
   have:=Zoi (hwf z (List.mem_of_mem_take hz1));omega
  ·have h0:=hcell 0 (by omega)
   have hp:=Zc9 h0
   obtain ⟨b,o,s⟩ : ∃ b o,a = ⟨b,o,none⟩:=by
    obtain ⟨b,o,s⟩:=a;refine ⟨b,o,?_⟩;unfold Addr.add at hp
    split at hp <;> simp_all
   subst s;refine ⟨b,o,rfl,fun k hk=>?_⟩;have hc:=hcell k (by omega);rw [Zg] at hc;rw [hc]
   have hkz : k < zs.length:=by omega
   have hw:=Zoi (hwf zs[k] (List.getElem_mem hkz));rw [List.getElem?_map,List.getElem?_take,if_pos hk,List.getElem?_eq_getElem hkz,List.getD_eq_getElem?_getD,List.getElem?_eq_getElem hkz]
   simp [limb]
   omega
theorem Zh0 {fuel : Nat} {cs : List Value} {x : DataW H × List MemPlace} (h : DataW.trod enc Tryz.prog w base spare held fuel 62 cs = some x) : ∃ (na : Bool) (A : Option Addr) (n c : Nat) (l : List Nat),cs = [.bool na,.slice A n c] /\ Lim w A n c l:=by
 obtain ⟨xs,n',_,_,hl,hxl,hfl⟩:=DataW.trod_struct Tryz.underlying62 h
 have c2 : Tryz.prog.cellsOf 62 = 2:=by kernel_rfl
 have c0 : Tryz.prog.cellsOf 4 = 1:=by kernel_rfl
 have c1 : Tryz.prog.cellsOf 60 = 1:=by kernel_rfl
 rw [c2] at hl
 obtain ⟨x,y,rfl⟩ : ∃ x y,cs = [x,y]:=by
  match cs,hl with
  | [x,y],_=>exact ⟨x,y,rfl⟩
 have f0:=hfl 0 _ rfl;have f1:=hfl 1 _ rfl;simp only [List.getElem_toArray,List.getElem_cons_zero,List.getElem_cons_succ] at f0 f1;rw [c0] at f0;rw [c1] at f1;have g0 : xs[0]? = some (xs[0]'(by rw [hxl];decide)):=List.getElem?_eq_getElem _;have g1 : xs[1]? = some (xs[1]'(by rw [hxl];decide)):=List.getElem?_eq_getElem _;rw [g0] at f0;rw [g1] at f1;obtain ⟨b,e0,_⟩:=DataW.trod_bool Tryz.underlying4 f0;obtain ⟨A,n,c,l,e1,hL⟩:=Zot f1
 simp at e0 e1
 subst e0 e1;exact ⟨b,A,n,c,l,rfl,hL⟩
theorem Zm8 {fuel : Nat} {cs : List Value} {x : DataW H × List MemPlace} (h : DataW.trod enc Tryz.prog w base spare held fuel 64 cs = some x) :
    ∃ (na nb : Bool) (A B : Option Addr) (n c m d : Nat) (la lb : List Nat),cs = [.bool na,.slice A n c,.bool nb,.slice B m d] /\ Lim w A n c la /\ Lim w B m d lb:=by
 obtain ⟨xs,n',_,_,hl,hxl,hfl⟩:=DataW.trod_struct Tryz.underlying64 h
 have c4 : Tryz.prog.cellsOf 64 = 4:=by kernel_rfl
 have c2 : Tryz.prog.cellsOf 62 = 2:=by kernel_rfl
 rw [c4] at hl
 obtain ⟨x,y,z,u,rfl⟩ : ∃ x y z u,cs = [x,y,z,u]:=by
  match cs,hl with
  | [x,y,z,u],_=>exact ⟨x,y,z,u,rfl⟩
 have f0:=hfl 0 _ rfl;have f1:=hfl 1 _ rfl;simp only [List.getElem_toArray,List.getElem_cons_zero,List.getElem_cons_succ] at f0 f1;rw [c2] at f0 f1;have g0 : xs[0]? = some (xs[0]'(by rw [hxl];decide)):=List.getElem?_eq_getElem _;have g1 : xs[1]? = some (xs[1]'(by rw [hxl];decide)):=List.getElem?_eq_getElem _;rw [g0] at f0;rw [g1] at f1;obtain ⟨na,A,n,c,la,e0,h0⟩:=Zh0 f0;obtain ⟨nb,B,m,d,lb,e1,h1⟩:=Zh0 f1
 simp at e0 e1
 obtain ⟨rfl,rfl⟩:=e0;obtain ⟨rfl,rfl⟩:=e1;exact ⟨na,nb,A,B,n,c,m,d,la,lb,rfl,h0,h1⟩
end
section
variable {H : Type} {enc : TypeId × Value -> H} {w : World} {base : Nat} {spare : Nat -> Bool} {held : Bool}
theorem Zmy {fuel : Nat} {cs : List Value} {x : DataW H × List MemPlace} (h : DataW.trod enc Tryz.prog w base spare held fuel 41 cs = some x) : ∃ (A : Option Addr) (n c : Nat) (es : List FX),cs = [.slice A n c] /\ FXL w A n c es:=by
 have c4 : Tryz.prog.cellsOf 64 = 4:=by kernel_rfl
 rcases open_slice Tryz.underlying41 h with ⟨hcs,_⟩ | ⟨a,n,c,m,f,D,Pl,hcs,_,hl,hm,hmm,_,hi⟩
 ·exact ⟨none,0,0,[],hcs,rfl,Nat.le_refl _,Nat.zero_le _,fun e he=>(by cases he),fun h=>absurd h (by omega)⟩
 ·have hlm : n <= m:=by rw [hmm];split <;> omega
  rw [c4] at hi
  obtain ⟨es,he1,he2⟩:=Zhs (fun i (e : FX)=>w.cell? (a.add (i * 4 + 0)) = some (.bool e.na) /\ w.cell? (a.add (i * 4 + 1)) = some (.slice e.A e.n e.c) /\ w.cell? (a.add (i * 4 + 2)) = some (.bool e.nb) /\ w.cell? (a.add (i * 4 + 3)) = some (.slice e.B e.m e.d) /\ e.in_ w) n (fun i hin=>by
   obtain ⟨cs',hc,ht⟩:=hi i (by omega);obtain ⟨na,nb,A,B,n1,c1,m1,d1,la,lb,rfl,h1,h2⟩:=Zm8 ht;obtain ⟨_,_,hat⟩:=World.cells?_some hc;have g0:=hat 0 (by simp);have g1:=hat 1 (by simp);have g2:=hat 2 (by simp);have g3:=hat 3 (by simp);rw [Go.Deep.add_add] at g0 g1 g2 g3
   exact ⟨⟨na,A,n1,c1,la,nb,B,m1,d1,lb⟩,by simpa using g0,by simpa using g1,by simpa using g2,by simpa using g3,h1,h2⟩)
  refine ⟨some a,n,c,es,hcs,he1,hl,hm,fun e he=>?_,fun hn=>?_⟩
  ·obtain ⟨k,hk,rfl⟩:=List.getElem_of_mem he
   exact (he2 k _ (List.getElem?_eq_getElem hk)).2.2.2.2
  ·obtain ⟨b,o,rfl⟩ : ∃ b o,a = ⟨b,o,none⟩:=by
     have h0:=he2 0 _ (List.getElem?_eq_getElem (by omega));have hp:=Zc9 h0.1;obtain ⟨b,o,s⟩:=a;refine ⟨b,o,?_⟩;unfold Addr.add at hp
     split at hp <;> simp_all
   refine ⟨b,o,rfl,fun k e hk=>?_⟩;have h0:=he2 k e hk;rw [Zg,Zg,Zg,Zg] at h0;exact ⟨h0.1,by rw [Nat.add_assoc];exact h0.2.1,by rw [Nat.add_assoc];exact h0.2.2.1,by rw [Nat.add_assoc];exact h0.2.2.2.1⟩
theorem Zo1 {fuel : Nat} {cs : List Value} {x : DataW H × List MemPlace} (h : DataW.trod enc Tryz.prog w base spare held fuel 22 cs = some x) : ∃ (A : Option Addr) (n c : Nat) (rs : List RX),cs = [.slice A n c] /\ MXL w A n c rs:=by
 have c1 : Tryz.prog.cellsOf 41 = 1:=by kernel_rfl
 rcases open_slice Tryz.underlying22 h with ⟨hcs,_⟩ | ⟨a,n,c,m,f,D,Pl,hcs,_,hl,hm,hmm,_,hi⟩
 ·exact ⟨none,0,0,[],hcs,rfl,Nat.le_refl _,Nat.zero_le _,fun e he=>(by cases he),fun h=>absurd h (by omega)⟩
 ·have hlm : n <= m:=by rw [hmm];split <;> omega
  rw [c1] at hi
  obtain ⟨rs,he1,he2⟩:=Zhs (fun i (r : RX)=>w.cell? (a.add i) = some (.slice r.A r.n r.c) /\ FXL w r.A r.n r.c r.es) n (fun i hin=>by
   obtain ⟨cs',hc,ht⟩:=hi i (by omega);obtain ⟨A,n1,c1,es,rfl,h1⟩:=Zmy ht;obtain ⟨_,_,hat⟩:=World.cells?_some hc;have g0:=hat 0 (by simp);rw [Go.Deep.add_add] at g0
   exact ⟨⟨A,n1,c1,es⟩,by simpa using g0,h1⟩)
  refine ⟨some a,n,c,rs,hcs,he1,hl,hm,fun r hr=>?_,fun hn=>?_⟩
  ·obtain ⟨k,hk,rfl⟩:=List.getElem_of_mem hr
   exact (he2 k _ (List.getElem?_eq_getElem hk)).2
  ·obtain ⟨b,o,rfl⟩ : ∃ b o,a = ⟨b,o,none⟩:=by
     have h0:=he2 0 _ (List.getElem?_eq_getElem (by omega));have hp:=Zc9 h0.1;obtain ⟨b,o,s⟩:=a;refine ⟨b,o,?_⟩;unfold Addr.add at hp
     split at hp <;> simp_all
   refine ⟨b,o,rfl,fun k r hk=>?_⟩;have h0:=he2 k r hk;rw [Zg] at h0;exact h0.1
theorem Zq5 {r : Reach} {b0 : Nat} {v : Value} {d : DataW H} {p : List MemPlace} (hv : Value.okWide Tryz.prog w r b0 22 v) (h : DataW.Trod enc Tryz.prog w base spare held 22 v d p) :
    ∃ (A : Option Addr) (n c : Nat) (rs : List RX),v = .slice A n c /\ MXL w A n c rs:=by
 obtain ⟨A,n,c,rfl⟩:=okWide_slice Tryz.underlying22 hv;obtain ⟨fuel,hf⟩:=h;obtain ⟨A',n',c',rs,e,hM⟩:=Zo1 hf
 simp [Value.cells] at e
 obtain ⟨rfl,rfl,rfl⟩:=e;exact ⟨_,_,_,rs,rfl,hM⟩
end
theorem Zqk {z : Int} (h : (Lit.int .i64 z).wf = true) : I64 z:=by
 simp only [Lit.wf,Bool.and_eq_true,decide_eq_true_eq] at h;exact h
section
variable {H : Type} {enc : TypeId × Value -> H} {w : World} {base : Nat} {spare : Nat -> Bool} {held : Bool}
theorem Zhd {t e : TypeId} {fuel : Nat} {cs : List Value} {x : DataW H × List MemPlace} (ht : Tryz.prog.underlying t = some (.slice e)) (he : Tryz.prog.underlying e = some (.int .i64)) (hc : Tryz.prog.cellsOf e = 1) (h : DataW.trod enc Tryz.prog w base spare held fuel t cs = some x) : ∃ (A : Option Addr) (n c : Nat) (l : List Int),cs = [.slice A n c] /\ LimI w A n c l:=by
 rcases open_ints ht he hc h with ⟨rfl,_⟩ | ⟨a,len,cap,zs,rfl,_,hl,hm,hz,_,hcell,hwf⟩
 ·exact ⟨none,0,0,[],rfl,rfl,Nat.zero_le _,Nat.zero_le _,by simp,fun h=>absurd h (by omega)⟩
 ·have hlz : len <= zs.length:=by rw [hz];split <;> omega
  refine ⟨some a,len,cap,zs.take len,rfl,by simp;omega,hl,hm,fun v hv=>Zqk (hwf v (List.mem_of_mem_take hv)),fun hn=>?_⟩;have h0:=hcell 0 (by omega);have hp:=Zc9 h0
  obtain ⟨b,o,s⟩ : ∃ b o,a = ⟨b,o,none⟩:=by
   obtain ⟨b,o,s⟩:=a;refine ⟨b,o,?_⟩;unfold Addr.add at hp
   split at hp <;> simp_all
  subst s;refine ⟨b,o,rfl,fun k hk=>?_⟩;have hc:=hcell k (by omega);rw [Zg] at hc;rw [hc]
  have hkz : k < zs.length:=by omega
  rw [List.getElem?_take,if_pos hk,List.getD_eq_getElem?_getD]
theorem Znp {fuel : Nat} {cs : List Value} {x : DataW H × List MemPlace} (h : DataW.trod enc Tryz.prog w base spare held fuel 24 cs = some x) : ∃ (A : Option Addr) (n c : Nat) (rs : List RI),cs = [.slice A n c] /\ MIL w A n c rs:=by
 have c1 : Tryz.prog.cellsOf 26 = 1:=by kernel_rfl
 rcases open_slice Tryz.underlying24 h with ⟨hcs,_⟩ | ⟨a,n,c,m,f,D,Pl,hcs,_,hl,hm,hmm,_,hi⟩
 ·exact ⟨none,0,0,[],hcs,rfl,Nat.le_refl _,Nat.zero_le _,fun e he=>(by cases he),fun h=>absurd h (by omega)⟩
 ·have hlm : n <= m:=by rw [hmm];split <;> omega
  rw [c1] at hi
  obtain ⟨rs,he1,he2⟩:=Zhs (fun i (r : RI)=>w.cell? (a.add i) = some (.slice r.A r.n r.c) /\ LimI w r.A r.n r.c r.l) n (fun i hin=>by
   obtain ⟨cs',hc,ht⟩:=hi i (by omega);obtain ⟨A,n1,c1,l,rfl,h1⟩:=Zhd Tryz.underlying26 Tryz.underlying2 (by kernel_rfl) ht;obtain ⟨_,_,hat⟩:=World.cells?_some hc;have g0:=hat 0 (by simp);rw [Go.Deep.add_add] at g0
   exact ⟨⟨A,n1,c1,l⟩,by simpa using g0,h1⟩)
  refine ⟨some a,n,c,rs,hcs,he1,hl,hm,fun r hr=>?_,fun hn=>?_⟩
  ·obtain ⟨k,hk,rfl⟩:=List.getElem_of_mem hr
   exact (he2 k _ (List.getElem?_eq_getElem hk)).2
  ·obtain ⟨b,o,rfl⟩ : ∃ b o,a = ⟨b,o,none⟩:=by
     have h0:=he2 0 _ (List.getElem?_eq_getElem (by omega));have hp:=Zc9 h0.1;obtain ⟨b,o,s⟩:=a;refine ⟨b,o,?_⟩;unfold Addr.add at hp
     split at hp <;> simp_all
   refine ⟨b,o,rfl,fun k r hk=>?_⟩;have h0:=he2 k r hk;rw [Zg] at h0;exact h0.1
theorem Zl7 {r : Reach} {b0 : Nat} {v : Value} {d : DataW H} {p : List MemPlace} (hv : Value.okWide Tryz.prog w r b0 24 v) (h : DataW.Trod enc Tryz.prog w base spare held 24 v d p) :
    ∃ (A : Option Addr) (n c : Nat) (rs : List RI),v = .slice A n c /\ MIL w A n c rs:=by
 obtain ⟨A,n,c,rfl⟩:=okWide_slice Tryz.underlying24 hv;obtain ⟨fuel,hf⟩:=h;obtain ⟨A',n',c',rs,e,hM⟩:=Znp hf
 simp [Value.cells] at e
 obtain ⟨rfl,rfl,rfl⟩:=e;exact ⟨_,_,_,rs,rfl,hM⟩
end
section
variable {H : Type} {enc : TypeId × Value -> H} {w : World} {base : Nat} {spare : Nat -> Bool} {held : Bool}
theorem Zmv {r : Reach} {b0 : Nat} {v : Value} {d : DataW H} {p : List MemPlace} (hv : Value.okWide Tryz.prog w r b0 23 v) (h : DataW.Trod enc Tryz.prog w base spare held 23 v d p) : ∃ (A : Option Addr) (n c : Nat) (l : List Int),v = .slice A n c /\ LimI w A n c l:=by
 obtain ⟨A,n,c,rfl⟩:=okWide_slice Tryz.underlying23 hv;obtain ⟨fuel,hf⟩:=h;obtain ⟨A',n',c',l,hcs,hL⟩:=Zhd Tryz.underlying23 Tryz.underlying3 (by kernel_rfl) hf
 simp [Value.cells] at hcs
 obtain ⟨rfl,rfl,rfl⟩:=hcs;exact ⟨A,n,c,l,rfl,hL⟩
end
end Go.Proofs.YtkcbhbddgmkoiaaGreat
