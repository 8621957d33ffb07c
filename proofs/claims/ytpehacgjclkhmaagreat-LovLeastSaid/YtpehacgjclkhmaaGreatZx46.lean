/- Below the pivots nothing is left (plain). The body of the -/
import Derived.OpenShut
import Derived.Test.YtpehacgjclkhmaaGreatZx45
set_option maxRecDepth 100000
set_option maxHeartbeats 8000000
set_option linter.unusedSimpArgs false
set_option linter.unusedVariables false
namespace Go.Proofs.YtpehacgjclkhmaaGreat
section
variable {k n m : Nat} {R : List (List Rat)}
theorem red_low (h : SmE k R) (hl : R.length = n) (hrow : ∀ i,i < n -> (R[i]?.getD []).length = m) (hnm : n <= m) (hp : posP (Zi R) n) {i j : Nat} (hi : i < n) (hj : j < i) : Zk (Zi R) i i j = 0:=by
 obtain ⟨⟨pc,G,s,h3⟩,h4⟩:=Zn5 (B:=pw (k * m + k)) (S:=pw (k * m)) hl hrow (fun i hi=>h.denAt (hrow i hi)) (fun i j hi=>h.whole (hrow i hi) j) i (by omega) (by omega) (hp.mono (by omega));rw [<- h4 i j hi];exact h3.low i j (Nat.le_refl _) hi hj
end
open Go.RowKit
attribute [local go_sem] Zg
theorem Zp6 {xs : List Rat} {m : Nat} (h : xs.length = m) : (List.range m).map (fun k=>xs[k]?.getD 0) = xs:=by
 subst h
 apply List.ext_getElem?
 intro k
 by_cases hk : k < xs.length
 ·rw [List.getElem?_map,List.getElem?_range hk,List.getElem?_eq_getElem hk];simp [hk]
 ·rw [List.getElem?_eq_none (by simpa using hk),List.getElem?_eq_none (by omega)]
theorem Zit {A : Nat -> Nat -> Rat} {K : Nat} : ∀ i,i < 6 -> (Zcg A K)[i]?.getD 0 = A i K / A K K:=fun i hi=>by
 unfold Zcg;rw [List.getElem?_map,List.getElem?_range hi];rfl
structure LeastP (rs : List RX) (K : Nat) : Prop where
 e : Zax rs = 0
 len : rs.length = 6
 f : FacP (Zi (qM rs)) 6
 p : posP (Zi (qM rs)) 6
 pos : 0 < Zi (qM rs) K K
 le : ∀ i j,LeN 3 (Zi (qM rs) i j)
 up : ∀ i j,i < 6 -> j < i -> Zk (Zi (qM rs)) i i j = 0
theorem Zr3 {w : World} {A : Option Addr} {c : Nat} {rs : List RX} {K : Nat} (h : MXL w A 6 c rs) (hE : Zax rs = 0) (hf : fewM 3 rs) (hK : K < 6) : LeastP rs K:=by
 have hl : rs.length = 6:=h.1;obtain ⟨hcV,hcS,hcP⟩:=Zhi hE;have hS:=hcV.small h hf;rw [hl] at hcP;have hF:=hcV.fac h hcS hf (by decide);have hql : (qM rs).length = 6:=Zub h;refine ⟨hE,hl,hF,hcP,?_,fun i j=>hS i j,fun i j hi hj=>red_low hS hql (fun i hi=>hcV.row h i hi) (Nat.le_refl _) hcP hi hj⟩;exact Zhc (A:=Zi (qM rs)) (n:=rs.length) (fun i k hi hk=>symB_iff.1 hcS i k (by unfold qM;rw [List.length_map];exact hi) (by unfold qM;rw [List.length_map];exact hk)) (by rw [hl];exact hcP) (k:=K) (by omega) K 0 (by omega)
section
variable {rs : List RX} {K : Nat} {b : Nat -> Int}
theorem LeastP.dirE (h : LeastP rs K) (hK : K < 6) : dirE rs (K : Int) = 0:=by
 unfold Go.Proofs.YtpehacgjclkhmaaGreat.dirE;rw [if_pos h.e,if_pos h.len,if_pos (by omega)]
theorem LeastP.d (h : LeastP rs K) (i : Nat) : LeN 6 ((Zcg (Zi (qM rs)) K)[i]?.getD 0):=by
 have hc0 : Zi (qM rs) K K ≠ 0:=fun e=>by have:=h.pos;rw [e] at this;exact absurd this (by decide)
 by_cases hi : i < 6
 ·rw [Zit i hi]
  exact (h.le i K).div (h.le K K) hc0
 ·rw [List.getElem?_eq_none (by rw [Zc6];omega)]
  exact ⟨Nat.zero_le _,Zdb _⟩
def Zbz (rs : List RX) (K t : Nat) (b : Nat -> Int) : List Rat:=(List.range 6).map (oT (fun i=>(Zcg (Zi (qM rs)) K)[i]?.getD 0) b K t)
theorem Zdp {t : Nat} : (Zbz rs K t b).length = 6:=by simp [Zbz]
theorem Zm6 : Zbz rs K 0 b = Zcg (Zi (qM rs)) K:=by
 unfold Zbz;rw [oT_zero];exact Zp6 Zc6
theorem Zk9 {t i : Nat} (hi : i < 6) : (Zbz rs K t b)[i]?.getD 0 = oT (fun i=>(Zcg (Zi (qM rs)) K)[i]?.getD 0) b K t i:=by
 unfold Zbz;rw [List.getElem?_map,List.getElem?_range hi];rfl
theorem LeastP.o (h : LeastP rs K) (hb : ∀ i,-128 <= b i /\ b i <= 127) (t i : Nat) : LeN 7 ((Zbz rs K t b)[i]?.getD 0):=by
 by_cases hi : i < 6
 ·rw [Zk9 hi];exact oT_le (n:=6) (fun i=>h.d i) hb
 ·rw [List.getElem?_eq_none (by rw [Zdp];omega)]
  exact ⟨Nat.zero_le _,Zdb _⟩
theorem LeastP.vec (h : LeastP rs K) {qs : List Rat} (hq : ∀ i : Nat,LeN 7 (qs[i]?.getD 0)) (hl : qs.length = 6) {w : World} {A : Option Addr} {c : Nat} (hF : FL w A 6 c qs) :
    ∃ es,FXL w A 6 c es /\ Zfc rs es = 0 /\ Zmz (Zi (qM rs)) rs.length (Zob es) /\ Zlg rs es = bil (Zi (qM rs)) 6 (fun i=>qs[i]?.getD 0) (fun i=>qs[i]?.getD 0):=by
 obtain ⟨es,h1,h2,h3⟩:=hF.fxs
 have hv : Zb1 es = true:=Zsi h3 (fun q hq2=>by
  obtain ⟨k,hk,rfl⟩:=List.getElem_of_mem hq2;have h4:=hq k;rw [List.getElem?_eq_getElem hk,Option.getD_some] at h4;have:=fewQ_le h4
  omega)
 have he : Zob es = fun i=>qs[i]?.getD 0:=by funext i;unfold Zob;rw [h2]
 refine ⟨es,h1,Zng h.e ⟨by rw [h1.1,h.len],hv⟩,?_,?_⟩
 ·rw [h.len,he]
  exact Zip (by decide) h.f (fun i j _ _=>(h.le i j).mono (by decide)) (fun i _=>hq i) h.p
 ·unfold Zlg
  rw [h.len,he]
theorem LeN.sm {k : Nat} {q : Rat} (h : LeN k q) (hk : k < 1000) : Sm q:=⟨Nat.lt_of_le_of_lt h.1 (Zc7 hk),Nat.lt_of_le_of_lt h.2 (Zc7 hk)⟩
theorem LeastP.sm (h : LeastP rs K) {qs : List Rat} (hq : ∀ i : Nat,LeN 7 (qs[i]?.getD 0)) : Sm (bil (Zi (qM rs)) 6 (fun i=>qs[i]?.getD 0) (fun i=>qs[i]?.getD 0)):=
 (Zip (x:=fun i=>qs[i]?.getD 0) (by decide) h.f (fun i j _ _=>(h.le i j).mono (by decide)) (fun i _=>hq i) h.p).s 6 (Nat.le_refl _)
theorem LeastP.two (h : LeastP rs K) (hK : K < 6) : bil (Zi (qM rs)) 6 (fun i=>(Zcg (Zi (qM rs)) K)[i]?.getD 0) (fun i=>(Zcg (Zi (qM rs)) K)[i]?.getD 0) * Zi (qM rs) K K = 1 /\
    Zj1 (bil (Zi (qM rs)) 6 (fun i=>(Zcg (Zi (qM rs)) K)[i]?.getD 0) (fun i=>(Zcg (Zi (qM rs)) K)[i]?.getD 0)) (bil (Zi (qM rs)) 6 (fun i=>(Zbz rs K 6 b)[i]?.getD 0) (fun i=>(Zbz rs K 6 b)[i]?.getD 0)) = if Zef b K 6 = true then 0 else -1:=
 Zro h.f.sym h.p h.up hK h.pos (fun i hi=>Zit i hi) (fun i hi=>by
  rw [Zk9 hi]
  simp only [oT,Zit i hi])
end
theorem Zri (A : Option Addr) (n c : Nat) (rs : List RX) (kk : Int) (b : Nat -> Int) (w : World) (h : MXL w A n c rs) (hk1 : -9223372036854775808 <= kk) (hk2 : kk <= 9223372036854775807) (hb : ∀ i,-128 <= b i /\ b i <= 127) :
    Calls Tryz.prog 6 #[.slice A n c,.int .i64 kk,.agg #[.int .i8 (b 0),.int .i8 (b 1),.int .i8 (b 2),.int .i8 (b 3),.int .i8 (b 4),.int .i8 (b 5)]] w fun e w'=>e = .returned (.bool true) /\ Below w.heap.size w w':=by
 have hmx : Tryz.prog.follows .mixedOrders = true:=by kernel_rfl
 obtain ⟨iF,hi,hz0,hz1,hz2⟩:=info_parts Zfm;have hcm:=h.2.2.1;have hnc:=h.2.1;unfold maxLen at hcm;replace hb:=Zb hb;have hBB : Hid (Below w.heap.size w w):=Zb (Below.refl _ _);replace h:=Zb h;obtain ⟨g1,hg2⟩ : ∃ g,w.heap.size = g:=⟨_,rfl⟩;obtain ⟨V3,hV4,q5,hb6⟩:=Za6 (w:=w) 63 #[.int .i8 (b 0),.int .i8 (b 1),.int .i8 (b 2),.int .i8 (b 3),.int .i8 (b 4),.int .i8 (b 5)];rw [hg2] at q5;replace h:=Zb (h.out.below hb6);have hB7:=Zb (hBB.out.trans (hb6.mono hBB.out.size));clear hBB;clear hb6;replace q5:=Zb q5;go_enter Tryz.func6,Tryz.ntmps6;go_wp2_with fail;(try rw [hg2]);(try rw [hV4]);clear hV4;replace hg2:=Zb hg2;refine (Zs5 V3).mono ?_;rintro e w8 ⟨rfl,hb1⟩;replace h:=Zb (h.out.below hb1);replace q5:=Zb (Zc hb1 q5.out);have hB9:=Zb (hB7.out.trans (hb1.mono hB7.out.size));clear hB7;clear hb1;go_wp2_with fail;refine (Zlz A n c rs w8 h.out).mono ?_;rintro e w10 ⟨bG,rfl,hb1,hcalm⟩;replace h:=Zb (h.out.below hb1);replace q5:=Zb (Zc hb1 q5.out);have hB11:=Zb (hB9.out.trans (hb1.mono hB9.out.size));clear hB9;clear hb1
 cases bG with
 | true =>
  go_wp2_with fail;go_ret;exact ⟨rfl,hB11.out⟩
 | false =>
  have hf:=(hcalm rfl).2
  have hn10 : n <= 10:=by rw [<- h.out.1];exact (hcalm rfl).1
  have hFC:=Zb (FacC.of h.out hf (fun h6=>by
   rcases (show n = 0 \/ n = 1 \/ n = 2 \/ n = 3 \/ n = 4 \/ n = 5 \/ n = 6 by omega) with rfl | rfl | rfl | rfl | rfl | rfl | rfl <;> omega))
  replace hf:=Zb hf;obtain ⟨E,hE⟩ : ∃ E,Zax rs = E:=⟨_,rfl⟩;have hCk:=Zb (fun W (hx : MXL W A n c rs)=>Zly A n c rs W hx hFC.out E hE);replace hE:=Zb hE;clear hcalm;go_wp2_with fail;refine (hCk.out w10 h.out).mono ?_;rintro e w12 ⟨rfl,hb1⟩;replace h:=Zb (h.out.below hb1);replace q5:=Zb (Zc hb1 q5.out);have hB13:=Zb (hB11.out.trans (hb1.mono hB11.out.size));clear hB11;clear hb1
  by_cases h0 : E = 0
  case neg =>
   have t0 : (E == 0) = false:=by simpa using h0
   have t0' : decide (E = 0) = false:=by simpa using h0
   have t0'' : (E != 0) = true:=by rw [bne,t0];rfl
   replace h0:=Zb h0;go_wp2_with fail;go_ret;exact ⟨rfl,hB13.out⟩
  subst h0
  by_cases h6 : n = 6
  case neg =>
   have t1 : ((n : Int) == 6) = false:=by simp;omega
   have t1' : decide ((n : Int) = 6) = false:=decide_eq_false (by omega);have t1'' : decide (n = 6) = false:=decide_eq_false h6
   have t1a : ((n : Int) != 6) = true:=by rw [bne,t1];rfl
   have t1b : (n == 6) = false:=by simpa using h6
   replace h6:=Zb h6;go_wp2_with fail;go_ret;exact ⟨rfl,hB13.out⟩
  subst h6
  by_cases k0 : kk < 0
  ·have t2 : decide (kk < 0) = true:=decide_eq_true k0
   go_wp2_with fail;go_ret;exact ⟨rfl,hB13.out⟩
  have t2 : decide (kk < 0) = false:=decide_eq_false k0
  by_cases k5 : 5 < kk
  ·have t3 : decide (5 < kk) = true:=decide_eq_true k5
   go_wp2_with fail;go_ret;exact ⟨rfl,hB13.out⟩
  have t3 : decide (5 < kk) = false:=decide_eq_false k5;obtain ⟨K,hK⟩ : ∃ K : Nat,kk = K:=⟨kk.toNat,by omega⟩;subst hK
  have hK6 : K < 6:=by omega
  have hP:=Zb (Zr3 (K:=K) h.out hE.out hf.out hK6);replace k0:=Zb k0;replace k5:=Zb k5;clear hCk hE;go_wp2_with fail;refine (Zdo A 6 c rs K w12 h.out hFC.out hk1 hk2).mono ?_;rintro e w14 ⟨hb1,hcase⟩;replace h:=Zb (h.out.below hb1);replace q5:=Zb (Zc hb1 q5.out);have hB15:=Zb (hB13.out.trans (hb1.mono hB13.out.size));clear hB13;clear hb1
  rcases hcase with ⟨-,A2,c2,rfl,hF⟩ | ⟨hh,-⟩
  case inr=>exact absurd (hP.out.dirE hK6) hh
  rw [Int.toNat_natCast] at hF;have hcap2:=hF.cap;unfold maxLen at hcap2;replace hF:=Zb hF;have hB7:=hB15;obtain ⟨gE,hgE⟩ : ∃ g,w14.heap.size = g:=⟨_,rfl⟩;obtain ⟨VE,hVE,qE,hbE⟩:=Za6 (w:=w14) 29 #[];rw [hgE] at qE;have hgE2 : w14.heap.size <= gE:=Nat.le_of_eq hgE;have hOE : OwnF 29 VE w14.heap.size (.slice (some ⟨gE,0,none⟩) 0 0) []:=⟨[],.inr ⟨gE,0,rfl,hgE2,Nat.zero_le _,qE⟩,fun e h=>by simp at h,rfl⟩;obtain ⟨fs,hR,hfl,hfe,hfq⟩:=(hF.out.below hbE).reads
  have hE3 : ([] : List Rat).length + 6 <= 1000:=by decide
  have hsE:=hbE.size;replace hfe:=Zb hfe;replace hE3:=Zb hE3;replace hOE:=Zb hOE;replace hR:=Zb hR;replace hfq:=Zb hfq;replace hfl:=Zb hfl;replace hgE2:=Zb hgE2;clear qE;go_wp2_with ((try rw [hVE]);(try rw [hgE]);at_builtin;refine Zac _ rfl (.tmp 60) (.tmp 61) 23 rfl w14.heap.size 29 iF Tryz.underlying23 hi hz0 hz1 hz2 _ [] rfl hOE.out _ _ _ _ fs rfl hR.out hfl.out hfe.out hE3.out hsE ?_;intro v9 w9 hO9 hg9 hk9);have hB9:=hbE.grown hg9 hbE.size (fun k hk=>by cases hk;exact hgE2.out);rw [List.nil_append,hfq.out] at hO9
  rcases hO9.fown with ⟨-,hnilq⟩ | ⟨gy,cy,rfl,hgy,hcy1,hcy2,hF9⟩
  ·exfalso
   have h9:=congrArg List.length hnilq;rw [Zc6] at h9;exact absurd h9 (by decide)
  rw [Zc6] at hcy1 ⊢;rw [<- Zm6 (b:=b)] at hF9;replace hF9:=Zb hF9;replace hB9:=Zb hB9;unfold maxLen at hcy2;clear hO9 hg9 hk9 hbE hsE hE3 hR hfl hfe hfq hOE hgE2 hVE hgE
  go_loopg [11,12] 6 (fun t sv iv wr=>∃ i : Nat,i + t = 6 /\ sv = .bool (Zef b K i) /\ iv = .int .i64 i /\ Hid (Below w14.heap.size w14 wr) /\ Hid (FOwn 29 wr gy (Zbz rs K i b)))
  case atStart=>exact ⟨0,by omega,by first | rfl | (rw [Zpe]),by go_num,hB9,hF9⟩
  case round =>
   clear hB9 hF9;obtain ⟨wi,rfl⟩ : ∃ x : World,x = wr:=⟨_,rfl⟩;obtain ⟨i,hit,rfl,rfl,hBi,hO⟩:=hrel;obtain ⟨bs,hbs⟩ : ∃ x,Zef b K i = x:=⟨_,rfl⟩;rw [hbs];have hBw:=Zb (hB7.out.trans (hBi.out.mono hB7.out.size));have hFi:=Zb (hF.out.below hBi.out);have hHi:=Zb (h.out.below hBi.out);have q5i:=Zb (Zc hBi.out q5.out)
   cases gk with
   | succ t' =>
    obtain rfl : t' = 6 - (i + 1):=by omega
    have hi6 : i < 6:=by omega
    have t4 : decide ((i : Int) < 6) = true:=decide_eq_true (by omega)
    have bi : (i : Int) < 6:=by omega
    have hsc:=Zpg (b:=b) (K:=K) (t:=i);rw [hbs] at hsc;obtain ⟨gd,od,dn,dA,dk,dc,dm,dB,dj,dd,rfl,⟨d0,d1,d2,d3⟩,hd⟩:=hFi.out.at_ hi6;have hdl:=hP.out.d i
    have hdL : dk <= 7 /\ dj <= 7:=by
     have h1:=hd.1.2.2.len;have h2:=hd.2.2.2.len;have h3:=(Zm _ _).2 (Nat.lt_of_le_of_lt hdl.1 (Zc7 (show 6 < 7 by decide)));have h4:=(Zm _ _).2 (Nat.lt_of_le_of_lt hdl.2 (Zc7 (show 6 < 7 by decide)));rw [Int.natAbs_natCast] at h2;omega
    have t5 : decide ((10 : Int) < ((max dk dj : Nat) : Int)) = false:=decide_eq_false (by omega);have t5' : decide (10 < max dk dj) = false:=decide_eq_false (by omega);obtain ⟨M,hM⟩ : ∃ M,max dk dj = M:=⟨_,rfl⟩
    have hM7 : M <= 7:=by omega
    rw [hM] at t5 t5';have hd':=Zb hd;replace hM:=Zb hM
    have dj7 : dk <= maxLen /\ dj <= maxLen:=by unfold maxLen;omega
    clear hd hdl hdL;have hFt:=hO;clear hBw hHi;clear hO;go_wp2_with fail;refine (Zcz dn dm dA dB dk dc dj dd _ wi hd'.out).mono ?_;rintro e w301 ⟨rfl,hb1⟩;replace hFi:=Zb (hFi.out.below hb1);replace hd':=Zb (hd'.out.below hb1);replace q5i:=Zb (Zc hb1 q5i.out);replace hFt:=Zb (hFt.out.below hb1);have hB302:=Zb (hBi.out.trans (hb1.mono hBi.out.size));clear hBi;clear hb1;have hdR:=hFi.out;obtain ⟨x0,x1,x2,x3,hA9⟩ : True /\ True /\ True /\ True /\ True:=⟨trivial,trivial,trivial,trivial,trivial⟩;clear x0 x1 x2 x3 hA9 hdR d0 d1 d2 d3;obtain ⟨en,eA,ek,ec,em,eB,ej,ed,⟨d0,d1,d2,d3⟩,hd9⟩:=hFi.out.atS hi6;have hd'':=Zb hd9;clear hd9;have hdl:=hP.out.d i
    have hdL2 : ek <= 7 /\ ej <= 7:=by
     have h1:=hd''.out.1.2.2.len;have h2:=hd''.out.2.2.2.len;have h3:=(Zm _ _).2 (Nat.lt_of_le_of_lt hdl.1 (Zc7 (show 6 < 7 by decide)));have h4:=(Zm _ _).2 (Nat.lt_of_le_of_lt hdl.2 (Zc7 (show 6 < 7 by decide)));rw [Int.natAbs_natCast] at h2;omega
    clear t5 t5';have t5 : decide ((10 : Int) < ((max ek ej : Nat) : Int)) = false:=decide_eq_false (by omega);have t5' : decide (10 < max ek ej) = false:=decide_eq_false (by omega);obtain ⟨M2,hM2⟩ : ∃ M,max ek ej = M:=⟨_,rfl⟩;rw [hM2] at t5 t5';replace hM2:=Zb hM2
    have ej7 : ek <= maxLen /\ ej <= maxLen:=by unfold maxLen;omega
    clear hdl;clear hd';go_wp2_with fail;refine (Zls en em eA eB ek ec ej ed w301 ej7.1 ej7.2).mono ?_;rintro e w303 ⟨rfl,hb1⟩;replace hFi:=Zb (hFi.out.below hb1);replace q5i:=Zb (Zc hb1 q5i.out);replace hFt:=Zb (hFt.out.below hb1);replace hd'':=Zb (hd''.out.below hb1);have hB304:=Zb (hB302.out.trans (hb1.mono hB302.out.size));clear hB302;clear hb1;rw [hM2.out];clear d0 d1 d2 d3 hdL2 ej7;clear hd''
    by_cases hiK : i = K
    case pos =>
     subst hiK;have hss : Hid (Zef b i (i + 1) = bs):=Zb (by rw [hsc];simp)
     have t6 : ((i : Int) == (i : Int)) = true:=by simp
     have hO2 : Hid (FOwn 29 w303 gy (Zbz rs i (i + 1) b)):=Zb (by
      have h9:=hFt.out;unfold Zbz at h9 ⊢
      rw [<- oT_self 6 rfl];exact h9)
     clear hsc;go_wp2_with fail
     go_roundg (6 - (i + 1))
     case measure=>omega
     case rel=>exact ⟨i + 1,by omega,by rw [hss.out],by go_num,hB304,hO2⟩
    have t6 : ((i : Int) == (K : Int)) = false:=by simp;omega
    have t6' : decide ((i : Int) = (K : Int)) = false:=decide_eq_false (by omega);have t6'' : decide (i = K) = false:=decide_eq_false hiK
    have t6a : ((i : Int) != (K : Int)) = true:=by rw [bne,t6];rfl
    obtain ⟨dn2,dA,dk,dc,dm,dB,dj,dd,⟨d0,d1,d2,d3⟩,hd3⟩:=hFi.out.atS hi6;obtain ⟨zb,hzb⟩ : ∃ z,b i = z:=⟨_,rfl⟩
    have k5c : w303.cell? ⟨g1,i,none⟩ = some (.int .i8 zb):=by
     have h9:=q5i.out.cell i;rw [<- hzb]
     rcases (show i = 0 \/ i = 1 \/ i = 2 \/ i = 3 \/ i = 4 \/ i = 5 by omega) with rfl | rfl | rfl | rfl | rfl | rfl <;> exact h9
    have hbz:=hb.out i;rw [hzb] at hbz;obtain ⟨hz1',hz2'⟩:=hbz
    have hwz : IntKind.i64.wrap zb = zb:=by rw [IntKind.wrap_i64];omega
    have hsc2 : Hid (Zef b K (i + 1) = (bs && decide (zb = 0))):=Zb (by rw [hsc,hzb];simp [hiK]);have hol:=oT_list (d:=fun j=>(Zcg (Zi (qM rs)) K)[j]?.getD 0) (b:=b) 6 hi6 hiK;rw [hzb] at hol;replace hol:=Zb hol;have sd : Sm ((Zcg (Zi (qM rs)) K)[i]?.getD 0):=(hP.out.d i).sm (by decide)
    have sh : Sm (Rat.divInt zb 2):=by
     have hp9 : 4294967296 < pw 1000:=Nat.lt_of_le_of_lt (show 4294967296 <= pw 1 by decide) (Zc7 (by decide));exact ⟨by have:=Zgg zb 2 (by decide);omega,by have:=Zf6 zb 2 (by decide);omega⟩
    replace hd3:=Zb hd3;replace hiK:=Zb hiK;replace hzb:=Zb hzb;clear hsc;have hyl : (Zbz rs K i b).length = 6:=Zdp;obtain ⟨yn,yA,yk,yc,ym,yB,yj,yd,y0,y1,y2,y3,-⟩:=hFt.out.at_ (i:=i) (by rw [hyl];exact hi6);replace hyl:=Zb hyl;go_wp2_with fail;clear y0 y1 y2 y3;have hr305 : Below w303.heap.size w303 w303.drew:=Zj (Below.refl _ _) 1;replace hFi:=Zb (hFi.out.below hr305);replace q5i:=Zb (Zc hr305 q5i.out);replace hFt:=Zb (hFt.out.below hr305);replace hd3:=Zb (hd3.out.below hr305);have hB306:=Zb (hB304.out.trans (hr305.mono hB304.out.size));clear hB304;replace d0:=Za hr305 d0;replace d1:=Za hr305 d1;replace d2:=Za hr305 d2;replace d3:=Za hr305 d3;replace k5c:=Za hr305 k5c;clear hr305;refine Z4 [16] (fun wx=>(wx.cell? ⟨gd,od + i * 4,none⟩ = some (.bool dn2)) /\ (wx.cell? ⟨gd,od + i * 4 + 1,none⟩ = some (.slice dA dk dc)) /\ (wx.cell? ⟨gd,od + i * 4 + 2,none⟩ = some (.bool dm)) /\ (wx.cell? ⟨gd,od + i * 4 + 3,none⟩ = some (.slice dB dj dd)) /\ (wx.cell? ⟨g1,i,none⟩ = some (.int .i8 zb))) hmx ⟨d0,d1,d2,d3,k5c⟩ (fun _=>?_);refine Zd (i:=0) (v:=?vt1) rfl (by kernel_rfl) (by kernel_rfl) (by kernel_rfl) (by kernel_rfl) (by kernel_rfl) (Or.inl ⟨by kernel_rfl,?hyt1⟩) ⟨d0,d1,d2,d3,k5c⟩ ?rt1
    case hyt1=>(intro W2 hSw;(try dsimp only at hSw);go_simp;try with_reducible rfl)
    try simp only [Act.put,putL_a,putL_z,putL_s,putG_a,putG_s,putG_z]
    refine Zd (i:=1) (v:=?vt2) rfl (by kernel_rfl) (by kernel_rfl) (by kernel_rfl) (by kernel_rfl) (by kernel_rfl) (Or.inl ⟨by kernel_rfl,?hyt2⟩) ⟨d0,d1,d2,d3,k5c⟩ ?rt2
    case hyt2=>(intro W2 hSw;(try dsimp only at hSw);go_simp;try with_reducible rfl)
    try simp only [Act.put,putL_a,putL_z,putL_s,putG_a,putG_s,putG_z]
    refine Zd (i:=2) (v:=?vt3) rfl (by kernel_rfl) (by kernel_rfl) (by kernel_rfl) (by kernel_rfl) (by kernel_rfl) (Or.inl ⟨by kernel_rfl,?hyt3⟩) ⟨d0,d1,d2,d3,k5c⟩ ?rt3
    case hyt3=>(intro W2 hSw;(try dsimp only at hSw);go_simp;try with_reducible rfl)
    try simp only [Act.put,putL_a,putL_z,putL_s,putG_a,putG_s,putG_z]
    refine Zd (i:=3) (v:=?vt4) rfl (by kernel_rfl) (by kernel_rfl) (by kernel_rfl) (by kernel_rfl) (by kernel_rfl) (Or.inl ⟨by kernel_rfl,?hyt4⟩) ⟨d0,d1,d2,d3,k5c⟩ ?rt4
    case hyt4=>(intro W2 hSw;(try dsimp only at hSw);go_simp;try with_reducible rfl)
    try simp only [Act.put,putL_a,putL_z,putL_s,putG_a,putG_s,putG_z]
    refine Zd (i:=4) (v:=?vt5) rfl (by kernel_rfl) (by kernel_rfl) (by kernel_rfl) (by kernel_rfl) (by kernel_rfl) (Or.inl ⟨by kernel_rfl,?hyt5⟩) ⟨d0,d1,d2,d3,k5c⟩ ?rt5
    case hyt5=>(intro W2 hSw;(try dsimp only at hSw);go_simp;try with_reducible rfl)
    try simp only [Act.put,putL_a,putL_z,putL_s,putG_a,putG_s,putG_z]
    refine Zd (i:=5) (v:=?vt6) rfl (by kernel_rfl) (by kernel_rfl) (by kernel_rfl) (by kernel_rfl) (by kernel_rfl) (Or.inl ⟨by kernel_rfl,?hyt6⟩) ⟨d0,d1,d2,d3,k5c⟩ ?rt6
    case hyt6=>(intro W2 hSw;(try dsimp only at hSw);go_simp;try with_reducible rfl)
    try simp only [Act.put,putL_a,putL_z,putL_s,putG_a,putG_s,putG_z]
    refine Zd (i:=6) (v:=?vt7) rfl (by kernel_rfl) (by kernel_rfl) (by kernel_rfl) (by kernel_rfl) (by kernel_rfl) (Or.inl ⟨by kernel_rfl,?hyt7⟩) ⟨d0,d1,d2,d3,k5c⟩ ?rt7
    case hyt7=>(intro W2 hSw;(try dsimp only at hSw);go_simp;try with_reducible rfl)
    try simp only [Act.put,putL_a,putL_z,putL_s,putG_a,putG_s,putG_z]
    refine Zd (i:=7) (v:=?vt8) rfl (by kernel_rfl) (by kernel_rfl) (by kernel_rfl) (by kernel_rfl) (by kernel_rfl) (Or.inl ⟨by kernel_rfl,?hyt8⟩) ⟨d0,d1,d2,d3,k5c⟩ ?rt8
    case hyt8=>(intro W2 hSw;(try dsimp only at hSw);go_simp;try with_reducible rfl)
    try simp only [Act.put,putL_a,putL_z,putL_s,putG_a,putG_s,putG_z]
    refine Zd (i:=8) (v:=?vt9) rfl (by kernel_rfl) (by kernel_rfl) (by kernel_rfl) (by kernel_rfl) (by kernel_rfl) (Or.inl ⟨by kernel_rfl,?hyt9⟩) ⟨d0,d1,d2,d3,k5c⟩ ?rt9
    case hyt9=>(intro W2 hSw;(try dsimp only at hSw);go_simp;try with_reducible rfl)
    try simp only [Act.put,putL_a,putL_z,putL_s,putG_a,putG_s,putG_z]
    refine Zn (i:=9) (v:=.int .i64 zb) rfl (by kernel_rfl) (by kernel_rfl) (by kernel_rfl) (by kernel_rfl) (Or.inl ⟨by kernel_rfl,?hyz9⟩) (fun _=>⟨d0,d1,d2,d3,k5c⟩) ?_
    case hyz9=>(intro W2 _;go_simp;(try rw [hwz]);try with_reducible rfl)
    try simp only [Act.put,putL_a,putL_z,putL_s,putG_a,putG_s,putG_z]
    refine Ze (i:=10) rfl (by kernel_rfl) (fun K hK=>?_);go_simp;refine (Zbs zb 2 w303.drew (by omega) (by omega) (by decide) (by decide)).mono ?_;rintro e w307 ⟨hbu,un,uA,uk,uc,um,uB,uj,ud,rfl,uf⟩;replace hFi:=Zb (hFi.out.below hbu);replace q5i:=Zb (Zc hbu q5i.out);replace hFt:=Zb (hFt.out.below hbu);replace hd3:=Zb (hd3.out.below hbu);have hB308:=Zb (hB306.out.trans (hbu.mono hB306.out.size));clear hB306;replace d0:=Za hbu d0;replace d1:=Za hbu d1;replace d2:=Za hbu d2;replace d3:=Za hbu d3;replace k5c:=Za hbu k5c;clear hbu;replace uf:=Zb uf;refine hK.out _ _ (fun _=>⟨d0,d1,d2,d3,k5c⟩) ?_;clear hK K
    try simp only [Act.put,putL_a,putL_z,putL_s,putG_a,putG_s,putG_z]
    refine Ze (i:=11) rfl (by kernel_rfl) (fun K hK=>?_);go_simp;refine (Zti dn2 dm un um dA dB uA uB dk dc dj dd uk uc uj ud _ _ w307 hd3.out uf.out sd sh).mono ?_;rintro e w309 ⟨hbv,vn,vA,vk,vc,vm,vB,vj,vd,rfl,vf⟩;replace hFi:=Zb (hFi.out.below hbv);replace q5i:=Zb (Zc hbv q5i.out);replace hFt:=Zb (hFt.out.below hbv);replace hd3:=Zb (hd3.out.below hbv);replace uf:=Zb (uf.out.below hbv);have hB310:=Zb (hB308.out.trans (hbv.mono hB308.out.size));clear hB308;replace d0:=Za hbv d0;replace d1:=Za hbv d1;replace d2:=Za hbv d2;replace d3:=Za hbv d3;replace k5c:=Za hbv k5c;clear hbv;replace vf:=Zb vf;refine hK.out _ _ (fun _=>⟨d0,d1,d2,d3,k5c⟩) ?_;clear hK K
    try simp only [Act.put,putL_a,putL_z,putL_s,putG_a,putG_s,putG_z]
    refine Zn (i:=12) (v:=?vt10) rfl (by kernel_rfl) (by kernel_rfl) (by kernel_rfl) (by kernel_rfl) (Or.inl ⟨by kernel_rfl,?hyt10⟩) (fun _=>⟨d0,d1,d2,d3,k5c⟩) ?rt10
    case hyt10=>(intro W2 _;go_simp;try with_reducible rfl)
    try simp only [Act.put,putL_a,putL_z,putL_s,putG_a,putG_s,putG_z]
    refine Zn (i:=13) (v:=?vt11) rfl (by kernel_rfl) (by kernel_rfl) (by kernel_rfl) (by kernel_rfl) (Or.inl ⟨by kernel_rfl,?hyt11⟩) (fun _=>⟨d0,d1,d2,d3,k5c⟩) ?rt11
    case hyt11=>(intro W2 _;go_simp;try with_reducible rfl)
    try simp only [Act.put,putL_a,putL_z,putL_s,putG_a,putG_s,putG_z]
    refine Zn (i:=14) (v:=?vt12) rfl (by kernel_rfl) (by kernel_rfl) (by kernel_rfl) (by kernel_rfl) (Or.inl ⟨by kernel_rfl,?hyt12⟩) (fun _=>⟨d0,d1,d2,d3,k5c⟩) ?rt12
    case hyt12=>(intro W2 _;go_simp;try with_reducible rfl)
    try simp only [Act.put,putL_a,putL_z,putL_s,putG_a,putG_s,putG_z]
    refine Zn (i:=15) (v:=?vt13) rfl (by kernel_rfl) (by kernel_rfl) (by kernel_rfl) (by kernel_rfl) (Or.inl ⟨by kernel_rfl,?hyt13⟩) (fun _=>⟨d0,d1,d2,d3,k5c⟩) ?rt13
    case hyt13=>(intro W2 _;go_simp;try with_reducible rfl)
    try simp only [Act.put,putL_a,putL_z,putL_s,putG_a,putG_s,putG_z]
    have hF5:=hFt.out;obtain ⟨qn,qA,qk,qc,qm,qB,qj,qd,y0,y1,y2,y3,-⟩:=hF5.at_ (i:=i) (by rw [hyl.out];exact hi6);have f0:=hF5.frozen (i * 4);have f1:=hF5.frozen (i * 4 + 1);have f2:=hF5.frozen (i * 4 + 2);have f3:=hF5.frozen (i * 4 + 3);obtain ⟨Z9,hZ9⟩ : ∃ W,Zgd w309 gy i vn vA vk vc vm vB vj vd = W:=⟨_,rfl⟩
    have hF9 : Hid (FOwn 29 Z9 gy (Zbz rs K (i + 1) b)):=Zb (by
     have h1:=hF5.set_ (i:=i) (by rw [hyl.out];exact hi6) vf.out;have h2:=hol.out;unfold Zbz at h1 ⊢;(try dsimp only at h2);rw [h2] at h1;rw [<- hZ9]
     exact h1)
    have hB9 : Hid (Below w14.heap.size w14 Z9):=Zb (by rw [<- hZ9];exact Zoy hB310.out hgy)
    have k5z : Z9.cell? ⟨g1,i,none⟩ = some (.int .i8 zb):=by
     have h9:=(Zc hB9.out q5.out).cell i;rw [<- hzb.out]
     rcases (show i = 0 \/ i = 1 \/ i = 2 \/ i = 3 \/ i = 4 \/ i = 5 by omega) with rfl | rfl | rfl | rfl | rfl | rfl <;> exact h9
    unfold Zgd at hZ9;refine Zp (i:=16) rfl (by kernel_rfl) (by kernel_rfl) (fun K hK=>?_);go_simp;(try rw [hZ9]);refine hK.out _ _ ?_;clear hK K
    try simp only [Act.put,putL_a,putL_z,putL_s,putG_a,putG_s,putG_z]
    clear hF5 y0 y1 y2 y3 f0 f1 f2 f3 hZ9 vf uf hd3 hFt hFi q5i hB310 sd sh;refine Zl (by kernel_rfl) ?_ _;refine OnlyNormal.normal ?_;clear d0 d1 d2 d3 k5c
    cases bs with
    | true =>
     go_wp2_with fail
     go_roundg (6 - (i + 1))
     case measure=>omega
     case rel=>exact ⟨i + 1,by omega,by rw [hsc2.out];first | rfl | (simp;done) | (simp;rfl),by go_num,hB9,hF9⟩
    | false =>
     go_wp2_with fail
     go_roundg (6 - (i + 1))
     case measure=>omega
     case rel=>exact ⟨i + 1,by omega,by rw [hsc2.out];first | rfl | (simp;done) | (simp;rfl),by go_num,hB9,hF9⟩
   | zero =>
    obtain rfl : i = 6:=by omega
    have t4 : decide (((6 : Nat) : Int) < 6) = false:=by decide
    obtain ⟨esx,hVx,hEx,hDx,hvx⟩:=hP.out.vec (fun i=>(hP.out.d i).mono (by decide)) Zc6 hFi.out;have hOf:=hO.out.fl (c:=cy) (by rw [Zdp];exact hcy1) (by unfold maxLen;exact hcy2);rw [Zdp] at hOf;obtain ⟨esy,hVy,hEy,hDy,hvy⟩:=hP.out.vec (fun i=>hP.out.o hb.out 6 i) Zdp hOf;have hHb:=hHi;obtain ⟨htwo,hcmp⟩:=hP.out.two (b:=b) hK6;rw [hbs] at hcmp;have sx:=hP.out.sm (qs:=Zcg (Zi (qM rs)) K) (fun i=>(hP.out.d i).mono (by decide));have sy:=hP.out.sm (qs:=Zbz rs K 6 b) (fun i=>hP.out.o hb.out 6 i);have sk : Sm (Zi (qM rs) K K):=(hP.out.le K K).sm (by decide);obtain ⟨xq,hxq⟩ : ∃ q,bil (Zi (qM rs)) 6 (fun i=>(Zcg (Zi (qM rs)) K)[i]?.getD 0) (fun i=>(Zcg (Zi (qM rs)) K)[i]?.getD 0) = q:=⟨_,rfl⟩;obtain ⟨yq,hyq⟩ : ∃ q,bil (Zi (qM rs)) 6 (fun i=>(Zbz rs K 6 b)[i]?.getD 0) (fun i=>(Zbz rs K 6 b)[i]?.getD 0) = q:=⟨_,rfl⟩;rw [hxq] at hvx htwo hcmp sx;rw [hyq] at hvy hcmp sy;replace hxq:=Zb hxq;replace hyq:=Zb hyq;replace htwo:=Zb htwo;replace hcmp:=Zb hcmp;replace hbs:=Zb hbs;have hcapx:=hVx.2.2.1;unfold maxLen at hcapx;have hVx':=Zb hVx;have hVy':=Zb hVy;clear hVx hVy hOf hFi q5i hO hBi;go_wp2_with fail;refine (Zf2 A A2 6 c 6 c2 rs esx wi hHb.out hFC.out hVx'.out (fun _=>hDx)).mono ?_;rintro e w601 ⟨hb1,hcase⟩;replace hHb:=Zb (hHb.out.below hb1);replace hVx':=Zb (hVx'.out.below hb1);replace hVy':=Zb (hVy'.out.below hb1);have hB602:=Zb (hBw.out.trans (hb1.mono hBw.out.size));clear hBw;clear hb1
    rcases hcase with ⟨-,xn,xA,xk,xc,xm,xB,xj,xd,rfl,xf⟩ | ⟨hh,-⟩
    case inr=>exact absurd hEx hh
    rw [hvx] at xf;replace xf:=Zb xf;obtain ⟨g603,hg604⟩ : ∃ g,w601.heap.size = g:=⟨_,rfl⟩;obtain ⟨V605,hV606,q607,hb608⟩:=Za6 (w:=w601) 29 #[.bool xn,.slice xA xk xc,.bool xm,.slice xB xj xd];rw [hg604] at q607;replace hHb:=Zb (hHb.out.below hb608);replace hVx':=Zb (hVx'.out.below hb608);replace hVy':=Zb (hVy'.out.below hb608);replace xf:=Zb (xf.out.below hb608);have hB609:=Zb (hB602.out.trans (hb608.mono hB602.out.size));clear hB602;clear hb608;replace q607:=Zb q607;go_wp2_with fail;(try rw [hg604]);(try rw [hV606]);clear hV606;replace hg604:=Zb hg604;refine (Zf2 A (some ⟨gy,0,none⟩) 6 c 6 cy rs esy V605 hHb.out hFC.out hVy'.out (fun _=>hDy)).mono ?_;rintro e w610 ⟨hb1,hcase⟩;replace hHb:=Zb (hHb.out.below hb1);replace hVx':=Zb (hVx'.out.below hb1);replace hVy':=Zb (hVy'.out.below hb1);replace xf:=Zb (xf.out.below hb1);replace q607:=Zb (Zc hb1 q607.out);have hB611:=Zb (hB609.out.trans (hb1.mono hB609.out.size));clear hB609;clear hb1
    rcases hcase with ⟨-,yn,yA,yk,yc,ym,yB,yj,yd,rfl,yf⟩ | ⟨hh,-⟩
    case inr=>exact absurd hEy hh
    rw [hvy] at yf;replace yf:=Zb yf;obtain ⟨g612,hg613⟩ : ∃ g,w610.heap.size = g:=⟨_,rfl⟩;obtain ⟨V614,hV615,q616,hb617⟩:=Za6 (w:=w610) 29 #[.bool yn,.slice yA yk yc,.bool ym,.slice yB yj yd];rw [hg613] at q616;replace hHb:=Zb (hHb.out.below hb617);replace hVx':=Zb (hVx'.out.below hb617);replace hVy':=Zb (hVy'.out.below hb617);replace xf:=Zb (xf.out.below hb617);replace q607:=Zb (Zc hb617 q607.out);replace yf:=Zb (yf.out.below hb617);have hB618:=Zb (hB611.out.trans (hb617.mono hB611.out.size));clear hB611;clear hb617;replace q616:=Zb q616;obtain ⟨xx0,xx1,xx2,xx3,-⟩:=q607.out.four;obtain ⟨yy0,yy1,yy2,yy3,-⟩:=q616.out.four;go_wp2_with fail;(try rw [hg613]);(try rw [hV615]);clear hV615;replace hg613:=Zb hg613;refine (Zcz xn xm xA xB xk xc xj xd _ V614 xf.out).mono ?_;rintro e w619 ⟨rfl,hb1⟩;replace hHb:=Zb (hHb.out.below hb1);replace hVx':=Zb (hVx'.out.below hb1);replace hVy':=Zb (hVy'.out.below hb1);replace xf:=Zb (xf.out.below hb1);replace q607:=Zb (Zc hb1 q607.out);replace yf:=Zb (yf.out.below hb1);replace q616:=Zb (Zc hb1 q616.out);have hB620:=Zb (hB618.out.trans (hb1.mono hB618.out.size));clear hB618;clear hb1;clear xx0 xx1 xx2 xx3 yy0 yy1 yy2 yy3;obtain ⟨yy0,yy1,yy2,yy3,-⟩:=q616.out.four;go_wp2_with fail;refine (Zcz yn ym yA yB yk yc yj yd _ w619 yf.out).mono ?_;rintro e w621 ⟨rfl,hb1⟩;replace hHb:=Zb (hHb.out.below hb1);replace hVx':=Zb (hVx'.out.below hb1);replace hVy':=Zb (hVy'.out.below hb1);replace xf:=Zb (xf.out.below hb1);replace q607:=Zb (Zc hb1 q607.out)
    replace yf:=Zb (yf.out.below hb1);replace q616:=Zb (Zc hb1 q616.out);have hB622:=Zb (hB620.out.trans (hb1.mono hB620.out.size));clear hB620;clear hb1;clear yy0 yy1 yy2 yy3;go_wp2_with fail;have hMF:=(Zhi hP.out.e).1.good hHb.out;obtain ⟨gc,oc,Ar,nr,cr,eA9,m0,hR⟩:=hMF.at_ hK6;subst eA9
    obtain rfl : 6 = nr:=by rw [<- hR.len];exact ((Zhi hP.out.e).1.row hHb.out K hK6).symm
    obtain ⟨gr,or_,kn,kA,kk',kc,km,kB,kj,kd,eA8,⟨l0,l1,l2,l3⟩,hkf⟩:=hR.at_ hK6;subst eA8;have hkf' : Fr w621 kn kA kk' kc km kB kj kd (Zi (qM rs) K K):=hkf;have hcr:=hR.cap;unfold maxLen at hcr;obtain ⟨xx0,xx1,xx2,xx3,-⟩:=q607.out.four;have hxf:=xf.out;have hKw : IntKind.i64.wrap (K : Int) = (K : Int):=IntWalk.i64_in _ (by omega)
    have bK : (K : Int) < 6:=by omega
    clear hMF hR hkf;have hSv71 : Hid (∀ wx,Below w621.heap.size w621 wx -> wx.cell? ⟨g603,0,none⟩ = some (.bool xn) /\ wx.cell? ⟨g603,1,none⟩ = some (.slice xA xk xc) /\ wx.cell? ⟨g603,2,none⟩ = some (.bool xm) /\ wx.cell? ⟨g603,3,none⟩ = some (.slice xB xj xd) /\ wx.cell? ⟨gc,oc + K,none⟩ = some (.slice (some ⟨gr,or_,none⟩) 6 cr) /\ wx.cell? ⟨gr,or_ + K * 4,none⟩ = some (.bool kn) /\ wx.cell? ⟨gr,or_ + K * 4 + 1,none⟩ = some (.slice kA kk' kc) /\ wx.cell? ⟨gr,or_ + K * 4 + 2,none⟩ = some (.bool km) /\ wx.cell? ⟨gr,or_ + K * 4 + 3,none⟩ = some (.slice kB kj kd)):=Zb (fun wx hbx=>⟨Za hbx xx0,Za hbx xx1,Za hbx xx2,Za hbx xx3,Za hbx m0,Za hbx l0,Za hbx l1,Za hbx l2,Za hbx l3⟩);have hr71 : Below w621.heap.size w621 w621.drew:=Zj (Below.refl _ _) 1;refine wp_heldS [] hmx hSv71 hr71 (fun hxs71=>?_);refine Zu3 8 [0,1,2,3,4,5,6,7] rfl (by kernel_rfl) (hSv71.out _ hr71) ?_
    iterate 8 (refine tk1 (v:=?_) rfl (Or.inl ⟨by kernel_rfl,?_⟩) ?_;rotate_left;(· intro W2 hSw;(try dsimp only at hSw);go_simp;try with_reducible rfl);try simp only [Act.put,putL_a,putL_z,putL_s,putG_a,putG_s,putG_z])
    refine tk0 ?_;refine Zfk [(8,144),(9,135),(10,145),(12,17)] (fun i=>match i with | 9=>[11] | _=>[]) [(8,144),(9,135),(11,146),(10,145),(12,17)] (Zb6 w621.heap.size (xq * Zi (qM rs) K K) 8 9 10 11 12 11) 2 (by kernel_rfl) (fun _ _ _ _ _ hb h=>Zhw hb h) (fun wx h=>hSv71.out _ (hr71.trans (h.mono hr71.size))) ?hop71 ?hfin71
    case hop71 =>
     intro p hp;simp only [List.mem_cons,List.not_mem_nil,or_false] at hp;simp only [List.map_cons,List.map_nil,Zay,Act.put,putL_a,putL_z,putL_s]
     rcases hp with rfl | rfl | rfl | rfl
     ·intro ν wx hb hP
      have hbx:=hr71.trans (hb.mono hr71.size);refine Zby (i:=8) rfl (fun K hK=>?_);go_simp;refine (Zkh xn xm kn km xA xB kA kB xk xc xj xd kk' kc kj kd _ _ wx (hxf.below hbx) (hkf'.below hbx) sx sk).mono ?_;rintro e w5 ⟨hb5,na5,A5,k5,c5,nb5,B5,m5,d5,rfl,hf5⟩;exact hK.out _ _ ⟨_,rfl,(by simp only [Zb6];exact ⟨_,_,_,_,_,_,_,_,rfl,hf5⟩),hb5,trivial⟩
     ·intro ν wx hb hP
      have h0:=hP (8,144) (by simp) (by kernel_rfl);simp only [Zb6] at h0;obtain ⟨na5,A5,k5,c5,nb5,B5,m5,d5,hν,hf5⟩:=h0;rw [hν];refine Zby (i:=9) rfl (fun K hK=>?_);go_simp;refine hK.out _ _ ⟨_,rfl,(by simp only [Zb6];exact ⟨_,_,_,_,_,_,_,_,rfl,hf5⟩),Below.refl _ _,?_⟩;exact ⟨_,.int .i64 0,rfl,Or.inl ⟨by kernel_rfl,fun W2 _=>by go_simp⟩,by simp [Zb6],trivial⟩
     ·intro ν wx hb hP
      have h0:=hP (9,135) (by simp) (by kernel_rfl);simp only [Zb6] at h0;obtain ⟨na5,A5,k5,c5,nb5,B5,m5,d5,hν,hf5⟩:=h0;rw [hν];refine Zby (i:=10) rfl (fun K hK=>?_);go_simp;exact hK.out _ _ ⟨_,rfl,(by simp only [Zb6];exact ⟨_,_,_,_,_,_,_,_,rfl,hf5⟩),Below.refl _ _,trivial⟩
     ·intro ν wx hb hP
      refine Zby (i:=12) rfl (fun K hK=>?_);go_simp;exact hK.out _ _ ⟨_,rfl,(by simp only [Zb6];exact ⟨_,rfl,hb.size,Blk.new _ _ _⟩),(Below.refl _ _).alloc (Nat.le_refl _) _,trivial⟩
    case hfin71 =>
     intro ν wx hb hP;have h0:=hP (8,144) (by simp);have h1:=hP (9,135) (by simp);have h2:=hP (10,145) (by simp);have h3:=hP (11,146) (by simp);have h4:=hP (12,17) (by simp);simp only [Zb6] at h0 h1 h2 h4;obtain ⟨a0,a1,a2,a3,a4,a5,a6,a7,h0,-⟩:=h0;obtain ⟨b0',b1',b2',b3',b4',b5',b6',b7',h1,-⟩:=h1;obtain ⟨wwn,wwA,wwk,wwc,wwm,wwB,wwj,wwd,h2,wwf⟩:=h2;obtain ⟨gww,h4,kv,qv⟩:=h4;simp only [List.map_cons,List.map_nil,Zay,Act.put,putL_a,putL_z,putL_s];rw [h0,h1,h2,(show ν 146 = Value.int .i64 0 by simpa [Zb6] using h3),h4];clear h0 h1 h2 h3 h4 hP ν;have hbx:=hr71.trans (hb.mono hr71.size);have qv4:=qv.four;have kv2 : w621.heap.size <= gww:=kv;refine (Z6 wwn wwA wwk wwc wwm wwB wwj wwd hbx kv2 qv).elim (fun Zww hq=>?_);have c0:=qv4.1;have c1':=qv4.2.1;have c2':=qv4.2.2.1;have c3:=qv4.2.2.2.1;have f0:=qv4.2.2.2.2.1;have f1:=qv4.2.2.2.2.2.1;have f2:=qv4.2.2.2.2.2.2.1;have f3:=qv4.2.2.2.2.2.2.2;have hZ:=hq.1;refine Ze (i:=13) rfl (by kernel_rfl) (fun K hK=>?_);go_simp;(try rw [hZ]);refine hK.out _ _ (fun _=>hSv71.out _ hq.2.1) ?_;clear hK K
     try simp only [Act.put,putL_a,putL_z,putL_s]
     refine Zu2 1 [14] rfl (by kernel_rfl) (hSv71.out _ hq.2.1) ?_
     (refine tk1 (v:=?_) rfl (Or.inl ⟨by kernel_rfl,?_⟩) ?_;rotate_left;(· intro W2 _;go_simp;try with_reducible rfl);try simp only [Act.put,putL_a,putL_z,putL_s,putG_a,putG_s,putG_z])
     refine tk0 ?_;refine Zl (by kernel_rfl) ?_ _;refine OnlyNormal.normal ?_;have hbZww:=hq.2.1;have wwb:=Zb hq.2.2.1;replace wwf:=Zb (Fr.keep wwf hq.2.2.2.1);clear hq hZ c0 c1' c2' c3 f0 f1 f2 f3 qv4 qv kv hbx hb hr71 hSv71 hxs71;replace hHb:=Zb (hHb.out.below hbZww);replace hVx':=Zb (hVx'.out.below hbZww);replace hVy':=Zb (hVy'.out.below hbZww);replace xf:=Zb (xf.out.below hbZww);replace q607:=Zb (Zc hbZww q607.out);replace yf:=Zb (yf.out.below hbZww);replace q616:=Zb (Zc hbZww q616.out);have hB623:=Zb (hB622.out.trans (hbZww.mono hB622.out.size));clear hB622;clear hbZww xx0 xx1 xx2 xx3 m0 l0 l1 l2 l3 hxf hkf' hcr;rw [htwo.out] at wwf;obtain ⟨xx0,xx1,xx2,xx3,-⟩:=q607.out.four;obtain ⟨yy0,yy1,yy2,yy3,-⟩:=q616.out.four;go_wp2_with fail;refine (Ztx xn xm yn ym xA xB yA yB xk xc xj xd yk yc yj yd _ _ Zww xf.out yf.out sx sy).mono ?_;rintro e w624 ⟨rfl,hb1⟩;replace hHb:=Zb (hHb.out.below hb1);replace hVx':=Zb (hVx'.out.below hb1);replace hVy':=Zb (hVy'.out.below hb1);replace xf:=Zb (xf.out.below hb1);replace q607:=Zb (Zc hb1 q607.out);replace yf:=Zb (yf.out.below hb1);replace q616:=Zb (Zc hb1 q616.out);replace wwb:=Zb (Zc hb1 wwb.out);replace wwf:=Zb (wwf.out.below hb1);have hB625:=Zb (hB623.out.trans (hb1.mono hB623.out.size));clear hB623;clear hb1;rw [hcmp.out];clear xx0 xx1 xx2 xx3 yy0 yy1 yy2 yy3
     cases bs with
     | true =>
      rw [if_pos rfl];go_wp2_with fail;have cc626 : w624.cell? ⟨gww,0,none⟩ = some (.bool wwn):=wwb.out.cell 0;have cc627 : w624.cell? ⟨gww,1,none⟩ = some (.slice wwA wwk wwc):=wwb.out.cell 1;have cc628 : w624.cell? ⟨gww,2,none⟩ = some (.bool wwm):=wwb.out.cell 2;have cc629 : w624.cell? ⟨gww,3,none⟩ = some (.slice wwB wwj wwd):=wwb.out.cell 3;have hr630 : Below w624.heap.size w624 w624.drew:=Zj (Below.refl _ _) 1;replace hHb:=Zb (hHb.out.below hr630);replace hVx':=Zb (hVx'.out.below hr630);replace hVy':=Zb (hVy'.out.below hr630);replace xf:=Zb (xf.out.below hr630);replace q607:=Zb (Zc hr630 q607.out);replace yf:=Zb (yf.out.below hr630);replace q616:=Zb (Zc hr630 q616.out);replace wwb:=Zb (Zc hr630 wwb.out);replace wwf:=Zb (wwf.out.below hr630);have hB631:=Zb (hB625.out.trans (hr630.mono hB625.out.size));clear hB625;replace cc626:=Za hr630 cc626;replace cc627:=Za hr630 cc627;replace cc628:=Za hr630 cc628;replace cc629:=Za hr630 cc629;clear hr630;refine Z4 [] (fun wx=>(wx.cell? ⟨gww,0,none⟩ = some (.bool wwn)) /\ (wx.cell? ⟨gww,1,none⟩ = some (.slice wwA wwk wwc)) /\ (wx.cell? ⟨gww,2,none⟩ = some (.bool wwm)) /\ (wx.cell? ⟨gww,3,none⟩ = some (.slice wwB wwj wwd))) hmx ⟨cc626,cc627,cc628,cc629⟩ (fun _=>?_);refine Zd (i:=0) (v:=?vt14) rfl (by kernel_rfl) (by kernel_rfl) (by kernel_rfl) (by kernel_rfl) (by kernel_rfl) (Or.inl ⟨by kernel_rfl,?hyt14⟩) ⟨cc626,cc627,cc628,cc629⟩ ?rt14
      case hyt14=>(intro W2 hSw;(try dsimp only at hSw);go_simp;try with_reducible rfl)
      try simp only [Act.put,putL_a,putL_z,putL_s,putG_a,putG_s,putG_z]
      refine Zd (i:=1) (v:=?vt15) rfl (by kernel_rfl) (by kernel_rfl) (by kernel_rfl) (by kernel_rfl) (by kernel_rfl) (Or.inl ⟨by kernel_rfl,?hyt15⟩) ⟨cc626,cc627,cc628,cc629⟩ ?rt15
      case hyt15=>(intro W2 hSw;(try dsimp only at hSw);go_simp;try with_reducible rfl)
      try simp only [Act.put,putL_a,putL_z,putL_s,putG_a,putG_s,putG_z]
      refine Zd (i:=2) (v:=?vt16) rfl (by kernel_rfl) (by kernel_rfl) (by kernel_rfl) (by kernel_rfl) (by kernel_rfl) (Or.inl ⟨by kernel_rfl,?hyt16⟩) ⟨cc626,cc627,cc628,cc629⟩ ?rt16
      case hyt16=>(intro W2 hSw;(try dsimp only at hSw);go_simp;try with_reducible rfl)
      try simp only [Act.put,putL_a,putL_z,putL_s,putG_a,putG_s,putG_z]
      refine Ze (i:=3) rfl (by kernel_rfl) (fun K hK=>?_);(try rw [if_pos (by kernel_rfl)]);go_simp;refine (Zbs 1 1 w624.drew (by decide) (by decide) (by decide) (by decide)).mono ?_;rintro e w632 ⟨hbo,on,oA,ok,oc,om,oB,oj,od,rfl,of⟩;replace hHb:=Zb (hHb.out.below hbo);replace hVx':=Zb (hVx'.out.below hbo);replace hVy':=Zb (hVy'.out.below hbo);replace xf:=Zb (xf.out.below hbo);replace q607:=Zb (Zc hbo q607.out);replace yf:=Zb (yf.out.below hbo);replace q616:=Zb (Zc hbo q616.out);replace wwb:=Zb (Zc hbo wwb.out);replace wwf:=Zb (wwf.out.below hbo);have hB633:=Zb (hB631.out.trans (hbo.mono hB631.out.size));clear hB631;replace cc626:=Za hbo cc626;replace cc627:=Za hbo cc627;replace cc628:=Za hbo cc628;replace cc629:=Za hbo cc629;clear hbo;rw [one_four.2.2.1] at of;replace of:=Zb of;refine hK.out _ _ (fun _=>⟨cc626,cc627,cc628,cc629⟩) ?_;clear hK K
      try simp only [Act.put,putL_a,putL_z,putL_s,putG_a,putG_s,putG_z]
      refine Ze (i:=4) rfl (by kernel_rfl) (fun K hK=>?_);(try rw [if_pos (by kernel_rfl)]);go_simp;refine (Zgc wwn wwm on om wwA wwB oA oB wwk wwc wwj wwd ok oc oj od _ _ w632 wwf.out of.out true (decide_eq_true rfl)).mono ?_;rintro e w634 ⟨rfl,hbS⟩;replace hHb:=Zb (hHb.out.below hbS);replace hVx':=Zb (hVx'.out.below hbS);replace hVy':=Zb (hVy'.out.below hbS);replace xf:=Zb (xf.out.below hbS);replace q607:=Zb (Zc hbS q607.out);replace yf:=Zb (yf.out.below hbS);replace q616:=Zb (Zc hbS q616.out);replace wwb:=Zb (Zc hbS wwb.out);replace wwf:=Zb (wwf.out.below hbS);replace of:=Zb (of.out.below hbS);have hB635:=Zb (hB633.out.trans (hbS.mono hB633.out.size));clear hB633;replace cc626:=Za hbS cc626;replace cc627:=Za hbS cc627;replace cc628:=Za hbS cc628;replace cc629:=Za hbS cc629;clear hbS;refine hK.out _ _ (fun _=>⟨cc626,cc627,cc628,cc629⟩) ?_;clear hK K
      try simp only [Act.put,putL_a,putL_z,putL_s,putG_a,putG_s,putG_z]
      refine Zd (i:=5) (v:=?vt17) rfl (by kernel_rfl) (by kernel_rfl) (by kernel_rfl) (by kernel_rfl) (by kernel_rfl) (Or.inl ⟨by kernel_rfl,?hyt17⟩) ⟨cc626,cc627,cc628,cc629⟩ ?rt17
      case hyt17=>(intro W2 hSw;(try dsimp only at hSw);go_simp;try with_reducible rfl)
      try simp only [Act.put,putL_a,putL_z,putL_s,putG_a,putG_s,putG_z]
      refine Zd (i:=6) (v:=?vt18) rfl (by kernel_rfl) (by kernel_rfl) (by kernel_rfl) (by kernel_rfl) (by kernel_rfl) (Or.inl ⟨by kernel_rfl,?hyt18⟩) ⟨cc626,cc627,cc628,cc629⟩ ?rt18
      case hyt18=>(intro W2 hSw;(try dsimp only at hSw);go_simp;try with_reducible rfl)
      try simp only [Act.put,putL_a,putL_z,putL_s,putG_a,putG_s,putG_z]
      refine Zd (i:=7) (v:=?vt19) rfl (by kernel_rfl) (by kernel_rfl) (by kernel_rfl) (by kernel_rfl) (by kernel_rfl) (Or.inl ⟨by kernel_rfl,?hyt19⟩) ⟨cc626,cc627,cc628,cc629⟩ ?rt19
      case hyt19=>(intro W2 hSw;(try dsimp only at hSw);go_simp;try with_reducible rfl)
      try simp only [Act.put,putL_a,putL_z,putL_s,putG_a,putG_s,putG_z]
      refine Zd (i:=8) (v:=?vt20) rfl (by kernel_rfl) (by kernel_rfl) (by kernel_rfl) (by kernel_rfl) (by kernel_rfl) (Or.inl ⟨by kernel_rfl,?hyt20⟩) ⟨cc626,cc627,cc628,cc629⟩ ?rt20
      case hyt20=>(intro W2 hSw;(try dsimp only at hSw);go_simp;try with_reducible rfl)
      try simp only [Act.put,putL_a,putL_z,putL_s,putG_a,putG_s,putG_z]
      refine Zd (i:=9) (v:=?vt21) rfl (by kernel_rfl) (by kernel_rfl) (by kernel_rfl) (by kernel_rfl) (by kernel_rfl) (Or.inl ⟨by kernel_rfl,?hyt21⟩) ⟨cc626,cc627,cc628,cc629⟩ ?rt21
      case hyt21=>(intro W2 hSw;(try dsimp only at hSw);go_simp;try with_reducible rfl)
      try simp only [Act.put,putL_a,putL_z,putL_s,putG_a,putG_s,putG_z]
      refine Zd (i:=10) (v:=?vt22) rfl (by kernel_rfl) (by kernel_rfl) (by kernel_rfl) (by kernel_rfl) (by kernel_rfl) (Or.inl ⟨by kernel_rfl,?hyt22⟩) ⟨cc626,cc627,cc628,cc629⟩ ?rt22
      case hyt22=>(intro W2 hSw;(try dsimp only at hSw);go_simp;try with_reducible rfl)
      try simp only [Act.put,putL_a,putL_z,putL_s,putG_a,putG_s,putG_z]
      refine Zd (i:=11) (v:=?vt23) rfl (by kernel_rfl) (by kernel_rfl) (by kernel_rfl) (by kernel_rfl) (by kernel_rfl) (Or.inl ⟨by kernel_rfl,?hyt23⟩) ⟨cc626,cc627,cc628,cc629⟩ ?rt23
      case hyt23=>(intro W2 hSw;(try dsimp only at hSw);go_simp;try with_reducible rfl)
      try simp only [Act.put,putL_a,putL_z,putL_s,putG_a,putG_s,putG_z]
      refine Zd (i:=12) (v:=?vt24) rfl (by kernel_rfl) (by kernel_rfl) (by kernel_rfl) (by kernel_rfl) (by kernel_rfl) (Or.inl ⟨by kernel_rfl,?hyt24⟩) ⟨cc626,cc627,cc628,cc629⟩ ?rt24
      case hyt24=>(intro W2 hSw;(try dsimp only at hSw);go_simp;try with_reducible rfl)
      try simp only [Act.put,putL_a,putL_z,putL_s,putG_a,putG_s,putG_z]
      refine Zd (i:=13) (v:=undef) rfl (by kernel_rfl) (by kernel_rfl) (by kernel_rfl) (by kernel_rfl) (by kernel_rfl) (Or.inr ⟨by kernel_rfl,rfl⟩) ⟨cc626,cc627,cc628,cc629⟩ ?_
      try simp only [Act.put,putL_a,putL_z,putL_s,putG_a,putG_s,putG_z]
      refine Zd (i:=14) (v:=undef) rfl (by kernel_rfl) (by kernel_rfl) (by kernel_rfl) (by kernel_rfl) (by kernel_rfl) (Or.inr ⟨by kernel_rfl,rfl⟩) ⟨cc626,cc627,cc628,cc629⟩ ?_
      try simp only [Act.put,putL_a,putL_z,putL_s,putG_a,putG_s,putG_z]
      refine Zd (i:=15) (v:=undef) rfl (by kernel_rfl) (by kernel_rfl) (by kernel_rfl) (by kernel_rfl) (by kernel_rfl) (Or.inr ⟨by kernel_rfl,rfl⟩) ⟨cc626,cc627,cc628,cc629⟩ ?_
      try simp only [Act.put,putL_a,putL_z,putL_s,putG_a,putG_s,putG_z]
      refine Zd (i:=16) (v:=undef) rfl (by kernel_rfl) (by kernel_rfl) (by kernel_rfl) (by kernel_rfl) (by kernel_rfl) (Or.inr ⟨by kernel_rfl,rfl⟩) ⟨cc626,cc627,cc628,cc629⟩ ?_
      try simp only [Act.put,putL_a,putL_z,putL_s,putG_a,putG_s,putG_z]
      refine Zd (i:=17) (v:=undef) rfl (by kernel_rfl) (by kernel_rfl) (by kernel_rfl) (by kernel_rfl) (by kernel_rfl) (Or.inr ⟨by kernel_rfl,rfl⟩) ⟨cc626,cc627,cc628,cc629⟩ ?_
      try simp only [Act.put,putL_a,putL_z,putL_s,putG_a,putG_s,putG_z]
      refine Zd (i:=18) (v:=undef) rfl (by kernel_rfl) (by kernel_rfl) (by kernel_rfl) (by kernel_rfl) (by kernel_rfl) (Or.inr ⟨by kernel_rfl,rfl⟩) ⟨cc626,cc627,cc628,cc629⟩ ?_
      try simp only [Act.put,putL_a,putL_z,putL_s,putG_a,putG_s,putG_z]
      refine Zd (i:=19) (v:=?vt25) rfl (by kernel_rfl) (by kernel_rfl) (by kernel_rfl) (by kernel_rfl) (by kernel_rfl) (Or.inl ⟨by kernel_rfl,?hyt25⟩) ⟨cc626,cc627,cc628,cc629⟩ ?rt25
      case hyt25=>(intro W2 hSw;(try dsimp only at hSw);go_simp;try with_reducible rfl)
      try simp only [Act.put,putL_a,putL_z,putL_s,putG_a,putG_s,putG_z]
      refine Zd (i:=20) (v:=?vt26) rfl (by kernel_rfl) (by kernel_rfl) (by kernel_rfl) (by kernel_rfl) (by kernel_rfl) (Or.inl ⟨by kernel_rfl,?hyt26⟩) ⟨cc626,cc627,cc628,cc629⟩ ?rt26
      case hyt26=>(intro W2 hSw;(try dsimp only at hSw);go_simp;try with_reducible rfl)
      try simp only [Act.put,putL_a,putL_z,putL_s,putG_a,putG_s,putG_z]
      refine Zn (i:=21) (v:=?vt27) rfl (by kernel_rfl) (by kernel_rfl) (by kernel_rfl) (by kernel_rfl) (Or.inl ⟨by kernel_rfl,?hyt27⟩) (fun _=>⟨cc626,cc627,cc628,cc629⟩) ?rt27
      case hyt27=>(intro W2 _;go_simp;try with_reducible rfl)
      try simp only [Act.put,putL_a,putL_z,putL_s,putG_a,putG_s,putG_z]
      refine Zl (by kernel_rfl) ?_ _;refine OnlyNormal.normal ?_;clear cc626 cc627 cc628 cc629;go_wp2_with fail;go_ret;exact ⟨rfl,hB635.out⟩
     | false =>
      rw [if_neg (by decide)];go_wp2_with fail;have cc626 : w624.cell? ⟨gww,0,none⟩ = some (.bool wwn):=wwb.out.cell 0;have cc627 : w624.cell? ⟨gww,1,none⟩ = some (.slice wwA wwk wwc):=wwb.out.cell 1;have cc628 : w624.cell? ⟨gww,2,none⟩ = some (.bool wwm):=wwb.out.cell 2;have cc629 : w624.cell? ⟨gww,3,none⟩ = some (.slice wwB wwj wwd):=wwb.out.cell 3;have hr630 : Below w624.heap.size w624 w624.drew:=Zj (Below.refl _ _) 1;replace hHb:=Zb (hHb.out.below hr630);replace hVx':=Zb (hVx'.out.below hr630);replace hVy':=Zb (hVy'.out.below hr630);replace xf:=Zb (xf.out.below hr630);replace q607:=Zb (Zc hr630 q607.out);replace yf:=Zb (yf.out.below hr630);replace q616:=Zb (Zc hr630 q616.out);replace wwb:=Zb (Zc hr630 wwb.out);replace wwf:=Zb (wwf.out.below hr630);have hB631:=Zb (hB625.out.trans (hr630.mono hB625.out.size));clear hB625;replace cc626:=Za hr630 cc626;replace cc627:=Za hr630 cc627;replace cc628:=Za hr630 cc628;replace cc629:=Za hr630 cc629;clear hr630;refine Z4 [] (fun wx=>(wx.cell? ⟨gww,0,none⟩ = some (.bool wwn)) /\ (wx.cell? ⟨gww,1,none⟩ = some (.slice wwA wwk wwc)) /\ (wx.cell? ⟨gww,2,none⟩ = some (.bool wwm)) /\ (wx.cell? ⟨gww,3,none⟩ = some (.slice wwB wwj wwd))) hmx ⟨cc626,cc627,cc628,cc629⟩ (fun _=>?_);refine Zd (i:=0) (v:=?vt28) rfl (by kernel_rfl) (by kernel_rfl) (by kernel_rfl) (by kernel_rfl) (by kernel_rfl) (Or.inl ⟨by kernel_rfl,?hyt28⟩) ⟨cc626,cc627,cc628,cc629⟩ ?rt28
      case hyt28=>(intro W2 hSw;(try dsimp only at hSw);go_simp;try with_reducible rfl)
      try simp only [Act.put,putL_a,putL_z,putL_s,putG_a,putG_s,putG_z]
      refine Zd (i:=1) (v:=?vt29) rfl (by kernel_rfl) (by kernel_rfl) (by kernel_rfl) (by kernel_rfl) (by kernel_rfl) (Or.inl ⟨by kernel_rfl,?hyt29⟩) ⟨cc626,cc627,cc628,cc629⟩ ?rt29
      case hyt29=>(intro W2 hSw;(try dsimp only at hSw);go_simp;try with_reducible rfl)
      try simp only [Act.put,putL_a,putL_z,putL_s,putG_a,putG_s,putG_z]
      refine Zd (i:=2) (v:=?vt30) rfl (by kernel_rfl) (by kernel_rfl) (by kernel_rfl) (by kernel_rfl) (by kernel_rfl) (Or.inl ⟨by kernel_rfl,?hyt30⟩) ⟨cc626,cc627,cc628,cc629⟩ ?rt30
      case hyt30=>(intro W2 hSw;(try dsimp only at hSw);go_simp;try with_reducible rfl)
      try simp only [Act.put,putL_a,putL_z,putL_s,putG_a,putG_s,putG_z]
      refine Ze (i:=3) rfl (by kernel_rfl) (fun K hK=>?_);(try rw [if_pos (by kernel_rfl)]);go_simp;refine (Zbs 1 1 w624.drew (by decide) (by decide) (by decide) (by decide)).mono ?_;rintro e w632 ⟨hbo,on,oA,ok,oc,om,oB,oj,od,rfl,of⟩;replace hHb:=Zb (hHb.out.below hbo);replace hVx':=Zb (hVx'.out.below hbo);replace hVy':=Zb (hVy'.out.below hbo);replace xf:=Zb (xf.out.below hbo);replace q607:=Zb (Zc hbo q607.out);replace yf:=Zb (yf.out.below hbo);replace q616:=Zb (Zc hbo q616.out);replace wwb:=Zb (Zc hbo wwb.out);replace wwf:=Zb (wwf.out.below hbo);have hB633:=Zb (hB631.out.trans (hbo.mono hB631.out.size));clear hB631;replace cc626:=Za hbo cc626;replace cc627:=Za hbo cc627;replace cc628:=Za hbo cc628;replace cc629:=Za hbo cc629;clear hbo;rw [one_four.2.2.1] at of;replace of:=Zb of;refine hK.out _ _ (fun _=>⟨cc626,cc627,cc628,cc629⟩) ?_;clear hK K
      try simp only [Act.put,putL_a,putL_z,putL_s,putG_a,putG_s,putG_z]
      refine Ze (i:=4) rfl (by kernel_rfl) (fun K hK=>?_);(try rw [if_pos (by kernel_rfl)]);go_simp;refine (Zgc wwn wwm on om wwA wwB oA oB wwk wwc wwj wwd ok oc oj od _ _ w632 wwf.out of.out true (decide_eq_true rfl)).mono ?_;rintro e w634 ⟨rfl,hbS⟩;replace hHb:=Zb (hHb.out.below hbS);replace hVx':=Zb (hVx'.out.below hbS);replace hVy':=Zb (hVy'.out.below hbS);replace xf:=Zb (xf.out.below hbS);replace q607:=Zb (Zc hbS q607.out);replace yf:=Zb (yf.out.below hbS);replace q616:=Zb (Zc hbS q616.out);replace wwb:=Zb (Zc hbS wwb.out);replace wwf:=Zb (wwf.out.below hbS);replace of:=Zb (of.out.below hbS);have hB635:=Zb (hB633.out.trans (hbS.mono hB633.out.size));clear hB633;replace cc626:=Za hbS cc626;replace cc627:=Za hbS cc627;replace cc628:=Za hbS cc628;replace cc629:=Za hbS cc629;clear hbS;refine hK.out _ _ (fun _=>⟨cc626,cc627,cc628,cc629⟩) ?_;clear hK K
      try simp only [Act.put,putL_a,putL_z,putL_s,putG_a,putG_s,putG_z]
      refine Zd (i:=5) (v:=?vt31) rfl (by kernel_rfl) (by kernel_rfl) (by kernel_rfl) (by kernel_rfl) (by kernel_rfl) (Or.inl ⟨by kernel_rfl,?hyt31⟩) ⟨cc626,cc627,cc628,cc629⟩ ?rt31
      case hyt31=>(intro W2 hSw;(try dsimp only at hSw);go_simp;try with_reducible rfl)
      try simp only [Act.put,putL_a,putL_z,putL_s,putG_a,putG_s,putG_z]
      refine Zd (i:=6) (v:=?vt32) rfl (by kernel_rfl) (by kernel_rfl) (by kernel_rfl) (by kernel_rfl) (by kernel_rfl) (Or.inl ⟨by kernel_rfl,?hyt32⟩) ⟨cc626,cc627,cc628,cc629⟩ ?rt32
      case hyt32=>(intro W2 hSw;(try dsimp only at hSw);go_simp;try with_reducible rfl)
      try simp only [Act.put,putL_a,putL_z,putL_s,putG_a,putG_s,putG_z]
      refine Zd (i:=7) (v:=?vt33) rfl (by kernel_rfl) (by kernel_rfl) (by kernel_rfl) (by kernel_rfl) (by kernel_rfl) (Or.inl ⟨by kernel_rfl,?hyt33⟩) ⟨cc626,cc627,cc628,cc629⟩ ?rt33
      case hyt33=>(intro W2 hSw;(try dsimp only at hSw);go_simp;try with_reducible rfl)
      try simp only [Act.put,putL_a,putL_z,putL_s,putG_a,putG_s,putG_z]
      refine Zd (i:=8) (v:=?vt34) rfl (by kernel_rfl) (by kernel_rfl) (by kernel_rfl) (by kernel_rfl) (by kernel_rfl) (Or.inl ⟨by kernel_rfl,?hyt34⟩) ⟨cc626,cc627,cc628,cc629⟩ ?rt34
      case hyt34=>(intro W2 hSw;(try dsimp only at hSw);go_simp;try with_reducible rfl)
      try simp only [Act.put,putL_a,putL_z,putL_s,putG_a,putG_s,putG_z]
      refine Zd (i:=9) (v:=undef) rfl (by kernel_rfl) (by kernel_rfl) (by kernel_rfl) (by kernel_rfl) (by kernel_rfl) (Or.inr ⟨by kernel_rfl,rfl⟩) ⟨cc626,cc627,cc628,cc629⟩ ?_
      try simp only [Act.put,putL_a,putL_z,putL_s,putG_a,putG_s,putG_z]
      refine Zd (i:=10) (v:=undef) rfl (by kernel_rfl) (by kernel_rfl) (by kernel_rfl) (by kernel_rfl) (by kernel_rfl) (Or.inr ⟨by kernel_rfl,rfl⟩) ⟨cc626,cc627,cc628,cc629⟩ ?_
      try simp only [Act.put,putL_a,putL_z,putL_s,putG_a,putG_s,putG_z]
      refine Zd (i:=11) (v:=?vt35) rfl (by kernel_rfl) (by kernel_rfl) (by kernel_rfl) (by kernel_rfl) (by kernel_rfl) (Or.inl ⟨by kernel_rfl,?hyt35⟩) ⟨cc626,cc627,cc628,cc629⟩ ?rt35
      case hyt35=>(intro W2 hSw;(try dsimp only at hSw);go_simp;try with_reducible rfl)
      try simp only [Act.put,putL_a,putL_z,putL_s,putG_a,putG_s,putG_z]
      refine Zd (i:=12) (v:=?vt36) rfl (by kernel_rfl) (by kernel_rfl) (by kernel_rfl) (by kernel_rfl) (by kernel_rfl) (Or.inl ⟨by kernel_rfl,?hyt36⟩) ⟨cc626,cc627,cc628,cc629⟩ ?rt36
      case hyt36=>(intro W2 hSw;(try dsimp only at hSw);go_simp;try with_reducible rfl)
      try simp only [Act.put,putL_a,putL_z,putL_s,putG_a,putG_s,putG_z]
      refine Zd (i:=13) (v:=?vt37) rfl (by kernel_rfl) (by kernel_rfl) (by kernel_rfl) (by kernel_rfl) (by kernel_rfl) (Or.inl ⟨by kernel_rfl,?hyt37⟩) ⟨cc626,cc627,cc628,cc629⟩ ?rt37
      case hyt37=>(intro W2 hSw;(try dsimp only at hSw);go_simp;try with_reducible rfl)
      try simp only [Act.put,putL_a,putL_z,putL_s,putG_a,putG_s,putG_z]
      refine Zd (i:=14) (v:=?vt38) rfl (by kernel_rfl) (by kernel_rfl) (by kernel_rfl) (by kernel_rfl) (by kernel_rfl) (Or.inl ⟨by kernel_rfl,?hyt38⟩) ⟨cc626,cc627,cc628,cc629⟩ ?rt38
      case hyt38=>(intro W2 hSw;(try dsimp only at hSw);go_simp;try with_reducible rfl)
      try simp only [Act.put,putL_a,putL_z,putL_s,putG_a,putG_s,putG_z]
      refine Zd (i:=15) (v:=?vt39) rfl (by kernel_rfl) (by kernel_rfl) (by kernel_rfl) (by kernel_rfl) (by kernel_rfl) (Or.inl ⟨by kernel_rfl,?hyt39⟩) ⟨cc626,cc627,cc628,cc629⟩ ?rt39
      case hyt39=>(intro W2 hSw;(try dsimp only at hSw);go_simp;try with_reducible rfl)
      try simp only [Act.put,putL_a,putL_z,putL_s,putG_a,putG_s,putG_z]
      refine Zd (i:=16) (v:=?vt40) rfl (by kernel_rfl) (by kernel_rfl) (by kernel_rfl) (by kernel_rfl) (by kernel_rfl) (Or.inl ⟨by kernel_rfl,?hyt40⟩) ⟨cc626,cc627,cc628,cc629⟩ ?rt40
      case hyt40=>(intro W2 hSw;(try dsimp only at hSw);go_simp;try with_reducible rfl)
      try simp only [Act.put,putL_a,putL_z,putL_s,putG_a,putG_s,putG_z]
      refine Zd (i:=17) (v:=?vt41) rfl (by kernel_rfl) (by kernel_rfl) (by kernel_rfl) (by kernel_rfl) (by kernel_rfl) (Or.inl ⟨by kernel_rfl,?hyt41⟩) ⟨cc626,cc627,cc628,cc629⟩ ?rt41
      case hyt41=>(intro W2 hSw;(try dsimp only at hSw);go_simp;try with_reducible rfl)
      try simp only [Act.put,putL_a,putL_z,putL_s,putG_a,putG_s,putG_z]
      refine Zd (i:=18) (v:=?vt42) rfl (by kernel_rfl) (by kernel_rfl) (by kernel_rfl) (by kernel_rfl) (by kernel_rfl) (Or.inl ⟨by kernel_rfl,?hyt42⟩) ⟨cc626,cc627,cc628,cc629⟩ ?rt42
      case hyt42=>(intro W2 hSw;(try dsimp only at hSw);go_simp;try with_reducible rfl)
      try simp only [Act.put,putL_a,putL_z,putL_s,putG_a,putG_s,putG_z]
      refine Zd (i:=19) (v:=?vt43) rfl (by kernel_rfl) (by kernel_rfl) (by kernel_rfl) (by kernel_rfl) (by kernel_rfl) (Or.inl ⟨by kernel_rfl,?hyt43⟩) ⟨cc626,cc627,cc628,cc629⟩ ?rt43
      case hyt43=>(intro W2 hSw;(try dsimp only at hSw);go_simp;try with_reducible rfl)
      try simp only [Act.put,putL_a,putL_z,putL_s,putG_a,putG_s,putG_z]
      refine Zd (i:=20) (v:=?vt44) rfl (by kernel_rfl) (by kernel_rfl) (by kernel_rfl) (by kernel_rfl) (by kernel_rfl) (Or.inl ⟨by kernel_rfl,?hyt44⟩) ⟨cc626,cc627,cc628,cc629⟩ ?rt44
      case hyt44=>(intro W2 hSw;(try dsimp only at hSw);go_simp;try with_reducible rfl)
      try simp only [Act.put,putL_a,putL_z,putL_s,putG_a,putG_s,putG_z]
      refine Zn (i:=21) (v:=?vt45) rfl (by kernel_rfl) (by kernel_rfl) (by kernel_rfl) (by kernel_rfl) (Or.inl ⟨by kernel_rfl,?hyt45⟩) (fun _=>⟨cc626,cc627,cc628,cc629⟩) ?rt45
      case hyt45=>(intro W2 _;go_simp;try with_reducible rfl)
      try simp only [Act.put,putL_a,putL_z,putL_s,putG_a,putG_s,putG_z]
      refine Zl (by kernel_rfl) ?_ _;refine OnlyNormal.normal ?_;clear cc626 cc627 cc628 cc629;go_wp2_with fail;go_ret;exact ⟨rfl,hB635.out⟩
open Go.ChangeShapes Go.WideShapes Go.Deep Go.RowKit
theorem Zqo {z : Int} (h : (Lit.int .u32 z).wf = true) : 0 <= z /\ z <= 4294967295:=by
 simp only [Lit.wf,Bool.and_eq_true,decide_eq_true_eq] at h;exact h
section
variable {H : Type} {enc : TypeId × Value -> H} {w : World} {base : Nat} {spare : Nat -> Bool} {held : Bool}
theorem Zq5 {fuel : Nat} {cs : List Value} {x : DataW H × List MemPlace} (h : DataW.trod enc Tryz.prog w base spare held fuel 25 cs = some x) : ∃ (A : Option Addr) (n c : Nat) (l : List Nat),cs = [.slice A n c] /\ Lim w A n c l:=by
 rcases open_ints Tryz.underlying25 Tryz.underlying154 (by kernel_rfl) h with ⟨rfl,_⟩ | ⟨a,len,cap,zs,rfl,_,hl,hm,hz,_,hcell,hwf⟩
 ·exact ⟨none,0,0,[],rfl,Lim.nil _ _ _ (Nat.zero_le _)⟩
 ·have hlz : len <= zs.length:=by rw [hz];split <;> omega
  refine ⟨some a,len,cap,(zs.take len).map Int.toNat,rfl,by simp;omega,hl,hm,fun v hv=>?_,fun hn=>?_⟩
  ·obtain ⟨z,hz1,rfl⟩:=List.mem_map.1 hv
   have:=Zqo (hwf z (List.mem_of_mem_take hz1));omega
  ·have h0:=hcell 0 (by omega)
   have hp:=Zga h0
   obtain ⟨b,o,s⟩ : ∃ b o,a = ⟨b,o,none⟩:=by
    obtain ⟨b,o,s⟩:=a;refine ⟨b,o,?_⟩;unfold Addr.add at hp
    split at hp <;> simp_all
   subst s;refine ⟨b,o,rfl,fun k hk=>?_⟩;have hc:=hcell k (by omega);rw [Zg] at hc;rw [hc]
   have hkz : k < zs.length:=by omega
   have hw:=Zqo (hwf zs[k] (List.getElem_mem hkz));rw [List.getElem?_map,List.getElem?_take,if_pos hk,List.getElem?_eq_getElem hkz,List.getD_eq_getElem?_getD,List.getElem?_eq_getElem hkz]
   simp [limb]
   omega
theorem Zjd {fuel : Nat} {cs : List Value} {x : DataW H × List MemPlace} (h : DataW.trod enc Tryz.prog w base spare held fuel 27 cs = some x) : ∃ (na : Bool) (A : Option Addr) (n c : Nat) (l : List Nat),cs = [.bool na,.slice A n c] /\ Lim w A n c l:=by
 obtain ⟨xs,n',_,_,hl,hxl,hfl⟩:=DataW.trod_struct Tryz.underlying27 h
 have c2 : Tryz.prog.cellsOf 27 = 2:=by kernel_rfl
 have c0 : Tryz.prog.cellsOf 4 = 1:=by kernel_rfl
 have c1 : Tryz.prog.cellsOf 25 = 1:=by kernel_rfl
 rw [c2] at hl
 obtain ⟨x,y,rfl⟩ : ∃ x y,cs = [x,y]:=by
  match cs,hl with
  | [x,y],_=>exact ⟨x,y,rfl⟩
 have f0:=hfl 0 _ rfl;have f1:=hfl 1 _ rfl;simp only [List.getElem_toArray,List.getElem_cons_zero,List.getElem_cons_succ] at f0 f1;rw [c0] at f0;rw [c1] at f1;have g0 : xs[0]? = some (xs[0]'(by rw [hxl];decide)):=List.getElem?_eq_getElem _;have g1 : xs[1]? = some (xs[1]'(by rw [hxl];decide)):=List.getElem?_eq_getElem _;rw [g0] at f0;rw [g1] at f1;obtain ⟨b,e0,_⟩:=DataW.trod_bool Tryz.underlying4 f0;obtain ⟨A,n,c,l,e1,hL⟩:=Zq5 f1
 simp at e0 e1
 subst e0 e1;exact ⟨b,A,n,c,l,rfl,hL⟩
theorem Zo2 {fuel : Nat} {cs : List Value} {x : DataW H × List MemPlace} (h : DataW.trod enc Tryz.prog w base spare held fuel 29 cs = some x) :
    ∃ (na nb : Bool) (A B : Option Addr) (n c m d : Nat) (la lb : List Nat),cs = [.bool na,.slice A n c,.bool nb,.slice B m d] /\ Lim w A n c la /\ Lim w B m d lb:=by
 obtain ⟨xs,n',_,_,hl,hxl,hfl⟩:=DataW.trod_struct Tryz.underlying29 h
 have c4 : Tryz.prog.cellsOf 29 = 4:=by kernel_rfl
 have c2 : Tryz.prog.cellsOf 27 = 2:=by kernel_rfl
 rw [c4] at hl
 obtain ⟨x,y,z,u,rfl⟩ : ∃ x y z u,cs = [x,y,z,u]:=by
  match cs,hl with
  | [x,y,z,u],_=>exact ⟨x,y,z,u,rfl⟩
 have f0:=hfl 0 _ rfl;have f1:=hfl 1 _ rfl;simp only [List.getElem_toArray,List.getElem_cons_zero,List.getElem_cons_succ] at f0 f1;rw [c2] at f0 f1;have g0 : xs[0]? = some (xs[0]'(by rw [hxl];decide)):=List.getElem?_eq_getElem _;have g1 : xs[1]? = some (xs[1]'(by rw [hxl];decide)):=List.getElem?_eq_getElem _;rw [g0] at f0;rw [g1] at f1;obtain ⟨na,A,n,c,la,e0,h0⟩:=Zjd f0;obtain ⟨nb,B,m,d,lb,e1,h1⟩:=Zjd f1
 simp at e0 e1
 obtain ⟨rfl,rfl⟩:=e0;obtain ⟨rfl,rfl⟩:=e1;exact ⟨na,nb,A,B,n,c,m,d,la,lb,rfl,h0,h1⟩
end
section
variable {H : Type} {enc : TypeId × Value -> H} {w : World} {base : Nat} {spare : Nat -> Bool} {held : Bool}
theorem Zoq {fuel : Nat} {cs : List Value} {x : DataW H × List MemPlace} (h : DataW.trod enc Tryz.prog w base spare held fuel 23 cs = some x) : ∃ (A : Option Addr) (n c : Nat) (es : List FX),cs = [.slice A n c] /\ FXL w A n c es:=by
 have c4 : Tryz.prog.cellsOf 29 = 4:=by kernel_rfl
 rcases open_slice Tryz.underlying23 h with ⟨hcs,_⟩ | ⟨a,n,c,m,f,D,Pl,hcs,_,hl,hm,hmm,_,hi⟩
 ·exact ⟨none,0,0,[],hcs,rfl,Nat.le_refl _,Nat.zero_le _,fun e he=>(by cases he),fun h=>absurd h (by omega)⟩
 ·have hlm : n <= m:=by rw [hmm];split <;> omega
  rw [c4] at hi
  obtain ⟨es,he1,he2⟩:=Zlr (fun i (e : FX)=>w.cell? (a.add (i * 4 + 0)) = some (.bool e.na) /\ w.cell? (a.add (i * 4 + 1)) = some (.slice e.A e.n e.c) /\ w.cell? (a.add (i * 4 + 2)) = some (.bool e.nb) /\ w.cell? (a.add (i * 4 + 3)) = some (.slice e.B e.m e.d) /\ e.in_ w) n (fun i hin=>by
   obtain ⟨cs',hc,ht⟩:=hi i (by omega);obtain ⟨na,nb,A,B,n1,c1,m1,d1,la,lb,rfl,h1,h2⟩:=Zo2 ht;obtain ⟨_,_,hat⟩:=World.cells?_some hc;have g0:=hat 0 (by simp);have g1:=hat 1 (by simp);have g2:=hat 2 (by simp);have g3:=hat 3 (by simp);rw [Go.Deep.add_add] at g0 g1 g2 g3
   exact ⟨⟨na,A,n1,c1,la,nb,B,m1,d1,lb⟩,by simpa using g0,by simpa using g1,by simpa using g2,by simpa using g3,h1,h2⟩)
  refine ⟨some a,n,c,es,hcs,he1,hl,hm,fun e he=>?_,fun hn=>?_⟩
  ·obtain ⟨k,hk,rfl⟩:=List.getElem_of_mem he
   exact (he2 k _ (List.getElem?_eq_getElem hk)).2.2.2.2
  ·obtain ⟨b,o,rfl⟩ : ∃ b o,a = ⟨b,o,none⟩:=by
     have h0:=he2 0 _ (List.getElem?_eq_getElem (by omega));have hp:=Zga h0.1;obtain ⟨b,o,s⟩:=a;refine ⟨b,o,?_⟩;unfold Addr.add at hp
     split at hp <;> simp_all
   refine ⟨b,o,rfl,fun k e hk=>?_⟩;have h0:=he2 k e hk;rw [Zg,Zg,Zg,Zg] at h0;exact ⟨h0.1,by rw [Nat.add_assoc];exact h0.2.1,by rw [Nat.add_assoc];exact h0.2.2.1,by rw [Nat.add_assoc];exact h0.2.2.2.1⟩
theorem Zrb {fuel : Nat} {cs : List Value} {x : DataW H × List MemPlace} (h : DataW.trod enc Tryz.prog w base spare held fuel 22 cs = some x) : ∃ (A : Option Addr) (n c : Nat) (rs : List RX),cs = [.slice A n c] /\ MXL w A n c rs:=by
 have c1 : Tryz.prog.cellsOf 23 = 1:=by kernel_rfl
 rcases open_slice Tryz.underlying22 h with ⟨hcs,_⟩ | ⟨a,n,c,m,f,D,Pl,hcs,_,hl,hm,hmm,_,hi⟩
 ·exact ⟨none,0,0,[],hcs,rfl,Nat.le_refl _,Nat.zero_le _,fun e he=>(by cases he),fun h=>absurd h (by omega)⟩
 ·have hlm : n <= m:=by rw [hmm];split <;> omega
  rw [c1] at hi
  obtain ⟨rs,he1,he2⟩:=Zlr (fun i (r : RX)=>w.cell? (a.add i) = some (.slice r.A r.n r.c) /\ FXL w r.A r.n r.c r.es) n (fun i hin=>by
   obtain ⟨cs',hc,ht⟩:=hi i (by omega);obtain ⟨A,n1,c1,es,rfl,h1⟩:=Zoq ht;obtain ⟨_,_,hat⟩:=World.cells?_some hc;have g0:=hat 0 (by simp);rw [Go.Deep.add_add] at g0
   exact ⟨⟨A,n1,c1,es⟩,by simpa using g0,h1⟩)
  refine ⟨some a,n,c,rs,hcs,he1,hl,hm,fun r hr=>?_,fun hn=>?_⟩
  ·obtain ⟨k,hk,rfl⟩:=List.getElem_of_mem hr
   exact (he2 k _ (List.getElem?_eq_getElem hk)).2
  ·obtain ⟨b,o,rfl⟩ : ∃ b o,a = ⟨b,o,none⟩:=by
     have h0:=he2 0 _ (List.getElem?_eq_getElem (by omega));have hp:=Zga h0.1;obtain ⟨b,o,s⟩:=a;refine ⟨b,o,?_⟩;unfold Addr.add at hp
     split at hp <;> simp_all
   refine ⟨b,o,rfl,fun k r hk=>?_⟩;have h0:=he2 k r hk;rw [Zg] at h0;exact h0.1
theorem Zua {r : Reach} {b0 : Nat} {v : Value} {d : DataW H} {p : List MemPlace} (hv : Value.okWide Tryz.prog w r b0 22 v) (h : DataW.Trod enc Tryz.prog w base spare held 22 v d p) :
    ∃ (A : Option Addr) (n c : Nat) (rs : List RX),v = .slice A n c /\ MXL w A n c rs:=by
 obtain ⟨A,n,c,rfl⟩:=okWide_slice Tryz.underlying22 hv;obtain ⟨fuel,hf⟩:=h;obtain ⟨A',n',c',rs,e,hM⟩:=Zrb hf
 simp [Value.cells] at e
 obtain ⟨rfl,rfl,rfl⟩:=e;exact ⟨_,_,_,rs,rfl,hM⟩
end
section
variable {H : Type} {enc : TypeId × Value -> H} {w : World} {base : Nat} {spare : Nat -> Bool} {held : Bool}
theorem Zsq {z : Int} (h : (Lit.int .i64 z).wf = true) : -9223372036854775808 <= z /\ z <= 9223372036854775807:=by
 simp only [Lit.wf,Bool.and_eq_true,decide_eq_true_eq] at h;exact h
end
section
variable {H : Type} {enc : TypeId × Value -> H} {w : World} {base : Nat} {spare : Nat -> Bool} {held : Bool}
theorem Zdh {fuel : Nat} {v : Value} {x : DataW H × List MemPlace} (h : DataW.trod enc Tryz.prog w base spare held fuel 62 [v] = some x) : ∃ z : Int,v = .int .i8 z /\ -128 <= z /\ z <= 127:=by
 obtain ⟨z,e,-,hw⟩:=DataW.trod_int Tryz.underlying62 h
 cases e
 simp only [Lit.wf,Bool.and_eq_true,decide_eq_true_eq] at hw;exact ⟨z,rfl,hw⟩
theorem Zsl {fuel : Nat} {cs : List Value} {x : DataW H × List MemPlace} (h : DataW.trod enc Tryz.prog w base spare held fuel 63 cs = some x) : ∃ b : Nat -> Int,cs = [.int .i8 (b 0),.int .i8 (b 1),.int .i8 (b 2),.int .i8 (b 3),.int .i8 (b 4),.int .i8 (b 5)] /\ ∀ i,-128 <= b i /\ b i <= 127:=by
 obtain ⟨xs,n',_,_,hl,hxl,hfl⟩:=DataW.trod_array Tryz.underlying63 h
 have c6 : Tryz.prog.cellsOf 63 = 6:=by kernel_rfl
 have c1 : Tryz.prog.cellsOf 62 = 1:=by kernel_rfl
 rw [c6] at hl
 obtain ⟨x0,x1,x2,x3,x4,x5,rfl⟩ : ∃ x0 x1 x2 x3 x4 x5,cs = [x0,x1,x2,x3,x4,x5]:=by
  match cs,hl with
  | [x0,x1,x2,x3,x4,x5],_=>exact ⟨x0,x1,x2,x3,x4,x5,rfl⟩
 have hx : ∀ k (hk : k < 6),xs[k]? = some (xs[k]'(by rw [hxl];exact hk)):=fun k hk=>List.getElem?_eq_getElem _
 have f0:=hfl 0 (by decide);have f1:=hfl 1 (by decide);have f2:=hfl 2 (by decide);have f3:=hfl 3 (by decide);have f4:=hfl 4 (by decide);have f5:=hfl 5 (by decide);rw [c1,hx 0 (by decide)] at f0;rw [c1,hx 1 (by decide)] at f1;rw [c1,hx 2 (by decide)] at f2;rw [c1,hx 3 (by decide)] at f3;rw [c1,hx 4 (by decide)] at f4;rw [c1,hx 5 (by decide)] at f5;obtain ⟨z0,rfl,h0⟩:=Zdh f0;obtain ⟨z1,rfl,h1⟩:=Zdh f1;obtain ⟨z2,rfl,h2⟩:=Zdh f2;obtain ⟨z3,rfl,h3⟩:=Zdh f3;obtain ⟨z4,rfl,h4⟩:=Zdh f4;obtain ⟨z5,rfl,h5⟩:=Zdh f5;refine ⟨fun i=>match i with | 0=>z0 | 1=>z1 | 2=>z2 | 3=>z3 | 4=>z4 | _=>z5,rfl,fun i=>?_⟩
 match i with
 | 0=>exact h0
 | 1=>exact h1
 | 2=>exact h2
 | 3=>exact h3
 | 4=>exact h4
 | i + 5=>exact h5
theorem Zss {r : Reach} {b0 : Nat} {v : Value} {d : DataW H} {p : List MemPlace} (hv : Value.okWide Tryz.prog w r b0 63 v) (h : DataW.Trod enc Tryz.prog w base spare held 63 v d p) :
    ∃ b : Nat -> Int,v = .agg #[.int .i8 (b 0),.int .i8 (b 1),.int .i8 (b 2),.int .i8 (b 3),.int .i8 (b 4),.int .i8 (b 5)] /\ ∀ i,-128 <= b i /\ b i <= 127:=by
 simp only [Value.okWide,Tryz.underlying63] at hv;obtain ⟨cs,rfl,-⟩:=hv;obtain ⟨fuel,hf⟩:=h;obtain ⟨b,e,hb⟩:=Zsl hf;refine ⟨b,?_,hb⟩
 congr 1
 apply Array.toList_inj.1
 exact e
end
end Go.Proofs.YtpehacgjclkhmaaGreat
