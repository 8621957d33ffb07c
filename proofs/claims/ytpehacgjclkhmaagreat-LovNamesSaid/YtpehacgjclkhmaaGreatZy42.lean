/- Package covar: over. Package covar: factor. Package frac: -/
import Derived.Deep.LoopGhost
import Derived.Test.YtpehacgjclkhmaaGreatZy41
import Derived.Test.YtpehacgjclkhmaaGreatZy40
set_option maxRecDepth 100000
set_option maxHeartbeats 16000000
set_option linter.unusedSimpArgs false
set_option linter.unusedVariables false
namespace Go.Proofs.YtpehacgjclkhmaaGreat
open Go.RowKit
attribute [local go_sem] Zg
theorem Zpx (na nb na' nb' : Bool) (A B A' B' : Option Addr) (n c m d n' c' m' d' : Nat) (a b : Rat) (w : World) (ha : Fr w na A n c nb B m d a) (hb : Fr w na' A' n' c' nb' B' m' d' b) (sa : Sm a) (sb : Sm b) (h0 : b ≠ 0) :
    Calls Tryz.prog 52 #[.agg #[.bool na,.slice A n c,.bool nb,.slice B m d],.agg #[.bool na',.slice A' n' c',.bool nb',.slice B' m' d']] w (Zfz w (a / b)):=by
 obtain ⟨W0,hW0,hB0,⟨q0,q1,q2⟩,s0⟩:=Zcp w 91 #[.bool na,.slice A n c,.bool nb,.slice B m d] 91 #[.bool na',.slice A' n' c',.bool nb',.slice B' m' d'] 91 #[.bool false,.slice none 0 0,.bool false,.slice none 0 0];obtain ⟨a0,a1,a2,a3,-⟩:=q0.four;obtain ⟨b0,b1,b2,b3,-⟩:=q1.four;obtain ⟨gR,hgR⟩ : ∃ g,w.heap.size + 1 + 1 = g:=⟨_,rfl⟩;rw [hgR] at q2;have hA:=ha.below hB0;have hD:=hb.below hB0;go_enter Tryz.func52,Tryz.ntmps52;go_wp2_with fail;(try rw [hW0]);refine (Zly na nb na' nb' A B A' B' n c m d n' c' m' d' a b W0 hA hD sa sb h0).mono ?_;rintro e w1 ⟨hb1,pn,pA,pk,pc,pm,pB,pj,pd,rfl,hf⟩;replace q2:=Zc hb1 q2;clear a0 a1 a2 a3 b0 b1 b2 b3 q0 q1 hA hD;go_wp2_with fail;refine (Zic pn pm pA pB pk pc pj pd _ w1 hf).mono ?_;rintro e w2 ⟨hb2,rn,rA,rk,rc,rm,rB,rj,rd,rfl,hr⟩;replace q2:=Zc hb2 q2;(try rw [hgR]);obtain ⟨c0,c1,c2,c3,z0,z1,z2,z3⟩:=q2.four;obtain ⟨W5,hW5,q5,hK5,s5⟩:=Zcg rn rA rk rc rm rB rj rd q2;clear hf;go_wp2_with fail;(try rw [hW5]);obtain ⟨r0,r1,r2,r3,-⟩:=q5.four;refine bodyPost_ret (v:=.agg #[.bool rn,.slice rA rk rc,.bool rm,.slice rB rj rd]) (by simp [results,Tryz.results52,go_sem,r0,r1,r2,r3]) rfl ?_;refine ⟨?_,_,_,_,_,_,_,_,_,rfl,hr.keptN hK5 q2 (Zcl _ _ _ _ _ _ _ _)⟩;have hB2:=hB0.trans ((hb1.trans (hb2.mono hb1.size)).mono hB0.size);exact hB2.trans (hK5.to_below (fun k e=>by omega) hB2.size)
theorem infoNum : (Tryz.prog.info? 91).map (fun i=>(i.zero,i.size,i.bytes)) = some (some (.agg #[.bool false,.slice none 0 0,.bool false,.slice none 0 0]),4,64):=by kernel_rfl
theorem Zra : (Tryz.prog.info? 84).map (fun i=>(i.zero,i.size,i.bytes)) = some (some (.slice none 0 0),1,24):=by kernel_rfl
theorem Zc1 {w : World} {t : TypeId} {g : Nat} {A : Option Addr} {n c : Nat} (h : Blk w g t #[.slice A n c]) : Reads w (g + 1) 1 (some ⟨g,0,none⟩) 1 (Z3 [⟨A,n,c⟩]):=
 ⟨rfl,fun _=>⟨_,rfl,Nat.lt_succ_self _,fun j u hu=>by
  rw [Zg,Nat.zero_add,h.cell]
  simpa [Z3] using hu⟩⟩
def Ze5 (A : Nat -> Nat -> Rat) (i k : Nat) : List Rat:=(List.range k).map (lQ A i)
def Zd5 (A : Nat -> Nat -> Rat) (i : Nat) : List (List Rat):=(List.range i).map fun r=>Ze5 A r r
def dsL (A : Nat -> Nat -> Rat) (i : Nat) : List Rat:=(List.range i).map (dQ A)
section
variable {A : Nat -> Nat -> Rat} {i j k : Nat}
theorem Zfk : (Ze5 A i k).length = k:=by simp [Ze5]
theorem Zbn : (Zd5 A i).length = i:=by simp [Zd5]
theorem Zcu : (dsL A i).length = i:=by simp [dsL]
theorem Znn (h : j < k) : (Ze5 A i k)[j]?.getD 0 = lQ A i j:=by simp [Ze5,h]
theorem Zqy (h : j < i) : (Zd5 A i)[j]?.getD [] = Ze5 A j j:=by simp [Zd5,h]
theorem Zl0 (h : j < i) : (dsL A i)[j]?.getD 0 = dQ A j:=by simp [dsL,h]
theorem Zo2 : Ze5 A i (k + 1) = Ze5 A i k ++ [lQ A i k]:=by simp [Ze5,List.range_succ]
theorem Zal : Zd5 A (i + 1) = Zd5 A i ++ [Ze5 A i i]:=by simp [Zd5,List.range_succ]
theorem Zdk : dsL A (i + 1) = dsL A i ++ [dQ A i]:=by simp [dsL,List.range_succ]
end
theorem cmpZ_pos0 {z : Int} : (0 < Zbp z 0) ↔ 0 < z:=by
 unfold Zbp
 split
 ·constructor <;> intro h <;> omega
 ·split
  ·constructor <;> intro h <;> omega
  ·constructor <;> intro h <;> omega
theorem num_pos0 {q : Rat} : 0 < q.num ↔ 0 < q:=by
 constructor
 ·intro h
  refine Rat.lt_of_le_of_ne (Rat.num_nonneg.1 (by omega)) (fun e=>?_);rw [<- e] at h;exact absurd h (by decide)
 ·intro h
  have h5:=Rat.num_nonneg.2 (Rat.le_of_lt h)
  rcases Int.lt_or_eq_of_le h5 with h6 | h6
  ·exact h6
  ·rw [Rat.num_eq_zero.1 h6.symm] at h
   exact absurd h (by decide)
def FacPost (A : Nat -> Nat -> Rat) (n : Nat) (w : World) (e : Ending) (w' : World) : Prop:=
 Below w.heap.size w w' /\ ((posP A n /\ ∃ v1 v2 rs,e = .returned (.agg #[v1,v2]) /\ FacM 84 91 w' w.heap.size v1 v2 rs (Zd5 A n) (dsL A n)) \/
  (¬ posP A n /\ e = .panicked [{ v:=.iface 133 (.agg #[.int .i64 8]),recovered:=false }]))
theorem FacM.lower {tS tN : TypeId} {w : World} {b b' : Nat} {v1 v2 : Value} {rs : List RS} {Q : List (List Rat)} {ds : List Rat} (h : FacM tS tN w b v1 v2 rs Q ds) (hb : b' <= b) : FacM tS tN w b' v1 v2 rs Q ds:=by
 refine ⟨⟨?_,h.1.2.1,fun i r hr=>(h.1.2.2.1 i r hr).lower hb,h.1.2.2.2⟩,h.2.1.lower hb,h.2.2⟩
 rcases h.1.1 with h | ⟨g,sp,h1,h2,h3⟩
 ·exact .inl h
 ·exact .inr ⟨g,sp,h1,Nat.le_trans hb h2,h3⟩
theorem Zis {A : Nat -> Nat -> Rat} {n i k j : Nat} (h : FacP A n) (hi : i < n) (hk : k < i) (hj : j < k) (hp : posP A i) : (∀ t,t < 2 -> Sm (Zgp (lQ A i j) [lQ A k j,dQ A j] t)) /\ ∀ t : Nat,t < 2 -> Sm ([lQ A k j,dQ A j][t]?.getD 0):=by
 have hp1 : posP A (j + 1):=hp.mono (by omega)
 constructor
 ·intro t ht
  match t,ht with
  | 0,_=>exact (h.l i j (by omega) hi hp1).sm (by decide) (by decide)
  | 1,_=>exact (h.ll (by omega) hi (by omega) (show k < n by omega) hp1).sm (by decide) (by decide)
 ·intro t ht
  match t,ht with
  | 0,_=>exact (h.l k j (by omega) (by omega) hp1).sm (by decide) (by decide)
  | 1,_=>exact (h.d (show j < n by omega) (hp.mono (by omega))).sm (by decide) (by decide)
theorem Zhf {A : Nat -> Nat -> Rat} {n i k : Nat} (h : FacP A n) (hi : i < n) (hk : k < i) (hp : posP A i) : (∀ t,t < 2 -> Sm (Zgp (lQ A i k) [lQ A i k,dQ A k] t)) /\ ∀ t : Nat,t < 2 -> Sm ([lQ A i k,dQ A k][t]?.getD 0):=by
 have hp1 : posP A (k + 1):=hp.mono (by omega)
 constructor
 ·intro t ht
  match t,ht with
  | 0,_=>exact (h.l i k (by omega) hi hp1).sm (by decide) (by decide)
  | 1,_=>exact (h.ll (by omega) hi (by omega) hi hp1).sm (by decide) (by decide)
 ·intro t ht
  match t,ht with
  | 0,_=>exact (h.l i k (by omega) hi hp1).sm (by decide) (by decide)
  | 1,_=>exact (h.d (show k < n by omega) (hp.mono (by omega))).sm (by decide) (by decide)
theorem Zpl {A : Nat -> Nat -> Rat} {n i k j : Nat} (h : FacP A n) (hi : i < n) (hk : k < i) (hj : j < k) (hp : posP A i) : Sm (Zaf A j i k) /\ Sm (Zgp (lQ A i j) [lQ A k j,dQ A j] 2):=
 ⟨(h.s j i k (by omega) (hp.mono (by omega)) hi (by omega)).sm (by decide) (by decide),(h.lld (by omega) hi (by omega) (show k < n by omega) (hp.mono (by omega))).sm (by decide) (by decide)⟩
theorem Zn1 {A : Nat -> Nat -> Rat} {n i k : Nat} (h : FacP A n) (hi : i < n) (hk : k < i) (hp : posP A i) : Sm (Zaf A k i i) /\ Sm (Zgp (lQ A i k) [lQ A i k,dQ A k] 2):=
 ⟨(h.s k i i (by omega) (hp.mono (by omega)) hi hi).sm (by decide) (by decide),(h.lld (by omega) hi (by omega) hi (hp.mono (by omega))).sm (by decide) (by decide)⟩
theorem fac_q {A : Nat -> Nat -> Rat} {n i k : Nat} (h : FacP A n) (hi : i < n) (hk : k < i) (hp : posP A i) : Sm (Zaf A k i k) /\ Sm (dQ A k) /\ dQ A k ≠ 0:=
 ⟨(h.s k i k (by omega) (hp.mono (by omega)) hi (by omega)).sm (by decide) (by decide),(h.d (show k < n by omega) (hp.mono (by omega))).sm (by decide) (by decide),hp.ne hk⟩
theorem Zm3 (A0 : Option Addr) (n c : Nat) (Q : List (List Rat)) (w : World) (h : MFL w A0 n c Q) (hn9 : n <= 900) (hm : ∀ i,i < n -> (Q[i]?.getD []).length = n) (hF : FacP (Zm Q) n) :
    Calls Tryz.prog 89 #[.slice A0 n c] w (FacPost (Zm Q) n w):=by
 obtain ⟨iN,hi,hz0,hz1,hz2⟩:=info_parts infoNum;obtain ⟨iS,ki,kz0,kz1,kz2⟩:=info_parts Zra
 have hmx : Tryz.prog.follows .mixedOrders = true:=by kernel_rfl
 have hts : (84 : TypeId) ≠ 91:=by decide
 have hcap:=h.2.1;have hcm:=h.2.2.1;unfold maxLen at hcm;obtain ⟨AQ,hAQ⟩ : ∃ A,Zm Q = A:=⟨_,rfl⟩;rw [hAQ] at hF ⊢;obtain ⟨W0,hW0,hB0,q0,s0⟩:=Zb3 w 86 #[.slice none 0 0,.slice none 0 0];obtain ⟨gx,hgx⟩ : ∃ g,w.heap.size = g:=⟨_,rfl⟩;rw [hgx] at q0 s0 hB0;have hsz : Hid (W0.heap.size = gx + 1):=Za s0;have hH:=Za h;replace hm:=Za hm;replace hF:=Za hF;replace hAQ:=Za hAQ;clear h s0;go_enter Tryz.func89,Tryz.ntmps89;go_wp2_with fail;(try rw [hW0]);(try rw [hgx]);replace hgx:=Za hgx;replace hB0:=Za hB0;clear hW0
 go_loopg [12] n (fun t iv wr=>∃ (i : Nat) (v1 v2 : Value) (rs : List RS),i + t = n /\ iv = .int .i64 i /\ Blk wr gx 86 #[v1,v2] /\ FacM 84 91 wr W0.heap.size v1 v2 rs (Zd5 AQ i) (dsL AQ i) /\ Hid (posP AQ i) /\ Kept (fun k=>k = gx) W0 wr)
 case atStart=>exact ⟨0,.slice none 0 0,.slice none 0 0,[],by omega,rfl,q0,FacM.nil _ _ _ _,Za (fun t ht=>by omega),Kept.refl _ _⟩
 case round =>
  clear q0;obtain ⟨wi,rfl⟩ : ∃ x : World,x = wr:=⟨_,rfl⟩;obtain ⟨i,v1,v2,rs,hik,rfl,hbx,hFM,hpos,hK⟩:=hrel;have hsz':=hsz.out;have hBwr : Hid (Below gx w wi):=Za (hB0.out.trans (hK.to_below (fun k hk=>by omega) (by omega)));obtain ⟨A1,c1,e1,hM1⟩:=hFM.1.mflA;obtain ⟨A2,c2,e2,hL2⟩:=hFM.2.1.fl;rw [Zbn] at e1 hM1;rw [Zcu] at e2 hL2;subst e1;subst e2
  have x0 : wi.cell? ⟨gx,0,none⟩ = some (.slice A1 i c1):=by rw [hbx.cell];rfl
  have x1 : wi.cell? ⟨gx,1,none⟩ = some (.slice A2 i c2):=by rw [hbx.cell];rfl
  have z0:=hbx.frozen 0;have z1:=hbx.frozen 1
  cases gk with
  | zero =>
   obtain rfl : i = n:=by omega
   have t1 : decide ((i : Int) < (i : Int)) = false:=by simp
   obtain ⟨X,hX⟩ : ∃ X,(wi.setCell ⟨gx,0,none⟩ (.slice A1 i c1)).setCell ⟨gx,1,none⟩ (.slice A2 i c2) = X:=⟨_,rfl⟩
   have hKX : Kept (fun k=>k = gx) wi X:=by rw [<- hX];exact Kept.set_ (G:=fun k=>k = gx) (Kept.set_ (G:=fun k=>k = gx) (Kept.refl _ _) (p:=⟨gx,0,none⟩) (.inl rfl) _) (p:=⟨gx,1,none⟩) (.inl rfl) _
   have hbX : Blk X gx 86 #[.slice A1 i c1,.slice A2 i c2]:=by rw [<- hX];exact (hbx.set_ 0 (.slice A1 i c1)).set_ 1 (.slice A2 i c2)
   have y0 : X.cell? ⟨gx,0,none⟩ = some (.slice A1 i c1):=by rw [hbX.cell];rfl
   have y1 : X.cell? ⟨gx,1,none⟩ = some (.slice A2 i c2):=by rw [hbX.cell];rfl
   have hFX:=Za (hFM.box hbx (Zb6 _ _ _ _ _ _) (by omega) hKX);have hBX : Hid (Below gx w X):=Za (hBwr.out.trans (hKX.to_below (fun k hk=>by omega) (by have:=hBwr.out.size;have:=hK.size;omega)));clear hFM hM1 hL2 hK hKX hbX hbx;go_wp2_with fail;(try rw [hX]);refine bodyPost_ret (v:=.agg #[.slice A1 i c1,.slice A2 i c2]) (by simp [results,Tryz.results89,go_sem,y0,y1]) rfl ?_;refine ⟨by rw [hgx.out];exact hBX.out,.inl ⟨hpos.out,_,_,rs,rfl,hFX.out.lower (by rw [hgx.out];omega)⟩⟩
  | succ t =>
   obtain rfl : t = n - (i + 1):=by omega
   have hin : i < n:=by omega
   have t1 : decide ((i : Int) < (n : Int)) = true:=decide_eq_true (by omega)
   have bi : (i : Int) < (n : Int):=by omega
   obtain ⟨ga,oa,Ar,nr,cr,rfl,k0,hR⟩:=(hH.out.below (hgx.out ▸ hBwr.out)).at_ hin;obtain ⟨row,hrow⟩ : ∃ X,Q[i]?.getD [] = X:=⟨_,rfl⟩;rw [hrow] at hR
   have hn1 : n = nr:=by rw [<- hR.len,<- hrow];exact (hm.out i hin).symm
   subst hn1;have hent : Hid (∀ t : Nat,row[t]?.getD 0 = AQ i t):=Za (fun t=>by rw [<- hAQ.out,<- hrow];rfl);replace hrow:=Za hrow;obtain ⟨gr,or_,xn,xA,xk,xc,xm,xB,xj,xd,rfl,⟨r0,r1,r2,r3⟩,hX⟩:=hR.at_ hin;rw [hent.out] at hX;obtain ⟨V1,hV1,hBV1,p1,s1⟩:=Zb3 wi 91 #[.bool false,.slice none 0 0,.bool false,.slice none 0 0];obtain ⟨gl,hgl⟩ : ∃ g,wi.heap.size = g:=⟨_,rfl⟩;rw [hgl] at p1 s1;obtain ⟨u0,u1,u2,u3,v0,v1,v2,v3⟩:=p1.four;obtain ⟨W2,hW2,p2,hK2,s2⟩:=Zcg xn xA xk xc xm xB xj xd p1;have hB2 : Below wi.heap.size wi W2:=hBV1.trans (hK2.to_below (fun k e=>by omega) hBV1.size);have hs2 : Hid (W2.heap.size = gl + 1):=Za (by rw [s2,s1]);have hX2:=Za (hX.below hB2);have hgxl : Hid (gx < gl):=Za (by have:=hBwr.out.size;have:=hK.size;omega);replace hB2:=Za hB2;replace hFM:=Za hFM;replace hM1:=Za hM1;replace hL2:=Za hL2;replace hR:=Za hR;replace hbx:=Za hbx;replace hK:=Za hK;replace p2:=Za p2;clear hX hBV1 hK2 s1 s2;go_wp2_with fail;(try rw [hgl]);(try rw [hW2]);clear u0 u1 u2 u3 v0 v1 v2 v3 p1 hV1 hW2 r0 r1 r2 r3 k0;replace hgl:=Za hgl
   go_loopg [5,23] i (fun t ov kv wk=>∃ (k : Nat) (ln : Bool) (lA : Option Addr) (lk lc : Nat) (lm : Bool) (lB : Option Addr) (lj ld : Nat),k + t = i /\ kv = .int .i64 k /\ OwnF 91 wk W2.heap.size ov (Ze5 AQ i k) /\ Blk wk gl 91 #[.bool ln,.slice lA lk lc,.bool lm,.slice lB lj ld] /\ Hid (Fr wk ln lA lk lc lm lB lj ld (Zaf AQ k i i)) /\ Kept (fun g=>g = gl) W2 wk)
   case atStart=>exact ⟨0,_,_,_,_,_,_,_,_,by omega,rfl,OwnF.nil _ _ _,p2.out,hX2,Kept.refl _ _⟩
   case round =>
    clear p2 hX2;obtain ⟨wk,rfl⟩ : ∃ x : World,x = wr:=⟨_,rfl⟩;obtain ⟨k,ln,lA,lk,lc,lm,lB,lj,ld,hkt,rfl,hown,hbl,hl,hK3⟩:=hrel;have hs2':=hs2.out;have hgl':=hgl.out;have hgxl':=hgxl.out;have hBk : Hid (Below wi.heap.size wi wk):=Za (hB2.out.trans (hK3.to_below (fun k e=>by omega) (by omega)));obtain ⟨Ao,co,e3,hFo⟩:=hown.fl;rw [Zfk] at e3 hFo;subst e3;have hocap:=hFo.cap;unfold maxLen at hocap;have hbxk:=Zc hBk.out hbx.out
    have xk0 : wk.cell? ⟨gx,0,none⟩ = some (.slice A1 i c1):=by rw [hbxk.cell];rfl
    have xk1 : wk.cell? ⟨gx,1,none⟩ = some (.slice A2 i c2):=by rw [hbxk.cell];rfl
    have zk0:=hbxk.frozen 0;have zk1:=hbxk.frozen 1;clear x0 x1 z0 z1;obtain ⟨l0,l1,l2,l3,m0,m1,m2,m3⟩:=hbl.four
    cases gk with
    | zero =>
     obtain rfl : k = i:=by omega
     have t2 : decide ((k : Int) < (k : Int)) = false:=by simp
     have hd0 : Hid (Zaf AQ k k k = dQ AQ k):=Za rfl
     by_cases hp : 0 < dQ AQ k
     case neg =>
      have hn0 : Hid (¬ posP AQ n):=Za (fun hp9=>hp (hp9 k hin));have t4 : decide ((0 : Int) < Zbp (Zaf AQ k k k).num 0) = false:=decide_eq_false (fun h=>hp (by rw [<- hd0.out];exact num_pos0.1 (cmpZ_pos0.1 h)));replace hp:=Za hp;replace hFo:=Za hFo;replace hown:=Za hown;replace hK3:=Za hK3;replace hbl:=Za hbl;clear hbxk;go_wp2_with fail;refine (Zlv ln lA lk lc lm lB lj ld _ wk hl.out).mono ?_;rintro e w5 ⟨rfl,hb5⟩;go_wp2_with fail;refine (Zb2 8 w5).mono ?_;rintro e w6 ⟨rfl,rfl⟩;go_wp2_with fail;refine ⟨rfl,?_,.inr ⟨hn0.out,rfl⟩⟩;have h1:=hBwr.out.trans ((hBk.out.trans (hb5.mono hBk.out.size)).mono (by omega));rw [hgx.out];exact h1
     have hpos2 : Hid (posP AQ (k + 1)):=Za (fun t ht=>by
      rcases Nat.lt_or_ge t k with h1 | h1
      ·exact hpos.out t h1
      ·rw [show t = k by omega];exact hp)
     have t4 : decide ((0 : Int) < Zbp (Zaf AQ k k k).num 0) = true:=decide_eq_true (cmpZ_pos0.2 (num_pos0.2 (by rw [hd0.out];exact hp)));replace hp:=Za hp;replace hFo:=Za hFo;replace hown:=Za hown;replace hK3:=Za hK3;replace hbl:=Za hbl;clear hbxk;go_wp2_with fail;refine (Zlv ln lA lk lc lm lB lj ld _ wk hl.out).mono ?_;rintro e w5 ⟨rfl,hb5⟩;go_wp2_with fail;refine (Zcn 8 w5).mono ?_;rintro e w6 ⟨rfl,rfl⟩;have hBi5 : Below wi.heap.size wi w6:=hBk.out.trans (hb5.mono hBk.out.size);have hE0 : EnvF 84 91 86 w6 W0.heap.size W2.heap.size gl gx (.slice A1 k c1) (.slice A2 k c2) (.slice A1 k c1) (.slice A2 k c2) (.slice Ao k co) rs (Zd5 AQ k) (dsL AQ k) (Ze5 AQ k k) ln lA lk lc lm lB lj ld (dQ AQ k):=⟨hFM.out.kept hBi5,hown.out.kept hb5,Zc hb5 hbl.out,hl.out.below hb5,Zc hBi5 hbx.out⟩;have hK9 : Hid (Kept (fun k=>k = gx) W0 w6):=Za (hK.out.below hBi5)
     have hgxb : gx < W0.heap.size:=by omega
     have hW2g : Hid (gl < W2.heap.size):=Za (by omega);have hv2g : Hid (∀ k',(Value.slice A2 k c2).ownBlock = some k' -> k' < gl):=Za (fun k' e=>by have:=hFM.out.2.1.blt k' e;omega);have hrsg : Hid (∀ s ∈ rs,∀ k',s.val.ownBlock = some k' -> k' < W2.heap.size):=Za (fun s hs k' e=>by have:=hFM.out.rlt s hs k' e;omega)
     have hrl : (rs).length = k:=by rw [hFM.out.1.2.1,Zbn]
     have hlen1 : rs.length + 1 <= 1000:=by omega
     have hlen2 : (dsL AQ k).length + 1 <= 1000:=by rw [Zcu];omega
     obtain ⟨xk0',xk1'⟩:=hE0.cells;replace hE0:=Za hE0;clear hb5 hBi5 xk0 xk1 zk0 zk1 l0 l1 l2 l3 m0 m1 m2 m3;go_wp2_with fail;obtain ⟨X0,hX0⟩ : ∃ X,w6.drew = X:=⟨_,rfl⟩
     have hBX0 : Below w6.heap.size w6 X0:=by rw [<- hX0];exact Zi (Below.refl _ _) 1
     have hE:=hE0.out.below hBX0;have mKX : Kept (fun k=>k = gx) W0 X0:=hK9.out.below hBX0
     have hS0 : w6.drew.cell? ⟨gx,0,none⟩ = some (.slice A1 k c1) /\ w6.drew.cell? ⟨gx,1,none⟩ = some (.slice A2 k c2):=by rw [hX0];exact hE.cells
     refine Zaa [11,13] (fun wx=>wx.cell? ⟨gx,0,none⟩ = some (.slice A1 k c1) /\ wx.cell? ⟨gx,1,none⟩ = some (.slice A2 k c2)) hmx hS0 (fun hxs9=>?_);refine Zrd 5 [0,1,2,5,6] rfl (by kernel_rfl) hS0 ?_
     iterate 5 (refine tk1 (v:=?_) rfl (Or.inl ⟨by kernel_rfl,?_⟩) ?_;rotate_left;(· intro W2 hSw;(try dsimp only at hSw);go_simp;try with_reducible rfl);try simp only [Act.put,putL_a,putL_z,putL_s,putG_a,putG_s,putG_z])
     refine tk0 ?_;rw [hX0];clear hS0 hxs9 hBX0 hX0;have hbb : Hid (W0.heap.size <= W2.heap.size):=Za (by omega);refine Zco (i:=3) (j:=7) rfl rfl (by kernel_rfl) (fun K hK=>?_) (fun K hK=>?_)
     ·obtain ⟨Y1,hY1⟩ : ∃ Y,X0.alloc (.cells #[.slice Ao k co] 84) = Y:=⟨_,rfl⟩
      obtain ⟨ga2,hga2⟩ : ∃ g,X0.heap.size = g:=⟨_,rfl⟩
      have hBY1 : Below X0.heap.size X0 Y1:=by rw [<- hY1];exact (Below.refl _ _).alloc (Nat.le_refl _) _
      have hbl3 : Blk Y1 ga2 84 #[.slice Ao k co]:=by rw [<- hY1,<- hga2];exact Blk.new _ _ _
      have hEY1:=hE.below hBY1;have mKY1:=mKX.below hBY1;go_simp;(try rw [hY1]);(try rw [hga2]);refine hK.out _ _ (fun _=>hEY1.cells) ?_;clear hK K hY1 hga2
      try simp only [Act.put,putL_a,putL_z,putL_s]
      refine Zco (i:=4) (j:=7) rfl rfl (by kernel_rfl) (fun K hK=>?_) (fun K hK=>?_)
      ·rw [if_pos (by rfl)]
       refine Za7 _ (.tmp 90) (.tmp 92) 83 rfl W0.heap.size 84 iS Tryz.underlying83 ki kz0 kz1 kz2 (.slice A1 k c1) rs rfl hEY1.1.1.1 _ (some ⟨ga2,0,none⟩) 1 1 [⟨Ao,k,co⟩] rfl (Zc1 hbl3) rfl hlen1 mKY1.size ?_;intro vY4 Y4 hRY4 hgY4 hkY4;have hEY4:=hEY1.app hts (r:=⟨Ao,k,co⟩) rfl hbb.out hrsg.out (fun k' e=>Nat.lt_trans (hv2g.out k' e) hW2g.out) hgxb hRY4 hgY4 hkY4;have mKY4:=Kept.grownC mKY1 hgY4 (fun k' hk=>hEY1.1.1.1.row_ge k' hk);refine hK.out _ _ (fun _=>hEY4.cells) ?_;clear hK K
       try simp only [Act.put,putL_a,putL_z,putL_s]
       refine Zrc 1 [10] rfl (by kernel_rfl) hEY4.cells ?_
       (refine tk1 (v:=?_) rfl (Or.inl ⟨by kernel_rfl,?_⟩) ?_;rotate_left;(· intro W2 _;go_simp;try with_reducible rfl);try simp only [Act.put,putL_a,putL_z,putL_s,putG_a,putG_s,putG_z])
       refine tk0 ?_;refine Ze (i:=7) rfl (by kernel_rfl) (fun K hK=>?_);obtain ⟨r5a,r5b,r5c,r5d⟩:=hEY4.left;go_simp;refine hK.out _ _ (fun _=>hEY4.cells) ?_;clear hK K r5a r5b r5c r5d
       try simp only [Act.put,putL_a,putL_z,putL_s]
       refine Ze (i:=8) rfl (by kernel_rfl) (fun K hK=>?_);obtain ⟨Y6,hY6⟩ : ∃ Y,Y4.alloc (.cells #[.bool ln,.slice lA lk lc,.bool lm,.slice lB lj ld] 91) = Y:=⟨_,rfl⟩;obtain ⟨ga7,hga7⟩ : ∃ g,Y4.heap.size = g:=⟨_,rfl⟩
       have hBY6 : Below Y4.heap.size Y4 Y6:=by rw [<- hY6];exact (Below.refl _ _).alloc (Nat.le_refl _) _
       have hbl8 : Blk Y6 ga7 91 #[.bool ln,.slice lA lk lc,.bool lm,.slice lB lj ld]:=by rw [<- hY6,<- hga7];exact Blk.new _ _ _
       have hEY6:=hEY4.below hBY6;have mKY6:=mKY4.below hBY6;go_simp;(try rw [hY6]);(try rw [hga7]);refine hK.out _ _ (fun _=>hEY6.cells) ?_;clear hK K hY6 hga7
       try simp only [Act.put,putL_a,putL_z,putL_s]
       refine Ze (i:=9) rfl (by kernel_rfl) (fun K hK=>?_);rw [if_pos (by rfl)];refine Zam _ (.tmp 95) (.tmp 97) 84 rfl W0.heap.size 91 iN Tryz.underlying84 hi hz0 hz1 hz2 (.slice A2 k c2) _ rfl hEY6.1.2.1 _ (some ⟨ga7,0,none⟩) 1 1 [⟨ln,lA,lk,lc,lm,lB,lj,ld,dQ AQ k⟩] rfl (Zan _ hbl8) rfl (by intro e he;rw [List.mem_singleton] at he;subst he;exact hEY6.2.2.1) hlen2 mKY6.size ?_;intro vY9 Y9 hPY9 hgY9 hkY9 hwY9;obtain ⟨f1,f3⟩:=hEY6.app hts hgxb hPY9 hgY9 hkY9 hwY9;have mKY9:=Kept.grownC mKY6 hgY9 (fun k' hk=>hEY6.1.2.1.row_ge k' hk);refine hK.out _ _ (fun _=>⟨by rw [f3.cell];rfl,by rw [f3.cell];rfl⟩) ?_;clear hK K
       try simp only [Act.put,putL_a,putL_z,putL_s]
       obtain ⟨a7,a9,e7,-⟩:=f1.1.mflA;obtain ⟨b1,b3,e8,-⟩:=f1.2.1.fl;rw [<- Zal,Zbn] at e7;subst e7
       obtain rfl : vY9 = .slice b1 (k + 1) b3:=by rw [e8];congr 1;simp [Zcu]
       clear e8;have f6 : Kept (fun k=>k = gx) Y9 ((Y9.setCell ⟨gx,0,none⟩ (.slice a7 (k + 1) a9)).setCell ⟨gx,1,none⟩ (.slice b1 (k + 1) b3)):=Kept.set_ (G:=fun k=>k = gx) (Kept.set_ (G:=fun k=>k = gx) (Kept.refl _ _) (p:=⟨gx,0,none⟩) (.inl rfl) _) (p:=⟨gx,1,none⟩) (.inl rfl) _;have f5 : Blk (Y9.setCell ⟨gx,0,none⟩ (.slice a7 (k + 1) a9)) gx 86 #[.slice a7 (k + 1) a9,.slice A2 k c2]:=f3.set_ 0 _;have f7 : Blk ((Y9.setCell ⟨gx,0,none⟩ (.slice a7 (k + 1) a9)).setCell ⟨gx,1,none⟩ (.slice b1 (k + 1) b3)) gx 86 #[.slice a7 (k + 1) a9,.slice b1 (k + 1) b3]:=f5.set_ 1 _;have f8:=f1.box f3 (Zb6 _ _ _ _ _ _) hgxb f6
       have u0 : Y9.cell? ⟨gx,0,none⟩ = some (.slice A1 k c1):=by rw [f3.cell];rfl
       have uz0:=f3.frozen 0
       have u1 : (Y9.setCell ⟨gx,0,none⟩ (.slice a7 (k + 1) a9)).cell? ⟨gx,1,none⟩ = some (.slice A2 k c2):=by rw [f5.cell];rfl
       have uz1:=f5.frozen 1;have mKZ:=mKY9.trans f6;obtain ⟨Z9,hZ9⟩ : ∃ Z,((Y9.setCell ⟨gx,0,none⟩ (.slice a7 (k + 1) a9)).setCell ⟨gx,1,none⟩ (.slice b1 (k + 1) b3)) = Z:=⟨_,rfl⟩;rw [hZ9] at f7 f8 mKZ;replace f7:=Za f7;replace f8:=Za f8;replace mKZ:=Za mKZ;clear f1 f3 f6;refine Zt (i:=11) rfl (by kernel_rfl) (by kernel_rfl) (fun K hK=>?_);go_simp;refine hK.out _ _ ?_;clear hK K
       try simp only [Act.put,putL_a,putL_z,putL_s]
       refine Zx (i:=12) (v:=?v47) rfl (by kernel_rfl) (by kernel_rfl) (by kernel_rfl) (by kernel_rfl) (Or.inl ⟨by kernel_rfl,?hy47⟩) (fun hno=>absurd hno (by decide)) ?rest47
       case hy47=>(intro W2 _;go_simp;try with_reducible rfl)
       try simp only [Act.put,putL_a,putL_z,putL_s,putG_a,putG_s,putG_z]
       refine Zt (i:=13) rfl (by kernel_rfl) (by kernel_rfl) (fun K hK=>?_);go_simp;(try rw [hZ9]);refine hK.out _ _ ?_;clear hK K
       try simp only [Act.put,putL_a,putL_z,putL_s]
       refine Zl (by kernel_rfl) ?_ _;refine OnlyNormal.normal ?_;clear hZ9 u0 uz0 u1 uz1 f5;go_wp2_with fail
       go_roundg (n - (k + 1))
       case measure=>omega
       case rel=>exact ⟨k + 1,_,_,rs ++ [⟨Ao,k,co⟩],by omega,by go_num,f7.out,by rw [Zal,Zdk];exact f8.out,hpos2,mKZ.out⟩
      ·obtain ⟨r10a,r10b,r10c,r10d⟩:=hEY1.left
       go_simp;refine hK.out _ _ (fun _=>hEY1.cells) ?_;clear hK K r10a r10b r10c r10d
       try simp only [Act.put,putL_a,putL_z,putL_s]
       refine Zco (i:=4) (j:=8) rfl rfl (by kernel_rfl) (fun K hK=>?_) (fun K hK=>?_)
       ·rw [if_pos (by rfl)]
        refine Za7 _ (.tmp 90) (.tmp 92) 83 rfl W0.heap.size 84 iS Tryz.underlying83 ki kz0 kz1 kz2 (.slice A1 k c1) rs rfl hEY1.1.1.1 _ (some ⟨ga2,0,none⟩) 1 1 [⟨Ao,k,co⟩] rfl (Zc1 hbl3) rfl hlen1 mKY1.size ?_;intro vY11 Y11 hRY11 hgY11 hkY11;have hEY11:=hEY1.app hts (r:=⟨Ao,k,co⟩) rfl hbb.out hrsg.out (fun k' e=>Nat.lt_trans (hv2g.out k' e) hW2g.out) hgxb hRY11 hgY11 hkY11;have mKY11:=Kept.grownC mKY1 hgY11 (fun k' hk=>hEY1.1.1.1.row_ge k' hk);refine hK.out _ _ (fun _=>hEY11.cells) ?_;clear hK K
        try simp only [Act.put,putL_a,putL_z,putL_s]
        refine Zrc 1 [10] rfl (by kernel_rfl) hEY11.cells ?_
        (refine tk1 (v:=?_) rfl (Or.inl ⟨by kernel_rfl,?_⟩) ?_;rotate_left;(· intro W2 _;go_simp;try with_reducible rfl);try simp only [Act.put,putL_a,putL_z,putL_s,putG_a,putG_s,putG_z])
        refine tk0 ?_;refine Ze (i:=8) rfl (by kernel_rfl) (fun K hK=>?_);obtain ⟨Y12,hY12⟩ : ∃ Y,Y11.alloc (.cells #[.bool ln,.slice lA lk lc,.bool lm,.slice lB lj ld] 91) = Y:=⟨_,rfl⟩;obtain ⟨ga13,hga13⟩ : ∃ g,Y11.heap.size = g:=⟨_,rfl⟩
        have hBY12 : Below Y11.heap.size Y11 Y12:=by rw [<- hY12];exact (Below.refl _ _).alloc (Nat.le_refl _) _
        have hbl14 : Blk Y12 ga13 91 #[.bool ln,.slice lA lk lc,.bool lm,.slice lB lj ld]:=by rw [<- hY12,<- hga13];exact Blk.new _ _ _
        have hEY12:=hEY11.below hBY12;have mKY12:=mKY11.below hBY12;go_simp;(try rw [hY12]);(try rw [hga13]);refine hK.out _ _ (fun _=>hEY12.cells) ?_;clear hK K hY12 hga13
        try simp only [Act.put,putL_a,putL_z,putL_s]
        refine Ze (i:=9) rfl (by kernel_rfl) (fun K hK=>?_);rw [if_pos (by rfl)];refine Zam _ (.tmp 95) (.tmp 97) 84 rfl W0.heap.size 91 iN Tryz.underlying84 hi hz0 hz1 hz2 (.slice A2 k c2) _ rfl hEY12.1.2.1 _ (some ⟨ga13,0,none⟩) 1 1 [⟨ln,lA,lk,lc,lm,lB,lj,ld,dQ AQ k⟩] rfl (Zan _ hbl14) rfl (by intro e he;rw [List.mem_singleton] at he;subst he;exact hEY12.2.2.1) hlen2 mKY12.size ?_;intro vY15 Y15 hPY15 hgY15 hkY15 hwY15;obtain ⟨f1,f3⟩:=hEY12.app hts hgxb hPY15 hgY15 hkY15 hwY15;have mKY15:=Kept.grownC mKY12 hgY15 (fun k' hk=>hEY12.1.2.1.row_ge k' hk);refine hK.out _ _ (fun _=>⟨by rw [f3.cell];rfl,by rw [f3.cell];rfl⟩) ?_;clear hK K
        try simp only [Act.put,putL_a,putL_z,putL_s]
        obtain ⟨a7,a9,e7,-⟩:=f1.1.mflA;obtain ⟨b1,b3,e8,-⟩:=f1.2.1.fl;rw [<- Zal,Zbn] at e7;subst e7
        obtain rfl : vY15 = .slice b1 (k + 1) b3:=by rw [e8];congr 1;simp [Zcu]
        clear e8;have f6 : Kept (fun k=>k = gx) Y15 ((Y15.setCell ⟨gx,0,none⟩ (.slice a7 (k + 1) a9)).setCell ⟨gx,1,none⟩ (.slice b1 (k + 1) b3)):=Kept.set_ (G:=fun k=>k = gx) (Kept.set_ (G:=fun k=>k = gx) (Kept.refl _ _) (p:=⟨gx,0,none⟩) (.inl rfl) _) (p:=⟨gx,1,none⟩) (.inl rfl) _;have f5 : Blk (Y15.setCell ⟨gx,0,none⟩ (.slice a7 (k + 1) a9)) gx 86 #[.slice a7 (k + 1) a9,.slice A2 k c2]:=f3.set_ 0 _;have f7 : Blk ((Y15.setCell ⟨gx,0,none⟩ (.slice a7 (k + 1) a9)).setCell ⟨gx,1,none⟩ (.slice b1 (k + 1) b3)) gx 86 #[.slice a7 (k + 1) a9,.slice b1 (k + 1) b3]:=f5.set_ 1 _;have f8:=f1.box f3 (Zb6 _ _ _ _ _ _) hgxb f6
        have u0 : Y15.cell? ⟨gx,0,none⟩ = some (.slice A1 k c1):=by rw [f3.cell];rfl
        have uz0:=f3.frozen 0
        have u1 : (Y15.setCell ⟨gx,0,none⟩ (.slice a7 (k + 1) a9)).cell? ⟨gx,1,none⟩ = some (.slice A2 k c2):=by rw [f5.cell];rfl
        have uz1:=f5.frozen 1;have mKZ:=mKY15.trans f6;obtain ⟨Z9,hZ9⟩ : ∃ Z,((Y15.setCell ⟨gx,0,none⟩ (.slice a7 (k + 1) a9)).setCell ⟨gx,1,none⟩ (.slice b1 (k + 1) b3)) = Z:=⟨_,rfl⟩;rw [hZ9] at f7 f8 mKZ;replace f7:=Za f7;replace f8:=Za f8;replace mKZ:=Za mKZ;clear f1 f3 f6;refine Zt (i:=11) rfl (by kernel_rfl) (by kernel_rfl) (fun K hK=>?_);go_simp;refine hK.out _ _ ?_;clear hK K
        try simp only [Act.put,putL_a,putL_z,putL_s]
        refine Zx (i:=12) (v:=?v49) rfl (by kernel_rfl) (by kernel_rfl) (by kernel_rfl) (by kernel_rfl) (Or.inl ⟨by kernel_rfl,?hy49⟩) (fun hno=>absurd hno (by decide)) ?rest49
        case hy49=>(intro W2 _;go_simp;try with_reducible rfl)
        try simp only [Act.put,putL_a,putL_z,putL_s,putG_a,putG_s,putG_z]
        refine Zt (i:=13) rfl (by kernel_rfl) (by kernel_rfl) (fun K hK=>?_);go_simp;(try rw [hZ9]);refine hK.out _ _ ?_;clear hK K
        try simp only [Act.put,putL_a,putL_z,putL_s]
        refine Zl (by kernel_rfl) ?_ _;refine OnlyNormal.normal ?_;clear hZ9 u0 uz0 u1 uz1 f5;go_wp2_with fail
        go_roundg (n - (k + 1))
        case measure=>omega
        case rel=>exact ⟨k + 1,_,_,rs ++ [⟨Ao,k,co⟩],by omega,by go_num,f7.out,by rw [Zal,Zdk];exact f8.out,hpos2,mKZ.out⟩
       ·obtain ⟨Y16,hY16⟩ : ∃ Y,Y1.alloc (.cells #[.bool ln,.slice lA lk lc,.bool lm,.slice lB lj ld] 91) = Y:=⟨_,rfl⟩
        obtain ⟨ga17,hga17⟩ : ∃ g,Y1.heap.size = g:=⟨_,rfl⟩
        have hBY16 : Below Y1.heap.size Y1 Y16:=by rw [<- hY16];exact (Below.refl _ _).alloc (Nat.le_refl _) _
        have hbl18 : Blk Y16 ga17 91 #[.bool ln,.slice lA lk lc,.bool lm,.slice lB lj ld]:=by rw [<- hY16,<- hga17];exact Blk.new _ _ _
        have hEY16:=hEY1.below hBY16;have mKY16:=mKY1.below hBY16;have hbl3Y16:=Zc hBY16 hbl3;go_simp;(try rw [hY16]);(try rw [hga17]);refine hK.out _ _ (fun _=>hEY16.cells) ?_;clear hK K hY16 hga17
        try simp only [Act.put,putL_a,putL_z,putL_s]
        refine Ze (i:=4) rfl (by kernel_rfl) (fun K hK=>?_);rw [if_pos (by rfl)];refine Za7 _ (.tmp 90) (.tmp 92) 83 rfl W0.heap.size 84 iS Tryz.underlying83 ki kz0 kz1 kz2 (.slice A1 k c1) rs rfl hEY16.1.1.1 _ (some ⟨ga2,0,none⟩) 1 1 [⟨Ao,k,co⟩] rfl (Zc1 hbl3Y16) rfl hlen1 mKY16.size ?_;intro vY19 Y19 hRY19 hgY19 hkY19;have hEY19:=hEY16.app hts (r:=⟨Ao,k,co⟩) rfl hbb.out hrsg.out (fun k' e=>Nat.lt_trans (hv2g.out k' e) hW2g.out) hgxb hRY19 hgY19 hkY19;have mKY19:=Kept.grownC mKY16 hgY19 (fun k' hk=>hEY16.1.1.1.row_ge k' hk);have hbl18Y19:=hEY16.far hts hgY19 hbl18;refine hK.out _ _ (fun _=>hEY19.cells) ?_;clear hK K
        try simp only [Act.put,putL_a,putL_z,putL_s]
        refine Zrc 1 [10] rfl (by kernel_rfl) hEY19.cells ?_
        (refine tk1 (v:=?_) rfl (Or.inl ⟨by kernel_rfl,?_⟩) ?_;rotate_left;(· intro W2 _;go_simp;try with_reducible rfl);try simp only [Act.put,putL_a,putL_z,putL_s,putG_a,putG_s,putG_z])
        refine tk0 ?_;refine Ze (i:=9) rfl (by kernel_rfl) (fun K hK=>?_);rw [if_pos (by rfl)];refine Zam _ (.tmp 95) (.tmp 97) 84 rfl W0.heap.size 91 iN Tryz.underlying84 hi hz0 hz1 hz2 (.slice A2 k c2) _ rfl hEY19.1.2.1 _ (some ⟨ga17,0,none⟩) 1 1 [⟨ln,lA,lk,lc,lm,lB,lj,ld,dQ AQ k⟩] rfl (Zan _ hbl18Y19) rfl (by intro e he;rw [List.mem_singleton] at he;subst he;exact hEY19.2.2.1) hlen2 mKY19.size ?_;intro vY20 Y20 hPY20 hgY20 hkY20 hwY20;obtain ⟨f1,f3⟩:=hEY19.app hts hgxb hPY20 hgY20 hkY20 hwY20;have mKY20:=Kept.grownC mKY19 hgY20 (fun k' hk=>hEY19.1.2.1.row_ge k' hk);refine hK.out _ _ (fun _=>⟨by rw [f3.cell];rfl,by rw [f3.cell];rfl⟩) ?_;clear hK K
        try simp only [Act.put,putL_a,putL_z,putL_s]
        obtain ⟨a7,a9,e7,-⟩:=f1.1.mflA;obtain ⟨b1,b3,e8,-⟩:=f1.2.1.fl;rw [<- Zal,Zbn] at e7;subst e7
        obtain rfl : vY20 = .slice b1 (k + 1) b3:=by rw [e8];congr 1;simp [Zcu]
        clear e8;have f6 : Kept (fun k=>k = gx) Y20 ((Y20.setCell ⟨gx,0,none⟩ (.slice a7 (k + 1) a9)).setCell ⟨gx,1,none⟩ (.slice b1 (k + 1) b3)):=Kept.set_ (G:=fun k=>k = gx) (Kept.set_ (G:=fun k=>k = gx) (Kept.refl _ _) (p:=⟨gx,0,none⟩) (.inl rfl) _) (p:=⟨gx,1,none⟩) (.inl rfl) _;have f5 : Blk (Y20.setCell ⟨gx,0,none⟩ (.slice a7 (k + 1) a9)) gx 86 #[.slice a7 (k + 1) a9,.slice A2 k c2]:=f3.set_ 0 _;have f7 : Blk ((Y20.setCell ⟨gx,0,none⟩ (.slice a7 (k + 1) a9)).setCell ⟨gx,1,none⟩ (.slice b1 (k + 1) b3)) gx 86 #[.slice a7 (k + 1) a9,.slice b1 (k + 1) b3]:=f5.set_ 1 _;have f8:=f1.box f3 (Zb6 _ _ _ _ _ _) hgxb f6
        have u0 : Y20.cell? ⟨gx,0,none⟩ = some (.slice A1 k c1):=by rw [f3.cell];rfl
        have uz0:=f3.frozen 0
        have u1 : (Y20.setCell ⟨gx,0,none⟩ (.slice a7 (k + 1) a9)).cell? ⟨gx,1,none⟩ = some (.slice A2 k c2):=by rw [f5.cell];rfl
        have uz1:=f5.frozen 1;have mKZ:=mKY20.trans f6;obtain ⟨Z9,hZ9⟩ : ∃ Z,((Y20.setCell ⟨gx,0,none⟩ (.slice a7 (k + 1) a9)).setCell ⟨gx,1,none⟩ (.slice b1 (k + 1) b3)) = Z:=⟨_,rfl⟩;rw [hZ9] at f7 f8 mKZ;replace f7:=Za f7;replace f8:=Za f8;replace mKZ:=Za mKZ;clear f1 f3 f6;refine Zt (i:=11) rfl (by kernel_rfl) (by kernel_rfl) (fun K hK=>?_);go_simp;refine hK.out _ _ ?_;clear hK K
        try simp only [Act.put,putL_a,putL_z,putL_s]
        refine Zx (i:=12) (v:=?v51) rfl (by kernel_rfl) (by kernel_rfl) (by kernel_rfl) (by kernel_rfl) (Or.inl ⟨by kernel_rfl,?hy51⟩) (fun hno=>absurd hno (by decide)) ?rest51
        case hy51=>(intro W2 _;go_simp;try with_reducible rfl)
        try simp only [Act.put,putL_a,putL_z,putL_s,putG_a,putG_s,putG_z]
        refine Zt (i:=13) rfl (by kernel_rfl) (by kernel_rfl) (fun K hK=>?_);go_simp;(try rw [hZ9]);refine hK.out _ _ ?_;clear hK K
        try simp only [Act.put,putL_a,putL_z,putL_s]
        refine Zl (by kernel_rfl) ?_ _;refine OnlyNormal.normal ?_;clear hZ9 u0 uz0 u1 uz1 f5;go_wp2_with fail
        go_roundg (n - (k + 1))
        case measure=>omega
        case rel=>exact ⟨k + 1,_,_,rs ++ [⟨Ao,k,co⟩],by omega,by go_num,f7.out,by rw [Zal,Zdk];exact f8.out,hpos2,mKZ.out⟩
     ·obtain ⟨r21a,r21b,r21c,r21d⟩:=hE.left
      go_simp;refine hK.out _ _ (fun _=>hE.cells) ?_;clear hK K r21a r21b r21c r21d
      try simp only [Act.put,putL_a,putL_z,putL_s]
      refine Zco (i:=3) (j:=8) rfl rfl (by kernel_rfl) (fun K hK=>?_) (fun K hK=>?_)
      ·obtain ⟨Y22,hY22⟩ : ∃ Y,X0.alloc (.cells #[.slice Ao k co] 84) = Y:=⟨_,rfl⟩
       obtain ⟨ga23,hga23⟩ : ∃ g,X0.heap.size = g:=⟨_,rfl⟩
       have hBY22 : Below X0.heap.size X0 Y22:=by rw [<- hY22];exact (Below.refl _ _).alloc (Nat.le_refl _) _
       have hbl24 : Blk Y22 ga23 84 #[.slice Ao k co]:=by rw [<- hY22,<- hga23];exact Blk.new _ _ _
       have hEY22:=hE.below hBY22;have mKY22:=mKX.below hBY22;go_simp;(try rw [hY22]);(try rw [hga23]);refine hK.out _ _ (fun _=>hEY22.cells) ?_;clear hK K hY22 hga23
       try simp only [Act.put,putL_a,putL_z,putL_s]
       refine Zco (i:=4) (j:=8) rfl rfl (by kernel_rfl) (fun K hK=>?_) (fun K hK=>?_)
       ·rw [if_pos (by rfl)]
        refine Za7 _ (.tmp 90) (.tmp 92) 83 rfl W0.heap.size 84 iS Tryz.underlying83 ki kz0 kz1 kz2 (.slice A1 k c1) rs rfl hEY22.1.1.1 _ (some ⟨ga23,0,none⟩) 1 1 [⟨Ao,k,co⟩] rfl (Zc1 hbl24) rfl hlen1 mKY22.size ?_;intro vY25 Y25 hRY25 hgY25 hkY25;have hEY25:=hEY22.app hts (r:=⟨Ao,k,co⟩) rfl hbb.out hrsg.out (fun k' e=>Nat.lt_trans (hv2g.out k' e) hW2g.out) hgxb hRY25 hgY25 hkY25;have mKY25:=Kept.grownC mKY22 hgY25 (fun k' hk=>hEY22.1.1.1.row_ge k' hk);refine hK.out _ _ (fun _=>hEY25.cells) ?_;clear hK K
        try simp only [Act.put,putL_a,putL_z,putL_s]
        refine Zrc 1 [10] rfl (by kernel_rfl) hEY25.cells ?_
        (refine tk1 (v:=?_) rfl (Or.inl ⟨by kernel_rfl,?_⟩) ?_;rotate_left;(· intro W2 _;go_simp;try with_reducible rfl);try simp only [Act.put,putL_a,putL_z,putL_s,putG_a,putG_s,putG_z])
        refine tk0 ?_;refine Ze (i:=8) rfl (by kernel_rfl) (fun K hK=>?_);obtain ⟨Y26,hY26⟩ : ∃ Y,Y25.alloc (.cells #[.bool ln,.slice lA lk lc,.bool lm,.slice lB lj ld] 91) = Y:=⟨_,rfl⟩;obtain ⟨ga27,hga27⟩ : ∃ g,Y25.heap.size = g:=⟨_,rfl⟩
        have hBY26 : Below Y25.heap.size Y25 Y26:=by rw [<- hY26];exact (Below.refl _ _).alloc (Nat.le_refl _) _
        have hbl28 : Blk Y26 ga27 91 #[.bool ln,.slice lA lk lc,.bool lm,.slice lB lj ld]:=by rw [<- hY26,<- hga27];exact Blk.new _ _ _
        have hEY26:=hEY25.below hBY26;have mKY26:=mKY25.below hBY26;go_simp;(try rw [hY26]);(try rw [hga27]);refine hK.out _ _ (fun _=>hEY26.cells) ?_;clear hK K hY26 hga27
        try simp only [Act.put,putL_a,putL_z,putL_s]
        refine Ze (i:=9) rfl (by kernel_rfl) (fun K hK=>?_);rw [if_pos (by rfl)];refine Zam _ (.tmp 95) (.tmp 97) 84 rfl W0.heap.size 91 iN Tryz.underlying84 hi hz0 hz1 hz2 (.slice A2 k c2) _ rfl hEY26.1.2.1 _ (some ⟨ga27,0,none⟩) 1 1 [⟨ln,lA,lk,lc,lm,lB,lj,ld,dQ AQ k⟩] rfl (Zan _ hbl28) rfl (by intro e he;rw [List.mem_singleton] at he;subst he;exact hEY26.2.2.1) hlen2 mKY26.size ?_;intro vY29 Y29 hPY29 hgY29 hkY29 hwY29;obtain ⟨f1,f3⟩:=hEY26.app hts hgxb hPY29 hgY29 hkY29 hwY29;have mKY29:=Kept.grownC mKY26 hgY29 (fun k' hk=>hEY26.1.2.1.row_ge k' hk);refine hK.out _ _ (fun _=>⟨by rw [f3.cell];rfl,by rw [f3.cell];rfl⟩) ?_;clear hK K
        try simp only [Act.put,putL_a,putL_z,putL_s]
        obtain ⟨a7,a9,e7,-⟩:=f1.1.mflA;obtain ⟨b1,b3,e8,-⟩:=f1.2.1.fl;rw [<- Zal,Zbn] at e7;subst e7
        obtain rfl : vY29 = .slice b1 (k + 1) b3:=by rw [e8];congr 1;simp [Zcu]
        clear e8;have f6 : Kept (fun k=>k = gx) Y29 ((Y29.setCell ⟨gx,0,none⟩ (.slice a7 (k + 1) a9)).setCell ⟨gx,1,none⟩ (.slice b1 (k + 1) b3)):=Kept.set_ (G:=fun k=>k = gx) (Kept.set_ (G:=fun k=>k = gx) (Kept.refl _ _) (p:=⟨gx,0,none⟩) (.inl rfl) _) (p:=⟨gx,1,none⟩) (.inl rfl) _;have f5 : Blk (Y29.setCell ⟨gx,0,none⟩ (.slice a7 (k + 1) a9)) gx 86 #[.slice a7 (k + 1) a9,.slice A2 k c2]:=f3.set_ 0 _;have f7 : Blk ((Y29.setCell ⟨gx,0,none⟩ (.slice a7 (k + 1) a9)).setCell ⟨gx,1,none⟩ (.slice b1 (k + 1) b3)) gx 86 #[.slice a7 (k + 1) a9,.slice b1 (k + 1) b3]:=f5.set_ 1 _;have f8:=f1.box f3 (Zb6 _ _ _ _ _ _) hgxb f6
        have u0 : Y29.cell? ⟨gx,0,none⟩ = some (.slice A1 k c1):=by rw [f3.cell];rfl
        have uz0:=f3.frozen 0
        have u1 : (Y29.setCell ⟨gx,0,none⟩ (.slice a7 (k + 1) a9)).cell? ⟨gx,1,none⟩ = some (.slice A2 k c2):=by rw [f5.cell];rfl
        have uz1:=f5.frozen 1;have mKZ:=mKY29.trans f6;obtain ⟨Z9,hZ9⟩ : ∃ Z,((Y29.setCell ⟨gx,0,none⟩ (.slice a7 (k + 1) a9)).setCell ⟨gx,1,none⟩ (.slice b1 (k + 1) b3)) = Z:=⟨_,rfl⟩;rw [hZ9] at f7 f8 mKZ;replace f7:=Za f7;replace f8:=Za f8;replace mKZ:=Za mKZ;clear f1 f3 f6;refine Zt (i:=11) rfl (by kernel_rfl) (by kernel_rfl) (fun K hK=>?_);go_simp;refine hK.out _ _ ?_;clear hK K
        try simp only [Act.put,putL_a,putL_z,putL_s]
        refine Zx (i:=12) (v:=?v53) rfl (by kernel_rfl) (by kernel_rfl) (by kernel_rfl) (by kernel_rfl) (Or.inl ⟨by kernel_rfl,?hy53⟩) (fun hno=>absurd hno (by decide)) ?rest53
        case hy53=>(intro W2 _;go_simp;try with_reducible rfl)
        try simp only [Act.put,putL_a,putL_z,putL_s,putG_a,putG_s,putG_z]
        refine Zt (i:=13) rfl (by kernel_rfl) (by kernel_rfl) (fun K hK=>?_);go_simp;(try rw [hZ9]);refine hK.out _ _ ?_;clear hK K
        try simp only [Act.put,putL_a,putL_z,putL_s]
        refine Zl (by kernel_rfl) ?_ _;refine OnlyNormal.normal ?_;clear hZ9 u0 uz0 u1 uz1 f5;go_wp2_with fail
        go_roundg (n - (k + 1))
        case measure=>omega
        case rel=>exact ⟨k + 1,_,_,rs ++ [⟨Ao,k,co⟩],by omega,by go_num,f7.out,by rw [Zal,Zdk];exact f8.out,hpos2,mKZ.out⟩
       ·obtain ⟨Y30,hY30⟩ : ∃ Y,Y22.alloc (.cells #[.bool ln,.slice lA lk lc,.bool lm,.slice lB lj ld] 91) = Y:=⟨_,rfl⟩
        obtain ⟨ga31,hga31⟩ : ∃ g,Y22.heap.size = g:=⟨_,rfl⟩
        have hBY30 : Below Y22.heap.size Y22 Y30:=by rw [<- hY30];exact (Below.refl _ _).alloc (Nat.le_refl _) _
        have hbl32 : Blk Y30 ga31 91 #[.bool ln,.slice lA lk lc,.bool lm,.slice lB lj ld]:=by rw [<- hY30,<- hga31];exact Blk.new _ _ _
        have hEY30:=hEY22.below hBY30;have mKY30:=mKY22.below hBY30;have hbl24Y30:=Zc hBY30 hbl24;go_simp;(try rw [hY30]);(try rw [hga31]);refine hK.out _ _ (fun _=>hEY30.cells) ?_;clear hK K hY30 hga31
        try simp only [Act.put,putL_a,putL_z,putL_s]
        refine Ze (i:=4) rfl (by kernel_rfl) (fun K hK=>?_);rw [if_pos (by rfl)];refine Za7 _ (.tmp 90) (.tmp 92) 83 rfl W0.heap.size 84 iS Tryz.underlying83 ki kz0 kz1 kz2 (.slice A1 k c1) rs rfl hEY30.1.1.1 _ (some ⟨ga23,0,none⟩) 1 1 [⟨Ao,k,co⟩] rfl (Zc1 hbl24Y30) rfl hlen1 mKY30.size ?_;intro vY33 Y33 hRY33 hgY33 hkY33;have hEY33:=hEY30.app hts (r:=⟨Ao,k,co⟩) rfl hbb.out hrsg.out (fun k' e=>Nat.lt_trans (hv2g.out k' e) hW2g.out) hgxb hRY33 hgY33 hkY33;have mKY33:=Kept.grownC mKY30 hgY33 (fun k' hk=>hEY30.1.1.1.row_ge k' hk);have hbl32Y33:=hEY30.far hts hgY33 hbl32;refine hK.out _ _ (fun _=>hEY33.cells) ?_;clear hK K
        try simp only [Act.put,putL_a,putL_z,putL_s]
        refine Zrc 1 [10] rfl (by kernel_rfl) hEY33.cells ?_
        (refine tk1 (v:=?_) rfl (Or.inl ⟨by kernel_rfl,?_⟩) ?_;rotate_left;(· intro W2 _;go_simp;try with_reducible rfl);try simp only [Act.put,putL_a,putL_z,putL_s,putG_a,putG_s,putG_z])
        refine tk0 ?_;refine Ze (i:=9) rfl (by kernel_rfl) (fun K hK=>?_);rw [if_pos (by rfl)];refine Zam _ (.tmp 95) (.tmp 97) 84 rfl W0.heap.size 91 iN Tryz.underlying84 hi hz0 hz1 hz2 (.slice A2 k c2) _ rfl hEY33.1.2.1 _ (some ⟨ga31,0,none⟩) 1 1 [⟨ln,lA,lk,lc,lm,lB,lj,ld,dQ AQ k⟩] rfl (Zan _ hbl32Y33) rfl (by intro e he;rw [List.mem_singleton] at he;subst he;exact hEY33.2.2.1) hlen2 mKY33.size ?_;intro vY34 Y34 hPY34 hgY34 hkY34 hwY34;obtain ⟨f1,f3⟩:=hEY33.app hts hgxb hPY34 hgY34 hkY34 hwY34;have mKY34:=Kept.grownC mKY33 hgY34 (fun k' hk=>hEY33.1.2.1.row_ge k' hk);refine hK.out _ _ (fun _=>⟨by rw [f3.cell];rfl,by rw [f3.cell];rfl⟩) ?_;clear hK K
        try simp only [Act.put,putL_a,putL_z,putL_s]
        obtain ⟨a7,a9,e7,-⟩:=f1.1.mflA;obtain ⟨b1,b3,e8,-⟩:=f1.2.1.fl;rw [<- Zal,Zbn] at e7;subst e7
        obtain rfl : vY34 = .slice b1 (k + 1) b3:=by rw [e8];congr 1;simp [Zcu]
        clear e8;have f6 : Kept (fun k=>k = gx) Y34 ((Y34.setCell ⟨gx,0,none⟩ (.slice a7 (k + 1) a9)).setCell ⟨gx,1,none⟩ (.slice b1 (k + 1) b3)):=Kept.set_ (G:=fun k=>k = gx) (Kept.set_ (G:=fun k=>k = gx) (Kept.refl _ _) (p:=⟨gx,0,none⟩) (.inl rfl) _) (p:=⟨gx,1,none⟩) (.inl rfl) _;have f5 : Blk (Y34.setCell ⟨gx,0,none⟩ (.slice a7 (k + 1) a9)) gx 86 #[.slice a7 (k + 1) a9,.slice A2 k c2]:=f3.set_ 0 _;have f7 : Blk ((Y34.setCell ⟨gx,0,none⟩ (.slice a7 (k + 1) a9)).setCell ⟨gx,1,none⟩ (.slice b1 (k + 1) b3)) gx 86 #[.slice a7 (k + 1) a9,.slice b1 (k + 1) b3]:=f5.set_ 1 _;have f8:=f1.box f3 (Zb6 _ _ _ _ _ _) hgxb f6
        have u0 : Y34.cell? ⟨gx,0,none⟩ = some (.slice A1 k c1):=by rw [f3.cell];rfl
        have uz0:=f3.frozen 0
        have u1 : (Y34.setCell ⟨gx,0,none⟩ (.slice a7 (k + 1) a9)).cell? ⟨gx,1,none⟩ = some (.slice A2 k c2):=by rw [f5.cell];rfl
        have uz1:=f5.frozen 1;have mKZ:=mKY34.trans f6;obtain ⟨Z9,hZ9⟩ : ∃ Z,((Y34.setCell ⟨gx,0,none⟩ (.slice a7 (k + 1) a9)).setCell ⟨gx,1,none⟩ (.slice b1 (k + 1) b3)) = Z:=⟨_,rfl⟩;rw [hZ9] at f7 f8 mKZ;replace f7:=Za f7;replace f8:=Za f8;replace mKZ:=Za mKZ;clear f1 f3 f6;refine Zt (i:=11) rfl (by kernel_rfl) (by kernel_rfl) (fun K hK=>?_);go_simp;refine hK.out _ _ ?_;clear hK K
        try simp only [Act.put,putL_a,putL_z,putL_s]
        refine Zx (i:=12) (v:=?v55) rfl (by kernel_rfl) (by kernel_rfl) (by kernel_rfl) (by kernel_rfl) (Or.inl ⟨by kernel_rfl,?hy55⟩) (fun hno=>absurd hno (by decide)) ?rest55
        case hy55=>(intro W2 _;go_simp;try with_reducible rfl)
        try simp only [Act.put,putL_a,putL_z,putL_s,putG_a,putG_s,putG_z]
        refine Zt (i:=13) rfl (by kernel_rfl) (by kernel_rfl) (fun K hK=>?_);go_simp;(try rw [hZ9]);refine hK.out _ _ ?_;clear hK K
        try simp only [Act.put,putL_a,putL_z,putL_s]
        refine Zl (by kernel_rfl) ?_ _;refine OnlyNormal.normal ?_;clear hZ9 u0 uz0 u1 uz1 f5;go_wp2_with fail
        go_roundg (n - (k + 1))
        case measure=>omega
        case rel=>exact ⟨k + 1,_,_,rs ++ [⟨Ao,k,co⟩],by omega,by go_num,f7.out,by rw [Zal,Zdk];exact f8.out,hpos2,mKZ.out⟩
      ·obtain ⟨Y35,hY35⟩ : ∃ Y,X0.alloc (.cells #[.bool ln,.slice lA lk lc,.bool lm,.slice lB lj ld] 91) = Y:=⟨_,rfl⟩
       obtain ⟨ga36,hga36⟩ : ∃ g,X0.heap.size = g:=⟨_,rfl⟩
       have hBY35 : Below X0.heap.size X0 Y35:=by rw [<- hY35];exact (Below.refl _ _).alloc (Nat.le_refl _) _
       have hbl37 : Blk Y35 ga36 91 #[.bool ln,.slice lA lk lc,.bool lm,.slice lB lj ld]:=by rw [<- hY35,<- hga36];exact Blk.new _ _ _
       have hEY35:=hE.below hBY35;have mKY35:=mKX.below hBY35;go_simp;(try rw [hY35]);(try rw [hga36]);refine hK.out _ _ (fun _=>hEY35.cells) ?_;clear hK K hY35 hga36
       try simp only [Act.put,putL_a,putL_z,putL_s]
       refine Ze (i:=3) rfl (by kernel_rfl) (fun K hK=>?_);obtain ⟨Y38,hY38⟩ : ∃ Y,Y35.alloc (.cells #[.slice Ao k co] 84) = Y:=⟨_,rfl⟩;obtain ⟨ga39,hga39⟩ : ∃ g,Y35.heap.size = g:=⟨_,rfl⟩
       have hBY38 : Below Y35.heap.size Y35 Y38:=by rw [<- hY38];exact (Below.refl _ _).alloc (Nat.le_refl _) _
       have hbl40 : Blk Y38 ga39 84 #[.slice Ao k co]:=by rw [<- hY38,<- hga39];exact Blk.new _ _ _
       have hEY38:=hEY35.below hBY38;have mKY38:=mKY35.below hBY38;have hbl37Y38:=Zc hBY38 hbl37;go_simp;(try rw [hY38]);(try rw [hga39]);refine hK.out _ _ (fun _=>hEY38.cells) ?_;clear hK K hY38 hga39
       try simp only [Act.put,putL_a,putL_z,putL_s]
       refine Ze (i:=4) rfl (by kernel_rfl) (fun K hK=>?_);rw [if_pos (by rfl)];refine Za7 _ (.tmp 90) (.tmp 92) 83 rfl W0.heap.size 84 iS Tryz.underlying83 ki kz0 kz1 kz2 (.slice A1 k c1) rs rfl hEY38.1.1.1 _ (some ⟨ga39,0,none⟩) 1 1 [⟨Ao,k,co⟩] rfl (Zc1 hbl40) rfl hlen1 mKY38.size ?_;intro vY41 Y41 hRY41 hgY41 hkY41;have hEY41:=hEY38.app hts (r:=⟨Ao,k,co⟩) rfl hbb.out hrsg.out (fun k' e=>Nat.lt_trans (hv2g.out k' e) hW2g.out) hgxb hRY41 hgY41 hkY41;have mKY41:=Kept.grownC mKY38 hgY41 (fun k' hk=>hEY38.1.1.1.row_ge k' hk);have hbl37Y38Y41:=hEY38.far hts hgY41 hbl37Y38;refine hK.out _ _ (fun _=>hEY41.cells) ?_;clear hK K
       try simp only [Act.put,putL_a,putL_z,putL_s]
       refine Zrc 1 [10] rfl (by kernel_rfl) hEY41.cells ?_
       (refine tk1 (v:=?_) rfl (Or.inl ⟨by kernel_rfl,?_⟩) ?_;rotate_left;(· intro W2 _;go_simp;try with_reducible rfl);try simp only [Act.put,putL_a,putL_z,putL_s,putG_a,putG_s,putG_z])
       refine tk0 ?_;refine Ze (i:=9) rfl (by kernel_rfl) (fun K hK=>?_);rw [if_pos (by rfl)];refine Zam _ (.tmp 95) (.tmp 97) 84 rfl W0.heap.size 91 iN Tryz.underlying84 hi hz0 hz1 hz2 (.slice A2 k c2) _ rfl hEY41.1.2.1 _ (some ⟨ga36,0,none⟩) 1 1 [⟨ln,lA,lk,lc,lm,lB,lj,ld,dQ AQ k⟩] rfl (Zan _ hbl37Y38Y41) rfl (by intro e he;rw [List.mem_singleton] at he;subst he;exact hEY41.2.2.1) hlen2 mKY41.size ?_;intro vY42 Y42 hPY42 hgY42 hkY42 hwY42;obtain ⟨f1,f3⟩:=hEY41.app hts hgxb hPY42 hgY42 hkY42 hwY42;have mKY42:=Kept.grownC mKY41 hgY42 (fun k' hk=>hEY41.1.2.1.row_ge k' hk);refine hK.out _ _ (fun _=>⟨by rw [f3.cell];rfl,by rw [f3.cell];rfl⟩) ?_;clear hK K
       try simp only [Act.put,putL_a,putL_z,putL_s]
       obtain ⟨a7,a9,e7,-⟩:=f1.1.mflA;obtain ⟨b1,b3,e8,-⟩:=f1.2.1.fl;rw [<- Zal,Zbn] at e7;subst e7
       obtain rfl : vY42 = .slice b1 (k + 1) b3:=by rw [e8];congr 1;simp [Zcu]
       clear e8;have f6 : Kept (fun k=>k = gx) Y42 ((Y42.setCell ⟨gx,0,none⟩ (.slice a7 (k + 1) a9)).setCell ⟨gx,1,none⟩ (.slice b1 (k + 1) b3)):=Kept.set_ (G:=fun k=>k = gx) (Kept.set_ (G:=fun k=>k = gx) (Kept.refl _ _) (p:=⟨gx,0,none⟩) (.inl rfl) _) (p:=⟨gx,1,none⟩) (.inl rfl) _;have f5 : Blk (Y42.setCell ⟨gx,0,none⟩ (.slice a7 (k + 1) a9)) gx 86 #[.slice a7 (k + 1) a9,.slice A2 k c2]:=f3.set_ 0 _;have f7 : Blk ((Y42.setCell ⟨gx,0,none⟩ (.slice a7 (k + 1) a9)).setCell ⟨gx,1,none⟩ (.slice b1 (k + 1) b3)) gx 86 #[.slice a7 (k + 1) a9,.slice b1 (k + 1) b3]:=f5.set_ 1 _;have f8:=f1.box f3 (Zb6 _ _ _ _ _ _) hgxb f6
       have u0 : Y42.cell? ⟨gx,0,none⟩ = some (.slice A1 k c1):=by rw [f3.cell];rfl
       have uz0:=f3.frozen 0
       have u1 : (Y42.setCell ⟨gx,0,none⟩ (.slice a7 (k + 1) a9)).cell? ⟨gx,1,none⟩ = some (.slice A2 k c2):=by rw [f5.cell];rfl
       have uz1:=f5.frozen 1;have mKZ:=mKY42.trans f6;obtain ⟨Z9,hZ9⟩ : ∃ Z,((Y42.setCell ⟨gx,0,none⟩ (.slice a7 (k + 1) a9)).setCell ⟨gx,1,none⟩ (.slice b1 (k + 1) b3)) = Z:=⟨_,rfl⟩;rw [hZ9] at f7 f8 mKZ;replace f7:=Za f7;replace f8:=Za f8;replace mKZ:=Za mKZ;clear f1 f3 f6;refine Zt (i:=11) rfl (by kernel_rfl) (by kernel_rfl) (fun K hK=>?_);go_simp;refine hK.out _ _ ?_;clear hK K
       try simp only [Act.put,putL_a,putL_z,putL_s]
       refine Zx (i:=12) (v:=?v57) rfl (by kernel_rfl) (by kernel_rfl) (by kernel_rfl) (by kernel_rfl) (Or.inl ⟨by kernel_rfl,?hy57⟩) (fun hno=>absurd hno (by decide)) ?rest57
       case hy57=>(intro W2 _;go_simp;try with_reducible rfl)
       try simp only [Act.put,putL_a,putL_z,putL_s,putG_a,putG_s,putG_z]
       refine Zt (i:=13) rfl (by kernel_rfl) (by kernel_rfl) (fun K hK=>?_);go_simp;(try rw [hZ9]);refine hK.out _ _ ?_;clear hK K
       try simp only [Act.put,putL_a,putL_z,putL_s]
       refine Zl (by kernel_rfl) ?_ _;refine OnlyNormal.normal ?_;clear hZ9 u0 uz0 u1 uz1 f5;go_wp2_with fail
       go_roundg (n - (k + 1))
       case measure=>omega
       case rel=>exact ⟨k + 1,_,_,rs ++ [⟨Ao,k,co⟩],by omega,by go_num,f7.out,by rw [Zal,Zdk];exact f8.out,hpos2,mKZ.out⟩
    | succ t2 =>
     obtain rfl : t2 = i - (k + 1):=by omega
     have hki : k < i:=by omega
     have t2 : decide ((k : Int) < (i : Int)) = true:=decide_eq_true (by omega)
     have bki : (k : Int) < (i : Int):=by omega
     have bkn : (k : Int) < (n : Int):=by omega
     obtain ⟨yn,yA,yk,yc,ym,yB,yj,yd,⟨r0,r1,r2,r3⟩,hY⟩:=(hR.out.below hBk.out).atS (show k < n by omega);rw [hent.out] at hY;obtain ⟨V3,hV3,hBV3,p3,s3⟩:=Zb3 wk 91 #[.bool false,.slice none 0 0,.bool false,.slice none 0 0];obtain ⟨gs,hgs⟩ : ∃ g,wk.heap.size = g:=⟨_,rfl⟩;rw [hgs] at p3 s3;obtain ⟨u0,u1,u2,u3,v0,v1,v2,v3⟩:=p3.four;obtain ⟨W4,hW4,p4,hK4,s4⟩:=Zcg yn yA yk yc ym yB yj yd p3;have hB4 : Below wk.heap.size wk W4:=hBV3.trans (hK4.to_below (fun k e=>by omega) hBV3.size);have hs4 : Hid (W4.heap.size = gs + 1):=Za (by rw [s4,s3]);have hY4:=Za (hY.below hB4);have hgls : Hid (gl < gs):=Za (by have:=hbl.lt;omega);replace hB4:=Za hB4;replace hown:=Za hown;replace hFo:=Za hFo;replace hbl:=Za hbl;replace hK3:=Za hK3;replace p4:=Za p4;clear hY hBV3 hK4 s3 s4 hbxk;go_wp2_with fail;(try rw [hgs]);(try rw [hW4]);clear u0 u1 u2 u3 v0 v1 v2 v3 p3 hV3 hW4 r0 r1 r2 r3 xk0 xk1 zk0 zk1 l0 l1 l2 l3 m0 m1 m2 m3;replace hgs:=Za hgs
     go_loopg [32] k (fun t jv wj=>∃ (j : Nat) (sn : Bool) (sA : Option Addr) (sk sc : Nat) (sm : Bool) (sB : Option Addr) (sj sd : Nat),j + t = k /\ jv = .int .i64 j /\ Blk wj gs 91 #[.bool sn,.slice sA sk sc,.bool sm,.slice sB sj sd] /\ Hid (Fr wj sn sA sk sc sm sB sj sd (Zaf AQ j i k)) /\ Kept (fun g=>g = gs) W4 wj)
     case atStart=>exact ⟨0,_,_,_,_,_,_,_,_,by omega,rfl,p4.out,hY4,Kept.refl _ _⟩
     case round =>
      clear p4 hY4;obtain ⟨wj,rfl⟩ : ∃ x : World,x = wr:=⟨_,rfl⟩;obtain ⟨j,sn,sA,sk,sc,sm,sB,sj,sd,hjt,rfl,hbs,hs,hK5⟩:=hrel;have hs4':=hs4.out;have hgs':=hgs.out;have hBj : Hid (Below wk.heap.size wk wj):=Za (hB4.out.trans (hK5.to_below (fun k e=>by omega) (by omega)));have hBrj : Hid (Below wi.heap.size wi wj):=Za (hBk.out.trans (hBj.out.mono hBk.out.size));have hbxj:=Zc hBrj.out hbx.out
      have xj0 : wj.cell? ⟨gx,0,none⟩ = some (.slice A1 i c1):=by rw [hbxj.cell];rfl
      have xj1 : wj.cell? ⟨gx,1,none⟩ = some (.slice A2 i c2):=by rw [hbxj.cell];rfl
      obtain ⟨s0,s1,s2,s3,y0,y1,y2,y3⟩:=hbs.four
      cases gk with
      | zero =>
       obtain rfl : j = k:=by omega
       have t3 : decide ((j : Int) < (j : Int)) = false:=by simp
       obtain ⟨gd,od',dn,dA,dk,dc,dm,dB,dj,dd,rfl,⟨d0,d1,d2,d3⟩,hD⟩:=(hL2.out.below hBrj.out).at_ hki;rw [Zl0 hki] at hD;replace hD:=Za hD;go_wp2_with fail;obtain ⟨X0,hX0⟩ : ∃ X,wj.drew = X:=⟨_,rfl⟩
       have hr1 : Below wj.heap.size wj X0:=by rw [<- hX0];exact Zi (Below.refl _ _) 1
       have hSv1 : Hid (∀ wx,Below wj.heap.size wj wx -> wx.cell? ⟨gs,0,none⟩ = some (.bool sn) /\ wx.cell? ⟨gs,1,none⟩ = some (.slice sA sk sc) /\ wx.cell? ⟨gs,2,none⟩ = some (.bool sm) /\ wx.cell? ⟨gs,3,none⟩ = some (.slice sB sj sd) /\ wx.cell? ⟨gx,1,none⟩ = some (.slice (some ⟨gd,od',none⟩) i c2) /\ wx.cell? ⟨gd,od' + j * 4,none⟩ = some (.bool dn) /\ wx.cell? ⟨gd,od' + j * 4 + 1,none⟩ = some (.slice dA dk dc) /\ wx.cell? ⟨gd,od' + j * 4 + 2,none⟩ = some (.bool dm) /\ wx.cell? ⟨gd,od' + j * 4 + 3,none⟩ = some (.slice dB dj dd)):=Za (fun wx hbx=>⟨Zb hbx s0,Zb hbx s1,Zb hbx s2,Zb hbx s3,Zb hbx xj1,Zb hbx d0,Zb hbx d1,Zb hbx d2,Zb hbx d3⟩);refine wp_heldS [] hmx hSv1 (by rw [hX0];exact hr1) (fun hxs=>?_);rw [hX0];refine Zrd 7 [0,1,2,3,4,5,6] rfl (by kernel_rfl) (hSv1.out _ hr1) ?_
       iterate 7 (refine tk1 (v:=?_) rfl (Or.inl ⟨by kernel_rfl,?_⟩) ?_;rotate_left;(· intro W2 hSw;(try dsimp only at hSw);go_simp;try with_reducible rfl);try simp only [Act.put,putL_a,putL_z,putL_s,putG_a,putG_s,putG_z])
       refine tk0 ?_;refine Ze (i:=7) rfl (by kernel_rfl) (fun K hK=>?_);go_simp;refine (Zpx sn sm dn dm sA sB dA dB sk sc sj sd dk dc dj dd _ _ X0 (hs.out.below hr1) (hD.out.below hr1) (fac_q hF.out hin hki hpos.out).1 (fac_q hF.out hin hki hpos.out).2.1 (fac_q hF.out hin hki hpos.out).2.2).mono ?_;rintro e w5 ⟨hb5,an,aA,ak,ac,am,aB,aj,ad,rfl,hT⟩;have hr5:=hr1.trans (hb5.mono hr1.size);refine hK.out _ _ (fun _=>hSv1.out _ hr5) ?_;clear hK K
       try simp only [Act.put,putL_a,putL_z,putL_s]
       obtain ⟨Y1,hY1⟩ : ∃ Y,w5.alloc (.cells #[.bool an,.slice aA ak ac,.bool am,.slice aB aj ad] 91) = Y:=⟨_,rfl⟩;obtain ⟨ga1,hga1⟩ : ∃ g,w5.heap.size = g:=⟨_,rfl⟩
       have hBY : Below w5.heap.size w5 Y1:=by rw [<- hY1];exact (Below.refl _ _).alloc (Nat.le_refl _) _
       have hbY : Blk Y1 ga1 91 #[.bool an,.slice aA ak ac,.bool am,.slice aB aj ad]:=by rw [<- hY1,<- hga1];exact Blk.new _ _ _
       have hr2 : Below wj.heap.size wj Y1:=hr5.trans (hBY.mono hr5.size);refine Ze (i:=8) rfl (by kernel_rfl) (fun K hK=>?_);go_simp;(try rw [hY1]);(try rw [hga1]);refine hK.out _ _ (fun _=>hSv1.out _ hr2) ?_;clear hK K hY1 hga1
       try simp only [Act.put,putL_a,putL_z,putL_s]
       have hTY:=hT.below hBY;have hBkY : Below wk.heap.size wk Y1:=hBj.out.trans (hr2.mono hBj.out.size);have hOr:=hown.out.kept hBkY;have hYb : W2.heap.size <= Y1.heap.size:=Nat.le_trans hK3.out.size hBkY.size
       have hlen9 : (Ze5 AQ i j).length + 1 <= 1000:=by rw [Zfk];omega
       refine Ze (i:=9) rfl (by kernel_rfl) (fun K hK=>?_);rw [if_pos (by rfl)];refine Zam _ (.tmp 57) (.tmp 65) 84 rfl W2.heap.size 91 iN Tryz.underlying84 hi hz0 hz1 hz2 (.slice Ao j co) _ rfl hOr _ (some ⟨ga1,0,none⟩) 1 1 [⟨an,aA,ak,ac,am,aB,aj,ad,Zaf AQ j i j / dQ AQ j⟩] rfl (Zan _ hbY) rfl (by intro e he;rw [List.mem_singleton] at he;subst he;exact hTY) hlen9 hYb ?_;intro vY Y2 hO2 hg2 hk2 hw2
       have hO2' : OwnF 91 Y2 W2.heap.size vY (Ze5 AQ i (j + 1)):=by rw [Zo2];exact hO2
       obtain ⟨Ap,cp,e4,hFp⟩:=hO2'.fl;rw [Zfk] at e4 hFp;subst e4;have hge:=hOr.row_ge;have hlt:=hown.out.blt;have hKY : Hid (Kept (fun g=>g = gl) W2 Y1):=Za (hK3.out.below hBkY);have hKY2 : Hid (Kept (fun g=>g = gl) W2 Y2):=Za ⟨hg2.os.trans hKY.out.os,hg2.tape.trans hKY.out.tape,hg2.output.trans hKY.out.output,Nat.le_trans hKY.out.size hg2.size,fun g hg hne=>(hg2.block g (Nat.lt_of_lt_of_le hg hKY.out.size) (fun e=>by have:=hge g (by first | exact e | exact e.symm);omega)).trans (hKY.out.block g hg hne)⟩;have hblY : Hid (Blk Y2 gl 91 #[.bool ln,.slice lA lk lc,.bool lm,.slice lB lj ld]):=Za ((hg2.block gl (Nat.lt_of_lt_of_le hbl.out.lt hBkY.size) (fun e=>by have:=hge gl (by first | exact e | exact e.symm);omega)).trans (Zc hBkY hbl.out));have hlY : Hid (Fr Y2 ln lA lk lc lm lB lj ld (Zaf AQ j i i)):=Za ⟨⟨hl.out.1.1,hl.out.1.2.1,hk2 _ _ _ _ (hl.out.below hBkY).1.2.2⟩,⟨hl.out.2.1,hl.out.2.2.1,hk2 _ _ _ _ (hl.out.below hBkY).2.2.2⟩⟩;have hBrY : Hid (Below wi.heap.size wi Y2):=Za (hB2.out.trans (hKY2.out.to_below (fun g e=>by omega) (by omega)));obtain ⟨_,_,_,_,_,_,_,_,⟨dd0,-⟩,-⟩:=hL2.out.atS hki;have hgd : gd < wi.heap.size:=Zr dd0
       have hsame : ∀ (g o : Nat) (v : Value),(∀ k',(Value.slice Ao j co).ownBlock = some k' -> k' ≠ g) -> Y1.cell? ⟨g,o,none⟩ = some v -> Y2.cell? ⟨g,o,none⟩ = some v:=fun g o v hne hv=>by
        rw [<- hv];exact World.cell?_of_block (hg2.block g (Zr hv) (fun e=>hne g (by first | exact e | exact e.symm) rfl))
       have hSY2 : Y2.cell? ⟨gs,0,none⟩ = some (.bool sn) /\ Y2.cell? ⟨gs,1,none⟩ = some (.slice sA sk sc) /\ Y2.cell? ⟨gs,2,none⟩ = some (.bool sm) /\ Y2.cell? ⟨gs,3,none⟩ = some (.slice sB sj sd) /\ Y2.cell? ⟨gx,1,none⟩ = some (.slice (some ⟨gd,od',none⟩) i c2) /\ Y2.cell? ⟨gd,od' + j * 4,none⟩ = some (.bool dn) /\ Y2.cell? ⟨gd,od' + j * 4 + 1,none⟩ = some (.slice dA dk dc) /\ Y2.cell? ⟨gd,od' + j * 4 + 2,none⟩ = some (.bool dm) /\ Y2.cell? ⟨gd,od' + j * 4 + 3,none⟩ = some (.slice dB dj dd):=by
        obtain ⟨p0,p1,p2,p3,p4,p5,p6,p7,p8⟩:=hSv1.out _ hr2;refine ⟨hsame _ _ _ (fun k' e=>by have:=hlt k' e;omega) p0,hsame _ _ _ (fun k' e=>by have:=hlt k' e;omega) p1,hsame _ _ _ (fun k' e=>by have:=hlt k' e;omega) p2,hsame _ _ _ (fun k' e=>by have:=hlt k' e;omega) p3,hsame _ _ _ (fun k' e=>by have:=hge k' e;omega) p4,hsame _ _ _ (fun k' e=>by have:=hge k' e;omega) p5,hsame _ _ _ (fun k' e=>by have:=hge k' e;omega) p6,hsame _ _ _ (fun k' e=>by have:=hge k' e;omega) p7,hsame _ _ _ (fun k' e=>by have:=hge k' e;omega) p8⟩
       refine hK.out _ _ (fun _=>hSY2) ?_;clear hK K dd0 hsame
       try simp only [Act.put,putL_a,putL_z,putL_s]
       refine Zrc 1 [10] rfl (by kernel_rfl) hSY2 ?_
       (refine tk1 (v:=?_) rfl (Or.inl ⟨by kernel_rfl,?_⟩) ?_;rotate_left;(· intro W2 _;go_simp;try with_reducible rfl);try simp only [Act.put,putL_a,putL_z,putL_s,putG_a,putG_s,putG_z])
       refine tk0 ?_;refine Zl (by kernel_rfl) ?_ _;refine OnlyNormal.normal ?_;replace hO2':=Za hO2';replace hFp:=Za hFp;clear hSY2 hgd hSv1 hxs hr1 hr2 hr5 hbY hBY hX0 hO2 hg2 hk2 hw2 hge hlt hOr hTY hT hBkY hKY hYb hlen9 s0 s1 s2 s3 y0 y1 y2 y3 xj0 xj1 d0 d1 d2 d3 hD hbs hs hK5 hbxj hBj hBrj hl hbl hK3 hown hFo;obtain ⟨l0,l1,l2,l3,-⟩:=hblY.out.four;have hbxY:=Zc hBrY.out hbx.out
       have xy1 : Y2.cell? ⟨gx,1,none⟩ = some (.slice (some ⟨gd,od',none⟩) i c2):=by rw [hbxY.cell];rfl
       obtain ⟨dn,dA,dk,dc,dm,dB,dj,dd,⟨d0,d1,d2,d3⟩,hD⟩:=(hL2.out.below hBrY.out).atS hki;rw [Zl0 hki] at hD;replace hD:=Za hD;obtain ⟨go,oo,on_,oA,ok,oc,om,oB,oj,od,rfl,⟨o0,o1,o2,o3⟩,hO⟩:=hFp.out.at_ (Nat.lt_succ_self j);rw [Znn (Nat.lt_succ_self j)] at hO;replace hO:=Za hO;have hpcap:=hFp.out.cap;unfold maxLen at hpcap
       have bjs : (j : Int) < ((j : Int) + 1):=by omega
       have bjs2 : (j : Int) < ((j + 1 : Nat) : Int):=by omega
       have bji : (j : Int) < (i : Int):=by omega
       go_wp2_with fail;obtain ⟨X0,hX0⟩ : ∃ X,Y2.drew = X:=⟨_,rfl⟩
       have hr1 : Below Y2.heap.size Y2 X0:=by rw [<- hX0];exact Zi (Below.refl _ _) 1
       have hSv1 : Hid (∀ wx,Below Y2.heap.size Y2 wx -> wx.cell? ⟨gl,0,none⟩ = some (.bool ln) /\ wx.cell? ⟨gl,1,none⟩ = some (.slice lA lk lc) /\ wx.cell? ⟨gl,2,none⟩ = some (.bool lm) /\ wx.cell? ⟨gl,3,none⟩ = some (.slice lB lj ld) /\ wx.cell? ⟨go,oo + j * 4,none⟩ = some (.bool on_) /\ wx.cell? ⟨go,oo + j * 4 + 1,none⟩ = some (.slice oA ok oc) /\ wx.cell? ⟨go,oo + j * 4 + 2,none⟩ = some (.bool om) /\ wx.cell? ⟨go,oo + j * 4 + 3,none⟩ = some (.slice oB oj od) /\ wx.cell? ⟨gx,1,none⟩ = some (.slice (some ⟨gd,od',none⟩) i c2) /\ wx.cell? ⟨gd,od' + j * 4,none⟩ = some (.bool dn) /\ wx.cell? ⟨gd,od' + j * 4 + 1,none⟩ = some (.slice dA dk dc) /\ wx.cell? ⟨gd,od' + j * 4 + 2,none⟩ = some (.bool dm) /\ wx.cell? ⟨gd,od' + j * 4 + 3,none⟩ = some (.slice dB dj dd)):=Za (fun wx hbx=>⟨Zb hbx l0,Zb hbx l1,Zb hbx l2,Zb hbx l3,Zb hbx o0,Zb hbx o1,Zb hbx o2,Zb hbx o3,Zb hbx xy1,Zb hbx d0,Zb hbx d1,Zb hbx d2,Zb hbx d3⟩);refine wp_heldS [17] hmx hSv1 (by rw [hX0];exact hr1) (fun hxs=>?_);rw [hX0];refine Zrd 14 [0,1,2,3,4,5,6,7,8,9,10,11,12,13] rfl (by kernel_rfl) (hSv1.out _ hr1) ?_
       iterate 14 (refine tk1 (v:=?_) rfl (Or.inl ⟨by kernel_rfl,?_⟩) ?_;rotate_left;(· intro W2 hSw;(try dsimp only at hSw);go_simp;try with_reducible rfl);try simp only [Act.put,putL_a,putL_z,putL_s,putG_a,putG_s,putG_z])
       refine tk0 ?_;obtain ⟨Y1,hY1⟩ : ∃ Y,X0.alloc (.cells #[.bool on_,.slice oA ok oc,.bool om,.slice oB oj od,.bool dn,.slice dA dk dc,.bool dm,.slice dB dj dd] 91) = Y:=⟨_,rfl⟩;obtain ⟨ga1,hga1⟩ : ∃ g,X0.heap.size = g:=⟨_,rfl⟩
       have hBY : Below X0.heap.size X0 Y1:=by rw [<- hY1];exact (Below.refl _ _).alloc (Nat.le_refl _) _
       have hbY : Blk Y1 ga1 91 #[.bool on_,.slice oA ok oc,.bool om,.slice oB oj od,.bool dn,.slice dA dk dc,.bool dm,.slice dB dj dd]:=by rw [<- hY1,<- hga1];exact Blk.new _ _ _
       have hr2 : Below Y2.heap.size Y2 Y1:=hr1.trans (hBY.mono hr1.size);refine Ze (i:=14) rfl (by kernel_rfl) (fun K hK=>?_);go_simp;(try rw [hY1]);(try rw [hga1]);refine hK.out _ _ (fun _=>hSv1.out _ hr2) ?_;clear hK K hY1 hga1
       try simp only [Act.put,putL_a,putL_z,putL_s]
       refine Ze (i:=15) rfl (by kernel_rfl) (fun K hK=>?_);go_simp;refine (Zi6 on_ oA ok oc om oB oj od (lQ AQ i j) (some ⟨ga1,0,none⟩) 2 2 [lQ AQ i j,dQ AQ j] Y1 (hO.out.below hr2) (FL.pair2 hbY (hO.out.below hr2) (hD.out.below hr2)) (by omega) (Zhf hF.out hin hki hpos.out).1 (Zhf hF.out hin hki hpos.out).2).mono ?_;rintro e w5 ⟨hb5,an,aA,ak,ac,am,aB,aj,ad,rfl,hT⟩;have hr5:=hr2.trans (hb5.mono hr2.size);refine hK.out _ _ (fun _=>hSv1.out _ hr5) ?_;clear hK K
       try simp only [Act.put,putL_a,putL_z,putL_s]
       refine Ze (i:=16) rfl (by kernel_rfl) (fun K hK=>?_);go_simp;refine (Ziz ln lm an am lA lB aA aB lk lc lj ld ak ac aj ad _ _ w5 (hlY.out.below hr5) hT (Zn1 hF.out hin hki hpos.out).1 (Zn1 hF.out hin hki hpos.out).2).mono ?_;rintro e w6 ⟨hb6,bn,bA,bk,bc,bm,bB,bj,bd,rfl,hU⟩;have hr6:=hr5.trans (hb6.mono hr5.size);refine hK.out _ _ (fun _=>hSv1.out _ hr6) ?_;clear hK K
       try simp only [Act.put,putL_a,putL_z,putL_s]
       have hr6' : Below Y2.heap.size Y2 w6:=hr6;have hbt:=Zc hr6' hblY.out;obtain ⟨f0,f1,f2,f3,g0',g1',g2',g3'⟩:=hbt.four;obtain ⟨W7,hW7,p7,hK7,s7⟩:=Zcg bn bA bk bc bm bB bj bd hbt;have hU7:=Za (hU.keptN hK7 hbt (Zcl _ _ _ _ _ _ _ _));have hOwn7:=Za ((hO2'.out.kept hr6').keptG hbt (Zcl _ _ _ _ _ _ _ _) (fun e=>by have h8:=hO2'.out.row_ge gl e;omega) hK7);have hK8 : Hid (Kept (fun g=>g = gl) W2 W7):=Za ((hKY2.out.below hr6').trans hK7);replace p7:=Za p7;clear hK7 hU hT;refine Zt (i:=17) rfl (by kernel_rfl) (by kernel_rfl) (fun K hK=>?_);go_simp;(try rw [hW7]);refine hK.out _ _ ?_;clear hK K
       try simp only [Act.put,putL_a,putL_z,putL_s]
       refine Zl (by kernel_rfl) ?_ _;refine OnlyNormal.normal ?_;clear hW7 f0 f1 f2 f3 g0' g1' g2' g3' hbt hSv1 hxs hr1 hr2 hr5 hr6 hr6' hbY hBY hX0
       have hU8 : Hid (Fr W7 bn bA bk bc bm bB bj bd (Zaf AQ (j + 1) i i)):=Za (by
        rw [Zhr hF.out.sym hki (Nat.le_refl _) hin (hpos.out.ne hki)]
        exact hU7.out)
       have hO9 : Hid (OwnF 91 W7 W2.heap.size (.slice (some ⟨go,oo,none⟩) (j + 1) cp) (Ze5 AQ i (j + 1))):=Za (hOwn7.out);clear hU7;go_wp2_with fail
       go_roundg (i - (j + 1))
       case measure=>omega
       case rel=>exact ⟨j + 1,_,_,_,_,_,_,_,_,by omega,by go_num,hO9.out,p7.out,hU8,hK8.out⟩
      | succ t3 =>
       obtain rfl : t3 = k - (j + 1):=by omega
       have hjk : j < k:=by omega
       have t3 : decide ((j : Int) < (k : Int)) = true:=decide_eq_true (by omega)
       have bjk : (j : Int) < (k : Int):=by omega
       have bji : (j : Int) < (i : Int):=by omega
       have bki2 : (k : Int) < (i : Int):=by omega
       obtain ⟨go,oo,on_,oA,ok,oc,om,oB,oj,od,rfl,⟨o0,o1,o2,o3⟩,hO⟩:=(hFo.out.below hBj.out).at_ hjk;obtain ⟨g1,o1',A',n',c',rfl,ck,hRk⟩:=(hM1.out.below hBrj.out).at_ hki;rw [Zqy hki] at hRk
       have hnk : n' = k:=by rw [<- hRk.len,Zfk]
       rw [hnk] at hRk ck;clear hnk n';have hrc:=hRk.cap;unfold maxLen at hrc;obtain ⟨gq,oq,qn,qA,qk,qc,qm,qB,qj,qd,rfl,⟨q0,q1,q2,q3⟩,hQ⟩:=hRk.at_ hjk;obtain ⟨gd,od',dn,dA,dk,dc,dm,dB,dj,dd,rfl,⟨d0,d1,d2,d3⟩,hD⟩:=(hL2.out.below hBrj.out).at_ (show j < i by omega);rw [Znn hjk] at hO hQ;rw [Zl0 (show j < i by omega)] at hD;replace hO:=Za hO;replace hQ:=Za hQ;replace hD:=Za hD;clear hRk;go_wp2_with fail;obtain ⟨X0,hX0⟩ : ∃ X,wj.drew = X:=⟨_,rfl⟩
       have hr1 : Below wj.heap.size wj X0:=by rw [<- hX0];exact Zi (Below.refl _ _) 1
       have hSv1 : Hid (∀ wx,Below wj.heap.size wj wx -> wx.cell? ⟨gs,0,none⟩ = some (.bool sn) /\ wx.cell? ⟨gs,1,none⟩ = some (.slice sA sk sc) /\ wx.cell? ⟨gs,2,none⟩ = some (.bool sm) /\ wx.cell? ⟨gs,3,none⟩ = some (.slice sB sj sd) /\ wx.cell? ⟨go,oo + j * 4,none⟩ = some (.bool on_) /\ wx.cell? ⟨go,oo + j * 4 + 1,none⟩ = some (.slice oA ok oc) /\ wx.cell? ⟨go,oo + j * 4 + 2,none⟩ = some (.bool om) /\ wx.cell? ⟨go,oo + j * 4 + 3,none⟩ = some (.slice oB oj od) /\ wx.cell? ⟨gx,0,none⟩ = some (.slice (some ⟨g1,o1',none⟩) i c1) /\ wx.cell? ⟨g1,o1' + k,none⟩ = some (.slice (some ⟨gq,oq,none⟩) k c') /\ wx.cell? ⟨gq,oq + j * 4,none⟩ = some (.bool qn) /\ wx.cell? ⟨gq,oq + j * 4 + 1,none⟩ = some (.slice qA qk qc) /\ wx.cell? ⟨gq,oq + j * 4 + 2,none⟩ = some (.bool qm) /\ wx.cell? ⟨gq,oq + j * 4 + 3,none⟩ = some (.slice qB qj qd) /\ wx.cell? ⟨gx,1,none⟩ = some (.slice (some ⟨gd,od',none⟩) i c2) /\ wx.cell? ⟨gd,od' + j * 4,none⟩ = some (.bool dn) /\ wx.cell? ⟨gd,od' + j * 4 + 1,none⟩ = some (.slice dA dk dc) /\ wx.cell? ⟨gd,od' + j * 4 + 2,none⟩ = some (.bool dm) /\ wx.cell? ⟨gd,od' + j * 4 + 3,none⟩ = some (.slice dB dj dd)):=Za (fun wx hbx=>⟨Zb hbx s0,Zb hbx s1,Zb hbx s2,Zb hbx s3,Zb hbx o0,Zb hbx o1,Zb hbx o2,Zb hbx o3,Zb hbx xj0,Zb hbx ck,Zb hbx q0,Zb hbx q1,Zb hbx q2,Zb hbx q3,Zb hbx xj1,Zb hbx d0,Zb hbx d1,Zb hbx d2,Zb hbx d3⟩);refine wp_heldS [21] hmx hSv1 (by rw [hX0];exact hr1) (fun hxs=>?_);rw [hX0]
       refine Zrd 18 [0,1,2,3,4,5,6,7,8,9,10,11,12,13,14,15,16,17] rfl (by kernel_rfl) (hSv1.out _ hr1) ?_
       iterate 18 (refine tk1 (v:=?_) rfl (Or.inl ⟨by kernel_rfl,?_⟩) ?_;rotate_left;(· intro W2 hSw;(try dsimp only at hSw);go_simp;try with_reducible rfl);try simp only [Act.put,putL_a,putL_z,putL_s,putG_a,putG_s,putG_z])
       refine tk0 ?_;obtain ⟨Y1,hY1⟩ : ∃ Y,X0.alloc (.cells #[.bool qn,.slice qA qk qc,.bool qm,.slice qB qj qd,.bool dn,.slice dA dk dc,.bool dm,.slice dB dj dd] 91) = Y:=⟨_,rfl⟩;obtain ⟨ga1,hga1⟩ : ∃ g,X0.heap.size = g:=⟨_,rfl⟩
       have hBY : Below X0.heap.size X0 Y1:=by rw [<- hY1];exact (Below.refl _ _).alloc (Nat.le_refl _) _
       have hbY : Blk Y1 ga1 91 #[.bool qn,.slice qA qk qc,.bool qm,.slice qB qj qd,.bool dn,.slice dA dk dc,.bool dm,.slice dB dj dd]:=by rw [<- hY1,<- hga1];exact Blk.new _ _ _
       have hr2 : Below wj.heap.size wj Y1:=hr1.trans (hBY.mono hr1.size);refine Ze (i:=18) rfl (by kernel_rfl) (fun K hK=>?_);go_simp;(try rw [hY1]);(try rw [hga1]);refine hK.out _ _ (fun _=>hSv1.out _ hr2) ?_;clear hK K hY1 hga1
       try simp only [Act.put,putL_a,putL_z,putL_s]
       refine Ze (i:=19) rfl (by kernel_rfl) (fun K hK=>?_);go_simp;refine (Zi6 on_ oA ok oc om oB oj od (lQ AQ i j) (some ⟨ga1,0,none⟩) 2 2 [lQ AQ k j,dQ AQ j] Y1 (hO.out.below hr2) (FL.pair2 hbY (hQ.out.below hr2) (hD.out.below hr2)) (by omega) (Zis hF.out hin hki hjk hpos.out).1 (Zis hF.out hin hki hjk hpos.out).2).mono ?_;rintro e w5 ⟨hb5,an,aA,ak,ac,am,aB,aj,ad,rfl,hT⟩;have hr5:=hr2.trans (hb5.mono hr2.size);refine hK.out _ _ (fun _=>hSv1.out _ hr5) ?_;clear hK K
       try simp only [Act.put,putL_a,putL_z,putL_s]
       refine Ze (i:=20) rfl (by kernel_rfl) (fun K hK=>?_);go_simp;refine (Ziz sn sm an am sA sB aA aB sk sc sj sd ak ac aj ad _ _ w5 (hs.out.below hr5) hT (Zpl hF.out hin hki hjk hpos.out).1 (Zpl hF.out hin hki hjk hpos.out).2).mono ?_;rintro e w6 ⟨hb6,bn,bA,bk,bc,bm,bB,bj,bd,rfl,hU⟩;have hr6:=hr5.trans (hb6.mono hr5.size);refine hK.out _ _ (fun _=>hSv1.out _ hr6) ?_;clear hK K
       try simp only [Act.put,putL_a,putL_z,putL_s]
       have hr6' : Below wj.heap.size wj w6:=hr6;have hbt:=Zc hr6' hbs;obtain ⟨f0,f1,f2,f3,g0',g1',g2',g3'⟩:=hbt.four;obtain ⟨W7,hW7,p7,hK7,s7⟩:=Zcg bn bA bk bc bm bB bj bd hbt;have hU7:=Za (hU.keptN hK7 hbt (Zcl _ _ _ _ _ _ _ _));have hK8 : Hid (Kept (fun g=>g = gs) W4 W7):=Za ((hK5.below hr6').trans hK7);replace p7:=Za p7;clear hK7 hU hT;refine Zt (i:=21) rfl (by kernel_rfl) (by kernel_rfl) (fun K hK=>?_);go_simp;(try rw [hW7]);refine hK.out _ _ ?_;clear hK K
       try simp only [Act.put,putL_a,putL_z,putL_s]
       refine Zl (by kernel_rfl) ?_ _;refine OnlyNormal.normal ?_;clear hW7 f0 f1 f2 f3 g0' g1' g2' g3' hbt hSv1 hxs hr1 hr2 hr5 hr6 hr6' hbY hBY hX0
       have hU8 : Hid (Fr W7 bn bA bk bc bm bB bj bd (Zaf AQ (j + 1) i k)):=Za (by
        rw [Zhr hF.out.sym hjk (by omega) hin (hpos.out.ne (by omega))]
        exact hU7.out)
       clear hU7;go_wp2_with fail
       go_roundg (k - (j + 1))
       case measure=>omega
       case rel=>exact ⟨j + 1,_,_,_,_,_,_,_,_,by omega,by go_num,p7.out,hU8,hK8.out⟩
theorem fCmp_ok (na nb na' nb' : Bool) (A B A' B' : Option Addr) (n c m d n' c' m' d' : Nat) (a b : Rat) (w : World) (ha : Fr w na A n c nb B m d a) (hb : Fr w na' A' n' c' nb' B' m' d' b) (sa : Sm a) (sb : Sm b) :
    Calls Tryz.prog 88 #[.agg #[.bool na,.slice A n c,.bool nb,.slice B m d],.agg #[.bool na',.slice A' n' c',.bool nb',.slice B' m' d']] w fun e w'=>e = .returned (.tuple #[.int .i64 (cmpQ a b),.int .i64 0]) /\ Below w.heap.size w w':=by
 rw [<- Zpm];obtain ⟨R,hR⟩ : ∃ R,Zbp (a.num * b.den) (b.num * a.den) = R:=⟨_,rfl⟩;rw [hR];replace hR:=Za hR
 have hmx : Tryz.prog.follows .mixedOrders = true:=by kernel_rfl
 have h1:=Za (Zct sa.1 sb.dn);have h2:=Za (Zct sb.1 sa.dn);obtain ⟨W0,hW0,hB0,⟨q0,q1,q2⟩,s0⟩:=Zcp w 29 #[.bool na,.slice A n c,.bool nb,.slice B m d] 29 #[.bool na',.slice A' n' c',.bool nb',.slice B' m' d'] 30 #[.int .i64 0];have hA:=Za (ha.below hB0);have hD:=Za (hb.below hB0);clear ha hb sa sb;obtain ⟨a0,a1,a2,a3,-⟩:=q0.four;have hq:=Za (And.intro q0 (And.intro q1 q2));clear q0 q1 q2
 go_enter_defers Tryz.func88,Tryz.ntmps88
 go_wp2_with fail;refine (Zbr na nb A B n c m d a W0 hA.out).mono ?_;rintro e w1 ⟨rfl,hb1⟩;have hB1 : Below w.heap.size w w1:=hB0.trans (hb1.mono hB0.size);have s1 : W0.heap.size <= w1.heap.size:=hb1.size;replace hA:=Za (hA.out.below hb1);replace hD:=Za (hD.out.below hb1);obtain ⟨q0,q1,q2⟩:=hq.out;replace q0:=Zc hb1 q0;replace q1:=Zc hb1 q1;replace q2:=Zc hb1 q2;clear hW0 hq hb1 hB0 a0 a1 a2 a3;obtain ⟨b0,b1,b2,b3,-⟩:=q1.four;have hq:=Za (And.intro q0 (And.intro q1 q2));clear q0 q1 q2;go_wp2_with fail;refine (Zcc w1).mono ?_;rintro e w1 ⟨rfl,rfl⟩;go_wp2_with fail;refine (Zbr na' nb' A' B' n' c' m' d' b w1 hD.out).mono ?_;rintro e w2 ⟨rfl,hb2⟩;have hB:=Za (hB1.trans (hb2.mono hB1.size));have sz:=Za hB.out.size;have s2 : w1.heap.size <= w2.heap.size:=hb2.size;replace hA:=Za (hA.out.below hb2);replace hD:=Za (hD.out.below hb2);obtain ⟨q0,q1,q2⟩:=hq.out;replace q0:=Za (Zc hb2 q0);replace q1:=Za (Zc hb2 q1);replace q2:=Za (Zc hb2 q2);clear hq hb2 hB1 b0 b1 b2 b3;go_wp2_with fail;refine (Zcc w2).mono ?_;rintro e w2 ⟨rfl,rfl⟩;obtain ⟨a0,a1,a2,a3,-⟩:=q0.out.four;obtain ⟨b0,b1,b2,b3,-⟩:=q1.out.four;go_wp2_with fail
 refine Zaa [10] (fun W'=>W'.cell? ⟨w.heap.size,0,none⟩ = some (.bool na) /\ W'.cell? ⟨w.heap.size,1,none⟩ = some (.slice A n c) /\ W'.cell? ⟨w.heap.size,2,none⟩ = some (.bool nb) /\ W'.cell? ⟨w.heap.size,3,none⟩ = some (.slice B m d) /\ W'.cell? ⟨w.heap.size + 1,0,none⟩ = some (.bool na') /\ W'.cell? ⟨w.heap.size + 1,1,none⟩ = some (.slice A' n' c') /\ W'.cell? ⟨w.heap.size + 1,2,none⟩ = some (.bool nb') /\ W'.cell? ⟨w.heap.size + 1,3,none⟩ = some (.slice B' m' d')) hmx ⟨a0,a1,a2,a3,b0,b1,b2,b3⟩ (fun _=>?_);refine Zrd 4 [0,1,3,4] rfl (by kernel_rfl) ⟨a0,a1,a2,a3,b0,b1,b2,b3⟩ ?_
 iterate 4 (refine tk1 (v:=?_) rfl (Or.inl ⟨by kernel_rfl,?_⟩) ?_;rotate_left;(· intro W2 hSw;(try dsimp only at hSw);go_simp;try with_reducible rfl);try simp only [Act.put,putL_a,putL_z,putL_s,putG_a,putG_s,putG_z])
 refine tk0 ?_;refine Ze (i:=2) rfl (by kernel_rfl) (fun K hK=>?_);go_simp;refine (Zdz na nb na' nb' A B A' B' n c m d n' c' m' d' a b w2.drew hA.out hD.out h1.out).mono ?_;rintro e w3 ⟨hb3,nu,U,k1,u,rfl,hU⟩;replace hb3:=Zq hb3;replace hU:=Za hU;replace q0:=Za (Zc hb3 q0.out);replace q1:=Za (Zc hb3 q1.out);replace q2:=Za (Zc hb3 q2.out);replace hA:=Za (hA.out.below hb3);replace hD:=Za (hD.out.below hb3);replace hB:=Za (hB.out.trans (hb3.mono sz.out));replace sz:=Za (Nat.le_trans sz.out hb3.size);clear a0 a1 a2 a3 b0 b1 b2 b3;obtain ⟨a0,a1,a2,a3,-⟩:=q0.out.four;obtain ⟨b0,b1,b2,b3,-⟩:=q1.out.four;clear hb3;refine hK.out _ _ (fun _=>⟨a0,a1,a2,a3,b0,b1,b2,b3⟩) ?_;clear hK K
 try simp only [Act.put,putL_a,putL_z,putL_s]
 refine Ze (i:=5) rfl (by kernel_rfl) (fun K hK=>?_);go_simp;refine (Zdz na' nb' na nb A' B' A B n' c' m' d' n c m d b a w3 hD.out hA.out h2.out).mono ?_;rintro e w4 ⟨hb4,nv,V,k2,v,rfl,hV⟩;replace hU:=Za (hU.out.below hb4);replace hV:=Za hV;replace q0:=Za (Zc hb4 q0.out);replace q1:=Za (Zc hb4 q1.out);replace q2:=Za (Zc hb4 q2.out);replace hA:=Za (hA.out.below hb4);replace hD:=Za (hD.out.below hb4);replace hB:=Za (hB.out.trans (hb4.mono sz.out));replace sz:=Za (Nat.le_trans sz.out hb4.size);clear a0 a1 a2 a3 b0 b1 b2 b3;obtain ⟨a0,a1,a2,a3,-⟩:=q0.out.four;obtain ⟨b0,b1,b2,b3,-⟩:=q1.out.four;clear hb4;refine hK.out _ _ (fun _=>⟨a0,a1,a2,a3,b0,b1,b2,b3⟩) ?_;clear hK K
 try simp only [Act.put,putL_a,putL_z,putL_s]
 refine Ze (i:=6) rfl (by kernel_rfl) (fun K hK=>?_);go_simp;refine (Zkd nu nv U V k1 u k2 v _ _ w4 hU.out hV.out).mono ?_;rw [hR.out];rintro e w5 ⟨rfl,hb5⟩;replace q0:=Za (Zc hb5 q0.out);replace q1:=Za (Zc hb5 q1.out);replace q2:=Za (Zc hb5 q2.out);replace hA:=Za (hA.out.below hb5);replace hD:=Za (hD.out.below hb5);replace hB:=Za (hB.out.trans (hb5.mono sz.out));replace sz:=Za (Nat.le_trans sz.out hb5.size);clear a0 a1 a2 a3 b0 b1 b2 b3;obtain ⟨a0,a1,a2,a3,-⟩:=q0.out.four;obtain ⟨b0,b1,b2,b3,-⟩:=q1.out.four;clear hb5;have x0:=q2.out.cell 0;have f0:=q2.out.frozen 0
 simp at x0
 refine hK.out _ _ (fun _=>⟨a0,a1,a2,a3,b0,b1,b2,b3⟩) ?_;clear hK K
 try simp only [Act.put,putL_a,putL_z,putL_s]
 refine Zrd 3 [7,8,9] rfl (by kernel_rfl) ⟨a0,a1,a2,a3,b0,b1,b2,b3⟩ ?_
 iterate 3 (refine tk1 (v:=?_) rfl (Or.inl ⟨by kernel_rfl,?_⟩) ?_;rotate_left;(· intro W2 hSw;(try dsimp only at hSw);go_simp;try with_reducible rfl);try simp only [Act.put,putL_a,putL_z,putL_s,putG_a,putG_s,putG_z])
 refine tk0 ?_;refine Zt (i:=10) rfl (by kernel_rfl) (by kernel_rfl) (fun K hK=>?_);go_simp;obtain ⟨W6,hW6,hB6,q2',kW,kB,s6⟩:=Za3 0 hB.out (by omega) q2.out;rw [hW6];refine hK.out _ _ ?_;clear hK K
 try simp only [Act.put,putL_a,putL_z,putL_s]
 refine Zl (by kernel_rfl) ?_ _;refine OnlyNormal.normal ?_;have r4:=q2'.cell 0
 simp at r4
 go_wp2_with fail;refine leaves_cons (f:=128) (args:=#[.pointer (some ⟨w.heap.size + 1 + 1,0,none⟩)]) (by simp) (by simp [go_sem]) ?_;refine (Za9 _ _).mono ?_;rintro e u' w'' ⟨rfl,rfl,rfl⟩;refine ⟨.tuple #[.int .i64 R,.int .i64 0],by simp [results,Tryz.results88,go_sem,r4],rfl,hB6⟩
def LookPost (rs : List RX) (w : World) (e : Ending) (w' : World) : Prop:=
 Below w.heap.size w w' /\ ((Za8 rs = 0 /\ ∃ v1 v2 L,e = .returned (.agg #[v1,v2]) /\ FacM 84 91 w' w.heap.size v1 v2 L (Zd5 (Zm (qM rs)) rs.length) (dsL (Zm (qM rs)) rs.length)) \/
  (Za8 rs ≠ 0 /\ e = .panicked [{ v:=.iface 133 (.agg #[.int .i64 (Za8 rs)]),recovered:=false }]))
theorem LookPost.fall {rs : List RX} {w w' : World} {E : Int} (hb : Below w.heap.size w w') (h : Za8 rs = E) (h0 : E ≠ 0) : LookPost rs w (.panicked [{ v:=.iface 133 (.agg #[.int .i64 E]),recovered:=false }]) w':=by
 subst h;exact ⟨hb,.inr ⟨h0,rfl⟩⟩
theorem Zop (A : Option Addr) (n c : Nat) (rs : List RX) (w : World) (h : MXL w A n c rs) (hF : FacC rs) :
    Calls Tryz.prog 42 #[.slice A n c] w (LookPost rs w):=by
 have hmx : Tryz.prog.follows .mixedOrders = true:=by kernel_rfl
 have hl:=Za h.1;have hnc:=h.2.1;have hcm:=h.2.2.1;unfold maxLen at hcm;obtain ⟨W0,hW0,hB0,q0,s0⟩:=Zb3 w 86 #[.slice none 0 0,.slice none 0 0];obtain ⟨gx,hgx⟩ : ∃ g,w.heap.size = g:=⟨_,rfl⟩
 by_cases h6 : 6 < n
 ·have t1 : decide ((n : Int) <= 6) = false:=decide_eq_false (by omega)
  have hE : Hid (Za8 rs = 4):=Za (Zf9 (by unfold long6;rw [hl.out,decide_eq_true h6];rfl));clear h;go_enter Tryz.func42,Tryz.ntmps42;go_wp2_with fail;(try rw [hW0]);refine (Zb2 4 W0).mono ?_;rintro e w6 ⟨rfl,rfl⟩;go_wp2_with fail;exact ⟨rfl,LookPost.fall hB0 hE.out (by decide)⟩
 have t1 : decide ((n : Int) <= 6) = true:=decide_eq_true (by omega);obtain ⟨x,hx⟩ : ∃ x,rs.any RX.long6 = x:=⟨_,rfl⟩
 have hlm : long6 rs = x:=by unfold long6;rw [hl.out,decide_eq_false h6,hx];rfl
 have hC:=Za (fun W1 (hb : Below w.heap.size w W1)=>Zng A n c rs W1 (h.below hb) x hx);replace hx:=Za hx;replace hlm:=Za hlm
 cases x
 case true =>
  have hE : Hid (Za8 rs = 4):=Za (Zf9 hlm.out);clear h;go_enter Tryz.func42,Tryz.ntmps42;go_wp2_with fail;(try rw [hW0]);refine (hC.out _ hB0).mono ?_;rintro e w1 ⟨rfl,hb1⟩;go_wp2_with fail;refine (Zb2 4 w1).mono ?_;rintro e w6 ⟨rfl,rfl⟩;go_wp2_with fail;exact ⟨rfl,LookPost.fall (hB0.trans (hb1.mono hB0.size)) hE.out (by decide)⟩
 by_cases hn0 : n = 0
 ·subst hn0
  have hE : Hid (Za8 rs = 8):=Za (Zqn hlm.out hl.out);clear h;go_enter Tryz.func42,Tryz.ntmps42;go_wp2_with fail;(try rw [hW0]);refine (hC.out _ hB0).mono ?_;rintro e w1 ⟨rfl,hb1⟩;go_wp2_with fail;refine (Zcn 4 w1).mono ?_;rintro e w1 ⟨rfl,rfl⟩;go_wp2_with fail;refine (Zb2 8 w1).mono ?_;rintro e w6 ⟨rfl,rfl⟩;go_wp2_with fail;exact ⟨rfl,LookPost.fall (hB0.trans (hb1.mono hB0.size)) hE.out (by decide)⟩
 have t2 : decide ((0 : Int) < (n : Int)) = true:=decide_eq_true (by omega);have t2' : decide (0 < n) = true:=decide_eq_true (by omega);have hH:=Za h;have hq0:=Za q0;replace hn0:=Za hn0;clear h q0;go_enter Tryz.func42,Tryz.ntmps42;go_wp2_with fail;(try rw [hW0]);refine (hC.out _ hB0).mono ?_;rintro e w1 ⟨rfl,hb1⟩;have hB1:=hB0.trans (hb1.mono hB0.size);have hq1:=Za (Zc hb1 hq0.out);clear hq0 hC hb1 hB0 hW0 s0;go_wp2_with fail;refine (Zcn 4 w1).mono ?_;rintro e w1 ⟨rfl,rfl⟩;go_wp2_with fail;refine (Zcn 8 w1).mono ?_;rintro e w1 ⟨rfl,rfl⟩;go_wp2_with fail
 go_loopg [27] n (fun t iv wr=>∃ i : Nat,i + t = n /\ iv = .int .i64 i /\ Hid (∀ j r,j < i -> rs[j]? = some r -> Zck rs.length r = true) /\ Below w1.heap.size w1 wr)
 case atStart=>exact ⟨0,by omega,rfl,Za (fun j r hj=>by omega),Below.refl _ _⟩
 case round =>
  obtain ⟨wi,rfl⟩ : ∃ x : World,x = wr:=⟨_,rfl⟩;obtain ⟨i,hik,rfl,hall,hBi⟩:=hrel;have hBw:=hB1.trans (hBi.mono hB1.size)
  cases gk with
  | succ t =>
   obtain rfl : t = n - (i + 1):=by omega
   have hin : i < n:=by omega
   have t3 : decide ((i : Int) < (n : Int)) = true:=decide_eq_true (by omega)
   have bi : (i : Int) < (n : Int):=by omega
   obtain ⟨g,o,r,rfl,he,c0,hL⟩:=(hH.out.below hBw).at_ hin;have hrl:=hL.nlenC;unfold maxLen at hrl;have bad : Hid (Zck rs.length r = false -> Za8 rs = 8):=Za (fun hf=>Zpw hlm.out (by rw [hl.out];exact hn0.out) (List.mem_of_getElem? he) hf)
   have good : Hid (Zck rs.length r = true -> ∀ j r',j < i + 1 -> rs[j]? = some r' -> Zck rs.length r' = true):=Za (fun hf j r' hj he'=>by
    rcases Nat.lt_or_ge j i with h' | h'
    ·exact hall.out j r' h' he'
    ·obtain rfl : j = i:=by omega
     rw [he] at he'
     cases he'
     exact hf)
   replace he:=Za he
   by_cases hq : r.n = n
   case neg =>
    have t4 : ((r.n : Int) == (n : Int)) = false:=beq_eq_false_iff_ne.2 (by omega)
    have t4' : decide (r.n = n) = false:=by simpa using hq
    have hE : Hid (Za8 rs = 8):=Za (bad.out (by unfold Zck;rw [hl.out,decide_eq_false hq];rfl));replace hq:=Za hq;clear hL;go_wp2_with fail;refine (Zb2 8 wi).mono ?_;rintro e w6 ⟨rfl,rfl⟩;go_wp2_with fail;exact ⟨rfl,LookPost.fall hBw hE.out (by decide)⟩
   have t4 : ((r.n : Int) == (n : Int)) = true:=beq_iff_eq.2 (by omega)
   have t4' : decide (r.n = n) = true:=by simpa using hq
   obtain ⟨y,hy⟩ : ∃ y,Zdg r.es = y:=⟨_,rfl⟩;have hV:=Za (fun W1 (hb : Below wi.heap.size wi W1)=>Zkw r.A r.n r.c r.es W1 (hL.below hb) y hy);have hqn:=Za hq;replace hq:=Za hq;clear hL
   cases y
   ·have hE : Hid (Za8 rs = 8):=Za (bad.out (by unfold Zck;rw [hy];simp))
    clear hy;go_wp2_with fail;refine (hV.out _ (by first | exact Below.refl _ _ | exact Zi (Below.refl _ _) _)).mono ?_;rintro e' w2 ⟨rfl,hb2⟩;go_wp2_with fail;refine (Zb2 8 w2).mono ?_;rintro e w6 ⟨rfl,rfl⟩;go_wp2_with fail;exact ⟨rfl,LookPost.fall (hBw.trans (hb2.mono hBw.size)) hE.out (by decide)⟩
   ·have hall2:=Za (good.out (by unfold Zck;rw [hy,hl.out,hqn.out,decide_eq_true rfl];rfl))
    clear hy;go_wp2_with fail;refine (hV.out _ (by first | exact Below.refl _ _ | exact Zi (Below.refl _ _) _)).mono ?_;rintro e' w2 ⟨rfl,hb2⟩;go_wp2_with fail;refine (Zcn 8 w2).mono ?_;rintro e w2 ⟨rfl,rfl⟩;go_wp2_with fail
    go_roundg (n - (i + 1))
    case measure=>omega
    case rel=>exact ⟨i + 1,by omega,by go_num,hall2,hBi.trans (hb2.mono hBi.size)⟩
  | zero =>
   obtain rfl : i = n:=by omega
   have t3 : decide ((i : Int) < (i : Int)) = false:=by simp
   have hV : Hid (covV rs):=Za ⟨hlm.out,by rw [hl.out];exact hn0.out,by
    rw [List.all_eq_true];intro r hr;obtain ⟨j,hj,e⟩:=List.getElem_of_mem hr
    exact hall.out j r (by rw [hl.out] at hj;exact hj) (by rw [List.getElem?_eq_getElem hj,e])⟩
   have hqi:=Za (Zc hBi hq1.out);have hM:=Za (hV.out.good (hH.out.below hBw));have hSm : Hid (∀ a b,Sm (Zm (qM rs) a b)):=Za (fun a b=>(hV.out.small64 hH.out).smC (by decide) a b);have hrow : Hid (∀ a,a < i -> ((qM rs)[a]?.getD []).length = i):=Za (fun a ha=>hV.out.row hH.out a ha);clear hq1;go_wp2_with fail
   go_loopg [44] i (fun t jv wr=>∃ j : Nat,j + t = i /\ jv = .int .i64 j /\ Hid (∀ a b,a < j -> b < a -> Zm (qM rs) a b = Zm (qM rs) b a) /\ Below wi.heap.size wi wr)
   case atStart=>exact ⟨0,by omega,rfl,Za (fun a b ha=>by omega),Below.refl _ _⟩
   case round =>
    obtain ⟨wj,rfl⟩ : ∃ x : World,x = wr:=⟨_,rfl⟩;obtain ⟨j,hjk,rfl,hsy,hBj⟩:=hrel;have hBwj:=hBw.trans (hBj.mono hBw.size)
    cases gk with
    | zero =>
     obtain rfl : j = i:=by omega
     have t4 : decide ((j : Int) < (j : Int)) = false:=by simp
     have hs : Hid (Zey (qM rs) = true):=Za (by
      unfold Zey;rw [decide_eq_true_eq];intro a ha b hb;rw [show (qM rs).length = j by unfold qM;rw [List.length_map,hl.out]] at ha
      exact hsy.out a b ha hb)
     have hFP : Hid (FacP (Zm (qM rs)) j):=Za (by have:=hF hV.out hs.out;rw [hl.out] at this;exact this);go_wp2_with fail;refine (Zm3 A j c (qM rs) wj (hM.out.below hBj) (by omega) hrow.out hFP.out).mono ?_;rintro e w5 ⟨hb5,⟨hp,v1,v2,L,rfl,hFM⟩ | ⟨hn,rfl⟩⟩
     ·have hqj:=Zc (hBj.trans (hb5.mono hBj.size)) hqi.out
      rw [hgx] at hqj;obtain ⟨A1,c1,rfl,-⟩:=hFM.1.mflA;obtain ⟨A2,c2,rfl,-⟩:=hFM.2.1.fl;rw [Zbn,Zcu] at hFM ⊢
      have y0 : w5.cell? ⟨gx,0,none⟩ = some (.slice none 0 0):=by rw [hqj.cell];rfl
      have y1 : w5.cell? ⟨gx,1,none⟩ = some (.slice none 0 0):=by rw [hqj.cell];rfl
      have z0:=hqj.frozen 0;have z1:=hqj.frozen 1;obtain ⟨X,hX⟩ : ∃ X,(w5.setCell ⟨gx,0,none⟩ (.slice A1 j c1)).setCell ⟨gx,1,none⟩ (.slice A2 j c2) = X:=⟨_,rfl⟩
      have hKX : Kept (fun k=>k = gx) w5 X:=by rw [<- hX];exact Kept.set_ (G:=fun k=>k = gx) (Kept.set_ (G:=fun k=>k = gx) (Kept.refl _ _) (p:=⟨gx,0,none⟩) (.inl rfl) _) (p:=⟨gx,1,none⟩) (.inl rfl) _
      have hbX : Blk X gx 86 #[.slice A1 j c1,.slice A2 j c2]:=by rw [<- hX];exact (hqj.set_ 0 (.slice A1 j c1)).set_ 1 (.slice A2 j c2)
      have x0 : X.cell? ⟨gx,0,none⟩ = some (.slice A1 j c1):=by rw [hbX.cell];rfl
      have x1 : X.cell? ⟨gx,1,none⟩ = some (.slice A2 j c2):=by rw [hbX.cell];rfl
      have hgj : gx < wj.heap.size:=by have:=hqi.out.lt;rw [hgx] at this;have:=hBj.size;omega
      have hFX:=Za (hFM.box hqj (Zb6 _ _ _ _ _ _) hgj hKX);have hp0 : Hid (Za8 rs = 0):=Za (hV.out.pos hs.out (by rw [hl.out];exact hp));have hB5 : Hid (Below w.heap.size w w5):=Za (hBwj.trans (hb5.mono hBwj.size));have hBX : Hid (Below w.heap.size w X):=Za (hB5.out.trans (hKX.to_below (fun k e=>by omega) (by have:=hB5.out.size;exact this)));have hwj : Hid (w.heap.size <= wj.heap.size):=Za hBwj.size;clear hFM hKX hbX hqj hp;(try rw [hgx]);go_wp2_with fail;(try rw [hgx]);(try rw [hX]);refine bodyPost_ret (v:=.agg #[.slice A1 j c1,.slice A2 j c2]) (by simp [results,Tryz.results42,go_sem,x0,x1,hgx]) rfl ?_;refine ⟨hBX.out,.inl ⟨hp0.out,_,_,L,rfl,?_⟩⟩;rw [hl.out];exact hFX.out.lower hwj.out
     ·have hE : Hid (Za8 rs = 8):=Za (hV.out.neg hs.out (by rw [hl.out];exact hn))
      go_wp2_with fail;exact ⟨rfl,LookPost.fall (hBwj.trans (hb5.mono hBwj.size)) hE.out (by decide)⟩
    | succ t =>
     obtain rfl : t = i - (j + 1):=by omega
     have hji : j < i:=by omega
     have t4 : decide ((j : Int) < (i : Int)) = true:=decide_eq_true (by omega)
     have bj : (j : Int) < (i : Int):=by omega
     obtain ⟨g,o,A',n',c',rfl,c0,hR⟩:=(hM.out.below hBj).at_ hji
     have hn' : i = n':=by rw [<- hR.len];exact (hrow.out j hji).symm
     subst hn';have hrcap:=hR.cap;unfold maxLen at hrcap;replace hR:=Za hR;go_wp2_with fail
     go_loopg [50] j (fun t kv wr=>∃ k : Nat,k + t = j /\ kv = .int .i64 k /\ Hid (∀ b,b < k -> Zm (qM rs) j b = Zm (qM rs) b j) /\ Below wj.heap.size wj wr)
     case atStart=>exact ⟨0,by omega,rfl,Za (fun b hb=>by omega),Below.refl _ _⟩
     case round =>
      obtain ⟨wk,rfl⟩ : ∃ x : World,x = wr:=⟨_,rfl⟩;obtain ⟨k,hkk,rfl,hsk,hBk⟩:=hrel
      cases gk with
      | zero =>
       obtain rfl : k = j:=by omega
       have t5 : decide ((k : Int) < (k : Int)) = false:=by simp
       have hsy2 : Hid (∀ a b,a < k + 1 -> b < a -> Zm (qM rs) a b = Zm (qM rs) b a):=Za (fun a b ha hb=>by
        rcases Nat.lt_or_ge a k with h' | h'
        ·exact hsy.out a b h' hb
        ·obtain rfl : a = k:=by omega
         exact hsk.out b hb)
       go_wp2_with fail
       go_roundg (i - (k + 1))
       case measure=>omega
       case rel=>exact ⟨k + 1,by omega,by go_num,hsy2,hBj.trans (hBk.mono hBj.size)⟩
      | succ t' =>
       obtain rfl : t' = j - (k + 1):=by omega
       have hkj : k < j:=by omega
       have t5 : decide ((k : Int) < (j : Int)) = true:=decide_eq_true (by omega)
       have bk : (k : Int) < (j : Int):=by omega
       have bki : (k : Int) < (i : Int):=by omega
       have hBjk:=hBj.trans (hBk.mono hBj.size);obtain ⟨ga,oa,xn,xA,xk,xc,xm,xB,xj,xd,rfl,⟨r0,r1,r2,r3⟩,hX⟩:=(hR.out.below hBk).at_ (show k < i by omega);obtain ⟨A2,n2,c2,ck,hR2⟩:=(hM.out.below hBjk).atS (show k < i by omega)
       have hn2 : i = n2:=by rw [<- hR2.len];exact (hrow.out k (by omega)).symm
       subst hn2;have hrcap2:=hR2.cap;unfold maxLen at hrcap2;obtain ⟨gb,ob,yn,yA,yk,yc,ym,yB,yj,yd,rfl,⟨s0,s1,s2,s3⟩,hY⟩:=hR2.at_ hji;have eX : ((qM rs)[j]?.getD [])[k]?.getD 0 = Zm (qM rs) j k:=rfl;have eY : ((qM rs)[k]?.getD [])[j]?.getD 0 = Zm (qM rs) k j:=rfl;rw [eX] at hX;rw [eY] at hY;replace hX:=Za hX;replace hY:=Za hY;clear eX eY hR2;go_wp2_with fail;obtain ⟨X0,hX0⟩ : ∃ X,wk.drew = X:=⟨_,rfl⟩
       have hr1 : Below wk.heap.size wk X0:=by rw [<- hX0];exact Zi (Below.refl _ _) 1
       have hSv1 : Hid (∀ wx,Below wk.heap.size wk wx -> wx.cell? ⟨ga,oa + k * 4,none⟩ = some (.bool xn) /\ wx.cell? ⟨ga,oa + k * 4 + 1,none⟩ = some (.slice xA xk xc) /\ wx.cell? ⟨ga,oa + k * 4 + 2,none⟩ = some (.bool xm) /\ wx.cell? ⟨ga,oa + k * 4 + 3,none⟩ = some (.slice xB xj xd) /\ wx.cell? ⟨g,o + k,none⟩ = some (.slice (some ⟨gb,ob,none⟩) i c2) /\ wx.cell? ⟨gb,ob + j * 4,none⟩ = some (.bool yn) /\ wx.cell? ⟨gb,ob + j * 4 + 1,none⟩ = some (.slice yA yk yc) /\ wx.cell? ⟨gb,ob + j * 4 + 2,none⟩ = some (.bool ym) /\ wx.cell? ⟨gb,ob + j * 4 + 3,none⟩ = some (.slice yB yj yd)):=Za (fun wx hbx=>⟨Zb hbx r0,Zb hbx r1,Zb hbx r2,Zb hbx r3,Zb hbx ck,Zb hbx s0,Zb hbx s1,Zb hbx s2,Zb hbx s3⟩);refine wp_heldS [] hmx hSv1 (by rw [hX0];exact hr1) (fun hxs=>?_);rw [hX0];refine Zrd 11 [0,1,2,3,4,5,6,7,8,9,10] rfl (by kernel_rfl) (hSv1.out _ hr1) ?_
       iterate 11 (refine tk1 (v:=?_) rfl (Or.inl ⟨by kernel_rfl,?_⟩) ?_;rotate_left;(· intro W2 hSw;(try dsimp only at hSw);go_simp;try with_reducible rfl);try simp only [Act.put,putL_a,putL_z,putL_s,putG_a,putG_s,putG_z])
       refine tk0 ?_;refine Ze (i:=11) rfl (by kernel_rfl) (fun K hK=>?_);go_simp;refine (fCmp_ok xn xm yn ym xA xB yA yB xk xc xj xd yk yc yj yd _ _ X0 (hX.out.below hr1) (hY.out.below hr1) (hSm.out _ _) (hSm.out _ _)).mono ?_;rintro e w5 ⟨rfl,hb5⟩;have hr5:=hr1.trans (hb5.mono hr1.size);refine hK.out _ _ (fun _=>hSv1.out _ hr5) ?_;clear hK K
       try simp only [Act.put,putL_a,putL_z,putL_s]
       refine Zrc 5 [12,13,14,15,16] rfl (by kernel_rfl) (hSv1.out _ hr5) ?_
       iterate 5 (refine tk1 (v:=?_) rfl (Or.inl ⟨by kernel_rfl,?_⟩) ?_;rotate_left;(· intro W2 _;go_simp;try with_reducible rfl);try simp only [Act.put,putL_a,putL_z,putL_s,putG_a,putG_s,putG_z])
       refine tk0 ?_;refine Zl (by kernel_rfl) ?_ _;refine OnlyNormal.normal ?_;have hB5 : Hid (Below wj.heap.size wj w5):=Za (hBk.trans (hr5.mono hBk.size));clear hSv1 hxs hr1 hr5 hb5 hX0 r0 r1 r2 r3 s0 s1 s2 s3 ck hX hY
       by_cases hq : Zm (qM rs) j k = Zm (qM rs) k j
       ·have hz : cmpQ (Zm (qM rs) j k) (Zm (qM rs) k j) = 0:=cmpQ_zero.2 hq
        rw [hz]
        have hsk2 : Hid (∀ b,b < k + 1 -> Zm (qM rs) j b = Zm (qM rs) b j):=Za (fun b hb=>by
         rcases Nat.lt_or_ge b k with h' | h'
         ·exact hsk.out b h'
         ·obtain rfl : b = k:=by omega
          exact hq)
        replace hq:=Za hq;replace hz:=Za hz;go_wp2_with fail;refine (Zcn 8 w5).mono ?_;rintro e w5 ⟨rfl,rfl⟩;go_wp2_with fail
        go_roundg (j - (k + 1))
        case measure=>omega
        case rel=>exact ⟨k + 1,by omega,by go_num,hsk2,hB5.out⟩
       ·obtain ⟨z,hz⟩ : ∃ z,cmpQ (Zm (qM rs) j k) (Zm (qM rs) k j) = z:=⟨_,rfl⟩
        have hz0 : z ≠ 0:=fun e=>hq (cmpQ_zero.1 (by rw [hz];exact e))
        rw [hz]
        have t6 : (z == 0) = false:=by simpa using hz0
        have t6' : decide (z = 0) = false:=by simpa using hz0
        have hE : Hid (Za8 rs = 8):=Za (hV.out.asym (by
         cases hb : Zey (qM rs) with
         | false=>rfl
         | true=>exact absurd (symB_iff.1 hb j k (by unfold qM;rw [List.length_map,hl.out];exact hji) (by unfold qM;rw [List.length_map,hl.out];omega)) hq))
        replace hq:=Za hq;replace hz:=Za hz;replace hz0:=Za hz0;go_wp2_with fail;refine (Zb2 8 w5).mono ?_;rintro e w6 ⟨rfl,rfl⟩;go_wp2_with fail;exact ⟨rfl,LookPost.fall (hBwj.trans (hB5.out.mono hBwj.size)) hE.out (by decide)⟩
theorem Zme (A : Option Addr) (n c : Nat) (rs : List RX) (w : World) (h : MXL w A n c rs) (hF : FacC rs) (E : Int) (hE : Za8 rs = E) :
    Calls Tryz.prog 75 #[.slice A n c] w fun e w'=>e = .returned (.int .i64 E) /\ Below w.heap.size w w':=by
 obtain ⟨W0,hW0,hB0,q0,s0⟩:=Zb3 w 30 #[.int .i64 0];have hC:=Za (Zop A n c rs W0 (h.below hB0) hF);replace q0:=Za q0;clear h
 go_enter_defers Tryz.func75,Tryz.ntmps75
 go_wp2_with fail;(try rw [hW0]);refine hC.out.mono ?_;rintro e w1 ⟨hb1,⟨h0,v1,v2,L,rfl,hFM⟩ | ⟨h0,rfl⟩⟩
 ·have hB1:=hB0.trans (hb1.mono hB0.size)
  have q1:=Zc hb1 q0.out;have e0:=q1.cell 0;have z0:=q1.frozen 0
  simp at e0
  obtain ⟨U,hU,hBU,q3,-⟩:=Za3 0 hB1 (Nat.le_refl _) q1;have r4:=q3.cell 0
  simp at r4
  obtain rfl : E = 0:=by rw [<- hE];exact h0
  clear hFM;go_wp2_with fail;(try rw [hU]);refine leaves_cons (f:=41) (args:=#[.pointer (some ⟨w.heap.size,0,none⟩)]) (by simp) (by simp [go_sem]) ?_;refine (Zkn _ _).mono ?_;rintro e u' w'' ⟨rfl,rfl,rfl⟩;exact ⟨.int .i64 0,by simp [results,Tryz.results75,go_sem,r4],rfl,hBU⟩
 ·have hB1:=hB0.trans (hb1.mono hB0.size)
  have q2:=Zc hb1 q0.out;rw [hE];go_wp2_with fail;refine leaves_cons (f:=41) (args:=#[.pointer (some ⟨w.heap.size,0,none⟩)]) (by simp) (by simp [go_sem]) ?_;have e0:=q2.cell 0
  simp at e0
  refine (Zlq ⟨w.heap.size,0,none⟩ E 0 _ e0 (q2.frozen 0)).mono ?_;rintro e u' w'' ⟨rfl,rfl,hw⟩;obtain ⟨V,hV,hBV,-,-,hk,sV⟩:=Zak 133 #[.int .i64 E] hB1 (hB1.size);obtain ⟨U,hU,hBU,q3,-⟩:=Za3 E hBV (Nat.le_refl _) (hk _ _ _ q2);rw [hV,hU] at hw;subst hw;have r4:=q3.cell 0
  simp at r4
  exact ⟨.int .i64 E,by simp [results,Tryz.results75,go_sem,r4],rfl,hBU⟩
theorem RowS.isSlP {t : TypeId} {w : World} {base : Nat} {v : Value} {rs : List RS} (h : RowS t w base v rs) : ∃ A n c,v = .slice A n c:=by
 rcases h with ⟨rfl,_⟩ | ⟨g,sp,rfl,_⟩
 ·exact ⟨_,_,_,rfl⟩
 ·exact ⟨_,_,_,rfl⟩
end Go.Proofs.YtpehacgjclkhmaaGreat
