/- Elimination without exchanges, and the factors of a -/
import Derived.Test.YtkcbhbddgmkoiaaGreatZc35
import Derived.Test.YtkcbhbddgmkoiaaGreatZc27
set_option maxRecDepth 100000
set_option maxHeartbeats 2000000
set_option linter.unusedSimpArgs false
set_option linter.unusedVariables false
namespace Go.Proofs.YtkcbhbddgmkoiaaGreat
def Z4 (A : Nat -> Nat -> Rat) : Nat -> Nat -> Nat -> Rat
 | 0,i,k=>A i k
 | t + 1,i,k=>if t < i then Z4 A t i k - Z4 A t i t / Z4 A t t t * Z4 A t t k else Z4 A t i k
theorem Ziw {A : Nat -> Nat -> Rat} {i k : Nat} : ∀ {t : Nat},i <= t -> Z4 A t i k = Z4 A i i k
 | 0,h=>by rw [show i = 0 by omega]
 | t + 1,h=>by
  by_cases hit : i = t + 1
  ·rw [hit]
  ·show (if t < i then _ else _) = _
   rw [if_neg (by omega)];exact Ziw (by omega)
theorem Zfq {A : Nat -> Nat -> Rat} {t i k : Nat} (h : t < i) : Z4 A (t + 1) i k = Z4 A t i k - Z4 A t i t / Z4 A t t t * Z4 A t t k:=by
 show (if t < i then _ else _) = _;rw [if_pos h]
theorem Zd7 {A : Nat -> Nat -> Rat} {n : Nat} (hA : ∀ i k,i < n -> k < n -> A i k = A k i) : ∀ (t i k : Nat),t <= i -> t <= k -> i < n -> k < n -> Z4 A t i k = Z4 A t k i
 | 0,i,k,_,_,hi,hk=>hA i k hi hk
 | t + 1,i,k,h1,h2,hi,hk=>by
  rw [Zfq (by omega),Zfq (by omega),Zd7 hA t i k (by omega) (by omega) hi hk,Zd7 hA t i t (by omega) (by omega) hi (by omega),Zd7 hA t t k (by omega) (by omega) (by omega) hk];rw [Rat.div_def,Rat.div_def]
  grind
theorem Zct {A C : Nat -> Nat -> Rat} {n m : Nat} (h : ∀ i k,i < n -> k < m -> A i k = C i k) (hnm : n <= m) : ∀ (t i k : Nat),t <= n -> i < n -> k < m -> Z4 A t i k = Z4 C t i k
 | 0,i,k,_,hi,hk=>h i k hi hk
 | t + 1,i,k,ht,hi,hk=>by
  show (if t < i then _ else _) = (if t < i then _ else _);rw [Zct h hnm t i k (by omega) hi hk,Zct h hnm t i t (by omega) hi (by omega),Zct h hnm t t t (by omega) (by omega) (by omega),Zct h hnm t t k (by omega) (by omega) hk]
def dQ (A : Nat -> Nat -> Rat) (i : Nat) : Rat:=Z4 A i i i
def lQ (A : Nat -> Nat -> Rat) (i k : Nat) : Rat:=Z4 A k i k / dQ A k
theorem Zl2 {A : Nat -> Nat -> Rat} {n : Nat} (hA : ∀ i k,i < n -> k < n -> A i k = A k i) {t i k : Nat} (ht : t < k) (hk : k <= i) (hi : i < n) (hd : dQ A t ≠ 0) :
    Z4 A (t + 1) i k = Z4 A t i k - lQ A i t * lQ A k t * dQ A t:=by
 rw [Zfq (by omega),Zd7 hA t t k (by omega) (by omega) (by omega) (by omega)];unfold lQ dQ at *
 grind
def Zdm (R : List (List Rat)) : Nat -> List (List Rat)
 | 0=>R
 | t + 1=>Zbh (Zdm R t) t t
theorem Zer (R : List (List Rat)) : ∀ t,(Zdm R t).length = R.length
 | 0=>rfl
 | t + 1=>by
  show (Zbh _ _ _).length = _;rw [Zd5];exact Zer R t
def posP (A : Nat -> Nat -> Rat) (n : Nat) : Prop:=∀ t,t < n -> 0 < dQ A t
theorem posP.mono {A : Nat -> Nat -> Rat} {n m : Nat} (h : posP A n) (hm : m <= n) : posP A m:=fun t ht=>h t (by omega)
theorem posP.ne {A : Nat -> Nat -> Rat} {n : Nat} (h : posP A n) {t : Nat} (ht : t < n) : dQ A t ≠ 0:=fun h0=>by have:=h t ht;rw [h0] at this;exact absurd this (by decide)
section
variable {B S n m : Nat} {R : List (List Rat)}
theorem Zfc {pc : Nat -> Nat} {G : Nat -> Nat -> Rat} {s : Nat -> Rat} (h0 : EIR B S n m 0 0 R pc G s) : ∀ t,t <= n -> t <= m -> posP (Zh R) t -> (∃ pc,EIR B S n m t t (Zdm R t) pc G s) /\ ∀ i k,i < n -> Zh (Zdm R t) i k = Z4 (Zh R) t i k
 | 0,_,_,_=>⟨⟨_,h0⟩,fun i k _=>rfl⟩
 | t + 1,hn,hm,hp=>by
  obtain ⟨⟨pc,h1⟩,h2⟩:=Zfc h0 t (by omega) (by omega) (hp.mono (by omega))
  have h0 : Zh (Zdm R t) t t ≠ 0:=by rw [h2 t t (by omega)];exact hp.ne (by omega)
  refine ⟨⟨_,h1.clear (by omega) (by omega) h0⟩,fun i k hi=>?_⟩;show Zh (Zbh (Zdm R t) t t) i k = if t < i then _ else _;rw [Zh3 (m:=m) (fun i hi=>h1.row i (by rw [h1.len] at hi;exact hi)) (fun j hj=>h1.low t j (Nat.le_refl _) (by omega) hj) i k (by rw [h1.len];exact hi) (by rw [h1.len];omega)]
  by_cases hti : t < i
  ·rw [if_neg (by omega),if_pos hti,h2 i k hi,h2 i t hi,h2 t t (by omega),h2 t k (by omega)]
  ·rw [if_pos (by omega),if_neg hti,h2 i k hi]
theorem Zq3 (hl : R.length = n) (hrow : ∀ i,i < n -> (R[i]?.getD []).length = m) (hS : ∀ i,i < n -> denAt R i <= S) (hBd : ∀ i j,i < n -> (entZ (Zeo R) i j).natAbs <= B) (t : Nat) (hn : t <= n) (hm : t <= m) (hp : posP (Zh R) t) :
    (∃ pc G s,EIR B S n m t t (Zdm R t) pc G s) /\ ∀ i k,i < n -> Zh (Zdm R t) i k = Z4 (Zh R) t i k:=by
 obtain ⟨⟨pc,h1⟩,h2⟩:=Zfc (Znk R hl hrow hS hBd).1 t hn hm hp;exact ⟨⟨_,_,_,h1⟩,h2⟩
theorem Zm6 {D : Nat} (hl : R.length = n) (hrow : ∀ i,i < n -> (R[i]?.getD []).length = m) (hD : 0 < D) (hB : ∀ i j,i < n -> BndQ B ((D : Nat) * Zh R i j)) : EIR B D n m 0 0 R (fun _=>0) (fun i j=>(D : Nat) * Zh R i j) (fun _=>(D : Nat)):=by
 refine ⟨hl,hrow,fun l h=>by omega,fun l l' _ h=>by omega,fun i j _ _ h=>by omega,fun l j h=>by omega,fun l h=>by omega,Nat.zero_le _,Nat.zero_le _,fun i hi=>⟨⟨(D : Nat),by rw [Rat.intCast_natCast],by rw [Int.natAbs_natCast];exact Nat.le_refl _⟩,fun h0=>?_⟩,fun i j hi=>hB i j hi,fun N f σ _ _ _=>rfl⟩
 have : D = 0:=by exact_mod_cast h0
 omega
end
section
variable {k n m : Nat} {R : List (List Rat)}
end
theorem SmE.red2 {k n m : Nat} {R : List (List Rat)} (h : SmE k R) (hl : R.length = n) (hn : n <= 900) (hrow : ∀ i,i < n -> (R[i]?.getD []).length = m) {t : Nat} (ht : t <= n) (htm : t <= m) (hp : posP (Zh R) t) {i : Nat} (hi : i < n) (j : Nat) : SmN ((k * m + k + 1) * n + 1) ((k * m + k + 1) * n + k * m + 1) (Z4 (Zh R) t i j):=by
 obtain ⟨⟨pc,G,s,h3⟩,h4⟩:=Zq3 (B:=pw (k * m + k)) (S:=pw (k * m)) hl hrow (fun i hi=>h.denAt (hrow i hi)) (fun i j hi=>h.whole (hrow i hi) j) t ht htm hp;obtain ⟨h5,h6⟩:=h3.bound (Zca _) hi j;rw [h4 i j hi] at h5 h6;have hb:=Zkx (b:=k * m + k) n hn;refine ⟨Nat.lt_of_le_of_lt (Nat.le_trans h5 hb) (Zdi (by omega)),?_⟩;refine Nat.lt_of_le_of_lt (Nat.le_trans h6 (Nat.mul_le_mul hb (Nat.le_refl _))) ?_;rw [<- Zck];exact Zdi (by omega)
structure FacP (A : Nat -> Nat -> Rat) (n : Nat) : Prop where
 sym : ∀ i k,i < n -> k < n -> A i k = A k i
 s : ∀ t i k,t <= n -> posP A t -> i < n -> k < n -> SmN 380 380 (Z4 A t i k)
 l : ∀ i k,k <= i -> i < n -> posP A (k + 1) -> SmN 300 300 (lQ A i k)
section
variable {A : Nat -> Nat -> Rat} {n : Nat}
theorem FacP.d (h : FacP A n) {k : Nat} (hk : k < n) (hp : posP A k) : SmN 380 380 (dQ A k):=h.s k k k (by omega) hp hk hk
theorem FacP.ll (h : FacP A n) {i j k : Nat} (hki : k <= i) (hi : i < n) (hkj : k <= j) (hj : j < n) (hp : posP A (k + 1)) : SmN 600 600 (lQ A i k * lQ A j k):=((h.l i k hki hi hp).mulN (h.l j k hkj hj hp)).mono (by decide) (by decide)
theorem FacP.lld (h : FacP A n) {i j k : Nat} (hki : k <= i) (hi : i < n) (hkj : k <= j) (hj : j < n) (hp : posP A (k + 1)) : SmN 980 980 (lQ A i k * lQ A j k * dQ A k):=((h.ll hki hi hkj hj hp).mulN (h.d (show k < n by omega) (hp.mono (by omega)))).mono (by decide) (by decide)
end
theorem FacP.unif {n D b e : Nat} {R : List (List Rat)} (hl : R.length = n) (hn : n <= 900) (hrow : ∀ i,i < n -> (R[i]?.getD []).length = n) (hA : ∀ i k,i < n -> k < n -> Zh R i k = Zh R k i) (hD : 0 < D) (hDe : D <= pw e) (hB : ∀ i j,i < n -> BndQ (pw b) ((D : Nat) * Zh R i j))
    (h1 : (b + 1) * n < 300) (h2 : (b + 1) * n + e < 380) : FacP (Zh R) n:=by
 have h0:=Zm6 hl hrow hD hB;have hb:=Zkx (b:=b) n hn
 have hDR : ((D : Nat) : Rat) ≠ 0:=fun h=>by
  have : D = 0:=by exact_mod_cast h
  omega
 refine ⟨hA,fun t i j ht hp hi _=>?_,fun i k hki hi hp=>?_⟩
 ·obtain ⟨⟨pc,h3⟩,h4⟩:=Zfc h0 t ht ht hp
  obtain ⟨h5,h6⟩:=h3.bound (Zca _) hi j;rw [h4 i j hi] at h5 h6;refine ⟨Nat.lt_of_le_of_lt (Nat.le_trans h5 hb) (Zdi (by omega)),?_⟩;refine Nat.lt_of_le_of_lt (Nat.le_trans h6 (Nat.mul_le_mul hb hDe)) ?_;rw [<- Zck];exact Zdi (by omega)
 ·obtain ⟨⟨pc,h3⟩,h4⟩:=Zfc h0 k (by omega) (by omega) (hp.mono (by omega))
  have m1:=h3.minor hi k;have m2:=h3.minor (show k < n by omega) k;rw [show min i k = k by omega,h4 i k hi] at m1;rw [Nat.min_self,h4 k k (by omega)] at m2;have hd : Z4 (Zh R) k k k ≠ 0:=hp.ne (by omega);have hne:=h3.piv_ne (l:=k) (Nat.le_refl _)
  have e1 : Zgx (Zdm R k) pc (fun _=>((D : Nat) : Rat)) k * (((D : Nat) : Rat) * Z4 (Zh R) k k k) * lQ (Zh R) i k = Zgx (Zdm R k) pc (fun _=>((D : Nat) : Rat)) k * (((D : Nat) : Rat) * Z4 (Zh R) k i k):=by
   unfold lQ dQ
   grind
  rw [<- e1] at m1
  obtain ⟨h5,h6⟩:=Zkk m1 m2 (fun h=>by
   rcases Rat.mul_eq_zero.1 h with h7 | h7
   ·exact hne h7
   ·rcases Rat.mul_eq_zero.1 h7 with h8 | h8
    ·exact hDR h8
    ·exact hd h8)
  have hm:=Zg4 (B:=pw b) (m:=k + 1) (n:=n) (Zca _) (by omega);exact ⟨Nat.lt_of_le_of_lt (Nat.le_trans h5 (Nat.le_trans hm hb)) (Zdi (by omega)),Nat.lt_of_le_of_lt (Nat.le_trans h6 (Nat.le_trans hm hb)) (Zdi (by omega))⟩
theorem FacP.of {k n : Nat} {R : List (List Rat)} (h : SmE k R) (hl : R.length = n) (hn : n <= 900) (hrow : ∀ i,i < n -> (R[i]?.getD []).length = n) (hA : ∀ i k,i < n -> k < n -> Zh R i k = Zh R k i) (h1 : (k * n + k + 1) * n + ((k * n + k + 1) * n + k * n) + 2 <= 300) : FacP (Zh R) n:=by
 refine ⟨hA,fun t i j ht hp hi _=>(h.red2 hl hn hrow ht ht hp hi j).mono (by omega) (by omega),fun i j hji hi hp=>?_⟩
 have hj : j < n:=by omega
 have a:=h.red2 hl hn hrow (t:=j) (by omega) (by omega) (hp.mono (by omega)) hi j;have b:=h.red2 hl hn hrow (t:=j) (by omega) (by omega) (hp.mono (by omega)) hj j;exact (a.divN b (hp.ne (by omega))).mono (by omega) (by omega)
open Go.RowKit
def FX.fine64 (e : FX) : Bool:=decide (e.few <= 64) && e.ok
def Zcr (es : List FX) : Bool:=es.all FX.fine64
def RX.long6 (r : RX) : Bool:=decide (6 < r.n)
def long6 (rs : List RX) : Bool:=decide (6 < rs.length) || rs.any RX.long6
def Zbo (k : Nat) (r : RX) : Bool:=decide (r.n = k) && Zcr r.es
def Zei (Q : List (List Rat)) : Bool:=decide (∀ i,i < Q.length -> ∀ k,k < i -> Zh Q i k = Zh Q k i)
def posB (A : Nat -> Nat -> Rat) (n : Nat) : Bool:=decide (∀ t,t < n -> 0 < dQ A t)
theorem posB_iff {A : Nat -> Nat -> Rat} {n : Nat} : posB A n = true ↔ posP A n:=by unfold posB posP;rw [decide_eq_true_eq]
def Zal (rs : List RX) : Int:=if long6 rs = true then 4 else if rs.length = 0 then 8 else if rs.all (Zbo rs.length) = true then (if (Zei (qM rs) && posB (Zh (qM rs)) rs.length) = true then 0 else 8) else 8
section
variable {rs : List RX}
theorem Zdt (h : long6 rs = true) : Zal rs = 4:=by unfold Zal;rw [if_pos h]
theorem Zmd (h : long6 rs = false) (h0 : rs.length = 0) : Zal rs = 8:=by unfold Zal;rw [if_neg (by simp [h]),if_pos h0]
theorem Zlm (h : long6 rs = false) (h0 : rs.length ≠ 0) {r : RX} (hr : r ∈ rs) (hb : Zbo rs.length r = false) : Zal rs = 8:=by
 unfold Zal;rw [if_neg (by simp [h]),if_neg h0,if_neg];intro e;rw [List.all_eq_true] at e;have:=e r hr;rw [hb] at this;cases this
theorem Zfx (h : Zal rs = 0) : 0 < rs.length /\ rs.length <= 6 /\ (∀ r ∈ rs,r.n = rs.length /\ Zcr r.es = true) /\ Zei (qM rs) = true /\ posP (Zh (qM rs)) rs.length:=by
 unfold Zal at h
 by_cases h1 : long6 rs = true
 ·rw [if_pos h1] at h;cases h
 rw [if_neg h1] at h
 by_cases h2 : rs.length = 0
 ·rw [if_pos h2] at h;cases h
 rw [if_neg h2] at h
 by_cases h3 : rs.all (Zbo rs.length) = true
 ·rw [if_pos h3] at h
  by_cases h4 : (Zei (qM rs) && posB (Zh (qM rs)) rs.length) = true
  ·rw [Bool.and_eq_true] at h4
   have h5 : long6 rs = false:=by simpa using h1
   unfold long6 at h5;rw [Bool.or_eq_false_iff] at h5;have h6:=of_decide_eq_false h5.1;refine ⟨by omega,by omega,fun r hr=>?_,h4.1,posB_iff.1 h4.2⟩;rw [List.all_eq_true] at h3;have h7:=h3 r hr;unfold Zbo at h7;rw [Bool.and_eq_true,decide_eq_true_eq] at h7;exact h7
  ·rw [if_neg h4] at h;cases h
 ·rw [if_neg h3] at h;cases h
theorem symB_iff {Q : List (List Rat)} : Zei Q = true ↔ ∀ i k,i < Q.length -> k < Q.length -> Zh Q i k = Zh Q k i:=by
 unfold Zei;rw [decide_eq_true_eq]
 constructor
 ·intro h i k hi hk
  rcases Nat.lt_trichotomy i k with h1 | h1 | h1
  ·exact (h k hk i h1).symm
  ·rw [h1]
  ·exact h i hi k h1
 ·intro h i hi k hk
  exact h i k hi (by omega)
theorem Zrl {es : List FX} (h : Zcr es = true) : ∀ e ∈ es,e.ok = true:=fun e he=>by
 unfold Zcr at h;rw [List.all_eq_true] at h;have:=h e he;unfold FX.fine64 at this;rw [Bool.and_eq_true] at this;exact this.2
end
def fewM (k : Nat) (rs : List RX) : Prop:=∀ r ∈ rs,∀ e ∈ r.es,e.few <= k \/ 64 < e.few
section
variable {w : World} {A : Option Addr} {n c : Nat} {rs : List RX}
theorem Zqy {e : FX} (hin : e.in_ w) (hk : e.ok = true) {k : Nat} (hf : e.few <= k) : (e.q).num.natAbs <= pw k /\ (e.q).den <= pw k:=by
 have h1 : Fr w e.na e.A e.n e.c e.nb e.B e.m e.d e.q:=Zkt hin.1 hin.2 hk;have h2:=h1.1.lim.len;have h3:=h1.2.lim.len;unfold FX.few at hf
 constructor
 ·have h4:=Nat.le_of_lt (Zbg e.q.num.natAbs)
  rw [h2] at h4;exact Nat.le_trans h4 (Zfk (by omega))
 ·have h4:=Nat.le_of_lt (Zbg ((e.q.den : Int).natAbs))
  rw [h3] at h4;simp only [Int.natAbs_natCast] at h4;exact Nat.le_trans h4 (Zfk (by omega))
end
attribute [local go_sem] Zg
theorem Zny (xn : Bool) (xA : Option Addr) (xk xc : Nat) (xm : Bool) (xB : Option Addr) (xj xd : Nat) (yn : Bool) (yA : Option Addr) (yk yc : Nat) (ym : Bool) (yB : Option Addr) (yj yd : Nat) (a b : Rat) (w : World) (ha : Fr w xn xA xk xc xm xB xj xd a) (hb : Fr w yn yA yk yc ym yB yj yd b) (sa : Sm a) (sb : Sm b) :
    Calls Tryz.prog 78 #[.agg #[.bool xn,.slice xA xk xc,.bool xm,.slice xB xj xd],.agg #[.bool yn,.slice yA yk yc,.bool ym,.slice yB yj yd]] w (Zci w (a + b)):=by
 obtain ⟨W0,hW0,hB0,⟨q0,q1,q2⟩,s0⟩:=Zbj w 64 #[.bool xn,.slice xA xk xc,.bool xm,.slice xB xj xd] 64 #[.bool yn,.slice yA yk yc,.bool ym,.slice yB yj yd] 64 #[.bool false,.slice none 0 0,.bool false,.slice none 0 0];obtain ⟨a0,a1,a2,a3,-⟩:=q0.four;obtain ⟨b0,b1,b2,b3,-⟩:=q1.four;obtain ⟨gR,hgR⟩ : ∃ g,w.heap.size + 1 + 1 = g:=⟨_,rfl⟩;rw [hgR] at q2;have hA:=ha.below hB0;have hD:=hb.below hB0;go_enter Tryz.func78,Tryz.ntmps78;go_wp2_with fail;(try rw [hW0]);refine (Zqg xn xm yn ym xA xB yA yB xk xc xj xd yk yc yj yd a b W0 hA hD sa sb).mono ?_;rintro e w1 ⟨hb1,pn,pA,pk,pc,pm,pB,pj,pd,rfl,hf⟩;replace q2:=Zc hb1 q2;clear a0 a1 a2 a3 b0 b1 b2 b3 q0 q1 hA hD;obtain ⟨V1,hV1,hBV,t0,tz⟩:=Zae w1 64 #[.bool false,.slice none 0 0,.bool false,.slice none 0 0];have q2':=Zc hBV q2;obtain ⟨gn,hgn⟩ : ∃ g,w1.heap.size = g:=⟨_,rfl⟩
 have hgn2 : gR < gn:=by
  have h1:=hb1.size;omega
 rw [hgn] at t0;obtain ⟨u0,u1,u2,u3,v0,v1,v2,v3⟩:=t0.four;obtain ⟨V2,hV2,p2,hK2,s2⟩:=Zaa pn pA pk pc pm pB pj pd t0;have hB2 : Below w1.heap.size w1 V2:=hBV.trans (hK2.to_below (fun k e=>by omega) hBV.size);have q22:=Zc hB2 q2;have hf2:=hf.below hB2;obtain ⟨o0,o1,o2,o3,-⟩:=p2.four;obtain ⟨c0,c1,c2,c3,z0,z1,z2,z3⟩:=q22.four;obtain ⟨W5,hW5,q5,hK5,s5⟩:=Zaa pn pA pk pc pm pB pj pd q22;have hr:=hf2.keptN hK5 q22 (Zar _ _ _ _ _ _ _ _);have hBW0:=hB0;replace hB2:=Za hB2;replace hr:=Za hr;clear hf hf2;go_wp2_with fail;(try rw [hgn]);(try rw [hV2]);(try rw [hgR]);go_wp2_with fail;(try rw [hW5]);obtain ⟨r0,r1,r2,r3,-⟩:=q5.four;refine bodyPost_ret (v:=.agg #[.bool pn,.slice pA pk pc,.bool pm,.slice pB pj pd]) (by simp [results,Tryz.results78,go_sem,r0,r1,r2,r3]) rfl ?_;refine ⟨?_,_,_,_,_,_,_,_,_,rfl,hr.out⟩;have hB3:=hBW0.trans ((hb1.trans (hB2.out.mono hb1.size)).mono hBW0.size);exact hB3.trans (hK5.to_below (fun k e=>by omega) hB3.size)
theorem Zhp (xn : Bool) (xA : Option Addr) (xk xc : Nat) (xm : Bool) (xB : Option Addr) (xj xd : Nat) (yn : Bool) (yA : Option Addr) (yk yc : Nat) (ym : Bool) (yB : Option Addr) (yj yd : Nat) (a b : Rat) (w : World) (ha : Fr w xn xA xk xc xm xB xj xd a) (hb : Fr w yn yA yk yc ym yB yj yd b) (sa : Sm a) (sb : Sm b) :
    Calls Tryz.prog 80 #[.agg #[.bool xn,.slice xA xk xc,.bool xm,.slice xB xj xd],.agg #[.bool yn,.slice yA yk yc,.bool ym,.slice yB yj yd]] w (Zci w (a - b)):=by
 obtain ⟨W0,hW0,hB0,⟨q0,q1,q2⟩,s0⟩:=Zbj w 64 #[.bool xn,.slice xA xk xc,.bool xm,.slice xB xj xd] 64 #[.bool yn,.slice yA yk yc,.bool ym,.slice yB yj yd] 64 #[.bool false,.slice none 0 0,.bool false,.slice none 0 0];obtain ⟨a0,a1,a2,a3,-⟩:=q0.four;obtain ⟨b0,b1,b2,b3,-⟩:=q1.four;obtain ⟨gR,hgR⟩ : ∃ g,w.heap.size + 1 + 1 = g:=⟨_,rfl⟩;rw [hgR] at q2;have hA:=ha.below hB0;have hD:=hb.below hB0;go_enter Tryz.func80,Tryz.ntmps80;go_wp2_with fail;(try rw [hW0]);refine (Zov xn xm yn ym xA xB yA yB xk xc xj xd yk yc yj yd a b W0 hA hD sa sb).mono ?_;rintro e w1 ⟨hb1,pn,pA,pk,pc,pm,pB,pj,pd,rfl,hf⟩;replace q2:=Zc hb1 q2;clear a0 a1 a2 a3 b0 b1 b2 b3 q0 q1 hA hD;obtain ⟨V1,hV1,hBV,t0,tz⟩:=Zae w1 64 #[.bool false,.slice none 0 0,.bool false,.slice none 0 0];have q2':=Zc hBV q2;obtain ⟨gn,hgn⟩ : ∃ g,w1.heap.size = g:=⟨_,rfl⟩
 have hgn2 : gR < gn:=by
  have h1:=hb1.size;omega
 rw [hgn] at t0;obtain ⟨u0,u1,u2,u3,v0,v1,v2,v3⟩:=t0.four;obtain ⟨V2,hV2,p2,hK2,s2⟩:=Zaa pn pA pk pc pm pB pj pd t0;have hB2 : Below w1.heap.size w1 V2:=hBV.trans (hK2.to_below (fun k e=>by omega) hBV.size);have q22:=Zc hB2 q2;have hf2:=hf.below hB2;obtain ⟨o0,o1,o2,o3,-⟩:=p2.four;obtain ⟨c0,c1,c2,c3,z0,z1,z2,z3⟩:=q22.four;obtain ⟨W5,hW5,q5,hK5,s5⟩:=Zaa pn pA pk pc pm pB pj pd q22;have hr:=hf2.keptN hK5 q22 (Zar _ _ _ _ _ _ _ _);have hBW0:=hB0;replace hB2:=Za hB2;replace hr:=Za hr;clear hf hf2;go_wp2_with fail;(try rw [hgn]);(try rw [hV2]);(try rw [hgR]);go_wp2_with fail;(try rw [hW5]);obtain ⟨r0,r1,r2,r3,-⟩:=q5.four;refine bodyPost_ret (v:=.agg #[.bool pn,.slice pA pk pc,.bool pm,.slice pB pj pd]) (by simp [results,Tryz.results80,go_sem,r0,r1,r2,r3]) rfl ?_;refine ⟨?_,_,_,_,_,_,_,_,_,rfl,hr.out⟩;have hB3:=hBW0.trans ((hb1.trans (hB2.out.mono hb1.size)).mono hBW0.size);exact hB3.trans (hK5.to_below (fun k e=>by omega) hB3.size)
theorem Zdk (xn : Bool) (xA : Option Addr) (xk xc : Nat) (xm : Bool) (xB : Option Addr) (xj xd : Nat) (yn : Bool) (yA : Option Addr) (yk yc : Nat) (ym : Bool) (yB : Option Addr) (yj yd : Nat) (a b : Rat) (w : World) (ha : Fr w xn xA xk xc xm xB xj xd a) (hb : Fr w yn yA yk yc ym yB yj yd b) (sa : Sm a) (sb : Sm b) :
    Calls Tryz.prog 77 #[.agg #[.bool xn,.slice xA xk xc,.bool xm,.slice xB xj xd],.agg #[.bool yn,.slice yA yk yc,.bool ym,.slice yB yj yd]] w (Zci w (a * b)):=by
 obtain ⟨W0,hW0,hB0,⟨q0,q1,q2⟩,s0⟩:=Zbj w 64 #[.bool xn,.slice xA xk xc,.bool xm,.slice xB xj xd] 64 #[.bool yn,.slice yA yk yc,.bool ym,.slice yB yj yd] 64 #[.bool false,.slice none 0 0,.bool false,.slice none 0 0];obtain ⟨a0,a1,a2,a3,-⟩:=q0.four;obtain ⟨b0,b1,b2,b3,-⟩:=q1.four;obtain ⟨gR,hgR⟩ : ∃ g,w.heap.size + 1 + 1 = g:=⟨_,rfl⟩;rw [hgR] at q2;have hA:=ha.below hB0;have hD:=hb.below hB0;go_enter Tryz.func77,Tryz.ntmps77;go_wp2_with fail;(try rw [hW0]);refine (Zou xn xm yn ym xA xB yA yB xk xc xj xd yk yc yj yd a b W0 hA hD sa sb).mono ?_;rintro e w1 ⟨hb1,pn,pA,pk,pc,pm,pB,pj,pd,rfl,hf⟩;replace q2:=Zc hb1 q2;clear a0 a1 a2 a3 b0 b1 b2 b3 q0 q1 hA hD;obtain ⟨V1,hV1,hBV,t0,tz⟩:=Zae w1 64 #[.bool false,.slice none 0 0,.bool false,.slice none 0 0];have q2':=Zc hBV q2;obtain ⟨gn,hgn⟩ : ∃ g,w1.heap.size = g:=⟨_,rfl⟩
 have hgn2 : gR < gn:=by
  have h1:=hb1.size;omega
 rw [hgn] at t0;obtain ⟨u0,u1,u2,u3,v0,v1,v2,v3⟩:=t0.four;obtain ⟨V2,hV2,p2,hK2,s2⟩:=Zaa pn pA pk pc pm pB pj pd t0;have hB2 : Below w1.heap.size w1 V2:=hBV.trans (hK2.to_below (fun k e=>by omega) hBV.size);have q22:=Zc hB2 q2;have hf2:=hf.below hB2;obtain ⟨o0,o1,o2,o3,-⟩:=p2.four;obtain ⟨c0,c1,c2,c3,z0,z1,z2,z3⟩:=q22.four;obtain ⟨W5,hW5,q5,hK5,s5⟩:=Zaa pn pA pk pc pm pB pj pd q22;have hr:=hf2.keptN hK5 q22 (Zar _ _ _ _ _ _ _ _);have hBW0:=hB0;replace hB2:=Za hB2;replace hr:=Za hr;clear hf hf2;go_wp2_with fail;(try rw [hgn]);(try rw [hV2]);(try rw [hgR]);go_wp2_with fail;(try rw [hW5]);obtain ⟨r0,r1,r2,r3,-⟩:=q5.four;refine bodyPost_ret (v:=.agg #[.bool pn,.slice pA pk pc,.bool pm,.slice pB pj pd]) (by simp [results,Tryz.results77,go_sem,r0,r1,r2,r3]) rfl ?_;refine ⟨?_,_,_,_,_,_,_,_,_,rfl,hr.out⟩;have hB3:=hBW0.trans ((hb1.trans (hB2.out.mono hb1.size)).mono hBW0.size);exact hB3.trans (hK5.to_below (fun k e=>by omega) hB3.size)
theorem Zh8 (xn : Bool) (xA : Option Addr) (xk xc : Nat) (xm : Bool) (xB : Option Addr) (xj xd : Nat) (yn : Bool) (yA : Option Addr) (yk yc : Nat) (ym : Bool) (yB : Option Addr) (yj yd : Nat) (a b : Rat) (w : World) (ha : Fr w xn xA xk xc xm xB xj xd a) (hb : Fr w yn yA yk yc ym yB yj yd b) (sa : Sm a) (sb : Sm b) (h0 : b ≠ 0) :
    Calls Tryz.prog 79 #[.agg #[.bool xn,.slice xA xk xc,.bool xm,.slice xB xj xd],.agg #[.bool yn,.slice yA yk yc,.bool ym,.slice yB yj yd]] w (Zci w (a / b)):=by
 obtain ⟨W0,hW0,hB0,⟨q0,q1,q2⟩,s0⟩:=Zbj w 64 #[.bool xn,.slice xA xk xc,.bool xm,.slice xB xj xd] 64 #[.bool yn,.slice yA yk yc,.bool ym,.slice yB yj yd] 64 #[.bool false,.slice none 0 0,.bool false,.slice none 0 0];obtain ⟨a0,a1,a2,a3,-⟩:=q0.four;obtain ⟨b0,b1,b2,b3,-⟩:=q1.four;obtain ⟨gR,hgR⟩ : ∃ g,w.heap.size + 1 + 1 = g:=⟨_,rfl⟩;rw [hgR] at q2;have hA:=ha.below hB0;have hD:=hb.below hB0;go_enter Tryz.func79,Tryz.ntmps79;go_wp2_with fail;(try rw [hW0]);refine (Zqd xn xm yn ym xA xB yA yB xk xc xj xd yk yc yj yd a b W0 hA hD sa sb h0).mono ?_;rintro e w1 ⟨hb1,pn,pA,pk,pc,pm,pB,pj,pd,rfl,hf⟩;replace q2:=Zc hb1 q2;clear a0 a1 a2 a3 b0 b1 b2 b3 q0 q1 hA hD;obtain ⟨V1,hV1,hBV,t0,tz⟩:=Zae w1 64 #[.bool false,.slice none 0 0,.bool false,.slice none 0 0];have q2':=Zc hBV q2;obtain ⟨gn,hgn⟩ : ∃ g,w1.heap.size = g:=⟨_,rfl⟩
 have hgn2 : gR < gn:=by
  have h1:=hb1.size;omega
 rw [hgn] at t0;obtain ⟨u0,u1,u2,u3,v0,v1,v2,v3⟩:=t0.four;obtain ⟨V2,hV2,p2,hK2,s2⟩:=Zaa pn pA pk pc pm pB pj pd t0;have hB2 : Below w1.heap.size w1 V2:=hBV.trans (hK2.to_below (fun k e=>by omega) hBV.size);have q22:=Zc hB2 q2;have hf2:=hf.below hB2;obtain ⟨o0,o1,o2,o3,-⟩:=p2.four;obtain ⟨c0,c1,c2,c3,z0,z1,z2,z3⟩:=q22.four;obtain ⟨W5,hW5,q5,hK5,s5⟩:=Zaa pn pA pk pc pm pB pj pd q22;have hr:=hf2.keptN hK5 q22 (Zar _ _ _ _ _ _ _ _);have hBW0:=hB0;replace hB2:=Za hB2;replace hr:=Za hr;clear hf hf2;go_wp2_with fail;(try rw [hgn]);(try rw [hV2]);(try rw [hgR]);go_wp2_with fail;(try rw [hW5]);obtain ⟨r0,r1,r2,r3,-⟩:=q5.four;refine bodyPost_ret (v:=.agg #[.bool pn,.slice pA pk pc,.bool pm,.slice pB pj pd]) (by simp [results,Tryz.results79,go_sem,r0,r1,r2,r3]) rfl ?_;refine ⟨?_,_,_,_,_,_,_,_,_,rfl,hr.out⟩;have hB3:=hBW0.trans ((hb1.trans (hB2.out.mono hb1.size)).mono hBW0.size);exact hB3.trans (hK5.to_below (fun k e=>by omega) hB3.size)
theorem Zjh (A : Option Addr) (n c : Nat) (es : List FX) (w : World) (h : FXL w A n c es) (b : Bool) (hb : Zcr es = b) :
    Calls Tryz.prog 44 #[.slice A n c] w fun e w'=>e = .returned (.bool b) /\ Below w.heap.size w w':=by
 have hl:=h.1;have hnc:=h.2.1;have hcm:=h.2.2.1;unfold maxLen at hcm;replace hl:=Za hl;replace hb:=Za hb;replace h:=Za h;go_enter Tryz.func44,Tryz.ntmps44;go_wp2_with fail
 go_loopw [3] (fun iv wr=>∃ i : Nat,i <= n /\ iv = .int .i64 i /\ Hid (∀ j e,j < i -> es[j]? = some e -> e.fine64 = true) /\ Below w.heap.size w wr) (fun iv _=>n - (intOf iv).toNat)
 case atStart=>exact ⟨0,Nat.zero_le _,rfl,Za (fun j e hj=>by omega),Below.refl _ _⟩
 case round =>
  obtain ⟨i,hik,rfl,hall,hBp⟩:=hrel
  by_cases hin : i < n
  case neg =>
   obtain rfl : n = i:=by omega
   have htk : decide ((n : Int) < (n : Int)) = false:=by simp
   obtain rfl : b = true:=by
    rw [<- hb.out];unfold Zcr;rw [List.all_eq_true];intro e he;obtain ⟨j,hj,hje⟩:=List.getElem_of_mem he;exact hall.out j e (by rw [hl.out] at hj;exact hj) (by rw [List.getElem?_eq_getElem hj,hje])
   go_wp2_with fail;go_ret;exact ⟨rfl,hBp⟩
  have htk : decide ((i : Int) < (n : Int)) = true:=decide_eq_true (by omega);obtain ⟨g,o,e,rfl,he,hc,hLa,hLb⟩:=(h.out.below hBp).at_ hin;obtain ⟨c0,c1,c2,c3⟩:=hc;have ha0:=hLa.2.1;have ha1:=hLa.2.2.1;have hb0:=hLb.2.1;have hb1:=hLb.2.2.1;have hne:=Nat.le_trans ha0 ha1;have hme:=Nat.le_trans hb0 hb1;unfold maxLen at ha1 hb1
  have bad : e.fine64 = false -> b = false:=fun hf=>by
   rw [<- hb.out];unfold Zcr;rw [List.all_eq_false];exact ⟨e,List.mem_of_getElem? he,by rw [hf];decide⟩
  replace bad:=Za bad;have hF:=Za (fun W1=>Zki e.na e.nb e.A e.B e.n e.c e.m e.d W1 hne hme);obtain ⟨x,hx⟩ : ∃ x,e.ok = x:=⟨_,rfl⟩;have hC:=Za (fun W1 (hb : Below wr.heap.size wr W1)=>Zlg e.na e.nb e.A e.B e.n e.c e.m e.d e.la e.lb W1 (hLa.below hb) (hLb.below hb) x hx);obtain ⟨k,hk⟩ : ∃ k,max e.n e.m = k:=⟨_,rfl⟩
  have hkm : k <= 9223372036854775807:=by unfold maxLen at hne hme;omega
  rw [hk] at hF;replace hk:=Za hk;clear hLa hLb hne hme
  by_cases h1 : 64 < k
  ·have t1 : decide ((64 : Int) < (k : Int)) = true:=decide_eq_true (by omega)
   obtain rfl : b = false:=bad.out (by unfold FX.fine64 FX.few;rw [hk.out,decide_eq_false (by omega)];rfl);replace he:=Za he;replace hx:=Za hx;clear hC;go_wp2_with fail;refine (hF.out _).mono ?_;rintro e' w1 ⟨rfl,hb1⟩;go_wp2_with fail;go_ret;exact ⟨rfl,(by first | exact hBp.trans (hb1.mono hBp.size) | exact (Zj hBp _).trans (hb1.mono hBp.size))⟩
  have t1 : decide ((64 : Int) < (k : Int)) = false:=decide_eq_false (by omega)
  cases x
  ·obtain rfl : b = false:=bad.out (by unfold FX.fine64;rw [hx];simp)
   replace he:=Za he;clear hx;go_wp2_with fail;refine (hF.out _).mono ?_;rintro e' w1 ⟨rfl,hbF⟩;have c0':=Zb hbF c0;have c1':=Zb hbF c1;have c2':=Zb hbF c2;have c3':=Zb hbF c3;go_wp2_with fail;refine (hC.out _ (by first | exact hbF | exact Zj hbF _)).mono ?_;rintro e' w2 ⟨rfl,hb2⟩;simp only [Zee,Bool.false_eq_true,if_false];go_wp2_with fail;go_ret;exact ⟨rfl,hBp.trans ((hbF.trans (hb2.mono hbF.size)).mono hBp.size)⟩
  ·have hall2 : Hid (∀ j e,j < i + 1 -> es[j]? = some e -> e.fine64 = true):=Za (fun j e' hj he'=>by
     rcases Nat.lt_or_ge j i with h' | h'
     ·exact hall.out j e' h' he'
     ·obtain rfl : j = i:=by omega
      rw [he] at he'
      cases he'
      unfold FX.fine64 FX.few
      rw [hx,hk.out,decide_eq_true (by omega)];rfl)
   replace he:=Za he;clear hx;go_wp2_with fail;refine (hF.out _).mono ?_;rintro e' w1 ⟨rfl,hbF⟩;have c0':=Zb hbF c0;have c1':=Zb hbF c1;have c2':=Zb hbF c2;have c3':=Zb hbF c3;go_wp2_with fail;refine (hC.out _ (by first | exact hbF | exact Zj hbF _)).mono ?_;rintro e' w2 ⟨rfl,hb2⟩;simp only [Zee,if_true];go_wp2_with fail
   go_roundw
   case rel=>exact ⟨i + 1,by omega,by go_num,hall2,hBp.trans ((hbF.trans (hb2.mono hbF.size)).mono hBp.size)⟩
   case measure=>simp [intOf];omega
theorem Zqs {t : Array Value} {d : Nat} {u : Value} (h : t[d]? = some u) : t.setIfInBounds d u = t:=by
 apply Array.ext
 ·simp
 ·intro i h1 h2
  rw [Array.getElem_setIfInBounds (by simpa using h1)]
  split
  ·rename_i e
   subst e;rw [Array.getElem?_eq_getElem h2] at h
   injection h with h
   exact h.symm
  ·rfl
section
variable {P : Program} {ops : Array Oper} {Q : Exit -> Act -> World -> Prop} {md : Region.Mode} {L : List Nat} {S : World -> Prop} {f1 f2 d1 d2 F : Nat} {t1 t2 : TypeId} {z1 z2 : Array Value}
theorem Zc4 {i : Nat} {o : Oper} {K : Act -> World -> Prop} {a : Act} {w : World} (ho : ops[i]? = some o)
    (h : ∀ K' : Act -> World -> Prop,Shut (∀ a w,K a w -> K' a w) -> if Region.wanted o (yielded ops a.tmps) = true then Oper.wp P o a w K' Q else K' (a.put o.dst undef) w) : wpOp P ops Q i K a w:=
 wpOp_step ho (fun K' hK=>h K' hK)
end
def Zaj (md : Region.Mode) (ops : Array Oper) (i : Nat) : List Nat:=match ops[i]? with | some o=>(o.after.toList.filter (fun e=>Region.binds md e)).map (·.on) | none=>[]
def Zas (ops : Array Oper) (i : Nat) : Nat:=match ops[i]? with | some o=>o.dst.getD 0 | none=>0
def Zav (R : List Nat) (l : Array Bool) : Array Bool:=R.foldl (fun l i=>l.setIfInBounds i true) l
def clo (md : Region.Mode) (ops : Array Oper) : List Nat -> List Nat -> List Nat
 | [],c=>c
 | r :: rs,c=>clo md ops rs (if c.contains r then Zaj md ops r ++ c else c)
def Za5 : List Nat -> Bool
 | []=>true
 | x :: l=>!l.contains x && Za5 l
def Za3 : List Nat -> Act -> (Nat -> Value) -> Act
 | [],a,_=>a
 | d :: ds,a,ν=>Za3 ds (a.put (some d) (ν d)) ν
def upd (ν : Nat -> Value) (d : Nat) (v : Value) : Nat -> Value:=fun k=>if k = d then v else ν k
theorem Zqm {a : Act} {d e : Nat} {u v : Value} (h : d ≠ e) : (a.put (some d) u).put (some e) v = (a.put (some e) v).put (some d) u:=by
 simp only [Act.put];rw [Array.setIfInBounds_comm _ _ h]
theorem Zo3 {ds : List Nat} {a : Act} {ν : Nat -> Value} {d : Nat} {v : Value} (h : d ∉ ds) : Za3 ds (a.put (some d) v) ν = (Za3 ds a ν).put (some d) v:=by
 induction ds generalizing a with
 | nil=>rfl
 | cons e ds ih =>
  have h1 : d ≠ e:=fun h'=>h (h' ▸ List.mem_cons_self ..)
  show Za3 ds ((a.put (some d) v).put (some e) (ν e)) ν = _;rw [Zqm h1,ih (fun h'=>h (List.mem_cons_of_mem _ h'))]
  rfl
theorem Zjb {ds : List Nat} {a : Act} {ν : Nat -> Value} {d : Nat} {v : Value} (h : d ∉ ds) : Za3 ds a (upd ν d v) = Za3 ds a ν:=by
 induction ds generalizing a with
 | nil=>rfl
 | cons e ds ih =>
  have h1 : e ≠ d:=fun h'=>h (h' ▸ List.mem_cons_self ..)
  show Za3 ds (a.put (some e) (upd ν d v e)) (upd ν d v) = Za3 ds (a.put (some e) (ν e)) ν;rw [ih (fun h'=>h (List.mem_cons_of_mem _ h'))];simp only [upd,if_neg h1]
theorem put_put {a : Act} {d : Nat} {u v : Value} : (a.put (some d) u).put (some d) v = a.put (some d) v:=by
 simp only [Act.put];rw [Array.setIfInBounds_setIfInBounds]
theorem Za2 {x : Nat} {l : List Nat} (h : Za5 (x :: l) = true) : x ∉ l /\ Za5 l = true:=by
 simp only [Za5,Bool.and_eq_true,Bool.not_eq_true'] at h;exact ⟨fun hx=>by rw [List.contains_iff_mem.2 hx] at h;exact absurd h.1 (by simp),h.2⟩
theorem Zhb {ds : List Nat} {a : Act} {ν : Nat -> Value} {d : Nat} {v : Value} (h : d ∈ ds) (hn : Za5 ds = true) : (Za3 ds a ν).put (some d) v = Za3 ds a (upd ν d v):=by
 induction ds generalizing a with
 | nil=>cases h
 | cons e ds ih =>
  obtain ⟨h1,h2⟩:=Za2 hn;show (Za3 ds (a.put (some e) (ν e)) ν).put (some d) v = Za3 ds (a.put (some e) (upd ν d v e)) (upd ν d v)
  by_cases hd : d = e
  ·subst hd
   rw [<- Zo3 h1,put_put,Zjb h1];simp only [upd,if_true]
  ·rcases List.mem_cons.1 h with h' | h'
   ·exact absurd h' hd
   ·rw [ih h' h2]
    simp only [upd,if_neg (Ne.symm hd)]
theorem Zm7 {ds : List Nat} {a : Act} : Za3 ds a (fun d=>a.tmps.getD d undef) = a:=by
 induction ds with
 | nil=>rfl
 | cons d ds ih =>
  show Za3 ds (a.put (some d) (a.tmps.getD d undef)) _ = a
  have : a.put (some d) (a.tmps.getD d undef) = a:=by
   cases a with
   | mk t df =>
    simp only [Act.put]
    congr 1
    rcases Nat.lt_or_ge d t.size with h | h
    ·exact Zqs (by rw [Array.getD_eq_getD_getElem?,Array.getElem?_eq_getElem h];rfl)
    ·exact Array.setIfInBounds_eq_of_size_le h
  rw [this];exact ih
theorem Za9 (R : List Nat) (l : Array Bool) (k : Nat) : (Zav R l).getD k true = if k ∈ R then true else l.getD k true:=by
 unfold Zav
 induction R generalizing l with
 | nil=>simp
 | cons r R ih =>
  rw [List.foldl_cons,ih]
  by_cases h1 : k ∈ R
  ·rw [if_pos h1,if_pos (List.mem_cons_of_mem _ h1)]
  ·rw [if_neg h1]
   by_cases h2 : k = r
   ·subst h2
    rw [if_pos (List.mem_cons_self ..)];rw [Array.getD_eq_getD_getElem?,Array.getElem?_setIfInBounds]
    split
    ·split <;> rfl
    ·rename_i h;exact absurd rfl h
   ·rw [if_neg (fun h=>by rcases List.mem_cons.1 h with h | h;exact h2 h;exact h1 h),Go.getD_set_ne true (Ne.symm h2)]
theorem Zd4 (R : List Nat) (l : Array Bool) : (Zav R l).size = l.size:=by
 unfold Zav
 induction R generalizing l with
 | nil=>rfl
 | cons r R ih=>rw [List.foldl_cons,ih];simp
theorem Znj {l m : Array Bool} (hs : l.size = m.size) (h : ∀ k,l.getD k true = m.getD k true) : l = m:=by
 apply Array.ext hs
 intro i h1 h2;have:=h i;rw [Array.getD_eq_getD_getElem?,Array.getD_eq_getD_getElem?,Array.getElem?_eq_getElem h1,Array.getElem?_eq_getElem h2] at this;exact this
section
variable {P : Program} {ops : Array Oper} {Q : Exit -> Act -> World -> Prop} {md : Region.Mode} {L : List Nat} {S : World -> Prop}
theorem Zmx {l : Array Bool} {R : List Nat} (hd : ∀ r ∈ R,l.getD r false = true -> ∀ p ∈ Zaj md ops r,l.getD p false = true) :
    ∀ (rs : List Nat) (c : List Nat),(∀ r ∈ rs,r ∈ R) -> (∀ x ∈ c,l.getD x false = true) -> ∀ x ∈ clo md ops rs c,l.getD x false = true
 | [],c,_,hc,x,hx=>hc x hx
 | r :: rs,c,hr,hc,x,hx=>by
  refine Zmx hd rs _ (fun y hy=>hr y (List.mem_cons_of_mem _ hy)) (fun y hy=>?_) x hx
  split at hy
  ·rename_i h1
   rcases List.mem_append.1 hy with h2 | h2
   ·exact hd r (hr r (List.mem_cons_self ..)) (hc r (List.contains_iff_mem.1 h1)) y h2
   ·exact hc y h2
  ·exact hc y hy
theorem Zcz {l : Array Bool} {k : Nat} (h : l.getD k false = true) : l.getD k true = true:=by
 rw [Array.getD_eq_getD_getElem?] at h ⊢
 cases hk : l[k]? with
 | none=>rfl
 | some b=>rw [hk] at h;exact h
theorem Zab {l : Array Bool} {k j : Nat} (h : l.getD k false = true) : (l.setIfInBounds j true).getD k false = true:=by
 by_cases hkj : j = k
 ·subst hkj
  rw [Array.getD_eq_getD_getElem?,Array.getElem?_setIfInBounds_self];rw [Array.getD_eq_getD_getElem?] at h
  split
  ·rfl
  ·rename_i h1;rw [Array.getElem?_eq_none (by omega)] at h;cases h
 ·rw [Go.getD_set_ne false hkj];exact h
theorem Zio {i : Nat} {l : Array Bool} (h : i ∈ Region.ready md ops l) : l.getD i true = false /\ i < ops.size /\ ∀ p ∈ Zaj md ops i,l.getD p false = true:=by
 obtain ⟨h1,o,ho,h2⟩:=mem_ready.1 h;refine ⟨h1,(Array.getElem?_eq_some_iff.1 ho).1,fun p hp=>?_⟩;unfold Zaj at hp;rw [ho] at hp;obtain ⟨e,he,rfl⟩:=List.mem_map.1 hp;rw [List.mem_filter] at he;exact h2 e (by simpa using he.1) he.2
theorem Zeu {i : Nat} {l : Array Bool} (h1 : l.getD i true = false) {o : Oper} (ho : ops[i]? = some o) (h : ∀ p ∈ Zaj md ops i,l.getD p false = true) : i ∈ Region.ready md ops l:=by
 refine mem_ready.2 ⟨h1,o,ho,fun e he hb=>h _ ?_⟩;unfold Zaj;rw [ho];exact List.mem_map.2 ⟨e,List.mem_filter.2 ⟨by simpa using he,hb⟩,rfl⟩
def left (R : List Nat) (l : Array Bool) : Nat:=(R.filter fun r=>!l.getD r true).length
theorem Zir {f : Nat -> Nat} : ∀ {R : List Nat},Za5 (R.map f) = true -> Za5 R = true
 | [],_=>rfl
 | r :: R,h=>by
  obtain ⟨h1,h2⟩:=Za2 (x:=f r) (l:=R.map f) h;simp only [Za5,Bool.and_eq_true,Bool.not_eq_true'];refine ⟨?_,Zir h2⟩
  cases hc : R.contains r with
  | false=>rfl
  | true=>exact absurd (List.mem_map.2 ⟨r,List.contains_iff_mem.1 hc,rfl⟩) h1
theorem Zd0 {f : Nat -> Nat} : ∀ {R : List Nat},Za5 (R.map f) = true -> ∀ {r i : Nat},r ∈ R -> i ∈ R -> r ≠ i -> f r ≠ f i
 | [],_,_,_,h,_,_=>by cases h
 | x :: R,h,r,i,hr,hi,hne=>by
  obtain ⟨h1,h2⟩:=Za2 (x:=f x) (l:=R.map f) h
  rcases List.mem_cons.1 hr with hr' | hr'
  ·rcases List.mem_cons.1 hi with hi' | hi'
   ·exact absurd (hr'.trans hi'.symm) hne
   ·exact fun e=>h1 (List.mem_map.2 ⟨i,hi',by rw [<- e,hr']⟩)
  ·rcases List.mem_cons.1 hi with hi' | hi'
   ·exact fun e=>h1 (List.mem_map.2 ⟨r,hr',by rw [e,hi']⟩)
   ·exact Zd0 h2 hr' hi' hne
theorem Zpa {R : List Nat} {l : Array Bool} {i : Nat} (hi : i ∉ R) : left R (l.setIfInBounds i true) = left R l:=by
 unfold left
 congr 1
 apply List.filter_congr
 intro r hr;rw [Go.getD_set_ne true (fun e : i = r=>hi (e ▸ hr))]
theorem Zik {R : List Nat} {l : Array Bool} {i : Nat} (hn : Za5 R = true) (hi : i ∈ R) (h : l.getD i true = false) : left R (l.setIfInBounds i true) + 1 = left R l:=by
 have hlt : i < l.size:=by
  rcases Nat.lt_or_ge i l.size with h' | h'
  ·exact h'
  ·rw [Array.getD_eq_getD_getElem?,Array.getElem?_eq_none h'] at h;cases h
 have hset : (l.setIfInBounds i true).getD i true = true:=by
  rw [Array.getD_eq_getD_getElem?,Array.getElem?_setIfInBounds_self,if_pos hlt];rfl
 induction R with
 | nil=>cases hi
 | cons r R ih =>
  obtain ⟨n1,n2⟩:=Za2 hn
  by_cases hr : i = r
  ·subst hr
   have:=Zpa (l:=l) n1;unfold left at this ⊢;rw [List.filter_cons_of_neg (by simp [hset]),List.filter_cons_of_pos (by simp [h]),this]
   rfl
  ·have hi2 : i ∈ R:=by
     rcases List.mem_cons.1 hi with h' | h'
     ·exact absurd h' hr
     ·exact h'
   have:=ih n2 hi2;unfold left at this ⊢
   by_cases hb : l.getD r true = true
   ·rw [List.filter_cons_of_neg (by rw [Go.getD_set_ne true hr];simp [hb]),List.filter_cons_of_neg (by simp [hb])];exact this
   ·rw [List.filter_cons_of_pos (by rw [Go.getD_set_ne true hr];simpa using hb),List.filter_cons_of_pos (by simpa using hb),List.length_cons,List.length_cons,this]
theorem Zma (R : List (Nat × Nat)) (h : R.all (fun p=>Zas ops p.1 == p.2) = true) : (R.map (·.1)).map (Zas ops) = R.map (·.2):=by
 rw [List.map_map]
 apply List.map_congr_left
 intro p hp;rw [List.all_eq_true] at h
 simpa using h p hp
end
section
variable {P : Program} {ops : Array Oper} {Q : Exit -> Act -> World -> Prop} {md : Region.Mode} {L : List Nat} {S : World -> Prop}
theorem Zgv {i : Nat} {oi : Oper} {v : Value} (hi : ops[i]? = some oi) (hsel : ∀ (j : Nat) (o : Oper) cs b,ops[j]? = some o -> o.op ≠ .select cs b)
    (hQ : ∀ c a w,Q (.panic c) (a.put oi.dst v) w -> Q (.panic c) a w) (hiL : L.contains i = false) :
    ∀ (fuel : Nat) (listed : Array Bool) (a : Act) (w : World),
     (∀ j oj,ops[j]? = some oj -> j ≠ i -> listed.getD j true = false -> (∀ e ∈ oj.after,Region.binds md e = true -> e.on ≠ i) -> oi.apart ops oj = true) ->
     i ∈ Region.ready md ops listed -> YieldsIf P ops (fun _=>True) oi v a -> (Zb4 L listed = true -> S w) ->
     Z8 P md ops Q L S fuel (listed.setIfInBounds i true) (a.put oi.dst v) w -> Z8 P md ops Q L S (fuel + 1) listed a w:=by
 have hiL' : i ∉ L:=fun h=>by
  rw [List.contains_iff_mem.2 h] at hiL
  cases hiL
 intro fuel
 induction fuel with
 | zero =>
  intro listed a w _ hr hy hS H;refine ⟨fun h=>(by rw [h] at hr;cases hr),fun j hj=>?_⟩
  by_cases hji : j = i
  ·subst hji;exact hy.wpOp hi trivial ⟨fun h=>hS (by rwa [Zbt hiL'] at h),H⟩
  ·have:=ready_mono hj hji
   rw [H.1] at this
   cases this
 | succ fuel ih =>
  intro listed a w hfree hr hy hS H;refine ⟨fun h=>(by rw [h] at hr;cases hr),fun j hj=>?_⟩
  by_cases hji : j = i
  ·subst hji;exact hy.wpOp hi trivial ⟨fun h=>hS (by rwa [Zbt hiL'] at h),H⟩
  ·have h1:=H.2 j (ready_mono hj hji)
   obtain ⟨hjun,oj,hoj,hall⟩:=mem_ready.1 hj
   have hnot : ∀ e ∈ oj.after,Region.binds md e = true -> e.on ≠ i:=fun e he hb heq=>by
    have h1:=hall e he hb;have h0:=(mem_ready.1 hr).1;rw [heq] at h1
    rcases Nat.lt_or_ge i listed.size with h' | h'
    ·simp [h'] at h0 h1;rw [h0] at h1;cases h1
    ·simp [Array.getElem?_eq_none h'] at h1
   have h2:=wpOp_putIf hoj (hfree j oj hoj hji hjun hnot) (fun cs b=>hsel i oi cs b hi) (fun cs b=>hsel j oj cs b hoj) hQ hy h1
   have hfree' : ∀ k ok,ops[k]? = some ok -> k ≠ i -> (listed.setIfInBounds j true).getD k true = false ->
       (∀ e ∈ ok.after,Region.binds md e = true -> e.on ≠ i) -> oi.apart ops ok = true:=fun k ok hk hki hun hno=>by
    refine hfree k ok hk hki ?_ hno
    by_cases hjk : j = k
    ·subst hjk;exact hjun
    ·rw [Go.getD_set_ne true hjk] at hun;exact hun
   refine wpOp_mono (fun a' w' h3=>?_) h2
   have hSj : Zb4 L (listed.setIfInBounds j true) = true -> S w':=fun h=>h3.2.1 (by
    rw [Array.setIfInBounds_comm _ _ (Ne.symm hji),Zbt hiL'];exact h)
   refine ⟨hSj,ih (listed.setIfInBounds j true) a' w' hfree' (ready_mono hr (Ne.symm hji)) h3.1 hSj ?_⟩;rw [Array.setIfInBounds_comm _ _ hji];exact h3.2.2
theorem Zl {i : Nat} {oi : Oper} {v : Value} {fuel : Nat} {listed : Array Bool} {a : Act} {w : World} (hi : ops[i]? = some oi)
    (hs : Region.noSelect ops = true) (hf : Region.free md ops listed i = true) (hr : (Region.ready md ops listed).contains i = true) (hL : L.contains i = false)
    (hy : YieldsIf P ops (fun _=>True) oi v a) (hS : Zb4 L listed = true -> S w)
    (h : Z8 P md ops (OnlyNormal Q) L S fuel (listed.setIfInBounds i true) (a.put oi.dst v) w) : Z8 P md ops (OnlyNormal Q) L S (fuel + 1) listed a w:=
 Zgv hi (Region.noSelect_spec hs) (fun _ _ _ h=>(h : False).elim) hL fuel listed a w (Region.free_spec hi hf) (by simpa using hr) hy hS h
end
section
variable {P : Program} {ops : Array Oper} {Q : Exit -> Act -> World -> Prop} {md : Region.Mode} {L : List Nat} {S : World -> Prop}
end
def Zk0 (md : Region.Mode) (ops : Array Oper) (L : List Nat) : List Nat -> Array Bool -> Bool
 | [],_=>true
 | i :: is,l=>Region.free md ops l i && (Region.ready md ops l).contains i && !L.contains i && Zk0 md ops L is (l.setIfInBounds i true)
section
variable {P : Program} {ops : Array Oper} {Q : Exit -> Act -> World -> Prop} {md : Region.Mode} {L : List Nat} {S : World -> Prop}
theorem Zkc (hs : Region.noSelect ops = true) {w : World} (hS : S w) : ∀ (is : List Nat) (F : Nat) (listed : Array Bool) (a : Act),Zk0 md ops L is listed = true -> Ze0 P ops (fun _=>True) is a (fun a'=>Z8 P md ops (OnlyNormal Q) L S F (Zgp is listed) a' w) -> Z8 P md ops (OnlyNormal Q) L S (F + is.length) listed a w
 | [],F,l,a,_,h=>h
 | i :: is,F,l,a,hc,h=>by
  obtain ⟨oi,v,ho,hy,h2⟩:=h;simp only [Zk0,Bool.and_eq_true,Bool.not_eq_true'] at hc;exact Zl ho hs hc.1.1.1 hc.1.1.2 hc.1.2 hy (fun _=>hS) (Zkc hs hS is F _ _ hc.2 h2)
theorem Zrt {F : Nat} {listed : Array Bool} {a : Act} {w : World} (k : Nat) (is : List Nat) (hk : is.length = k) (hc : (Region.noSelect ops && Zk0 md ops L is listed) = true) (hS : S w)
    (h : Ze0 P ops (fun _=>True) is a (fun a'=>Z8 P md ops (OnlyNormal Q) L S F (Zgp is listed) a' w)) : Z8 P md ops (OnlyNormal Q) L S (F + k) listed a w:=by
 rw [Bool.and_eq_true] at hc;subst hk;exact Zkc hc.1 hS is F listed a hc.2 h
end
def Zao (R : List Nat) (att : Nat -> List Nat) : List Nat:=R.flatMap fun i=>i :: att i
def Zfl (md : Region.Mode) (ops : Array Oper) (l : Array Bool) (i : Nat) : List Nat -> List Nat -> Bool
 | [],_=>true
 | u :: us,done=>(match ops[u]? with | some o=>o.dst.isSome | none=>false) && (Zaj md ops u).contains i && !l.getD u true && (Zaj md ops u).all (fun p=>p == i || done.contains p || l.getD p false || (Zaj md ops i).contains p) &&
     ((List.range ops.size).all fun j=>j == u || (j == i || done.contains j || l.getD j false || (Zaj md ops i).contains j) || (Zaj md ops j).contains u || (match ops[u]?,ops[j]? with | some ou,some oj=>ou.apart ops oj | _,_=>true)) && Zfl md ops l i us (u :: done)
def Zog (md : Region.Mode) (ops : Array Oper) (att : Nat -> List Nat) : List Nat -> Array Bool -> Bool
 | [],_=>true
 | r :: rs,l=>!l.getD r true && (match ops[r]? with | some o=>o.dst.isSome | none=>false) && (Zaj md ops r).all (fun p=>l.getD p false) && Zog md ops att rs (Zav (r :: att r) l)
def Zrs (md : Region.Mode) (ops : Array Oper) (R F : List Nat) (l : Array Bool) : Bool:=
 (List.range ops.size).all fun k=>F.contains k || l.getD k true || (Zaj md ops k).any (fun p=>!F.contains p && !l.getD p false) || (R.all fun r=>(clo md ops F.reverse (Zaj md ops k)).contains r)
def Zie (md : Region.Mode) (ops : Array Oper) (R : List Nat) (att : Nat -> List Nat) (l : Array Bool) : Bool:=
 Zog md ops att R l && Zrs md ops R (Zao R att) l && Za5 ((Zao R att).map (Zas ops)) && decide (l.size = ops.size) && R.all (fun i=>Zfl md ops l i (att i) []) && Region.noSelect ops
section
variable {P : Program} {ops : Array Oper} {Q : Exit -> Act -> World -> Prop} {md : Region.Mode} {L : List Nat} {S : World -> Prop}
def Zmz (P : Program) (ops : Array Oper) (Φ : Nat -> Value -> World -> Prop) (w : World) : List Nat -> Act -> Prop
 | [],_=>True
 | u :: us,a=>∃ o v,ops[u]? = some o /\ YieldsIf P ops (fun _=>True) o v a /\ Φ u v w /\ Zmz P ops Φ w us (a.put o.dst v)
theorem Zew {l : Array Bool} {i : Nat} (h : i < l.size) : (l.setIfInBounds i true).getD i false = true:=by
 rw [Array.getD_eq_getD_getElem?,Array.getElem?_setIfInBounds_self,if_pos h];rfl
theorem Za7 {us : List Nat} {l : Array Bool} {k : Nat} (h : l.getD k false = true) : (Zav us l).getD k false = true:=by
 induction us generalizing l with
 | nil=>exact h
 | cons u us ih=>exact ih (l:=l.setIfInBounds u true) (Zab h)
theorem Zib {us : List Nat} {l : Array Bool} {k : Nat} (hk : k ∈ us) (h : k < l.size) : (Zav us l).getD k false = true:=by
 induction us generalizing l with
 | nil=>cases hk
 | cons u us ih =>
  rcases List.mem_cons.1 hk with rfl | hk
  ·exact Za7 (us:=us) (Zew h)
  ·exact ih (l:=l.setIfInBounds u true) hk (by simp;exact h)
theorem Zn6 {Φ : Nat -> Value -> World -> Prop} {l0 : Array Bool} {i : Nat} {R : List Nat} {a0 : Act} {w : World} {F : Nat} (hns : Region.noSelect ops = true) (hnd : Za5 (R.map (Zas ops)) = true) (hiR : i ∈ R) :
    ∀ (us done : List Nat) (l : Array Bool) (ν : Nat -> Value),Zfl md ops l0 i us done = true -> (∀ u ∈ us,u ∈ R) -> (∀ u ∈ us,u ∉ L) -> (∀ u ∈ us,l.getD u true = false) -> l.size = ops.size -> Za5 us = true ->
     (∀ p,l0.getD p false = true -> l.getD p false = true) -> l.getD i false = true -> (∀ p ∈ Zaj md ops i,l.getD p false = true) -> (∀ u ∈ done,l.getD u false = true) -> S w ->
     Zmz P ops Φ w us (Za3 (R.map (Zas ops)) a0 ν) ->
     (∀ ν',(∀ k,(∀ u ∈ us,Zas ops u ≠ k) -> ν' k = ν k) -> (∀ u ∈ us,Φ u (ν' (Zas ops u)) w) -> Z8 P md ops (OnlyNormal Q) L S F (Zav us l) (Za3 (R.map (Zas ops)) a0 ν') w) ->
     Z8 P md ops (OnlyNormal Q) L S (us.length + F) l (Za3 (R.map (Zas ops)) a0 ν) w:=by
 intro us
 induction us with
 | nil =>
  intro done l ν _ _ _ _ _ _ _ _ _ _ _ _ h;rw [show ([] : List Nat).length + F = F by simp];exact h ν (fun _ _=>rfl) (fun u hu=>by cases hu)
 | cons u us ih =>
  intro done l ν hat hR hL hun hsz hndu hl0 hi hp hdone hS htr h;simp only [Zfl,Bool.and_eq_true,List.all_eq_true] at hat;obtain ⟨⟨⟨⟨⟨h1,h2⟩,h3⟩,h4⟩,h5⟩,h6⟩:=hat;obtain ⟨o,v,ho,hy,hΦ,htr2⟩:=htr;obtain ⟨n1,n2⟩:=Za2 hndu;have husz : u < ops.size:=(Array.getElem?_eq_some_iff.1 ho).1;have hu0:=hun u (List.mem_cons_self ..)
  have hready : u ∈ Region.ready md ops l:=Zeu hu0 ho (fun p hp2=>by
   have h7:=h4 p hp2;simp only [Bool.or_eq_true,beq_iff_eq] at h7
   rcases h7 with ((h7 | h7) | h7) | h7
   ·rw [h7];exact hi
   ·exact hdone p (List.contains_iff_mem.1 h7)
   ·exact hl0 p h7
   ·exact hp p (List.contains_iff_mem.1 h7))
  have hdst : o.dst = some (Zas ops u):=by
   rw [ho] at h1;obtain ⟨d,hd⟩:=Option.isSome_iff_exists.1 h1;unfold Zas;rw [ho];simp only [hd,Option.getD_some]
  have hdn : Zas ops u ∈ R.map (Zas ops):=List.mem_map.2 ⟨u,hR u (List.mem_cons_self ..),rfl⟩;rw [List.length_cons,Nat.add_right_comm]
  refine Zgv ho (Region.noSelect_spec hns) (fun _ _ _ h=>(h : False).elim) (by
   cases hc : L.contains u with
   | false=>rfl
   | true=>exact absurd (List.contains_iff_mem.1 hc) (hL u (List.mem_cons_self ..))) _ l _ w (fun j oj hoj hju hjl hnw=>?_) hready hy (fun _=>hS) ?_
  ·have h7:=h5 j (List.mem_range.2 (Array.getElem?_eq_some_iff.1 hoj).1)
   simp only [Bool.or_eq_true,beq_iff_eq] at h7
   rcases h7 with ((h7 | h7) | h7) | h7
   ·exact absurd h7 hju
   ·exfalso
    have h8 : l.getD j false = true:=by
     rcases h7 with ((h7 | h7) | h7) | h7
     ·rw [h7];exact hi
     ·exact hdone j (List.contains_iff_mem.1 h7)
     ·exact hl0 j h7
     ·exact hp j (List.contains_iff_mem.1 h7)
    rw [Zcz h8] at hjl
    cases hjl
   ·exfalso
    have h8:=List.contains_iff_mem.1 h7;unfold Zaj at h8;rw [hoj] at h8;obtain ⟨e,he,he2⟩:=List.mem_map.1 h8;rw [List.mem_filter] at he;exact hnw e (by simpa using he.1) he.2 he2
   ·rw [ho,hoj] at h7;exact h7
  ·rw [hdst,Zhb hdn hnd]
   refine ih (u :: done) (l.setIfInBounds u true) (upd ν (Zas ops u) v) h6 (fun x hx=>hR x (List.mem_cons_of_mem _ hx)) (fun x hx=>hL x (List.mem_cons_of_mem _ hx)) (fun x hx=>?_) (by simp;exact hsz) n2 (fun p hp2=>Zab (hl0 p hp2)) (Zab hi) (fun p hp2=>Zab (hp p hp2)) (fun x hx=>?_) hS ?_ (fun ν' k1 k2=>?_)
   ·rw [Go.getD_set_ne true (fun e : u = x=>n1 (e ▸ hx))]
    exact hun x (List.mem_cons_of_mem _ hx)
   ·rcases List.mem_cons.1 hx with rfl | hx
    ·exact Zew (by omega)
    ·exact Zab (hdone x hx)
   ·rw [hdst,Zhb hdn hnd] at htr2
    exact htr2
   ·refine h ν' (fun k hk=>?_) (fun x hx=>?_)
    ·rw [k1 k (fun x hx=>hk x (List.mem_cons_of_mem _ hx))]
     simp only [upd,if_neg (Ne.symm (hk u (List.mem_cons_self ..)))]
    ·rcases List.mem_cons.1 hx with rfl | hx
     ·have h9 : ∀ y ∈ us,Zas ops y ≠ Zas ops x:=fun y hy=>Zd0 hnd (hR y (List.mem_cons_of_mem _ hy)) (hR x (List.mem_cons_self ..)) (fun e=>n1 (e ▸ hy))
      rw [k1 _ h9];simp only [upd,if_true];exact hΦ
     ·exact k2 x hx
theorem Zil {us : List Nat} {l : Array Bool} {k : Nat} (h : (Zav us l).getD k false = true) : k ∈ us \/ l.getD k false = true:=by
 induction us generalizing l with
 | nil=>exact .inr h
 | cons u us ih =>
  rcases ih (l:=l.setIfInBounds u true) h with h1 | h1
  ·exact .inl (List.mem_cons_of_mem _ h1)
  ·by_cases hk : u = k
   ·exact .inl (hk ▸ List.mem_cons_self ..)
   ·rw [Go.getD_set_ne false hk] at h1;exact .inr h1
theorem Zet {us : List Nat} {l : Array Bool} {k : Nat} (h : (Zav us l).getD k true = false) : l.getD k true = false:=by
 rw [Za9] at h
 split at h
 ·cases h
 ·exact h
theorem Zf2 {att : Nat -> List Nat} : ∀ (R : List Nat) (l0 : Array Bool),Zog md ops att R l0 = true -> (∀ r ∈ R,l0.getD r true = false /\ ∃ o d,ops[r]? = some o /\ o.dst = some d) /\
      ∀ l : Array Bool,l.size = l0.size -> (∀ k,l0.getD k false = true -> l.getD k false = true) -> (∀ r ∈ R,l.getD r true = true -> ∀ u ∈ att r,l.getD u false = true) -> (∃ r ∈ R,l.getD r true = false) -> ∃ r ∈ R,l.getD r true = false /\ ∀ p ∈ Zaj md ops r,l.getD p false = true
 | [],_,_=>⟨fun r hr=>(by cases hr),fun l _ _ _ ⟨r,hr,_⟩=>(by cases hr)⟩
 | r :: R,l0,h=>by
  simp only [Zog,Bool.and_eq_true,Bool.not_eq_true',List.all_eq_true] at h;obtain ⟨⟨⟨h1,h2⟩,h3⟩,h4⟩:=h;obtain ⟨k1,k2⟩:=Zf2 R _ h4;refine ⟨fun x hx=>?_,fun l hsz hl hat hu=>?_⟩
  ·rcases List.mem_cons.1 hx with rfl | hx
   ·refine ⟨h1,?_⟩
    cases ho : ops[x]? with
    | none=>rw [ho] at h2;cases h2
    | some o =>
     rw [ho] at h2;obtain ⟨d,hd⟩:=Option.isSome_iff_exists.1 h2;exact ⟨o,d,rfl,hd⟩
   ·obtain ⟨m1,m2⟩:=k1 x hx
    exact ⟨Zet m1,m2⟩
  ·by_cases hr : l.getD r true = false
   ·exact ⟨r,List.mem_cons_self ..,hr,fun p hp=>hl p (h3 p hp)⟩
   ·have hr2 : l.getD r true = true:=by simpa using hr
    have hrs : r < l0.size:=by
     rcases Nat.lt_or_ge r l0.size with h' | h'
     ·exact h'
     ·rw [Array.getD_eq_getD_getElem?,Array.getElem?_eq_none h'] at h1;cases h1
    have hrl : r < l.size:=by omega
    have hrf : l.getD r false = true:=by
     rw [Array.getD_eq_getD_getElem?,Array.getElem?_eq_getElem hrl] at hr2 ⊢;exact hr2
    obtain ⟨x,hx,hx2⟩:=k2 l (by rw [Zd4];exact hsz) (fun k hk=>by
     rcases Zil hk with h5 | h5
     ·rcases List.mem_cons.1 h5 with rfl | h5
      ·exact hrf
      ·exact hat r (List.mem_cons_self ..) hr2 k h5
     ·exact hl k h5) (fun y hy=>hat y (List.mem_cons_of_mem _ hy)) (by
     obtain ⟨y,hy,hy2⟩:=hu
     rcases List.mem_cons.1 hy with rfl | hy
     ·exact absurd hy2 hr
     ·exact ⟨y,hy,hy2⟩)
    exact ⟨x,List.mem_cons_of_mem _ hx,hx2⟩
theorem Zk2 {R : List Nat} (hn : Za5 R = true) : ∀ (us : List Nat) (l : Array Bool),Za5 us = true -> (∀ u ∈ us,u ∈ R) -> (∀ u ∈ us,l.getD u true = false) -> left R (Zav us l) + us.length = left R l:=by
 intro us
 induction us with
 | nil=>intro l _ _ _;rfl
 | cons u us ih =>
  intro l h1 h2 h3;obtain ⟨n1,n2⟩:=Za2 h1;have h4:=Zik hn (h2 u (List.mem_cons_self ..)) (h3 u (List.mem_cons_self ..))
  have h5:=ih (l.setIfInBounds u true) n2 (fun x hx=>h2 x (List.mem_cons_of_mem _ hx)) (fun x hx=>by
   rw [Go.getD_set_ne true (fun e : u = x=>n1 (e ▸ hx))]
   exact h3 x (List.mem_cons_of_mem _ hx))
  show left R (Zav us (l.setIfInBounds u true)) + (us.length + 1) = _;omega
theorem Zcx : ∀ {a b : List Nat},Za5 (a ++ b) = true -> Za5 b = true
 | [],_,h=>h
 | _ :: a,_,h=>Zcx (a:=a) (Za2 h).2
theorem Zde : ∀ {a b : List Nat},Za5 (a ++ b) = true -> Za5 a = true
 | [],_,_=>rfl
 | x :: a,b,h=>by
  obtain ⟨h1,h2⟩:=Za2 (x:=x) (l:=a ++ b) h;simp only [Za5,Bool.and_eq_true,Bool.not_eq_true'];refine ⟨?_,Zde h2⟩
  cases hc : a.contains x with
  | false=>rfl
  | true=>exact absurd (List.mem_append_left _ (List.contains_iff_mem.1 hc)) h1
theorem Zhn : ∀ {a b : List Nat},Za5 (a ++ b) = true -> ∀ x,x ∈ a -> x ∉ b
 | [],_,_,x,hx=>by cases hx
 | y :: a,b,h,x,hx=>by
  obtain ⟨h1,h2⟩:=Za2 (x:=y) (l:=a ++ b) h
  rcases List.mem_cons.1 hx with hx' | hx'
  ·intro hb;exact h1 (List.mem_append_right _ (hx' ▸ hb))
  ·exact Zhn h2 x hx'
theorem Zl9 {att : Nat -> List Nat} : ∀ {R : List Nat},Za5 (Zao R att) = true -> ∀ r ∈ R,Za5 (r :: att r) = true /\ ∀ r' ∈ R,r' ≠ r -> ∀ x ∈ r :: att r,x ∉ r' :: att r'
 | [],_,r,hr=>by cases hr
 | y :: R,h,r,hr=>by
  have e : Zao (y :: R) att = (y :: att y) ++ Zao R att:=rfl;rw [e] at h;have h1:=Zde h;have h2:=Zcx h;have h3:=Zhn h
  have hmem : ∀ z ∈ R,∀ x ∈ z :: att z,x ∈ Zao R att:=fun z hz x hx=>List.mem_flatMap.2 ⟨z,hz,hx⟩
  by_cases hry : r = y
  ·subst hry
   refine ⟨h1,fun r' hr' hne x hx hx2=>?_⟩
   rcases List.mem_cons.1 hr' with h4 | h4
   ·exact hne h4
   ·exact h3 x hx (hmem r' h4 x hx2)
  ·have hrR : r ∈ R:=by
     rcases List.mem_cons.1 hr with h4 | h4
     ·exact absurd h4 hry
     ·exact h4
   obtain ⟨k1,k2⟩:=Zl9 h2 r hrR;refine ⟨k1,fun r' hr' hne x hx hx2=>?_⟩
   by_cases hr'y : r' = y
   ·subst hr'y
    exact h3 x hx2 (hmem r hrR x hx)
   ·rcases List.mem_cons.1 hr' with h4 | h4
    ·exact hr'y h4
    ·exact k2 r' h4 hne x hx hx2
theorem Zp9 (R : List Nat) (att : Nat -> List Nat) (D : List Nat) (hDR : ∀ i ∈ D,i ∈ R) (Φ : Nat -> Value -> World -> Prop) {l0 : Array Bool} {a0 : Act} {w0 : World} (hok : Zie md ops R att l0 = true) (hL : ∀ u ∈ Zao R att,u ∉ L)
    (hst : ∀ i ∈ Zao R att,∀ v w w',Below w.heap.size w w' -> Φ i v w -> Φ i v w') (hS : ∀ w',Below w0.heap.size w0 w' -> S w') {F : Nat}
    (hop : ∀ i ∈ R,∀ (ν : Nat -> Value) (w : World),Below w0.heap.size w0 w -> (∀ j ∈ Zao R att,j ∈ Zaj md ops i -> Φ j (ν (Zas ops j)) w) ->
     wpOp P ops (OnlyNormal Q) i (fun a' w'=>∃ v,a' = (Za3 ((Zao R att).map (Zas ops)) a0 ν).put (some (Zas ops i)) v /\ Φ i v w' /\ Below w.heap.size w w' /\ Zmz P ops Φ w' (att i) a' /\ (i ∈ D -> ∀ j ∈ D,∀ u,Φ j u w -> v ≠ u)) (Za3 ((Zao R att).map (Zas ops)) a0 ν) w)
    (hfin : ∀ (ν : Nat -> Value) (w : World),Below w0.heap.size w0 w -> (∀ i ∈ Zao R att,Φ i (ν (Zas ops i)) w) -> (∀ i ∈ D,∀ j ∈ D,i ≠ j -> ν (Zas ops i) ≠ ν (Zas ops j)) -> Z8 P md ops (OnlyNormal Q) L S F (Zav (Zao R att) l0) (Za3 ((Zao R att).map (Zas ops)) a0 ν) w) :
    ∀ (n : Nat) (l : Array Bool) (ν : Nat -> Value) (w : World),n = left (Zao R att) l -> l.size = l0.size -> (∀ k,k ∉ Zao R att -> l.getD k true = l0.getD k true) -> (∀ k,l0.getD k false = true -> l.getD k false = true) ->
     (∀ r ∈ Zao R att,l.getD r false = true -> ∀ p ∈ Zaj md ops r,l.getD p false = true) ->
     (∀ r ∈ R,∀ u ∈ att r,(l.getD r true = true -> l.getD u false = true) /\ (l.getD r true = false -> l.getD u true = false)) -> Below w0.heap.size w0 w -> (∀ r ∈ Zao R att,l.getD r true = true -> Φ r (ν (Zas ops r)) w) -> (∀ i ∈ D,∀ j ∈ D,i ≠ j -> l.getD i true = true -> l.getD j true = true -> ν (Zas ops i) ≠ ν (Zas ops j)) ->
     Z8 P md ops (OnlyNormal Q) L S (n + F) l (Za3 ((Zao R att).map (Zas ops)) a0 ν) w:=by
 simp only [Zie,Bool.and_eq_true,decide_eq_true_eq] at hok;obtain ⟨⟨⟨⟨⟨hto,hou⟩,hnd⟩,hsz0⟩,hato⟩,hns⟩:=hok;rw [List.all_eq_true] at hato;obtain ⟨t1,t2⟩:=Zf2 R l0 hto;have hndf:=Zir hnd
 have hmemR : ∀ r ∈ R,r ∈ Zao R att:=fun r hr=>List.mem_flatMap.2 ⟨r,hr,List.mem_cons_self ..⟩
 have hmemU : ∀ r ∈ R,∀ u ∈ att r,u ∈ Zao R att:=fun r hr u hu=>List.mem_flatMap.2 ⟨r,hr,List.mem_cons_of_mem _ hu⟩
 have hattp : ∀ r ∈ R,∀ u ∈ att r,r ∈ Zaj md ops u /\ (∃ o,ops[u]? = some o):=fun r hr=>by
  have : ∀ (us done : List Nat),Zfl md ops l0 r us done = true -> ∀ u ∈ us,r ∈ Zaj md ops u /\ (∃ o,ops[u]? = some o):=by
   intro us
   induction us with
   | nil=>intro _ _ u hu;cases hu
   | cons x us ih =>
    intro done h u hu;simp only [Zfl,Bool.and_eq_true] at h
    rcases List.mem_cons.1 hu with rfl | hu
    ·refine ⟨List.contains_iff_mem.1 h.1.1.1.1.2,?_⟩
     cases ho : ops[u]? with
     | none=>have:=h.1.1.1.1.1;rw [ho] at this;cases this
     | some o=>exact ⟨o,rfl⟩
    ·exact ih _ h.2 u hu
  exact this (att r) [] (hato r hr)
 intro n
 induction n using Nat.strongRecOn with
 | _ n ih =>
  intro l ν w hn hsz hK hM hD hA hb hΦ hNE
  have hsize : ∀ r ∈ Zao R att,r < l.size:=fun x hx=>by
   obtain ⟨r,hr,hx2⟩:=List.mem_flatMap.1 hx
   rcases List.mem_cons.1 hx2 with rfl | hx2
   ·obtain ⟨-,o,d,ho,-⟩:=t1 x hr
    have:=(Array.getElem?_eq_some_iff.1 ho).1;omega
   ·obtain ⟨-,o,ho⟩:=hattp r hr x hx2
    have:=(Array.getElem?_eq_some_iff.1 ho).1;omega
  have htf : ∀ k,k < l.size -> l.getD k true = true -> l.getD k false = true:=fun k hk h=>by
   rw [Array.getD_eq_getD_getElem?,Array.getElem?_eq_getElem hk] at h ⊢;exact h
  by_cases hex : ∃ r ∈ R,l.getD r true = false
  ·obtain ⟨r,hr,hr1,hr2⟩:=t2 l hsz hM (fun r hr h u hu=>(hA r hr u hu).1 h) hex
   obtain ⟨-,o,d,ho,-⟩:=t1 r hr;have hready:=Zeu (md:=md) hr1 ho hr2
   obtain ⟨m,rfl⟩ : ∃ m,n = m + 1:=by
    have:=Zik hndf (hmemR r hr) hr1;exact ⟨left (Zao R att) (l.setIfInBounds r true),by omega⟩
   rw [Nat.add_right_comm];refine ⟨fun h0=>(by rw [h0] at hready;cases hready),fun i hi=>?_⟩;obtain ⟨hi1,hi2,hi3⟩:=Zio hi
   have hiF : i ∈ Zao R att:=by
    apply Classical.byContradiction
    intro hni;unfold Zrs at hou;rw [List.all_eq_true] at hou;have h1:=hou i (List.mem_range.2 hi2);simp only [Bool.or_eq_true,List.any_eq_true,List.all_eq_true,Bool.and_eq_true,Bool.not_eq_true'] at h1
    rcases h1 with ((h1 | h1) | ⟨p,hp,h2,h3⟩) | h1
    ·exact hni (List.contains_iff_mem.1 h1)
    ·rw [hK i hni,h1] at hi1;cases hi1
    ·have hpR : p ∉ Zao R att:=fun h=>by rw [List.contains_iff_mem.2 h] at h2;cases h2
     have h4:=hi3 p hp;have h5:=Zcz h4;rw [hK p hpR] at h5
     have hps : p < l.size:=by
      rcases Nat.lt_or_ge p l.size with h' | h'
      ·exact h'
      ·rw [Array.getD_eq_getD_getElem?,Array.getElem?_eq_none h'] at h4;cases h4
     rw [Array.getD_eq_getD_getElem?,Array.getElem?_eq_getElem (by omega)] at h5 h3;simp only [Option.getD_some] at h5 h3;rw [h5] at h3;cases h3
    ·have h2:=Zmx (md:=md) (ops:=ops) (l:=l) (R:=Zao R att) hD (Zao R att).reverse (Zaj md ops i) (fun r hr=>List.mem_reverse.1 hr) hi3
     have h3:=Zcz (h2 r (List.contains_iff_mem.1 (h1 r hr)));rw [hr1] at h3;cases h3
   have hiR : i ∈ R:=by
    obtain ⟨r',hr',hx⟩:=List.mem_flatMap.1 hiF
    rcases List.mem_cons.1 hx with rfl | hx
    ·exact hr'
    ·exfalso
     have h1:=Zcz (hi3 r' (hattp r' hr' i hx).1);have h2:=Zcz ((hA r' hr' i hx).1 h1);rw [hi1] at h2;cases h2
   have hdn : Zas ops i ∈ (Zao R att).map (Zas ops):=List.mem_map.2 ⟨i,hiF,rfl⟩;obtain ⟨own1,own2⟩:=Zl9 hndf i hiR;obtain ⟨ni,nus⟩:=Za2 own1;refine wpOp_mono (fun a' w' h=>?_) (hop i hiR ν w hb fun j hj hp=>hΦ j hj (Zcz (hi3 j hp)));obtain ⟨v,rfl,hv,hb2,htr,hne⟩:=h;have hb3:=hb.trans (hb2.mono hb.size);refine ⟨fun _=>hS _ hb3,?_⟩;rw [Zhb hdn hnd] at htr ⊢;have hset : (l.setIfInBounds i true).getD i false = true:=Zew (hsize i hiF)
   have hund : ∀ u ∈ att i,(l.setIfInBounds i true).getD u true = false:=fun u hu=>by
    rw [Go.getD_set_ne true (fun e : i = u=>ni (e ▸ hu))];exact (hA i hiR u hu).2 hi1
   have hlt:=Zik hndf hiF hi1;have hlm:=Zk2 hndf (att i) (l.setIfInBounds i true) nus (hmemU i hiR) hund
   have hm : m = (att i).length + left (Zao R att) (Zav (att i) (l.setIfInBounds i true)):=by omega
   rw [hm,Nat.add_assoc];refine Zn6 (R:=Zao R att) hns hnd hiF (att i) [] (l.setIfInBounds i true) _ (hato i hiR) (hmemU i hiR) (fun u hu=>hL u (hmemU i hiR u hu)) hund (by simp;omega) nus (fun p hp=>Zab (hM p hp)) hset (fun p hp=>Zab (hi3 p hp)) (fun u hu=>by cases hu) (hS _ hb3) htr (fun ν' k1 k2=>?_)
   have hνi : ν' (Zas ops i) = v:=by
    rw [k1 _ (fun u hu=>Zd0 hnd (hmemU i hiR u hu) hiF (fun e=>ni (e ▸ hu)))];simp only [upd,if_true]
   have hνo : ∀ x ∈ Zao R att,x ≠ i -> x ∉ att i -> ν' (Zas ops x) = ν (Zas ops x):=fun x hx h1 h2=>by
    rw [k1 _ (fun u hu=>Zd0 hnd (hmemU i hiR u hu) hx (fun e=>h2 (e ▸ hu)))];simp only [upd,if_neg (Zd0 hnd hx hiF h1)]
   refine ih _ (by omega) (Zav (att i) (l.setIfInBounds i true)) ν' w' rfl (by rw [Zd4];simp;exact hsz) (fun k hk=>?_) (fun k hk=>Za7 (Zab (hM k hk))) (fun x hx hxt p hp=>?_) (fun r' hr' u hu=>?_) hb3 (fun x hx hxt=>?_) (fun a ha b hb' hab hat hbt=>?_)
   ·rw [Za9,if_neg (fun h=>hk (hmemU i hiR k h)),Go.getD_set_ne true (fun e : i = k=>hk (e ▸ hiF))]
    exact hK k hk
   ·rcases Zil hxt with h1 | h1
    ·-- an operation of the train
     have h2 : ∀ (us done : List Nat),Zfl md ops l0 i us done = true -> (∀ u ∈ done,(Zav (att i) (l.setIfInBounds i true)).getD u false = true) -> (∀ u ∈ us,u ∈ att i) -> ∀ u ∈ us,∀ p ∈ Zaj md ops u,(Zav (att i) (l.setIfInBounds i true)).getD p false = true:=by
      intro us
      induction us with
      | nil=>intro _ _ _ _ u hu;cases hu
      | cons y us ihu =>
       intro done h hd hall u hu p hp;simp only [Zfl,Bool.and_eq_true,List.all_eq_true] at h
       rcases List.mem_cons.1 hu with rfl | hu
       ·have h7:=h.1.1.2 p hp
        simp only [Bool.or_eq_true,beq_iff_eq] at h7
        rcases h7 with ((h7 | h7) | h7) | h7
        ·rw [h7];exact Za7 hset
        ·exact hd p (List.contains_iff_mem.1 h7)
        ·exact Za7 (Zab (hM p h7))
        ·exact Za7 (Zab (hi3 p (List.contains_iff_mem.1 h7)))
       ·refine ihu (y :: done) h.2 (fun z hz=>?_) (fun z hz=>hall z (List.mem_cons_of_mem _ hz)) u hu p hp
        rcases List.mem_cons.1 hz with rfl | hz
        ·exact Zib (hall z (List.mem_cons_self ..)) (by simp;exact hsize z (hmemU i hiR z (hall z (List.mem_cons_self ..))))
        ·exact hd z hz
     exact h2 (att i) [] (hato i hiR) (fun u hu=>by cases hu) (fun u hu=>hu) x h1 p hp
    ·by_cases hxi : i = x
     ·subst hxi;exact Za7 (Zab (hi3 p hp))
     ·rw [Go.getD_set_ne false hxi] at h1
      exact Za7 (Zab (hD x hx h1 p hp))
   ·by_cases hri : r' = i
    ·subst hri
     refine ⟨fun _=>Zib hu (by simp;exact hsize u (hmemU r' hr' u hu)),fun h=>?_⟩;have h1:=Zet h;rw [Zcz hset] at h1;cases h1
    ·have hd1:=own2 r' hr' hri
     have hu1 : u ∉ att i:=fun h=>hd1 u (List.mem_cons_of_mem _ h) (List.mem_cons_of_mem _ hu)
     have hu2 : i ≠ u:=fun h=>hd1 i (List.mem_cons_self ..) (h ▸ List.mem_cons_of_mem _ hu)
     have hr1' : r' ∉ att i:=fun h=>hd1 r' (List.mem_cons_of_mem _ h) (List.mem_cons_self ..)
     refine ⟨fun h=>?_,fun h=>?_⟩
     ·rw [Za9,if_neg hr1',Go.getD_set_ne true (Ne.symm hri)] at h
      exact Za7 (Zab ((hA r' hr' u hu).1 h))
     ·rw [Za9,if_neg hr1',Go.getD_set_ne true (Ne.symm hri)] at h
      rw [Za9,if_neg hu1,Go.getD_set_ne true hu2];exact (hA r' hr' u hu).2 h
   ·by_cases hxi : x = i
    ·subst hxi;rw [hνi];exact hv
    ·by_cases hxa : x ∈ att i
     ·exact k2 x hxa
     ·rw [hνo x hx hxi hxa]
      rw [Za9,if_neg hxa,Go.getD_set_ne true (Ne.symm hxi)] at hxt;exact hst x hx _ _ _ hb2 (hΦ x hx hxt)
   ·have hDa : ∀ x ∈ D,x ∉ att i:=fun x hx h=>by
      by_cases hxi : x = i
      ·exact ni (hxi ▸ h)
      ·exact own2 x (hDR x hx) hxi x (List.mem_cons_of_mem _ h) (List.mem_cons_self ..)
    have hold : ∀ x ∈ D,x ≠ i -> (Zav (att i) (l.setIfInBounds i true)).getD x true = true -> ν' (Zas ops x) = ν (Zas ops x) /\ l.getD x true = true:=fun x hx hxi h=>by
     rw [Za9,if_neg (hDa x hx),Go.getD_set_ne true (Ne.symm hxi)] at h;exact ⟨hνo x (hmemR x (hDR x hx)) hxi (hDa x hx),h⟩
    by_cases hai : a = i
    ·have hbi : b ≠ i:=fun h=>hab (hai.trans h.symm)
     obtain ⟨e1,e2⟩:=hold b hb' hbi hbt;rw [hai,hνi,e1];exact hne (hai ▸ ha) b hb' _ (hΦ b (hmemR b (hDR b hb')) e2)
    ·obtain ⟨e1,e2⟩:=hold a ha hai hat
     by_cases hbi : b = i
     ·rw [hbi,hνi,e1]
      exact fun h=>hne (hbi ▸ hb') a ha _ (hΦ a (hmemR a (hDR a ha)) e2) h.symm
     ·obtain ⟨e3,e4⟩:=hold b hb' hbi hbt
      rw [e1,e3];exact hNE a ha b hb' hab e2 e4
  ·have hall : ∀ x ∈ Zao R att,l.getD x true = true:=fun x hx=>by
     obtain ⟨r,hr,hx2⟩:=List.mem_flatMap.1 hx
     have h1 : l.getD r true = true:=by
      cases h : l.getD r true with
      | true=>rfl
      | false=>exact absurd ⟨r,hr,h⟩ hex
     rcases List.mem_cons.1 hx2 with rfl | hx2
     ·exact h1
     ·exact Zcz ((hA r hr x hx2).1 h1)
   have h0 : left (Zao R att) l = 0:=by
    unfold left;rw [List.length_eq_zero_iff,List.filter_eq_nil_iff];intro r hr;rw [hall r hr];simp
   have : l = Zav (Zao R att) l0:=by
    refine Znj (by rw [Zd4];exact hsz) fun k=>?_
    rw [Za9]
    by_cases hk : k ∈ Zao R att
    ·rw [if_pos hk];exact hall k hk
    ·rw [if_neg hk];exact hK k hk
   subst this;rw [hn,h0,Nat.zero_add];exact hfin ν w hb (fun i hi=>hΦ i hi (hall i hi)) (fun i hi j hj hij=>hNE i hi j hj hij (hall i (hmemR i (hDR i hi))) (hall j (hmemR j (hDR j hj))))
theorem Zlp (DP : List (Nat × Nat)) (RP : List (Nat × Nat)) (att : Nat -> List Nat) (FP : List (Nat × Nat)) (Φ : Nat -> Value -> World -> Prop) (F : Nat) {l0 : Array Bool} {a0 : Act} {w0 : World}
    (hok : (Zie md ops (RP.map (·.1)) att l0 && (Zao (RP.map (·.1)) att == FP.map (·.1)) && FP.all (fun p=>Zas ops p.1 == p.2) && RP.all (fun p=>Zas ops p.1 == p.2) && FP.all (fun p=>!L.contains p.1) && DP.all (fun p=>RP.contains p)) = true)
    (hst : ∀ p ∈ FP,∀ v w w',Below w.heap.size w w' -> Φ p.1 v w -> Φ p.1 v w') (hS : ∀ w',Below w0.heap.size w0 w' -> S w')
    (hop : ∀ p ∈ RP,∀ (ν : Nat -> Value) (w : World),Below w0.heap.size w0 w -> (∀ q ∈ FP,(Zaj md ops p.1).contains q.1 = true -> Φ q.1 (ν q.2) w) ->
     wpOp P ops (OnlyNormal Q) p.1 (fun a' w'=>∃ v,a' = (Za3 (FP.map (·.2)) a0 ν).put (some p.2) v /\ Φ p.1 v w' /\ Below w.heap.size w w' /\ Zmz P ops Φ w' (att p.1) a' /\ (p ∈ DP -> ∀ q ∈ DP,∀ u,Φ q.1 u w -> v ≠ u)) (Za3 (FP.map (·.2)) a0 ν) w)
    (hfin : ∀ (ν : Nat -> Value) (w : World),Below w0.heap.size w0 w -> (∀ p ∈ FP,Φ p.1 (ν p.2) w) -> (∀ p ∈ DP,∀ q ∈ DP,p ≠ q -> ν p.2 ≠ ν q.2) -> Z8 P md ops (OnlyNormal Q) L S F (Zav (FP.map (·.1)) l0) (Za3 (FP.map (·.2)) a0 ν) w) :
    Z8 P md ops (OnlyNormal Q) L S (FP.length + F) l0 a0 w0:=by
 simp only [Bool.and_eq_true,beq_iff_eq] at hok;obtain ⟨⟨⟨⟨⟨h1,h2⟩,h3⟩,h4⟩,h5⟩,h6⟩:=hok;rw [List.all_eq_true] at h6;have hD:=Zma (ops:=ops) FP h3;rw [<- h2] at hD;rw [List.all_eq_true] at h3 h4 h5
 have hmem : ∀ i,i ∈ Zao (RP.map (·.1)) att -> ∃ p ∈ FP,p.1 = i:=fun i hi=>by
  rw [h2] at hi;exact List.mem_map.1 hi
 have hall:=h1;simp only [Zie,Bool.and_eq_true,decide_eq_true_eq] at h1;obtain ⟨⟨⟨⟨⟨hto,-⟩,hnd⟩,hsz0⟩,hato⟩,-⟩:=h1;obtain ⟨t1,-⟩:=Zf2 _ l0 hto
 have hund : ∀ i ∈ Zao (RP.map (·.1)) att,l0.getD i true = false:=fun x hx=>by
  obtain ⟨r,hr,hx2⟩:=List.mem_flatMap.1 hx
  rcases List.mem_cons.1 hx2 with rfl | hx2
  ·exact (t1 x hr).1
  ·rw [List.all_eq_true] at hato
   have : ∀ (us done : List Nat),Zfl md ops l0 r us done = true -> ∀ u ∈ us,l0.getD u true = false:=by
    intro us
    induction us with
    | nil=>intro _ _ u hu;cases hu
    | cons y us ih =>
     intro done h u hu;simp only [Zfl,Bool.and_eq_true,Bool.not_eq_true'] at h
     rcases List.mem_cons.1 hu with rfl | hu
     ·exact h.1.1.1.2
     ·exact ih _ h.2 u hu
   exact this _ _ (hato r hr) x hx2
 have hlen : left (Zao (RP.map (·.1)) att) l0 = FP.length:=by
  unfold left;rw [List.filter_eq_self.2 (fun r hr=>by rw [hund r hr];rfl),h2,List.length_map]
 have h:=Zp9 (P:=P) (ops:=ops) (Q:=Q) (md:=md) (L:=L) (S:=S) (RP.map (·.1)) att (DP.map (·.1)) (fun i hi=>by
  obtain ⟨p,hp,rfl⟩:=List.mem_map.1 hi
  exact List.mem_map.2 ⟨p,List.contains_iff_mem.1 (h6 p hp),rfl⟩) Φ (F:=F) (a0:=a0) (w0:=w0) hall (fun u hu=>by
  obtain ⟨p,hp,rfl⟩:=hmem u hu;have:=h5 p hp;intro hc;rw [List.contains_iff_mem.2 hc] at this
  cases this) (fun i hi=>by
  obtain ⟨p,hp,rfl⟩:=hmem i hi
  exact hst p hp) hS (fun i hi ν w hb hP=>by
  obtain ⟨p,hp,rfl⟩:=List.mem_map.1 hi
  have:=hop p hp ν w hb (fun q hq hc=>by
   have hq2:=hP q.1 (by rw [h2];exact List.mem_map.2 ⟨q,hq,rfl⟩) (List.contains_iff_mem.1 hc);have e:=h3 q hq;simp only [beq_iff_eq] at e;rw [e] at hq2
   exact hq2)
  have e:=h4 p hp;simp only [beq_iff_eq] at e;rw [hD,e];refine wpOp_mono (fun a' w' h=>?_) this;obtain ⟨v,k1,k2,k3,k4,k5⟩:=h;refine ⟨v,k1,k2,k3,k4,fun hi j hj u hu=>?_⟩;obtain ⟨p',hp',hpe⟩:=List.mem_map.1 hi;obtain ⟨q',hq',rfl⟩:=List.mem_map.1 hj;have e1:=h4 p' (List.contains_iff_mem.1 (h6 p' hp'));simp only [beq_iff_eq] at e1;have : p' = p:=Prod.ext hpe (by rw [<- e1,<- e,hpe])
  exact k5 (this ▸ hp') q' hq' u hu) (fun ν w hb hf hne=>by
  rw [hD,h2]
  exact hfin ν w hb (fun p hp=>by
   have hq2:=hf p.1 (by rw [h2];exact List.mem_map.2 ⟨p,hp,rfl⟩);have e:=h3 p hp;simp only [beq_iff_eq] at e;rw [e] at hq2
   exact hq2) (fun p hp q hq hpq=>by
   have e1:=h4 p (List.contains_iff_mem.1 (h6 p hp));have e2:=h4 q (List.contains_iff_mem.1 (h6 q hq));simp only [beq_iff_eq] at e1 e2;have:=hne p.1 (List.mem_map.2 ⟨p,hp,rfl⟩) q.1 (List.mem_map.2 ⟨q,hq,rfl⟩) (fun h=>hpq (Prod.ext h (by rw [<- e1,<- e2,h])));rw [e1,e2] at this
   exact this)) FP.length l0 (fun d=>a0.tmps.getD d undef) w0 hlen.symm rfl (fun _ _=>rfl) (fun _ h=>h)
  (fun r hr h=>by have h1:=Zcz h;rw [hund r hr] at h1;cases h1)
  (fun r hr u hu=>⟨fun h=>(by rw [hund r (List.mem_flatMap.2 ⟨r,hr,List.mem_cons_self ..⟩)] at h;cases h),fun _=>hund u (List.mem_flatMap.2 ⟨r,hr,List.mem_cons_of_mem _ hu⟩)⟩)
  (Below.refl _ _) (fun r hr h=>by rw [hund r hr] at h;cases h)
  (fun i hi j hj _ h _=>by
   obtain ⟨p,hp,rfl⟩:=List.mem_map.1 hi;rw [hund p.1 (List.mem_flatMap.2 ⟨p.1,List.mem_map.2 ⟨p,List.contains_iff_mem.1 (h6 p hp),rfl⟩,List.mem_cons_self ..⟩)] at h
   cases h)
 rw [Zm7] at h;exact h
theorem Zhm (RP : List (Nat × Nat)) (att : Nat -> List Nat) (FP : List (Nat × Nat)) (Φ : Nat -> Value -> World -> Prop) (F : Nat) {l0 : Array Bool} {a0 : Act} {w0 : World}
    (hok : (Zie md ops (RP.map (·.1)) att l0 && (Zao (RP.map (·.1)) att == FP.map (·.1)) && FP.all (fun p=>Zas ops p.1 == p.2) && RP.all (fun p=>Zas ops p.1 == p.2) && FP.all (fun p=>!L.contains p.1)) = true)
    (hst : ∀ p ∈ FP,∀ v w w',Below w.heap.size w w' -> Φ p.1 v w -> Φ p.1 v w') (hS : ∀ w',Below w0.heap.size w0 w' -> S w')
    (hop : ∀ p ∈ RP,∀ (ν : Nat -> Value) (w : World),Below w0.heap.size w0 w -> (∀ q ∈ FP,(Zaj md ops p.1).contains q.1 = true -> Φ q.1 (ν q.2) w) ->
     wpOp P ops (OnlyNormal Q) p.1 (fun a' w'=>∃ v,a' = (Za3 (FP.map (·.2)) a0 ν).put (some p.2) v /\ Φ p.1 v w' /\ Below w.heap.size w w' /\ Zmz P ops Φ w' (att p.1) a') (Za3 (FP.map (·.2)) a0 ν) w)
    (hfin : ∀ (ν : Nat -> Value) (w : World),Below w0.heap.size w0 w -> (∀ p ∈ FP,Φ p.1 (ν p.2) w) -> Z8 P md ops (OnlyNormal Q) L S F (Zav (FP.map (·.1)) l0) (Za3 (FP.map (·.2)) a0 ν) w) :
    Z8 P md ops (OnlyNormal Q) L S (FP.length + F) l0 a0 w0:=
 Zlp [] RP att FP Φ F (by rw [hok];rfl) hst hS (fun p hp ν w hb hP=>wpOp_mono (fun a' w' h=>by
  obtain ⟨v,k1,k2,k3,k4⟩:=h
  exact ⟨v,k1,k2,k3,k4,fun h=>by cases h⟩) (hop p hp ν w hb hP)) (fun ν w hb hf _=>hfin ν w hb hf)
end
end Go.Proofs.YtkcbhbddgmkoiaaGreat
