/- Rows of fractions in a block of the call's own, whose -/
import Derived.Test.YtpehacgjclkhmaaGreatZy33
import Derived.Test.YtpehacgjclkhmaaGreatZy28
set_option linter.unusedSimpArgs false
set_option linter.unusedVariables false
namespace Go.Proofs.YtpehacgjclkhmaaGreat
open Go.RowKit
section
variable {w : World} {g i : Nat} {na : Bool} {A : Option Addr} {n c : Nat} {nb : Bool} {B : Option Addr} {m d : Nat}
end
section
variable {t : TypeId} {w w' : World} {g : Nat} {qs : List Rat}
end
structure RF where
 g : Nat
 c : Nat
 q : List Rat
section
variable {tS tF : TypeId} {w w' : World} {go : Nat} {L : List RF}
end
section
variable {a b : Rat} {i j k l : Nat}
theorem SmN.mulN (h : SmN i j a) (g : SmN k l b) : SmN (i + k) (j + l) (a * b):=by
 rw [<- Znm a b];have hd : ((a.den : Int) * (b.den : Nat)) ≠ 0:=Int.ne_of_gt (Zd4 a b);refine ⟨Nat.lt_of_le_of_lt (Zqf _ _ hd) ?_,Nat.lt_of_le_of_lt (Zpk _ _ hd) ?_⟩
 ·rw [Int.natAbs_mul];exact Zde h.1 g.1
 ·rw [Int.natAbs_mul,Int.natAbs_natCast,Int.natAbs_natCast];exact Zde h.2 g.2
theorem SmN.divN (h : SmN i j a) (g : SmN k l b) (h0 : b ≠ 0) : SmN (i + l) (j + k) (a / b):=by
 rw [<- Zgk a b h0];have hd:=Zh7 a b h0;refine ⟨Nat.lt_of_le_of_lt (Zqf _ _ hd) ?_,Nat.lt_of_le_of_lt (Zpk _ _ hd) ?_⟩
 ·rw [Int.natAbs_mul,Int.natAbs_natCast];exact Zde h.1 g.2
 ·rw [Int.natAbs_mul,Int.natAbs_natCast];exact Zde h.2 g.1
end
theorem pw_pow (k n : Nat) : pw k ^ n = pw (k * n):=by
 induction n with
 | zero=>rfl
 | succ n ih=>rw [Nat.pow_succ,ih,Nat.mul_succ,Zdr]
theorem le_pw1 {n : Nat} (h : n <= 900) : n <= pw 1:=by rw [Z8,Zb0];omega
theorem Znv {b : Nat} : ∀ n,n <= 900 -> Zed (pw b) n <= pw ((b + 1) * n)
 | 0,_=>Nat.le_refl _
 | n + 1,h=>by
  have h1:=Znv (b:=b) n (by omega);have h2 : (n + 1) * (pw b * Zed (pw b) n) <= pw 1 * (pw b * pw ((b + 1) * n)):=Nat.mul_le_mul (le_pw1 h) (Nat.mul_le_mul (Nat.le_refl _) h1);rw [<- Zdr,<- Zdr] at h2;rw [show (b + 1) * (n + 1) = 1 + (b + (b + 1) * n) by rw [Nat.mul_succ];omega];exact h2
def SmE (k : Nat) (Q : List (List Rat)) : Prop:=∀ i j,(Zm Q i j).num.natAbs <= pw k /\ (Zm Q i j).den <= pw k
section
variable {k n m : Nat} {Q : List (List Rat)}
theorem SmE.denTo (h : SmE k Q) (i t : Nat) : denTo (Q[i]?.getD []) t <= pw (k * t):=by
 rw [<- pw_pow];exact Zp2 _ (fun j=>(h i j).2) t
theorem SmE.denAt (h : SmE k Q) {i : Nat} (hr : (Q[i]?.getD []).length = m) : denAt Q i <= pw (k * m):=by
 have:=h.denTo i m;unfold Go.Proofs.YtpehacgjclkhmaaGreat.denAt;rw [hr];exact this
theorem Zj8 {z : Int} {d : Nat} {q : Rat} (h : (z : Rat) = (d : Nat) * q) : z.natAbs <= d * q.num.natAbs:=by
 have h1 : (z : Rat) * ((q.den : Nat) : Rat) = ((d : Nat) : Rat) * ((q.num : Int) : Rat):=by
  have e0 : ((q.num : Int) : Rat) / ((q.den : Nat) : Rat) = q:=by have:=Rat.num_divInt_den q;rw [Rat.divInt_eq_div,Rat.intCast_natCast] at this;exact this
  have e1 : ((q.den : Nat) : Rat) ≠ 0:=by
   intro h;have : q.den = 0:=by exact_mod_cast h
   have:=q.den_pos;omega
  have e2 : ((q.num : Int) : Rat) = q * ((q.den : Nat) : Rat):=by
   have : ((q.num : Int) : Rat) / ((q.den : Nat) : Rat) * ((q.den : Nat) : Rat) = ((q.num : Int) : Rat):=by grind
   rw [e0] at this;exact this.symm
  rw [h,e2];grind
 have h2 : z * (q.den : Int) = (d : Int) * q.num:=by exact_mod_cast h1
 have h3:=congrArg Int.natAbs h2;rw [Int.natAbs_mul,Int.natAbs_mul,Int.natAbs_natCast,Int.natAbs_natCast] at h3;rw [<- h3];exact Nat.le_mul_of_pos_right _ q.den_pos
theorem SmE.whole (h : SmE k Q) {i : Nat} (hr : (Q[i]?.getD []).length = m) (j : Nat) : (entZ (Zd3 Q) i j).natAbs <= pw (k * m + k):=by
 refine Nat.le_trans (Zj8 (Zfh Q i j)) ?_;rw [Zdr];exact Nat.mul_le_mul (h.denAt hr) (h i j).1
end
def qM (rs : List RX) : List (List Rat):=rs.map fun r=>r.es.map FX.q
section
variable {w : World} {A : Option Addr} {n c : Nat} {rs : List RX}
theorem qM_len (h : MXL w A n c rs) : (qM rs).length = n:=by unfold qM;rw [List.length_map];exact h.1
end
def Zaf (A : Nat -> Nat -> Rat) : Nat -> Nat -> Nat -> Rat
 | 0,i,k=>A i k
 | t + 1,i,k=>if t < i then Zaf A t i k - Zaf A t i t / Zaf A t t t * Zaf A t t k else Zaf A t i k
theorem Ze4 {A : Nat -> Nat -> Rat} {t i k : Nat} (h : t < i) : Zaf A (t + 1) i k = Zaf A t i k - Zaf A t i t / Zaf A t t t * Zaf A t t k:=by
 show (if t < i then _ else _) = _;rw [if_pos h]
theorem Zds {A : Nat -> Nat -> Rat} {n : Nat} (hA : ∀ i k,i < n -> k < n -> A i k = A k i) : ∀ (t i k : Nat),t <= i -> t <= k -> i < n -> k < n -> Zaf A t i k = Zaf A t k i
 | 0,i,k,_,_,hi,hk=>hA i k hi hk
 | t + 1,i,k,h1,h2,hi,hk=>by
  rw [Ze4 (by omega),Ze4 (by omega),Zds hA t i k (by omega) (by omega) hi hk,Zds hA t i t (by omega) (by omega) hi (by omega),Zds hA t t k (by omega) (by omega) (by omega) hk];rw [Rat.div_def,Rat.div_def]
  grind
def dQ (A : Nat -> Nat -> Rat) (i : Nat) : Rat:=Zaf A i i i
def lQ (A : Nat -> Nat -> Rat) (i k : Nat) : Rat:=Zaf A k i k / dQ A k
theorem Zhr {A : Nat -> Nat -> Rat} {n : Nat} (hA : ∀ i k,i < n -> k < n -> A i k = A k i) {t i k : Nat} (ht : t < k) (hk : k <= i) (hi : i < n) (hd : dQ A t ≠ 0) :
    Zaf A (t + 1) i k = Zaf A t i k - lQ A i t * lQ A k t * dQ A t:=by
 rw [Ze4 (by omega),Zds hA t t k (by omega) (by omega) (by omega) (by omega)];unfold lQ dQ at *
 grind
def redR (R : List (List Rat)) : Nat -> List (List Rat)
 | 0=>R
 | t + 1=>Zc9 (redR R t) t t
def posP (A : Nat -> Nat -> Rat) (n : Nat) : Prop:=∀ t,t < n -> 0 < dQ A t
theorem posP.mono {A : Nat -> Nat -> Rat} {n m : Nat} (h : posP A n) (hm : m <= n) : posP A m:=fun t ht=>h t (by omega)
theorem posP.ne {A : Nat -> Nat -> Rat} {n : Nat} (h : posP A n) {t : Nat} (ht : t < n) : dQ A t ≠ 0:=fun h0=>by have:=h t ht;rw [h0] at this;exact absurd this (by decide)
section
variable {B S n m : Nat} {R : List (List Rat)}
theorem Zi2 {pc : Nat -> Nat} {G : Nat -> Nat -> Rat} {s : Nat -> Rat} (h0 : EIR B S n m 0 0 R pc G s) : ∀ t,t <= n -> t <= m -> posP (Zm R) t -> (∃ pc,EIR B S n m t t (redR R t) pc G s) /\ ∀ i k,i < n -> Zm (redR R t) i k = Zaf (Zm R) t i k
 | 0,_,_,_=>⟨⟨_,h0⟩,fun i k _=>rfl⟩
 | t + 1,hn,hm,hp=>by
  obtain ⟨⟨pc,h1⟩,h2⟩:=Zi2 h0 t (by omega) (by omega) (hp.mono (by omega))
  have h0 : Zm (redR R t) t t ≠ 0:=by rw [h2 t t (by omega)];exact hp.ne (by omega)
  refine ⟨⟨_,h1.clear (by omega) (by omega) h0⟩,fun i k hi=>?_⟩;show Zm (Zc9 (redR R t) t t) i k = if t < i then _ else _;rw [Zg2 (m:=m) (fun i hi=>h1.row i (by rw [h1.len] at hi;exact hi)) (fun j hj=>h1.low t j (Nat.le_refl _) (by omega) hj) i k (by rw [h1.len];exact hi) (by rw [h1.len];omega)]
  by_cases hti : t < i
  ·rw [if_neg (by omega),if_pos hti,h2 i k hi,h2 i t hi,h2 t t (by omega),h2 t k (by omega)]
  ·rw [if_pos (by omega),if_neg hti,h2 i k hi]
theorem Zqr (hl : R.length = n) (hrow : ∀ i,i < n -> (R[i]?.getD []).length = m) (hS : ∀ i,i < n -> denAt R i <= S) (hBd : ∀ i j,i < n -> (entZ (Zd3 R) i j).natAbs <= B) (t : Nat) (hn : t <= n) (hm : t <= m) (hp : posP (Zm R) t) :
    (∃ pc G s,EIR B S n m t t (redR R t) pc G s) /\ ∀ i k,i < n -> Zm (redR R t) i k = Zaf (Zm R) t i k:=by
 obtain ⟨⟨pc,h1⟩,h2⟩:=Zi2 (Zmu R hl hrow hS hBd).1 t hn hm hp;exact ⟨⟨_,_,_,h1⟩,h2⟩
end
section
variable {k n m : Nat} {R : List (List Rat)}
end
theorem SmE.red2 {k n m : Nat} {R : List (List Rat)} (h : SmE k R) (hl : R.length = n) (hn : n <= 900) (hrow : ∀ i,i < n -> (R[i]?.getD []).length = m) {t : Nat} (ht : t <= n) (htm : t <= m) (hp : posP (Zm R) t) {i : Nat} (hi : i < n) (j : Nat) : SmN ((k * m + k + 1) * n + 1) ((k * m + k + 1) * n + k * m + 1) (Zaf (Zm R) t i j):=by
 obtain ⟨⟨pc,G,s,h3⟩,h4⟩:=Zqr (B:=pw (k * m + k)) (S:=pw (k * m)) hl hrow (fun i hi=>h.denAt (hrow i hi)) (fun i j hi=>h.whole (hrow i hi) j) t ht htm hp;obtain ⟨h5,h6⟩:=h3.bound (Zdx _) hi j;rw [h4 i j hi] at h5 h6;have hb:=Znv (b:=k * m + k) n hn;refine ⟨Nat.lt_of_le_of_lt (Nat.le_trans h5 hb) (Zgi (by omega)),?_⟩;refine Nat.lt_of_le_of_lt (Nat.le_trans h6 (Nat.mul_le_mul hb (Nat.le_refl _))) ?_;rw [<- Zdr];exact Zgi (by omega)
structure FacP (A : Nat -> Nat -> Rat) (n : Nat) : Prop where
 sym : ∀ i k,i < n -> k < n -> A i k = A k i
 s : ∀ t i k,t <= n -> posP A t -> i < n -> k < n -> SmN 380 380 (Zaf A t i k)
 l : ∀ i k,k <= i -> i < n -> posP A (k + 1) -> SmN 300 300 (lQ A i k)
section
variable {A : Nat -> Nat -> Rat} {n : Nat}
theorem FacP.d (h : FacP A n) {k : Nat} (hk : k < n) (hp : posP A k) : SmN 380 380 (dQ A k):=h.s k k k (by omega) hp hk hk
theorem FacP.ll (h : FacP A n) {i j k : Nat} (hki : k <= i) (hi : i < n) (hkj : k <= j) (hj : j < n) (hp : posP A (k + 1)) : SmN 600 600 (lQ A i k * lQ A j k):=((h.l i k hki hi hp).mulN (h.l j k hkj hj hp)).mono (by decide) (by decide)
theorem FacP.lld (h : FacP A n) {i j k : Nat} (hki : k <= i) (hi : i < n) (hkj : k <= j) (hj : j < n) (hp : posP A (k + 1)) : SmN 980 980 (lQ A i k * lQ A j k * dQ A k):=((h.ll hki hi hkj hj hp).mulN (h.d (show k < n by omega) (hp.mono (by omega)))).mono (by decide) (by decide)
end
theorem FacP.of {k n : Nat} {R : List (List Rat)} (h : SmE k R) (hl : R.length = n) (hn : n <= 900) (hrow : ∀ i,i < n -> (R[i]?.getD []).length = n) (hA : ∀ i k,i < n -> k < n -> Zm R i k = Zm R k i) (h1 : (k * n + k + 1) * n + ((k * n + k + 1) * n + k * n) + 2 <= 300) : FacP (Zm R) n:=by
 refine ⟨hA,fun t i j ht hp hi _=>(h.red2 hl hn hrow ht ht hp hi j).mono (by omega) (by omega),fun i j hji hi hp=>?_⟩
 have hj : j < n:=by omega
 have a:=h.red2 hl hn hrow (t:=j) (by omega) (by omega) (hp.mono (by omega)) hi j;have b:=h.red2 hl hn hrow (t:=j) (by omega) (by omega) (hp.mono (by omega)) hj j;exact (a.divN b (hp.ne (by omega))).mono (by omega) (by omega)
end Go.Proofs.YtpehacgjclkhmaaGreat
