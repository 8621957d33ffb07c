/- Package covar: over. Solving by elimination: the -/
import Derived.Deep.LoopGhost
import Derived.Test.YtpehacgjclkhmaaGreatZx34
import Derived.Test.YtpehacgjclkhmaaGreatZx33
set_option maxRecDepth 100000
set_option maxHeartbeats 16000000
set_option linter.unusedSimpArgs false
set_option linter.unusedVariables false
namespace Go.Proofs.YtpehacgjclkhmaaGreat
open Go.RowKit
attribute [local go_sem] Zg
theorem Zm3 (na nb na' nb' : Bool) (A B A' B' : Option Addr) (n c m d n' c' m' d' : Nat) (a b : Rat) (w : World) (ha : Fr w na A n c nb B m d a) (hb : Fr w na' A' n' c' nb' B' m' d' b) (sa : Sm a) (sb : Sm b) (h0 : b ≠ 0) :
    Calls Tryz.prog 52 #[.agg #[.bool na,.slice A n c,.bool nb,.slice B m d],.agg #[.bool na',.slice A' n' c',.bool nb',.slice B' m' d']] w (Zcu w (a / b)):=by
 obtain ⟨W0,hW0,hB0,⟨q0,q1,q2⟩,s0⟩:=Zbh w 91 #[.bool na,.slice A n c,.bool nb,.slice B m d] 91 #[.bool na',.slice A' n' c',.bool nb',.slice B' m' d'] 91 #[.bool false,.slice none 0 0,.bool false,.slice none 0 0];obtain ⟨a0,a1,a2,a3,-⟩:=q0.four;obtain ⟨b0,b1,b2,b3,-⟩:=q1.four;obtain ⟨gR,hgR⟩ : ∃ g,w.heap.size + 1 + 1 = g:=⟨_,rfl⟩;rw [hgR] at q2;have hA:=ha.below hB0;have hD:=hb.below hB0;go_enter Tryz.func52,Tryz.ntmps52;go_wp2_with fail;(try rw [hW0]);refine (Zop na nb na' nb' A B A' B' n c m d n' c' m' d' a b W0 hA hD sa sb h0).mono ?_;rintro e w1 ⟨hb1,pn,pA,pk,pc,pm,pB,pj,pd,rfl,hf⟩;replace q2:=Zc hb1 q2;clear a0 a1 a2 a3 b0 b1 b2 b3 q0 q1 hA hD;go_wp2_with fail;refine (Zfl pn pm pA pB pk pc pj pd _ w1 hf).mono ?_;rintro e w2 ⟨hb2,rn,rA,rk,rc,rm,rB,rj,rd,rfl,hr⟩;replace q2:=Zc hb2 q2;(try rw [hgR]);obtain ⟨c0,c1,c2,c3,z0,z1,z2,z3⟩:=q2.four;obtain ⟨W5,hW5,q5,hK5,s5⟩:=Zaf rn rA rk rc rm rB rj rd q2;clear hf;go_wp2_with fail;(try rw [hW5]);obtain ⟨r0,r1,r2,r3,-⟩:=q5.four;refine bodyPost_ret (v:=.agg #[.bool rn,.slice rA rk rc,.bool rm,.slice rB rj rd]) (by simp [results,Tryz.results52,go_sem,r0,r1,r2,r3]) rfl ?_;refine ⟨?_,_,_,_,_,_,_,_,_,rfl,hr.keptN hK5 q2 (Zao _ _ _ _ _ _ _ _)⟩;have hB2:=hB0.trans ((hb1.trans (hb2.mono hb1.size)).mono hB0.size);exact hB2.trans (hK5.to_below (fun k e=>by omega) hB2.size)
def upS (E X : Nat -> Nat -> Rat) (i k t : Nat) : Rat:=E i k - Zar t (fun j=>if i < j then E i j * X j k else 0)
theorem Zt3 (E X : Nat -> Nat -> Rat) (i k t : Nat) (h : t <= i + 1) : upS E X i k t = E i k:=by
 unfold upS
 have : Zar t (fun j=>if i < j then E i j * X j k else 0) = 0:=by
  induction t with
  | zero=>rfl
  | succ t ih=>simp only [Zar];rw [ih (by omega),if_neg (by omega)];grind
 rw [this];grind
theorem Zs4 (E X : Nat -> Nat -> Rat) {i k t : Nat} (h : i < t) : upS E X i k (t + 1) = upS E X i k t - E i t * X t k:=by
 unfold upS;simp only [Zar];rw [if_pos h];grind
theorem Zqg {n m : Nat} {f : Nat -> Rat} {k : Nat} (hk : n <= k) (hm : k < m) (h : ∀ j,n <= j -> j ≠ k -> f j = 0) : Zar m f = Zar n f + f k:=by
 induction m with
 | zero=>omega
 | succ m ih =>
  simp only [Zar]
  by_cases hkm : k = m
  ·subst hkm
   congr 1
   have : ∀ t,n + t <= k -> Zar (n + t) f = Zar n f:=by
    intro t
    induction t with
    | zero=>intro _;rfl
    | succ t iht=>intro ht;rw [<- Nat.add_assoc];simp only [Zar];rw [iht (by omega),h (n + t) (by omega) (by omega)];grind
   have h1:=this (k - n) (by omega);rw [show n + (k - n) = k by omega] at h1;exact h1
  ·rw [ih (by omega),h m (by omega) (by omega)];grind
section
variable {B S n m : Nat}
end
theorem pw_pow (k n : Nat) : pw k ^ n = pw (k * n):=by
 induction n with
 | zero=>rfl
 | succ n ih=>rw [Nat.pow_succ,ih,Nat.mul_succ,Zd3]
theorem le_pw1 {n : Nat} (h : n <= 900) : n <= pw 1:=by rw [Zak,Zci];omega
theorem Zqp {b : Nat} : ∀ n,n <= 900 -> Zfe (pw b) n <= pw ((b + 1) * n)
 | 0,_=>Nat.le_refl _
 | n + 1,h=>by
  have h1:=Zqp (b:=b) n (by omega);have h2 : (n + 1) * (pw b * Zfe (pw b) n) <= pw 1 * (pw b * pw ((b + 1) * n)):=Nat.mul_le_mul (le_pw1 h) (Nat.mul_le_mul (Nat.le_refl _) h1);rw [<- Zd3,<- Zd3] at h2;rw [show (b + 1) * (n + 1) = 1 + (b + (b + 1) * n) by rw [Nat.mul_succ];omega];exact h2
def SmE (k : Nat) (Q : List (List Rat)) : Prop:=∀ i j,(Zi Q i j).num.natAbs <= pw k /\ (Zi Q i j).den <= pw k
section
variable {k n m : Nat} {Q : List (List Rat)}
theorem SmE.denTo (h : SmE k Q) (i t : Nat) : denTo (Q[i]?.getD []) t <= pw (k * t):=by
 rw [<- pw_pow];exact Zth _ (fun j=>(h i j).2) t
theorem SmE.denAt (h : SmE k Q) {i : Nat} (hr : (Q[i]?.getD []).length = m) : denAt Q i <= pw (k * m):=by
 have:=h.denTo i m;unfold Go.Proofs.YtpehacgjclkhmaaGreat.denAt;rw [hr];exact this
theorem Zmh {z : Int} {d : Nat} {q : Rat} (h : (z : Rat) = (d : Nat) * q) : z.natAbs <= d * q.num.natAbs:=by
 have h1 : (z : Rat) * ((q.den : Nat) : Rat) = ((d : Nat) : Rat) * ((q.num : Int) : Rat):=by
  have e0 : ((q.num : Int) : Rat) / ((q.den : Nat) : Rat) = q:=by have:=Rat.num_divInt_den q;rw [Rat.divInt_eq_div,Rat.intCast_natCast] at this;exact this
  have e1 : ((q.den : Nat) : Rat) ≠ 0:=by
   intro h;have : q.den = 0:=by exact_mod_cast h
   have:=q.den_pos;omega
  have e2 : ((q.num : Int) : Rat) = q * ((q.den : Nat) : Rat):=by
   have : ((q.num : Int) : Rat) / ((q.den : Nat) : Rat) * ((q.den : Nat) : Rat) = ((q.num : Int) : Rat):=by grind
   rw [e0] at this;exact this.symm
  rw [h,e2];grind
 have h2 : z * (q.den : Int) = (d : Int) * q.num:=by exact_mod_cast h1
 have h3:=congrArg Int.natAbs h2;rw [Int.natAbs_mul,Int.natAbs_mul,Int.natAbs_natCast,Int.natAbs_natCast] at h3;rw [<- h3];exact Nat.le_mul_of_pos_right _ q.den_pos
theorem SmE.whole (h : SmE k Q) {i : Nat} (hr : (Q[i]?.getD []).length = m) (j : Nat) : (entZ (Ze4 Q) i j).natAbs <= pw (k * m + k):=by
 refine Nat.le_trans (Zmh (Zgn Q i j)) ?_;rw [Zd3];exact Nat.mul_le_mul (h.denAt hr) (h i j).1
end
def qM (rs : List RX) : List (List Rat):=rs.map fun r=>r.es.map FX.q
section
variable {w : World} {A : Option Addr} {n c : Nat} {rs : List RX}
theorem Zub (h : MXL w A n c rs) : (qM rs).length = n:=by unfold qM;rw [List.length_map];exact h.1
end
def Zk (A : Nat -> Nat -> Rat) : Nat -> Nat -> Nat -> Rat
 | 0,i,k=>A i k
 | t + 1,i,k=>if t < i then Zk A t i k - Zk A t i t / Zk A t t t * Zk A t t k else Zk A t i k
theorem Zjr {A : Nat -> Nat -> Rat} {i k : Nat} : ∀ {t : Nat},i <= t -> Zk A t i k = Zk A i i k
 | 0,h=>by rw [show i = 0 by omega]
 | t + 1,h=>by
  by_cases hit : i = t + 1
  ·rw [hit]
  ·show (if t < i then _ else _) = _
   rw [if_neg (by omega)];exact Zjr (by omega)
theorem Zbe {A : Nat -> Nat -> Rat} {t i k : Nat} (h : t < i) : Zk A (t + 1) i k = Zk A t i k - Zk A t i t / Zk A t t t * Zk A t t k:=by
 show (if t < i then _ else _) = _;rw [if_pos h]
theorem Zcy {A : Nat -> Nat -> Rat} {n : Nat} (hA : ∀ i k,i < n -> k < n -> A i k = A k i) : ∀ (t i k : Nat),t <= i -> t <= k -> i < n -> k < n -> Zk A t i k = Zk A t k i
 | 0,i,k,_,_,hi,hk=>hA i k hi hk
 | t + 1,i,k,h1,h2,hi,hk=>by
  rw [Zbe (by omega),Zbe (by omega),Zcy hA t i k (by omega) (by omega) hi hk,Zcy hA t i t (by omega) (by omega) hi (by omega),Zcy hA t t k (by omega) (by omega) (by omega) hk];rw [Rat.div_def,Rat.div_def]
  grind
theorem Zbn {A C : Nat -> Nat -> Rat} {n m : Nat} (h : ∀ i k,i < n -> k < m -> A i k = C i k) (hnm : n <= m) : ∀ (t i k : Nat),t <= n -> i < n -> k < m -> Zk A t i k = Zk C t i k
 | 0,i,k,_,hi,hk=>h i k hi hk
 | t + 1,i,k,ht,hi,hk=>by
  show (if t < i then _ else _) = (if t < i then _ else _);rw [Zbn h hnm t i k (by omega) hi hk,Zbn h hnm t i t (by omega) hi (by omega),Zbn h hnm t t t (by omega) (by omega) (by omega),Zbn h hnm t t k (by omega) (by omega) hk]
def dQ (A : Nat -> Nat -> Rat) (i : Nat) : Rat:=Zk A i i i
def lQ (A : Nat -> Nat -> Rat) (i k : Nat) : Rat:=Zk A k i k / dQ A k
theorem Zjb {A : Nat -> Nat -> Rat} {n : Nat} (hA : ∀ i k,i < n -> k < n -> A i k = A k i) {t i k : Nat} (ht : t < k) (hk : k <= i) (hi : i < n) (hd : dQ A t ≠ 0) :
    Zk A (t + 1) i k = Zk A t i k - lQ A i t * lQ A k t * dQ A t:=by
 rw [Zbe (by omega),Zcy hA t t k (by omega) (by omega) (by omega) (by omega)];unfold lQ dQ at *
 grind
theorem Zla {A : Nat -> Nat -> Rat} {t i k : Nat} (ht : t < i) : Zk A (t + 1) i k = Zk A t i k - lQ A i t * Zk A t t k:=by
 rw [Zbe ht];rfl
def Zek (R : List (List Rat)) : Nat -> List (List Rat)
 | 0=>R
 | t + 1=>Zbq (Zek R t) t t
theorem Ze5 (R : List (List Rat)) : ∀ t,(Zek R t).length = R.length
 | 0=>rfl
 | t + 1=>by
  show (Zbq _ _ _).length = _;rw [Zeo];exact Ze5 R t
def posP (A : Nat -> Nat -> Rat) (n : Nat) : Prop:=∀ t,t < n -> 0 < dQ A t
theorem posP.mono {A : Nat -> Nat -> Rat} {n m : Nat} (h : posP A n) (hm : m <= n) : posP A m:=fun t ht=>h t (by omega)
theorem posP.ne {A : Nat -> Nat -> Rat} {n : Nat} (h : posP A n) {t : Nat} (ht : t < n) : dQ A t ≠ 0:=fun h0=>by have:=h t ht;rw [h0] at this;exact absurd this (by decide)
section
variable {B S n m : Nat} {R : List (List Rat)}
theorem Zkv {pc : Nat -> Nat} {G : Nat -> Nat -> Rat} {s : Nat -> Rat} (h0 : EIR B S n m 0 0 R pc G s) : ∀ t,t <= n -> t <= m -> posP (Zi R) t -> (∃ pc,EIR B S n m t t (Zek R t) pc G s) /\ ∀ i k,i < n -> Zi (Zek R t) i k = Zk (Zi R) t i k
 | 0,_,_,_=>⟨⟨_,h0⟩,fun i k _=>rfl⟩
 | t + 1,hn,hm,hp=>by
  obtain ⟨⟨pc,h1⟩,h2⟩:=Zkv h0 t (by omega) (by omega) (hp.mono (by omega))
  have h0 : Zi (Zek R t) t t ≠ 0:=by rw [h2 t t (by omega)];exact hp.ne (by omega)
  refine ⟨⟨_,h1.clear (by omega) (by omega) h0⟩,fun i k hi=>?_⟩;show Zi (Zbq (Zek R t) t t) i k = if t < i then _ else _;rw [Zio (m:=m) (fun i hi=>h1.row i (by rw [h1.len] at hi;exact hi)) (fun j hj=>h1.low t j (Nat.le_refl _) (by omega) hj) i k (by rw [h1.len];exact hi) (by rw [h1.len];omega)]
  by_cases hti : t < i
  ·rw [if_neg (by omega),if_pos hti,h2 i k hi,h2 i t hi,h2 t t (by omega),h2 t k (by omega)]
  ·rw [if_pos (by omega),if_neg hti,h2 i k hi]
theorem Zn5 (hl : R.length = n) (hrow : ∀ i,i < n -> (R[i]?.getD []).length = m) (hS : ∀ i,i < n -> denAt R i <= S) (hBd : ∀ i j,i < n -> (entZ (Ze4 R) i j).natAbs <= B) (t : Nat) (hn : t <= n) (hm : t <= m) (hp : posP (Zi R) t) :
    (∃ pc G s,EIR B S n m t t (Zek R t) pc G s) /\ ∀ i k,i < n -> Zi (Zek R t) i k = Zk (Zi R) t i k:=by
 obtain ⟨⟨pc,h1⟩,h2⟩:=Zkv (Zpm R hl hrow hS hBd).1 t hn hm hp;exact ⟨⟨_,_,_,h1⟩,h2⟩
end
section
variable {k n m : Nat} {R : List (List Rat)}
end
theorem SmE.red2 {k n m : Nat} {R : List (List Rat)} (h : SmE k R) (hl : R.length = n) (hn : n <= 900) (hrow : ∀ i,i < n -> (R[i]?.getD []).length = m) {t : Nat} (ht : t <= n) (htm : t <= m) (hp : posP (Zi R) t) {i : Nat} (hi : i < n) (j : Nat) : SmN ((k * m + k + 1) * n + 1) ((k * m + k + 1) * n + k * m + 1) (Zk (Zi R) t i j):=by
 obtain ⟨⟨pc,G,s,h3⟩,h4⟩:=Zn5 (B:=pw (k * m + k)) (S:=pw (k * m)) hl hrow (fun i hi=>h.denAt (hrow i hi)) (fun i j hi=>h.whole (hrow i hi) j) t ht htm hp;obtain ⟨h5,h6⟩:=h3.bound (Zdb _) hi j;rw [h4 i j hi] at h5 h6;have hb:=Zqp (b:=k * m + k) n hn;refine ⟨Nat.lt_of_le_of_lt (Nat.le_trans h5 hb) (Zc7 (by omega)),?_⟩;refine Nat.lt_of_le_of_lt (Nat.le_trans h6 (Nat.mul_le_mul hb (Nat.le_refl _))) ?_;rw [<- Zd3];exact Zc7 (by omega)
structure FacP (A : Nat -> Nat -> Rat) (n : Nat) : Prop where
 sym : ∀ i k,i < n -> k < n -> A i k = A k i
 s : ∀ t i k,t <= n -> posP A t -> i < n -> k < n -> SmN 380 380 (Zk A t i k)
 l : ∀ i k,k <= i -> i < n -> posP A (k + 1) -> SmN 300 300 (lQ A i k)
section
variable {A : Nat -> Nat -> Rat} {n : Nat}
theorem FacP.d (h : FacP A n) {k : Nat} (hk : k < n) (hp : posP A k) : SmN 380 380 (dQ A k):=h.s k k k (by omega) hp hk hk
theorem FacP.ll (h : FacP A n) {i j k : Nat} (hki : k <= i) (hi : i < n) (hkj : k <= j) (hj : j < n) (hp : posP A (k + 1)) : SmN 600 600 (lQ A i k * lQ A j k):=((h.l i k hki hi hp).mulN (h.l j k hkj hj hp)).mono (by decide) (by decide)
theorem FacP.lld (h : FacP A n) {i j k : Nat} (hki : k <= i) (hi : i < n) (hkj : k <= j) (hj : j < n) (hp : posP A (k + 1)) : SmN 980 980 (lQ A i k * lQ A j k * dQ A k):=((h.ll hki hi hkj hj hp).mulN (h.d (show k < n by omega) (hp.mono (by omega)))).mono (by decide) (by decide)
end
theorem FacP.of {k n : Nat} {R : List (List Rat)} (h : SmE k R) (hl : R.length = n) (hn : n <= 900) (hrow : ∀ i,i < n -> (R[i]?.getD []).length = n) (hA : ∀ i k,i < n -> k < n -> Zi R i k = Zi R k i) (h1 : (k * n + k + 1) * n + ((k * n + k + 1) * n + k * n) + 2 <= 300) : FacP (Zi R) n:=by
 refine ⟨hA,fun t i j ht hp hi _=>(h.red2 hl hn hrow ht ht hp hi j).mono (by omega) (by omega),fun i j hji hi hp=>?_⟩
 have hj : j < n:=by omega
 have a:=h.red2 hl hn hrow (t:=j) (by omega) (by omega) (hp.mono (by omega)) hi j;have b:=h.red2 hl hn hrow (t:=j) (by omega) (by omega) (hp.mono (by omega)) hj j;exact (a.divN b (hp.ne (by omega))).mono (by omega) (by omega)
theorem Zqj : (Tryz.prog.info? 91).map (fun i=>(i.zero,i.size,i.bytes)) = some (some (.agg #[.bool false,.slice none 0 0,.bool false,.slice none 0 0]),4,64):=by kernel_rfl
theorem Zuz : (Tryz.prog.info? 84).map (fun i=>(i.zero,i.size,i.bytes)) = some (some (.slice none 0 0),1,24):=by kernel_rfl
theorem Zdr {w : World} {t : TypeId} {g : Nat} {A : Option Addr} {n c : Nat} (h : Blk w g t #[.slice A n c]) : Reads w (g + 1) 1 (some ⟨g,0,none⟩) 1 (Zab [⟨A,n,c⟩]):=
 ⟨rfl,fun _=>⟨_,rfl,Nat.lt_succ_self _,fun j u hu=>by
  rw [Zg,Nat.zero_add,h.cell]
  simpa [Zab] using hu⟩⟩
def Zf7 (A : Nat -> Nat -> Rat) (i k : Nat) : List Rat:=(List.range k).map (lQ A i)
def Zey (A : Nat -> Nat -> Rat) (i : Nat) : List (List Rat):=(List.range i).map fun r=>Zf7 A r r
def dsL (A : Nat -> Nat -> Rat) (i : Nat) : List Rat:=(List.range i).map (dQ A)
section
variable {A : Nat -> Nat -> Rat} {i j k : Nat}
theorem Zd6 : (Zf7 A i k).length = k:=by simp [Zf7]
theorem Zbw : (Zey A i).length = i:=by simp [Zey]
theorem Zc3 : (dsL A i).length = i:=by simp [dsL]
theorem Zia (h : j < k) : (Zf7 A i k)[j]?.getD 0 = lQ A i j:=by simp [Zf7,h]
theorem Zjq (h : j < i) : (Zey A i)[j]?.getD [] = Zf7 A j j:=by simp [Zey,h]
theorem Zln (h : j < i) : (dsL A i)[j]?.getD 0 = dQ A j:=by simp [dsL,h]
theorem Zr8 : Zf7 A i (k + 1) = Zf7 A i k ++ [lQ A i k]:=by simp [Zf7,List.range_succ]
theorem Zaw : Zey A (i + 1) = Zey A i ++ [Zf7 A i i]:=by simp [Zey,List.range_succ]
theorem Zeg : dsL A (i + 1) = dsL A i ++ [dQ A i]:=by simp [dsL,List.range_succ]
end
theorem cmpZ_pos0 {z : Int} : (0 < Zbv z 0) ↔ 0 < z:=by
 unfold Zbv
 split
 ·constructor <;> intro h <;> omega
 ·split
  ·constructor <;> intro h <;> omega
  ·constructor <;> intro h <;> omega
theorem num_pos0 {q : Rat} : 0 < q.num ↔ 0 < q:=by
 constructor
 ·intro h
  refine Rat.lt_of_le_of_ne (Rat.num_nonneg.1 (by omega)) (fun e=>?_);rw [<- e] at h;exact absurd h (by decide)
 ·intro h
  have h5:=Rat.num_nonneg.2 (Rat.le_of_lt h)
  rcases Int.lt_or_eq_of_le h5 with h6 | h6
  ·exact h6
  ·rw [Rat.num_eq_zero.1 h6.symm] at h
   exact absurd h (by decide)
def FacPost (A : Nat -> Nat -> Rat) (n : Nat) (w : World) (e : Ending) (w' : World) : Prop:=
 Below w.heap.size w w' /\ ((posP A n /\ ∃ v1 v2 rs,e = .returned (.agg #[v1,v2]) /\ FacM 84 91 w' w.heap.size v1 v2 rs (Zey A n) (dsL A n)) \/
  (¬ posP A n /\ e = .panicked [{ v:=.iface 133 (.agg #[.int .i64 8]),recovered:=false }]))
theorem FacM.lower {tS tN : TypeId} {w : World} {b b' : Nat} {v1 v2 : Value} {rs : List RS} {Q : List (List Rat)} {ds : List Rat} (h : FacM tS tN w b v1 v2 rs Q ds) (hb : b' <= b) : FacM tS tN w b' v1 v2 rs Q ds:=by
 refine ⟨⟨?_,h.1.2.1,fun i r hr=>(h.1.2.2.1 i r hr).lower hb,h.1.2.2.2⟩,h.2.1.lower hb,h.2.2⟩
 rcases h.1.1 with h | ⟨g,sp,h1,h2,h3⟩
 ·exact .inl h
 ·exact .inr ⟨g,sp,h1,Nat.le_trans hb h2,h3⟩
theorem Zkl {A : Nat -> Nat -> Rat} {n i k j : Nat} (h : FacP A n) (hi : i < n) (hk : k < i) (hj : j < k) (hp : posP A i) : (∀ t,t < 2 -> Sm (Zf4 (lQ A i j) [lQ A k j,dQ A j] t)) /\ ∀ t : Nat,t < 2 -> Sm ([lQ A k j,dQ A j][t]?.getD 0):=by
 have hp1 : posP A (j + 1):=hp.mono (by omega)
 constructor
 ·intro t ht
  match t,ht with
  | 0,_=>exact (h.l i j (by omega) hi hp1).sm (by decide) (by decide)
  | 1,_=>exact (h.ll (by omega) hi (by omega) (show k < n by omega) hp1).sm (by decide) (by decide)
 ·intro t ht
  match t,ht with
  | 0,_=>exact (h.l k j (by omega) (by omega) hp1).sm (by decide) (by decide)
  | 1,_=>exact (h.d (show j < n by omega) (hp.mono (by omega))).sm (by decide) (by decide)
theorem Zi2 {A : Nat -> Nat -> Rat} {n i k : Nat} (h : FacP A n) (hi : i < n) (hk : k < i) (hp : posP A i) : (∀ t,t < 2 -> Sm (Zf4 (lQ A i k) [lQ A i k,dQ A k] t)) /\ ∀ t : Nat,t < 2 -> Sm ([lQ A i k,dQ A k][t]?.getD 0):=by
 have hp1 : posP A (k + 1):=hp.mono (by omega)
 constructor
 ·intro t ht
  match t,ht with
  | 0,_=>exact (h.l i k (by omega) hi hp1).sm (by decide) (by decide)
  | 1,_=>exact (h.ll (by omega) hi (by omega) hi hp1).sm (by decide) (by decide)
 ·intro t ht
  match t,ht with
  | 0,_=>exact (h.l i k (by omega) hi hp1).sm (by decide) (by decide)
  | 1,_=>exact (h.d (show k < n by omega) (hp.mono (by omega))).sm (by decide) (by decide)
theorem Zsw {A : Nat -> Nat -> Rat} {n i k j : Nat} (h : FacP A n) (hi : i < n) (hk : k < i) (hj : j < k) (hp : posP A i) : Sm (Zk A j i k) /\ Sm (Zf4 (lQ A i j) [lQ A k j,dQ A j] 2):=
 ⟨(h.s j i k (by omega) (hp.mono (by omega)) hi (by omega)).sm (by decide) (by decide),(h.lld (by omega) hi (by omega) (show k < n by omega) (hp.mono (by omega))).sm (by decide) (by decide)⟩
theorem Zq0 {A : Nat -> Nat -> Rat} {n i k : Nat} (h : FacP A n) (hi : i < n) (hk : k < i) (hp : posP A i) : Sm (Zk A k i i) /\ Sm (Zf4 (lQ A i k) [lQ A i k,dQ A k] 2):=
 ⟨(h.s k i i (by omega) (hp.mono (by omega)) hi hi).sm (by decide) (by decide),(h.lld (by omega) hi (by omega) hi (hp.mono (by omega))).sm (by decide) (by decide)⟩
theorem fac_q {A : Nat -> Nat -> Rat} {n i k : Nat} (h : FacP A n) (hi : i < n) (hk : k < i) (hp : posP A i) : Sm (Zk A k i k) /\ Sm (dQ A k) /\ dQ A k ≠ 0:=
 ⟨(h.s k i k (by omega) (hp.mono (by omega)) hi (by omega)).sm (by decide) (by decide),(h.d (show k < n by omega) (hp.mono (by omega))).sm (by decide) (by decide),hp.ne hk⟩
theorem Zpu (A0 : Option Addr) (n c : Nat) (Q : List (List Rat)) (w : World) (h : MFL w A0 n c Q) (hn9 : n <= 900) (hm : ∀ i,i < n -> (Q[i]?.getD []).length = n) (hF : FacP (Zi Q) n) :
    Calls Tryz.prog 89 #[.slice A0 n c] w (FacPost (Zi Q) n w):=by
 obtain ⟨iN,hi,hz0,hz1,hz2⟩:=info_parts Zqj;obtain ⟨iS,ki,kz0,kz1,kz2⟩:=info_parts Zuz
 have hmx : Tryz.prog.follows .mixedOrders = true:=by kernel_rfl
 have hts : (84 : TypeId) ≠ 91:=by decide
 have hcap:=h.2.1;have hcm:=h.2.2.1;unfold maxLen at hcm;obtain ⟨AQ,hAQ⟩ : ∃ A,Zi Q = A:=⟨_,rfl⟩;rw [hAQ] at hF ⊢;obtain ⟨W0,hW0,hB0,q0,s0⟩:=Zai w 86 #[.slice none 0 0,.slice none 0 0];obtain ⟨gx,hgx⟩ : ∃ g,w.heap.size = g:=⟨_,rfl⟩;rw [hgx] at q0 s0 hB0;have hsz : Hid (W0.heap.size = gx + 1):=Zb s0;have hH:=Zb h;replace hm:=Zb hm;replace hF:=Zb hF;replace hAQ:=Zb hAQ;clear h s0;go_enter Tryz.func89,Tryz.ntmps89;go_wp2_with fail;(try rw [hW0]);(try rw [hgx]);replace hgx:=Zb hgx;replace hB0:=Zb hB0;clear hW0
 go_loopg [12] n (fun t iv wr=>∃ (i : Nat) (v1 v2 : Value) (rs : List RS),i + t = n /\ iv = .int .i64 i /\ Blk wr gx 86 #[v1,v2] /\ FacM 84 91 wr W0.heap.size v1 v2 rs (Zey AQ i) (dsL AQ i) /\ Hid (posP AQ i) /\ Kept (fun k=>k = gx) W0 wr)
 case atStart=>exact ⟨0,.slice none 0 0,.slice none 0 0,[],by omega,rfl,q0,FacM.nil _ _ _ _,Zb (fun t ht=>by omega),Kept.refl _ _⟩
 case round =>
  clear q0;obtain ⟨wi,rfl⟩ : ∃ x : World,x = wr:=⟨_,rfl⟩;obtain ⟨i,v1,v2,rs,hik,rfl,hbx,hFM,hpos,hK⟩:=hrel;have hsz':=hsz.out;have hBwr : Hid (Below gx w wi):=Zb (hB0.out.trans (hK.to_below (fun k hk=>by omega) (by omega)));obtain ⟨A1,c1,e1,hM1⟩:=hFM.1.mflA;obtain ⟨A2,c2,e2,hL2⟩:=hFM.2.1.fl;rw [Zbw] at e1 hM1;rw [Zc3] at e2 hL2;subst e1;subst e2
  have x0 : wi.cell? ⟨gx,0,none⟩ = some (.slice A1 i c1):=by rw [hbx.cell];rfl
  have x1 : wi.cell? ⟨gx,1,none⟩ = some (.slice A2 i c2):=by rw [hbx.cell];rfl
  have z0:=hbx.frozen 0;have z1:=hbx.frozen 1
  cases gk with
  | zero =>
   obtain rfl : i = n:=by omega
   have t1 : decide ((i : Int) < (i : Int)) = false:=by simp
   obtain ⟨X,hX⟩ : ∃ X,(wi.setCell ⟨gx,0,none⟩ (.slice A1 i c1)).setCell ⟨gx,1,none⟩ (.slice A2 i c2) = X:=⟨_,rfl⟩
   have hKX : Kept (fun k=>k = gx) wi X:=by rw [<- hX];exact Kept.set_ (G:=fun k=>k = gx) (Kept.set_ (G:=fun k=>k = gx) (Kept.refl _ _) (p:=⟨gx,0,none⟩) (.inl rfl) _) (p:=⟨gx,1,none⟩) (.inl rfl) _
   have hbX : Blk X gx 86 #[.slice A1 i c1,.slice A2 i c2]:=by rw [<- hX];exact (hbx.set_ 0 (.slice A1 i c1)).set_ 1 (.slice A2 i c2)
   have y0 : X.cell? ⟨gx,0,none⟩ = some (.slice A1 i c1):=by rw [hbX.cell];rfl
   have y1 : X.cell? ⟨gx,1,none⟩ = some (.slice A2 i c2):=by rw [hbX.cell];rfl
   have hFX:=Zb (hFM.box hbx (Zcp _ _ _ _ _ _) (by omega) hKX);have hBX : Hid (Below gx w X):=Zb (hBwr.out.trans (hKX.to_below (fun k hk=>by omega) (by have:=hBwr.out.size;have:=hK.size;omega)));clear hFM hM1 hL2 hK hKX hbX hbx;go_wp2_with fail;(try rw [hX]);refine bodyPost_ret (v:=.agg #[.slice A1 i c1,.slice A2 i c2]) (by simp [results,Tryz.results89,go_sem,y0,y1]) rfl ?_;refine ⟨by rw [hgx.out];exact hBX.out,.inl ⟨hpos.out,_,_,rs,rfl,hFX.out.lower (by rw [hgx.out];omega)⟩⟩
  | succ t =>
   obtain rfl : t = n - (i + 1):=by omega
   have hin : i < n:=by omega
   have t1 : decide ((i : Int) < (n : Int)) = true:=decide_eq_true (by omega)
   have bi : (i : Int) < (n : Int):=by omega
   obtain ⟨ga,oa,Ar,nr,cr,rfl,k0,hR⟩:=(hH.out.below (hgx.out ▸ hBwr.out)).at_ hin;obtain ⟨row,hrow⟩ : ∃ X,Q[i]?.getD [] = X:=⟨_,rfl⟩;rw [hrow] at hR
   have hn1 : n = nr:=by rw [<- hR.len,<- hrow];exact (hm.out i hin).symm
   subst hn1;have hent : Hid (∀ t : Nat,row[t]?.getD 0 = AQ i t):=Zb (fun t=>by rw [<- hAQ.out,<- hrow];rfl);replace hrow:=Zb hrow;obtain ⟨gr,or_,xn,xA,xk,xc,xm,xB,xj,xd,rfl,⟨r0,r1,r2,r3⟩,hX⟩:=hR.at_ hin;rw [hent.out] at hX;obtain ⟨V1,hV1,hBV1,p1,s1⟩:=Zai wi 91 #[.bool false,.slice none 0 0,.bool false,.slice none 0 0];obtain ⟨gl,hgl⟩ : ∃ g,wi.heap.size = g:=⟨_,rfl⟩;rw [hgl] at p1 s1;obtain ⟨u0,u1,u2,u3,v0,v1,v2,v3⟩:=p1.four;obtain ⟨W2,hW2,p2,hK2,s2⟩:=Zaf xn xA xk xc xm xB xj xd p1;have hB2 : Below wi.heap.size wi W2:=hBV1.trans (hK2.to_below (fun k e=>by omega) hBV1.size);have hs2 : Hid (W2.heap.size = gl + 1):=Zb (by rw [s2,s1]);have hX2:=Zb (hX.below hB2);have hgxl : Hid (gx < gl):=Zb (by have:=hBwr.out.size;have:=hK.size;omega);replace hB2:=Zb hB2;replace hFM:=Zb hFM;replace hM1:=Zb hM1;replace hL2:=Zb hL2;replace hR:=Zb hR;replace hbx:=Zb hbx;replace hK:=Zb hK;replace p2:=Zb p2;clear hX hBV1 hK2 s1 s2;go_wp2_with fail;(try rw [hgl]);(try rw [hW2]);clear u0 u1 u2 u3 v0 v1 v2 v3 p1 hV1 hW2 r0 r1 r2 r3 k0;replace hgl:=Zb hgl
   go_loopg [5,23] i (fun t ov kv wk=>∃ (k : Nat) (ln : Bool) (lA : Option Addr) (lk lc : Nat) (lm : Bool) (lB : Option Addr) (lj ld : Nat),k + t = i /\ kv = .int .i64 k /\ OwnF 91 wk W2.heap.size ov (Zf7 AQ i k) /\ Blk wk gl 91 #[.bool ln,.slice lA lk lc,.bool lm,.slice lB lj ld] /\ Hid (Fr wk ln lA lk lc lm lB lj ld (Zk AQ k i i)) /\ Kept (fun g=>g = gl) W2 wk)
   case atStart=>exact ⟨0,_,_,_,_,_,_,_,_,by omega,rfl,OwnF.nil _ _ _,p2.out,hX2,Kept.refl _ _⟩
   case round =>
    clear p2 hX2;obtain ⟨wk,rfl⟩ : ∃ x : World,x = wr:=⟨_,rfl⟩;obtain ⟨k,ln,lA,lk,lc,lm,lB,lj,ld,hkt,rfl,hown,hbl,hl,hK3⟩:=hrel;have hs2':=hs2.out;have hgl':=hgl.out;have hgxl':=hgxl.out;have hBk : Hid (Below wi.heap.size wi wk):=Zb (hB2.out.trans (hK3.to_below (fun k e=>by omega) (by omega)));obtain ⟨Ao,co,e3,hFo⟩:=hown.fl;rw [Zd6] at e3 hFo;subst e3;have hocap:=hFo.cap;unfold maxLen at hocap;have hbxk:=Zc hBk.out hbx.out
    have xk0 : wk.cell? ⟨gx,0,none⟩ = some (.slice A1 i c1):=by rw [hbxk.cell];rfl
    have xk1 : wk.cell? ⟨gx,1,none⟩ = some (.slice A2 i c2):=by rw [hbxk.cell];rfl
    have zk0:=hbxk.frozen 0;have zk1:=hbxk.frozen 1;clear x0 x1 z0 z1;obtain ⟨l0,l1,l2,l3,m0,m1,m2,m3⟩:=hbl.four
    cases gk with
    | zero =>
     obtain rfl : k = i:=by omega
     have t2 : decide ((k : Int) < (k : Int)) = false:=by simp
     have hd0 : Hid (Zk AQ k k k = dQ AQ k):=Zb rfl
     by_cases hp : 0 < dQ AQ k
     case neg =>
      have hn0 : Hid (¬ posP AQ n):=Zb (fun hp9=>hp (hp9 k hin));have t4 : decide ((0 : Int) < Zbv (Zk AQ k k k).num 0) = false:=decide_eq_false (fun h=>hp (by rw [<- hd0.out];exact num_pos0.1 (cmpZ_pos0.1 h)));replace hp:=Zb hp;replace hFo:=Zb hFo;replace hown:=Zb hown;replace hK3:=Zb hK3;replace hbl:=Zb hbl;clear hbxk;go_wp2_with fail;refine (Zoi ln lA lk lc lm lB lj ld _ wk hl.out).mono ?_;rintro e w5 ⟨rfl,hb5⟩;go_wp2_with fail;refine (Zbp 8 w5).mono ?_;rintro e w6 ⟨rfl,rfl⟩;go_wp2_with fail;refine ⟨rfl,?_,.inr ⟨hn0.out,rfl⟩⟩;have h1:=hBwr.out.trans ((hBk.out.trans (hb5.mono hBk.out.size)).mono (by omega));rw [hgx.out];exact h1
     have hpos2 : Hid (posP AQ (k + 1)):=Zb (fun t ht=>by
      rcases Nat.lt_or_ge t k with h1 | h1
      ·exact hpos.out t h1
      ·rw [show t = k by omega];exact hp)
     have t4 : decide ((0 : Int) < Zbv (Zk AQ k k k).num 0) = true:=decide_eq_true (cmpZ_pos0.2 (num_pos0.2 (by rw [hd0.out];exact hp)));replace hp:=Zb hp;replace hFo:=Zb hFo;replace hown:=Zb hown;replace hK3:=Zb hK3;replace hbl:=Zb hbl;clear hbxk;go_wp2_with fail;refine (Zoi ln lA lk lc lm lB lj ld _ wk hl.out).mono ?_;rintro e w5 ⟨rfl,hb5⟩;go_wp2_with fail;refine (Zcs 8 w5).mono ?_;rintro e w6 ⟨rfl,rfl⟩;have hBi5 : Below wi.heap.size wi w6:=hBk.out.trans (hb5.mono hBk.out.size);have hE0 : EnvF 84 91 86 w6 W0.heap.size W2.heap.size gl gx (.slice A1 k c1) (.slice A2 k c2) (.slice A1 k c1) (.slice A2 k c2) (.slice Ao k co) rs (Zey AQ k) (dsL AQ k) (Zf7 AQ k k) ln lA lk lc lm lB lj ld (dQ AQ k):=⟨hFM.out.kept hBi5,hown.out.kept hb5,Zc hb5 hbl.out,hl.out.below hb5,Zc hBi5 hbx.out⟩;have hK9 : Hid (Kept (fun k=>k = gx) W0 w6):=Zb (hK.out.below hBi5)
     have hgxb : gx < W0.heap.size:=by omega
     have hW2g : Hid (gl < W2.heap.size):=Zb (by omega);have hv2g : Hid (∀ k',(Value.slice A2 k c2).ownBlock = some k' -> k' < gl):=Zb (fun k' e=>by have:=hFM.out.2.1.blt k' e;omega);have hrsg : Hid (∀ s ∈ rs,∀ k',s.val.ownBlock = some k' -> k' < W2.heap.size):=Zb (fun s hs k' e=>by have:=hFM.out.rlt s hs k' e;omega)
     have hrl : (rs).length = k:=by rw [hFM.out.1.2.1,Zbw]
     have hlen1 : rs.length + 1 <= 1000:=by omega
     have hlen2 : (dsL AQ k).length + 1 <= 1000:=by rw [Zc3];omega
     obtain ⟨xk0',xk1'⟩:=hE0.cells;replace hE0:=Zb hE0;clear hb5 hBi5 xk0 xk1 zk0 zk1 l0 l1 l2 l3 m0 m1 m2 m3;go_wp2_with fail;obtain ⟨X0,hX0⟩ : ∃ X,w6.drew = X:=⟨_,rfl⟩
     have hBX0 : Below w6.heap.size w6 X0:=by rw [<- hX0];exact Zj (Below.refl _ _) 1
     have hE:=hE0.out.below hBX0;have mKX : Kept (fun k=>k = gx) W0 X0:=hK9.out.below hBX0
     have hS0 : w6.drew.cell? ⟨gx,0,none⟩ = some (.slice A1 k c1) /\ w6.drew.cell? ⟨gx,1,none⟩ = some (.slice A2 k c2):=by rw [hX0];exact hE.cells
     refine Z4 [11,13] (fun wx=>wx.cell? ⟨gx,0,none⟩ = some (.slice A1 k c1) /\ wx.cell? ⟨gx,1,none⟩ = some (.slice A2 k c2)) hmx hS0 (fun hxs9=>?_);refine Zu3 5 [0,1,2,5,6] rfl (by kernel_rfl) hS0 ?_
     iterate 5 (refine tk1 (v:=?_) rfl (Or.inl ⟨by kernel_rfl,?_⟩) ?_;rotate_left;(· intro W2 hSw;(try dsimp only at hSw);go_simp;try with_reducible rfl);try simp only [Act.put,putL_a,putL_z,putL_s,putG_a,putG_s,putG_z])
     refine tk0 ?_;rw [hX0];clear hS0 hxs9 hBX0 hX0;have hbb : Hid (W0.heap.size <= W2.heap.size):=Zb (by omega);refine Zcb (i:=3) (j:=7) rfl rfl (by kernel_rfl) (fun K hK=>?_) (fun K hK=>?_)
     ·obtain ⟨Y1,hY1⟩ : ∃ Y,X0.alloc (.cells #[.slice Ao k co] 84) = Y:=⟨_,rfl⟩
      obtain ⟨ga2,hga2⟩ : ∃ g,X0.heap.size = g:=⟨_,rfl⟩
      have hBY1 : Below X0.heap.size X0 Y1:=by rw [<- hY1];exact (Below.refl _ _).alloc (Nat.le_refl _) _
      have hbl3 : Blk Y1 ga2 84 #[.slice Ao k co]:=by rw [<- hY1,<- hga2];exact Blk.new _ _ _
      have hEY1:=hE.below hBY1;have mKY1:=mKX.below hBY1;go_simp;(try rw [hY1]);(try rw [hga2]);refine hK.out _ _ (fun _=>hEY1.cells) ?_;clear hK K hY1 hga2
      try simp only [Act.put,putL_a,putL_z,putL_s]
      refine Zcb (i:=4) (j:=7) rfl rfl (by kernel_rfl) (fun K hK=>?_) (fun K hK=>?_)
      ·rw [if_pos (by rfl)]
       refine Zan _ (.tmp 90) (.tmp 92) 83 rfl W0.heap.size 84 iS Tryz.underlying83 ki kz0 kz1 kz2 (.slice A1 k c1) rs rfl hEY1.1.1.1 _ (some ⟨ga2,0,none⟩) 1 1 [⟨Ao,k,co⟩] rfl (Zdr hbl3) rfl hlen1 mKY1.size ?_;intro vY4 Y4 hRY4 hgY4 hkY4;have hEY4:=hEY1.app hts (r:=⟨Ao,k,co⟩) rfl hbb.out hrsg.out (fun k' e=>Nat.lt_trans (hv2g.out k' e) hW2g.out) hgxb hRY4 hgY4 hkY4;have mKY4:=Kept.grownC mKY1 hgY4 (fun k' hk=>hEY1.1.1.1.row_ge k' hk);refine hK.out _ _ (fun _=>hEY4.cells) ?_;clear hK K
       try simp only [Act.put,putL_a,putL_z,putL_s]
       refine Zu2 1 [10] rfl (by kernel_rfl) hEY4.cells ?_
       (refine tk1 (v:=?_) rfl (Or.inl ⟨by kernel_rfl,?_⟩) ?_;rotate_left;(· intro W2 _;go_simp;try with_reducible rfl);try simp only [Act.put,putL_a,putL_z,putL_s,putG_a,putG_s,putG_z])
       refine tk0 ?_;refine Ze (i:=7) rfl (by kernel_rfl) (fun K hK=>?_);obtain ⟨r5a,r5b,r5c,r5d⟩:=hEY4.left;go_simp;refine hK.out _ _ (fun _=>hEY4.cells) ?_;clear hK K r5a r5b r5c r5d
       try simp only [Act.put,putL_a,putL_z,putL_s]
       refine Ze (i:=8) rfl (by kernel_rfl) (fun K hK=>?_);obtain ⟨Y6,hY6⟩ : ∃ Y,Y4.alloc (.cells #[.bool ln,.slice lA lk lc,.bool lm,.slice lB lj ld] 91) = Y:=⟨_,rfl⟩;obtain ⟨ga7,hga7⟩ : ∃ g,Y4.heap.size = g:=⟨_,rfl⟩
       have hBY6 : Below Y4.heap.size Y4 Y6:=by rw [<- hY6];exact (Below.refl _ _).alloc (Nat.le_refl _) _
       have hbl8 : Blk Y6 ga7 91 #[.bool ln,.slice lA lk lc,.bool lm,.slice lB lj ld]:=by rw [<- hY6,<- hga7];exact Blk.new _ _ _
       have hEY6:=hEY4.below hBY6;have mKY6:=mKY4.below hBY6;go_simp;(try rw [hY6]);(try rw [hga7]);refine hK.out _ _ (fun _=>hEY6.cells) ?_;clear hK K hY6 hga7
       try simp only [Act.put,putL_a,putL_z,putL_s]
       refine Ze (i:=9) rfl (by kernel_rfl) (fun K hK=>?_);rw [if_pos (by rfl)];refine Z5 _ (.tmp 95) (.tmp 97) 84 rfl W0.heap.size 91 iN Tryz.underlying84 hi hz0 hz1 hz2 (.slice A2 k c2) _ rfl hEY6.1.2.1 _ (some ⟨ga7,0,none⟩) 1 1 [⟨ln,lA,lk,lc,lm,lB,lj,ld,dQ AQ k⟩] rfl (Zad _ hbl8) rfl (by intro e he;rw [List.mem_singleton] at he;subst he;exact hEY6.2.2.1) hlen2 mKY6.size ?_;intro vY9 Y9 hPY9 hgY9 hkY9 hwY9;obtain ⟨f1,f3⟩:=hEY6.app hts hgxb hPY9 hgY9 hkY9 hwY9;have mKY9:=Kept.grownC mKY6 hgY9 (fun k' hk=>hEY6.1.2.1.row_ge k' hk);refine hK.out _ _ (fun _=>⟨by rw [f3.cell];rfl,by rw [f3.cell];rfl⟩) ?_;clear hK K
       try simp only [Act.put,putL_a,putL_z,putL_s]
       obtain ⟨a7,a9,e7,-⟩:=f1.1.mflA;obtain ⟨b1,b3,e8,-⟩:=f1.2.1.fl;rw [<- Zaw,Zbw] at e7;subst e7
       obtain rfl : vY9 = .slice b1 (k + 1) b3:=by rw [e8];congr 1;simp [Zc3]
       clear e8;have f6 : Kept (fun k=>k = gx) Y9 ((Y9.setCell ⟨gx,0,none⟩ (.slice a7 (k + 1) a9)).setCell ⟨gx,1,none⟩ (.slice b1 (k + 1) b3)):=Kept.set_ (G:=fun k=>k = gx) (Kept.set_ (G:=fun k=>k = gx) (Kept.refl _ _) (p:=⟨gx,0,none⟩) (.inl rfl) _) (p:=⟨gx,1,none⟩) (.inl rfl) _;have f5 : Blk (Y9.setCell ⟨gx,0,none⟩ (.slice a7 (k + 1) a9)) gx 86 #[.slice a7 (k + 1) a9,.slice A2 k c2]:=f3.set_ 0 _;have f7 : Blk ((Y9.setCell ⟨gx,0,none⟩ (.slice a7 (k + 1) a9)).setCell ⟨gx,1,none⟩ (.slice b1 (k + 1) b3)) gx 86 #[.slice a7 (k + 1) a9,.slice b1 (k + 1) b3]:=f5.set_ 1 _;have f8:=f1.box f3 (Zcp _ _ _ _ _ _) hgxb f6
       have u0 : Y9.cell? ⟨gx,0,none⟩ = some (.slice A1 k c1):=by rw [f3.cell];rfl
       have uz0:=f3.frozen 0
       have u1 : (Y9.setCell ⟨gx,0,none⟩ (.slice a7 (k + 1) a9)).cell? ⟨gx,1,none⟩ = some (.slice A2 k c2):=by rw [f5.cell];rfl
       have uz1:=f5.frozen 1;have mKZ:=mKY9.trans f6;obtain ⟨Z9,hZ9⟩ : ∃ Z,((Y9.setCell ⟨gx,0,none⟩ (.slice a7 (k + 1) a9)).setCell ⟨gx,1,none⟩ (.slice b1 (k + 1) b3)) = Z:=⟨_,rfl⟩;rw [hZ9] at f7 f8 mKZ;replace f7:=Zb f7;replace f8:=Zb f8;replace mKZ:=Zb mKZ;clear f1 f3 f6;refine Zp (i:=11) rfl (by kernel_rfl) (by kernel_rfl) (fun K hK=>?_);go_simp;refine hK.out _ _ ?_;clear hK K
       try simp only [Act.put,putL_a,putL_z,putL_s]
       refine Zn (i:=12) (v:=?v47) rfl (by kernel_rfl) (by kernel_rfl) (by kernel_rfl) (by kernel_rfl) (Or.inl ⟨by kernel_rfl,?hy47⟩) (fun hno=>absurd hno (by decide)) ?rest47
       case hy47=>(intro W2 _;go_simp;try with_reducible rfl)
       try simp only [Act.put,putL_a,putL_z,putL_s,putG_a,putG_s,putG_z]
       refine Zp (i:=13) rfl (by kernel_rfl) (by kernel_rfl) (fun K hK=>?_);go_simp;(try rw [hZ9]);refine hK.out _ _ ?_;clear hK K
       try simp only [Act.put,putL_a,putL_z,putL_s]
       refine Zl (by kernel_rfl) ?_ _;refine OnlyNormal.normal ?_;clear hZ9 u0 uz0 u1 uz1 f5;go_wp2_with fail
       go_roundg (n - (k + 1))
       case measure=>omega
       case rel=>exact ⟨k + 1,_,_,rs ++ [⟨Ao,k,co⟩],by omega,by go_num,f7.out,by rw [Zaw,Zeg];exact f8.out,hpos2,mKZ.out⟩
      ·obtain ⟨r10a,r10b,r10c,r10d⟩:=hEY1.left
       go_simp;refine hK.out _ _ (fun _=>hEY1.cells) ?_;clear hK K r10a r10b r10c r10d
       try simp only [Act.put,putL_a,putL_z,putL_s]
       refine Zcb (i:=4) (j:=8) rfl rfl (by kernel_rfl) (fun K hK=>?_) (fun K hK=>?_)
       ·rw [if_pos (by rfl)]
        refine Zan _ (.tmp 90) (.tmp 92) 83 rfl W0.heap.size 84 iS Tryz.underlying83 ki kz0 kz1 kz2 (.slice A1 k c1) rs rfl hEY1.1.1.1 _ (some ⟨ga2,0,none⟩) 1 1 [⟨Ao,k,co⟩] rfl (Zdr hbl3) rfl hlen1 mKY1.size ?_;intro vY11 Y11 hRY11 hgY11 hkY11;have hEY11:=hEY1.app hts (r:=⟨Ao,k,co⟩) rfl hbb.out hrsg.out (fun k' e=>Nat.lt_trans (hv2g.out k' e) hW2g.out) hgxb hRY11 hgY11 hkY11;have mKY11:=Kept.grownC mKY1 hgY11 (fun k' hk=>hEY1.1.1.1.row_ge k' hk);refine hK.out _ _ (fun _=>hEY11.cells) ?_;clear hK K
        try simp only [Act.put,putL_a,putL_z,putL_s]
        refine Zu2 1 [10] rfl (by kernel_rfl) hEY11.cells ?_
        (refine tk1 (v:=?_) rfl (Or.inl ⟨by kernel_rfl,?_⟩) ?_;rotate_left;(· intro W2 _;go_simp;try with_reducible rfl);try simp only [Act.put,putL_a,putL_z,putL_s,putG_a,putG_s,putG_z])
        refine tk0 ?_;refine Ze (i:=8) rfl (by kernel_rfl) (fun K hK=>?_);obtain ⟨Y12,hY12⟩ : ∃ Y,Y11.alloc (.cells #[.bool ln,.slice lA lk lc,.bool lm,.slice lB lj ld] 91) = Y:=⟨_,rfl⟩;obtain ⟨ga13,hga13⟩ : ∃ g,Y11.heap.size = g:=⟨_,rfl⟩
        have hBY12 : Below Y11.heap.size Y11 Y12:=by rw [<- hY12];exact (Below.refl _ _).alloc (Nat.le_refl _) _
        have hbl14 : Blk Y12 ga13 91 #[.bool ln,.slice lA lk lc,.bool lm,.slice lB lj ld]:=by rw [<- hY12,<- hga13];exact Blk.new _ _ _
        have hEY12:=hEY11.below hBY12;have mKY12:=mKY11.below hBY12;go_simp;(try rw [hY12]);(try rw [hga13]);refine hK.out _ _ (fun _=>hEY12.cells) ?_;clear hK K hY12 hga13
        try simp only [Act.put,putL_a,putL_z,putL_s]
        refine Ze (i:=9) rfl (by kernel_rfl) (fun K hK=>?_);rw [if_pos (by rfl)];refine Z5 _ (.tmp 95) (.tmp 97) 84 rfl W0.heap.size 91 iN Tryz.underlying84 hi hz0 hz1 hz2 (.slice A2 k c2) _ rfl hEY12.1.2.1 _ (some ⟨ga13,0,none⟩) 1 1 [⟨ln,lA,lk,lc,lm,lB,lj,ld,dQ AQ k⟩] rfl (Zad _ hbl14) rfl (by intro e he;rw [List.mem_singleton] at he;subst he;exact hEY12.2.2.1) hlen2 mKY12.size ?_;intro vY15 Y15 hPY15 hgY15 hkY15 hwY15;obtain ⟨f1,f3⟩:=hEY12.app hts hgxb hPY15 hgY15 hkY15 hwY15;have mKY15:=Kept.grownC mKY12 hgY15 (fun k' hk=>hEY12.1.2.1.row_ge k' hk);refine hK.out _ _ (fun _=>⟨by rw [f3.cell];rfl,by rw [f3.cell];rfl⟩) ?_;clear hK K
        try simp only [Act.put,putL_a,putL_z,putL_s]
        obtain ⟨a7,a9,e7,-⟩:=f1.1.mflA;obtain ⟨b1,b3,e8,-⟩:=f1.2.1.fl;rw [<- Zaw,Zbw] at e7;subst e7
        obtain rfl : vY15 = .slice b1 (k + 1) b3:=by rw [e8];congr 1;simp [Zc3]
        clear e8;have f6 : Kept (fun k=>k = gx) Y15 ((Y15.setCell ⟨gx,0,none⟩ (.slice a7 (k + 1) a9)).setCell ⟨gx,1,none⟩ (.slice b1 (k + 1) b3)):=Kept.set_ (G:=fun k=>k = gx) (Kept.set_ (G:=fun k=>k = gx) (Kept.refl _ _) (p:=⟨gx,0,none⟩) (.inl rfl) _) (p:=⟨gx,1,none⟩) (.inl rfl) _;have f5 : Blk (Y15.setCell ⟨gx,0,none⟩ (.slice a7 (k + 1) a9)) gx 86 #[.slice a7 (k + 1) a9,.slice A2 k c2]:=f3.set_ 0 _;have f7 : Blk ((Y15.setCell ⟨gx,0,none⟩ (.slice a7 (k + 1) a9)).setCell ⟨gx,1,none⟩ (.slice b1 (k + 1) b3)) gx 86 #[.slice a7 (k + 1) a9,.slice b1 (k + 1) b3]:=f5.set_ 1 _;have f8:=f1.box f3 (Zcp _ _ _ _ _ _) hgxb f6
        have u0 : Y15.cell? ⟨gx,0,none⟩ = some (.slice A1 k c1):=by rw [f3.cell];rfl
        have uz0:=f3.frozen 0
        have u1 : (Y15.setCell ⟨gx,0,none⟩ (.slice a7 (k + 1) a9)).cell? ⟨gx,1,none⟩ = some (.slice A2 k c2):=by rw [f5.cell];rfl
        have uz1:=f5.frozen 1;have mKZ:=mKY15.trans f6;obtain ⟨Z9,hZ9⟩ : ∃ Z,((Y15.setCell ⟨gx,0,none⟩ (.slice a7 (k + 1) a9)).setCell ⟨gx,1,none⟩ (.slice b1 (k + 1) b3)) = Z:=⟨_,rfl⟩;rw [hZ9] at f7 f8 mKZ;replace f7:=Zb f7;replace f8:=Zb f8;replace mKZ:=Zb mKZ;clear f1 f3 f6;refine Zp (i:=11) rfl (by kernel_rfl) (by kernel_rfl) (fun K hK=>?_);go_simp;refine hK.out _ _ ?_;clear hK K
        try simp only [Act.put,putL_a,putL_z,putL_s]
        refine Zn (i:=12) (v:=?v49) rfl (by kernel_rfl) (by kernel_rfl) (by kernel_rfl) (by kernel_rfl) (Or.inl ⟨by kernel_rfl,?hy49⟩) (fun hno=>absurd hno (by decide)) ?rest49
        case hy49=>(intro W2 _;go_simp;try with_reducible rfl)
        try simp only [Act.put,putL_a,putL_z,putL_s,putG_a,putG_s,putG_z]
        refine Zp (i:=13) rfl (by kernel_rfl) (by kernel_rfl) (fun K hK=>?_);go_simp;(try rw [hZ9]);refine hK.out _ _ ?_;clear hK K
        try simp only [Act.put,putL_a,putL_z,putL_s]
        refine Zl (by kernel_rfl) ?_ _;refine OnlyNormal.normal ?_;clear hZ9 u0 uz0 u1 uz1 f5;go_wp2_with fail
        go_roundg (n - (k + 1))
        case measure=>omega
        case rel=>exact ⟨k + 1,_,_,rs ++ [⟨Ao,k,co⟩],by omega,by go_num,f7.out,by rw [Zaw,Zeg];exact f8.out,hpos2,mKZ.out⟩
       ·obtain ⟨Y16,hY16⟩ : ∃ Y,Y1.alloc (.cells #[.bool ln,.slice lA lk lc,.bool lm,.slice lB lj ld] 91) = Y:=⟨_,rfl⟩
        obtain ⟨ga17,hga17⟩ : ∃ g,Y1.heap.size = g:=⟨_,rfl⟩
        have hBY16 : Below Y1.heap.size Y1 Y16:=by rw [<- hY16];exact (Below.refl _ _).alloc (Nat.le_refl _) _
        have hbl18 : Blk Y16 ga17 91 #[.bool ln,.slice lA lk lc,.bool lm,.slice lB lj ld]:=by rw [<- hY16,<- hga17];exact Blk.new _ _ _
        have hEY16:=hEY1.below hBY16;have mKY16:=mKY1.below hBY16;have hbl3Y16:=Zc hBY16 hbl3;go_simp;(try rw [hY16]);(try rw [hga17]);refine hK.out _ _ (fun _=>hEY16.cells) ?_;clear hK K hY16 hga17
        try simp only [Act.put,putL_a,putL_z,putL_s]
        refine Ze (i:=4) rfl (by kernel_rfl) (fun K hK=>?_);rw [if_pos (by rfl)];refine Zan _ (.tmp 90) (.tmp 92) 83 rfl W0.heap.size 84 iS Tryz.underlying83 ki kz0 kz1 kz2 (.slice A1 k c1) rs rfl hEY16.1.1.1 _ (some ⟨ga2,0,none⟩) 1 1 [⟨Ao,k,co⟩] rfl (Zdr hbl3Y16) rfl hlen1 mKY16.size ?_;intro vY19 Y19 hRY19 hgY19 hkY19;have hEY19:=hEY16.app hts (r:=⟨Ao,k,co⟩) rfl hbb.out hrsg.out (fun k' e=>Nat.lt_trans (hv2g.out k' e) hW2g.out) hgxb hRY19 hgY19 hkY19;have mKY19:=Kept.grownC mKY16 hgY19 (fun k' hk=>hEY16.1.1.1.row_ge k' hk);have hbl18Y19:=hEY16.far hts hgY19 hbl18;refine hK.out _ _ (fun _=>hEY19.cells) ?_;clear hK K
        try simp only [Act.put,putL_a,putL_z,putL_s]
        refine Zu2 1 [10] rfl (by kernel_rfl) hEY19.cells ?_
        (refine tk1 (v:=?_) rfl (Or.inl ⟨by kernel_rfl,?_⟩) ?_;rotate_left;(· intro W2 _;go_simp;try with_reducible rfl);try simp only [Act.put,putL_a,putL_z,putL_s,putG_a,putG_s,putG_z])
        refine tk0 ?_;refine Ze (i:=9) rfl (by kernel_rfl) (fun K hK=>?_);rw [if_pos (by rfl)];refine Z5 _ (.tmp 95) (.tmp 97) 84 rfl W0.heap.size 91 iN Tryz.underlying84 hi hz0 hz1 hz2 (.slice A2 k c2) _ rfl hEY19.1.2.1 _ (some ⟨ga17,0,none⟩) 1 1 [⟨ln,lA,lk,lc,lm,lB,lj,ld,dQ AQ k⟩] rfl (Zad _ hbl18Y19) rfl (by intro e he;rw [List.mem_singleton] at he;subst he;exact hEY19.2.2.1) hlen2 mKY19.size ?_;intro vY20 Y20 hPY20 hgY20 hkY20 hwY20;obtain ⟨f1,f3⟩:=hEY19.app hts hgxb hPY20 hgY20 hkY20 hwY20;have mKY20:=Kept.grownC mKY19 hgY20 (fun k' hk=>hEY19.1.2.1.row_ge k' hk);refine hK.out _ _ (fun _=>⟨by rw [f3.cell];rfl,by rw [f3.cell];rfl⟩) ?_;clear hK K
        try simp only [Act.put,putL_a,putL_z,putL_s]
        obtain ⟨a7,a9,e7,-⟩:=f1.1.mflA;obtain ⟨b1,b3,e8,-⟩:=f1.2.1.fl;rw [<- Zaw,Zbw] at e7;subst e7
        obtain rfl : vY20 = .slice b1 (k + 1) b3:=by rw [e8];congr 1;simp [Zc3]
        clear e8;have f6 : Kept (fun k=>k = gx) Y20 ((Y20.setCell ⟨gx,0,none⟩ (.slice a7 (k + 1) a9)).setCell ⟨gx,1,none⟩ (.slice b1 (k + 1) b3)):=Kept.set_ (G:=fun k=>k = gx) (Kept.set_ (G:=fun k=>k = gx) (Kept.refl _ _) (p:=⟨gx,0,none⟩) (.inl rfl) _) (p:=⟨gx,1,none⟩) (.inl rfl) _;have f5 : Blk (Y20.setCell ⟨gx,0,none⟩ (.slice a7 (k + 1) a9)) gx 86 #[.slice a7 (k + 1) a9,.slice A2 k c2]:=f3.set_ 0 _;have f7 : Blk ((Y20.setCell ⟨gx,0,none⟩ (.slice a7 (k + 1) a9)).setCell ⟨gx,1,none⟩ (.slice b1 (k + 1) b3)) gx 86 #[.slice a7 (k + 1) a9,.slice b1 (k + 1) b3]:=f5.set_ 1 _;have f8:=f1.box f3 (Zcp _ _ _ _ _ _) hgxb f6
        have u0 : Y20.cell? ⟨gx,0,none⟩ = some (.slice A1 k c1):=by rw [f3.cell];rfl
        have uz0:=f3.frozen 0
        have u1 : (Y20.setCell ⟨gx,0,none⟩ (.slice a7 (k + 1) a9)).cell? ⟨gx,1,none⟩ = some (.slice A2 k c2):=by rw [f5.cell];rfl
        have uz1:=f5.frozen 1;have mKZ:=mKY20.trans f6;obtain ⟨Z9,hZ9⟩ : ∃ Z,((Y20.setCell ⟨gx,0,none⟩ (.slice a7 (k + 1) a9)).setCell ⟨gx,1,none⟩ (.slice b1 (k + 1) b3)) = Z:=⟨_,rfl⟩;rw [hZ9] at f7 f8 mKZ;replace f7:=Zb f7;replace f8:=Zb f8;replace mKZ:=Zb mKZ;clear f1 f3 f6;refine Zp (i:=11) rfl (by kernel_rfl) (by kernel_rfl) (fun K hK=>?_);go_simp;refine hK.out _ _ ?_;clear hK K
        try simp only [Act.put,putL_a,putL_z,putL_s]
        refine Zn (i:=12) (v:=?v51) rfl (by kernel_rfl) (by kernel_rfl) (by kernel_rfl) (by kernel_rfl) (Or.inl ⟨by kernel_rfl,?hy51⟩) (fun hno=>absurd hno (by decide)) ?rest51
        case hy51=>(intro W2 _;go_simp;try with_reducible rfl)
        try simp only [Act.put,putL_a,putL_z,putL_s,putG_a,putG_s,putG_z]
        refine Zp (i:=13) rfl (by kernel_rfl) (by kernel_rfl) (fun K hK=>?_);go_simp;(try rw [hZ9]);refine hK.out _ _ ?_;clear hK K
        try simp only [Act.put,putL_a,putL_z,putL_s]
        refine Zl (by kernel_rfl) ?_ _;refine OnlyNormal.normal ?_;clear hZ9 u0 uz0 u1 uz1 f5;go_wp2_with fail
        go_roundg (n - (k + 1))
        case measure=>omega
        case rel=>exact ⟨k + 1,_,_,rs ++ [⟨Ao,k,co⟩],by omega,by go_num,f7.out,by rw [Zaw,Zeg];exact f8.out,hpos2,mKZ.out⟩
     ·obtain ⟨r21a,r21b,r21c,r21d⟩:=hE.left
      go_simp;refine hK.out _ _ (fun _=>hE.cells) ?_;clear hK K r21a r21b r21c r21d
      try simp only [Act.put,putL_a,putL_z,putL_s]
      refine Zcb (i:=3) (j:=8) rfl rfl (by kernel_rfl) (fun K hK=>?_) (fun K hK=>?_)
      ·obtain ⟨Y22,hY22⟩ : ∃ Y,X0.alloc (.cells #[.slice Ao k co] 84) = Y:=⟨_,rfl⟩
       obtain ⟨ga23,hga23⟩ : ∃ g,X0.heap.size = g:=⟨_,rfl⟩
       have hBY22 : Below X0.heap.size X0 Y22:=by rw [<- hY22];exact (Below.refl _ _).alloc (Nat.le_refl _) _
       have hbl24 : Blk Y22 ga23 84 #[.slice Ao k co]:=by rw [<- hY22,<- hga23];exact Blk.new _ _ _
       have hEY22:=hE.below hBY22;have mKY22:=mKX.below hBY22;go_simp;(try rw [hY22]);(try rw [hga23]);refine hK.out _ _ (fun _=>hEY22.cells) ?_;clear hK K hY22 hga23
       try simp only [Act.put,putL_a,putL_z,putL_s]
       refine Zcb (i:=4) (j:=8) rfl rfl (by kernel_rfl) (fun K hK=>?_) (fun K hK=>?_)
       ·rw [if_pos (by rfl)]
        refine Zan _ (.tmp 90) (.tmp 92) 83 rfl W0.heap.size 84 iS Tryz.underlying83 ki kz0 kz1 kz2 (.slice A1 k c1) rs rfl hEY22.1.1.1 _ (some ⟨ga23,0,none⟩) 1 1 [⟨Ao,k,co⟩] rfl (Zdr hbl24) rfl hlen1 mKY22.size ?_;intro vY25 Y25 hRY25 hgY25 hkY25;have hEY25:=hEY22.app hts (r:=⟨Ao,k,co⟩) rfl hbb.out hrsg.out (fun k' e=>Nat.lt_trans (hv2g.out k' e) hW2g.out) hgxb hRY25 hgY25 hkY25;have mKY25:=Kept.grownC mKY22 hgY25 (fun k' hk=>hEY22.1.1.1.row_ge k' hk);refine hK.out _ _ (fun _=>hEY25.cells) ?_;clear hK K
        try simp only [Act.put,putL_a,putL_z,putL_s]
        refine Zu2 1 [10] rfl (by kernel_rfl) hEY25.cells ?_
        (refine tk1 (v:=?_) rfl (Or.inl ⟨by kernel_rfl,?_⟩) ?_;rotate_left;(· intro W2 _;go_simp;try with_reducible rfl);try simp only [Act.put,putL_a,putL_z,putL_s,putG_a,putG_s,putG_z])
        refine tk0 ?_;refine Ze (i:=8) rfl (by kernel_rfl) (fun K hK=>?_);obtain ⟨Y26,hY26⟩ : ∃ Y,Y25.alloc (.cells #[.bool ln,.slice lA lk lc,.bool lm,.slice lB lj ld] 91) = Y:=⟨_,rfl⟩;obtain ⟨ga27,hga27⟩ : ∃ g,Y25.heap.size = g:=⟨_,rfl⟩
        have hBY26 : Below Y25.heap.size Y25 Y26:=by rw [<- hY26];exact (Below.refl _ _).alloc (Nat.le_refl _) _
        have hbl28 : Blk Y26 ga27 91 #[.bool ln,.slice lA lk lc,.bool lm,.slice lB lj ld]:=by rw [<- hY26,<- hga27];exact Blk.new _ _ _
        have hEY26:=hEY25.below hBY26;have mKY26:=mKY25.below hBY26;go_simp;(try rw [hY26]);(try rw [hga27]);refine hK.out _ _ (fun _=>hEY26.cells) ?_;clear hK K hY26 hga27
        try simp only [Act.put,putL_a,putL_z,putL_s]
        refine Ze (i:=9) rfl (by kernel_rfl) (fun K hK=>?_);rw [if_pos (by rfl)];refine Z5 _ (.tmp 95) (.tmp 97) 84 rfl W0.heap.size 91 iN Tryz.underlying84 hi hz0 hz1 hz2 (.slice A2 k c2) _ rfl hEY26.1.2.1 _ (some ⟨ga27,0,none⟩) 1 1 [⟨ln,lA,lk,lc,lm,lB,lj,ld,dQ AQ k⟩] rfl (Zad _ hbl28) rfl (by intro e he;rw [List.mem_singleton] at he;subst he;exact hEY26.2.2.1) hlen2 mKY26.size ?_;intro vY29 Y29 hPY29 hgY29 hkY29 hwY29;obtain ⟨f1,f3⟩:=hEY26.app hts hgxb hPY29 hgY29 hkY29 hwY29;have mKY29:=Kept.grownC mKY26 hgY29 (fun k' hk=>hEY26.1.2.1.row_ge k' hk);refine hK.out _ _ (fun _=>⟨by rw [f3.cell];rfl,by rw [f3.cell];rfl⟩) ?_;clear hK K
        try simp only [Act.put,putL_a,putL_z,putL_s]
        obtain ⟨a7,a9,e7,-⟩:=f1.1.mflA;obtain ⟨b1,b3,e8,-⟩:=f1.2.1.fl;rw [<- Zaw,Zbw] at e7;subst e7
        obtain rfl : vY29 = .slice b1 (k + 1) b3:=by rw [e8];congr 1;simp [Zc3]
        clear e8;have f6 : Kept (fun k=>k = gx) Y29 ((Y29.setCell ⟨gx,0,none⟩ (.slice a7 (k + 1) a9)).setCell ⟨gx,1,none⟩ (.slice b1 (k + 1) b3)):=Kept.set_ (G:=fun k=>k = gx) (Kept.set_ (G:=fun k=>k = gx) (Kept.refl _ _) (p:=⟨gx,0,none⟩) (.inl rfl) _) (p:=⟨gx,1,none⟩) (.inl rfl) _;have f5 : Blk (Y29.setCell ⟨gx,0,none⟩ (.slice a7 (k + 1) a9)) gx 86 #[.slice a7 (k + 1) a9,.slice A2 k c2]:=f3.set_ 0 _;have f7 : Blk ((Y29.setCell ⟨gx,0,none⟩ (.slice a7 (k + 1) a9)).setCell ⟨gx,1,none⟩ (.slice b1 (k + 1) b3)) gx 86 #[.slice a7 (k + 1) a9,.slice b1 (k + 1) b3]:=f5.set_ 1 _;have f8:=f1.box f3 (Zcp _ _ _ _ _ _) hgxb f6
        have u0 : Y29.cell? ⟨gx,0,none⟩ = some (.slice A1 k c1):=by rw [f3.cell];rfl
        have uz0:=f3.frozen 0
        have u1 : (Y29.setCell ⟨gx,0,none⟩ (.slice a7 (k + 1) a9)).cell? ⟨gx,1,none⟩ = some (.slice A2 k c2):=by rw [f5.cell];rfl
        have uz1:=f5.frozen 1;have mKZ:=mKY29.trans f6;obtain ⟨Z9,hZ9⟩ : ∃ Z,((Y29.setCell ⟨gx,0,none⟩ (.slice a7 (k + 1) a9)).setCell ⟨gx,1,none⟩ (.slice b1 (k + 1) b3)) = Z:=⟨_,rfl⟩;rw [hZ9] at f7 f8 mKZ;replace f7:=Zb f7;replace f8:=Zb f8;replace mKZ:=Zb mKZ;clear f1 f3 f6;refine Zp (i:=11) rfl (by kernel_rfl) (by kernel_rfl) (fun K hK=>?_);go_simp;refine hK.out _ _ ?_;clear hK K
        try simp only [Act.put,putL_a,putL_z,putL_s]
        refine Zn (i:=12) (v:=?v53) rfl (by kernel_rfl) (by kernel_rfl) (by kernel_rfl) (by kernel_rfl) (Or.inl ⟨by kernel_rfl,?hy53⟩) (fun hno=>absurd hno (by decide)) ?rest53
        case hy53=>(intro W2 _;go_simp;try with_reducible rfl)
        try simp only [Act.put,putL_a,putL_z,putL_s,putG_a,putG_s,putG_z]
        refine Zp (i:=13) rfl (by kernel_rfl) (by kernel_rfl) (fun K hK=>?_);go_simp;(try rw [hZ9]);refine hK.out _ _ ?_;clear hK K
        try simp only [Act.put,putL_a,putL_z,putL_s]
        refine Zl (by kernel_rfl) ?_ _;refine OnlyNormal.normal ?_;clear hZ9 u0 uz0 u1 uz1 f5;go_wp2_with fail
        go_roundg (n - (k + 1))
        case measure=>omega
        case rel=>exact ⟨k + 1,_,_,rs ++ [⟨Ao,k,co⟩],by omega,by go_num,f7.out,by rw [Zaw,Zeg];exact f8.out,hpos2,mKZ.out⟩
       ·obtain ⟨Y30,hY30⟩ : ∃ Y,Y22.alloc (.cells #[.bool ln,.slice lA lk lc,.bool lm,.slice lB lj ld] 91) = Y:=⟨_,rfl⟩
        obtain ⟨ga31,hga31⟩ : ∃ g,Y22.heap.size = g:=⟨_,rfl⟩
        have hBY30 : Below Y22.heap.size Y22 Y30:=by rw [<- hY30];exact (Below.refl _ _).alloc (Nat.le_refl _) _
        have hbl32 : Blk Y30 ga31 91 #[.bool ln,.slice lA lk lc,.bool lm,.slice lB lj ld]:=by rw [<- hY30,<- hga31];exact Blk.new _ _ _
        have hEY30:=hEY22.below hBY30;have mKY30:=mKY22.below hBY30;have hbl24Y30:=Zc hBY30 hbl24;go_simp;(try rw [hY30]);(try rw [hga31]);refine hK.out _ _ (fun _=>hEY30.cells) ?_;clear hK K hY30 hga31
        try simp only [Act.put,putL_a,putL_z,putL_s]
        refine Ze (i:=4) rfl (by kernel_rfl) (fun K hK=>?_);rw [if_pos (by rfl)];refine Zan _ (.tmp 90) (.tmp 92) 83 rfl W0.heap.size 84 iS Tryz.underlying83 ki kz0 kz1 kz2 (.slice A1 k c1) rs rfl hEY30.1.1.1 _ (some ⟨ga23,0,none⟩) 1 1 [⟨Ao,k,co⟩] rfl (Zdr hbl24Y30) rfl hlen1 mKY30.size ?_;intro vY33 Y33 hRY33 hgY33 hkY33;have hEY33:=hEY30.app hts (r:=⟨Ao,k,co⟩) rfl hbb.out hrsg.out (fun k' e=>Nat.lt_trans (hv2g.out k' e) hW2g.out) hgxb hRY33 hgY33 hkY33;have mKY33:=Kept.grownC mKY30 hgY33 (fun k' hk=>hEY30.1.1.1.row_ge k' hk);have hbl32Y33:=hEY30.far hts hgY33 hbl32;refine hK.out _ _ (fun _=>hEY33.cells) ?_;clear hK K
        try simp only [Act.put,putL_a,putL_z,putL_s]
        refine Zu2 1 [10] rfl (by kernel_rfl) hEY33.cells ?_
        (refine tk1 (v:=?_) rfl (Or.inl ⟨by kernel_rfl,?_⟩) ?_;rotate_left;(· intro W2 _;go_simp;try with_reducible rfl);try simp only [Act.put,putL_a,putL_z,putL_s,putG_a,putG_s,putG_z])
        refine tk0 ?_;refine Ze (i:=9) rfl (by kernel_rfl) (fun K hK=>?_);rw [if_pos (by rfl)];refine Z5 _ (.tmp 95) (.tmp 97) 84 rfl W0.heap.size 91 iN Tryz.underlying84 hi hz0 hz1 hz2 (.slice A2 k c2) _ rfl hEY33.1.2.1 _ (some ⟨ga31,0,none⟩) 1 1 [⟨ln,lA,lk,lc,lm,lB,lj,ld,dQ AQ k⟩] rfl (Zad _ hbl32Y33) rfl (by intro e he;rw [List.mem_singleton] at he;subst he;exact hEY33.2.2.1) hlen2 mKY33.size ?_;intro vY34 Y34 hPY34 hgY34 hkY34 hwY34;obtain ⟨f1,f3⟩:=hEY33.app hts hgxb hPY34 hgY34 hkY34 hwY34;have mKY34:=Kept.grownC mKY33 hgY34 (fun k' hk=>hEY33.1.2.1.row_ge k' hk);refine hK.out _ _ (fun _=>⟨by rw [f3.cell];rfl,by rw [f3.cell];rfl⟩) ?_;clear hK K
        try simp only [Act.put,putL_a,putL_z,putL_s]
        obtain ⟨a7,a9,e7,-⟩:=f1.1.mflA;obtain ⟨b1,b3,e8,-⟩:=f1.2.1.fl;rw [<- Zaw,Zbw] at e7;subst e7
        obtain rfl : vY34 = .slice b1 (k + 1) b3:=by rw [e8];congr 1;simp [Zc3]
        clear e8;have f6 : Kept (fun k=>k = gx) Y34 ((Y34.setCell ⟨gx,0,none⟩ (.slice a7 (k + 1) a9)).setCell ⟨gx,1,none⟩ (.slice b1 (k + 1) b3)):=Kept.set_ (G:=fun k=>k = gx) (Kept.set_ (G:=fun k=>k = gx) (Kept.refl _ _) (p:=⟨gx,0,none⟩) (.inl rfl) _) (p:=⟨gx,1,none⟩) (.inl rfl) _;have f5 : Blk (Y34.setCell ⟨gx,0,none⟩ (.slice a7 (k + 1) a9)) gx 86 #[.slice a7 (k + 1) a9,.slice A2 k c2]:=f3.set_ 0 _;have f7 : Blk ((Y34.setCell ⟨gx,0,none⟩ (.slice a7 (k + 1) a9)).setCell ⟨gx,1,none⟩ (.slice b1 (k + 1) b3)) gx 86 #[.slice a7 (k + 1) a9,.slice b1 (k + 1) b3]:=f5.set_ 1 _;have f8:=f1.box f3 (Zcp _ _ _ _ _ _) hgxb f6
        have u0 : Y34.cell? ⟨gx,0,none⟩ = some (.slice A1 k c1):=by rw [f3.cell];rfl
        have uz0:=f3.frozen 0
        have u1 : (Y34.setCell ⟨gx,0,none⟩ (.slice a7 (k + 1) a9)).cell? ⟨gx,1,none⟩ = some (.slice A2 k c2):=by rw [f5.cell];rfl
        have uz1:=f5.frozen 1;have mKZ:=mKY34.trans f6;obtain ⟨Z9,hZ9⟩ : ∃ Z,((Y34.setCell ⟨gx,0,none⟩ (.slice a7 (k + 1) a9)).setCell ⟨gx,1,none⟩ (.slice b1 (k + 1) b3)) = Z:=⟨_,rfl⟩;rw [hZ9] at f7 f8 mKZ;replace f7:=Zb f7;replace f8:=Zb f8;replace mKZ:=Zb mKZ;clear f1 f3 f6;refine Zp (i:=11) rfl (by kernel_rfl) (by kernel_rfl) (fun K hK=>?_);go_simp;refine hK.out _ _ ?_;clear hK K
        try simp only [Act.put,putL_a,putL_z,putL_s]
        refine Zn (i:=12) (v:=?v55) rfl (by kernel_rfl) (by kernel_rfl) (by kernel_rfl) (by kernel_rfl) (Or.inl ⟨by kernel_rfl,?hy55⟩) (fun hno=>absurd hno (by decide)) ?rest55
        case hy55=>(intro W2 _;go_simp;try with_reducible rfl)
        try simp only [Act.put,putL_a,putL_z,putL_s,putG_a,putG_s,putG_z]
        refine Zp (i:=13) rfl (by kernel_rfl) (by kernel_rfl) (fun K hK=>?_);go_simp;(try rw [hZ9]);refine hK.out _ _ ?_;clear hK K
        try simp only [Act.put,putL_a,putL_z,putL_s]
        refine Zl (by kernel_rfl) ?_ _;refine OnlyNormal.normal ?_;clear hZ9 u0 uz0 u1 uz1 f5;go_wp2_with fail
        go_roundg (n - (k + 1))
        case measure=>omega
        case rel=>exact ⟨k + 1,_,_,rs ++ [⟨Ao,k,co⟩],by omega,by go_num,f7.out,by rw [Zaw,Zeg];exact f8.out,hpos2,mKZ.out⟩
      ·obtain ⟨Y35,hY35⟩ : ∃ Y,X0.alloc (.cells #[.bool ln,.slice lA lk lc,.bool lm,.slice lB lj ld] 91) = Y:=⟨_,rfl⟩
       obtain ⟨ga36,hga36⟩ : ∃ g,X0.heap.size = g:=⟨_,rfl⟩
       have hBY35 : Below X0.heap.size X0 Y35:=by rw [<- hY35];exact (Below.refl _ _).alloc (Nat.le_refl _) _
       have hbl37 : Blk Y35 ga36 91 #[.bool ln,.slice lA lk lc,.bool lm,.slice lB lj ld]:=by rw [<- hY35,<- hga36];exact Blk.new _ _ _
       have hEY35:=hE.below hBY35;have mKY35:=mKX.below hBY35;go_simp;(try rw [hY35]);(try rw [hga36]);refine hK.out _ _ (fun _=>hEY35.cells) ?_;clear hK K hY35 hga36
       try simp only [Act.put,putL_a,putL_z,putL_s]
       refine Ze (i:=3) rfl (by kernel_rfl) (fun K hK=>?_);obtain ⟨Y38,hY38⟩ : ∃ Y,Y35.alloc (.cells #[.slice Ao k co] 84) = Y:=⟨_,rfl⟩;obtain ⟨ga39,hga39⟩ : ∃ g,Y35.heap.size = g:=⟨_,rfl⟩
       have hBY38 : Below Y35.heap.size Y35 Y38:=by rw [<- hY38];exact (Below.refl _ _).alloc (Nat.le_refl _) _
       have hbl40 : Blk Y38 ga39 84 #[.slice Ao k co]:=by rw [<- hY38,<- hga39];exact Blk.new _ _ _
       have hEY38:=hEY35.below hBY38;have mKY38:=mKY35.below hBY38;have hbl37Y38:=Zc hBY38 hbl37;go_simp;(try rw [hY38]);(try rw [hga39]);refine hK.out _ _ (fun _=>hEY38.cells) ?_;clear hK K hY38 hga39
       try simp only [Act.put,putL_a,putL_z,putL_s]
       refine Ze (i:=4) rfl (by kernel_rfl) (fun K hK=>?_);rw [if_pos (by rfl)];refine Zan _ (.tmp 90) (.tmp 92) 83 rfl W0.heap.size 84 iS Tryz.underlying83 ki kz0 kz1 kz2 (.slice A1 k c1) rs rfl hEY38.1.1.1 _ (some ⟨ga39,0,none⟩) 1 1 [⟨Ao,k,co⟩] rfl (Zdr hbl40) rfl hlen1 mKY38.size ?_;intro vY41 Y41 hRY41 hgY41 hkY41;have hEY41:=hEY38.app hts (r:=⟨Ao,k,co⟩) rfl hbb.out hrsg.out (fun k' e=>Nat.lt_trans (hv2g.out k' e) hW2g.out) hgxb hRY41 hgY41 hkY41;have mKY41:=Kept.grownC mKY38 hgY41 (fun k' hk=>hEY38.1.1.1.row_ge k' hk);have hbl37Y38Y41:=hEY38.far hts hgY41 hbl37Y38;refine hK.out _ _ (fun _=>hEY41.cells) ?_;clear hK K
       try simp only [Act.put,putL_a,putL_z,putL_s]
       refine Zu2 1 [10] rfl (by kernel_rfl) hEY41.cells ?_
       (refine tk1 (v:=?_) rfl (Or.inl ⟨by kernel_rfl,?_⟩) ?_;rotate_left;(· intro W2 _;go_simp;try with_reducible rfl);try simp only [Act.put,putL_a,putL_z,putL_s,putG_a,putG_s,putG_z])
       refine tk0 ?_;refine Ze (i:=9) rfl (by kernel_rfl) (fun K hK=>?_);rw [if_pos (by rfl)];refine Z5 _ (.tmp 95) (.tmp 97) 84 rfl W0.heap.size 91 iN Tryz.underlying84 hi hz0 hz1 hz2 (.slice A2 k c2) _ rfl hEY41.1.2.1 _ (some ⟨ga36,0,none⟩) 1 1 [⟨ln,lA,lk,lc,lm,lB,lj,ld,dQ AQ k⟩] rfl (Zad _ hbl37Y38Y41) rfl (by intro e he;rw [List.mem_singleton] at he;subst he;exact hEY41.2.2.1) hlen2 mKY41.size ?_;intro vY42 Y42 hPY42 hgY42 hkY42 hwY42;obtain ⟨f1,f3⟩:=hEY41.app hts hgxb hPY42 hgY42 hkY42 hwY42;have mKY42:=Kept.grownC mKY41 hgY42 (fun k' hk=>hEY41.1.2.1.row_ge k' hk);refine hK.out _ _ (fun _=>⟨by rw [f3.cell];rfl,by rw [f3.cell];rfl⟩) ?_;clear hK K
       try simp only [Act.put,putL_a,putL_z,putL_s]
       obtain ⟨a7,a9,e7,-⟩:=f1.1.mflA;obtain ⟨b1,b3,e8,-⟩:=f1.2.1.fl;rw [<- Zaw,Zbw] at e7;subst e7
       obtain rfl : vY42 = .slice b1 (k + 1) b3:=by rw [e8];congr 1;simp [Zc3]
       clear e8;have f6 : Kept (fun k=>k = gx) Y42 ((Y42.setCell ⟨gx,0,none⟩ (.slice a7 (k + 1) a9)).setCell ⟨gx,1,none⟩ (.slice b1 (k + 1) b3)):=Kept.set_ (G:=fun k=>k = gx) (Kept.set_ (G:=fun k=>k = gx) (Kept.refl _ _) (p:=⟨gx,0,none⟩) (.inl rfl) _) (p:=⟨gx,1,none⟩) (.inl rfl) _;have f5 : Blk (Y42.setCell ⟨gx,0,none⟩ (.slice a7 (k + 1) a9)) gx 86 #[.slice a7 (k + 1) a9,.slice A2 k c2]:=f3.set_ 0 _;have f7 : Blk ((Y42.setCell ⟨gx,0,none⟩ (.slice a7 (k + 1) a9)).setCell ⟨gx,1,none⟩ (.slice b1 (k + 1) b3)) gx 86 #[.slice a7 (k + 1) a9,.slice b1 (k + 1) b3]:=f5.set_ 1 _;have f8:=f1.box f3 (Zcp _ _ _ _ _ _) hgxb f6
       have u0 : Y42.cell? ⟨gx,0,none⟩ = some (.slice A1 k c1):=by rw [f3.cell];rfl
       have uz0:=f3.frozen 0
       have u1 : (Y42.setCell ⟨gx,0,none⟩ (.slice a7 (k + 1) a9)).cell? ⟨gx,1,none⟩ = some (.slice A2 k c2):=by rw [f5.cell];rfl
       have uz1:=f5.frozen 1;have mKZ:=mKY42.trans f6;obtain ⟨Z9,hZ9⟩ : ∃ Z,((Y42.setCell ⟨gx,0,none⟩ (.slice a7 (k + 1) a9)).setCell ⟨gx,1,none⟩ (.slice b1 (k + 1) b3)) = Z:=⟨_,rfl⟩;rw [hZ9] at f7 f8 mKZ;replace f7:=Zb f7;replace f8:=Zb f8;replace mKZ:=Zb mKZ;clear f1 f3 f6;refine Zp (i:=11) rfl (by kernel_rfl) (by kernel_rfl) (fun K hK=>?_);go_simp;refine hK.out _ _ ?_;clear hK K
       try simp only [Act.put,putL_a,putL_z,putL_s]
       refine Zn (i:=12) (v:=?v57) rfl (by kernel_rfl) (by kernel_rfl) (by kernel_rfl) (by kernel_rfl) (Or.inl ⟨by kernel_rfl,?hy57⟩) (fun hno=>absurd hno (by decide)) ?rest57
       case hy57=>(intro W2 _;go_simp;try with_reducible rfl)
       try simp only [Act.put,putL_a,putL_z,putL_s,putG_a,putG_s,putG_z]
       refine Zp (i:=13) rfl (by kernel_rfl) (by kernel_rfl) (fun K hK=>?_);go_simp;(try rw [hZ9]);refine hK.out _ _ ?_;clear hK K
       try simp only [Act.put,putL_a,putL_z,putL_s]
       refine Zl (by kernel_rfl) ?_ _;refine OnlyNormal.normal ?_;clear hZ9 u0 uz0 u1 uz1 f5;go_wp2_with fail
       go_roundg (n - (k + 1))
       case measure=>omega
       case rel=>exact ⟨k + 1,_,_,rs ++ [⟨Ao,k,co⟩],by omega,by go_num,f7.out,by rw [Zaw,Zeg];exact f8.out,hpos2,mKZ.out⟩
    | succ t2 =>
     obtain rfl : t2 = i - (k + 1):=by omega
     have hki : k < i:=by omega
     have t2 : decide ((k : Int) < (i : Int)) = true:=decide_eq_true (by omega)
     have bki : (k : Int) < (i : Int):=by omega
     have bkn : (k : Int) < (n : Int):=by omega
     obtain ⟨yn,yA,yk,yc,ym,yB,yj,yd,⟨r0,r1,r2,r3⟩,hY⟩:=(hR.out.below hBk.out).atS (show k < n by omega);rw [hent.out] at hY;obtain ⟨V3,hV3,hBV3,p3,s3⟩:=Zai wk 91 #[.bool false,.slice none 0 0,.bool false,.slice none 0 0];obtain ⟨gs,hgs⟩ : ∃ g,wk.heap.size = g:=⟨_,rfl⟩;rw [hgs] at p3 s3;obtain ⟨u0,u1,u2,u3,v0,v1,v2,v3⟩:=p3.four;obtain ⟨W4,hW4,p4,hK4,s4⟩:=Zaf yn yA yk yc ym yB yj yd p3;have hB4 : Below wk.heap.size wk W4:=hBV3.trans (hK4.to_below (fun k e=>by omega) hBV3.size);have hs4 : Hid (W4.heap.size = gs + 1):=Zb (by rw [s4,s3]);have hY4:=Zb (hY.below hB4);have hgls : Hid (gl < gs):=Zb (by have:=hbl.lt;omega);replace hB4:=Zb hB4;replace hown:=Zb hown;replace hFo:=Zb hFo;replace hbl:=Zb hbl;replace hK3:=Zb hK3;replace p4:=Zb p4;clear hY hBV3 hK4 s3 s4 hbxk;go_wp2_with fail;(try rw [hgs]);(try rw [hW4]);clear u0 u1 u2 u3 v0 v1 v2 v3 p3 hV3 hW4 r0 r1 r2 r3 xk0 xk1 zk0 zk1 l0 l1 l2 l3 m0 m1 m2 m3;replace hgs:=Zb hgs
     go_loopg [32] k (fun t jv wj=>∃ (j : Nat) (sn : Bool) (sA : Option Addr) (sk sc : Nat) (sm : Bool) (sB : Option Addr) (sj sd : Nat),j + t = k /\ jv = .int .i64 j /\ Blk wj gs 91 #[.bool sn,.slice sA sk sc,.bool sm,.slice sB sj sd] /\ Hid (Fr wj sn sA sk sc sm sB sj sd (Zk AQ j i k)) /\ Kept (fun g=>g = gs) W4 wj)
     case atStart=>exact ⟨0,_,_,_,_,_,_,_,_,by omega,rfl,p4.out,hY4,Kept.refl _ _⟩
     case round =>
      clear p4 hY4;obtain ⟨wj,rfl⟩ : ∃ x : World,x = wr:=⟨_,rfl⟩;obtain ⟨j,sn,sA,sk,sc,sm,sB,sj,sd,hjt,rfl,hbs,hs,hK5⟩:=hrel;have hs4':=hs4.out;have hgs':=hgs.out;have hBj : Hid (Below wk.heap.size wk wj):=Zb (hB4.out.trans (hK5.to_below (fun k e=>by omega) (by omega)));have hBrj : Hid (Below wi.heap.size wi wj):=Zb (hBk.out.trans (hBj.out.mono hBk.out.size));have hbxj:=Zc hBrj.out hbx.out
      have xj0 : wj.cell? ⟨gx,0,none⟩ = some (.slice A1 i c1):=by rw [hbxj.cell];rfl
      have xj1 : wj.cell? ⟨gx,1,none⟩ = some (.slice A2 i c2):=by rw [hbxj.cell];rfl
      obtain ⟨s0,s1,s2,s3,y0,y1,y2,y3⟩:=hbs.four
      cases gk with
      | zero =>
       obtain rfl : j = k:=by omega
       have t3 : decide ((j : Int) < (j : Int)) = false:=by simp
       obtain ⟨gd,od',dn,dA,dk,dc,dm,dB,dj,dd,rfl,⟨d0,d1,d2,d3⟩,hD⟩:=(hL2.out.below hBrj.out).at_ hki;rw [Zln hki] at hD;replace hD:=Zb hD;go_wp2_with fail;obtain ⟨X0,hX0⟩ : ∃ X,wj.drew = X:=⟨_,rfl⟩
       have hr1 : Below wj.heap.size wj X0:=by rw [<- hX0];exact Zj (Below.refl _ _) 1
       have hSv1 : Hid (∀ wx,Below wj.heap.size wj wx -> wx.cell? ⟨gs,0,none⟩ = some (.bool sn) /\ wx.cell? ⟨gs,1,none⟩ = some (.slice sA sk sc) /\ wx.cell? ⟨gs,2,none⟩ = some (.bool sm) /\ wx.cell? ⟨gs,3,none⟩ = some (.slice sB sj sd) /\ wx.cell? ⟨gx,1,none⟩ = some (.slice (some ⟨gd,od',none⟩) i c2) /\ wx.cell? ⟨gd,od' + j * 4,none⟩ = some (.bool dn) /\ wx.cell? ⟨gd,od' + j * 4 + 1,none⟩ = some (.slice dA dk dc) /\ wx.cell? ⟨gd,od' + j * 4 + 2,none⟩ = some (.bool dm) /\ wx.cell? ⟨gd,od' + j * 4 + 3,none⟩ = some (.slice dB dj dd)):=Zb (fun wx hbx=>⟨Za hbx s0,Za hbx s1,Za hbx s2,Za hbx s3,Za hbx xj1,Za hbx d0,Za hbx d1,Za hbx d2,Za hbx d3⟩);refine wp_heldS [] hmx hSv1 (by rw [hX0];exact hr1) (fun hxs=>?_);rw [hX0];refine Zu3 7 [0,1,2,3,4,5,6] rfl (by kernel_rfl) (hSv1.out _ hr1) ?_
       iterate 7 (refine tk1 (v:=?_) rfl (Or.inl ⟨by kernel_rfl,?_⟩) ?_;rotate_left;(· intro W2 hSw;(try dsimp only at hSw);go_simp;try with_reducible rfl);try simp only [Act.put,putL_a,putL_z,putL_s,putG_a,putG_s,putG_z])
       refine tk0 ?_;refine Ze (i:=7) rfl (by kernel_rfl) (fun K hK=>?_);go_simp;refine (Zm3 sn sm dn dm sA sB dA dB sk sc sj sd dk dc dj dd _ _ X0 (hs.out.below hr1) (hD.out.below hr1) (fac_q hF.out hin hki hpos.out).1 (fac_q hF.out hin hki hpos.out).2.1 (fac_q hF.out hin hki hpos.out).2.2).mono ?_;rintro e w5 ⟨hb5,an,aA,ak,ac,am,aB,aj,ad,rfl,hT⟩;have hr5:=hr1.trans (hb5.mono hr1.size);refine hK.out _ _ (fun _=>hSv1.out _ hr5) ?_;clear hK K
       try simp only [Act.put,putL_a,putL_z,putL_s]
       obtain ⟨Y1,hY1⟩ : ∃ Y,w5.alloc (.cells #[.bool an,.slice aA ak ac,.bool am,.slice aB aj ad] 91) = Y:=⟨_,rfl⟩;obtain ⟨ga1,hga1⟩ : ∃ g,w5.heap.size = g:=⟨_,rfl⟩
       have hBY : Below w5.heap.size w5 Y1:=by rw [<- hY1];exact (Below.refl _ _).alloc (Nat.le_refl _) _
       have hbY : Blk Y1 ga1 91 #[.bool an,.slice aA ak ac,.bool am,.slice aB aj ad]:=by rw [<- hY1,<- hga1];exact Blk.new _ _ _
       have hr2 : Below wj.heap.size wj Y1:=hr5.trans (hBY.mono hr5.size);refine Ze (i:=8) rfl (by kernel_rfl) (fun K hK=>?_);go_simp;(try rw [hY1]);(try rw [hga1]);refine hK.out _ _ (fun _=>hSv1.out _ hr2) ?_;clear hK K hY1 hga1
       try simp only [Act.put,putL_a,putL_z,putL_s]
       have hTY:=hT.below hBY;have hBkY : Below wk.heap.size wk Y1:=hBj.out.trans (hr2.mono hBj.out.size);have hOr:=hown.out.kept hBkY;have hYb : W2.heap.size <= Y1.heap.size:=Nat.le_trans hK3.out.size hBkY.size
       have hlen9 : (Zf7 AQ i j).length + 1 <= 1000:=by rw [Zd6];omega
       refine Ze (i:=9) rfl (by kernel_rfl) (fun K hK=>?_);rw [if_pos (by rfl)];refine Z5 _ (.tmp 57) (.tmp 65) 84 rfl W2.heap.size 91 iN Tryz.underlying84 hi hz0 hz1 hz2 (.slice Ao j co) _ rfl hOr _ (some ⟨ga1,0,none⟩) 1 1 [⟨an,aA,ak,ac,am,aB,aj,ad,Zk AQ j i j / dQ AQ j⟩] rfl (Zad _ hbY) rfl (by intro e he;rw [List.mem_singleton] at he;subst he;exact hTY) hlen9 hYb ?_;intro vY Y2 hO2 hg2 hk2 hw2
       have hO2' : OwnF 91 Y2 W2.heap.size vY (Zf7 AQ i (j + 1)):=by rw [Zr8];exact hO2
       obtain ⟨Ap,cp,e4,hFp⟩:=hO2'.fl;rw [Zd6] at e4 hFp;subst e4;have hge:=hOr.row_ge;have hlt:=hown.out.blt;have hKY : Hid (Kept (fun g=>g = gl) W2 Y1):=Zb (hK3.out.below hBkY);have hKY2 : Hid (Kept (fun g=>g = gl) W2 Y2):=Zb ⟨hg2.os.trans hKY.out.os,hg2.tape.trans hKY.out.tape,hg2.output.trans hKY.out.output,Nat.le_trans hKY.out.size hg2.size,fun g hg hne=>(hg2.block g (Nat.lt_of_lt_of_le hg hKY.out.size) (fun e=>by have:=hge g (by first | exact e | exact e.symm);omega)).trans (hKY.out.block g hg hne)⟩;have hblY : Hid (Blk Y2 gl 91 #[.bool ln,.slice lA lk lc,.bool lm,.slice lB lj ld]):=Zb ((hg2.block gl (Nat.lt_of_lt_of_le hbl.out.lt hBkY.size) (fun e=>by have:=hge gl (by first | exact e | exact e.symm);omega)).trans (Zc hBkY hbl.out));have hlY : Hid (Fr Y2 ln lA lk lc lm lB lj ld (Zk AQ j i i)):=Zb ⟨⟨hl.out.1.1,hl.out.1.2.1,hk2 _ _ _ _ (hl.out.below hBkY).1.2.2⟩,⟨hl.out.2.1,hl.out.2.2.1,hk2 _ _ _ _ (hl.out.below hBkY).2.2.2⟩⟩;have hBrY : Hid (Below wi.heap.size wi Y2):=Zb (hB2.out.trans (hKY2.out.to_below (fun g e=>by omega) (by omega)));obtain ⟨_,_,_,_,_,_,_,_,⟨dd0,-⟩,-⟩:=hL2.out.atS hki;have hgd : gd < wi.heap.size:=Zt dd0
       have hsame : ∀ (g o : Nat) (v : Value),(∀ k',(Value.slice Ao j co).ownBlock = some k' -> k' ≠ g) -> Y1.cell? ⟨g,o,none⟩ = some v -> Y2.cell? ⟨g,o,none⟩ = some v:=fun g o v hne hv=>by
        rw [<- hv];exact World.cell?_of_block (hg2.block g (Zt hv) (fun e=>hne g (by first | exact e | exact e.symm) rfl))
       have hSY2 : Y2.cell? ⟨gs,0,none⟩ = some (.bool sn) /\ Y2.cell? ⟨gs,1,none⟩ = some (.slice sA sk sc) /\ Y2.cell? ⟨gs,2,none⟩ = some (.bool sm) /\ Y2.cell? ⟨gs,3,none⟩ = some (.slice sB sj sd) /\ Y2.cell? ⟨gx,1,none⟩ = some (.slice (some ⟨gd,od',none⟩) i c2) /\ Y2.cell? ⟨gd,od' + j * 4,none⟩ = some (.bool dn) /\ Y2.cell? ⟨gd,od' + j * 4 + 1,none⟩ = some (.slice dA dk dc) /\ Y2.cell? ⟨gd,od' + j * 4 + 2,none⟩ = some (.bool dm) /\ Y2.cell? ⟨gd,od' + j * 4 + 3,none⟩ = some (.slice dB dj dd):=by
        obtain ⟨p0,p1,p2,p3,p4,p5,p6,p7,p8⟩:=hSv1.out _ hr2;refine ⟨hsame _ _ _ (fun k' e=>by have:=hlt k' e;omega) p0,hsame _ _ _ (fun k' e=>by have:=hlt k' e;omega) p1,hsame _ _ _ (fun k' e=>by have:=hlt k' e;omega) p2,hsame _ _ _ (fun k' e=>by have:=hlt k' e;omega) p3,hsame _ _ _ (fun k' e=>by have:=hge k' e;omega) p4,hsame _ _ _ (fun k' e=>by have:=hge k' e;omega) p5,hsame _ _ _ (fun k' e=>by have:=hge k' e;omega) p6,hsame _ _ _ (fun k' e=>by have:=hge k' e;omega) p7,hsame _ _ _ (fun k' e=>by have:=hge k' e;omega) p8⟩
       refine hK.out _ _ (fun _=>hSY2) ?_;clear hK K dd0 hsame
       try simp only [Act.put,putL_a,putL_z,putL_s]
       refine Zu2 1 [10] rfl (by kernel_rfl) hSY2 ?_
       (refine tk1 (v:=?_) rfl (Or.inl ⟨by kernel_rfl,?_⟩) ?_;rotate_left;(· intro W2 _;go_simp;try with_reducible rfl);try simp only [Act.put,putL_a,putL_z,putL_s,putG_a,putG_s,putG_z])
       refine tk0 ?_;refine Zl (by kernel_rfl) ?_ _;refine OnlyNormal.normal ?_;replace hO2':=Zb hO2';replace hFp:=Zb hFp;clear hSY2 hgd hSv1 hxs hr1 hr2 hr5 hbY hBY hX0 hO2 hg2 hk2 hw2 hge hlt hOr hTY hT hBkY hKY hYb hlen9 s0 s1 s2 s3 y0 y1 y2 y3 xj0 xj1 d0 d1 d2 d3 hD hbs hs hK5 hbxj hBj hBrj hl hbl hK3 hown hFo;obtain ⟨l0,l1,l2,l3,-⟩:=hblY.out.four;have hbxY:=Zc hBrY.out hbx.out
       have xy1 : Y2.cell? ⟨gx,1,none⟩ = some (.slice (some ⟨gd,od',none⟩) i c2):=by rw [hbxY.cell];rfl
       obtain ⟨dn,dA,dk,dc,dm,dB,dj,dd,⟨d0,d1,d2,d3⟩,hD⟩:=(hL2.out.below hBrY.out).atS hki;rw [Zln hki] at hD;replace hD:=Zb hD;obtain ⟨go,oo,on_,oA,ok,oc,om,oB,oj,od,rfl,⟨o0,o1,o2,o3⟩,hO⟩:=hFp.out.at_ (Nat.lt_succ_self j);rw [Zia (Nat.lt_succ_self j)] at hO;replace hO:=Zb hO;have hpcap:=hFp.out.cap;unfold maxLen at hpcap
       have bjs : (j : Int) < ((j : Int) + 1):=by omega
       have bjs2 : (j : Int) < ((j + 1 : Nat) : Int):=by omega
       have bji : (j : Int) < (i : Int):=by omega
       go_wp2_with fail;obtain ⟨X0,hX0⟩ : ∃ X,Y2.drew = X:=⟨_,rfl⟩
       have hr1 : Below Y2.heap.size Y2 X0:=by rw [<- hX0];exact Zj (Below.refl _ _) 1
       have hSv1 : Hid (∀ wx,Below Y2.heap.size Y2 wx -> wx.cell? ⟨gl,0,none⟩ = some (.bool ln) /\ wx.cell? ⟨gl,1,none⟩ = some (.slice lA lk lc) /\ wx.cell? ⟨gl,2,none⟩ = some (.bool lm) /\ wx.cell? ⟨gl,3,none⟩ = some (.slice lB lj ld) /\ wx.cell? ⟨go,oo + j * 4,none⟩ = some (.bool on_) /\ wx.cell? ⟨go,oo + j * 4 + 1,none⟩ = some (.slice oA ok oc) /\ wx.cell? ⟨go,oo + j * 4 + 2,none⟩ = some (.bool om) /\ wx.cell? ⟨go,oo + j * 4 + 3,none⟩ = some (.slice oB oj od) /\ wx.cell? ⟨gx,1,none⟩ = some (.slice (some ⟨gd,od',none⟩) i c2) /\ wx.cell? ⟨gd,od' + j * 4,none⟩ = some (.bool dn) /\ wx.cell? ⟨gd,od' + j * 4 + 1,none⟩ = some (.slice dA dk dc) /\ wx.cell? ⟨gd,od' + j * 4 + 2,none⟩ = some (.bool dm) /\ wx.cell? ⟨gd,od' + j * 4 + 3,none⟩ = some (.slice dB dj dd)):=Zb (fun wx hbx=>⟨Za hbx l0,Za hbx l1,Za hbx l2,Za hbx l3,Za hbx o0,Za hbx o1,Za hbx o2,Za hbx o3,Za hbx xy1,Za hbx d0,Za hbx d1,Za hbx d2,Za hbx d3⟩);refine wp_heldS [17] hmx hSv1 (by rw [hX0];exact hr1) (fun hxs=>?_);rw [hX0];refine Zu3 14 [0,1,2,3,4,5,6,7,8,9,10,11,12,13] rfl (by kernel_rfl) (hSv1.out _ hr1) ?_
       iterate 14 (refine tk1 (v:=?_) rfl (Or.inl ⟨by kernel_rfl,?_⟩) ?_;rotate_left;(· intro W2 hSw;(try dsimp only at hSw);go_simp;try with_reducible rfl);try simp only [Act.put,putL_a,putL_z,putL_s,putG_a,putG_s,putG_z])
       refine tk0 ?_;obtain ⟨Y1,hY1⟩ : ∃ Y,X0.alloc (.cells #[.bool on_,.slice oA ok oc,.bool om,.slice oB oj od,.bool dn,.slice dA dk dc,.bool dm,.slice dB dj dd] 91) = Y:=⟨_,rfl⟩;obtain ⟨ga1,hga1⟩ : ∃ g,X0.heap.size = g:=⟨_,rfl⟩
       have hBY : Below X0.heap.size X0 Y1:=by rw [<- hY1];exact (Below.refl _ _).alloc (Nat.le_refl _) _
       have hbY : Blk Y1 ga1 91 #[.bool on_,.slice oA ok oc,.bool om,.slice oB oj od,.bool dn,.slice dA dk dc,.bool dm,.slice dB dj dd]:=by rw [<- hY1,<- hga1];exact Blk.new _ _ _
       have hr2 : Below Y2.heap.size Y2 Y1:=hr1.trans (hBY.mono hr1.size);refine Ze (i:=14) rfl (by kernel_rfl) (fun K hK=>?_);go_simp;(try rw [hY1]);(try rw [hga1]);refine hK.out _ _ (fun _=>hSv1.out _ hr2) ?_;clear hK K hY1 hga1
       try simp only [Act.put,putL_a,putL_z,putL_s]
       refine Ze (i:=15) rfl (by kernel_rfl) (fun K hK=>?_);go_simp;refine (Zfu on_ oA ok oc om oB oj od (lQ AQ i j) (some ⟨ga1,0,none⟩) 2 2 [lQ AQ i j,dQ AQ j] Y1 (hO.out.below hr2) (FL.pair2 hbY (hO.out.below hr2) (hD.out.below hr2)) (by omega) (Zi2 hF.out hin hki hpos.out).1 (Zi2 hF.out hin hki hpos.out).2).mono ?_;rintro e w5 ⟨hb5,an,aA,ak,ac,am,aB,aj,ad,rfl,hT⟩;have hr5:=hr2.trans (hb5.mono hr2.size);refine hK.out _ _ (fun _=>hSv1.out _ hr5) ?_;clear hK K
       try simp only [Act.put,putL_a,putL_z,putL_s]
       refine Ze (i:=16) rfl (by kernel_rfl) (fun K hK=>?_);go_simp;refine (Zhh ln lm an am lA lB aA aB lk lc lj ld ak ac aj ad _ _ w5 (hlY.out.below hr5) hT (Zq0 hF.out hin hki hpos.out).1 (Zq0 hF.out hin hki hpos.out).2).mono ?_;rintro e w6 ⟨hb6,bn,bA,bk,bc,bm,bB,bj,bd,rfl,hU⟩;have hr6:=hr5.trans (hb6.mono hr5.size);refine hK.out _ _ (fun _=>hSv1.out _ hr6) ?_;clear hK K
       try simp only [Act.put,putL_a,putL_z,putL_s]
       have hr6' : Below Y2.heap.size Y2 w6:=hr6;have hbt:=Zc hr6' hblY.out;obtain ⟨f0,f1,f2,f3,g0',g1',g2',g3'⟩:=hbt.four;obtain ⟨W7,hW7,p7,hK7,s7⟩:=Zaf bn bA bk bc bm bB bj bd hbt;have hU7:=Zb (hU.keptN hK7 hbt (Zao _ _ _ _ _ _ _ _));have hOwn7:=Zb ((hO2'.out.kept hr6').keptG hbt (Zao _ _ _ _ _ _ _ _) (fun e=>by have h8:=hO2'.out.row_ge gl e;omega) hK7);have hK8 : Hid (Kept (fun g=>g = gl) W2 W7):=Zb ((hKY2.out.below hr6').trans hK7);replace p7:=Zb p7;clear hK7 hU hT;refine Zp (i:=17) rfl (by kernel_rfl) (by kernel_rfl) (fun K hK=>?_);go_simp;(try rw [hW7]);refine hK.out _ _ ?_;clear hK K
       try simp only [Act.put,putL_a,putL_z,putL_s]
       refine Zl (by kernel_rfl) ?_ _;refine OnlyNormal.normal ?_;clear hW7 f0 f1 f2 f3 g0' g1' g2' g3' hbt hSv1 hxs hr1 hr2 hr5 hr6 hr6' hbY hBY hX0
       have hU8 : Hid (Fr W7 bn bA bk bc bm bB bj bd (Zk AQ (j + 1) i i)):=Zb (by
        rw [Zjb hF.out.sym hki (Nat.le_refl _) hin (hpos.out.ne hki)]
        exact hU7.out)
       have hO9 : Hid (OwnF 91 W7 W2.heap.size (.slice (some ⟨go,oo,none⟩) (j + 1) cp) (Zf7 AQ i (j + 1))):=Zb (hOwn7.out);clear hU7;go_wp2_with fail
       go_roundg (i - (j + 1))
       case measure=>omega
       case rel=>exact ⟨j + 1,_,_,_,_,_,_,_,_,by omega,by go_num,hO9.out,p7.out,hU8,hK8.out⟩
      | succ t3 =>
       obtain rfl : t3 = k - (j + 1):=by omega
       have hjk : j < k:=by omega
       have t3 : decide ((j : Int) < (k : Int)) = true:=decide_eq_true (by omega)
       have bjk : (j : Int) < (k : Int):=by omega
       have bji : (j : Int) < (i : Int):=by omega
       have bki2 : (k : Int) < (i : Int):=by omega
       obtain ⟨go,oo,on_,oA,ok,oc,om,oB,oj,od,rfl,⟨o0,o1,o2,o3⟩,hO⟩:=(hFo.out.below hBj.out).at_ hjk;obtain ⟨g1,o1',A',n',c',rfl,ck,hRk⟩:=(hM1.out.below hBrj.out).at_ hki;rw [Zjq hki] at hRk
       have hnk : n' = k:=by rw [<- hRk.len,Zd6]
       rw [hnk] at hRk ck;clear hnk n';have hrc:=hRk.cap;unfold maxLen at hrc;obtain ⟨gq,oq,qn,qA,qk,qc,qm,qB,qj,qd,rfl,⟨q0,q1,q2,q3⟩,hQ⟩:=hRk.at_ hjk;obtain ⟨gd,od',dn,dA,dk,dc,dm,dB,dj,dd,rfl,⟨d0,d1,d2,d3⟩,hD⟩:=(hL2.out.below hBrj.out).at_ (show j < i by omega);rw [Zia hjk] at hO hQ;rw [Zln (show j < i by omega)] at hD;replace hO:=Zb hO;replace hQ:=Zb hQ;replace hD:=Zb hD;clear hRk;go_wp2_with fail;obtain ⟨X0,hX0⟩ : ∃ X,wj.drew = X:=⟨_,rfl⟩
       have hr1 : Below wj.heap.size wj X0:=by rw [<- hX0];exact Zj (Below.refl _ _) 1
       have hSv1 : Hid (∀ wx,Below wj.heap.size wj wx -> wx.cell? ⟨gs,0,none⟩ = some (.bool sn) /\ wx.cell? ⟨gs,1,none⟩ = some (.slice sA sk sc) /\ wx.cell? ⟨gs,2,none⟩ = some (.bool sm) /\ wx.cell? ⟨gs,3,none⟩ = some (.slice sB sj sd) /\ wx.cell? ⟨go,oo + j * 4,none⟩ = some (.bool on_) /\ wx.cell? ⟨go,oo + j * 4 + 1,none⟩ = some (.slice oA ok oc) /\ wx.cell? ⟨go,oo + j * 4 + 2,none⟩ = some (.bool om) /\ wx.cell? ⟨go,oo + j * 4 + 3,none⟩ = some (.slice oB oj od) /\ wx.cell? ⟨gx,0,none⟩ = some (.slice (some ⟨g1,o1',none⟩) i c1) /\ wx.cell? ⟨g1,o1' + k,none⟩ = some (.slice (some ⟨gq,oq,none⟩) k c') /\ wx.cell? ⟨gq,oq + j * 4,none⟩ = some (.bool qn) /\ wx.cell? ⟨gq,oq + j * 4 + 1,none⟩ = some (.slice qA qk qc) /\ wx.cell? ⟨gq,oq + j * 4 + 2,none⟩ = some (.bool qm) /\ wx.cell? ⟨gq,oq + j * 4 + 3,none⟩ = some (.slice qB qj qd) /\ wx.cell? ⟨gx,1,none⟩ = some (.slice (some ⟨gd,od',none⟩) i c2) /\ wx.cell? ⟨gd,od' + j * 4,none⟩ = some (.bool dn) /\ wx.cell? ⟨gd,od' + j * 4 + 1,none⟩ = some (.slice dA dk dc) /\ wx.cell? ⟨gd,od' + j * 4 + 2,none⟩ = some (.bool dm) /\ wx.cell? ⟨gd,od' + j * 4 + 3,none⟩ = some (.slice dB dj dd)):=Zb (fun wx hbx=>⟨Za hbx s0,Za hbx s1,Za hbx s2,Za hbx s3,Za hbx o0,Za hbx o1,Za hbx o2,Za hbx o3,Za hbx xj0,Za hbx ck,Za hbx q0,Za hbx q1,Za hbx q2,Za hbx q3,Za hbx xj1,Za hbx d0,Za hbx d1,Za hbx d2,Za hbx d3⟩);refine wp_heldS [21] hmx hSv1 (by rw [hX0];exact hr1) (fun hxs=>?_);rw [hX0]
       refine Zu3 18 [0,1,2,3,4,5,6,7,8,9,10,11,12,13,14,15,16,17] rfl (by kernel_rfl) (hSv1.out _ hr1) ?_
       iterate 18 (refine tk1 (v:=?_) rfl (Or.inl ⟨by kernel_rfl,?_⟩) ?_;rotate_left;(· intro W2 hSw;(try dsimp only at hSw);go_simp;try with_reducible rfl);try simp only [Act.put,putL_a,putL_z,putL_s,putG_a,putG_s,putG_z])
       refine tk0 ?_;obtain ⟨Y1,hY1⟩ : ∃ Y,X0.alloc (.cells #[.bool qn,.slice qA qk qc,.bool qm,.slice qB qj qd,.bool dn,.slice dA dk dc,.bool dm,.slice dB dj dd] 91) = Y:=⟨_,rfl⟩;obtain ⟨ga1,hga1⟩ : ∃ g,X0.heap.size = g:=⟨_,rfl⟩
       have hBY : Below X0.heap.size X0 Y1:=by rw [<- hY1];exact (Below.refl _ _).alloc (Nat.le_refl _) _
       have hbY : Blk Y1 ga1 91 #[.bool qn,.slice qA qk qc,.bool qm,.slice qB qj qd,.bool dn,.slice dA dk dc,.bool dm,.slice dB dj dd]:=by rw [<- hY1,<- hga1];exact Blk.new _ _ _
       have hr2 : Below wj.heap.size wj Y1:=hr1.trans (hBY.mono hr1.size);refine Ze (i:=18) rfl (by kernel_rfl) (fun K hK=>?_);go_simp;(try rw [hY1]);(try rw [hga1]);refine hK.out _ _ (fun _=>hSv1.out _ hr2) ?_;clear hK K hY1 hga1
       try simp only [Act.put,putL_a,putL_z,putL_s]
       refine Ze (i:=19) rfl (by kernel_rfl) (fun K hK=>?_);go_simp;refine (Zfu on_ oA ok oc om oB oj od (lQ AQ i j) (some ⟨ga1,0,none⟩) 2 2 [lQ AQ k j,dQ AQ j] Y1 (hO.out.below hr2) (FL.pair2 hbY (hQ.out.below hr2) (hD.out.below hr2)) (by omega) (Zkl hF.out hin hki hjk hpos.out).1 (Zkl hF.out hin hki hjk hpos.out).2).mono ?_;rintro e w5 ⟨hb5,an,aA,ak,ac,am,aB,aj,ad,rfl,hT⟩;have hr5:=hr2.trans (hb5.mono hr2.size);refine hK.out _ _ (fun _=>hSv1.out _ hr5) ?_;clear hK K
       try simp only [Act.put,putL_a,putL_z,putL_s]
       refine Ze (i:=20) rfl (by kernel_rfl) (fun K hK=>?_);go_simp;refine (Zhh sn sm an am sA sB aA aB sk sc sj sd ak ac aj ad _ _ w5 (hs.out.below hr5) hT (Zsw hF.out hin hki hjk hpos.out).1 (Zsw hF.out hin hki hjk hpos.out).2).mono ?_;rintro e w6 ⟨hb6,bn,bA,bk,bc,bm,bB,bj,bd,rfl,hU⟩;have hr6:=hr5.trans (hb6.mono hr5.size);refine hK.out _ _ (fun _=>hSv1.out _ hr6) ?_;clear hK K
       try simp only [Act.put,putL_a,putL_z,putL_s]
       have hr6' : Below wj.heap.size wj w6:=hr6;have hbt:=Zc hr6' hbs;obtain ⟨f0,f1,f2,f3,g0',g1',g2',g3'⟩:=hbt.four;obtain ⟨W7,hW7,p7,hK7,s7⟩:=Zaf bn bA bk bc bm bB bj bd hbt;have hU7:=Zb (hU.keptN hK7 hbt (Zao _ _ _ _ _ _ _ _));have hK8 : Hid (Kept (fun g=>g = gs) W4 W7):=Zb ((hK5.below hr6').trans hK7);replace p7:=Zb p7;clear hK7 hU hT;refine Zp (i:=21) rfl (by kernel_rfl) (by kernel_rfl) (fun K hK=>?_);go_simp;(try rw [hW7]);refine hK.out _ _ ?_;clear hK K
       try simp only [Act.put,putL_a,putL_z,putL_s]
       refine Zl (by kernel_rfl) ?_ _;refine OnlyNormal.normal ?_;clear hW7 f0 f1 f2 f3 g0' g1' g2' g3' hbt hSv1 hxs hr1 hr2 hr5 hr6 hr6' hbY hBY hX0
       have hU8 : Hid (Fr W7 bn bA bk bc bm bB bj bd (Zk AQ (j + 1) i k)):=Zb (by
        rw [Zjb hF.out.sym hjk (by omega) hin (hpos.out.ne (by omega))]
        exact hU7.out)
       clear hU7;go_wp2_with fail
       go_roundg (k - (j + 1))
       case measure=>omega
       case rel=>exact ⟨j + 1,_,_,_,_,_,_,_,_,by omega,by go_num,p7.out,hU8,hK8.out⟩
theorem Zlf {x y : Int} {na nb : Bool} (ha : na = decide (x < 0)) (hb : nb = decide (y < 0)) : Zec na nb (digits x.natAbs) (digits y.natAbs) = decide (x = y):=by
 unfold Zec;rw [Zb5,ha,hb]
 by_cases h : x = y
 ·subst h;simp [Zbv]
 ·rw [decide_eq_false h]
  unfold Zbv
  by_cases h1 : (decide (x < 0) == decide (y < 0)) = true
  ·have : x.natAbs ≠ y.natAbs:=by
     intro e;rw [beq_iff_eq,decide_eq_decide] at h1;omega
   rcases Nat.lt_or_gt_of_ne this with h2 | h2
   ·rw [if_pos (by omega)];simp
   ·rw [if_neg (by omega),if_pos (by omega)];simp
  ·rw [Bool.not_eq_true] at h1;rw [h1];rfl
def Fz (w : World) (na : Bool) (A : Option Addr) (n c : Nat) (nb : Bool) (B : Option Addr) (m d : Nat) (q : Int × Int) : Prop:=Wd w na A n c q.1 /\ Wd w nb B m d q.2
theorem Fz.below {w w' : World} {na : Bool} {A : Option Addr} {n c : Nat} {nb : Bool} {B : Option Addr} {m d : Nat} {r : Int × Int} (h : Fz w na A n c nb B m d r) (hb : Below w.heap.size w w') : Fz w' na A n c nb B m d r:=⟨h.1.below hb,h.2.below hb⟩
def prQ (r : Rat) : Int × Int:=(r.num,(r.den : Nat))
theorem Fr.fz {w : World} {na : Bool} {A : Option Addr} {n c : Nat} {nb : Bool} {B : Option Addr} {m d : Nat} {r : Rat} (h : Fr w na A n c nb B m d r) : Fz w na A n c nb B m d (prQ r):=h
theorem Zsf (na nb na' nb' : Bool) (A B A' B' : Option Addr) (n c m d n' c' m' d' : Nat) (a b : Int × Int) (w : World) (ha : Fz w na A n c nb B m d a) (hb : Fz w na' A' n' c' nb' B' m' d' b) (s : Bool) (hs : decide (a = b) = s) :
    Calls Tryz.prog 16 #[.agg #[.bool na,.slice A n c,.bool nb,.slice B m d],.agg #[.bool na',.slice A' n' c',.bool nb',.slice B' m' d']] w fun e w'=>e = .returned (.bool s) /\ Below w.heap.size w w':=by
 obtain ⟨W0,hW0,hB0,⟨q0,q1⟩,s0⟩:=Zd4 w 29 #[.bool na,.slice A n c,.bool nb,.slice B m d] 29 #[.bool na',.slice A' n' c',.bool nb',.slice B' m' d'];have hA:=Zb (ha.below hB0);have hD:=Zb (hb.below hB0);have e1:=Zb (Zlf ha.1.1 hb.1.1);have e2:=Zb (Zlf ha.2.1 hb.2.1);clear ha hb;obtain ⟨x,hx⟩ : ∃ x,decide (a.1 = b.1) = x:=⟨_,rfl⟩;obtain ⟨y,hy⟩ : ∃ y,decide (a.2 = b.2) = y:=⟨_,rfl⟩
 have hsx : s = (x && y):=by
  rw [<- hs,<- hx,<- hy,Bool.eq_iff_iff];simp only [decide_eq_true_eq,Bool.and_eq_true]
  constructor
  ·rintro rfl;exact ⟨rfl,rfl⟩
  ·rintro ⟨h1,h2⟩;exact Prod.ext h1 h2
 subst hsx;rw [hx] at e1;rw [hy] at e2;clear hs hx hy;obtain ⟨a0,a1,a2,a3,-⟩:=q0.four;obtain ⟨b0,b1,b2,b3,-⟩:=q1.four;have hq:=Zb (And.intro q0 q1);clear q0 q1;go_enter Tryz.func16,Tryz.ntmps16;go_wp2_with fail;refine (Zdj na na' A A' n c n' c' _ _ W0 hA.out.1.lim hD.out.1.lim).mono ?_;rw [e1.out];rintro e w1 ⟨rfl,hb1⟩;have hB1 : Below w.heap.size w w1:=hB0.trans (hb1.mono hB0.size);replace hA:=Zb (hA.out.below hb1);replace hD:=Zb (hD.out.below hb1);obtain ⟨q0,q1⟩:=hq.out;replace q0:=Zc hb1 q0;replace q1:=Zc hb1 q1;clear hW0 hb1 a0 a1 a2 a3 b0 b1 b2 b3 hq hB0;obtain ⟨a0,a1,a2,a3,-⟩:=q0.four;obtain ⟨b0,b1,b2,b3,-⟩:=q1.four;clear q0 q1
 cases x
 ·go_wp2_with fail
  go_ret;exact ⟨rfl,hB1⟩
 ·go_wp2_with fail
  refine (Zdj nb nb' B B' m d m' d' _ _ w1 hA.out.2.lim hD.out.2.lim).mono ?_;rw [e2.out];rintro e w2 ⟨rfl,hb2⟩;have hB2 : Below w.heap.size w w2:=hB1.trans (hb2.mono hB1.size);go_wp2_with fail;go_ret;exact ⟨by simp,hB2⟩
theorem prQ_inj {a b : Rat} : prQ a = prQ b ↔ a = b:=by
 constructor
 ·intro h
  have h1:=congrArg Prod.fst h;have h2:=congrArg Prod.snd h;simp only [prQ] at h1 h2;exact Rat.ext h1 (by omega)
 ·rintro rfl;rfl
theorem Zgc (na nb na' nb' : Bool) (A B A' B' : Option Addr) (n c m d n' c' m' d' : Nat) (a b : Rat) (w : World) (ha : Fr w na A n c nb B m d a) (hb : Fr w na' A' n' c' nb' B' m' d' b) (s : Bool) (hs : decide (a = b) = s) :
    Calls Tryz.prog 16 #[.agg #[.bool na,.slice A n c,.bool nb,.slice B m d],.agg #[.bool na',.slice A' n' c',.bool nb',.slice B' m' d']] w fun e w'=>e = .returned (.bool s) /\ Below w.heap.size w w':=
 Zsf na nb na' nb' A B A' B' n c m d n' c' m' d' (prQ a) (prQ b) w ha.fz hb.fz s (by rw [<- hs];exact decide_eq_decide.2 prQ_inj)
def Zj1 (a b : Rat) : Int:=if a < b then -1 else if b < a then 1 else 0
theorem Zmy (a b : Rat) : Zbv (a.num * b.den) (b.num * a.den) = Zj1 a b:=by
 unfold Zbv Zj1;simp only [Rat.lt_iff]
theorem Ztx (na nb na' nb' : Bool) (A B A' B' : Option Addr) (n c m d n' c' m' d' : Nat) (a b : Rat) (w : World) (ha : Fr w na A n c nb B m d a) (hb : Fr w na' A' n' c' nb' B' m' d' b) (sa : Sm a) (sb : Sm b) :
    Calls Tryz.prog 27 #[.agg #[.bool na,.slice A n c,.bool nb,.slice B m d],.agg #[.bool na',.slice A' n' c',.bool nb',.slice B' m' d']] w fun e w'=>e = .returned (.tuple #[.int .i64 (Zj1 a b),.int .i64 0]) /\ Below w.heap.size w w':=by
 rw [<- Zmy];have h1:=Zb (Zaj sa.1 sb.dn);have h2:=Zb (Zaj sb.1 sa.dn);obtain ⟨W0,hW0,hB0,⟨q0,q1⟩,s0⟩:=Zd4 w 29 #[.bool na,.slice A n c,.bool nb,.slice B m d] 29 #[.bool na',.slice A' n' c',.bool nb',.slice B' m' d'];have hA:=Zb (ha.below hB0);have hD:=Zb (hb.below hB0);clear ha hb sa sb
 generalize hX : a.num * ((b.den : Nat) : Int) = X at *
 generalize hY : b.num * ((a.den : Nat) : Int) = Y at *
 replace hX:=Zb hX;replace hY:=Zb hY;obtain ⟨a0,a1,a2,a3,-⟩:=q0.four;obtain ⟨b0,b1,b2,b3,-⟩:=q1.four;have hq:=Zb (And.intro q0 q1);clear q0 q1;go_enter Tryz.func27,Tryz.ntmps27;go_wp2_with fail;refine (Zrg na nb na' nb' A B A' B' n c m d n' c' m' d' a b W0 hA.out hD.out).mono ?_;rintro e w1 ⟨rfl,hb1⟩;have hB1 : Below w.heap.size w w1:=hB0.trans (hb1.mono hB0.size);replace hA:=Zb (hA.out.below hb1);replace hD:=Zb (hD.out.below hb1);obtain ⟨q0,q1⟩:=hq.out;replace q0:=Zc hb1 q0;replace q1:=Zc hb1 q1;clear hW0 hb1 a0 a1 a2 a3 b0 b1 b2 b3 hq hB0;obtain ⟨a0,a1,a2,a3,-⟩:=q0.four;obtain ⟨b0,b1,b2,b3,-⟩:=q1.four;have hq:=Zb (And.intro q0 q1);clear q0 q1;go_wp2_with fail;have hM:=Zc0 na nb' A B' n c m' d' a.num b.den w1 hA.out.1 hD.out.2;rw [hX.out] at hM;refine hM.mono ?_;clear hM;rintro e w2 ⟨hb2,n1,P1,k1,c1,code,rfl,hR⟩;have hP1:=Zb (hR.small h1.out);have hcode:=hR.code0 h1.out;subst hcode;have hC2 : Below w.heap.size w w2:=hB1.trans (hb2.mono hB1.size);replace hA:=Zb (hA.out.below hb2);replace hD:=Zb (hD.out.below hb2);obtain ⟨q0,q1⟩:=hq.out;replace q0:=Zc hb2 q0;replace q1:=Zc hb2 q1;clear hb2 a0 a1 a2 a3 b0 b1 b2 b3 hq hB1 hR h1 hX;obtain ⟨W2,hW2,hB2,r1,kW,kB,t2⟩:=Zx 27 #[.bool n1,.slice P1 k1 c1] hC2 hC2.size;replace q0:=kB _ _ _ q0;replace q1:=kB _ _ _ q1;replace hA:=Zb (hA.out.keep kW);replace hD:=Zb (hD.out.keep kW);replace hP1:=Zb (kW _ _ _ _ _ hP1.out);clear kW kB hC2;obtain ⟨a0,a1,a2,a3,-⟩:=q0.four;obtain ⟨b0,b1,b2,b3,-⟩:=q1.four;clear q0 q1;replace r1:=Zb r1
 go_wp2_with fail;have hM:=Zc0 na' nb A' B n' c' m d b.num a.den W2 hD.out.1 hA.out.2;rw [hY.out] at hM;refine hM.mono ?_;clear hM;rintro e w3 ⟨hb3,n2,P2,k2,c2,code,rfl,hR⟩;have hP2:=Zb (hR.small h2.out);have hcode:=hR.code0 h2.out;subst hcode;have hC3 : Below w.heap.size w w3:=hB2.trans (hb3.mono hB2.size);replace r1:=Zc hb3 r1.out;replace hP1:=Zb (hP1.out.below hb3);clear hb3 a0 a1 a2 a3 b0 b1 b2 b3 hB2 hR h2 hY hA hD hW2;obtain ⟨W3,hW3,hB3,r2,kW,kB,t3⟩:=Zx 27 #[.bool n2,.slice P2 k2 c2] hC3 hC3.size;replace r1:=kB _ _ _ r1;replace hP1:=Zb (kW _ _ _ _ _ hP1.out);replace hP2:=Zb (kW _ _ _ _ _ hP2.out);clear kW kB hC3;obtain ⟨x0,x1,-⟩:=r1.two;obtain ⟨y0,y1,-⟩:=r2.two;clear r1 r2;go_wp2_with fail;refine (Zmb n1 n2 P1 P2 k1 c1 k2 c2 X Y W3 hP1.out hP2.out).mono ?_;rintro e w4 ⟨rfl,hb4⟩;have hB4 : Below w.heap.size w w4:=hB3.trans (hb4.mono hB3.size);go_wp2_with fail
 go_ret2
 exact ⟨rfl,hB4⟩
end Go.Proofs.YtpehacgjclkhmaaGreat
