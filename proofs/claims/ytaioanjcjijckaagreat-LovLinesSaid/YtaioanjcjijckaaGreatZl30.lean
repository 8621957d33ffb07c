/- Elimination with fractions, and without them (each element -/
import Derived.Test.YtaioanjcjijckaaGreatZl29
set_option linter.unusedSimpArgs false
set_option linter.unusedVariables false
namespace Go.Proofs.YtaioanjcjijckaaGreat
def entZ (Z : List (List Int)) (i j : Nat) : Int:=(Z[i]?.getD [])[j]?.getD 0
def Zk (R : List (List Rat)) (i j : Nat) : Rat:=(R[i]?.getD [])[j]?.getD 0
def Zj0 (p row : List Rat) (col : Nat) : List Rat:=(List.range row.length).map fun k=>if k < col then row[k]?.getD 0 else row[k]?.getD 0 - row[col]?.getD 0 / p[col]?.getD 0 * p[k]?.getD 0
def Zbp (R : List (List Rat)) (r col : Nat) : List (List Rat):=(List.range R.length).map fun i=>if i <= r then R[i]?.getD [] else Zj0 (R[r]?.getD []) (R[i]?.getD []) col
def BndQ (B : Nat) (q : Rat) : Prop:=∃ z : Int,q = (z : Rat) /\ z.natAbs <= B
theorem BndQ.add {B C : Nat} {p q : Rat} (h : BndQ B p) (k : BndQ C q) : BndQ (B + C) (p + q):=by
 obtain ⟨a,rfl,h1⟩:=h;obtain ⟨b,rfl,h2⟩:=k;exact ⟨a + b,by rw [Rat.intCast_add],by omega⟩
theorem BndQ.mul {B C : Nat} {p q : Rat} (h : BndQ B p) (k : BndQ C q) : BndQ (B * C) (p * q):=by
 obtain ⟨a,rfl,h1⟩:=h;obtain ⟨b,rfl,h2⟩:=k;exact ⟨a * b,by rw [Rat.intCast_mul],by rw [Int.natAbs_mul];exact Nat.mul_le_mul h1 h2⟩
def Zfe (B : Nat) : Nat -> Nat
 | 0=>1
 | n + 1=>(n + 1) * (B * Zfe B n)
theorem Ztk {B n : Nat} {f : Nat -> Rat} (h : ∀ i,i < n -> BndQ B (f i)) : BndQ (n * B) (Zdi n f):=by
 induction n with
 | zero=>exact ⟨0,rfl,by simp⟩
 | succ n ih=>rw [Nat.succ_mul];exact (ih fun i hi=>h i (by omega)).add (h n (by omega))
theorem Zsq (i : Nat) : BndQ 1 (sgnQ i):=by unfold sgnQ;split;exact ⟨1,rfl,by decide⟩;exact ⟨-1,rfl,by decide⟩
theorem Zsj {B n : Nat} {M : Nat -> Nat -> Rat} (h : ∀ a b,a < n -> b < n -> BndQ B (M a b)) : BndQ (Zfe B n) (Zck n M):=by
 induction n generalizing M with
 | zero=>exact ⟨1,rfl,by simp [Zfe]⟩
 | succ n ih =>
  simp only [Zck,Zfe]
  refine Ztk fun i hi=>?_
  have:=((Zsq i).mul (h i 0 hi (by omega))).mul (ih (M:=fun a b=>M (Zbi i a) (b + 1)) fun a b ha hb=>h _ _ (Znf ha) (by omega))
  rwa [Nat.one_mul] at this
theorem Zk2 {B m n : Nat} (hB : 1 <= B) (h : m <= n) : Zfe B m <= Zfe B n:=by
 induction n with
 | zero=>obtain rfl : m = 0:=by omega
         exact Nat.le_refl _
 | succ n ih =>
  by_cases hm : m = n + 1
  ·rw [hm];exact Nat.le_refl _
  ·refine Nat.le_trans (ih (by omega)) ?_
   simp only [Zfe]
   calc Zfe B n = 1 * (1 * Zfe B n):=by simp
    _ <= (n + 1) * (B * Zfe B n):=Nat.mul_le_mul (by omega) (Nat.mul_le_mul hB (Nat.le_refl _))
structure EIR (B S n m col r : Nat) (R : List (List Rat)) (pc : Nat -> Nat) (G : Nat -> Nat -> Rat) (s : Nat -> Rat) : Prop where
 len : R.length = n
 row : ∀ i,i < n -> (R[i]?.getD []).length = m
 pcl : ∀ l,l < r -> pc l < col
 inc : ∀ l l',l < l' -> l' < r -> pc l < pc l'
 low : ∀ i j,r <= i -> i < n -> j < col -> Zk R i j = 0
 bef : ∀ l j,l < r -> j < pc l -> Zk R l j = 0
 piv : ∀ l,l < r -> Zk R l (pc l) ≠ 0
 rn : r <= n
 cm : col <= m
 sB : ∀ i,i < n -> BndQ S (s i) /\ s i ≠ 0
 gB : ∀ i j,i < n -> BndQ B (G i j)
 det : ∀ (N : Nat) (f σ : Nat -> Nat),(∀ a,a < N -> σ a < n) -> (∀ a,a < r -> σ a = a) -> (∀ a,r <= a -> r <= σ a) -> Zck N (fun a b=>s (σ a) * Zk R (σ a) (f b)) = Zck N (fun a b=>G (σ a) (f b))
def Zid (R : List (List Rat)) (pc : Nat -> Nat) (s : Nat -> Rat) (l : Nat) : Rat:=Zde l (fun i=>s i * Zk R i (pc i))
section
variable {B S n m col r : Nat} {R : List (List Rat)} {pc : Nat -> Nat} {G : Nat -> Nat -> Rat} {s : Nat -> Rat}
theorem EIR.minor_eq (h : EIR B S n m col r R pc G s) {i : Nat} (hi : i < n) (j : Nat) :
    Zid R pc s (min i r) * (s i * Zk R i j) = Zck (min i r + 1) (fun a b=>G (if a < min i r then a else i) (if b < min i r then pc b else j)):=by
 obtain ⟨q,hq⟩ : ∃ q,q = min i r:=⟨_,rfl⟩;rw [<- hq];have hrn:=h.rn
 have hd:=h.det (q + 1) (fun b=>if b < q then pc b else j) (fun a=>if a < r then a else if i < r then a else i)
  (fun a ha=>by
   by_cases h1 : a < r
   ·rw [if_pos h1];omega
   ·rw [if_neg h1];by_cases h2 : i < r
    ·omega
    ·rw [if_neg h2];exact hi) (fun a ha=>by rw [if_pos ha]) (fun a ha=>by
   rw [if_neg (by omega)]
   by_cases h2 : i < r
   ·rw [if_pos h2];exact ha
   ·rw [if_neg h2];omega)
 have hσ : ∀ a,a < q + 1 -> (if a < r then a else if i < r then a else i) = if a < q then a else i:=by
  intro a ha
  by_cases h1 : a < q
  ·rw [if_pos h1,if_pos (by omega)]
  ·rw [if_neg h1]
   by_cases h2 : i < r
   ·rw [if_pos (by omega)];omega
   ·rw [if_neg (by omega),if_neg h2]
 rw [<- Zeq (M:=fun a b=>G (if a < r then a else if i < r then a else i) (if b < q then pc b else j)) (N:=fun a b=>G (if a < q then a else i) (if b < q then pc b else j)) (fun a b ha hb=>by rw [hσ a ha])];rw [<- hd,Ztq]
 ·rw [Zde]
  unfold Zid
  congr 1
  ·refine Zhv fun a ha=>?_
   rw [if_pos ha,if_pos (by omega)]
  ·rw [if_neg (Nat.lt_irrefl q)]
   have:=hσ q (Nat.lt_succ_self q);rw [if_neg (Nat.lt_irrefl q)] at this;rw [this]
 ·intro a b ha hb
  rw [if_pos (by omega : b < q),hσ a ha]
  by_cases h1 : a < q
  ·rw [if_pos h1,h.bef a (pc b) (by omega) (h.inc b a hb (by omega))];grind
  ·rw [if_neg h1]
   by_cases h2 : i < r
   ·rw [h.bef i (pc b) h2 (h.inc b i (by omega) h2)];grind
   ·rw [h.low i (pc b) (by omega) hi (h.pcl b (by omega))];grind
theorem EIR.minor (h : EIR B S n m col r R pc G s) {i : Nat} (hi : i < n) (j : Nat) : BndQ (Zfe B (min i r + 1)) (Zid R pc s (min i r) * (s i * Zk R i j)):=by
 rw [h.minor_eq hi j]
 refine Zsj fun a b ha hb=>h.gB _ _ ?_
 split <;> omega
theorem EIR.piv_ne (h : EIR B S n m col r R pc G s) {l : Nat} (hl : l <= r) : Zid R pc s l ≠ 0:=by
 induction l with
 | zero=>unfold Zid Zde;grind
 | succ l ih =>
  have h1:=ih (by omega);have h2:=h.piv l (by omega);have h3:=(h.sB l (by have:=h.rn;omega)).2;unfold Zid at h1 ⊢;rw [Zde];intro h0
  rcases Rat.mul_eq_zero.1 h0 with h0 | h0
  ·exact h1 h0
  ·rcases Rat.mul_eq_zero.1 h0 with h0 | h0
   ·exact h3 h0
   ·exact h2 h0
theorem EIR.pivL_bnd (h : EIR B S n m col r R pc G s) {l : Nat} (hl : l <= r) : BndQ (Zfe B l) (Zid R pc s l):=by
 cases l with
 | zero=>exact ⟨1,rfl,by simp [Zfe]⟩
 | succ l =>
  have h1:=h.minor (i:=l) (by have:=h.rn;omega) (pc l);rw [show min l r = l by omega] at h1;unfold Zid at h1 ⊢;rw [Zde];exact h1
theorem numQ_le (a b : Int) (h : b ≠ 0) : (Rat.divInt a b).num.natAbs <= a.natAbs:=by
 rw [Rat.num_divInt,Int.natAbs_ediv_of_dvd]
 ·refine Nat.le_trans (Nat.div_le_self _ _) ?_
  rw [Int.natAbs_mul]
  rcases Int.lt_or_gt_of_ne h with g | g
  ·rw [Int.sign_eq_neg_one_of_neg g];simp
  ·rw [Int.sign_eq_one_of_pos g];simp
 ·exact Int.dvd_trans (Int.gcd_dvd_right _ _) (Int.dvd_mul_left _ _)
theorem bnd_num {B C : Nat} {p q : Rat} (h : BndQ B (q * p)) (k : BndQ C q) (hq : q ≠ 0) : p.num.natAbs <= B /\ p.den <= C:=by
 obtain ⟨a,h1,h2⟩:=h;obtain ⟨b,h3,h4⟩:=k
 have hb : b ≠ 0:=by rintro rfl;rw [h3] at hq;exact hq rfl
 have hp : p = Rat.divInt a b:=by
  rw [Rat.divInt_eq_div,<- h1,h3]
  have : (b : Rat) ≠ 0:=by rw [<- h3];exact hq
  grind
 rw [hp]
 constructor
 ·exact Nat.le_trans (numQ_le a b hb) h2
 ·rw [Rat.den_divInt,if_neg hb]
  exact Nat.le_trans (Nat.div_le_self _ _) h4
theorem EIR.bound (h : EIR B S n m col r R pc G s) (hB : 1 <= B) {i : Nat} (hi : i < n) (j : Nat) : (Zk R i j).num.natAbs <= Zfe B n /\ (Zk R i j).den <= Zfe B n * S:=by
 have h1:=h.minor hi j;have h2:=h.pivL_bnd (l:=min i r) (by omega);have h3:=h.sB i hi;have h4:=h.piv_ne (l:=min i r) (by omega);rw [<- Rat.mul_assoc] at h1
 have h5:=bnd_num h1 (h2.mul h3.1) (fun h0=>by
  rcases Rat.mul_eq_zero.1 h0 with h0 | h0
  ·exact h4 h0
  ·exact h3.2 h0)
 have h6:=Zk2 hB (show min i r + 1 <= n by omega);have h7:=Zk2 hB (show min i r <= n by omega);exact ⟨by omega,Nat.le_trans h5.2 (Nat.mul_le_mul h7 (Nat.le_refl _))⟩
theorem Zih (hrow : ∀ i,i < R.length -> (R[i]?.getD []).length = m) (hlow : ∀ j,j < col -> Zk R r j = 0) (i j : Nat) (hi : i < R.length) (hr : r < R.length) :
    Zk (Zbp R r col) i j = if i <= r then Zk R i j else Zk R i j - Zk R i col / Zk R r col * Zk R r j:=by
 unfold Zbp;show ((List.map _ (List.range R.length))[i]?.getD [])[j]?.getD 0 = _;rw [List.getElem?_map,List.getElem?_range hi];simp only [Option.map_some,Option.getD_some]
 by_cases h1 : i <= r
 ·rw [if_pos h1,if_pos h1];rfl
 ·rw [if_neg h1,if_neg h1]
  unfold Zj0;rw [List.getElem?_map]
  by_cases hj : j < (R[i]?.getD []).length
  ·rw [List.getElem?_range hj]
   simp only [Option.map_some,Option.getD_some]
   by_cases hjc : j < col
   ·rw [if_pos hjc,hlow j hjc]
    show Zk R i j = _
    grind
   ·rw [if_neg hjc];rfl
  ·rw [List.getElem?_eq_none (l:=List.range _) (by simpa using hj)]
   simp only [Option.map_none,Option.getD_none]
   have e1 : Zk R i j = 0:=by unfold Zk;rw [List.getElem?_eq_none (by omega)];rfl
   have e2 : Zk R r j = 0:=by unfold Zk;rw [List.getElem?_eq_none (by rw [hrow i hi] at hj;rw [hrow r hr];omega)];rfl
   rw [e1,e2];grind
theorem Zem : (Zbp R r col).length = R.length:=by unfold Zbp;simp
theorem Zok (i : Nat) (hi : i < R.length) : ((Zbp R r col)[i]?.getD []).length = (R[i]?.getD []).length:=by
 unfold Zbp;rw [List.getElem?_map,List.getElem?_range hi];simp only [Option.map_some,Option.getD_some]
 split
 ·rfl
 ·unfold Zj0;simp
theorem EIR.clear (h : EIR B S n m col r R pc G s) (hc : col < m) (hr : r < n) (hp : Zk R r col ≠ 0) : EIR B S n m (col + 1) (r + 1) (Zbp R r col) (fun l=>if l = r then col else pc l) G s:=by
 have hl:=h.len
 have he : ∀ i j,i < n -> Zk (Zbp R r col) i j = if i <= r then Zk R i j else Zk R i j - Zk R i col / Zk R r col * Zk R r j:=
  fun i j hi=>Zih (m:=m) (fun i hi=>h.row i (by omega)) (fun j hj=>h.low r j (Nat.le_refl _) hr hj) i j (by omega) (by omega)
 refine ⟨by rw [Zem];exact hl,fun i hi=>by rw [Zok i (by omega)];exact h.row i hi,fun l hl'=>?_,fun l l' h1 h2=>?_,fun i j hi hn hj=>?_,fun l j hl' hj=>?_,fun l hl'=>?_,hr,hc,h.sB,h.gB,fun N f σ h1 h2 h3=>?_⟩
 ·split
  ·omega
  ·have:=h.pcl l (by omega);omega
 ·rw [if_neg (by omega : ¬ l = r)]
  split
  ·exact h.pcl l (by omega)
  ·exact h.inc l l' h1 (by omega)
 ·rw [he i j hn,if_neg (by omega)]
  by_cases hjc : j = col
  ·rw [hjc];grind
  ·rw [h.low i j (by omega) hn (by omega),h.low r j (Nat.le_refl _) hr (by omega)];grind
 ·rw [he l j (by omega),if_pos (by omega)]
  by_cases hlr : l = r
  ·rw [hlr];simp only [hlr,if_true] at hj
   exact h.low r j (Nat.le_refl _) hr hj
  ·simp only [if_neg hlr] at hj
   exact h.bef l j (by omega) hj
 ·rw [he l _ (by omega),if_pos (by omega)]
  by_cases hlr : l = r
  ·simp only [hlr,if_true];exact hp
  ·simp only [if_neg hlr];exact h.piv l (by omega)
 ·rw [<- h.det N f σ h1 (fun a ha=>h2 a (by omega)) (fun a ha=>by
    by_cases har : a = r
    ·rw [har,h2 r (by omega)];exact Nat.le_refl _
    ·have:=h3 a (by omega);omega)]
  by_cases hN : N <= r
  ·refine Zeq fun a b ha hb=>?_
   rw [he _ _ (h1 a ha),if_pos];rw [h2 a (by omega)];omega
  ·have hσr : σ r = r:=h2 r (by omega)
   rw [<- Zpa (fun a b=>s (σ a) * Zk R (σ a) (f b)) (l:=r) (n:=N) (by omega) (fun a=>if a <= r then 0 else - (s (σ a) * Zk R (σ a) col / (s r * Zk R r col)))]
   refine Zeq fun a b ha hb=>?_
   rw [he _ _ (h1 a ha)]
   by_cases har : a <= r
   ·rw [h2 a (by omega),if_pos har]
    simp only [if_pos har]
    split
    ·rfl
    ·grind
   ·have:=h3 a (by omega)
    rw [if_neg (by omega),if_neg (by omega),if_neg har,hσr];have hs:=(h.sB r hr).2
    grind
structure EIZ (n m r : Nat) (R : List (List Rat)) (pc : Nat -> Nat) (s : Nat -> Rat) (Z : List (List Int)) (last : Int) : Prop where
 len : Z.length = n
 row : ∀ i,i < n -> (Z[i]?.getD []).length = m
 last : (last : Rat) = Zid R pc s r
 ent : ∀ i j,i < n -> (entZ Z i j : Rat) = Zid R pc s (min i r) * (s i * Zk R i j)
end
def denTo (row : List Rat) : Nat -> Nat
 | 0=>1
 | k + 1=>denTo row k * ((row[k]?.getD 0).den / Nat.gcd (denTo row k) (row[k]?.getD 0).den)
def Zff (row : List Rat) : List Int:=row.map fun f=>f.num * ((denTo row row.length / f.den : Nat) : Int)
def Ze2 (R : List (List Rat)) : List (List Int):=R.map Zff
def denAt (R : List (List Rat)) (i : Nat) : Nat:=denTo (R[i]?.getD []) (R[i]?.getD []).length
theorem Zkh (row : List Rat) (k : Nat) : 0 < denTo row k:=by
 induction k with
 | zero=>exact Nat.one_pos
 | succ k ih =>
  refine Nat.mul_pos ih (Nat.div_pos (Nat.le_of_dvd (Rat.den_pos _) (Nat.gcd_dvd_right _ _)) (Nat.gcd_pos_of_pos_left _ ih))
theorem Zii (row : List Rat) (k : Nat) : denTo row k ∣ denTo row (k + 1) /\ (row[k]?.getD 0).den ∣ denTo row (k + 1):=by
 refine ⟨⟨_,rfl⟩,?_⟩;obtain ⟨c,hc⟩:=Nat.gcd_dvd_left (denTo row k) (row[k]?.getD 0).den;refine ⟨c,?_⟩;simp only [denTo];obtain ⟨d,hd⟩:=Nat.gcd_dvd_right (denTo row k) (row[k]?.getD 0).den;have hg : 0 < Nat.gcd (denTo row k) (row[k]?.getD 0).den:=Nat.gcd_pos_of_pos_left _ (Zkh row k)
 have e : (row[k]?.getD 0).den / Nat.gcd (denTo row k) (row[k]?.getD 0).den = d:=by
  rw [Nat.div_eq_iff_eq_mul_left hg (Nat.gcd_dvd_right _ _),Nat.mul_comm];exact hd
 rw [e]
 calc denTo row k * d = (Nat.gcd (denTo row k) (row[k]?.getD 0).den * c) * d:=by rw [<- hc]
  _ = (Nat.gcd (denTo row k) (row[k]?.getD 0).den * d) * c:=by rw [Nat.mul_assoc,Nat.mul_assoc,Nat.mul_comm c d]
  _ = (row[k]?.getD 0).den * c:=by rw [<- hd]
theorem Zk5 (row : List Rat) {j : Nat} : ∀ {k : Nat},j < k -> (row[j]?.getD 0).den ∣ denTo row k
 | 0,h=>by omega
 | k + 1,h=>by
  by_cases hj : j = k
  ·rw [hj];exact (Zii row k).2
  ·exact Nat.dvd_trans (Zk5 row (j:=j) (k:=k) (by omega)) (Zii row k).1
theorem Zsk (row : List Rat) {D : Nat} (h : ∀ j : Nat,(row[j]?.getD 0).den <= D) (k : Nat) : denTo row k <= D ^ k:=by
 induction k with
 | zero=>exact Nat.le_refl _
 | succ k ih =>
  rw [Nat.pow_succ];exact Nat.mul_le_mul ih (Nat.le_trans (Nat.div_le_self _ _) (h k))
theorem Zmc (row : List Rat) : (Zff row).length = row.length:=by unfold Zff;simp
theorem Zl4 (row : List Rat) (j : Nat) : (((Zff row)[j]?.getD 0 : Int) : Rat) = (denTo row row.length : Nat) * row[j]?.getD 0:=by
 unfold Zff;rw [List.getElem?_map]
 by_cases hj : j < row.length
 ·rw [List.getElem?_eq_getElem hj]
  simp only [Option.map_some,Option.getD_some];have hd:=Zk5 row hj;rw [List.getElem?_eq_getElem hj] at hd;simp only [Option.getD_some] at hd;obtain ⟨c,hc⟩:=hd;rw [hc,Nat.mul_div_cancel_left _ (Rat.den_pos _),Rat.intCast_mul,Rat.intCast_natCast,Rat.natCast_mul]
  have e0 : ((row[j].num : Int) : Rat) / ((row[j].den : Nat) : Rat) = row[j]:=by have:=Rat.num_divInt_den row[j];rw [Rat.divInt_eq_div,Rat.intCast_natCast] at this;exact this
  have e1 : ((row[j].den : Nat) : Rat) ≠ 0:=by
   intro h;have : row[j].den = 0:=by exact_mod_cast h
   have:=row[j].den_pos;omega
  have e2 : ((row[j].num : Int) : Rat) = row[j] * ((row[j].den : Nat) : Rat):=by rw [<- e0];grind
  rw [e2];grind
 ·rw [List.getElem?_eq_none (by omega)]
  simp only [Option.map_none,Option.getD_none];have : ((0 : Int) : Rat) = 0:=rfl;rw [this];grind
theorem Zgp (R : List (List Rat)) (i j : Nat) : ((entZ (Ze2 R) i j : Int) : Rat) = (denAt R i : Nat) * Zk R i j:=by
 unfold entZ Ze2 Zk denAt;rw [List.getElem?_map]
 cases h : R[i]? with
 | none=>simp only [Option.map_none,Option.getD_none,List.getElem?_nil];have : ((0 : Int) : Rat) = 0:=rfl
         rw [this];grind
 | some row=>simp only [Option.map_some,Option.getD_some];exact Zl4 row j
theorem Zo1 {B S n m : Nat} (R : List (List Rat)) (hl : R.length = n) (hrow : ∀ i,i < n -> (R[i]?.getD []).length = m) (hS : ∀ i,i < n -> denAt R i <= S) (hBd : ∀ i j,i < n -> (entZ (Ze2 R) i j).natAbs <= B) :
    EIR B S n m 0 0 R (fun _=>0) (fun i j=>(denAt R i : Nat) * Zk R i j) (fun i=>(denAt R i : Nat)) /\ EIZ n m 0 R (fun _=>0) (fun i=>(denAt R i : Nat)) (Ze2 R) 1:=by
 refine ⟨⟨hl,hrow,fun l h=>by omega,fun l l' _ h=>by omega,fun i j _ _ h=>by omega,fun l j h=>by omega,fun l h=>by omega,Nat.zero_le _,Nat.zero_le _,fun i hi=>⟨⟨(denAt R i : Nat),by rw [Rat.intCast_natCast],by rw [Int.natAbs_natCast];exact hS i hi⟩,fun h0=>?_⟩,fun i j hi=>⟨_,(Zgp R i j).symm,hBd i j hi⟩,fun N f σ _ _ _=>rfl⟩,⟨by unfold Ze2;simp [hl],fun i hi=>?_,rfl,fun i j hi=>?_⟩⟩
 ·have : denAt R i = 0:=by exact_mod_cast h0
  have:=Zkh (R[i]?.getD []) (R[i]?.getD []).length;unfold denAt at *;omega
 ·unfold Ze2
  rw [List.getElem?_map,List.getElem?_eq_getElem (by omega)];simp only [Option.map_some,Option.getD_some];rw [Zmc];have:=hrow i hi;rw [List.getElem?_eq_getElem (by omega)] at this;exact this
 ·rw [Zgp]
  have : Zid R (fun _=>0) (fun i=>((denAt R i : Nat) : Rat)) (min i 0) = 1:=by rw [show min i 0 = 0 by omega];rfl
  rw [this];grind
section
variable {B S n m : Nat}
end
section
variable {n : Nat} {F : (Nat -> Nat -> Rat) -> Rat}
end
open Go.RowKit
attribute [local go_sem] Zg
end Go.Proofs.YtaioanjcjijckaaGreat
