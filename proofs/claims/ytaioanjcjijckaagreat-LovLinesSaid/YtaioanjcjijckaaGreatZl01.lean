/- Limbs of 32 bits, the lowest one first: what a list of -/
import Derived.WalkKit
import Derived.WalkSpells
import Derived.WalkLawsBesides
import Derived.Lib.Hide
import Derived.Laws.OwnMore
import Derived.Deep.AppendLies
import Derived.Deep.Draws
import Derived.Laws.Rows
import Derived.Deep.OwnRows
import Derived.OwnWalk
import Derived.Handy
import Derived.IntWalk
import Derived.Test.YtaioanjcjijckaaGreatRows
import Derived.Maps.AppendAt
import Derived.RegionTactic
set_option maxRecDepth 100000
set_option maxHeartbeats 1000000
set_option linter.unusedSimpArgs false
set_option linter.unusedVariables false
namespace Go.Proofs.YtaioanjcjijckaaGreat
def val : List Nat -> Nat
 | []=>0
 | x :: l=>x + 4294967296 * val l
def Lt32 (l : List Nat) : Prop:=∀ x ∈ l,x < 4294967296
def digits (n : Nat) : List Nat:=if h : n = 0 then [] else n % 4294967296 :: digits (n / 4294967296)
termination_by n
decreasing_by omega
def canon : List Nat -> List Nat
 | []=>[]
 | x :: l=>match canon l with
  | []=>if x = 0 then [] else [x]
  | y :: m=>x :: y :: m
def pw (k : Nat) : Nat:=4294967296 ^ k
theorem Zbr : pw 0 = 1:=rfl
theorem Zai (k : Nat) : pw (k + 1) = 4294967296 * pw k:=by unfold pw;rw [Nat.pow_succ,Nat.mul_comm]
theorem Zen (a b : Nat) : pw (a + b) = pw a * pw b:=by unfold pw;rw [Nat.pow_add]
theorem Zdt (k : Nat) : 0 < pw k:=Nat.pow_pos (by decide)
theorem Zez {a b : Nat} (h : a <= b) : pw a <= pw b:=Nat.pow_le_pow_right (by decide) h
theorem Zf0 {a b : Nat} (h : a < b) : pw a < pw b:=Nat.pow_lt_pow_right (by decide) h
theorem Lt32.nil : Lt32 []:=fun _ h=>by cases h
theorem Lt32.cons {x : Nat} {l : List Nat} (h : x < 4294967296) (hl : Lt32 l) : Lt32 (x :: l):=fun y hy=>by
 rcases List.mem_cons.1 hy with rfl | hy
 ·exact h
 ·exact hl y hy
theorem Lt32.head {x : Nat} {l : List Nat} (h : Lt32 (x :: l)) : x < 4294967296:=h x (by simp)
theorem Lt32.tail {x : Nat} {l : List Nat} (h : Lt32 (x :: l)) : Lt32 l:=fun y hy=>h y (by simp [hy])
theorem Lt32.get {l : List Nat} (h : Lt32 l) (k : Nat) : l[k]?.getD 0 < 4294967296:=by
 rcases Nat.lt_or_ge k l.length with hk | hk
 ·rw [List.getElem?_eq_getElem hk];exact h _ (List.getElem_mem hk)
 ·rw [List.getElem?_eq_none hk];decide
theorem Lt32.take {l : List Nat} (h : Lt32 l) (k : Nat) : Lt32 (l.take k):=fun x hx=>h x (List.mem_of_mem_take hx)
theorem Lt32.drop {l : List Nat} (h : Lt32 l) (k : Nat) : Lt32 (l.drop k):=fun x hx=>h x (List.mem_of_mem_drop hx)
theorem Lt32.append {l m : List Nat} (h : Lt32 l) (h' : Lt32 m) : Lt32 (l ++ m):=fun x hx=>by
 rcases List.mem_append.1 hx with hx | hx
 ·exact h x hx
 ·exact h' x hx
theorem Lt32.set {l : List Nat} (h : Lt32 l) (k : Nat) {v : Nat} (hv : v < 4294967296) : Lt32 (l.set k v):=fun x hx=>by
 rcases List.mem_or_eq_of_mem_set hx with hx | rfl
 ·exact h x hx
 ·exact hv
theorem Lt32.replicate (n : Nat) : Lt32 (List.replicate n 0):=fun x hx=>by
 rw [(List.mem_replicate.1 hx).2];decide
theorem Zek (a b : List Nat) : val (a ++ b) = val a + pw a.length * val b:=by
 induction a with
 | nil=>simp [val,Zbr]
 | cons x l ih=>simp only [List.cons_append,val,ih,List.length_cons,Zai];grind
theorem Zdw {l : List Nat} (h : Lt32 l) : val l < pw l.length:=by
 induction l with
 | nil=>simp [val,Zbr]
 | cons x l ih=>have:=ih h.tail;have:=h.head;simp only [val,List.length_cons,Zai];omega
theorem Zcv (n : Nat) : val (List.replicate n 0) = 0:=by
 induction n with
 | zero=>rfl
 | succ n ih=>simp [List.replicate_succ,val,ih]
theorem Zfp {l : List Nat} {k : Nat} (hk : k < l.length) (v : Nat) : val (l.set k v) + pw k * (l[k]?.getD 0) = val l + pw k * v:=by
 induction l generalizing k with
 | nil=>simp at hk
 | cons x l ih =>
  cases k with
  | zero=>simp [val,Zbr];omega
  | succ k=>have:=ih (k:=k) (by simpa using hk);simp only [List.set_cons_succ,val,List.getElem?_cons_succ,Zai];grind
theorem Zv (l : List Nat) (k : Nat) : val (l.take (k + 1)) = val (l.take k) + pw k * (l[k]?.getD 0):=by
 induction l generalizing k with
 | nil=>simp [val]
 | cons x l ih =>
  cases k with
  | zero=>simp [val,Zbr]
  | succ k=>have:=ih k;simp only [List.take_succ_cons,val,List.getElem?_cons_succ,Zai];grind
theorem Zx {l : List Nat} {k : Nat} (h : l.length <= k) : val (l.take k) = val l:=by rw [List.take_of_length_le h]
theorem Z2 (l : List Nat) (k : Nat) (h : k <= l.length) : val l = val (l.take k) + pw k * val (l.drop k):=by
 have:=Zek (l.take k) (l.drop k);rw [List.take_append_drop,List.length_take,Nat.min_eq_left h] at this;exact this
theorem Zy : digits 0 = []:=by unfold digits;simp
theorem Za5 {n : Nat} (h : n ≠ 0) : digits n = n % 4294967296 :: digits (n / 4294967296):=by rw [digits];simp [h]
theorem Zf (n : Nat) : val (digits n) = n:=by
 induction n using Nat.strongRecOn with
 | _ n ih =>
  by_cases h : n = 0
  ·subst h;rw [Zy];rfl
  ·rw [Za5 h,val,ih _ (by omega)];omega
theorem Zb2 (n : Nat) : Lt32 (digits n):=by
 induction n using Nat.strongRecOn with
 | _ n ih =>
  by_cases h : n = 0
  ·subst h;rw [Zy];exact Lt32.nil
  ·rw [Za5 h];exact (ih _ (by omega)).cons (by omega)
theorem digits_eq_nil {n : Nat} : digits n = [] ↔ n = 0:=by
 constructor
 ·intro h;have:=Zf n;rw [h] at this;exact this.symm
 ·rintro rfl;exact Zy
theorem Ze0 (n : Nat) : (digits n).getLast? ≠ some 0:=by
 induction n using Nat.strongRecOn with
 | _ n ih =>
  by_cases h : n = 0
  ·subst h;rw [Zy];simp
  ·rw [Za5 h]
   have:=ih (n / 4294967296) (by omega)
   by_cases h' : n / 4294967296 = 0
   ·rw [h',Zy];simp;omega
   ·obtain ⟨y,m,hm⟩:=List.exists_cons_of_ne_nil (fun e=>h' (digits_eq_nil.1 e))
    rw [hm] at this ⊢
    simpa using this
theorem Zl (n k : Nat) : (digits n).length <= k ↔ n < pw k:=by
 induction k generalizing n with
 | zero =>
  rw [Zbr]
  constructor
  ·intro h;have:=digits_eq_nil.1 (List.eq_nil_of_length_eq_zero (Nat.le_zero.1 h));omega
  ·intro h;have : n = 0:=by omega
   subst this;rw [Zy];simp
 | succ k ih =>
  by_cases h : n = 0
  ·subst h;rw [Zy];simp [Zdt]
  ·rw [Za5 h,List.length_cons,Nat.succ_le_succ_iff,ih,Zai,Nat.div_lt_iff_lt_mul (by decide),Nat.mul_comm]
theorem Zaz (n : Nat) : n < pw (digits n).length:=(Zl n _).1 (Nat.le_refl _)
theorem Zc5 {n k : Nat} (h : k < (digits n).length) : pw k <= n:=by
 rcases Nat.lt_or_ge n (pw k) with h' | h'
 ·have:=(Zl n k).2 h';omega
 ·exact h'
theorem Zr {m n : Nat} (h : m <= n) : (digits m).length <= (digits n).length:=(Zl _ _).2 (Nat.lt_of_le_of_lt h (Zaz n))
theorem Zn0 {l : List Nat} (h : Lt32 l) : canon l = digits (val l):=by
 induction l with
 | nil=>rw [val,Zy];rfl
 | cons x l ih =>
  have hx:=h.head;rw [canon,ih h.tail,val]
  by_cases h0 : val l = 0
  ·rw [h0,Zy]
   by_cases hx0 : x = 0
   ·simp [hx0,Zy]
   ·simp only [hx0,if_false]
    rw [Za5 (by omega),show (x + 4294967296 * 0) / 4294967296 = 0 by omega,Zy,show (x + 4294967296 * 0) % 4294967296 = x by omega]
  ·rw [Za5 (n:=x + 4294967296 * val l) (by omega),show (x + 4294967296 * val l) / 4294967296 = val l by omega,show (x + 4294967296 * val l) % 4294967296 = x by omega]
   obtain ⟨y,m,hm⟩:=List.exists_cons_of_ne_nil (fun e=>h0 (digits_eq_nil.1 e));rw [hm]
theorem Zk8 {l : List Nat} (h : Lt32 l) (hl : l.getLast? ≠ some 0) : l = digits (val l):=by
 rw [<- Zn0 h]
 induction l with
 | nil=>rfl
 | cons x l ih =>
  cases l with
  | nil=>simp only [canon];simp at hl;simp [hl]
  | cons y m =>
   have:=ih h.tail (by simpa using hl);rw [canon,<- this]
theorem Zeg {l : List Nat} {k : Nat} (hz : ∀ j,k <= j -> l[j]?.getD 0 = 0) (hk : k = 0 \/ l[k - 1]?.getD 0 ≠ 0) (hl : Lt32 l) : digits (val l) = l.take k:=by
 have hv : val l = val (l.take k):=by
  rcases Nat.lt_or_ge l.length k with h | h
  ·rw [List.take_of_length_le (by omega)]
  ·rw [Z2 l k h]
   have : val (l.drop k) = 0:=by
    have : ∀ m : List Nat,(∀ j : Nat,m[j]?.getD 0 = 0) -> val m = 0:=by
     intro m
     induction m with
     | nil=>intro _;rfl
     | cons x m ih =>
      intro hm;have h0:=hm 0;have:=ih (fun j=>by simpa using hm (j + 1))
      simp at h0
      simp [val,h0,this]
    exact this _ (fun j=>by rw [List.getElem?_drop];exact hz _ (by omega))
   rw [this];simp
 rw [hv];refine (Zk8 (hl.take k) ?_).symm
 rcases hk with rfl | hk
 ·simp
 ·intro h
  have hkl : k - 1 < l.length:=by
   rcases Nat.lt_or_ge (k - 1) l.length with h' | h'
   ·exact h'
   ·rw [List.getElem?_eq_none h'] at hk;simp at hk
  rw [List.getLast?_eq_getElem?,List.length_take] at h;rw [List.getElem?_take] at h
  split at h
  ·rename_i hlt
   rcases Nat.lt_or_ge k l.length with h' | h'
   ·rw [Nat.min_eq_left (by omega)] at h;rw [h] at hk;simp at hk
   ·have : min k l.length - 1 = k - 1:=by omega
    rw [this] at h;rw [h] at hk;simp at hk
  ·cases h
theorem val_inj {a b : List Nat} (ha : Lt32 a) (hb : Lt32 b) (hl : a.length = b.length) (h : val a = val b) : a = b:=by
 induction a generalizing b with
 | nil=>cases b with
  | nil=>rfl
  | cons _ _=>simp at hl
 | cons x a ih=>cases b with
  | nil=>simp at hl
  | cons y b =>
   have hx:=ha.head;have hy:=hb.head;simp only [val] at h
   obtain rfl : x = y:=by omega
   rw [ih ha.tail hb.tail (by simpa using hl) (by omega)]
theorem Zqy {a b out : List Nat} {k carry s c' : Nat} (hk : k < out.length) (hz : out[k]?.getD 0 = 0) (hI : val out + pw k * carry = val (a.take k) + val (b.take k))
    (he : s + 4294967296 * c' = a[k]?.getD 0 + b[k]?.getD 0 + carry) : val (out.set k s) + pw (k + 1) * c' = val (a.take (k + 1)) + val (b.take (k + 1)):=by
 have h:=Zfp hk s;rw [hz] at h;rw [Zv,Zv,Zai]
 have : pw k * (s + 4294967296 * c') = pw k * (a[k]?.getD 0 + b[k]?.getD 0 + carry):=by rw [he]
 grind
theorem Zo3 {a b out : List Nat} {k borrow s c' : Nat} (hk : k < out.length) (hz : out[k]?.getD 0 = 0) (hI : val out + val (b.take k) = val (a.take k) + pw k * borrow)
    (he : s + b[k]?.getD 0 + borrow = a[k]?.getD 0 + 4294967296 * c') : val (out.set k s) + val (b.take (k + 1)) = val (a.take (k + 1)) + pw (k + 1) * c':=by
 have h:=Zfp hk s;rw [hz] at h;rw [Zv,Zv,Zai]
 have : pw k * (s + b[k]?.getD 0 + borrow) = pw k * (a[k]?.getD 0 + 4294967296 * c'):=by rw [he]
 grind
theorem getD_set_ne {l : List Nat} {i j : Nat} (v : Nat) (h : i ≠ j) : (l.set i v)[j]?.getD 0 = l[j]?.getD 0:=by rw [List.getElem?_set_ne h]
theorem Zhs {l : List Nat} {i : Nat} (v : Nat) (h : i < l.length) : (l.set i v)[i]?.getD 0 = v:=by rw [List.getElem?_set_self h];rfl
theorem getD_none {l : List Nat} {i : Nat} (h : l.length <= i) : l[i]?.getD 0 = 0:=by rw [List.getElem?_eq_none h];rfl
theorem Zcq (n i : Nat) : (List.replicate n 0)[i]?.getD 0 = 0:=by
 rw [List.getElem?_replicate];split <;> rfl
theorem Zoz {a b out : List Nat} {i k carry s q : Nat} (hk : i + k < out.length)
    (hI : val out + pw (i + k) * carry = val (a.take i) * val b + pw i * (a[i]?.getD 0 * val (b.take k)))
    (he : s + 4294967296 * q = carry + a[i]?.getD 0 * b[k]?.getD 0 + out[i + k]?.getD 0) :
    val (out.set (i + k) s) + pw (i + (k + 1)) * q = val (a.take i) * val b + pw i * (a[i]?.getD 0 * val (b.take (k + 1))):=by
 have h:=Zfp hk s;rw [Zv,show i + (k + 1) = (i + k) + 1 by omega,Zai]
 have e1 : pw (i + k) * (s + 4294967296 * q) = pw (i + k) * (carry + a[i]?.getD 0 * b[k]?.getD 0 + out[i + k]?.getD 0):=by rw [he]
 have e2:=Zen i k
 generalize pw (i + k) = P at *
 subst e2
 grind
theorem Zq3 {a b out : List Nat} {i carry : Nat} (hk : i + b.length < out.length) (hz : out[i + b.length]?.getD 0 = 0)
    (hI : val out + pw (i + b.length) * carry = val (a.take i) * val b + pw i * (a[i]?.getD 0 * val b)) :
    val (out.set (i + b.length) carry) = val (a.take (i + 1)) * val b:=by
 have h:=Zfp hk carry;rw [hz] at h;rw [Zv]
 grind
theorem Zs7 {x y z c s q : Nat} (hx : x < 4294967296) (hy : y < 4294967296) (hz : z < 4294967296) (hc : c < 4294967296) (he : s + 4294967296 * q = c + x * y + z) : q < 4294967296:=by
 have : x * y <= 4294967295 * 4294967295:=Nat.mul_le_mul (by omega) (by omega);omega
theorem Zkt {U V P uh v1 : Nat} (hv : 0 < v1) (hV : v1 * P <= V) (hU : U < (uh + 1) * P) : U / V <= uh / v1:=by
 rw [Nat.le_div_iff_mul_le hv];have h1 : U / V * V <= U:=Nat.div_mul_le_self U V;have h2 : U / V * (v1 * P) <= U / V * V:=Nat.mul_le_mul_left _ hV
 have h3 : U / V * v1 * P < (uh + 1) * P:=by rw [Nat.mul_assoc];omega
 have:=Nat.lt_of_mul_lt_mul_right h3;omega
theorem Zls {U V P uh v1 q : Nat} (hV : v1 * P <= V) (hU : U < (uh + 1) * P) (hq : uh < q * v1) : U / V < q:=by
 rcases Nat.lt_or_ge (U / V) q with h | h
 ·exact h
 ·exfalso
  have h1 : U / V * V <= U:=Nat.div_mul_le_self U V;have h2 : q * (v1 * P) <= U / V * V:=Nat.mul_le_mul h hV;have h3 : (uh + 1) * P <= q * v1 * P:=Nat.mul_le_mul_right _ hq;rw [Nat.mul_assoc] at h3;omega
theorem Zg9 {u u0 v : List Nat} {i q carry borrow c lo d b : Nat} (hi : i < u.length)
    (hI : val (u.take i) + q * val (v.take i) = val (u0.take i) + pw i * (carry + borrow)) (ht : lo + 4294967296 * c = carry + q * v[i]?.getD 0) (hd : d + lo + borrow = u0[i]?.getD 0 + 4294967296 * b) :
    val ((u.set i d).take (i + 1)) + q * val (v.take (i + 1)) = val (u0.take (i + 1)) + pw (i + 1) * (c + b):=by
 rw [Zv,Zv v,Zv u0,List.take_set_of_le (Nat.le_refl i),List.getElem?_set_self hi,Zai,Nat.mul_add q];simp only [Option.getD_some]
 generalize v[i]?.getD 0 = x at *
 generalize u0[i]?.getD 0 = y at *
 generalize val (u.take i) = a at *
 generalize val (v.take i) = e at *
 generalize val (u0.take i) = f at *
 have e1 : q * (pw i * x) = pw i * (q * x):=by rw [Nat.mul_left_comm]
 rw [e1]
 have e2 : pw i * (q * x) + pw i * carry = pw i * lo + pw i * (4294967296 * c):=by rw [<- Nat.mul_add,<- Nat.mul_add,ht,Nat.add_comm]
 have e3 : pw i * d + pw i * lo + pw i * borrow = pw i * y + pw i * (4294967296 * b):=by rw [<- Nat.mul_add,<- Nat.mul_add,<- Nat.mul_add,hd]
 have e4 : 4294967296 * pw i * (c + b) = pw i * (4294967296 * c) + pw i * (4294967296 * b):=by rw [Nat.mul_add,Nat.mul_comm 4294967296 (pw i),Nat.mul_assoc,Nat.mul_assoc]
 rw [Nat.mul_add] at hI;rw [e4];omega
open Go.RowKit
theorem Za {p : Prop} (h : p) : Hid p:=h
theorem Zlm (a : Addr) (n : Nat) : (a.add n).block = a.block:=by unfold Addr.add;split <;> rfl
theorem Zg (g o n : Nat) : (⟨g,o,none⟩ : Addr).add n = ⟨g,o + n,none⟩:=by
 unfold Addr.add;split
 ·subst_vars;rfl
 ·rfl
theorem Zs {w : World} {p : Addr} {v : Value} (h : w.cell? p = some v) : p.block < w.heap.size:=by
 unfold World.cell? at h
 rcases Nat.lt_or_ge p.block w.heap.size with hlt | hge
 ·exact hlt
 ·rw [Array.getElem?_eq_none hge] at h;cases h
def Blk (w : World) (g : Nat) (t : TypeId) (cs : Array Value) : Prop:=w.heap[g]? = some (.cells cs t (0,0))
section
variable {w w' : World} {g : Nat} {t : TypeId} {cs : Array Value}
theorem Blk.lt (h : Blk w g t cs) : g < w.heap.size:=by
 rcases Nat.lt_or_ge g w.heap.size with hlt | hge
 ·exact hlt
 ·unfold Blk at h;rw [Array.getElem?_eq_none hge] at h;cases h
theorem Blk.cell (h : Blk w g t cs) (i : Nat) : w.cell? ⟨g,i,none⟩ = cs[i]?:=cell_of_row w g i cs t (0,0) h
theorem Blk.frozen (h : Blk w g t cs) (i : Nat) : w.frozen? ⟨g,i,none⟩ = false:=by
 unfold Blk at h
 simp [World.frozen?,h]
theorem Blk.new (w : World) (t : TypeId) (cs : Array Value) : Blk (w.alloc (.cells cs t)) w.heap.size t cs:=heap_alloc_new w _
theorem Blk.drewN (h : Blk w g t cs) (n : Nat) : Blk (w.drewN n) g t cs:=h
theorem Blk.alloc (h : Blk w g t cs) (o : Obj) : Blk (w.alloc o) g t cs:=(Below.heap_alloc w o g h.lt).trans h
theorem Blk.set_ (h : Blk w g t cs) (i : Nat) (u : Value) : Blk (w.setCell ⟨g,i,none⟩ u) g t (cs.setIfInBounds i u):=by
 unfold Blk at h ⊢
 simp [World.setCell,Array.getElem?_modify,h]
theorem Blk.far (h : Blk w g t cs) {p : Addr} (hp : g ≠ p.block) (u : Value) : Blk (w.setCell p u) g t cs:=(Below.heap_setCell w p u g hp).trans h
theorem Blk.below {B : Nat} (h : Blk w g t cs) (hb : Below B w w') (hg : g < B) : Blk w' g t cs:=(hb.block g hg).trans h
end
theorem Zka {A : Option Addr} {n n' c : Nat} (h : n = n') : Ending.returned (.slice A n c) = .returned (.slice A n' c):=by rw [h]
theorem Zfu {k : IntKind} {a b : Int} (h : a = b) : Ending.returned (.int k a) = .returned (.int k b):=by rw [h]
theorem Zno {a b : Bool} (h : a = b) : Ending.returned (.bool a) = .returned (.bool b):=by rw [h]
abbrev limb (x : Nat) : Value:=.int .u32 (x : Int)
def Zn (l : List Nat) : Array Value:=(l.map limb).toArray
theorem Z7 (l : List Nat) (i : Nat) (h : i < l.length) : (Zn l)[i]? = some (limb (l[i]?.getD 0)):=by
 simp [Zn,List.getElem?_eq_getElem h]
theorem Za0 (l : List Nat) (i v : Nat) : (Zn l).setIfInBounds i (limb v) = Zn (l.set i v):=by
 simp [Zn,List.map_set]
def Lim (w : World) (A : Option Addr) (n c : Nat) (l : List Nat) : Prop:=
 l.length = n /\ n <= c /\ c <= maxLen /\ Lt32 l /\ (0 < n -> ∃ b o,A = some ⟨b,o,none⟩ /\ ∀ k,k < n -> w.cell? ⟨b,o + k,none⟩ = some (limb (l[k]?.getD 0)))
section
variable {w w' : World} {A : Option Addr} {n c : Nat} {l : List Nat}
theorem Lim.len (h : Lim w A n c l) : l.length = n:=h.1
theorem Lim.lt (h : Lim w A n c l) : Lt32 l:=h.2.2.2.1
theorem Lim.nil (w : World) (A : Option Addr) (c : Nat) (hc : c <= maxLen) : Lim w A 0 c []:=⟨rfl,Nat.zero_le _,hc,Lt32.nil,fun h=>absurd h (by omega)⟩
theorem Lim.at_ (h : Lim w A n c l) {k : Nat} (hk : k < n) : ∃ b o,A = some ⟨b,o,none⟩ /\ w.cell? ⟨b,o + k,none⟩ = some (limb (l[k]?.getD 0)):=by
 obtain ⟨b,o,e,hc⟩:=h.2.2.2.2 (by omega);exact ⟨b,o,e,hc k hk⟩
theorem Lim.cell {b o : Nat} (h : Lim w (some ⟨b,o,none⟩) n c l) {k : Nat} (hk : k < n) : w.cell? ⟨b,o + k,none⟩ = some (limb (l[k]?.getD 0)):=by
 obtain ⟨b',o',e,hc⟩:=h.at_ hk
 cases e;exact hc
theorem Lim.keep (h : Lim w A n c l) (hk : ∀ p : Addr,p.block < w.heap.size -> w'.cell? p = w.cell? p) : Lim w' A n c l:=
 ⟨h.1,h.2.1,h.2.2.1,h.2.2.2.1,fun hn=>by
  obtain ⟨b,o,e,hc⟩:=h.2.2.2.2 hn
  exact ⟨b,o,e,fun k hk'=>(hk _ (Zs (hc k hk'))).trans (hc k hk')⟩⟩
theorem Lim.below (h : Lim w A n c l) (hb : Below w.heap.size w w') : Lim w' A n c l:=h.keep fun _ hp=>hb.cell hp
theorem Lim.drew (h : Lim w A n c l) : Lim w.drew A n c l:=h
theorem Lim.drewN (h : Lim w A n c l) (k : Nat) : Lim (w.drewN k) A n c l:=h
theorem Lim.alloc (h : Lim w A n c l) (o : Obj) : Lim (w.alloc o) A n c l:=h.below ((Below.refl _ _).alloc (Nat.le_refl _) _)
theorem Lim.take (h : Lim w A n c l) {k : Nat} (hk : k <= n) : Lim w A k c (l.take k):=
 ⟨by rw [List.length_take,h.len];omega,by have:=h.2.1;omega,h.2.2.1,h.lt.take k,fun h0=>by
  obtain ⟨b,o,e,hc⟩:=h.2.2.2.2 (by omega);refine ⟨b,o,e,fun j hj=>?_⟩
  rw [hc j (by omega),List.getElem?_take,if_pos hj]⟩
theorem Lim.lt_pw (h : Lim w A n c l) : val l < pw n:=by have:=Zdw h.lt;rw [h.len] at this;exact this
theorem Lim.of_blk {g : Nat} {t : TypeId} (h : Blk w g t (Zn l)) (hl : Lt32 l) (hn : l.length <= maxLen) : Lim w (some ⟨g,0,none⟩) l.length l.length l:=
 ⟨rfl,Nat.le_refl _,hn,hl,fun _=>⟨_,_,rfl,fun k hk=>by rw [Nat.zero_add,h.cell,Z7 l k hk]⟩⟩
theorem Lim.canon (h : Lim w A n c l) : Lim w A (digits (val l)).length c (digits (val l)) /\ (digits (val l)).length <= n:=by
 have hle : (digits (val l)).length <= n:=(Zl _ _).2 h.lt_pw;have ht:=h.take hle
 have : l.take (digits (val l)).length = digits (val l):=by
  have hv : val (l.take (digits (val l)).length) = val l:=by
   have h1:=Z2 l (digits (val l)).length (by rw [h.len];exact hle);have h2:=Zaz (val l)
   rcases Nat.eq_zero_or_pos (val (l.drop (digits (val l)).length)) with h0 | h0
   ·rw [h0] at h1;omega
   ·have:=Nat.mul_le_mul_left (pw (digits (val l)).length) h0;omega
  refine val_inj (h.lt.take _) (Zb2 _) ?_ ?_
  ·rw [List.length_take,h.len];omega
  ·rw [hv,Zf]
 rw [this] at ht;exact ⟨ht,hle⟩
end
def OutL (w : World) (P : List Nat -> Prop) (e : Ending) (w' : World) : Prop:=
 ∃ A n c l,e = .returned (.slice A n c) /\ Lim w' A n c l /\ P l /\ Below w.heap.size w w'
theorem Zdx {P : Program} (t e : TypeId) {i : TypeInfo} (ht : P.underlying t = some (.slice e)) (hi : P.info? e = some i) (hz : i.zero = some (.int .u32 0)) (hs : i.size = 1) (hb : i.bytes = 4)
    (x : Int) (n : Nat) (hx : x = n) (hn : n <= 70368744177664) (W : World) :
    (Instr.makeSlice t (.int .i64 x) (.int .i64 x)).run P W = .ok (.slice (some ⟨W.heap.size,0,none⟩) n n) (W.alloc (.cells (Zn (List.replicate n 0)) e)):=by
 subst hx;have hr:=run_make (P:=P) W t e i (.int .u32 0) ht hi hz .i64 .i64 n n (by omega) (by omega) (by rw [hb];omega) (by omega);simp only [Int.toNat_natCast] at hr;rw [hr]
 have : madeCells (Value.int .u32 0).cells (n * i.size) = Zn (List.replicate n 0):=by
  rw [hs,Nat.mul_one]
  apply Array.toList_inj.1
  rw [show (Value.int .u32 0).cells = #[.int .u32 0] from rfl,toList_madeCells_one]
  simp [Zn]
 rw [this]
def sg (neg : Bool) (v : Nat) : Int:=if neg then -(v : Int) else v
def Wd (w : World) (neg : Bool) (A : Option Addr) (n c : Nat) (z : Int) : Prop:=neg = decide (z < 0) /\ n <= 4096 /\ Lim w A n c (digits z.natAbs)
def ResP (w' : World) (z : Int) (neg : Bool) (A : Option Addr) (n c : Nat) (code : Int) : Prop:=
 (z.natAbs < pw 4096 /\ code = 0 /\ Wd w' neg A n c z) \/ (pw 4096 <= z.natAbs /\ code = 16 /\ neg = false /\ A = none /\ n = 0 /\ c = 0)
def ResW (w : World) (z : Int) (e : Ending) (w' : World) : Prop:=
 Below w.heap.size w w' /\ ∃ neg A n c code,e = .returned (.tuple #[.agg #[.bool neg,.slice A n c],.int .i64 code]) /\ ResP w' z neg A n c code
section
variable {w w' : World} {neg : Bool} {A : Option Addr} {n c : Nat} {z : Int}
theorem Wd.below (h : Wd w neg A n c z) (hb : Below w.heap.size w w') : Wd w' neg A n c z:=⟨h.1,h.2.1,h.2.2.below hb⟩
theorem Wd.lim (h : Wd w neg A n c z) : Lim w A n c (digits z.natAbs):=h.2.2
theorem Wd.small (h : Wd w neg A n c z) : z.natAbs < pw 4096:=by
 have:=h.2.2.len;exact (Zl _ _).1 (by rw [this];exact h.2.1)
theorem Wd.zero (w : World) : Wd w false none 0 0 0:=⟨by simp,by omega,by rw [show digits (Int.natAbs 0) = [] from Zy];exact Lim.nil _ _ _ (Nat.zero_le _)⟩
theorem Wd.sgEq (h : Wd w neg A n c z) : sg neg (val (digits z.natAbs)) = z:=by
 rw [h.1,Zf];unfold sg;split <;> simp_all <;> omega
theorem Zw (neg : Bool) (v : Nat) : (sg neg v).natAbs = v:=by unfold sg;split <;> simp
theorem Zji (neg : Bool) (v : Nat) : decide (sg neg v < 0) = (neg && decide (0 < v)):=by
 unfold sg;cases neg <;> simp
theorem length_digits_pos {v : Nat} : 0 < (digits v).length ↔ 0 < v:=by
 constructor
 ·intro h;rcases Nat.eq_zero_or_pos v with rfl | h'
  ·rw [Zy] at h;simp at h
  ·exact h'
 ·intro h;rcases Nat.eq_zero_or_pos (digits v).length with h' | h'
  ·have:=(Zl v 0).1 (by omega);rw [Zbr] at this;omega
  ·exact h'
theorem Wd.made {l : List Nat} (h : Lim w A n c l) (neg : Bool) (hs : val l < pw 4096) : Wd w (neg && decide (0 < (digits (val l)).length)) A (digits (val l)).length c (sg neg (val l)):=by
 refine ⟨?_,(Zl _ _).2 hs,?_⟩
 ·rw [Zji];congr 1;simp [length_digits_pos]
 ·rw [Zw];exact h.canon.1
end
theorem Zp6 {c x y z : Nat} (hc : c < 4294967296) (hx : x < 4294967296) (hy : y < 4294967296) (hz : z < 4294967296) :
    IntKind.u64.wrap ((c : Int) + IntKind.u64.wrap (IntKind.u64.wrap ((x : Int) * y) + z)) = ((c + x * y + z : Nat) : Int):=by
 have h : x * y <= 4294967295 * 4294967295:=Nat.mul_le_mul (by omega) (by omega)
 have e : (x : Int) * y = ((x * y : Nat) : Int):=by simp
 rw [e]
 generalize x * y = t at *
 simp only [IntKind.wrap_u64];omega
theorem Zjf (t : Nat) : (t : Int) / 4294967296 = ((t / 4294967296 : Nat) : Int):=by omega
theorem Zi7 (t : Nat) : (t : Int) % 4294967296 = ((t % 4294967296 : Nat) : Int):=by omega
theorem Zbd {W w1 : World} (hb : Below W.heap.size W w1) : (∀ b o,b < W.heap.size -> w1.cell? ⟨b,o,none⟩ = W.cell? ⟨b,o,none⟩) /\ (∀ b o,b < W.heap.size -> w1.frozen? ⟨b,o,none⟩ = W.frozen? ⟨b,o,none⟩):=
 ⟨fun b o h=>hb.cell (p:=⟨b,o,none⟩) h,fun b o h=>hb.frozen (p:=⟨b,o,none⟩) h⟩
theorem Zc {W w1 : World} {p : Addr} {v : Value} (hb : Below W.heap.size W w1) (h : W.cell? p = some v) : w1.cell? p = some v:=(hb.cell (Zs h)).trans h
theorem Zi {W w1 : World} {p : Addr} {v : Value} (hb : Below W.heap.size W w1) (h : W.cell? p = some v) (hf : W.frozen? p = false) : w1.frozen? p = false:=(hb.frozen (Zs h)).trans hf
attribute [local go_sem] Zg
theorem Zc0 (A : Option Addr) (n c : Nat) (l : List Nat) (w : World) (h : Lim w A n c l) :
    Calls Tryz.prog 149 #[.slice A n c] w fun e w'=>e = .returned (.slice A (digits (val l)).length c) /\ w = w':=by
 have hn:=h.2.1;have hm:=h.2.2.1;unfold maxLen at hm;go_enter Tryz.func149,Tryz.ntmps149
 go_wp2
 go_loop [3] (fun v=>∃ k : Nat,k <= n /\ v = .int .i64 k /\ Hid (∀ j,k <= j -> l[j]?.getD 0 = 0)) (fun v=>(intOf v).toNat)
 case atStart=>exact ⟨n,Nat.le_refl _,rfl,fun j hj=>by rw [List.getElem?_eq_none (by rw [h.len];exact hj)];rfl⟩
 case round =>
  obtain ⟨k,hk,rfl,hz⟩:=hrel
  by_cases hk0 : 0 < k
  ·obtain ⟨b,o,rfl,hcell⟩:=h.at_ (k:=k - 1) (by omega)
   by_cases hx : l[k-1]?.getD 0 = 0
   ·have hb : (((l[k-1]?.getD 0 : Nat) : Int) == 0) = true:=by simp [hx]
    clear h;have hx:=Za hx
    go_wp2
    go_round
    case rel=>exact ⟨k - 1,by omega,by go_num,fun j hj=>by
        rcases Nat.lt_or_ge j k with h' | h'
        ·obtain rfl : j = k - 1:=by omega
         exact hx.out
        ·exact hz.out j h'⟩
    case measure=>simp [intOf];omega
   ·have hb : (((l[k-1]?.getD 0 : Nat) : Int) == 0) = false:=by simpa using hx
    have hd:=Zeg hz.out (Or.inr hx) h.lt;have hlk:=congrArg List.length hd;rw [List.length_take,h.len,Nat.min_eq_left hk] at hlk;have HL:=Za hlk;clear h hd hlk hx
    go_wp2
    go_ret;exact ⟨Zka HL.out.symm,rfl⟩
  ·obtain rfl : k = 0:=by omega
   have HL:=Za (congrArg List.length (Zeg hz.out (Or.inl rfl) h.lt));clear h
   go_wp2
   go_ret;exact ⟨Zka HL.out.symm,rfl⟩
theorem Zgf {a b : Int} {s k : Nat} (h1 : a = s) (h2 : b = k) : Ending.returned (.tuple #[.int .u32 a,.int .u32 b]) = .returned (.tuple #[limb s,limb k]):=by rw [h1,h2]
def Sum32 (t : Nat) (w : World) (e : Ending) (w' : World) : Prop:=
 ∃ s k : Nat,e = .returned (.tuple #[limb s,limb k]) /\ s < 4294967296 /\ s + 4294967296 * k = t /\ w = w'
theorem Zfn (x y c : Nat) (w : World) (hx : x < 4294967296) (hy : y < 4294967296) (hc : c <= 1) :
    Calls Tryz.prog 211 #[limb x,limb y,limb c] w (Sum32 (x + y + c) w):=by
 go_enter Tryz.func211,Tryz.ntmps211
 go_wp2
 go_ret2
 exact ⟨(x + y + c) % 4294967296,(x + y + c) / 4294967296,Zgf (by omega) (by omega),by omega,by omega,rfl⟩
theorem Zd0 (z : Nat) (h : z < 4294967296) : z.testBit 31 = decide (2147483648 <= z):=by
 rw [Nat.testBit_eq_decide_div_mod_eq]
 congr 1
 apply propext
 constructor <;> intro h' <;> omega
theorem div31 (z : Nat) (h : z < 4294967296) : z / 2147483648 = (z.testBit 31).toNat:=by
 rw [Zd0 z h]
 by_cases h' : 2147483648 <= z
 ·simp [h'];omega
 ·simp [h'];omega
theorem Zo4 (x y d c : Nat) (hx : x < 4294967296) (hy : y < 4294967296) (hc : c <= 1) (hd : d < 4294967296) (k : Nat) (he : d + y + c = x + 4294967296 * k) :
    ((((4294967295 ^^^ x) &&& y) ||| ((4294967295 ^^^ (x ^^^ y)) &&& d)) / 2147483648) = k:=by
 have hxy : x ^^^ y < 2 ^ 32:=Nat.xor_lt_two_pow (by omega) (by omega);have h1 : 4294967295 ^^^ x < 2 ^ 32:=Nat.xor_lt_two_pow (by omega) (by omega);have h2 : 4294967295 ^^^ (x ^^^ y) < 2 ^ 32:=Nat.xor_lt_two_pow (by omega) hxy;have h3 : (4294967295 ^^^ x) &&& y < 2 ^ 32:=Nat.and_lt_two_pow _ (by omega);have h4 : (4294967295 ^^^ (x ^^^ y)) &&& d < 2 ^ 32:=Nat.and_lt_two_pow _ (by omega);have h5:=Nat.or_lt_two_pow h3 h4;rw [div31 _ (by omega)];simp only [Nat.testBit_or,Nat.testBit_and,Nat.testBit_xor,Zd0 x hx,Zd0 y hy,Zd0 d hd,Zd0 4294967295 (by omega)]
 by_cases a : 2147483648 <= x <;> by_cases b : 2147483648 <= y <;> by_cases e : 2147483648 <= d <;> simp [a,b,e] <;> omega
def Dif32 (x y c : Nat) (w : World) (e : Ending) (w' : World) : Prop:=
 ∃ d k : Nat,e = .returned (.tuple #[limb d,limb k]) /\ d < 4294967296 /\ k <= 1 /\ d + y + c = x + 4294967296 * k /\ w = w'
theorem Zft (x y c : Nat) (w : World) (hx : x < 4294967296) (hy : y < 4294967296) (hc : c <= 1) :
    Calls Tryz.prog 222 #[limb x,limb y,limb c] w (Dif32 x y c w):=by
 go_enter Tryz.func222,Tryz.ntmps222
 go_wp2
 go_ret2
 have e1 : ((x : Int) - y - c) % 4294967296 = (((x + 8589934592 - y - c) % 4294967296 : Nat) : Int):=by omega
 have hd : (x + 8589934592 - y - c) % 4294967296 < 4294967296:=by omega
 obtain ⟨k,hk⟩ : ∃ k,k <= 1 /\ (x + 8589934592 - y - c) % 4294967296 + y + c = x + 4294967296 * k:=⟨if x < y + c then 1 else 0,by split <;> omega⟩;refine ⟨(x + 8589934592 - y - c) % 4294967296,k,Zgf e1 ?_,hd,hk.1,hk.2,rfl⟩;show bits .or .u32 _ _ / 2147483648 = _;rw [e1,show (IntKind.u32.max : Int) = ((4294967295 : Nat) : Int) from rfl];have hb:=Zo4 x y _ c hx hy hc hd k hk.2
 generalize (x + 8589934592 - y - c) % 4294967296 = d at *
 have hxy : x ^^^ y < 2 ^ 32:=Nat.xor_lt_two_pow (by omega) (by omega);have h1 : 4294967295 ^^^ x < 2 ^ 32:=Nat.xor_lt_two_pow (by omega) (by omega);have h2 : 4294967295 ^^^ (x ^^^ y) < 2 ^ 32:=Nat.xor_lt_two_pow (by omega) hxy;have h3 : (4294967295 ^^^ x) &&& y < 2 ^ 32:=Nat.and_lt_two_pow _ (by omega);have h4 : (4294967295 ^^^ (x ^^^ y)) &&& d < 2 ^ 32:=Nat.and_lt_two_pow _ (by omega);rw [u32_xor_nat x y hx hy,u32_xor_nat _ x (by omega) hx,u32_xor_nat _ (x ^^^ y) (by omega) (by omega),u32_and_nat _ y (by omega) hy,u32_and_nat _ d (by omega) hd,u32_or_nat _ _ (by omega) (by omega)];omega
theorem Zbw : (Tryz.prog.info? 147).map (fun i=>(i.zero,i.size,i.bytes)) = some (some (.int .u32 0),1,4):=by kernel_rfl
def Plus1 (w : World) (a b : List Nat) (g n k carry : Nat) (wr : World) : Prop:=
 ∃ out,Blk wr g 147 (Zn out) /\ out.length = n + 1 /\ Lt32 out /\ (∀ j,k <= j -> out[j]?.getD 0 = 0) /\ val out + pw k * carry = val (a.take k) + val (b.take k) /\ Below w.heap.size w wr
theorem Plus1.start (w : World) (a b : List Nat) (n : Nat) : Plus1 w a b w.heap.size n 0 0 (w.alloc (.cells (Zn (List.replicate (n + 1) 0)) 147)):=
 ⟨List.replicate (n + 1) 0,Blk.new _ _ _,by simp,Lt32.replicate _,fun j _=>Zcq _ _,by simp [Zcv,val],(Below.refl _ _).alloc (Nat.le_refl _) _⟩
theorem Plus1.step {w wr : World} {a b out : List Nat} {n k carry s q : Nat} (hblk : Blk wr w.heap.size 147 (Zn out)) (hlen : out.length = n + 1) (hlt : Lt32 out) (hz : ∀ j,k <= j -> out[j]?.getD 0 = 0)
    (hI : val out + pw k * carry = val (a.take k) + val (b.take k)) (hB : Below w.heap.size w wr) (hk : k < n) (hs : s < 4294967296) (he : s + 4294967296 * q = a[k]?.getD 0 + b[k]?.getD 0 + carry) :
    Plus1 w a b w.heap.size n (k + 1) q (wr.setCell ⟨w.heap.size,k,none⟩ (limb s)):=
 ⟨out.set k s,by rw [<- Za0];exact hblk.set_ _ _,by rw [List.length_set];exact hlen,hlt.set _ hs,fun j hj=>by rw [getD_set_ne _ (by omega)];exact hz j (by omega),
  Zqy (by omega) (hz k (Nat.le_refl _)) hI he,hB.setCell (p:=⟨w.heap.size,k,none⟩) (Nat.le_refl _) _⟩
theorem Plus1.stop {w wr : World} {a b out : List Nat} {n carry : Nat} (hblk : Blk wr w.heap.size 147 (Zn out)) (hlen : out.length = n + 1) (hlt : Lt32 out) (hz : ∀ j,n <= j -> out[j]?.getD 0 = 0)
    (hI : val out + pw n * carry = val (a.take n) + val (b.take n)) (hB : Below w.heap.size w wr) (hc : carry <= 1) (ha : a.length <= n) (hb : b.length <= n) (hn : n < maxLen) :
    OutL w (fun l=>l.length = n + 1 /\ val l = val a + val b) (.returned (.slice (some ⟨w.heap.size,0,none⟩) (n + 1) (n + 1))) (wr.setCell ⟨w.heap.size,n,none⟩ (limb carry)):=by
 have hb2 : Blk (wr.setCell ⟨w.heap.size,n,none⟩ (limb carry)) w.heap.size 147 (Zn (out.set n carry)):=by rw [<- Za0];exact hblk.set_ _ _
 have hL:=Lim.of_blk hb2 (hlt.set _ (by omega)) (by rw [List.length_set];omega);rw [List.length_set,hlen] at hL;refine ⟨_,_,_,_,rfl,hL,⟨by rw [List.length_set];exact hlen,?_⟩,hB.setCell (p:=⟨w.heap.size,n,none⟩) (Nat.le_refl _) _⟩;have:=Zfp (l:=out) (k:=n) (by omega) carry;rw [hz n (Nat.le_refl _)] at this;rw [Zx ha,Zx hb] at hI;omega
theorem Zml (sw : Bool) (A B : Option Addr) (n c m d : Nat) (a b : List Nat) (w : World) (ha : Lim w A n c a) (hb : Lim w B m d b) (hsw : sw = true -> m < n) (hsw' : sw = false -> m <= n) (hn : n <= 1000000000) :
    Calls Tryz.prog 153 (if sw = true then #[.slice B m d,.slice A n c] else #[.slice A n c,.slice B m d]) w (OutL w fun l=>l.length = n + 1 /\ val l = val a + val b):=by
 obtain ⟨i0,hi,hz0,hz1,hz2⟩:=info_parts Zbw;have hmk:=Zdx (P:=Tryz.prog) 25 147 Tryz.underlying25 hi hz0 hz1 hz2 ((n : Int) + 1) (n + 1) (by omega) (by omega);have hnc:=ha.2.1;have hmd:=hb.2.1;have hcm:=ha.2.2.1;have hdm:=hb.2.2.1
 have hnm : n < maxLen:=by unfold maxLen;omega
 unfold maxLen at hcm hdm
 have HS : Hid (∀ k carry wr,Plus1 w a b w.heap.size n k carry wr -> n <= k -> k <= n -> carry <= 1 -> OutL w (fun l=>l.length = n + 1 /\ val l = val a + val b) (.returned (.slice (some ⟨w.heap.size,0,none⟩) (n + 1) (n + 1))) (wr.setCell ⟨w.heap.size,n,none⟩ (limb carry))):=by
  rintro k carry wr ⟨out,h1,h2,h3,h4,h5,h6⟩ h7 h8 h9
  obtain rfl : k = n:=by omega
  exact Plus1.stop h1 h2 h3 h4 h5 h6 h9 (by rw [ha.len];omega) (by rw [hb.len];cases sw;exact hsw' rfl;exact Nat.le_of_lt (hsw rfl)) hnm
 have hmn : m <= n:=by cases sw;exact hsw' rfl;exact Nat.le_of_lt (hsw rfl)
 cases sw
 ·clear hsw hsw' hnm
  have hdd : decide (n < m) = false:=by simp;omega
  show Calls _ _ #[.slice A n c,.slice B m d] _ _;go_enter Tryz.func153,Tryz.ntmps153
  go_wp2
  go_loopw [6,23] (fun cv iv wr=>∃ k carry : Nat,k <= n /\ carry <= 1 /\ cv = limb carry /\ iv = .int .i64 k /\ Plus1 w a b w.heap.size n k carry wr) (fun _ iv _=>n - (intOf iv).toNat)
  case atStart=>exact ⟨0,0,Nat.zero_le _,Nat.zero_le _,rfl,rfl,Plus1.start w a b n⟩
  case round =>
   obtain ⟨k,carry,hk,hcy,rfl,rfl,hP⟩:=hrel
   by_cases hlt1 : k < n
   ·have hP':=hP
    obtain ⟨out,hblk,hlen,hlt,hz,hI,hB⟩:=hP';have HP:=Za hP;clear hP;have hz:=Za hz;have hI:=Za hI;have hlen:=Za hlen;have hsz:=hblk.lt;obtain ⟨ba,oa,rfl,hca⟩:=(ha.below hB).at_ hlt1;have hxa:=ha.lt.get k;have hcg:=hblk.cell k;rw [Z7 out k (by rw [hlen.out];omega),hz.out k (Nat.le_refl _)] at hcg;have hfg:=hblk.frozen k
    by_cases hm1 : k < m
    ·obtain ⟨bb,ob,rfl,hcb⟩:=(hb.below hB).at_ hm1
     have hxb:=hb.lt.get k;go_wp2_with (go_at_call 211;refine (Zfn _ _ _ _ hxa hxb hcy).mono ?_;rintro e w' ⟨s,q,rfl,hs,he,rfl⟩;have hE:=Za he;clear he)
     go_roundw
     case rel=>exact ⟨k + 1,q,by omega,by have:=hE.out;omega,rfl,by go_num,Plus1.step hblk hlen.out hlt hz.out hI.out hB hlt1 hs hE.out⟩
     case measure=>simp [intOf];omega
    ·have hb0:=Za (getD_none (l:=b) (i:=k) (by rw [hb.len];omega))
     go_wp2_with (go_at_call 211;refine (Zfn _ 0 _ _ hxa (by omega) hcy).mono ?_;rintro e w' ⟨s,q,rfl,hs,he,rfl⟩;have hE:=Za he;clear he)
     go_roundw
     case rel=>exact ⟨k + 1,q,by omega,by have:=hE.out;omega,rfl,by go_num,Plus1.step hblk hlen.out hlt hz.out hI.out hB hlt1 hs (by rw [hb0.out];exact hE.out)⟩
     case measure=>simp [intOf];omega
   ·have HF:=Za (HS.out k carry wr hP (by omega) hk hcy)
    obtain ⟨out,hblk,hlen,hlt,hz,hI,hB⟩:=hP;have hcg:=hblk.cell n;rw [Z7 out n (by omega),hz n (by omega)] at hcg;have hfg:=hblk.frozen n;have hsz:=hblk.lt;clear hblk hz hI hlen
    go_wp2
    go_ret;exact HF.out
 ·have hlt : m < n:=hsw rfl
  clear hsw hsw' hnm
  have hdd : decide (m < n) = true:=by simp;omega
  show Calls _ _ #[.slice B m d,.slice A n c] _ _;go_enter Tryz.func153,Tryz.ntmps153
  go_wp2
  go_loopw [6,23] (fun cv iv wr=>∃ k carry : Nat,k <= n /\ carry <= 1 /\ cv = limb carry /\ iv = .int .i64 k /\ Plus1 w a b w.heap.size n k carry wr) (fun _ iv _=>n - (intOf iv).toNat)
  case atStart=>exact ⟨0,0,Nat.zero_le _,Nat.zero_le _,rfl,rfl,Plus1.start w a b n⟩
  case round =>
   obtain ⟨k,carry,hk,hcy,rfl,rfl,hP⟩:=hrel
   by_cases hlt1 : k < n
   ·have hP':=hP
    obtain ⟨out,hblk,hlen,hlt,hz,hI,hB⟩:=hP';have HP:=Za hP;clear hP;have hz:=Za hz;have hI:=Za hI;have hlen:=Za hlen;have hsz:=hblk.lt;obtain ⟨ba,oa,rfl,hca⟩:=(ha.below hB).at_ hlt1;have hxa:=ha.lt.get k;have hcg:=hblk.cell k;rw [Z7 out k (by rw [hlen.out];omega),hz.out k (Nat.le_refl _)] at hcg;have hfg:=hblk.frozen k
    by_cases hm1 : k < m
    ·obtain ⟨bb,ob,rfl,hcb⟩:=(hb.below hB).at_ hm1
     have hxb:=hb.lt.get k;go_wp2_with (go_at_call 211;refine (Zfn _ _ _ _ hxa hxb hcy).mono ?_;rintro e w' ⟨s,q,rfl,hs,he,rfl⟩;have hE:=Za he;clear he)
     go_roundw
     case rel=>exact ⟨k + 1,q,by omega,by have:=hE.out;omega,rfl,by go_num,Plus1.step hblk hlen.out hlt hz.out hI.out hB hlt1 hs hE.out⟩
     case measure=>simp [intOf];omega
    ·have hb0:=Za (getD_none (l:=b) (i:=k) (by rw [hb.len];omega))
     go_wp2_with (go_at_call 211;refine (Zfn _ 0 _ _ hxa (by omega) hcy).mono ?_;rintro e w' ⟨s,q,rfl,hs,he,rfl⟩;have hE:=Za he;clear he)
     go_roundw
     case rel=>exact ⟨k + 1,q,by omega,by have:=hE.out;omega,rfl,by go_num,Plus1.step hblk hlen.out hlt hz.out hI.out hB hlt1 hs (by rw [hb0.out];exact hE.out)⟩
     case measure=>simp [intOf];omega
   ·have HF:=Za (HS.out k carry wr hP (by omega) hk hcy)
    obtain ⟨out,hblk,hlen,hlt,hz,hI,hB⟩:=hP;have hcg:=hblk.cell n;rw [Z7 out n (by omega),hz n (by omega)] at hcg;have hfg:=hblk.frozen n;have hsz:=hblk.lt;clear hblk hz hI hlen
    go_wp2
    go_ret;exact HF.out
theorem Zi1 (A B : Option Addr) (n c m d : Nat) (a b : List Nat) (w : World) (ha : Lim w A n c a) (hb : Lim w B m d b) (hn : n <= 1000000000) (hm : m <= 1000000000) :
    Calls Tryz.prog 153 #[.slice A n c,.slice B m d] w (OutL w fun l=>l.length = max n m + 1 /\ val l = val a + val b):=by
 rcases Nat.lt_or_ge n m with h | h
 ·refine (Zml true B A m d n c b a w hb ha (fun _=>h) (fun e=>by cases e) hm).mono ?_
  rintro e w' ⟨A',n',c',l,he,hL,hP,hB⟩;exact ⟨A',n',c',l,he,hL,⟨by rw [hP.1,Nat.max_eq_right (Nat.le_of_lt h)],by rw [hP.2,Nat.add_comm]⟩,hB⟩
 ·refine (Zml false A B n c m d a b w ha hb (fun e=>by cases e) (fun _=>h) hn).mono ?_
  rintro e w' ⟨A',n',c',l,he,hL,hP,hB⟩;exact ⟨A',n',c',l,he,hL,⟨by rw [hP.1,Nat.max_eq_left h],hP.2⟩,hB⟩
def Minus1 (w : World) (a b : List Nat) (g n k borrow : Nat) (wr : World) : Prop:=
 ∃ out,Blk wr g 147 (Zn out) /\ out.length = n /\ Lt32 out /\ (∀ j,k <= j -> out[j]?.getD 0 = 0) /\ val out + val (b.take k) = val (a.take k) + pw k * borrow /\ Below w.heap.size w wr
theorem Minus1.start (w : World) (a b : List Nat) (n : Nat) : Minus1 w a b w.heap.size n 0 0 (w.alloc (.cells (Zn (List.replicate n 0)) 147)):=
 ⟨List.replicate n 0,Blk.new _ _ _,by simp,Lt32.replicate _,fun j _=>Zcq _ _,by simp [Zcv,val],(Below.refl _ _).alloc (Nat.le_refl _) _⟩
theorem Minus1.step {w wr : World} {a b out : List Nat} {n k borrow s q : Nat} (hblk : Blk wr w.heap.size 147 (Zn out)) (hlen : out.length = n) (hlt : Lt32 out) (hz : ∀ j,k <= j -> out[j]?.getD 0 = 0)
    (hI : val out + val (b.take k) = val (a.take k) + pw k * borrow) (hB : Below w.heap.size w wr) (hk : k < n) (hs : s < 4294967296) (he : s + b[k]?.getD 0 + borrow = a[k]?.getD 0 + 4294967296 * q) :
    Minus1 w a b w.heap.size n (k + 1) q (wr.setCell ⟨w.heap.size,k,none⟩ (limb s)):=
 ⟨out.set k s,by rw [<- Za0];exact hblk.set_ _ _,by rw [List.length_set];exact hlen,hlt.set _ hs,fun j hj=>by rw [getD_set_ne _ (by omega)];exact hz j (by omega),
  Zo3 (by omega) (hz k (Nat.le_refl _)) hI he,hB.setCell (p:=⟨w.heap.size,k,none⟩) (Nat.le_refl _) _⟩
theorem Minus1.stop {w wr : World} {a b : List Nat} {n borrow : Nat} (h : Minus1 w a b w.heap.size n n borrow wr) (ha : a.length <= n) (hb : b.length <= n) (hab : val b <= val a) (hn : n <= maxLen) :
    OutL w (fun l=>l.length = n /\ val l + val b = val a) (.returned (.slice (some ⟨w.heap.size,0,none⟩) n n)) wr:=by
 obtain ⟨out,hblk,hlen,hlt,-,hI,hB⟩:=h;have hL:=Lim.of_blk hblk hlt (by omega);rw [hlen] at hL;refine ⟨_,_,_,_,rfl,hL,⟨hlen,?_⟩,hB⟩;rw [Zx ha,Zx hb] at hI;have:=Zdw hlt;rw [hlen] at this
 rcases Nat.eq_zero_or_pos borrow with h0 | h0
 ·subst h0;omega
 ·have:=Nat.mul_le_mul_left (pw n) h0;omega
theorem Zhc (A B : Option Addr) (n c m d : Nat) (a b : List Nat) (w : World) (ha : Lim w A n c a) (hb : Lim w B m d b) (hmn : m <= n) (hab : val b <= val a) (hn : n <= 1000000000) :
    Calls Tryz.prog 202 #[.slice A n c,.slice B m d] w (OutL w fun l=>l.length = n /\ val l + val b = val a):=by
 obtain ⟨i0,hi,hz0,hz1,hz2⟩:=info_parts Zbw;have hmk:=Zdx (P:=Tryz.prog) 25 147 Tryz.underlying25 hi hz0 hz1 hz2 (n : Int) n rfl (by omega);have hnc:=ha.2.1;have hmd:=hb.2.1;have hcm:=ha.2.2.1;have hdm:=hb.2.2.1
 have hnm : n <= maxLen:=by unfold maxLen;omega
 unfold maxLen at hcm hdm
 have HS : Hid (∀ borrow wr,Minus1 w a b w.heap.size n n borrow wr -> OutL w (fun l=>l.length = n /\ val l + val b = val a) (.returned (.slice (some ⟨w.heap.size,0,none⟩) n n)) wr):=
  fun borrow wr h=>Minus1.stop h (by rw [ha.len];omega) (by rw [hb.len];omega) hab hnm
 clear hnm hab;go_enter Tryz.func202,Tryz.ntmps202
 go_wp2
 go_loopw [6,15] (fun cv iv wr=>∃ k borrow : Nat,k <= n /\ borrow <= 1 /\ cv = limb borrow /\ iv = .int .i64 k /\ Minus1 w a b w.heap.size n k borrow wr) (fun _ iv _=>n - (intOf iv).toNat)
 case atStart=>exact ⟨0,0,Nat.zero_le _,Nat.zero_le _,rfl,rfl,Minus1.start w a b n⟩
 case round =>
  obtain ⟨k,borrow,hk,hcy,rfl,rfl,hP⟩:=hrel
  by_cases hlt1 : k < n
  ·obtain ⟨out,hblk,hlen,hlt,hz,hI,hB⟩:=hP
   have hz:=Za hz;have hI:=Za hI;have hlen:=Za hlen;have hsz:=hblk.lt;obtain ⟨ba,oa,rfl,hca⟩:=(ha.below hB).at_ hlt1;have hxa:=ha.lt.get k;have hcg:=hblk.cell k;rw [Z7 out k (by rw [hlen.out];omega),hz.out k (Nat.le_refl _)] at hcg;have hfg:=hblk.frozen k
   by_cases hm1 : k < m
   ·obtain ⟨bb,ob,rfl,hcb⟩:=(hb.below hB).at_ hm1
    have hxb:=hb.lt.get k;go_wp2_with (go_at_call 222;refine (Zft _ _ _ _ hxa hxb hcy).mono ?_;rintro e w' ⟨s,q,rfl,hs,hq,he,rfl⟩;have hE:=Za he;clear he)
    go_roundw
    case rel=>exact ⟨k + 1,q,by omega,hq,rfl,by go_num,Minus1.step hblk hlen.out hlt hz.out hI.out hB hlt1 hs hE.out⟩
    case measure=>simp [intOf];omega
   ·have hb0:=Za (getD_none (l:=b) (i:=k) (by rw [hb.len];omega))
    go_wp2_with (go_at_call 222;refine (Zft _ 0 _ _ hxa (by omega) hcy).mono ?_;rintro e w' ⟨s,q,rfl,hs,hq,he,rfl⟩;have hE:=Za he;clear he)
    go_roundw
    case rel=>exact ⟨k + 1,q,by omega,hq,rfl,by go_num,Minus1.step hblk hlen.out hlt hz.out hI.out hB hlt1 hs (by rw [hb0.out];exact hE.out)⟩
    case measure=>simp [intOf];omega
  ·obtain rfl : k = n:=by omega
   have HF:=Za (HS.out borrow wr hP);clear hP
   go_wp2
   go_ret;exact HF.out
def MutL (w : World) (g off : Nat) (l : List Nat) : Prop:=∀ i,i < l.length -> w.cell? ⟨g,off + i,none⟩ = some (limb (l[i]?.getD 0)) /\ w.frozen? ⟨g,off + i,none⟩ = false
theorem MutL.set_ {w : World} {g off : Nat} {l : List Nat} (h : MutL w g off l) {i : Nat} (hi : i < l.length) (x : Nat) : MutL (w.setCell ⟨g,off + i,none⟩ (limb x)) g off (l.set i x):=fun j hj=>by
 rw [List.length_set] at hj;refine ⟨?_,by rw [World.frozen?_setCell];exact (h j hj).2⟩
 by_cases hji : j = i
 ·subst hji
  rw [Zhs _ hi];exact World.cell?_setCell_same _ _ _ (h j hj).1
 ·rw [getD_set_ne _ (fun e=>hji e.symm),World.cell?_setCell_other _ _ _ _ (by intro e;injection e with e1 e2;omega)]
  exact (h j hj).1
theorem Zfi {w w' : World} {g o : Nat} {u : Value} (h : w.grownBy w' (some g)) : w.grownBy (w'.setCell ⟨g,o,none⟩ u) (some g):=
 ⟨h.os,h.tape,h.output,by simpa using h.size,fun k hk hne=>(Below.heap_setCell w' ⟨g,o,none⟩ u k (fun e=>hne (by rw [e]))).trans (h.block k hk hne)⟩
def SubP (w : World) (g off n q : Nat) (u v : List Nat) (i cy b : Nat) (wr : World) : Prop:=
 ∃ l,MutL wr g off l /\ l.length = n + 1 /\ Lt32 l /\ (∀ j,i <= j -> l[j]?.getD 0 = u[j]?.getD 0) /\ val (l.take i) + q * val (v.take i) = val (u.take i) + pw i * (cy + b) /\ w.grownBy wr (some g)
theorem Zng {c x y : Nat} (hc : c < 4294967296) (hx : x < 4294967296) (hy : y < 4294967296) :
    IntKind.u64.wrap ((c : Int) + IntKind.u64.wrap ((x : Int) * y)) = ((c + x * y : Nat) : Int):=by
 have h : x * y <= 4294967295 * 4294967295:=Nat.mul_le_mul (by omega) (by omega)
 have e : (x : Int) * y = ((x * y : Nat) : Int):=by simp
 rw [e]
 generalize x * y = t at *
 simp only [IntKind.wrap_u64];omega
theorem Zlk (g off n c d q : Nat) (B : Option Addr) (u v : List Nat) (w : World) (hu : MutL w g off u) (hul : u.length = n + 1) (hut : Lt32 u) (hnc : n + 1 <= c) (hcm : c <= maxLen) (hn9 : n <= 1000000000)
    (hv : Lim w B n d v) (hB : ∀ b o,B = some ⟨b,o,none⟩ -> b ≠ g) (hq : q < 4294967296) :
    Calls Tryz.prog 224 #[.slice (some ⟨g,off,none⟩) (n + 1) c,.slice B n d,.int .u32 q] w fun e w'=>∃ b l,b <= 1 /\ e = .returned (.bool (decide (b = 0))) /\ MutL w' g off l /\ l.length = n + 1 /\ Lt32 l /\ val l + q * val v = val u + pw (n + 1) * b /\ w.grownBy w' (some g):=by
 unfold maxLen at hcm;have hnd:=hv.2.1;have hdm:=hv.2.2.1;unfold maxLen at hdm;have hvl:=Za hv.len;replace hul:=Za hul;go_enter Tryz.func224,Tryz.ntmps224
 go_wp2
 go_loopw [14,7,8] (fun iv cv bv wr=>∃ i cy b : Nat,i <= n /\ iv = .int .i64 i /\ cy < 4294967296 /\ cv = .int .u64 cy /\ b <= 1 /\ bv = limb b /\ SubP w g off n q u v i cy b wr) (fun iv _ _ _=>n - (intOf iv).toNat)
 case atStart=>exact ⟨0,0,0,Nat.zero_le _,rfl,by omega,rfl,Nat.zero_le _,rfl,u,hu,hul.out,hut,fun _ _=>rfl,by simp [val],World.grownBy.refl w _⟩
 case round =>
  obtain ⟨i,cy,b,hin,rfl,hcy,rfl,hb1,rfl,l,hl,hll,hlt,hsame,hI,hg⟩:=hrel;replace hll:=Za hll;replace hsame:=Za hsame;replace hI:=Za hI
  by_cases hi : i < n
  ·obtain ⟨bb,ob,rfl,hcb⟩:=hv.at_ hi
   have hbg:=hB bb ob rfl;have hcb':=(World.cell?_of_block (a:=⟨bb,ob + i,none⟩) (hg.block bb (Zs hcb) (fun e=>hbg (by injection e)))).trans hcb;have hx:=hv.lt.get i;have hy:=hut.get i;obtain ⟨hcu,hfu⟩:=hl i (by rw [hll.out];omega);rw [hsame.out i (Nat.le_refl _)] at hcu
   have hlen9 : i < l.length:=by rw [hll.out];omega
   go_wp2_with fail;rw [Zng hcy hq hx,Zi7]
   have htb : cy + q * v[i]?.getD 0 < 18446744073709551616:=by
    have h : q * v[i]?.getD 0 <= 4294967295 * 4294967295:=Nat.mul_le_mul (by omega) (by omega);omega
   obtain ⟨t,ht⟩ : ∃ t,cy + q * v[i]?.getD 0 = t:=⟨_,rfl⟩;rw [ht] at htb ⊢;replace ht:=Za ht;refine (Zft _ (t % 4294967296) _ _ hy (Nat.mod_lt _ (by decide)) hb1).mono ?_;rintro e w' ⟨dd,kk,rfl,hd,hk,he,rfl⟩;replace he:=Za he;go_wp2_with fail
   go_roundw
   case rel =>
    rw [Zjf];refine ⟨i + 1,_,kk,by omega,by go_num,by omega,rfl,hk,rfl,l.set i dd,hl.set_ hlen9 dd,by rw [List.length_set];exact hll.out,hlt.set i hd,fun j hj=>?_,?_,Zfi hg⟩
    ·rw [getD_set_ne _ (by omega)];exact hsame.out j (by omega)
    ·exact Zg9 hlen9 hI.out (lo:=t % 4294967296) (by rw [ht.out];omega) (by have:=he.out;omega)
   case measure=>simp [intOf];omega
  ·obtain rfl : i = n:=by omega
   have hy:=hut.get i;obtain ⟨hcu,hfu⟩:=hl i (by rw [hll.out];omega);rw [hsame.out i (Nat.le_refl _)] at hcu
   have hlen9 : i < l.length:=by rw [hll.out];omega
   have hcc : ((cy : Int)) % 4294967296 = (cy : Int):=by omega
   go_wp2_with fail;refine (Zft _ cy _ _ hy hcy hb1).mono ?_;rintro e w' ⟨dd,kk,rfl,hd,hk,he,rfl⟩
   have hfin : Hid (val (l.set i dd) + q * val v = val u + pw (i + 1) * kk):=by
    have h1:=Zg9 (v:=v) (q:=q) (lo:=cy) (c:=0) hlen9 hI.out (by rw [getD_none (by rw [hvl.out];exact Nat.le_refl _)];omega) he;rw [Zx (by rw [List.length_set,hll.out];exact Nat.le_refl _),Zx (by rw [hvl.out];omega),Zx (by rw [hul.out];exact Nat.le_refl _),Nat.zero_add] at h1;exact h1
   have hM:=hl.set_ hlen9 dd;have hL:=hlt.set i hd;have hG:=Zfi (o:=off + i) (u:=limb dd) hg
   have hlen2 : Hid ((l.set i dd).length = i + 1):=by unfold Hid;rw [List.length_set];exact hll.out
   replace he:=Za he;clear hl hlt
   rcases Nat.eq_zero_or_pos kk with rfl | h0
   ·go_wp2_with fail
    go_returns;exact ⟨0,_,by omega,rfl,hM,hlen2.out,hL,hfin.out,hG⟩
   ·obtain rfl : kk = 1:=by omega
    go_wp2_with fail;go_returns;exact ⟨1,_,by omega,rfl,hM,hlen2.out,hL,hfin.out,hG⟩
structure WE where
 neg : Bool
 A : Option Addr
 n : Nat
 c : Nat
 l : List Nat
def okW (neg : Bool) (l : List Nat) : Bool:=decide (l.length <= 4096) && decide (l.getLast? ≠ some 0) && !(l.isEmpty && neg)
def WE.ok (e : WE) : Bool:=okW e.neg e.l
theorem Zp4 {neg : Bool} {l : List Nat} (h : 4096 < l.length) : okW neg l = false:=by unfold okW;simp;omega
theorem Zg4 {l : List Nat} (h : 0 < l.length) : l.getLast? = some (l[l.length - 1]?.getD 0):=by
 rw [List.getLast?_eq_getElem?,List.getElem?_eq_getElem (by omega)];rfl
theorem Zn8 {neg : Bool} {l : List Nat} (h : 0 < l.length) (h' : l[l.length - 1]?.getD 0 = 0) : okW neg l = false:=by
 unfold okW;rw [Zg4 h,h'];simp
theorem Ztd {neg : Bool} {l : List Nat} (h : 0 < l.length) (h1 : l.length <= 4096) (h' : l[l.length - 1]?.getD 0 ≠ 0) : okW neg l = true:=by
 have hne : l.isEmpty = false:=by cases l <;> simp_all
 unfold okW;rw [Zg4 h]
 simp [h1,hne,h']
theorem Zle {neg : Bool} {l : List Nat} (h : l.length = 0) : okW neg l = !neg:=by
 have : l = []:=List.eq_nil_of_length_eq_zero h;subst this;simp [okW]
theorem Zgs {neg : Bool} {l : List Nat} (hl : Lt32 l) : okW neg l = true ↔ neg = decide (sg neg (val l) < 0) /\ l.length <= 4096 /\ l = digits (sg neg (val l)).natAbs:=by
 rw [Zw,Zji]
 constructor
 ·intro h
  unfold okW at h;simp only [Bool.and_eq_true,decide_eq_true_eq,Bool.not_eq_true',Bool.and_eq_false_imp] at h;obtain ⟨⟨h1,h2⟩,h3⟩:=h;have h4:=Zk8 hl h2;refine ⟨?_,h1,h4⟩
  cases neg with
  | false=>rfl
  | true =>
   have : l ≠ []:=fun e=>by subst e;simp at h3
   have : 0 < val l:=by
    rw [<- length_digits_pos,<- h4];exact List.length_pos_iff.2 this
   simp [this]
 ·rintro ⟨h1,h2,h3⟩
  unfold okW;simp only [Bool.and_eq_true,decide_eq_true_eq,Bool.not_eq_true',Bool.and_eq_false_imp];refine ⟨⟨h2,by rw [h3];exact Ze0 _⟩,fun h=>?_⟩
  have : l = []:=by simpa using h
  subst this;rw [h1];simp [val]
theorem Wd.ok {w : World} {neg : Bool} {A : Option Addr} {n c : Nat} {z : Int} (h : Wd w neg A n c z) : okW neg (digits z.natAbs) = true:=by
 rw [Zgs (Zb2 _),h.sgEq];exact ⟨h.1,by rw [h.2.2.len];exact h.2.1,rfl⟩
theorem Wd.of_ok {w : World} {neg : Bool} {A : Option Addr} {n c : Nat} {l : List Nat} (h : Lim w A n c l) (hk : okW neg l = true) : Wd w neg A n c (sg neg (val l)):=by
 obtain ⟨h1,h2,h3⟩:=(Zgs h.lt).1 hk;refine ⟨h1,by rw [<- h.len];exact h2,?_⟩;rw [<- h3];exact h
def WL (w : World) (A : Option Addr) (n c : Nat) (es : List WE) : Prop:=
 es.length = n /\ n <= c /\ c <= maxLen /\ (0 < n -> ∃ b o,A = some ⟨b,o,none⟩ /\ ∀ k e,es[k]? = some e -> w.cell? ⟨b,o + k * 2,none⟩ = some (.bool e.neg) /\ w.cell? ⟨b,o + k * 2 + 1,none⟩ = some (.slice e.A e.n e.c)) /\
  ∀ e ∈ es,Lim w e.A e.n e.c e.l
section
variable {w w' : World} {A : Option Addr} {n c : Nat} {es : List WE}
theorem WL.len (h : WL w A n c es) : es.length = n:=h.1
theorem WL.at_ (h : WL w A n c es) {k : Nat} (hk : k < n) : ∃ b o e,A = some ⟨b,o,none⟩ /\ es[k]? = some e /\ w.cell? ⟨b,o + k * 2,none⟩ = some (.bool e.neg) /\ w.cell? ⟨b,o + k * 2 + 1,none⟩ = some (.slice e.A e.n e.c) /\ Lim w e.A e.n e.c e.l:=by
 obtain ⟨b,o,e,hc⟩:=h.2.2.2.1 (by omega)
 have hl : k < es.length:=by rw [h.1];exact hk
 have:=hc k _ (List.getElem?_eq_getElem hl);exact ⟨b,o,es[k],e,List.getElem?_eq_getElem hl,this.1,this.2,h.2.2.2.2 _ (List.getElem_mem hl)⟩
theorem WL.keep (h : WL w A n c es) (hk : ∀ p : Addr,p.block < w.heap.size -> w'.cell? p = w.cell? p) : WL w' A n c es:=
 ⟨h.1,h.2.1,h.2.2.1,fun hn=>by
  obtain ⟨b,o,e,hc⟩:=h.2.2.2.1 hn;exact ⟨b,o,e,fun k e' he=>⟨(hk _ (Zs (hc k e' he).1)).trans (hc k e' he).1,(hk _ (Zs (hc k e' he).2)).trans (hc k e' he).2⟩⟩,
  fun e he=>(h.2.2.2.2 e he).keep hk⟩
theorem WL.below (h : WL w A n c es) (hb : Below w.heap.size w w') : WL w' A n c es:=h.keep fun _ hp=>hb.cell hp
end
theorem WL.one {w : World} {neg : Bool} {A : Option Addr} {n c : Nat} {l : List Nat} (h : Lim w A n c l) (t : TypeId) :
    WL (w.alloc (.cells #[.bool neg,.slice A n c] t)) (some ⟨w.heap.size,0,none⟩) 1 1 [⟨neg,A,n,c,l⟩]:=
 ⟨rfl,by omega,by unfold maxLen;omega,fun _=>⟨_,_,rfl,fun k e he=>by
  cases k with
  | zero =>
   simp at he;subst he
   have hb:=Blk.new w t #[.bool neg,.slice A n c];exact ⟨hb.cell 0,hb.cell 1⟩
  | succ k=>simp at he⟩,fun e he=>by simp at he;subst he;exact h.alloc _⟩
theorem WL.two {w : World} {neg neg' : Bool} {A A' : Option Addr} {n c n' c' : Nat} {l l' : List Nat} (h : Lim w A n c l) (h' : Lim w A' n' c' l') (t : TypeId) :
    WL (w.alloc (.cells #[.bool neg,.slice A n c,.bool neg',.slice A' n' c'] t)) (some ⟨w.heap.size,0,none⟩) 2 2 [⟨neg,A,n,c,l⟩,⟨neg',A',n',c',l'⟩]:=
 ⟨rfl,by omega,by unfold maxLen;omega,fun _=>⟨_,_,rfl,fun k e he=>by
  have hb:=Blk.new w t #[.bool neg,.slice A n c,.bool neg',.slice A' n' c']
  match k with
  | 0=>simp at he;subst he;exact ⟨hb.cell 0,hb.cell 1⟩
  | 1=>simp at he;subst he;exact ⟨hb.cell 2,hb.cell 3⟩
  | k + 2=>simp at he⟩,fun e he=>by
   simp at he
   rcases he with rfl | rfl
   ·exact h.alloc _
   ·exact h'.alloc _⟩
theorem Zb {W w1 : World} {g : Nat} {t : TypeId} {cs : Array Value} (hb : Below W.heap.size W w1) (h : Blk W g t cs) : Blk w1 g t cs:=h.below hb h.lt
def NoLimb (cs : Array Value) : Prop:=∀ (i x : Nat),cs[i]? ≠ some (limb x)
theorem NoLimb.box (b : Bool) (A : Option Addr) (n c : Nat) : NoLimb #[.bool b,.slice A n c]:=fun i x=>by
 match i with
 | 0=>simp
 | 1=>simp
 | i + 2=>simp
theorem Lim.set_box {w : World} {A : Option Addr} {n c : Nat} {l : List Nat} (h : Lim w A n c l) {g : Nat} {t : TypeId} {cs : Array Value} (hb : Blk w g t cs) (hcs : NoLimb cs) (i : Nat) (u : Value) : Lim (w.setCell ⟨g,i,none⟩ u) A n c l:=
 ⟨h.1,h.2.1,h.2.2.1,h.2.2.2.1,fun hn=>by
  obtain ⟨b,o,e,hc⟩:=h.2.2.2.2 hn;refine ⟨b,o,e,fun k hk=>(World.cell?_setCell_other w _ _ u ?_).trans (hc k hk)⟩;intro he
  have hbg : b = g:=by cases he;rfl
  have:=hc k hk;rw [hbg,hb.cell] at this
  exact hcs _ _ this⟩
theorem ResP.set_box {w : World} {z : Int} {neg : Bool} {A : Option Addr} {n c : Nat} {code : Int} (h : ResP w z neg A n c code) {g : Nat} {t : TypeId} {cs : Array Value} (hb : Blk w g t cs) (hcs : NoLimb cs) (i : Nat) (u : Value) : ResP (w.setCell ⟨g,i,none⟩ u) z neg A n c code:=by
 rcases h with ⟨h1,h2,h3⟩ | h
 ·exact .inl ⟨h1,h2,h3.1,h3.2.1,h3.2.2.set_box hb hcs i u⟩
 ·exact .inr h
theorem ResW.box {w w3 : World} {z : Int} {neg : Bool} {A : Option Addr} {n c : Nat} {code : Int} {g : Nat} {t : TypeId} {b0 : Bool} {A0 : Option Addr} {n0 c0 : Nat} (hP : ResP w3 z neg A n c code) (hB : Below w.heap.size w w3) (hg : w.heap.size <= g) (hb : Blk w3 g t #[.bool b0,.slice A0 n0 c0]) :
    ResW w z (.returned (.tuple #[.agg #[.bool neg,.slice A n c],.int .i64 code])) ((w3.setCell ⟨g,0,none⟩ (.bool neg)).setCell ⟨g,1,none⟩ (.slice A n c)):=by
 have hb1 : Blk (w3.setCell ⟨g,0,none⟩ (.bool neg)) g t #[.bool neg,.slice A0 n0 c0]:=hb.set_ 0 (.bool neg);exact ⟨(hB.setCell (p:=⟨g,0,none⟩) hg _).setCell (p:=⟨g,1,none⟩) hg _,_,_,_,_,_,rfl,(hP.set_box hb (NoLimb.box _ _ _ _) _ _).set_box hb1 (NoLimb.box _ _ _ _) _ _⟩
def Reads (w : World) (B size : Nat) (A : Option Addr) (n : Nat) (xs : List Value) : Prop:=
 xs.length = n * size /\ (0 < n -> ∃ ad,A = some ad /\ ad.block < B /\ ∀ j u,xs[j]? = some u -> w.cell? (ad.add j) = some u)
section
variable {w w' : World} {B B' size n : Nat} {A : Option Addr} {xs : List Value}
theorem Reads.keep (h : Reads w B size A n xs) (hk : ∀ p : Addr,p.block < B -> w'.cell? p = w.cell? p) : Reads w' B size A n xs:=
 ⟨h.1,fun hn=>by
  obtain ⟨ad,e,hb,hc⟩:=h.2 hn
  exact ⟨ad,e,hb,fun j u hu=>(hk _ (by rw [Zlm];exact hb)).trans (hc j u hu)⟩⟩
theorem Reads.alloc (h : Reads w B size A n xs) (hB : B <= w.heap.size) (o : Obj) : Reads (w.alloc o) B size A n xs:=h.keep fun p hp=>World.cell?_alloc_lt w o p (by omega)
end
section
variable {P : Program} (w : World)
theorem Zbx (base : Nat) (t ty e : TypeId) (i : TypeInfo) (size : Nat) (ht : P.underlying t = some (.slice e)) (hi : P.info? e = some i)
    (v : Value) (n : Nat) (xs : List Value) (hown : w.ownsRow base e size v n xs) (c : Nat) : (Builtin.append_ #[t,t] ty #[v,.slice none 0 c]).run P w = .ok v w:=by
 rcases hown.2 with ⟨rfl,rfl⟩ | ⟨g,cap,cur,rfl,_,_,hnc,_⟩
 ·simp [Builtin.append_,run_underlying ht,sizeOf,typeInfo,hi,Builtin.lenOf,Builtin.firstCells]
 ·simp [Builtin.append_,run_underlying ht,sizeOf,typeInfo,hi,Builtin.lenOf,Builtin.firstCells,hnc,storeCells]
theorem Zic (base : Nat) (t ty e : TypeId) (i : TypeInfo) (z : Value) (size bytes : Nat) (ht : P.underlying t = some (.slice e)) (hi : P.info? e = some i) (hz : i.zero = some z)
    (hsize : i.size = size) (hby : i.bytes = bytes) (hzs : z.cells.size = size) (hsz : 0 < size)
    (v : Value) (n : Nat) (xs : List Value) (hown : w.ownsRow base e size v n xs)
    (B : Nat) (A : Option Addr) (m c : Nat) (news : List Value) (hr : Reads w B size A m news) (h1 : ∀ u ∈ news,u.oneCell' = true)
    (h63 : n + m <= maxLen) (hbytes : (n + m) * bytes <= 140737488355328) (hbase : base <= w.heap.size) :
    ∃ v' w',(Builtin.append_ #[t,t] ty #[v,.slice A m c]).run P w = .ok v' w' /\ w'.ownsRow base e size v' (n + m) (xs ++ news) /\ w.grownBy w' v.ownBlock /\
     (v'.ownBlock = v.ownBlock \/ v'.ownBlock = some w.heap.size):=by
 rcases A with _ | ad
 ·have hm : m = 0:=by
    rcases Nat.eq_zero_or_pos m with h0 | h0
    ·exact h0
    ·obtain ⟨ad,h,_⟩:=hr.2 h0
     cases h
  subst hm;have hn : news = []:=List.eq_nil_of_length_eq_zero (by simpa using hr.1);subst hn;exact ⟨v,w,Zbx w base t ty e i size ht hi v n xs hown c,by simpa using hown,World.grownBy.refl w _,.inl rfl⟩
 ·have hcells : ∀ j u,news[j]? = some u -> w.cell? (ad.add j) = some u:=by
    intro j u hu
    rcases Nat.eq_zero_or_pos m with h0 | h0
    ·subst h0
     have hn : news = []:=List.eq_nil_of_length_eq_zero (by simpa using hr.1);subst hn
     simp at hu
    ·obtain ⟨ad',h,_,hc⟩:=hr.2 h0
     injection h with h
     subst h;exact hc j u hu
  obtain ⟨v',w',hrun,h2,h3,_,h5⟩:=run_append_own_at (P:=P) w base t ty e i z size bytes ht hi hz hsize hby hzs hsz v n xs hown ad m c news hr.1 hcells h1 h63 hbytes hbase;exact ⟨v',w',hrun,h2,h3,h5⟩
theorem Zf2 {o : Oper} {a : Act} {K : Act -> World -> Prop} {Q : Exit -> Act -> World -> Prop} (s x : Operand) (t : TypeId)
    (ho : o.op = .call { callee:=.builtin .append,args:=#[s,x],argTypes:=#[t,t] })
    (base : Nat) (e : TypeId) (i : TypeInfo) (z : Value) (size bytes : Nat) (ht : P.underlying t = some (.slice e)) (hi : P.info? e = some i) (hz : i.zero = some z)
    (hsize : i.size = size) (hby : i.bytes = bytes) (hzs : z.cells.size = size) (hsz : 0 < size)
    (v : Value) (n : Nat) (xs : List Value) (hs : a.eval s = v) (hown : w.ownsRow base e size v n xs)
    (B : Nat) (A : Option Addr) (m c : Nat) (news : List Value) (hx : a.eval x = .slice A m c) (hr : Reads w B size A m news) (h1 : ∀ u ∈ news,u.oneCell' = true)
    (h63 : n + m <= maxLen) (hbytes : (n + m) * bytes <= 140737488355328) (hbase : base <= w.heap.size)
    (h : ∀ v' w',w'.ownsRow base e size v' (n + m) (xs ++ news) -> w.grownBy w' v.ownBlock -> (v'.ownBlock = v.ownBlock \/ v'.ownBlock = some w.heap.size) -> K (a.put o.dst v') w') : o.wp P a w K Q:=by
 obtain ⟨v',w',hrun,h2,h3,h4⟩:=Zic (P:=P) w base t o.type e i z size bytes ht hi hz hsize hby hzs hsz v n xs hown B A m c news hr h1 h63 hbytes hbase;unfold Oper.wp execOp;simp only [ho,resolve,invoke,builtin,Sem.run_bind,Sem.run_pure,Result.andThen_ok,List.map_toArray,List.map_cons,List.map_nil,hs,hx,hrun];exact h v' w' h2 h3 h4
theorem Zo {ops : Array Oper} {rest : List Oper} {o : Oper} {a : Act} {Q : Exit -> Act -> World -> Prop} (hgd : o.guard = none) (s x : Operand) (t : TypeId)
    (ho : o.op = .call { callee:=.builtin .append,args:=#[s,x],argTypes:=#[t,t] })
    (base : Nat) (e : TypeId) (i : TypeInfo) (z : Value) (size bytes : Nat) (ht : P.underlying t = some (.slice e)) (hi : P.info? e = some i) (hz : i.zero = some z)
    (hsize : i.size = size) (hby : i.bytes = bytes) (hzs : z.cells.size = size) (hsz : 0 < size)
    (v : Value) (n : Nat) (xs : List Value) (hs : a.eval s = v) (hown : w.ownsRow base e size v n xs)
    (B : Nat) (A : Option Addr) (m c : Nat) (news : List Value) (hx : a.eval x = .slice A m c) (hr : Reads w B size A m news) (h1 : ∀ u ∈ news,u.oneCell' = true)
    (h63 : n + m <= maxLen) (hbytes : (n + m) * bytes <= 140737488355328) (hbase : base <= w.heap.size)
    (h : ∀ v' w',w'.ownsRow base e size v' (n + m) (xs ++ news) -> w.grownBy w' v.ownBlock -> (v'.ownBlock = v.ownBlock \/ v'.ownBlock = some w.heap.size) -> wpList P ops Q rest (a.put o.dst v') w') : wpList P ops Q (o :: rest) a w:=
 wpList_plain hgd fun _ hK=>Zf2 w s x t ho base e i z size bytes ht hi hz hsize hby hzs hsz v n xs hs hown B A m c news hx hr h1 h63 hbytes hbase fun v' w' h2 h3 h4=>hK _ _ (h v' w' h2 h3 h4)
end
theorem Lim.reads {w : World} {A : Option Addr} {n c : Nat} {l : List Nat} (h : Lim w A n c l) : Reads w w.heap.size 1 A n (l.map limb):=
 ⟨by simp [h.len],fun hn=>by
  obtain ⟨b,o,e,hc⟩:=h.2.2.2.2 hn;refine ⟨_,e,Zs (hc 0 hn),fun j u hu=>?_⟩;rw [Zg]
  have hj : j < n:=by
   rcases Nat.lt_or_ge j n with h' | h'
   ·exact h'
   ·rw [List.getElem?_eq_none (by simp [h.len];exact h')] at hu;cases hu
  rw [hc j hj];rw [List.getElem?_map,List.getElem?_eq_getElem (by rw [h.len];exact hj)] at hu;rw [List.getElem?_eq_getElem (by rw [h.len];exact hj)]
  simpa using hu⟩
def OwnL (t : TypeId) (w : World) (base : Nat) (v : Value) (l : List Nat) : Prop:=w.ownsRow base t 1 v l.length (l.map limb) /\ Lt32 l
theorem OwnL.nil (t : TypeId) (w : World) (base : Nat) : OwnL t w base (.slice none 0 0) []:=⟨World.ownsRow_nil _ _ _ _,Lt32.nil⟩
theorem OwnL.lim {t : TypeId} {w : World} {base : Nat} {v : Value} {l : List Nat} (h : OwnL t w base v l) : ∃ A c,v = .slice A l.length c /\ Lim w A l.length c l:=by
 obtain ⟨h1,h2⟩:=h
 rcases h1.2 with ⟨hv,h0⟩ | ⟨g,cap,cur,hv,_,hh,hnc,hcm,hcs,ht⟩
 ·have : l = []:=List.eq_nil_of_length_eq_zero h0
  subst this;exact ⟨none,0,hv,Lim.nil _ _ _ (Nat.zero_le _)⟩
 ·refine ⟨_,cap,hv,rfl,hnc,hcm,h2,fun _=>⟨g,0,rfl,fun k hk=>?_⟩⟩
  rw [Nat.zero_add,cell_of_row w g k cur t (0,0) hh]
  have h3 : (cur.toList.take (l.length * 1))[k]? = (l.map limb)[k]?:=by rw [ht]
  rw [List.getElem?_take,if_pos (by omega),List.getElem?_map,List.getElem?_eq_getElem hk] at h3;rw [List.getElem?_eq_getElem hk]
  simpa using h3
theorem OwnL.kept {t : TypeId} {w w' : World} {base : Nat} {v : Value} {l : List Nat} (h : OwnL t w base v l) (hb : Below w.heap.size w w') : OwnL t w' base v l:=by
 refine ⟨⟨h.1.1,?_⟩,h.2⟩
 rcases h.1.2 with h0 | ⟨g,cap,cur,hv,hg,hh,r⟩
 ·exact .inl h0
 ·exact .inr ⟨g,cap,cur,hv,hg,(hb.block g (Array.getElem?_eq_some_iff.1 hh).1).trans hh,r⟩
theorem OwnL.append {t : TypeId} {w' : World} {base : Nat} {v' : Value} {l m : List Nat} {n k : Nat} (hn : n = l.length) (hk : k = m.length) (h : w'.ownsRow base t 1 v' (n + k) (l.map limb ++ m.map limb)) (hl : Lt32 l) (hm : Lt32 m) : OwnL t w' base v' (l ++ m):=by
 subst hn hk;refine ⟨?_,hl.append hm⟩;rw [List.length_append,List.map_append];exact h
theorem OwnL.row_ge {t : TypeId} {w : World} {base : Nat} {v : Value} {l : List Nat} (h : OwnL t w base v l) : ∀ k,v.ownBlock = some k -> base <= k:=fun k hk=>(h.1.lt k hk).1
theorem Zcc (l : List Nat) : ∀ u ∈ l.map limb,u.oneCell' = true:=fun u hu=>by
 obtain ⟨x,_,rfl⟩:=List.mem_map.1 hu;rfl
theorem Zhi (w : World) (t : TypeId) (size : Nat) : (w.alloc (.cells #[] t)).ownsRow w.heap.size t size (.slice (some ⟨w.heap.size,0,none⟩) 0 0) 0 []:=by
 have:=World.ownsRow_lit (base:=w.heap.size) (e:=t) (size:=size) w #[] 0 (Nat.le_refl _) (Nat.zero_le _) (by simp)
 simpa using this
theorem OutL.of_append {t : TypeId} {w w1 wb : World} {v1 : Value} {m : List Nat} {k : Nat} {P : List Nat -> Prop} {row : Option Nat} (h : w1.ownsRow w.heap.size t 1 v1 (0 + k) ([] ++ m.map limb)) (hk : m.length = k) (hm : Lt32 m)
    (hB : Below w.heap.size w wb) (hg : wb.grownBy w1 row) (hr : ∀ j,row = some j -> w.heap.size <= j) (hP : P m) : OutL w P (.returned v1) w1:=by
 have h2 : OwnL t w1 w.heap.size v1 ([] ++ m):=OwnL.append (l:=[]) rfl hk.symm h Lt32.nil hm;rw [List.nil_append] at h2;obtain ⟨A,c,rfl,hL⟩:=h2.lim;exact ⟨A,_,c,m,rfl,hL,hP,hB.grown hg hB.size hr⟩
theorem Zh {B : Nat} {a w : World} (h : Below B a w) (n : Nat) : Below B a (w.drewN n):=⟨h.os,h.tape,h.output,h.size,h.block⟩
theorem Zar (w : World) (x : Value) (t : TypeId) : Reads (w.alloc (.cells #[x] t)) (w.heap.size + 1) 1 (some ⟨w.heap.size,0,none⟩) 1 [x]:=
 ⟨rfl,fun _=>⟨_,rfl,Nat.lt_succ_self _,fun j u hu=>by
  cases j with
  | zero =>
   simp at hu;subst hu
   exact (Blk.new w t #[x]).cell 0
  | succ j=>simp at hu⟩⟩
theorem OwnL.snoc {t : TypeId} {w' : World} {base : Nat} {v' : Value} {l : List Nat} {n : Nat} {X : Int} {s : Nat} (hn : n = l.length) (h : w'.ownsRow base t 1 v' (n + 1) (l.map limb ++ [.int .u32 X])) (hl : Lt32 l) (hX : X = s) (hs : s < 4294967296) : OwnL t w' base v' (l ++ [s]):=by
 subst hX;exact OwnL.append (m:=[s]) hn rfl h hl (Lt32.cons hs Lt32.nil)
theorem Zcd (l : List Nat) (x : Nat) : val (l ++ [x]) = val l + pw l.length * x:=by rw [Zek];simp [val]
theorem OutL.of_own {t : TypeId} {w w1 : World} {v1 : Value} {m : List Nat} {P : List Nat -> Prop} (h : OwnL t w1 w.heap.size v1 m) (hB : Below w.heap.size w w1) (hP : P m) : OutL w P (.returned v1) w1:=by
 obtain ⟨A,c,rfl,hL⟩:=h.lim;exact ⟨A,_,c,m,rfl,hL,hP,hB⟩
theorem OwnL.mut {t : TypeId} {w : World} {base : Nat} {v : Value} {l : List Nat} (h : OwnL t w base v l) (hn : 0 < l.length) : ∃ g cap,v = .slice (some ⟨g,0,none⟩) l.length cap /\ base <= g /\ g < w.heap.size /\ l.length <= cap /\ cap <= maxLen /\ MutL w g 0 l:=by
 rcases h.1.2 with ⟨hv,h0⟩ | ⟨g,cap,cur,hv,hg,hh,hnc,hcm,hcs,ht⟩
 ·omega
 ·refine ⟨g,cap,hv,hg,(Array.getElem?_eq_some_iff.1 hh).1,hnc,hcm,fun k hk=>⟨?_,?_⟩⟩
  ·rw [Nat.zero_add,cell_of_row w g k cur t (0,0) hh]
   have h3 : (cur.toList.take (l.length * 1))[k]? = (l.map limb)[k]?:=by rw [ht]
   rw [List.getElem?_take,if_pos (by omega),List.getElem?_map,List.getElem?_eq_getElem hk] at h3;rw [List.getElem?_eq_getElem hk]
   simpa using h3
  ·rw [Nat.zero_add]
   unfold World.frozen?;rw [hh]
   simp
def Zop (w : World) (l : List Nat) (e : Ending) (w' : World) : Prop:=
 ∃ v,e = .returned v /\ OwnL 147 w' w.heap.size v l /\ Below w.heap.size w w'
theorem Zkw (a : Addr) (n c : Nat) (l : List Nat) (w : World) (h : Reads w w.heap.size 1 (some a) n (l.map limb)) (hl : l.length = n) (hlt : Lt32 l) (hn9 : n <= 1000000000) (hnc : n <= c) (hcm : c <= maxLen) :
    Calls Tryz.prog 204 #[.slice (some a) n c] w (Zop w l):=by
 obtain ⟨i0,hi,hz0,hz1,hz2⟩:=info_parts Zbw;unfold maxLen at hcm;replace hl:=Za hl
 have hcmp : ∀ W,(binOp BinOp.eql 25 (.slice (some a) n c) (.slice none 0 0)).run Tryz.prog W = .ok (.bool false) W:=fun _=>by kernel_rfl
 go_enter Tryz.func204,Tryz.ntmps204;go_wp2_with (go_loud (at_builtin;refine Zo _ rfl (.tmp 5) (.tmp 6) 25 rfl w.heap.size 147 i0 _ 1 4 Tryz.underlying25 hi hz0 hz1 hz2 rfl (by omega) (.slice (some ⟨w.heap.size,0,none⟩) 0 0) 0 [] rfl (Zhi _ _ _) _ (some a) n c (l.map limb) rfl (by exact h.alloc (Nat.le_refl _) _) (Zcc _) (by simp only [maxLen];omega) (by omega) (by simp) ?_;intro v1 w1 hown1 hg1 hat1));go_ret;have h2 : OwnL 147 w1 w.heap.size v1 ([] ++ l):=OwnL.append (l:=[]) rfl hl.out.symm hown1 Lt32.nil hlt;exact ⟨v1,rfl,h2,((Below.refl _ _).alloc (Nat.le_refl _) _).grown hg1 (by simp) (fun j hj=>by simp [Value.ownBlock] at hj;omega)⟩
theorem Zpc (c : Nat) (w : World) : Calls Tryz.prog 204 #[.slice none 0 c] w (Zop w []):=by
 have hcmp : ∀ W,(binOp BinOp.eql 25 (.slice none 0 c) (.slice none 0 0)).run Tryz.prog W = .ok (.bool true) W:=fun _=>by kernel_rfl
 go_enter Tryz.func204,Tryz.ntmps204
 go_wp2
 go_ret;exact ⟨_,rfl,OwnL.nil _ _ _,Below.refl _ _⟩
theorem Zfq (A : Option Addr) (n c : Nat) (l : List Nat) (w : World) (h : Lim w A n c l) (hn9 : n <= 1000000000) :
    Calls Tryz.prog 204 #[.slice A n c] w (Zop w l):=by
 rcases A with _ | a
 ·have hn : n = 0:=by
    rcases Nat.eq_zero_or_pos n with h0 | h0
    ·exact h0
    ·obtain ⟨b,o,e,_⟩:=h.2.2.2.2 h0
     cases e
  subst hn;obtain rfl : l = []:=List.eq_nil_of_length_eq_zero h.len;exact Zpc c w
 ·exact Zkw a n c l w h.reads h.len h.lt hn9 h.2.1 h.2.2.1
theorem Zkz (x y d : Nat) (w : World) (hx : x < d) (hy : y < 4294967296) (hd : d < 4294967296) :
    Calls Tryz.prog 223 #[limb x,limb y,limb d] w fun e w'=>e = .returned (.tuple #[limb ((x * 4294967296 + y) / d),limb ((x * 4294967296 + y) % d)]) /\ w' = w.drew:=by
 have d1 : ((d : Int) == 0) = false:=by simp;omega
 have d2 : decide ((d : Int) <= (x : Int)) = false:=by simp;omega
 have d3 : (d : Int) ≠ 0:=by omega
 have d2' : decide (d <= x) = false:=by simp;omega
 obtain ⟨t,ht⟩ : ∃ t,x * 4294967296 + y = t:=⟨_,rfl⟩
 have hor : bits .or .u64 ((x : Int) * 4294967296) (y : Int) = (t : Int):=by
  have h1 : ((x : Int) * 4294967296) = ((4294967296 * x : Nat) : Int):=by omega
  rw [h1,u64_or_nat _ _ (by omega) (by omega)];have h2:=Nat.two_pow_add_eq_or_of_lt (i:=32) (b:=y) (by omega) x;rw [show (2 : Nat) ^ 32 = 4294967296 by rfl] at h2;rw [<- h2];omega
 have hq : t / d < 4294967296:=by rw [Nat.div_lt_iff_lt_mul (by omega)];have:=Nat.mul_le_mul_left 4294967296 (show x + 1 <= d by omega);omega
 have hr : t % d < d:=Nat.mod_lt _ (by omega)
 have htb : t < 18446744073709551616:=by omega
 rw [ht];replace ht:=Za ht;go_enter Tryz.func223,Tryz.ntmps223;go_wp2_with fail
 go_region
 have e1 : IntKind.u64.wrap ((t : Int) / (d : Int)) % 4294967296 = ((t / d : Nat) : Int):=by
  rw [show (t : Int) / (d : Int) = ((t / d : Nat) : Int) from rfl]
  generalize t / d = z at *
  simp only [IntKind.wrap_u64];omega
 go_wp2_with fail
 go_ret2
 exact ⟨Zgf e1 rfl,rfl⟩
theorem Zax {l : List Nat} {k : Nat} (h : k < l.length) : val (l.drop k) = l[k]?.getD 0 + 4294967296 * val (l.drop (k + 1)):=by
 rw [List.drop_eq_getElem_cons h,val,List.getElem?_eq_getElem h];rfl
theorem Zlp {U V q R : Nat} (h : R + q * V = U) (hR : R < V) : q = U / V /\ R = U % V:=by
 subst h
 have hV : 0 < V:=by omega
 constructor
 ·rw [Nat.add_mul_div_right _ _ hV,Nat.div_eq_of_lt hR,Nat.zero_add]
 ·rw [Nat.add_mul_mod_self_right,Nat.mod_eq_of_lt hR]
theorem Zk3 {U V q W : Nat} (hV : 0 < V) (h : W + q * V = U) (hq : U / V <= q) : q = U / V /\ W = U % V:=by
 have h1 : q <= U / V:=by rw [Nat.le_div_iff_mul_le hV];omega
 have h2 : q = U / V:=by omega
 refine ⟨h2,?_⟩;have h3:=Nat.div_add_mod U V;rw [<- h2,Nat.mul_comm V q] at h3;omega
theorem Ziz {U V q W M : Nat} (hV : 0 < V) (h : W + q * V = U + M) (hW : W < M) : U / V < q:=by
 rw [Nat.div_lt_iff_lt_mul hV];omega
theorem Zj8 {out l : List Nat} {k D r q r' : Nat} (ho : k < out.length) (hl : k < l.length) (hI : val (out.drop (k + 1)) * D + r = val (l.drop (k + 1))) (he : q * D + r' = r * 4294967296 + l[k]?.getD 0) :
    val ((out.set k q).drop k) * D + r' = val (l.drop k):=by
 rw [Zax (l:=out.set k q) (by rw [List.length_set];exact ho),Zhs _ ho,List.drop_set_of_lt (by omega),Zax hl,Nat.add_mul,<- hI,Nat.mul_add,Nat.mul_assoc];omega
theorem Ztb {r : List Nat} {i s : Nat} (hs : s <= 32) (hi : i < r.length) (hlt : Lt32 r) :
    val (r.drop i) / 2 ^ s = (r[i]?.getD 0 + 4294967296 * r[i + 1]?.getD 0) / 2 ^ s % 4294967296 + 4294967296 * (val (r.drop (i + 1)) / 2 ^ s):=by
 have hp : 0 < 2 ^ s:=Nat.pow_pos (by omega);have e1 : val (r.drop i) = r[i]?.getD 0 + 4294967296 * val (r.drop (i + 1)):=Zax hi
 obtain ⟨t,e2⟩ : ∃ t,val (r.drop (i + 1)) = r[i + 1]?.getD 0 + 4294967296 * t:=by
  rcases Nat.lt_or_ge (i + 1) r.length with h | h
  ·exact ⟨_,Zax h⟩
  ·exact ⟨0,by rw [List.drop_of_length_le h,getD_none h];rfl⟩
 have hx:=hlt.get i
 have hq : (4294967296 : Nat) = 2 ^ s * 2 ^ (32 - s):=by rw [<- Nat.pow_add,show s + (32 - s) = 32 by omega]
 have hb : 4294967296 * (val (r.drop (i + 1)) / 2 ^ s) = 4294967296 * (val (r.drop i) / 2 ^ s / 4294967296):=by
  congr 1
  rw [Nat.div_div_eq_div_mul,Nat.mul_comm (2 ^ s),<- Nat.div_div_eq_div_mul,e1]
  congr 1
  omega
 have ha : (r[i]?.getD 0 + 4294967296 * r[i + 1]?.getD 0) / 2 ^ s % 4294967296 = val (r.drop i) / 2 ^ s % 4294967296:=by
  rw [e1,e2]
  have : r[i]?.getD 0 + 4294967296 * (r[i + 1]?.getD 0 + 4294967296 * t) = (r[i]?.getD 0 + 4294967296 * r[i + 1]?.getD 0) + 2 ^ s * (2 ^ (32 - s) * t * 4294967296):=by
   have : 2 ^ s * (2 ^ (32 - s) * t * 4294967296) = (2 ^ s * 2 ^ (32 - s)) * t * 4294967296:=by grind
   rw [this,<- hq];omega
  rw [this,Nat.add_mul_div_left _ _ hp,Nat.add_mul_mod_self_right]
 rw [ha,hb];omega
def splice (u : List Nat) (k : Nat) (l : List Nat) : List Nat:=u.take k ++ l ++ u.drop (k + l.length)
theorem Zcy {u l : List Nat} {k : Nat} (h : k + l.length <= u.length) : (splice u k l).length = u.length:=by
 unfold splice;simp;omega
theorem Zrf {u l : List Nat} {k : Nat} (hu : Lt32 u) (hl : Lt32 l) : Lt32 (splice u k l):=((hu.take _).append hl).append (hu.drop _)
theorem Zj5 {u l : List Nat} {k i : Nat} (h : k + l.length <= u.length) (hi : i < l.length) : (splice u k l)[k + i]?.getD 0 = l[i]?.getD 0:=by
 unfold splice;rw [List.getElem?_append_left (by simp;omega),List.getElem?_append_right (by simp;omega),List.length_take,Nat.min_eq_left (by omega),show k + i - k = i by omega]
theorem Ziu {u l : List Nat} {k j : Nat} (h : k + l.length <= u.length) (hj : j < k \/ k + l.length <= j) : (splice u k l)[j]?.getD 0 = u[j]?.getD 0:=by
 unfold splice
 rcases hj with hj | hj
 ·rw [List.append_assoc,List.getElem?_append_left (by simp;omega),List.getElem?_take,if_pos hj]
 ·rw [List.getElem?_append_right (by simp;omega),List.getElem?_drop]
  congr 2
  simp;omega
def DivI (A V n : Nat) (u q : List Nat) (j : Nat) : Prop:=
 Lt32 u /\ Lt32 q /\ u.length = q.length + n /\ j <= q.length /\ val u + V * val q = A /\ val (u.drop j) < V /\ ∀ i,i < j -> q[i]?.getD 0 = 0
theorem DivI.win {A V n : Nat} {u q : List Nat} {k : Nat} (h : DivI A V n u q (k + 1)) (hV : V <= pw n) : val ((u.drop k).take (n + 1)) = val (u.drop k) /\ val (u.drop k) < 4294967296 * V:=by
 obtain ⟨h1,h2,h3,h4,h5,h6,h7⟩:=h;have e:=Zax (l:=u) (k:=k) (by omega);have hx:=h1.get k
 have hlt : val (u.drop k) < 4294967296 * V:=by omega
 refine ⟨?_,hlt⟩;have e2:=Z2 (u.drop k) (n + 1) (by simp;omega)
 rcases Nat.eq_zero_or_pos (val ((u.drop k).drop (n + 1))) with h0 | h0
 ·rw [h0] at e2;omega
 ·have:=Nat.mul_le_mul_left (pw (n + 1)) h0
  rw [Zai] at this e2;have:=Nat.mul_le_mul_left 4294967296 hV;omega
theorem DivI.step {A V n : Nat} {u q l : List Nat} {k Q : Nat} (h : DivI A V n u q (k + 1)) (hV : V <= pw n) (hll : l.length = n + 1) (hl : Lt32 l) (hQ : Q < 4294967296)
    (hq : Q = val ((u.drop k).take (n + 1)) / V) (hr : val l = val ((u.drop k).take (n + 1)) % V) : DivI A V n (splice u k l) (q.set k Q) k:=by
 obtain ⟨hw,hlt⟩:=h.win hV;obtain ⟨h1,h2,h3,h4,h5,h6,h7⟩:=h
 have hV0 : 0 < V:=by omega
 have hk : k + l.length <= u.length:=by omega
 have ed : (splice u k l).drop k = l ++ u.drop (k + l.length):=by
  unfold splice;rw [List.append_assoc,List.drop_append_of_le_length (by simp;omega),List.drop_of_length_le (by simp;omega),List.nil_append]
 have e0 : val (u.drop (k + l.length)) = 0:=by
  have e2:=Z2 (u.drop k) (n + 1) (by simp;omega);rw [hw,List.drop_drop,<- hll] at e2
  rcases Nat.eq_zero_or_pos (val (u.drop (k + l.length))) with h0 | h0
  ·exact h0
  ·have:=Nat.mul_le_mul_left (pw l.length) h0
   have:=Zdt l.length;omega
 have hvd : val ((splice u k l).drop k) = val l:=by rw [ed,Zek,e0];omega
 refine ⟨Zrf h1 hl,h2.set k hQ,by rw [Zcy hk,List.length_set];exact h3,by rw [List.length_set];omega,?_,by rw [hvd,hr];exact Nat.mod_lt _ hV0,fun i hi=>by rw [getD_set_ne _ (by omega)];exact h7 i (by omega)⟩;have e3:=Z2 (splice u k l) k (by rw [Zcy hk];omega);have e4:=Z2 u k (by omega)
 have e5 : (splice u k l).take k = u.take k:=by
  unfold splice;rw [List.append_assoc,List.take_append_of_le_length (by simp;omega),List.take_of_length_le (by simp;omega)]
 have e6:=Zfp (l:=q) (k:=k) (by omega) Q;rw [h7 k (by omega),Nat.mul_zero,Nat.add_zero] at e6;have e7:=Nat.div_add_mod (val ((u.drop k).take (n + 1))) V;rw [<- hq,<- hr,hw] at e7;rw [e3,e5,hvd,e6,Nat.mul_add];rw [e4,<- e7,Nat.mul_add] at h5
 have : V * (pw k * Q) = pw k * (V * Q):=by grind
 omega
theorem DivI.start {a b : List Nat} {u : List Nat} {s n : Nat} (hu : val u = 2 ^ s * val a) (hul : u.length = a.length + 1) (hult : Lt32 u) (hn : n <= a.length) (halt : Lt32 a) (hb : pw (n - 1) <= val b) (hn0 : 0 < n) :
    DivI (2 ^ s * val a) (2 ^ s * val b) n u (List.replicate (a.length + 1 - n) 0) (a.length + 1 - n):=by
 refine ⟨hult,Lt32.replicate _,by simp;omega,by simp,by rw [Zcv,hu];simp,?_,fun i _=>Zcq _ _⟩;have e1:=Z2 u (a.length + 1 - n) (by omega);have e2:=Zdw halt
 have e3 : pw a.length = pw (a.length + 1 - n) * pw (n - 1):=by rw [<- Zen];congr 1;omega
 have hp : 0 < 2 ^ s:=Nat.pow_pos (by omega);have e4 : 2 ^ s * val a < 2 ^ s * pw a.length:=Nat.mul_lt_mul_of_pos_left e2 hp;have e5 : 2 ^ s * pw (n - 1) <= 2 ^ s * val b:=Nat.mul_le_mul_left _ hb
 have e6 : pw (a.length + 1 - n) * val (u.drop (a.length + 1 - n)) < pw (a.length + 1 - n) * (2 ^ s * pw (n - 1)):=by
  have : pw (a.length + 1 - n) * (2 ^ s * pw (n - 1)) = 2 ^ s * pw a.length:=by rw [e3];grind
  omega
 have:=Nat.lt_of_mul_lt_mul_left e6;omega
theorem DivI.stop {a b : Nat} {u q : List Nat} {s n : Nat} (h : DivI (2 ^ s * a) (2 ^ s * b) n u q 0) : val q = a / b /\ val u = 2 ^ s * (a % b):=by
 obtain ⟨h1,h2,h3,h4,h5,h6,h7⟩:=h;rw [List.drop_zero] at h6;have hp : 0 < 2 ^ s:=Nat.pow_pos (by omega);obtain ⟨e1,e2⟩:=Zlp (U:=2 ^ s * a) (V:=2 ^ s * b) (q:=val q) (R:=val u) (by rw [Nat.mul_comm (val q)];exact h5) h6;rw [Nat.mul_div_mul_left _ _ hp] at e1;rw [Nat.mul_mod_mul_left] at e2;exact ⟨e1,e2⟩
theorem Zb4 {v : Nat} (h : 0 < (digits v).length) : (digits v)[(digits v).length - 1]?.getD 0 ≠ 0:=by
 intro h0;have h1:=Ze0 v;rw [List.getLast?_eq_getElem?] at h1;rw [List.getElem?_eq_getElem (by omega)] at h1 h0
 simp at h0
 rw [h0] at h1;exact h1 rfl
theorem Zma {v : List Nat} {n : Nat} (hn : v.length = n) (h0 : 0 < n) : v[n - 1]?.getD 0 * pw (n - 1) <= val v:=by
 have e:=Z2 v (n - 1) (by omega);rw [Zax (by omega)] at e;rw [Nat.mul_add] at e;rw [Nat.mul_comm];omega
theorem Zp7 {u : List Nat} {n : Nat} (hn : u.length = n + 1) (h0 : 0 < n) (hlt : Lt32 u) : val u < (u[n]?.getD 0 * 4294967296 + u[n - 1]?.getD 0 + 1) * pw (n - 1):=by
 have e:=Z2 u (n - 1) (by omega);rw [Zax (by omega),show n - 1 + 1 = n by omega,Zax (by omega),List.drop_of_length_le (by omega)] at e;have h1:=Zdw (hlt.take (n - 1));rw [List.length_take,Nat.min_eq_left (by omega)] at h1;rw [e];simp only [val]
 have : (u[n]?.getD 0 * 4294967296 + u[n - 1]?.getD 0 + 1) * pw (n - 1) = pw (n - 1) * (u[n - 1]?.getD 0 + 4294967296 * (u[n]?.getD 0 + 4294967296 * 0)) + pw (n - 1):=by grind
 omega
theorem top2_le {v : List Nat} {n : Nat} (hn : v.length = n) (h0 : 1 < n) : (v[n - 1]?.getD 0 * 4294967296 + v[n - 2]?.getD 0) * pw (n - 2) <= val v:=by
 have e:=Z2 v (n - 2) (by omega);rw [Zax (by omega),show n - 2 + 1 = n - 1 by omega,Zax (by omega)] at e
 have : (v[n - 1]?.getD 0 * 4294967296 + v[n - 2]?.getD 0) * pw (n - 2) <= pw (n - 2) * (v[n - 2]?.getD 0 + 4294967296 * (v[n - 1]?.getD 0 + 4294967296 * val (v.drop (n - 1 + 1)))):=by
  rw [Nat.mul_comm];exact Nat.mul_le_mul_left _ (by omega)
 omega
theorem top3_lt {u : List Nat} {n : Nat} (hn : u.length = n + 1) (h0 : 1 < n) (hlt : Lt32 u) : val u < ((u[n]?.getD 0 * 4294967296 + u[n - 1]?.getD 0) * 4294967296 + u[n - 2]?.getD 0 + 1) * pw (n - 2):=by
 have e:=Z2 u (n - 2) (by omega);rw [Zax (by omega),show n - 2 + 1 = n - 1 by omega,Zax (by omega),show n - 1 + 1 = n by omega,Zax (by omega),List.drop_of_length_le (by omega)] at e;have h1:=Zdw (hlt.take (n - 2));rw [List.length_take,Nat.min_eq_left (by omega)] at h1;rw [e];simp only [val]
 have : ((u[n]?.getD 0 * 4294967296 + u[n - 1]?.getD 0) * 4294967296 + u[n - 2]?.getD 0 + 1) * pw (n - 2) = pw (n - 2) * (u[n - 2]?.getD 0 + 4294967296 * (u[n - 1]?.getD 0 + 4294967296 * (u[n]?.getD 0 + 4294967296 * 0))) + pw (n - 2):=by grind
 omega
end Go.Proofs.YtaioanjcjijckaaGreat
